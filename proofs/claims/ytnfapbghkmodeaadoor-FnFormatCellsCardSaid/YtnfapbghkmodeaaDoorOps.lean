/-
  What is proved here: for each kind of operation of the translated code, what it does to a frame and to the world. No function of the program stands here.
-/
import Derived.Test.YtnfapbghkmodeaaDoorBase
import Derived.Deep.Quiet
namespace Go.Proofs.YtnfapbghkmodeaaDoor
set_option linter.unusedVariables false
set_option linter.unusedSimpArgs false
set_option linter.unnecessarySimpa false
open Go.RowKit

/-! ### What is asked of a type's row -/
def t1B (P : Program) (t : TypeId) : Bool :=
  (match P.underlying t with
   | some (.struct _) => false
   | some (.array _ _) => false
   | none => false
   | some _ => true) &&
  (match P.info? t with
   | some i => Nat.beq i.size 1
   | none => false)
class T1 (P : Program) (t : TypeId) : Prop where
  ok : t1B P t = true
def fieldsB (P : Program) : Nat → List Field → Bool
  | _, [] => true
  | i, f :: r => Nat.beq f.offset i && t1B P f.type && fieldsB P (i + 1) r
def tsB (P : Program) (t : TypeId) (k : Nat) : Bool :=
  (match P.underlying t with
   | some (.struct fs) => Nat.beq fs.toList.length k && fieldsB P 0 fs.toList
   | _ => false) &&
  (match P.info? t with
   | some i => Nat.beq i.size k
   | none => false)
class TS (P : Program) (t : TypeId) (k : outParam Nat) : Prop where
  ok : tsB P t k = true
class TSl (P : Program) (t : TypeId) (e k : outParam Nat) : Prop where
  und : P.underlying t = some (.slice e)
  size : (P.info? e).map (·.size) = some k
class TE (P : Program) (e : TypeId) (z : outParam Value) (k bytes : outParam Nat) : Prop where
  info : (P.info? e).map (fun i => (i.zero, i.size, i.bytes)) = some (some z, k, bytes)
  cells : z.cells.size = k
class TStr (P : Program) (t : TypeId) : Prop where
  und : P.underlying t = some .string
class TInt (P : Program) (t : TypeId) (k : outParam IntKind) : Prop where
  und : P.underlying t = some (.int k)
class TBool (P : Program) (t : TypeId) : Prop where
  und : P.underlying t = some .bool
class TArr (P : Program) (t : TypeId) (n e k : outParam Nat) : Prop where
  und : P.underlying t = some (.array n e)
  size : (P.info? e).map (·.size) = some k
  whole : (P.info? t).map (·.size) = some (n * k)
class TMap (P : Program) (t : TypeId) (k e : outParam Nat) : Prop where
  und : P.underlying t = some (.map k e)
def fnB (P : Program) (f : FuncId) : Bool :=
  match P.funcs[f]? with
  | some fn => fn.body.isSome && !(fn.name == "runtime.NumGoroutine")
  | none => false
class Fn0 (P : Program) (f : FuncId) : Prop where
  ok : fnB P f = true

section
variable {P : Program} {t : TypeId}
theorem T1.run_isAgg (h : T1 P t) (w : World) : (isAgg t).run P w = .ok false w := by
  have := h.ok
  unfold t1B at this
  simp only [Bool.and_eq_true] at this
  obtain ⟨h1, _⟩ := this
  cases hu : P.underlying t with
  | none => simp [hu] at h1
  | some d => cases d <;> simp [hu] at h1 <;> simp [isAgg, run_underlying hu]
theorem T1.run_sizeOf (h : T1 P t) (w : World) : (sizeOf t).run P w = .ok 1 w := by
  have := h.ok
  unfold t1B at this
  simp only [Bool.and_eq_true] at this
  obtain ⟨_, h2⟩ := this
  cases hi : P.info? t with
  | none => simp [hi] at h2
  | some i =>
    simp only [hi] at h2
    have := Nat.eq_of_beq_eq_true h2
    simp [sizeOf, typeInfo, hi, this]
theorem TS.und {k : Nat} (h : TS P t k) : ∃ fs, P.underlying t = some (.struct fs) ∧ fs.toList.length = k ∧ fieldsB P 0 fs.toList = true := by
  have := h.ok
  unfold tsB at this
  simp only [Bool.and_eq_true] at this
  obtain ⟨h1, _⟩ := this
  cases hu : P.underlying t with
  | none => simp [hu] at h1
  | some d =>
    cases d <;> simp only [hu] at h1 <;> first | (cases h1) | skip
    rename_i fs
    simp only [Bool.and_eq_true] at h1
    exact ⟨fs, rfl, Nat.eq_of_beq_eq_true h1.1, h1.2⟩
theorem TS.run_isAgg {k : Nat} (h : TS P t k) (w : World) : (isAgg t).run P w = .ok true w := by
  obtain ⟨fs, hu, _⟩ := h.und
  simp [isAgg, run_underlying hu]
theorem TS.run_sizeOf {k : Nat} (h : TS P t k) (w : World) : (sizeOf t).run P w = .ok k w := by
  have := h.ok
  unfold tsB at this
  simp only [Bool.and_eq_true] at this
  obtain ⟨_, h2⟩ := this
  cases hi : P.info? t with
  | none => simp [hi] at h2
  | some i =>
    simp only [hi] at h2
    have := Nat.eq_of_beq_eq_true h2
    simp [sizeOf, typeInfo, hi, this]
theorem fieldsB_at : ∀ (l : List Field) (i f : Nat) (x : Field), fieldsB P i l = true → l[f]? = some x → x.offset = i + f ∧ T1 P x.type
  | [], _, _, _, _, h => by simp at h
  | y :: r, i, f, x, hb, h => by
    simp only [fieldsB, Bool.and_eq_true] at hb
    cases f with
    | zero =>
      simp at h
      subst h
      exact ⟨Nat.eq_of_beq_eq_true hb.1.1, ⟨hb.1.2⟩⟩
    | succ f =>
      have := fieldsB_at r (i + 1) f x hb.2 (by simpa using h)
      exact ⟨by omega, this.2⟩
theorem TS.field {k f : Nat} (h : TS P t k) (hf : f < k) : ∃ fs x, P.underlying t = some (.struct fs) ∧ fs[f]? = some x ∧ x.offset = f ∧ T1 P x.type := by
  obtain ⟨fs, hu, hl, hb⟩ := h.und
  have hlt : f < fs.toList.length := by omega
  have hx : fs.toList[f]? = some (fs.toList[f]) := List.getElem?_eq_getElem hlt
  obtain ⟨h1, h2⟩ := fieldsB_at fs.toList 0 f _ hb hx
  exact ⟨fs, _, hu, by simpa using hx, by omega, h2⟩
theorem TSl.run_sizeOf {e k : Nat} (h : TSl P t e k) (w : World) : (sizeOf e).run P w = .ok k w := by
  have := h.size
  cases hi : P.info? e with
  | none => simp [hi] at this
  | some i => simp [hi] at this; simp [sizeOf, typeInfo, hi, this]
end

/-! ### Blocks and worlds -/
/-- Block b is just these cells, none of them frozen. -/
def Blk (w : World) (b : Nat) (cs : List Value) (t : TypeId) : Prop := w.heap[b]? = some (.cells cs.toArray t (0, 0))
/-- What was there before is as it was. -/
def Ext (w w' : World) : Prop := Below w.heap.size w w'
/-- Only block b has changed. -/
structure Only (b : Nat) (w w' : World) : Prop where
  os : w'.os = w.os
  tape : w'.tape = w.tape
  output : w'.output = w.output
  size : w'.heap.size = w.heap.size
  block : ∀ k, k ≠ b → w'.heap[k]? = w.heap[k]?

section
variable {w w' w0 : World} {b : Nat} {cs : List Value} {t : TypeId}
theorem Ext.refl (w : World) : Ext w w := Below.refl _ _
theorem Ext.trans {a b c : World} (h : Ext a b) (k : Ext b c) : Ext a c := Below.trans h (Below.mono k h.size)
theorem Ext.size_le (h : Ext w w') : w.heap.size ≤ w'.heap.size := h.size
theorem Ext.only (h : Ext w0 w) (k : Only b w w') (hb : w0.heap.size ≤ b) : Ext w0 w' :=
  ⟨k.os.trans h.os, k.tape.trans h.tape, k.output.trans h.output, by rw [k.size]; exact h.size, fun i hi => (k.block i (by omega)).trans (h.block i hi)⟩
theorem Ext.drew (h : Ext w0 w) : Ext w0 w.drew := Below.drew h
theorem Blk.lt (h : Blk w b cs t) : b < w.heap.size := by
  unfold Blk at h
  exact (Array.getElem?_eq_some_iff.1 h).1
theorem Blk.ext (h : Blk w b cs t) (he : Ext w w') : Blk w' b cs t := (he.block b h.lt).trans h
theorem Blk.only {c : Nat} (h : Blk w b cs t) (k : Only c w w') (hne : b ≠ c) : Blk w' b cs t := (k.block b hne).trans h
theorem Blk.cell {o : Nat} {v : Value} (h : Blk w b cs t) (hv : cs[o]? = some v) : w.cell? ⟨b, o, none⟩ = some v := by
  unfold Blk at h
  simp [World.cell?, h, hv]
theorem cell_ext {a : Addr} {v : Value} (h : w.cell? a = some v) (he : Ext w w') : w'.cell? a = some v :=
  (he.cell (World.block_lt_of_cell? w a h)).trans h
theorem cell_only {a : Addr} {v : Value} (h : w.cell? a = some v) (k : Only b w w') (hne : a.block ≠ b) : w'.cell? a = some v :=
  (World.cell?_of_block (k.block a.block hne)).trans h
theorem Blk.setCell {o : Nat} (h : Blk w b cs t) (v : Value) : Blk (w.setCell ⟨b, o, none⟩ v) b (cs.set o v) t := by
  unfold Blk at h ⊢
  simp [World.setCell, Array.getElem?_modify, h]
theorem only_setCell (w : World) (b o : Nat) (v : Value) : Only b w (w.setCell ⟨b, o, none⟩ v) :=
  ⟨rfl, rfl, rfl, by simp [World.setCell], fun k hk => Below.heap_setCell w _ v k hk⟩
theorem only_setRow (w : World) (b : Nat) (cs : Array Value) : Only b w (w.setRow b cs) :=
  ⟨rfl, rfl, rfl, by simp [World.setRow], fun k hk => setRow_other w b k cs hk⟩
theorem ext_alloc (w : World) (o : Obj) : Ext w (w.alloc o) := Below.alloc (Below.refl _ _) (Nat.le_refl _) o
theorem Blk.alloc (w : World) (cs : Array Value) (t : TypeId) : Blk (w.alloc (.cells cs t)) w.heap.size cs.toList t := by
  unfold Blk
  rw [heap_alloc_new]
end

theorem add_some (b o n : Nat) : (⟨b, o, none⟩ : Addr).add n = ⟨b, o + n, none⟩ := by
  unfold Addr.add
  split
  · subst_vars; rfl
  · rfl

/-! ### Operations that only compute -/
def kEq (k k' : IntKind) (v : Value) : Option Value :=
  match k, k' with
  | .i64, .i64 => some v
  | .u8, .u8 => some v
  | .i32, .i32 => some v
  | .u64, .u64 => some v
  | _, _ => none
theorem kEq_some {k k' : IntKind} {v u : Value} (h : kEq k k' v = some u) : k = k' ∧ v = u := by
  cases k <;> cases k' <;> simp [kEq] at h <;> exact ⟨rfl, h⟩

def simp1 (σ : Env) : Op → Option Value
  | .move x => ev σ x
  | .assign x => ev σ x
  | .nilCheck x => match ev σ x with
    | some (.pointer (some a)) => some (.pointer (some a))
    | some (.func (.func f) y z) => some (.func (.func f) y z)
    | _ => none
  | .unOp .not _ x => match ev σ x with
    | some (.bool b) => some (.bool (!b))
    | _ => none
  | .extract x k => match ev σ x with
    | some (.tuple vs) => vs[k]?
    | _ => none
  | .binOp op _ x y _ => match ev σ x, ev σ y with
    | some (.int k a), some (.int k' b) => match op with
      | .eql => kEq k k' (.bool (a == b))
      | .neq => kEq k k' (.bool (a != b))
      | .lss => kEq k k' (.bool (decide (a < b)))
      | .leq => kEq k k' (.bool (decide (a ≤ b)))
      | .gtr => kEq k k' (.bool (decide (a > b)))
      | .geq => kEq k k' (.bool (decide (a ≥ b)))
      | _ => none
    | some (.string a), some (.string b) => match op with
      | .eql => some (.bool (a.toList == b.toList))
      | .neq => some (.bool (!(a.toList == b.toList)))
      | _ => none
    | _, _ => none
  | _ => none

section
variable {P : Program} {n : Nat} {ops : Array Oper} {Q : Exit → Act → World → Prop} {rest : List Oper} {σ : Env} {w w' : World} {v u : Value}
variable {d : Nat} {ty : TypeId} {pos : String} {af : Array Edge} {x y : Operand}

/-- In every world that extends w the operation yields v and changes nothing. -/
structure DoesQ (P : Program) (o : Oper) (σ : Env) (w : World) (v : Value) : Prop where
  run : ∀ w', Ext w w' → Does P o σ w' v w'
theorem WO.pure {o : Oper} (hg : o.guard = none) (hd : DoesQ P o σ w v) (k : WO P n ops Q rest (putE o.dst v σ) w) : WO P n ops Q (o :: rest) σ w := WO.value hg (hd.run w (Ext.refl w)) k
theorem does_simp1 {op : Op} {g : Option (Nat × Bool)} {dst : Option Nat} (h : simp1 σ op = some v) : Does P ⟨dst, op, ty, pos, af, g⟩ σ w v w := by
  refine ⟨fun m a hf => ?_⟩
  have e : ∀ {z : Operand} {s : Value}, ev σ z = some s → a.eval z = s := fun hz => fits_ev hf hz
  cases op <;> simp only [simp1] at h <;> try (cases h)
  case move z => simp [execOp, e h]
  case assign z => simp [execOp, e h]
  case nilCheck z =>
    split at h
    · rename_i b hz; cases h; simp [execOp, e hz]
    · rename_i f p q hz; cases h; simp [execOp, e hz]
    · cases h
  case unOp op t z =>
    cases op <;> simp only [simp1] at h <;> try (cases h)
    split at h
    · rename_i b hz; cases h; simp [execOp, e hz, Op.unary]
    · cases h
  case extract z k =>
    split at h
    · rename_i vs hz; simp [execOp, e hz, Instr.extract, h]
    · cases h
  case binOp op t p q t' =>
    split at h
    · rename_i k a' k' b' hp hq
      have ep := e hp
      have eq := e hq
      cases op <;> simp only at h <;> try (cases h)
      all_goals
        obtain ⟨rfl, rfl⟩ := kEq_some h
        simp [execOp, ep, eq, binOp, eqGuard, Op.intCmp]
    · rename_i a' b' hp hq
      have ep := e hp
      have eq := e hq
      cases op <;> simp only at h <;> try (cases h)
      all_goals simp [execOp, ep, eq, binOp, eqGuard, Op.stringOp]
    · cases h

theorem Z56 {op : Op} {g : Option (Nat × Bool)} (h : simp1 σ op = some v) : DoesQ P ⟨some d, op, ty, pos, af, g⟩ σ w v := ⟨fun _ _ => does_simp1 h⟩
theorem Z14 {g : Option (Nat × Bool)} {c p q : Operand} {b : Bool} (hc : ev σ c = some (.bool b)) (hb : b = true) (hv : ev σ p = some v) : DoesQ P ⟨some d, .pick c p q, ty, pos, af, g⟩ σ w v := ⟨fun w2 he => ⟨fun m a hf => by
  subst hb
  simp [execOp, fits_ev hf hc, fits_ev hf hv, asBool]⟩⟩
theorem Z15 {g : Option (Nat × Bool)} {c p q : Operand} {b : Bool} (hc : ev σ c = some (.bool b)) (hb : b = false) (hv : ev σ q = some v) : DoesQ P ⟨some d, .pick c p q, ty, pos, af, g⟩ σ w v := ⟨fun w2 he => ⟨fun m a hf => by
  subst hb
  simp [execOp, fits_ev hf hc, fits_ev hf hv, asBool]⟩⟩
theorem Z1 {op : Op} (h : simp1 σ op = some v) (k : WO P n ops Q rest ((d, v) :: σ) w) : WO P n ops Q (⟨some d, op, ty, pos, af, none⟩ :: rest) σ w :=
  WO.value rfl (does_simp1 h) k

/-! ### Integer arithmetic -/
theorem Z53 {a : Int} (h : -9223372036854775808 ≤ a ∧ a ≤ 9223372036854775807) : IntKind.i64.wrap a = a := by
  rw [IntKind.wrap_i64]; omega
theorem Z75 {g : Option (Nat × Bool)} {t t' : TypeId} {a b : Int} (hx : ev σ x = some (.int .i64 a)) (hy : ev σ y = some (.int .i64 b)) (hr : -9223372036854775808 ≤ a + b ∧ a + b ≤ 9223372036854775807) : DoesQ P ⟨some d, .binOp .add t x y t', ty, pos, af, g⟩ σ w (.int .i64 (a + b)) := ⟨fun w2 he => ⟨fun m c hf => by simp [execOp, fits_ev hf hx, fits_ev hf hy, binOp, eqGuard, Op.intArith, Z53 hr]⟩⟩
theorem Z20 {t t' : TypeId} {a b : Int} (hx : ev σ x = some (.int .i64 a)) (hy : ev σ y = some (.int .i64 b)) (hr : -9223372036854775808 ≤ a + b ∧ a + b ≤ 9223372036854775807)
    (k : WO P n ops Q rest ((d, .int .i64 (a + b)) :: σ) w) : WO P n ops Q (⟨some d, .binOp .add t x y t', ty, pos, af, none⟩ :: rest) σ w := WO.pure rfl (Z75 hx hy hr) k
theorem Z76 {g : Option (Nat × Bool)} {t t' : TypeId} {a b : Int} (hx : ev σ x = some (.int .i64 a)) (hy : ev σ y = some (.int .i64 b)) (hr : -9223372036854775808 ≤ a - b ∧ a - b ≤ 9223372036854775807) : DoesQ P ⟨some d, .binOp .sub t x y t', ty, pos, af, g⟩ σ w (.int .i64 (a - b)) := ⟨fun w2 he => ⟨fun m c hf => by simp [execOp, fits_ev hf hx, fits_ev hf hy, binOp, eqGuard, Op.intArith, Z53 hr]⟩⟩
theorem Z21 {t t' : TypeId} {a b : Int} (hx : ev σ x = some (.int .i64 a)) (hy : ev σ y = some (.int .i64 b)) (hr : -9223372036854775808 ≤ a - b ∧ a - b ≤ 9223372036854775807)
    (k : WO P n ops Q rest ((d, .int .i64 (a - b)) :: σ) w) : WO P n ops Q (⟨some d, .binOp .sub t x y t', ty, pos, af, none⟩ :: rest) σ w := WO.pure rfl (Z76 hx hy hr) k
theorem Z77 {g : Option (Nat × Bool)} {t t' : TypeId} {a b : Int} (hx : ev σ x = some (.int .i64 a)) (hy : ev σ y = some (.int .i64 b)) (hr : -9223372036854775808 ≤ a * b ∧ a * b ≤ 9223372036854775807) : DoesQ P ⟨some d, .binOp .mul t x y t', ty, pos, af, g⟩ σ w (.int .i64 (a * b)) := ⟨fun w2 he => ⟨fun m c hf => by simp [execOp, fits_ev hf hx, fits_ev hf hy, binOp, eqGuard, Op.intArith, Z53 hr]⟩⟩
theorem Z22 {t t' : TypeId} {a b : Int} (hx : ev σ x = some (.int .i64 a)) (hy : ev σ y = some (.int .i64 b)) (hr : -9223372036854775808 ≤ a * b ∧ a * b ≤ 9223372036854775807)
    (k : WO P n ops Q rest ((d, .int .i64 (a * b)) :: σ) w) : WO P n ops Q (⟨some d, .binOp .mul t x y t', ty, pos, af, none⟩ :: rest) σ w := WO.pure rfl (Z77 hx hy hr) k
/-- Division and remainder of what is not negative by what is positive. -/
theorem Z79 {g : Option (Nat × Bool)} {t t' : TypeId} {a b : Int} (hx : ev σ x = some (.int .i64 a)) (hy : ev σ y = some (.int .i64 b)) (h0 : 0 ≤ a) (h1 : 0 < b) (h2 : a ≤ 9223372036854775807) : DoesQ P ⟨some d, .binOp .quo t x y t', ty, pos, af, g⟩ σ w (.int .i64 (a / b)) := ⟨fun w2 he => ⟨fun m c hf => by
    have hb : b ≠ 0 := by omega
    have hq : a.tdiv b = a / b := Int.tdiv_eq_ediv_of_nonneg h0
    have h3 : 0 ≤ a / b := Int.ediv_nonneg h0 (by omega)
    have h4 : a / b ≤ a := Int.ediv_le_self b h0
    simp [execOp, fits_ev hf hx, fits_ev hf hy, binOp, eqGuard, Op.intDiv, hb, hq, Z53 (a := a / b) ⟨by omega, by omega⟩]⟩⟩
theorem Z24 {t t' : TypeId} {a b : Int} (hx : ev σ x = some (.int .i64 a)) (hy : ev σ y = some (.int .i64 b)) (h0 : 0 ≤ a) (h1 : 0 < b) (h2 : a ≤ 9223372036854775807)
    (k : WO P n ops Q rest ((d, .int .i64 (a / b)) :: σ) w) : WO P n ops Q (⟨some d, .binOp .quo t x y t', ty, pos, af, none⟩ :: rest) σ w := WO.pure rfl (Z79 hx hy h0 h1 h2) k
theorem Z78 {g : Option (Nat × Bool)} {t t' : TypeId} {a b : Int} (hx : ev σ x = some (.int .i64 a)) (hy : ev σ y = some (.int .i64 b)) (h0 : 0 ≤ a) (h1 : 0 < b) : DoesQ P ⟨some d, .binOp .rem t x y t', ty, pos, af, g⟩ σ w (.int .i64 (a % b)) := ⟨fun w2 he => ⟨fun m c hf => by
    have hb : b ≠ 0 := by omega
    have hq : a.tmod b = a % b := Int.tmod_eq_emod_of_nonneg h0
    simp [execOp, fits_ev hf hx, fits_ev hf hy, binOp, eqGuard, Op.intDiv, hb, hq]⟩⟩
theorem Z23 {t t' : TypeId} {a b : Int} (hx : ev σ x = some (.int .i64 a)) (hy : ev σ y = some (.int .i64 b)) (h0 : 0 ≤ a) (h1 : 0 < b)
    (k : WO P n ops Q rest ((d, .int .i64 (a % b)) :: σ) w) : WO P n ops Q (⟨some d, .binOp .rem t x y t', ty, pos, af, none⟩ :: rest) σ w := WO.pure rfl (Z78 hx hy h0 h1) k

/-! ### Memory -/
theorem Z67 {g : Option (Nat × Bool)} {t : TypeId} [T1 P t] {b o : Nat} (hx : ev σ x = some (.pointer (some ⟨b, o, none⟩))) (hc : w.cell? ⟨b, o, none⟩ = some v) : DoesQ P ⟨some d, .load t x, ty, pos, af, g⟩ σ w (v) := ⟨fun w2 he => ⟨fun m c hf => by
    simp [execOp, fits_ev hf hx, Instr.loadAt, Instr.sureAddr, loadVar, T1.run_isAgg (t := t) inferInstance, cell_ext hc he]⟩⟩
theorem Z11 {t : TypeId} [T1 P t] {b o : Nat} (hx : ev σ x = some (.pointer (some ⟨b, o, none⟩))) (hc : w.cell? ⟨b, o, none⟩ = some v)
    (k : WO P n ops Q rest ((d, v) :: σ) w) : WO P n ops Q (⟨some d, .load t x, ty, pos, af, none⟩ :: rest) σ w := WO.pure rfl (Z67 hx hc) k
theorem Z10 {t : TypeId} [T1 P t] {b o : Nat} {cs : List Value} {t' : TypeId} (hx : ev σ x = some (.pointer (some ⟨b, o, none⟩))) (hb : Blk w b cs t') (hv : cs[o]? = some v)
    (k : WO P n ops Q rest ((d, v) :: σ) w) : WO P n ops Q (⟨some d, .load t x, ty, pos, af, none⟩ :: rest) σ w :=
  Z11 hx (hb.cell hv) k
theorem run_loadVar_cells {t : TypeId} {k : Nat} [TS P t k] {b o : Nat} {cs : List Value} (hl : cs.length = k) (hc : ∀ j u, cs[j]? = some u → w.cell? ⟨b, o + j, none⟩ = some u) :
    (loadVar t ⟨b, o, none⟩).run P w = .ok (.agg cs.toArray) w := by
  have h := run_loadCells_list (P := P) w ⟨b, o, none⟩ cs (fun j u hu => by rw [add_some]; exact hc j u hu)
  simp [loadVar, TS.run_isAgg (t := t) inferInstance, TS.run_sizeOf (t := t) (k := k) inferInstance, ← hl, h]
theorem q_loadS {g : Option (Nat × Bool)} {t : TypeId} {k : Nat} [TS P t k] {b o : Nat} {cs : List Value} (hx : ev σ x = some (.pointer (some ⟨b, o, none⟩))) (hl : cs.length = k)     (hc : ∀ j u, cs[j]? = some u → w.cell? ⟨b, o + j, none⟩ = some u) : DoesQ P ⟨some d, .load t x, ty, pos, af, g⟩ σ w (.agg cs.toArray) := ⟨fun w2 he => ⟨fun m c hf => by
    simp [execOp, fits_ev hf hx, Instr.loadAt, Instr.sureAddr, run_loadVar_cells (P := P) (t := t) (w := w2) hl (fun j u hu => cell_ext (hc j u hu) he)]⟩⟩
theorem WO_loadS {t : TypeId} {k : Nat} [TS P t k] {b o : Nat} {cs : List Value} (hx : ev σ x = some (.pointer (some ⟨b, o, none⟩))) (hl : cs.length = k)
    (hc : ∀ j u, cs[j]? = some u → w.cell? ⟨b, o + j, none⟩ = some u)
    (h : WO P n ops Q rest ((d, .agg cs.toArray) :: σ) w) : WO P n ops Q (⟨some d, .load t x, ty, pos, af, none⟩ :: rest) σ w := WO.pure rfl (q_loadS hx hl hc) h
theorem WO_loadSB {t : TypeId} {k : Nat} [TS P t k] {b : Nat} {cs : List Value} {t' : TypeId} (hx : ev σ x = some (.pointer (some ⟨b, 0, none⟩))) (hb : Blk w b cs t') (hl : cs.length = k)
    (h : WO P n ops Q rest ((d, .agg cs.toArray) :: σ) w) : WO P n ops Q (⟨some d, .load t x, ty, pos, af, none⟩ :: rest) σ w :=
  WO_loadS hx hl (fun j u hu => by rw [Nat.zero_add]; exact hb.cell hu) h

theorem run_store1 {b o : Nat} {cs : List Value} {t' : TypeId} (hb : Blk w b cs t') (ho : o < cs.length) (h1 : v.oneCell' = true) :
    (store ⟨b, o, none⟩ v).run P w = .ok () (w.setCell ⟨b, o, none⟩ v) := by
  have hc : w.cell? ⟨b, o, none⟩ = some cs[o] := hb.cell (List.getElem?_eq_getElem ho)
  have hz : w.frozen? ⟨b, o, none⟩ = false := by unfold Blk at hb; simp [World.frozen?, hb]
  rw [run_store P w _ _ _ h1]
  simp [hc, hz]
theorem cells_one {v : Value} (h1 : v.oneCell' = true) : v.cells = #[v] := by
  cases v <;> first | rfl | (simp [Value.oneCell'] at h1)
theorem WO_store1 {t : TypeId} [T1 P t] {b o : Nat} {cs : List Value} {t' : TypeId} (hx : ev σ x = some (.pointer (some ⟨b, o, none⟩))) (hy : ev σ y = some v) (h1 : v.oneCell' = true)
    (hb : Blk w b cs t') (ho : o < cs.length)
    (k : ∀ w', Blk w' b (cs.set o v) t' → Only b w w' → WO P n ops Q rest σ w') : WO P n ops Q (⟨none, .store t x y, ty, pos, af, none⟩ :: rest) σ w :=
  WO.unit rfl (w' := w.setCell ⟨b, o, none⟩ v) ⟨fun m c hf => by
    have hs := run_store1 (P := P) hb ho h1
    simp [execOp, fits_ev hf hx, fits_ev hf hy, Instr.storeAt, Instr.sureAddr, storeVar, T1.run_sizeOf (t := t) inferInstance, cells_one h1, storeCells, add_some, hs]⟩ rfl
    (k _ (hb.setCell v) (only_setCell w b o v))
/-- A struct is stored into a row of cells. -/
theorem WO_storeS {t : TypeId} {k : Nat} [TS P t k] {b o : Nat} {cs vs : List Value} {t' : TypeId} (hx : ev σ x = some (.pointer (some ⟨b, o, none⟩))) (hy : ev σ y = some (.agg vs.toArray)) (hl : vs.length = k)
    (h1 : ∀ v ∈ vs, v.oneCell' = true) (hb : Blk w b cs t') (ho : o + k ≤ cs.length)
    (h : ∀ w', Blk w' b (cs.take o ++ vs ++ cs.drop (o + k)) t' → Only b w w' → WO P n ops Q rest σ w') : WO P n ops Q (⟨none, .store t x y, ty, pos, af, none⟩ :: rest) σ w :=
  WO.unit rfl (w' := w.setRow b (cs.take o ++ vs ++ cs.drop (o + k)).toArray) ⟨fun m c hf => by
    have hs := run_storeCells_at P b o t' vs 0 cs.toArray w hb (by simp; omega) h1
    simp only [Nat.add_zero, hl] at hs
    simp [execOp, fits_ev hf hx, fits_ev hf hy, Instr.storeAt, Instr.sureAddr, storeVar, TS.run_sizeOf (t := t) (k := k) inferInstance, Value.cells, hl, hs]⟩ rfl
    (h _ (by unfold Blk at hb ⊢; rw [setRow_heap w b _ _ _ _ hb]) (only_setRow w b _))
theorem WO_box {e : TypeId} (hx : ev σ x = some v)
    (k : ∀ w', Blk w' w.heap.size v.cells.toList e → Ext w w' → w'.heap.size = w.heap.size + 1 → WO P n ops Q rest ((d, .pointer (some ⟨w.heap.size, 0, none⟩)) :: σ) w') :
    WO P n ops Q (⟨some d, .box e x, ty, pos, af, none⟩ :: rest) σ w :=
  WO.value rfl (w' := w.alloc (.cells v.cells e)) ⟨fun m c hf => by
    simp [execOp, fits_ev hf hx, Instr.box, newVar, newRow]⟩ (k _ (Blk.alloc w v.cells e) (ext_alloc w _) (by simp))
theorem TE.run_zero {e : TypeId} {z : Value} {k bytes : Nat} (h : TE P e z k bytes) (w : World) : (zeroValue e).run P w = .ok z w := by
  have := h.info
  cases hi : P.info? e with
  | none => simp [hi] at this
  | some i => simp [hi] at this; simp [zeroValue, typeInfo, hi, this.1]
theorem WO_alloc {e : TypeId} {z : Value} {k bytes : Nat} [TE P e z k bytes]
    (h : ∀ w', Blk w' w.heap.size z.cells.toList e → Ext w w' → w'.heap.size = w.heap.size + 1 → WO P n ops Q rest ((d, .pointer (some ⟨w.heap.size, 0, none⟩)) :: σ) w') :
    WO P n ops Q (⟨some d, .alloc e, ty, pos, af, none⟩ :: rest) σ w :=
  WO.value rfl (w' := w.alloc (.cells z.cells e)) ⟨fun m c hf => by
    simp [execOp, Instr.alloc, TE.run_zero (e := e) (z := z) (k := k) (bytes := bytes) inferInstance, newVar, newRow]⟩ (h _ (Blk.alloc w z.cells e) (ext_alloc w _) (by simp))
theorem Z64 {g : Option (Nat × Bool)} {s : TypeId} {k f b o : Nat} [TS P s k] (hx : ev σ x = some (.pointer (some ⟨b, o, none⟩))) (hf : Nat.blt f k = true) : DoesQ P ⟨some d, .fieldAddr s x f, ty, pos, af, g⟩ σ w (.pointer (some ⟨b, o + f, none⟩)) := ⟨fun w2 he => ⟨fun m c hfi => by
    obtain ⟨fs, fx, hu, hfx, hoff, ht1⟩ := TS.field (P := P) (t := s) (k := k) (f := f) inferInstance (by simpa [Nat.blt_eq] using hf)
    simp [execOp, fits_ev hfi hx, Instr.fieldAt, run_underlying hu, hfx, Instr.sureAddr, fieldPlace, hoff, ht1.run_sizeOf, add_some]⟩⟩
theorem Z8 {s : TypeId} {k f b o : Nat} [TS P s k] (hx : ev σ x = some (.pointer (some ⟨b, o, none⟩))) (hf : Nat.blt f k = true)
    (h : WO P n ops Q rest ((d, .pointer (some ⟨b, o + f, none⟩)) :: σ) w) : WO P n ops Q (⟨some d, .fieldAddr s x f, ty, pos, af, none⟩ :: rest) σ w := WO.pure rfl (Z64 hx hf) h
theorem Z7 {s : TypeId} {k f b : Nat} [TS P s k] (hx : ev σ x = some (.pointer (some ⟨b, 0, none⟩))) (hf : Nat.blt f k = true)
    (h : WO P n ops Q rest ((d, .pointer (some ⟨b, f, none⟩)) :: σ) w) : WO P n ops Q (⟨some d, .fieldAddr s x f, ty, pos, af, none⟩ :: rest) σ w :=
  Z8 hx hf (by rw [Nat.zero_add]; exact h)
theorem Z69 {g : Option (Nat × Bool)} {t : TypeId} {e k b o len cap j : Nat} {i : Int} [TSl P t e k] (hx : ev σ x = some (.slice (some ⟨b, o, none⟩) len cap)) (hy : ev σ y = some (.int .i64 i)) (hj : i = (j : Int)) (hlt : j < len) : DoesQ P ⟨some d, .indexAddr t x y, ty, pos, af, g⟩ σ w (.pointer (some ⟨b, o + j * k, none⟩)) := ⟨fun w2 he => ⟨fun m c hf => by
    have h2 : (j : Int) < (len : Int) := by omega
    have h3 : ¬ len ≤ j := by omega
    simp [execOp, fits_ev hf hx, fits_ev hf hy, Instr.indexAt, asIntOf, run_underlying (TSl.und (P := P) (t := t) (e := e) (k := k)), hj, h2, h3, TSl.run_sizeOf (P := P) (t := t) (e := e) (k := k) inferInstance, add_some]⟩⟩
theorem Z83 {t : TypeId} {e k b o len cap j : Nat} {i : Int} [TSl P t e k] (hx : ev σ x = some (.slice (some ⟨b, o, none⟩) len cap)) (hy : ev σ y = some (.int .i64 i)) (hj : i = (j : Int)) (hlt : j < len)
    (h : WO P n ops Q rest ((d, .pointer (some ⟨b, o + j * k, none⟩)) :: σ) w) : WO P n ops Q (⟨some d, .indexAddr t x y, ty, pos, af, none⟩ :: rest) σ w := WO.pure rfl (Z69 hx hy hj hlt) h
theorem Z72 {g : Option (Nat × Bool)} {t : TypeId} {e k len cap : Nat} {A : Option Addr} [TSl P t e k] (hx : ev σ x = some (.slice A len cap)) : DoesQ P ⟨some d, .call ⟨.builtin .len, #[x], #[t]⟩, ty, pos, af, g⟩ σ w (.int .i64 (len : Int)) := ⟨fun w2 he => ⟨fun m c hf => by
    simp [execOp, resolve, invoke, builtin, fits_ev hf hx, Builtin.len_, run_underlying (TSl.und (P := P) (t := t) (e := e) (k := k)), goInt]⟩⟩
theorem Z17 {t : TypeId} {e k len cap : Nat} {A : Option Addr} [TSl P t e k] (hx : ev σ x = some (.slice A len cap))
    (h : WO P n ops Q rest ((d, .int .i64 (len : Int)) :: σ) w) : WO P n ops Q (⟨some d, .call ⟨.builtin .len, #[x], #[t]⟩, ty, pos, af, none⟩ :: rest) σ w := WO.pure rfl (Z72 hx) h
theorem Z73 {g : Option (Nat × Bool)} {t : TypeId} {s : ByteArray} [TStr P t] (hx : ev σ x = some (.string s)) : DoesQ P ⟨some d, .call ⟨.builtin .len, #[x], #[t]⟩, ty, pos, af, g⟩ σ w (.int .i64 (s.size : Int)) := ⟨fun w2 he => ⟨fun m c hf => by
    simp [execOp, resolve, invoke, builtin, fits_ev hf hx, Builtin.len_, run_underlying (TStr.und (P := P) (t := t)), goInt]⟩⟩
theorem Z18 {t : TypeId} {s : ByteArray} [TStr P t] (hx : ev σ x = some (.string s))
    (h : WO P n ops Q rest ((d, .int .i64 (s.size : Int)) :: σ) w) : WO P n ops Q (⟨some d, .call ⟨.builtin .len, #[x], #[t]⟩, ty, pos, af, none⟩ :: rest) σ w := WO.pure rfl (Z73 hx) h

theorem Z66 {g : Option (Nat × Bool)} {t : TypeId} [T1 P t] {b o : Nat} {cs : List Value} {t' : TypeId} (hx : ev σ x = some (.pointer (some ⟨b, o, none⟩))) (hb : Blk w b cs t') (hv : cs[o]? = some v) :
    DoesQ P ⟨some d, .load t x, ty, pos, af, g⟩ σ w v := Z67 hx (hb.cell hv)
theorem Z63 {g : Option (Nat × Bool)} {s : TypeId} {k f b : Nat} [TS P s k] (hx : ev σ x = some (.pointer (some ⟨b, 0, none⟩))) (hf : Nat.blt f k = true) :
    DoesQ P ⟨some d, .fieldAddr s x f, ty, pos, af, g⟩ σ w (.pointer (some ⟨b, f, none⟩)) := by
  have := Z64 (P := P) (w := w) (d := d) (ty := ty) (pos := pos) (af := af) (g := g) (s := s) hx hf
  rwa [Nat.zero_add] at this
/-- Conversion of an integer that fits. -/
theorem Z28 {g : Option (Nat × Bool)} {s t : TypeId} {k k' : IntKind} {a : Int} {ks : IntKind} [TInt P s ks] [TInt P t k] (hx : ev σ x = some (.int k' a)) (hr : k.wrap a = a) :
    DoesQ P ⟨some d, .convert s t x, ty, pos, af, g⟩ σ w (.int k a) := ⟨fun w2 he => ⟨fun m c hf => by
  simp [execOp, fits_ev hf hx, convert, run_underlying (TInt.und (P := P) (t := s) (k := ks)), run_underlying (TInt.und (P := P) (t := t) (k := k)), Conv.intToInt, hr]⟩⟩
theorem bits_and_nat (a b : Nat) (ha : a < 9223372036854775808) (hb : b < 9223372036854775808) : IntKind.i64.wrap ((BitVec.ofNat 64 a &&& BitVec.ofNat 64 b).toNat : Int) = ((a &&& b : Nat) : Int) := by
  have h1 : ∀ c : Nat, c < 9223372036854775808 → (BitVec.ofNat 64 c).toNat = c := fun c hc => by
    rw [BitVec.toNat_ofNat]; exact Nat.mod_eq_of_lt (by omega)
  have hx : a &&& b < 2 ^ 63 := Nat.and_lt_two_pow _ (by omega)
  rw [BitVec.toNat_and, h1 a ha, h1 b hb, IntKind.wrap_i64]
  omega
theorem bits_xor_nat (a b : Nat) (ha : a < 9223372036854775808) (hb : b < 9223372036854775808) : IntKind.i64.wrap ((BitVec.ofNat 64 a ^^^ BitVec.ofNat 64 b).toNat : Int) = ((a ^^^ b : Nat) : Int) := by
  have h1 : ∀ c : Nat, c < 9223372036854775808 → (BitVec.ofNat 64 c).toNat = c := fun c hc => by
    rw [BitVec.toNat_ofNat]; exact Nat.mod_eq_of_lt (by omega)
  have hx : a ^^^ b < 2 ^ 63 := Nat.xor_lt_two_pow (by omega) (by omega)
  rw [BitVec.toNat_xor, h1 a ha, h1 b hb, IntKind.wrap_i64]
  omega
theorem q_and {g : Option (Nat × Bool)} {t t' : TypeId} {a b : Nat} {i j : Int} (hx : ev σ x = some (.int .i64 i)) (hy : ev σ y = some (.int .i64 j)) (hi : i = (a : Int)) (hj : j = (b : Int)) (ha : a < 9223372036854775808) (hb : b < 9223372036854775808) :
    DoesQ P ⟨some d, .binOp .and t x y t', ty, pos, af, g⟩ σ w (.int .i64 ((a &&& b : Nat) : Int)) := ⟨fun w2 he => ⟨fun m c hf => by
  subst hi; subst hj
  simp only [execOp, fits_ev hf hx, fits_ev hf hy, binOp, eqGuard, Op.intBits]
  have := bits_and_nat a b ha hb
  simp [IntKind.bits]
  exact this⟩⟩
theorem q_xor {g : Option (Nat × Bool)} {t t' : TypeId} {a b : Nat} {i j : Int} (hx : ev σ x = some (.int .i64 i)) (hy : ev σ y = some (.int .i64 j)) (hi : i = (a : Int)) (hj : j = (b : Int)) (ha : a < 9223372036854775808) (hb : b < 9223372036854775808) :
    DoesQ P ⟨some d, .binOp .xor t x y t', ty, pos, af, g⟩ σ w (.int .i64 ((a ^^^ b : Nat) : Int)) := ⟨fun w2 he => ⟨fun m c hf => by
  subst hi; subst hj
  simp only [execOp, fits_ev hf hx, fits_ev hf hy, binOp, eqGuard, Op.intBits]
  have := bits_xor_nat a b ha hb
  simp [IntKind.bits]
  exact this⟩⟩
/-- Shifts by a number that is not negative and below 64. -/
theorem q_shr {g : Option (Nat × Bool)} {t t' : TypeId} {a i : Int} {m : Nat} (hx : ev σ x = some (.int .i64 a)) (hy : ev σ y = some (.int .i64 i)) (hm : i = (m : Int)) (hlt : m < 64) (ha : 0 ≤ a) :
    DoesQ P ⟨some d, .binOp .shr t x y t', ty, pos, af, g⟩ σ w (.int .i64 (a / 2 ^ m)) := ⟨fun w2 he => ⟨fun m' c hf => by
  subst hm
  have h0 : ¬ ((m : Int) < 0) := by omega
  have h1 : min m 64 = m := by omega
  have h2 : a.fdiv (2 ^ m) = a / 2 ^ m := Int.fdiv_eq_ediv_of_nonneg _ (by exact Int.le_of_lt (Int.pow_pos (by omega)))
  simp [execOp, fits_ev hf hx, fits_ev hf hy, binOp, eqGuard, Op.shift, h0, IntKind.bits, h1, h2]⟩⟩
theorem q_shl {g : Option (Nat × Bool)} {t t' : TypeId} {a i : Int} {m : Nat} (hx : ev σ x = some (.int .i64 a)) (hy : ev σ y = some (.int .i64 i)) (hm : i = (m : Int)) (hlt : m < 64) (hr : IntKind.i64.wrap (a * 2 ^ m) = a * 2 ^ m) :
    DoesQ P ⟨some d, .binOp .shl t x y t', ty, pos, af, g⟩ σ w (.int .i64 (a * 2 ^ m)) := ⟨fun w2 he => ⟨fun m' c hf => by
  subst hm
  have h0 : ¬ ((m : Int) < 0) := by omega
  have h1 : min m 64 = m := by omega
  simp [execOp, fits_ev hf hx, fits_ev hf hy, binOp, eqGuard, Op.shift, h0, IntKind.bits, h1, hr]⟩⟩
theorem run_equalIn_bool (k : Nat) {t : TypeId} [TBool P t] (a b : Bool) (w : World) : (Op.equalIn (k + 1) t (.bool a) (.bool b)).run P w = .ok (a == b) w := by
  simp [Op.equalIn, run_underlying (TBool.und (P := P) (t := t))]
theorem run_equal_bool {t : TypeId} [TBool P t] (a b : Bool) (w : World) : (Op.equal t (.bool a) (.bool b)).run P w = .ok (a == b) w := run_equalIn_bool 9999 a b w
/-- Comparison of bools. -/
theorem Z26 {g : Option (Nat × Bool)} {t t' : TypeId} [TBool P t] {a b : Bool} (hx : ev σ x = some (.bool a)) (hy : ev σ y = some (.bool b)) :
    DoesQ P ⟨some d, .binOp .eql t x y t', ty, pos, af, g⟩ σ w (.bool (a == b)) := ⟨fun w2 he => ⟨fun m c hf => by
  simp [execOp, fits_ev hf hx, fits_ev hf hy, binOp, eqGuard, run_equal_bool (P := P) (t := t)]⟩⟩
theorem Z25 {g : Option (Nat × Bool)} {t t' : TypeId} [TBool P t] {a b : Bool} (hx : ev σ x = some (.bool a)) (hy : ev σ y = some (.bool b)) :
    DoesQ P ⟨some d, .binOp .neq t x y t', ty, pos, af, g⟩ σ w (.bool (!(a == b))) := ⟨fun w2 he => ⟨fun m c hf => by
  simp [execOp, fits_ev hf hx, fits_ev hf hy, binOp, eqGuard, run_equal_bool (P := P) (t := t)]⟩⟩
/-- A byte of a string. -/
theorem q_index {g : Option (Nat × Bool)} {t : TypeId} [TStr P t] {s : ByteArray} {i : Int} {j : Nat} {b : UInt8} (hx : ev σ x = some (.string s)) (hy : ev σ y = some (.int .i64 i)) (hj : i = (j : Int)) (hb : s[j]? = some b) :
    DoesQ P ⟨some d, .index t x y, ty, pos, af, g⟩ σ w (.int .u8 b.toNat) := ⟨fun w2 he => ⟨fun m c hf => by
  subst hj
  simp [execOp, fits_ev hf hx, fits_ev hf hy, Instr.index, asIntOf, run_underlying (TStr.und (P := P) (t := t)), hb]⟩⟩
/-- s[:h] and s[l:] of a slice. -/
theorem q_slTo {g : Option (Nat × Bool)} {t e k len cap h : Nat} {A : Option Addr} {i : Int} [TSl P t e k] (hx : ev σ x = some (.slice A len cap)) (hy : ev σ y = some (.int .i64 i)) (hi : i = (h : Int)) (hh : h ≤ cap) :
    DoesQ P ⟨some d, .slice t x none (some y) none, ty, pos, af, g⟩ σ w (.slice A h cap) := ⟨fun w2 he => ⟨fun m c hf => by
  subst hi
  have h1 : (h : Int) ≤ (cap : Int) := by omega
  have h2 : ¬ cap < h := by omega
  simp [execOp, fits_ev hf hx, fits_ev hf hy, Instr.sliceAt, Instr.slice, run_underlying (TSl.und (P := P) (t := t) (e := e) (k := k)), Instr.sliceBounds, Instr.sliceBound, asIntOf, h1, h2, TSl.run_sizeOf (P := P) (t := t) (e := e) (k := k) inferInstance]
  rw [if_pos hh]
  cases A <;> simp [Addr.add]⟩⟩
/-- A struct that is written out. -/
theorem q_field {g : Option (Nat × Bool)} {s : TypeId} {k f : Nat} [TS P s k] {cs : List Value} (hx : ev σ x = some (.agg cs.toArray)) (hf : Nat.blt f k = true) (hv : cs[f]? = some v) :
    DoesQ P ⟨some d, .field s x f, ty, pos, af, g⟩ σ w v := ⟨fun w2 he => ⟨fun m c hfi => by
  obtain ⟨fs, fx, hu, hfx, hoff, ht1⟩ := TS.field (P := P) (t := s) (k := k) (f := f) inferInstance (by simpa [Nat.blt_eq] using hf)
  have hv' : cs.toArray[f]? = some v := by simpa using hv
  simp [execOp, fits_ev hfi hx, Instr.field, run_underlying hu, hfx, asAgg, part, ht1.run_isAgg, hoff, hv]⟩⟩
/-- A struct literal whose parts are all given, in order. -/
def partsB : List (Nat × Operand) → List Operand
  | [] => []
  | (_, x) :: r => x :: partsB r

/-! ### A region that draws its order and only reads: one walk in the order of the text serves -/
structure WQ (P : Program) (n : Nat) (ops : Array Oper) (w : World) (K : Act → Prop) (rest : List Oper) (σ : Env) : Prop where
  run : rest.all (dstOk n) = true → ∀ a, Fits n σ a → wpQuiet P ops (Ext w) K rest a
theorem WQ.pure {o : Oper} {K : Act → Prop} (hg : o.guard = none) (hd : DoesQ P o σ w v) (k : WQ P n ops w K rest (putE o.dst v σ)) : WQ P n ops w K (o :: rest) σ := by
  refine ⟨fun hok a hf => ?_⟩
  simp only [List.all_cons, Bool.and_eq_true] at hok
  refine wpQuiet_step fun K' hK => ?_
  rw [if_pos (by simp [Region.wanted, hg])]
  refine ⟨v, fun w' hw' => ?_, hK _ (k.run hok.2 _ (hf.put v hok.1))⟩
  unfold Oper.quietAt
  rw [(hd.run w' hw').run n a hf]
  exact ⟨rfl, rfl⟩
theorem Z55 {K : Act → Prop} {op : Op} (hd : DoesQ P ⟨some d, op, ty, pos, af, none⟩ σ w v) (k : WQ P n ops w K rest ((d, v) :: σ)) : WQ P n ops w K (⟨some d, op, ty, pos, af, none⟩ :: rest) σ := WQ.pure rfl hd k
theorem Z13 {op : Op} (hd : DoesQ P ⟨some d, op, ty, pos, af, none⟩ σ w v) (k : WO P n ops Q rest ((d, v) :: σ) w) : WO P n ops Q (⟨some d, op, ty, pos, af, none⟩ :: rest) σ w := WO.pure rfl hd k
theorem WQ_nil {K : Act → Prop} (h : ∀ a, Fits n σ a → K a) : WQ P n ops w K [] σ := ⟨fun _ a hf => wpQuiet_nil (h a hf)⟩
theorem Z58 {K : Act → Prop} {dd : Option Nat} {op : Op} {t : TypeId} {p : String} {af' : Array Edge} {j s : Nat} {b : Bool} (hs : (ops[j]?).bind (·.dst) = some s) {c : Bool} (hv : look σ s = some (.bool c)) (hc : c = b)
    (h : WQ P n ops w K (⟨dd, op, t, p, af', none⟩ :: rest) σ) : WQ P n ops w K (⟨dd, op, t, p, af', some (j, b)⟩ :: rest) σ := by
  refine ⟨fun hok a hf => ?_⟩
  subst hc
  have h1 := h.run (by simpa [dstOk] using hok) a hf
  unfold wpQuiet at h1 ⊢
  rw [if_pos (by simp [Region.wanted])] at h1
  rw [if_pos ((wanted_of (o := ⟨dd, op, t, p, af', some (j, c)⟩) hf rfl hs hv).trans (by cases c <;> rfl))]
  exact h1
theorem Z59 {K : Act → Prop} {dd : Nat} {op : Op} {t : TypeId} {p : String} {af' : Array Edge} {j s : Nat} {b c : Bool} (hs : (ops[j]?).bind (·.dst) = some s) (hv : look σ s = some (.bool c)) (hc : c = !b)
    (h : WQ P n ops w K rest ((dd, undef) :: σ)) : WQ P n ops w K (⟨some dd, op, t, p, af', some (j, b)⟩ :: rest) σ := by
  refine ⟨fun hok a hf => ?_⟩
  simp only [List.all_cons, Bool.and_eq_true] at hok
  unfold wpQuiet
  rw [if_neg (by rw [wanted_of (o := ⟨some dd, op, t, p, af', some (j, b)⟩) hf rfl hs hv]; subst hc; cases b <;> simp)]
  exact h.run hok.2 _ (hf.put (o := ⟨some dd, op, t, p, af', some (j, b)⟩) undef hok.1)
theorem Z60 {K : Act → Prop} {dd : Nat} {op : Op} {t : TypeId} {p : String} {af' : Array Edge} {j s : Nat} {b : Bool} (hs : (ops[j]?).bind (·.dst) = some s) (hv : look σ s = some undef)
    (h : WQ P n ops w K rest ((dd, undef) :: σ)) : WQ P n ops w K (⟨some dd, op, t, p, af', some (j, b)⟩ :: rest) σ := by
  refine ⟨fun hok a hf => ?_⟩
  simp only [List.all_cons, Bool.and_eq_true] at hok
  unfold wpQuiet
  rw [if_neg (by rw [wanted_of_undef (o := ⟨some dd, op, t, p, af', some (j, b)⟩) hf rfl hs hv]; simp)]
  exact h.run hok.2 _ (hf.put (o := ⟨some dd, op, t, p, af', some (j, b)⟩) undef hok.1)
theorem Z61 {K : Act → Prop} {dd : Option Nat} {op : Op} {t : TypeId} {p : String} {af' : Array Edge} {j s : Nat} {b c : Bool} (hs : (ops[j]?).bind (·.dst) = some s) (hv : look σ s = some (.bool c))
    (h : ∀ c', c = c' → WQ P n ops w K (⟨dd, op, t, p, af', some (j, b)⟩ :: rest) ((s, .bool c') :: σ)) : WQ P n ops w K (⟨dd, op, t, p, af', some (j, b)⟩ :: rest) σ :=
  ⟨fun hok a hf => (h c rfl).run hok a (hf.again hv)⟩
theorem Z54 {id : Nat} {l : List Oper} (hm : P.follows .mixedOrders = true) (hB : Region.lexB .any l.toArray = true)
    (h : WQ P n l.toArray w (fun a' => ∀ w', Ext w w' → Q .normal a' w') l σ) : W P n (.region id l.toArray true) Q σ w := ⟨fun hok a hf =>
  wp_region_quiet (C := Ext w) hm hB (Ext.drew (Ext.refl w)) (by simpa using h.run (by simpa [codeOk] using hok) a hf)⟩
theorem Z81 (h : ∀ w', Ext w w' → AtQ n Q .normal σ w') : WQ P n ops w (fun a' => ∀ w', Ext w w' → Q .normal a' w') [] σ :=
  WQ_nil fun a hf w' hw' => (h w' hw').run a hf

/-! ### Calls of the program's functions -/
theorem run_callFunc {f : FuncId} [Fn0 P f] (args : Array Value) (w : World) : (callFunc f args).run P w = .ok (.enter f args) w := by
  have := Fn0.ok (P := P) (f := f)
  unfold fnB at this
  cases hfn : P.funcs[f]? with
  | none => simp [hfn] at this
  | some fn =>
    simp only [hfn, Bool.and_eq_true, Bool.not_eq_true'] at this
    have hnone : fn.body.isNone = false := by cases hb : fn.body <;> simp_all
    have hne : fn.name ≠ "runtime.NumGoroutine" := by simpa using this.2
    have hsome : fn.body ≠ none := by intro hb; simp [hb] at hnone
    simp [callFunc, Go.program, Sem.run, hfn, hne, hsome]
theorem WO_callV {f : FuncId} [Fn0 P f] {g : Operand} {args : List Operand} {first captured : List Value} {vs : List Value} {ats : Array TypeId} {Post : Value → World → Prop}
    (hg : ev σ g = some (.func (.func f) first.toArray captured.toArray)) (ha : evs σ args = some vs) (hc : Ret P f (first ++ vs ++ captured) w Post)
    (h : ∀ v w', Post v w' → WO P n ops Q rest ((d, v) :: σ) w') : WO P n ops Q (⟨some d, .call ⟨.value g, args.toArray, ats⟩, ty, pos, af, none⟩ :: rest) σ w := by
  refine ⟨fun hok a hf => ?_⟩
  simp only [List.all_cons, Bool.and_eq_true] at hok
  refine wpList_plain rfl fun K hK => ?_
  have hrun : (execOp a.eval ⟨some d, .call ⟨.value g, args.toArray, ats⟩, ty, pos, af, none⟩).run P w = .ok (.enter f (first ++ vs ++ captured).toArray) w := by
    simp [execOp, resolve, fits_ev hf hg, Deferred.ofValue, invoke, run_callFunc, fits_evs hf ha]
  unfold Oper.wp
  rw [hrun]
  simp only [Oper.upon]
  refine Calls.mono hc fun e w' ⟨v, he, hp⟩ => ?_
  subst he
  exact hK _ _ ((h v w' hp).run hok.2 _ (hf.put (o := ⟨some d, .call ⟨.value g, args.toArray, ats⟩, ty, pos, af, none⟩) v hok.1))
/-- A call that only reads, in a region that draws its order. -/
theorem WQ_call {f : FuncId} [Fn0 P f] {args : List Operand} {vs : List Value} {ats : Array TypeId} {K : Act → Prop}
    (ha : evs σ args = some vs) (hc : ∀ w', Ext w w' → Ret P f vs w' fun u w'' => u = v ∧ Ext w' w'')
    (h : WQ P n ops w K rest ((d, v) :: σ)) : WQ P n ops w K (⟨some d, .call ⟨.value (.func f), args.toArray, ats⟩, ty, pos, af, none⟩ :: rest) σ := by
  refine ⟨fun hok a hf => ?_⟩
  simp only [List.all_cons, Bool.and_eq_true] at hok
  refine wpQuiet_step fun K' hK => ?_
  rw [if_pos (by simp [Region.wanted])]
  refine ⟨v, fun w' hw' => ?_, hK _ (h.run hok.2 _ (hf.put (o := ⟨some d, .call ⟨.value (.func f), args.toArray, ats⟩, ty, pos, af, none⟩) v hok.1))⟩
  unfold Oper.quietAt
  have hrun : (execOp a.eval ⟨some d, .call ⟨.value (.func f), args.toArray, ats⟩, ty, pos, af, none⟩).run P w' = .ok (.enter f vs.toArray) w' := by
    simp [execOp, resolve, Act.eval, Deferred.ofValue, invoke, run_callFunc, fits_evs hf ha]
  rw [hrun]
  refine ⟨rfl, Calls.mono (hc w' hw') fun e w'' ⟨u, he, hu, hx⟩ => ?_⟩
  subst he
  subst hu
  exact ⟨rfl, hw'.trans hx⟩
theorem WO_call {f : FuncId} [Fn0 P f] {args : List Operand} {vs : List Value} {ats : Array TypeId} {Post : Value → World → Prop}
    (ha : evs σ args = some vs) (hc : Ret P f vs w Post)
    (h : ∀ v w', Post v w' → WO P n ops Q rest ((d, v) :: σ) w') : WO P n ops Q (⟨some d, .call ⟨.value (.func f), args.toArray, ats⟩, ty, pos, af, none⟩ :: rest) σ w :=
  WO_callV (first := []) (captured := []) rfl ha (by simpa using hc) h
end

/-! ### Ways of asking which kind of goal stands here -/
section
variable {P : Program} {n : Nat} {ops : Array Oper} {Q : Exit → Act → World → Prop} {rest : List Oper} {σ : Env} {w : World} {K : Act → Prop}
variable {d : Option Nat} {ty t t' : TypeId} {pos : String} {af : Array Edge} {gd : Option (Nat × Bool)} {x y z : Operand} {i : Nat} {bop : BinOp} {bi : Builtin} {as : Array Operand} {ats : Array TypeId} {op : Op} {g : Nat × Bool} {c : Code} {e : Exit}
theorem Z0 (h : WO P n ops Q rest σ w) : WO P n ops Q rest σ w := h
theorem Z42 (h : W P n c Q σ w) : W P n c Q σ w := h
theorem Z32 (h : AtQ n Q e σ w) : AtQ n Q e σ w := h
theorem idWQ (h : WQ P n ops w K rest σ) : WQ P n ops w K rest σ := h
theorem Z2 (h : WO P n ops Q (⟨d, op, ty, pos, af, some g⟩ :: rest) σ w) : WO P n ops Q (⟨d, op, ty, pos, af, some g⟩ :: rest) σ w := h
theorem Z57 (h : WQ P n ops w K (⟨d, op, ty, pos, af, some g⟩ :: rest) σ) : WQ P n ops w K (⟨d, op, ty, pos, af, some g⟩ :: rest) σ := h
theorem Z6 (h : WO P n ops Q (⟨d, .fieldAddr t x i, ty, pos, af, none⟩ :: rest) σ w) : WO P n ops Q (⟨d, .fieldAddr t x i, ty, pos, af, none⟩ :: rest) σ w := h
theorem Z62 (h : WQ P n ops w K (⟨d, .fieldAddr t x i, ty, pos, af, none⟩ :: rest) σ) : WQ P n ops w K (⟨d, .fieldAddr t x i, ty, pos, af, none⟩ :: rest) σ := h
theorem idIA (h : WO P n ops Q (⟨d, .indexAddr t x y, ty, pos, af, none⟩ :: rest) σ w) : WO P n ops Q (⟨d, .indexAddr t x y, ty, pos, af, none⟩ :: rest) σ w := h
theorem Z68 (h : WQ P n ops w K (⟨d, .indexAddr t x y, ty, pos, af, none⟩ :: rest) σ) : WQ P n ops w K (⟨d, .indexAddr t x y, ty, pos, af, none⟩ :: rest) σ := h
theorem Z9 (h : WO P n ops Q (⟨d, .load t x, ty, pos, af, none⟩ :: rest) σ w) : WO P n ops Q (⟨d, .load t x, ty, pos, af, none⟩ :: rest) σ w := h
theorem Z65 (h : WQ P n ops w K (⟨d, .load t x, ty, pos, af, none⟩ :: rest) σ) : WQ P n ops w K (⟨d, .load t x, ty, pos, af, none⟩ :: rest) σ := h
theorem idSt (h : WO P n ops Q (⟨d, .store t x y, ty, pos, af, none⟩ :: rest) σ w) : WO P n ops Q (⟨d, .store t x y, ty, pos, af, none⟩ :: rest) σ w := h
theorem iqSt (h : WQ P n ops w K (⟨d, .store t x y, ty, pos, af, none⟩ :: rest) σ) : WQ P n ops w K (⟨d, .store t x y, ty, pos, af, none⟩ :: rest) σ := h
theorem Z12 (h : WO P n ops Q (⟨d, .pick x y z, ty, pos, af, none⟩ :: rest) σ w) : WO P n ops Q (⟨d, .pick x y z, ty, pos, af, none⟩ :: rest) σ w := h
theorem Z70 (h : WQ P n ops w K (⟨d, .pick x y z, ty, pos, af, none⟩ :: rest) σ) : WQ P n ops w K (⟨d, .pick x y z, ty, pos, af, none⟩ :: rest) σ := h
theorem Z16 (h : WO P n ops Q (⟨d, .call ⟨.builtin bi, as, ats⟩, ty, pos, af, none⟩ :: rest) σ w) : WO P n ops Q (⟨d, .call ⟨.builtin bi, as, ats⟩, ty, pos, af, none⟩ :: rest) σ w := h
theorem Z71 (h : WQ P n ops w K (⟨d, .call ⟨.builtin bi, as, ats⟩, ty, pos, af, none⟩ :: rest) σ) : WQ P n ops w K (⟨d, .call ⟨.builtin bi, as, ats⟩, ty, pos, af, none⟩ :: rest) σ := h
theorem Z29 {ps : Array (Nat × Operand)} (h : WO P n ops Q (⟨d, .build t ps, ty, pos, af, none⟩ :: rest) σ w) : WO P n ops Q (⟨d, .build t ps, ty, pos, af, none⟩ :: rest) σ w := h
theorem Z27 (h : WO P n ops Q (⟨d, .convert t t' x, ty, pos, af, none⟩ :: rest) σ w) : WO P n ops Q (⟨d, .convert t t' x, ty, pos, af, none⟩ :: rest) σ w := h
theorem Z80 (h : WQ P n ops w K (⟨d, .convert t t' x, ty, pos, af, none⟩ :: rest) σ) : WQ P n ops w K (⟨d, .convert t t' x, ty, pos, af, none⟩ :: rest) σ := h
theorem Z19 (h : WO P n ops Q (⟨d, .binOp bop t x y t', ty, pos, af, none⟩ :: rest) σ w) : WO P n ops Q (⟨d, .binOp bop t x y t', ty, pos, af, none⟩ :: rest) σ w := h
theorem iqBuild {ps : Array (Nat × Operand)} (h : WQ P n ops w K (⟨d, .build t ps, ty, pos, af, none⟩ :: rest) σ) : WQ P n ops w K (⟨d, .build t ps, ty, pos, af, none⟩ :: rest) σ := h
theorem Z74 (h : WQ P n ops w K (⟨d, .binOp bop t x y t', ty, pos, af, none⟩ :: rest) σ) : WQ P n ops w K (⟨d, .binOp bop t x y t', ty, pos, af, none⟩ :: rest) σ := h
end
end Go.Proofs.YtnfapbghkmodeaaDoor
