/-
  What is proved here: the rules of a small calculus for walking translated code. No function of the program stands here.
  A frame is told by a list of (slot, value) pairs; slots that are not listed may hold anything. The rules say what each operation adds to the list and to the world.
-/
import Derived.WalkKit
import Derived.Deep.RegionHeld
import Derived.Maps.AppendAt
namespace Go.Proofs.YtnfapbghkmodeaaDoor
set_option linter.unusedVariables false
set_option linter.unusedSimpArgs false
set_option linter.unnecessarySimpa false
open Go.RowKit

/-! ### Frames -/
abbrev Env := List (Nat × Value)

def look : Env → Nat → Option Value
  | [], _ => none
  | (d, v) :: σ, n => match Nat.beq d n with
    | true => some v
    | false => look σ n

def ev (σ : Env) : Operand → Option Value
  | .tmp t => look σ t
  | .const v => some v
  | .global g => some (.pointer (some ⟨g, 0, none⟩))
  | .func f => some (.func (.func f) #[] #[])

def evs (σ : Env) : List Operand → Option (List Value)
  | [] => some []
  | x :: r => match ev σ x, evs σ r with
    | some v, some vs => some (v :: vs)
    | _, _ => none

structure Fits (n : Nat) (σ : Env) (a : Act) : Prop where
  size : a.tmps.size = n
  defers : a.defers = []
  has : ∀ d v, look σ d = some v → a.tmps[d]? = some v

theorem look_cons_same (d : Nat) (v : Value) (σ : Env) : look ((d, v) :: σ) d = some v := by
  simp [look, Nat.beq_refl]
theorem look_cons_ne {d n : Nat} (v : Value) (σ : Env) (h : d ≠ n) : look ((d, v) :: σ) n = look σ n := by
  have hb : Nat.beq d n = false := by
    cases hb : Nat.beq d n with
    | false => rfl
    | true => exact absurd (Nat.eq_of_beq_eq_true hb) h
  simp [look, hb]

theorem fits_ev {n : Nat} {σ : Env} {a : Act} (h : Fits n σ a) {x : Operand} {v : Value} (hx : ev σ x = some v) : a.eval x = v := by
  cases x with
  | tmp t =>
    have := h.has t v hx
    simp [Act.eval, this]
  | const u => simpa [ev, Act.eval] using hx
  | global g => simpa [ev, Act.eval] using hx
  | func f => simpa [ev, Act.eval] using hx

theorem fits_evs {n : Nat} {σ : Env} {a : Act} (h : Fits n σ a) : ∀ {xs : List Operand} {vs : List Value}, evs σ xs = some vs → xs.map a.eval = vs := by
  intro xs
  induction xs with
  | nil => intro vs hv; simp [evs] at hv; simp [hv]
  | cons x r ih =>
    intro vs hv
    simp only [evs] at hv
    split at hv
    · rename_i v vs' h1 h2
      have hv' := Option.some.inj hv
      subst hv'
      simp [fits_ev h h1, ih h2]
    · cases hv

/-- One list tells less than the other. -/
def Sub : Env → Env → Prop
  | [], _ => True
  | (d, v) :: τ, σ => look σ d = some v ∧ Sub τ σ

theorem look_of_sub {τ σ : Env} (h : Sub τ σ) : ∀ d v, look τ d = some v → look σ d = some v := by
  induction τ with
  | nil => intro d v hv; simp [look] at hv
  | cons p τ ih =>
    obtain ⟨d', v'⟩ := p
    intro d v hv
    by_cases hd : d' = d
    · subst hd
      rw [look_cons_same] at hv
      rw [← hv]
      exact h.1
    · rw [look_cons_ne _ _ hd] at hv
      exact ih h.2 d v hv

theorem Fits.sub {n : Nat} {τ σ : Env} {a : Act} (h : Fits n σ a) (hs : Sub τ σ) : Fits n τ a :=
  ⟨h.size, h.defers, fun d v hv => h.has d v (look_of_sub hs d v hv)⟩

def putE (d : Option Nat) (v : Value) (σ : Env) : Env :=
  match d with
  | some d => (d, v) :: σ
  | none => σ

def dstOk (n : Nat) (o : Oper) : Bool :=
  match o.dst with
  | some d => Nat.blt d n
  | none => true

theorem Fits.put {n : Nat} {σ : Env} {a : Act} {o : Oper} (h : Fits n σ a) (v : Value) (hd : dstOk n o = true) : Fits n (putE o.dst v σ) (a.put o.dst v) := by
  unfold dstOk at hd
  cases ho : o.dst with
  | none => simpa [putE, Act.put] using h
  | some d =>
    rw [ho] at hd
    have hlt : d < n := by simpa [Nat.blt_eq] using hd
    refine ⟨by simp [Act.put, h.size], by simpa [Act.put] using h.defers, fun d' v' hv => ?_⟩
    simp only [putE] at hv
    simp only [Act.put, Array.getElem?_setIfInBounds]
    by_cases hdd : d = d'
    · subst hdd
      rw [look_cons_same] at hv
      simp [h.size, hlt, Option.some.inj hv]
    · rw [look_cons_ne _ _ hdd] at hv
      simp [hdd, h.has d' v' hv]

/-! ### One operation -/
structure WO (P : Program) (n : Nat) (ops : Array Oper) (Q : Exit → Act → World → Prop) (rest : List Oper) (σ : Env) (w : World) : Prop where
  run : rest.all (dstOk n) = true → ∀ a, Fits n σ a → wpList P ops Q rest a w

/-- In every frame that fits the operation yields v and leaves the world w'. -/
structure Does (P : Program) (o : Oper) (σ : Env) (w : World) (v : Value) (w' : World) : Prop where
  run : ∀ n a, Fits n σ a → (execOp a.eval o).run P w = .ok (.value v) w'

/-- The same for an operation without a value (a store). -/
structure DoesU (P : Program) (o : Oper) (σ : Env) (w : World) (w' : World) : Prop where
  run : ∀ n a, Fits n σ a → (execOp a.eval o).run P w = .ok .skip w'

section
variable {P : Program} {n : Nat} {ops : Array Oper} {Q : Exit → Act → World → Prop} {rest : List Oper} {σ : Env} {w w' : World} {o : Oper} {v : Value}

theorem WO.value (hg : o.guard = none) (hd : Does P o σ w v w') (k : WO P n ops Q rest (putE o.dst v σ) w') : WO P n ops Q (o :: rest) σ w := by
  refine ⟨fun hok a hf => ?_⟩
  simp only [List.all_cons, Bool.and_eq_true] at hok
  refine wpList_plain hg fun K hK => ?_
  unfold Oper.wp
  rw [hd.run n a hf]
  exact hK _ _ (k.run hok.2 _ (hf.put v hok.1))

theorem WO.unit (hg : o.guard = none) (hd : DoesU P o σ w w') (hn : o.dst = none) (k : WO P n ops Q rest σ w') : WO P n ops Q (o :: rest) σ w := by
  refine ⟨fun hok a hf => ?_⟩
  simp only [List.all_cons, Bool.and_eq_true] at hok
  refine wpList_plain hg fun K hK => ?_
  unfold Oper.wp
  rw [hd.run n a hf]
  refine hK _ _ (k.run hok.2 _ ?_)
  simpa [hn, Act.put] using hf

theorem WO.nil (h : ∀ a, Fits n σ a → Q .normal a w) : WO P n ops Q [] σ w := ⟨fun _ a hf => h a hf⟩

theorem wpList_guard_yes {a : Act} (hw : Region.wanted o (yielded ops a.tmps) = true) (h : wpList P ops Q ({ o with guard := none } :: rest) a w) : wpList P ops Q (o :: rest) a w := by
  unfold wpList at h ⊢
  rw [if_pos hw]
  rw [if_pos (by simp [Region.wanted])] at h
  exact h
theorem wpList_guard_no {a : Act} (hw : Region.wanted o (yielded ops a.tmps) = false) (h : wpList P ops Q rest (a.put o.dst undef) w) : wpList P ops Q (o :: rest) a w := by
  unfold wpList
  rw [if_neg (by simp [hw])]
  exact h

theorem wanted_of {a : Act} {j s : Nat} {b t : Bool} (hf : Fits n σ a) (hg : o.guard = some (j, b)) (hs : (ops[j]?).bind (·.dst) = some s) (hv : look σ s = some (.bool t)) :
    Region.wanted o (yielded ops a.tmps) = (t == b) := by
  have h1 : a.tmps[s]? = some (.bool t) := hf.has s _ hv
  simp only [Region.wanted, hg, yielded, hs, Option.bind_some, h1]
  cases t <;> cases b <;> rfl
theorem wanted_of_undef {a : Act} {j s : Nat} {b : Bool} (hf : Fits n σ a) (hg : o.guard = some (j, b)) (hs : (ops[j]?).bind (·.dst) = some s) (hv : look σ s = some undef) :
    Region.wanted o (yielded ops a.tmps) = false := by
  have h1 : a.tmps[s]? = some undef := hf.has s _ hv
  simp only [Region.wanted, hg, yielded, hs, Option.bind_some, h1]
  cases b <;> rfl

/-- The guard is met: the operation runs. -/
theorem Z3 {d : Option Nat} {op : Op} {t : TypeId} {p : String} {af : Array Edge} {j s : Nat} {b c : Bool} (hs : (ops[j]?).bind (·.dst) = some s) (hv : look σ s = some (.bool c)) (hc : c = b)
    (h : WO P n ops Q (⟨d, op, t, p, af, none⟩ :: rest) σ w) : WO P n ops Q (⟨d, op, t, p, af, some (j, b)⟩ :: rest) σ w := by
  refine ⟨fun hok a hf => ?_⟩
  subst hc
  exact wpList_guard_yes ((wanted_of hf rfl hs hv).trans (by cases c <;> rfl)) (h.run (by simpa [dstOk] using hok) a hf)
/-- The guard is not met: it is passed over. -/
theorem Z4 {d : Nat} {op : Op} {t : TypeId} {p : String} {af : Array Edge} {j s : Nat} {b c : Bool} (hs : (ops[j]?).bind (·.dst) = some s) (hv : look σ s = some (.bool c)) (hc : c = !b)
    (h : WO P n ops Q rest ((d, undef) :: σ) w) : WO P n ops Q (⟨some d, op, t, p, af, some (j, b)⟩ :: rest) σ w := by
  refine ⟨fun hok a hf => ?_⟩
  simp only [List.all_cons, Bool.and_eq_true] at hok
  refine wpList_guard_no ((wanted_of hf rfl hs hv).trans (by subst hc; cases b <;> rfl)) (h.run hok.2 _ ?_)
  exact hf.put (o := ⟨some d, op, t, p, af, some (j, b)⟩) undef hok.1
/-- The guard was itself passed over. -/
theorem Z5 {d : Nat} {op : Op} {t : TypeId} {p : String} {af : Array Edge} {j s : Nat} {b : Bool} (hs : (ops[j]?).bind (·.dst) = some s) (hv : look σ s = some undef)
    (h : WO P n ops Q rest ((d, undef) :: σ) w) : WO P n ops Q (⟨some d, op, t, p, af, some (j, b)⟩ :: rest) σ w := by
  refine ⟨fun hok a hf => ?_⟩
  simp only [List.all_cons, Bool.and_eq_true] at hok
  refine wpList_guard_no (wanted_of_undef hf rfl hs hv) (h.run hok.2 _ ?_)
  exact hf.put (o := ⟨some d, op, t, p, af, some (j, b)⟩) undef hok.1

theorem Fits.again {n s : Nat} {σ : Env} {a : Act} {v : Value} (h : Fits n σ a) (hv : look σ s = some v) : Fits n ((s, v) :: σ) a :=
  ⟨h.size, h.defers, fun d u hu => by
    by_cases hd : s = d
    · subst hd
      rw [look_cons_same] at hu
      rw [← hu]
      exact h.has s v hv
    · rw [look_cons_ne _ _ hd] at hu
      exact h.has d u hu⟩
/-- A guard that is not decided: both ways. -/
theorem Z51 {d : Option Nat} {op : Op} {t : TypeId} {p : String} {af : Array Edge} {j s : Nat} {b c : Bool} (hs : (ops[j]?).bind (·.dst) = some s) (hv : look σ s = some (.bool c))
    (h : ∀ c', c = c' → WO P n ops Q (⟨d, op, t, p, af, some (j, b)⟩ :: rest) ((s, .bool c') :: σ) w) : WO P n ops Q (⟨d, op, t, p, af, some (j, b)⟩ :: rest) σ w :=
  ⟨fun hok a hf => (h c rfl).run hok a (hf.again hv)⟩
/-- What is known of the frame may be cut down. -/
theorem WO.weaken {τ : Env} (hs : Sub τ σ) (h : WO P n ops Q rest τ w) : WO P n ops Q rest σ w := ⟨fun hok a hf => h.run hok a (hf.sub hs)⟩
end

/-! ### Code -/
def codeOk (n : Nat) : Code → Bool
  | .region _ ops _ => ops.toList.all (dstOk n)
  | .seq a b => codeOk n a && codeOk n b
  | .cond _ a b => codeOk n a && codeOk n b
  | .block _ c => codeOk n c
  | .loop c => codeOk n c
  | .scope c => codeOk n c
  | .rangeFunc _ _ _ _ => false
  | _ => true

structure W (P : Program) (n : Nat) (c : Code) (Q : Exit → Act → World → Prop) (σ : Env) (w : World) : Prop where
  run : codeOk n c = true → ∀ a, Fits n σ a → c.wp P Q a w

/-- What is to hold where the code before y ends. -/
def NextC (P : Program) (n : Nat) (y : Code) (Q : Exit → Act → World → Prop) : Exit → Act → World → Prop
  | .normal, a, w => codeOk n y = true → y.wp P Q a w
  | e, a, w => Q e a w

/-- In every frame that fits. -/
structure AtQ (n : Nat) (Q : Exit → Act → World → Prop) (e : Exit) (σ : Env) (w : World) : Prop where
  run : ∀ a, Fits n σ a → Q e a w

section
variable {P : Program} {n : Nat} {Q : Exit → Act → World → Prop} {σ τ : Env} {w : World} {x y c : Code} {id : Nat}

theorem Z43 (h : W P n x (NextC P n y Q) σ w) : W P n (.seq x y) Q σ w := by
  refine ⟨fun hok a hf => ?_⟩
  simp only [codeOk, Bool.and_eq_true] at hok
  refine wp_seq (wp_mono (h.run hok.1 a hf) fun e a' w' q => ?_)
  cases e with
  | normal => exact q hok.2
  | _ => exact q
theorem Z45 (h : W P n c (Exit.inBlock id Q) σ w) : W P n (.block id c) Q σ w := ⟨fun hok a hf => wp_block (h.run hok a hf)⟩
theorem Z46 (h : AtQ n Q .normal σ w) : W P n .skip Q σ w := ⟨fun _ a hf => wp_skip (h.run a hf)⟩
theorem Z47 (h : AtQ n Q (.exit id) σ w) : W P n (.exit id) Q σ w := ⟨fun _ a hf => wp_exit (h.run a hf)⟩
theorem Z48 (h : AtQ n Q .ret σ w) : W P n .ret Q σ w := ⟨fun _ a hf => wp_ret (h.run a hf)⟩
theorem Z44 {l : List Oper} (h : WO P n l.toArray Q l σ w) : W P n (.region id l.toArray false) Q σ w := ⟨fun hok a hf =>
  wp_region_lit (h.run (by simpa [codeOk] using hok) a hf)⟩
theorem Z52 {t : Operand} {b : Bool} (hc : ev σ t = some (.bool b)) (ht : b = true → W P n x Q σ w) (hf : b = false → W P n y Q σ w) : W P n (.cond t x y) Q σ w := by
  refine ⟨fun hok a h => ?_⟩
  simp only [codeOk, Bool.and_eq_true] at hok
  exact wp_cond_split (fits_ev h hc) (fun e => (ht e).run hok.1 a h) (fun e => (hf e).run hok.2 a h)
theorem Z49 {t : Operand} {b : Bool} (hc : ev σ t = some (.bool b)) (hb : b = true) (h : W P n x Q σ w) : W P n (.cond t x y) Q σ w := by
  refine ⟨fun hok a hf => ?_⟩
  subst hb
  simp only [codeOk, Bool.and_eq_true] at hok
  exact wp_cond_true (fits_ev hf hc) (h.run hok.1 a hf)
theorem Z50 {t : Operand} {b : Bool} (hc : ev σ t = some (.bool b)) (hb : b = false) (h : W P n y Q σ w) : W P n (.cond t x y) Q σ w := by
  refine ⟨fun hok a hf => ?_⟩
  subst hb
  simp only [codeOk, Bool.and_eq_true] at hok
  exact wp_cond_false (fits_ev hf hc) (h.run hok.2 a hf)
theorem W.weaken (hs : Sub τ σ) (h : W P n c Q τ w) : W P n c Q σ w := ⟨fun hok a hf => h.run hok a (hf.sub hs)⟩

theorem Z31 {ops : Array Oper} (h : AtQ n Q .normal σ w) : WO P n ops Q [] σ w := ⟨fun _ a hf => h.run a hf⟩
theorem Z33 (h : W P n y Q σ w) : AtQ n (NextC P n y Q) .normal σ w := ⟨fun a hf hok => h.run hok a hf⟩
theorem Z35 (h : AtQ n Q (.exit id) σ w) : AtQ n (NextC P n y Q) (.exit id) σ w := ⟨fun a hf => h.run a hf⟩
theorem Z36 (h : AtQ n Q .ret σ w) : AtQ n (NextC P n y Q) .ret σ w := ⟨fun a hf => h.run a hf⟩
theorem Z34 (h : AtQ n Q .normal σ w) : AtQ n (Exit.inBlock id Q) .normal σ w := ⟨fun a hf => h.run a hf⟩
theorem Z39 (h : AtQ n Q .ret σ w) : AtQ n (Exit.inBlock id Q) .ret σ w := ⟨fun a hf => h.run a hf⟩
theorem Z37 (h : AtQ n Q .normal σ w) : AtQ n (Exit.inBlock id Q) (.exit id) σ w := ⟨fun a hf => by
  simp only [Exit.inBlock, if_true]; exact h.run a hf⟩
theorem Z38 {id' : Nat} (hne : Nat.beq id' id = false) (h : AtQ n Q (.exit id') σ w) : AtQ n (Exit.inBlock id Q) (.exit id') σ w := ⟨fun a hf => by
  have : id' ≠ id := fun e => by subst e; simp [Nat.beq_refl] at hne
  simp only [Exit.inBlock, if_neg this]; exact h.run a hf⟩

/-- A post that gives the frame behind a piece of code: the ways through it meet again. -/
def Meets (n : Nat) (τ : Env) (R : World → Prop) : Exit → Act → World → Prop
  | .normal, a, w => Fits n τ a ∧ R w
  | _, _, _ => False
theorem at_meets {R : World → Prop} (hs : Sub τ σ) (hR : R w) : AtQ n (Meets n τ R) .normal σ w := ⟨fun _ hf => ⟨hf.sub hs, hR⟩⟩
/-- Cut: x leads to frames that fit τ and worlds that meet R. -/
theorem W_cut (τ : Env) (R : World → Prop) (h : W P n x (Meets n τ R) σ w) (k : ∀ w', R w' → AtQ n Q .normal τ w') : W P n x Q σ w := by
  refine ⟨fun hok a hf => ?_⟩
  refine wp_mono (h.run hok a hf) fun e a' w' q => ?_
  cases e with
  | normal => exact (k w' q.2).run a' q.1
  | _ => exact q.elim
theorem W_seq_cut (τ : Env) (R : World → Prop) (h : W P n x (Meets n τ R) σ w) (k : ∀ w', R w' → W P n y Q τ w') : W P n (.seq x y) Q σ w :=
  Z43 (W_cut τ R h fun w' hw' => Z33 (k w' hw'))
/-- Cut inside a region: the rest of its operations leads to frames that fit τ. -/
theorem WO_cut {ops : Array Oper} {rest : List Oper} (τ : Env) (R : World → Prop) (h : WO P n ops (Meets n τ R) rest σ w) (k : ∀ w', R w' → AtQ n Q .normal τ w') : WO P n ops Q rest σ w := by
  refine ⟨fun hok a hf => ?_⟩
  have := h.run hok a hf
  have mono : ∀ (l : List Oper) (a : Act) (w : World), wpList P ops (Meets n τ R) l a w → wpList P ops Q l a w := by
    intro l
    induction l with
    | nil => intro a w q; exact (k w q.2).run a q.1
    | cons o l ih =>
      intro a w q
      unfold wpList at q ⊢
      split
      · rename_i hw
        rw [if_pos hw] at q
        rcases q with q | ⟨_, a0, w0, q⟩
        · refine .inl ?_
          unfold Oper.wp at q ⊢
          generalize (execOp a.eval o).run P w = r at *
          cases r with
          | ok nx w' =>
            cases nx <;> simp only [Oper.upon] at q ⊢ <;>
              first
                | exact ih _ _ q
                | exact Calls.mono q (fun e w'' he => by
                    cases e with
                    | returned u => exact ih _ _ he
                    | panicked u => exact he.elim
                    | outgrown => obtain ⟨_, _, hh⟩ := he; exact hh.elim)
                | exact Go.Rows.mono q (fun _ _ he => ih _ _ he)
          | halt hx w' => cases hx <;> simp only [Oper.upon] at q ⊢ <;> exact q.elim
        · exact q.elim
      · rename_i hw
        rw [if_neg hw] at q
        exact ih _ _ q
  exact mono rest a w this

/-! ### A loop -/
def LoopQ {α : Type} (n : Nat) (I : α → Env) (R : α → World → Prop) (μ : α → Nat) (m : Nat) (Q : Exit → Act → World → Prop) : Exit → Act → World → Prop
  | .normal, a, w => ∃ x, Fits n (I x) a ∧ R x w ∧ μ x < m
  | e, a, w => Q e a w

theorem W_loop {α : Type} (I : α → Env) (R : α → World → Prop) (μ : α → Nat) (x0 : α) (hs : Sub (I x0) σ) (hR : R x0 w)
    (round : ∀ x w, R x w → W P n c (LoopQ n I R μ (μ x) Q) (I x) w) : W P n (.loop c) Q σ w := by
  refine ⟨fun hok a hf b k cs => ?_⟩
  have key : ∀ m x a w, μ x = m → Fits n (I x) a → R x w →
      ∃ e a' w', Q e a' w' ∧ Arrives P (lone (b.at a (.code c :: .inLoop c :: k)) cs w) b k cs e a' w' := by
    intro m
    induction m using Nat.strongRecOn with
    | _ m ih =>
      intro x a w hm hfx hRx
      obtain ⟨e, a₁, w₁, hq, harr⟩ := (round x w hRx).run (by simpa [codeOk] using hok) a hfx b (.inLoop c :: k) cs
      cases e with
      | normal =>
        obtain ⟨x', hf', hR', hlt⟩ := hq
        obtain ⟨e₂, a₂, w₂, hq₂, harr₂⟩ := ih (μ x') (hm ▸ hlt) x' a₁ w₁ rfl hf' hR'
        exact ⟨e₂, a₂, w₂, hq₂, .of_steps (Steps.trans harr (.one step_inLoop)) harr₂⟩
      | exit id => exact ⟨_, a₁, w₁, hq, .pass (x := .inLoop c) rfl (fun _ _ => .inl (by simp)) harr⟩
      | goto l => exact ⟨_, a₁, w₁, hq, .pass (x := .inLoop c) rfl (fun _ _ => .inl (by simp)) harr⟩
      | ret => exact ⟨_, a₁, w₁, hq, .pass (x := .inLoop c) rfl (fun _ _ => .inl (by simp)) harr⟩
      | panic ch => exact ⟨_, a₁, w₁, hq, .pass (x := .inLoop c) rfl (fun _ _ => .inl (by simp)) harr⟩
      | outgrown => exact ⟨_, a₁, w₁, hq, .pass (x := .inLoop c) rfl (fun _ _ => .inl (by simp)) harr⟩
  obtain ⟨e, a', w', hq, harr⟩ := key _ x0 a w rfl (hf.sub hs) hR
  exact ⟨e, a', w', hq, .of_steps (.one step_loop) harr⟩

theorem at_loop {α : Type} {I : α → Env} {R : α → World → Prop} {μ : α → Nat} {m : Nat} (x : α) (hs : Sub (I x) σ) (hR : R x w) (hm : μ x < m) :
    AtQ n (LoopQ n I R μ m Q) .normal σ w := ⟨fun _ hf => ⟨x, hf.sub hs, hR, hm⟩⟩
theorem Z40 {α : Type} {I : α → Env} {R : α → World → Prop} {μ : α → Nat} {m : Nat} (h : AtQ n Q (.exit id) σ w) : AtQ n (LoopQ n I R μ m Q) (.exit id) σ w := ⟨fun a hf => h.run a hf⟩
theorem Z41 {α : Type} {I : α → Env} {R : α → World → Prop} {μ : α → Nat} {m : Nat} (h : AtQ n Q .ret σ w) : AtQ n (LoopQ n I R μ m Q) .ret σ w := ⟨fun a hf => h.run a hf⟩
end

/-! ### Calls -/
/-- The call returns a value that meets Post. -/
def Ret (P : Program) (f : FuncId) (args : List Value) (w : World) (Post : Value → World → Prop) : Prop :=
  Calls P f args.toArray w fun e w' => ∃ v, e = .returned v ∧ Post v w'

def argEnv : Nat → List Value → Env
  | _, [] => []
  | i, v :: r => (i, v) :: argEnv (i + 1) r

section
variable {P : Program} {f : FuncId} {w : World}
theorem Ret.mono {args : List Value} {A B : Value → World → Prop} (h : Ret P f args w A) (hab : ∀ v w', A v w' → B v w') : Ret P f args w B :=
  Calls.mono h fun _ w' ⟨v, he, hp⟩ => ⟨v, he, hab v w' hp⟩

theorem look_argEnv : ∀ (l : List Value) (i d : Nat) (v : Value), look (argEnv i l) d = some v → i ≤ d ∧ l[d - i]? = some v
  | [], _, _, _, h => by simp [argEnv, look] at h
  | u :: r, i, d, v, h => by
    simp only [argEnv] at h
    by_cases hd : i = d
    · subst hd
      rw [look_cons_same] at h
      simp [Option.some.inj h]
    · rw [look_cons_ne _ _ hd] at h
      obtain ⟨h1, h2⟩ := look_argEnv r (i + 1) d v h
      refine ⟨by omega, ?_⟩
      have : d - i = (d - (i + 1)) + 1 := by omega
      rw [this]
      simpa using h2

/-- Entering a function. -/
theorem enter {fn : Func} {c : Code} {n : Nat} {args : List Value} {Post : Value → World → Prop} (hf : P.funcs[f]? = some fn) (hb : fn.body = some c) (hn : fn.ntmps = n) (hok : codeOk n c = true) (hlen : Nat.ble args.length n = true)
    (h : W P n c (bodyPost P fn fun e w' => ∃ v, e = .returned v ∧ Post v w') (argEnv 0 args) w) : Ret P f args w Post := by
  have hlen := Nat.le_of_ble_eq_true hlen
  refine calls_of_wp hf hb (h.run hok _ ⟨?_, rfl, fun d v hv => ?_⟩)
  · simp [hn]; omega
  · obtain ⟨_, h2⟩ := look_argEnv args 0 d v hv
    simp only [Nat.sub_zero] at h2
    have hlt := (List.getElem?_eq_some_iff.1 h2).1
    rw [Array.getElem?_append_left (by simpa using hlt)]
    simpa using h2
end

section
variable {P : Program} {n : Nat} {σ : Env} {w : World} {fn : Func} {Post : Value → World → Prop}
def RetQ (Post : Value → World → Prop) : Ending → World → Prop := fun e w' => ∃ v, e = .returned v ∧ Post v w'
theorem at_ret1 {t : Nat} {v : Value} (hr : fn.results = #[.tmp t]) (hv : look σ t = some v) (h : Post v w) : AtQ n (bodyPost P fn fun e w' => ∃ v, e = .returned v ∧ Post v w') .ret σ w := ⟨fun a hf =>
  ⟨hf.defers, v, by rw [results_tmp hr]; simp [hf.has t v hv], v, rfl, h⟩⟩
theorem at_ret2 {t u : Nat} {v x : Value} (hr : fn.results = #[.tmp t, .tmp u]) (hv : look σ t = some v) (hx : look σ u = some x) (h : Post (.tuple #[v, x]) w) : AtQ n (bodyPost P fn fun e w' => ∃ v, e = .returned v ∧ Post v w') .ret σ w := ⟨fun a hf =>
  ⟨hf.defers, .tuple #[v, x], by rw [results_tmp2 hr]; simp [hf.has t v hv, hf.has u x hx], _, rfl, h⟩⟩
theorem at_ret3 {t u s : Nat} {v x y : Value} (hr : fn.results = #[.tmp t, .tmp u, .tmp s]) (hv : look σ t = some v) (hx : look σ u = some x) (hy : look σ s = some y) (h : Post (.tuple #[v, x, y]) w) :
    AtQ n (bodyPost P fn fun e w' => ∃ v, e = .returned v ∧ Post v w') .ret σ w := ⟨fun a hf =>
  ⟨hf.defers, .tuple #[v, x, y], by simp [results, hr, hf.has t v hv, hf.has u x hx, hf.has s y hy], _, rfl, h⟩⟩
theorem at_ret0 (hr : fn.results = #[]) (h : Post (.tuple #[]) w) : AtQ n (bodyPost P fn fun e w' => ∃ v, e = .returned v ∧ Post v w') .ret σ w := ⟨fun a hf =>
  ⟨hf.defers, .tuple #[], by rw [results_none hr], _, rfl, h⟩⟩
theorem at_end0 (hr : fn.results = #[]) (h : Post (.tuple #[]) w) : AtQ n (bodyPost P fn fun e w' => ∃ v, e = .returned v ∧ Post v w') .normal σ w := ⟨fun a hf =>
  ⟨hf.defers, .tuple #[], by rw [results_none hr], _, rfl, h⟩⟩
end
/-! ### The steps that need no thought: what is left of a goal behind them -/
structure Hold (X : Prop) : Prop where
  out : X
theorem goS {X Y : Prop} (x : X) (h : Hold X → Y := by (intro hX; all_goals (repeat (first | (refine Z0 ?_; first | refine Z1 rfl ?_ | (refine Z2 ?_; first | refine Z3 rfl rfl (by decide) ?_ | refine Z4 rfl rfl (by decide) ?_ | refine Z5 rfl rfl ?_) | (refine Z6 ?_; first | refine Z7 rfl rfl ?_ | refine Z8 rfl rfl ?_) | (refine Z9 ?_; first | refine Z10 rfl (by assumption) (by rfl) ?_ | refine Z11 rfl (by assumption) ?_) | (refine Z12 ?_; first | refine Z13 (Z14 rfl (by decide) rfl) ?_ | refine Z13 (Z15 rfl (by decide) rfl) ?_) | (refine Z16 ?_; first | refine Z17 rfl ?_ | refine Z18 rfl ?_) | (refine Z19 ?_; first | refine Z20 rfl rfl (by omega) ?_ | refine Z21 rfl rfl (by omega) ?_ | refine Z22 rfl rfl (by omega) ?_ | refine Z23 rfl rfl (by omega) (by omega) ?_ | refine Z24 rfl rfl (by omega) (by omega) (by omega) ?_ | refine Z13 (Z25 rfl rfl) ?_ | refine Z13 (Z26 rfl rfl) ?_) | (refine Z27 ?_; refine Z13 (Z28 rfl (Z53 ⟨by omega, by omega⟩)) ?_) | (refine Z29 ?_; refine Z13 (Z30 rfl (by rfl) (by simp only [Z84, List.set_cons_zero, List.set_cons_succ]; rfl)) ?_) | refine Z31 ?_) | (refine Z32 ?_; first | refine Z33 ?_ | refine Z34 ?_ | refine Z35 ?_ | refine Z36 ?_ | refine Z37 ?_ | refine Z38 rfl ?_ | refine Z39 ?_ | refine Z40 ?_ | refine Z41 ?_) | (refine Z42 ?_; first | refine Z43 ?_ | refine Z44 ?_ | refine Z45 ?_ | refine Z46 ?_ | refine Z47 ?_ | refine Z48 ?_ | refine Z49 rfl (by decide) ?_ | refine Z50 rfl (by decide) ?_))); exact hX.out)) : Y := h ⟨x⟩
theorem goT {X Y : Prop} (x : X) (h : Hold X → Y := by (intro hX; all_goals (repeat (first | (refine Z0 ?_; first | (refine Z19 ?_; first | refine Z13 (Z85 rfl rfl) ?_ | refine Z13 (Z86 rfl rfl) ?_ | refine Z13 (Z87 rfl rfl (by simp only [List.length_append, List.length_cons, List.length_nil]; omega)) ?_) | refine Z1 rfl ?_ | (refine Z2 ?_; first | refine Z3 rfl rfl (by decide) ?_ | refine Z4 rfl rfl (by decide) ?_ | refine Z5 rfl rfl ?_) | (refine Z6 ?_; first | refine Z7 rfl rfl ?_ | refine Z8 rfl rfl ?_) | (refine Z9 ?_; first | refine Z10 rfl (by assumption) (by rfl) ?_ | refine Z11 rfl (by assumption) ?_) | (refine Z12 ?_; first | refine Z13 (Z14 rfl (by decide) rfl) ?_ | refine Z13 (Z15 rfl (by decide) rfl) ?_) | (refine Z16 ?_; first | refine Z17 rfl ?_ | refine Z13 (Z88 rfl) ?_) | (refine Z19 ?_; first | refine Z20 rfl rfl (by omega) ?_ | refine Z21 rfl rfl (by omega) ?_ | refine Z22 rfl rfl (by omega) ?_ | refine Z23 rfl rfl (by omega) (by omega) ?_ | refine Z24 rfl rfl (by omega) (by omega) (by omega) ?_ | refine Z13 (Z25 rfl rfl) ?_ | refine Z13 (Z26 rfl rfl) ?_) | (refine Z27 ?_; refine Z13 (Z28 rfl (Z53 ⟨by omega, by omega⟩)) ?_) | (refine Z29 ?_; refine Z13 (Z30 rfl (by rfl) (by simp only [Z84, List.set_cons_zero, List.set_cons_succ]; rfl)) ?_) | refine Z31 ?_) | (refine Z32 ?_; first | refine Z33 ?_ | refine Z34 ?_ | refine Z35 ?_ | refine Z36 ?_ | refine Z37 ?_ | refine Z38 rfl ?_ | refine Z39 ?_ | refine Z40 ?_ | refine Z41 ?_) | (refine Z42 ?_; first | refine Z43 ?_ | refine Z44 ?_ | refine Z45 ?_ | refine Z46 ?_ | refine Z47 ?_ | refine Z48 ?_ | refine Z49 rfl (by decide) ?_ | refine Z50 rfl (by decide) ?_))); exact hX.out)) : Y := h ⟨x⟩
end Go.Proofs.YtnfapbghkmodeaaDoor
