/-
  What is proved here: what it is for a slice to hold numbers, and what the laws' helpers on such slices do: eqIntS, markIntS, heldIntS, bcInts.
-/
import Derived.Test.YtnfapbghkmodeaaDoorMem
namespace Go.Proofs.YtnfapbghkmodeaaDoor
set_option linter.unusedVariables false
set_option linter.unusedSimpArgs false
set_option linter.unnecessarySimpa false
open Go.RowKit

/-- Of what was there before only the blocks in F may have changed. -/
structure Chg (F : List Nat) (w w' : World) : Prop where
  os : w'.os = w.os
  tape : w'.tape = w.tape
  output : w'.output = w.output
  size : w.heap.size ≤ w'.heap.size
  block : ∀ k, k < w.heap.size → k ∉ F → w'.heap[k]? = w.heap[k]?
section
variable {w w' w'' w0 : World} {F G : List Nat} {b : Nat} {v : Value}
theorem Chg.refl (F : List Nat) (w : World) : Chg F w w := ⟨rfl, rfl, rfl, Nat.le_refl _, fun _ _ _ => rfl⟩
theorem Chg.trans (h : Chg F w w') (k : Chg F w' w'') : Chg F w w'' :=
  ⟨k.os.trans h.os, k.tape.trans h.tape, k.output.trans h.output, Nat.le_trans h.size k.size, fun i hi hn => (k.block i (Nat.lt_of_lt_of_le hi h.size) hn).trans (h.block i hi hn)⟩
theorem Chg.mono (h : Chg F w w') (hs : ∀ b ∈ F, b ∈ G) : Chg G w w' := ⟨h.os, h.tape, h.output, h.size, fun i hi hn => h.block i hi fun hf => hn (hs i hf)⟩
theorem Ext.chg (h : Ext w w') (F : List Nat) : Chg F w w' := ⟨h.os, h.tape, h.output, h.size, fun i hi _ => h.block i hi⟩
theorem Chg.ext (h : Chg [] w w') : Ext w w' := ⟨h.os, h.tape, h.output, h.size, fun i hi => h.block i hi (by simp)⟩
theorem Only.chg (h : Only b w w') : Chg [b] w w' := ⟨h.os, h.tape, h.output, by rw [h.size]; exact Nat.le_refl _, fun i _ hn => h.block i (by simpa using hn)⟩
theorem Chg.ext_of (h0 : Ext w0 w) (h : Chg F w w') (hF : ∀ b ∈ F, w0.heap.size ≤ b) : Ext w0 w' :=
  ⟨h.os.trans h0.os, h.tape.trans h0.tape, h.output.trans h0.output, Nat.le_trans h0.size h.size, fun i hi => (h.block i (Nat.lt_of_lt_of_le hi h0.size) fun hf => by have := hF i hf; omega).trans (h0.block i hi)⟩
theorem grown_chg {row : Option Nat} (h : w.grownBy w' row) : Chg row.toList w w' := ⟨h.os, h.tape, h.output, h.size, fun i hi hn => h.block i hi (by intro e; subst e; simp at hn)⟩
theorem Blk.chg {cs : List Value} {t : TypeId} (h : Blk w b cs t) (k : Chg F w w') (hn : b ∉ F) : Blk w' b cs t := (k.block b h.lt hn).trans h
theorem cell_chg {a : Addr} (h : w.cell? a = some v) (k : Chg F w w') (hn : a.block ∉ F) : w'.cell? a = some v :=
  (World.cell?_of_block (k.block a.block (World.block_lt_of_cell? w a h) hn)).trans h
end

def maxI : Nat := 4611686018427387904

/-- The slice holds these numbers, in the blocks F. -/
def IntF (w : World) (v : Value) (l : List Int) (F : List Nat) : Prop :=
  ∃ A c, v = .slice A l.length c ∧ (l.length ≤ maxI * 2 - 1 ∧ l.length ≤ c) ∧ ((l = [] ∧ F = []) ∨ ∃ b o, A = some ⟨b, o, none⟩ ∧ F = [b] ∧ ∀ (i : Nat) x, l[i]? = some x → w.cell? ⟨b, o + i * 1, none⟩ = some (.int .i64 x))
/-- The same, and the block is known whole: it may be written. -/
def OwnI (w : World) (v : Value) (l : List Int) (F : List Nat) : Prop :=
  ∃ A c, v = .slice A l.length c ∧ (l.length ≤ maxI * 2 - 1 ∧ l.length ≤ c) ∧ ((l = [] ∧ F = []) ∨ ∃ b o cs t, A = some ⟨b, o, none⟩ ∧ F = [b] ∧ Blk w b cs t ∧ o + l.length * 1 ≤ cs.length ∧ ∀ (i : Nat) x, l[i]? = some x → cs[o + i * 1]? = some (.int .i64 x))
section
variable {w w' : World} {v : Value} {l : List Int} {F G : List Nat}
theorem OwnI.int (h : OwnI w v l F) : IntF w v l F := by
  obtain ⟨A, c, rfl, hl, h | ⟨b, o, cs, t, rfl, rfl, hb, _, hx⟩⟩ := h
  · exact ⟨A, c, rfl, hl, .inl h⟩
  · exact ⟨_, c, rfl, hl, .inr ⟨b, o, rfl, rfl, fun i x hi => hb.cell (hx i x hi)⟩⟩
theorem IntF.chg (h : IntF w v l F) (k : Chg G w w') (hd : ∀ b ∈ F, b ∉ G) : IntF w' v l F := by
  obtain ⟨A, c, rfl, hl, h | ⟨b, o, rfl, rfl, hx⟩⟩ := h
  · exact ⟨A, c, rfl, hl, .inl h⟩
  · exact ⟨_, c, rfl, hl, .inr ⟨b, o, rfl, rfl, fun i x hi => cell_chg (hx i x hi) k (hd b (by simp))⟩⟩
theorem OwnI.chg (h : OwnI w v l F) (k : Chg G w w') (hd : ∀ b ∈ F, b ∉ G) : OwnI w' v l F := by
  obtain ⟨A, c, rfl, hl, h | ⟨b, o, cs, t, rfl, rfl, hb, hlen, hx⟩⟩ := h
  · exact ⟨A, c, rfl, hl, .inl h⟩
  · exact ⟨_, c, rfl, hl, .inr ⟨b, o, cs, t, rfl, rfl, hb.chg k (hd b (by simp)), hlen, hx⟩⟩
theorem IntF.ext (h : IntF w v l F) (he : Ext w w') : IntF w' v l F := h.chg (he.chg []) (by simp)
theorem OwnI.ext (h : OwnI w v l F) (he : Ext w w') : OwnI w' v l F := h.chg (he.chg []) (by simp)
theorem OwnI.lt (h : OwnI w v l F) : ∀ b ∈ F, b < w.heap.size := by
  obtain ⟨A, c, rfl, hl, ⟨rfl, rfl⟩ | ⟨b, o, cs, t, rfl, rfl, hb, _, hx⟩⟩ := h
  · simp
  · intro x hx; simp at hx; subst hx; exact hb.lt
/-- What append and make leave. -/
theorem OwnI.of_row {B e n : Nat} (h : w.ownsRow B e 1 v n (l.map (.int .i64))) (hn : n = l.length) (hm : l.length ≤ maxI) : ∃ F, OwnI w v l F ∧ (∀ b ∈ F, B ≤ b) ∧ F = v.ownBlock.toList := by
  subst hn
  have hm' : l.length ≤ maxI * 2 - 1 := by unfold maxI at *; omega
  obtain ⟨hl, ⟨rfl, h0⟩ | ⟨g, cap, cur, rfl, hB, hg, hnc, hcm, hcs, ht⟩⟩ := h
  · have : l = [] := List.eq_nil_of_length_eq_zero h0
    subst this
    exact ⟨[], ⟨none, 0, rfl, ⟨hm', Nat.zero_le _⟩, .inl ⟨rfl, rfl⟩⟩, by simp, rfl⟩
  · refine ⟨[g], ⟨_, cap, rfl, ⟨hm', hnc⟩, .inr ⟨g, 0, cur.toList, e, rfl, rfl, by simpa [Blk] using hg, by simp; omega, fun i x hi => ?_⟩⟩, by simpa using hB, rfl⟩
    have h1 : (l.map (Value.int .i64))[i]? = some (.int .i64 x) := by simp [hi]
    rw [← ht, List.getElem?_take] at h1
    split at h1
    · simpa using h1
    · cases h1
end

/-- A slice literal of numbers. -/
theorem WO_ints {P : Program} {n : Nat} {ops : Array Oper} {Q : Exit → Act → World → Prop} {rest : List Oper} {σ : Env} {w : World} {d : Nat} {ty : TypeId} {pos : String} {af : Array Edge}
    {t e bytes len : Nat} {z : Value} [TSl P t e 1] [TE P e z 1 bytes] {parts : Array (Nat × Operand)} (zs : List Int)
    (hp : parts.toList = (zs.zipIdx 0).map fun x => (x.2, Operand.const (.int .i64 x.1))) (hlen : zs.length = len) (hpos : Nat.ble 1 len = true) (hsmall : Nat.ble len 10000 = true)
    (h : ∀ w', OwnI w' (.slice (some ⟨w.heap.size, 0, none⟩) len len) zs [w.heap.size] → Ext w w' → w'.heap.size = w.heap.size + 1 → WO P n ops Q rest ((d, .slice (some ⟨w.heap.size, 0, none⟩) len len) :: σ) w') :
    WO P n ops Q (⟨some d, .buildSlice t len parts, ty, pos, af, none⟩ :: rest) σ w := by
  have hsm := Nat.le_of_ble_eq_true hsmall
  have hps := Nat.le_of_ble_eq_true hpos
  have hev : ∀ l : List Int, evs σ (l.map fun x => Operand.const (.int .i64 x)) = some (l.map (Value.int .i64)) := by
    intro l
    induction l with
    | nil => rfl
    | cons a r ih => simp [evs, ev, ih]
  have hfm : ∀ l : List Int, ((l.map (Value.int .i64)).flatMap fun v => v.cells.toList) = l.map (Value.int .i64) := by
    intro l
    induction l with
    | nil => rfl
    | cons a r ih => rw [List.map_cons, List.flatMap_cons, ih]; rfl
  refine WO_build (e := e) (k := 1) (zs.map fun x => Operand.const (.int .i64 x)) (by rw [hp, List.zipIdx_map, List.map_map]; rfl) (hev zs) (by simpa using hlen) (by rw [Nat.ble_eq]; omega) (by rw [Nat.ble_eq]; omega)
    (by intro v hv; obtain ⟨x, _, rfl⟩ := List.mem_map.1 hv; rfl) (hfm zs) fun w1 hb he hz => h w1 ?_ he hz
  refine ⟨_, len, by rw [hlen], by unfold maxI; omega, .inr ⟨_, 0, _, e, rfl, rfl, hb, by simp, fun i x hi => by simp [hi]⟩⟩

theorem take_succ_eq {α : Type} {la lb : List α} {i : Nat} (ha : i < la.length) (hb : i < lb.length) (ht : la.take i = lb.take i) (he : la[i] = lb[i]) : la.take (i + 1) = lb.take (i + 1) := by
  rw [List.take_succ_eq_append_getElem ha, List.take_succ_eq_append_getElem hb, ht, he]
theorem int_at {w : World} {A : Option Addr} {l : List Int} {F : List Nat} {i : Nat}
    (h : (l = [] ∧ F = []) ∨ ∃ b o, A = some ⟨b, o, none⟩ ∧ F = [b] ∧ ∀ (i : Nat) x, l[i]? = some x → w.cell? ⟨b, o + i * 1, none⟩ = some (.int .i64 x)) (hi : i < l.length) :
    ∃ b o, A = some ⟨b, o, none⟩ ∧ F = [b] ∧ w.cell? ⟨b, o + i * 1, none⟩ = some (.int .i64 l[i]) := by
  obtain ⟨rfl, _⟩ | ⟨b, o, rfl, hF, hc⟩ := h
  · simp at hi
  · exact ⟨b, o, rfl, hF, hc i _ (List.getElem?_eq_getElem hi)⟩

theorem bcInts_ret (va vb : Value) (la lb : List Int) (Fa Fb : List Nat) (w : World) (ha : IntF w va la Fa) (hb : IntF w vb lb Fb) :
    Ret Tryd.prog 14 [va, vb] w fun v w' => v = .bool (la == lb) ∧ Ext w w' := by
  obtain ⟨A, ca, rfl, hla, hA⟩ := ha
  obtain ⟨B, cb, rfl, hlb, hB⟩ := hb
  unfold maxI at hla hlb
  refine enter Tryd.func14 rfl Tryd.ntmps14 rfl rfl ?_
  refine goS ?_
  refine Z52 rfl (fun hc => ?_) (fun hc => ?_)
  · refine goS ?_
    refine at_ret1 rfl rfl ⟨?_, Ext.refl _⟩
    have : la ≠ lb := by rintro rfl; simp at hc
    simp [this]
  · have hlen : la.length = lb.length := by simp at hc; omega
    refine goS ?_
    refine W_loop (α := Nat) (fun i => [(0, .slice A la.length ca), (1, .slice B lb.length cb), (5, .int .i64 (i : Int))])
      (fun i w' => i ≤ la.length ∧ la.take i = lb.take i ∧ Ext w w') (fun i => la.length - i) 0 (by repeat (first | exact True.intro | refine And.intro rfl ?_)) ⟨Nat.zero_le _, rfl, Ext.refl _⟩ ?_
    rintro i w1 ⟨hi, ht, he⟩
    refine goS ?_
    refine Z52 rfl (fun hc => ?_) (fun hc => ?_)
    · have hlt : i < la.length := by simpa using hc
      have hlt2 : i < lb.length := by omega
      obtain ⟨ba, oa, rfl, _, hca⟩ := int_at hA hlt
      obtain ⟨bb, ob, rfl, _, hcb⟩ := int_at hB hlt2
      have hca := cell_ext hca he
      have hcb := cell_ext hcb he
      refine goS ?_
      refine Z54 (by kernel_rfl) (by kernel_rfl) ?_; repeat' (first | refine Z55 (Z56 rfl) ?_ | (refine Z57 ?_; first | refine Z58 rfl rfl (by decide) ?_ | refine Z59 rfl rfl (by decide) ?_ | refine Z60 rfl rfl ?_ | ((refine Z61 rfl rfl (fun c' hc' => ?_)); cases c' <;> (try simp only [decide_eq_true_eq, decide_eq_false_iff_not, beq_iff_eq, beq_eq_false_iff_ne, bne_iff_ne, bne_eq_false_iff_eq, ne_eq, gt_iff_lt, ge_iff_le, Int.not_lt, Int.not_le, Bool.not_eq_true', Bool.not_eq_false', Bool.not_true, Bool.not_false, reduceCtorEq, Decidable.not_not, not_true_eq_false, Bool.true_eq_false, Bool.false_eq_true] at hc') <;> (try (exfalso; omega)))) | (refine Z62 ?_; first | refine Z55 (Z63 rfl rfl) ?_ | refine Z55 (Z64 rfl rfl) ?_) | (refine Z65 ?_; first | refine Z55 (Z66 rfl (by assumption) (by rfl)) ?_ | refine Z55 (Z67 rfl (by assumption)) ?_) | (refine Z68 ?_; refine Z55 (Z69 rfl rfl rfl (by omega)) ?_) | (refine Z70 ?_; first | refine Z55 (Z14 rfl (by decide) rfl) ?_ | refine Z55 (Z15 rfl (by decide) rfl) ?_) | (refine Z71 ?_; first | refine Z55 (Z72 rfl) ?_ | refine Z55 (Z73 rfl) ?_) | (refine Z74 ?_; first | refine Z55 (Z75 rfl rfl (by omega)) ?_ | refine Z55 (Z76 rfl rfl (by omega)) ?_ | refine Z55 (Z77 rfl rfl (by omega)) ?_ | refine Z55 (Z78 rfl rfl (by omega) (by omega)) ?_ | refine Z55 (Z79 rfl rfl (by omega) (by omega) (by omega)) ?_ | refine Z55 (Z25 rfl rfl) ?_ | refine Z55 (Z26 rfl rfl) ?_) | (refine Z80 ?_; refine Z55 (Z28 rfl (Z53 ⟨by omega, by omega⟩)) ?_) | refine Z81 fun w' hw' => ?_)
      refine goS ?_
      refine Z52 rfl (fun hc => ?_) (fun hc => ?_)
      · refine goS ?_
        refine at_ret1 rfl rfl ⟨?_, he.trans hw'⟩
        have : la ≠ lb := by rintro rfl; simp at hc
        simp [this]
      · have heq : la[i] = lb[i] := by simpa using hc
        refine goS ?_
        refine at_loop (i + 1) (by repeat (first | exact True.intro | refine And.intro rfl ?_)) ⟨by omega, take_succ_eq hlt hlt2 ht heq, he.trans hw'⟩ (by omega)
    · have hge : i = la.length := by simp at hc; omega
      refine goS ?_
      refine at_ret1 rfl rfl ⟨?_, he⟩
      subst hge
      rw [List.take_length, hlen, List.take_length] at ht
      simp [ht]

/-- k, k + 1, .. -/
def marks : Int → Nat → List Int
  | _, 0 => []
  | k, n + 1 => k :: marks (k + 1) n
theorem marks_length (k : Int) (n : Nat) : (marks k n).length = n := by
  induction n generalizing k with
  | zero => rfl
  | succ n ih => simp [marks, ih]
theorem marks_at : ∀ (n : Nat) (k : Int) (i : Nat), i < n → (marks k n)[i]? = some (k + i)
  | 0, _, _, h => by omega
  | n + 1, k, 0, _ => by simp [marks]
  | n + 1, k, i + 1, h => by
    simp only [marks, List.getElem?_cons_succ]
    rw [marks_at n (k + 1) i (by omega)]
    congr 1
    omega

end Go.Proofs.YtnfapbghkmodeaaDoor
