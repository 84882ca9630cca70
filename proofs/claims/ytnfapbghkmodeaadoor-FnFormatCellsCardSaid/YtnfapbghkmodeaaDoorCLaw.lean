/-
  What is proved here: what the laws' helpers on tags and cells compute: their size, copies, equality, marks.
-/
import Derived.Test.YtnfapbghkmodeaaDoorCell
import Derived.Test.YtnfapbghkmodeaaDoorCho
namespace Go.Proofs.YtnfapbghkmodeaaDoor
set_option linter.unusedVariables false
set_option linter.unusedSimpArgs false
set_option linter.unnecessarySimpa false
open Go.RowKit

def tgV (t : Tg) : Value := .agg #[.int .i64 t.id, .bool t.u]
def ceV (c : Ce) (vs : Value) : Value := .agg #[.int .i64 c.val, .bool c.al, .int .i64 c.nx, vs]
def cSize (l : List Ce) : Nat := l.length + (l.map fun c => c.st.length).sum

theorem szTagS_ret (v : Value) (l : List Tg) (F : List Nat) (left : Int) (w : World) (h : TgS w v l F) (h0 : 0 ≤ left) (h1 : left ≤ 1048576) :
    Ret Tryd.prog 26 [v, .int .i64 left] w fun r w' => r = .int .i64 (if (l.length : Int) ≤ left then left - l.length else -1) ∧ w' = w := by
  obtain ⟨A, c, rfl, hl⟩ := h.slice
  unfold maxI at hl
  refine enter Tryd.func26 rfl Tryd.ntmps26 rfl rfl ?_
  (refine goS ?_; repeat' (first | ((refine Z51 rfl rfl (fun c' hc' => ?_)); cases c' <;> (try simp only [decide_eq_true_eq, decide_eq_false_iff_not, beq_iff_eq, beq_eq_false_iff_ne, bne_iff_ne, bne_eq_false_iff_eq, ne_eq, gt_iff_lt, ge_iff_le, Int.not_lt, Int.not_le, Bool.not_eq_true', Bool.not_eq_false', Bool.not_true, Bool.not_false, reduceCtorEq, Decidable.not_not, not_true_eq_false, Bool.true_eq_false, Bool.false_eq_true] at hc') <;> (try (exfalso; omega)) <;> refine goS ?_) | ((refine Z52 rfl (fun hc' => ?_) (fun hc' => ?_)) <;> (try simp only [decide_eq_true_eq, decide_eq_false_iff_not, beq_iff_eq, beq_eq_false_iff_ne, bne_iff_ne, bne_eq_false_iff_eq, ne_eq, gt_iff_lt, ge_iff_le, Int.not_lt, Int.not_le, Bool.not_eq_true', Bool.not_eq_false', Bool.not_true, Bool.not_false, reduceCtorEq, Decidable.not_not, not_true_eq_false, Bool.true_eq_false, Bool.false_eq_true] at hc') <;> (try (exfalso; omega)) <;> refine goS ?_)))
  all_goals (refine at_ret1 rfl rfl ⟨?_, rfl⟩; congr 1; first | (rw [if_pos (by omega)]) | (rw [if_neg (by omega)]))
theorem szCell_ret (vs : Value) (cl : Ce) (F : List Nat) (left : Int) (w : World) (h : TgS w vs cl.st F) (h0 : 0 ≤ left) (h1 : left ≤ 1048576) :
    Ret Tryd.prog 16 [ceV cl vs, .int .i64 left] w fun r w' => r = .int .i64 (if (cl.st.length : Int) ≤ left then left - cl.st.length else -1) ∧ Ext w w' := by
  refine enter Tryd.func16 rfl Tryd.ntmps16 rfl rfl ?_
  refine Z43 (Z44 (WO_box rfl fun w1 hs he1 hz1 => ?_))
  replace hs : Blk w1 w.heap.size [.int .i64 cl.val, .bool cl.al, .int .i64 cl.nx, vs] _ := hs
  refine goS ?_
  refine WO_call rfl (szTagS_ret vs cl.st F left w1 (h.ext he1) h0 h1) ?_
  rintro r w2 ⟨rfl, rfl⟩
  by_cases hle : (cl.st.length : Int) ≤ left
  · rw [if_pos hle]
    (refine goS ?_; repeat' (first | ((refine Z51 rfl rfl (fun c' hc' => ?_)); cases c' <;> (try simp only [decide_eq_true_eq, decide_eq_false_iff_not, beq_iff_eq, beq_eq_false_iff_ne, bne_iff_ne, bne_eq_false_iff_eq, ne_eq, gt_iff_lt, ge_iff_le, Int.not_lt, Int.not_le, Bool.not_eq_true', Bool.not_eq_false', Bool.not_true, Bool.not_false, reduceCtorEq, Decidable.not_not, not_true_eq_false, Bool.true_eq_false, Bool.false_eq_true] at hc') <;> (try (exfalso; omega)) <;> refine goS ?_) | ((refine Z52 rfl (fun hc' => ?_) (fun hc' => ?_)) <;> (try simp only [decide_eq_true_eq, decide_eq_false_iff_not, beq_iff_eq, beq_eq_false_iff_ne, bne_iff_ne, bne_eq_false_iff_eq, ne_eq, gt_iff_lt, ge_iff_le, Int.not_lt, Int.not_le, Bool.not_eq_true', Bool.not_eq_false', Bool.not_true, Bool.not_false, reduceCtorEq, Decidable.not_not, not_true_eq_false, Bool.true_eq_false, Bool.false_eq_true] at hc') <;> (try (exfalso; omega)) <;> refine goS ?_)))
    exact at_ret1 rfl rfl ⟨rfl, he1⟩
  · rw [if_neg hle]
    (refine goS ?_; repeat' (first | ((refine Z51 rfl rfl (fun c' hc' => ?_)); cases c' <;> (try simp only [decide_eq_true_eq, decide_eq_false_iff_not, beq_iff_eq, beq_eq_false_iff_ne, bne_iff_ne, bne_eq_false_iff_eq, ne_eq, gt_iff_lt, ge_iff_le, Int.not_lt, Int.not_le, Bool.not_eq_true', Bool.not_eq_false', Bool.not_true, Bool.not_false, reduceCtorEq, Decidable.not_not, not_true_eq_false, Bool.true_eq_false, Bool.false_eq_true] at hc') <;> (try (exfalso; omega)) <;> refine goS ?_) | ((refine Z52 rfl (fun hc' => ?_) (fun hc' => ?_)) <;> (try simp only [decide_eq_true_eq, decide_eq_false_iff_not, beq_iff_eq, beq_eq_false_iff_ne, bne_iff_ne, bne_eq_false_iff_eq, ne_eq, gt_iff_lt, ge_iff_le, Int.not_lt, Int.not_le, Bool.not_eq_true', Bool.not_eq_false', Bool.not_true, Bool.not_false, reduceCtorEq, Decidable.not_not, not_true_eq_false, Bool.true_eq_false, Bool.false_eq_true] at hc') <;> (try (exfalso; omega)) <;> refine goS ?_)))
    exact at_ret1 rfl rfl ⟨rfl, he1⟩
theorem szCellS_ret (v : Value) (l : List Ce) (F : List Nat) (left : Int) (w : World) (h : CeS w v l F) (h0 : 0 ≤ left) (h1 : left ≤ 1048576) :
    Ret Tryd.prog 5 [v, .int .i64 left] w fun r w' => (∃ i : Int, r = .int .i64 i ∧ i ≤ 1048576 ∧ (0 ≤ i → (cSize l : Int) ≤ left)) ∧ Ext w w' := by
  obtain ⟨A, c, rfl, hl⟩ := h.slice
  unfold maxI at hl
  refine enter Tryd.func5 rfl Tryd.ntmps5 rfl rfl ?_
  (refine goS ?_; repeat' (first | ((refine Z51 rfl rfl (fun c' hc' => ?_)); cases c' <;> (try simp only [decide_eq_true_eq, decide_eq_false_iff_not, beq_iff_eq, beq_eq_false_iff_ne, bne_iff_ne, bne_eq_false_iff_eq, ne_eq, gt_iff_lt, ge_iff_le, Int.not_lt, Int.not_le, Bool.not_eq_true', Bool.not_eq_false', Bool.not_true, Bool.not_false, reduceCtorEq, Decidable.not_not, not_true_eq_false, Bool.true_eq_false, Bool.false_eq_true] at hc') <;> (try (exfalso; omega)) <;> refine goS ?_) | ((refine Z52 rfl (fun hc' => ?_) (fun hc' => ?_)) <;> (try simp only [decide_eq_true_eq, decide_eq_false_iff_not, beq_iff_eq, beq_eq_false_iff_ne, bne_iff_ne, bne_eq_false_iff_eq, ne_eq, gt_iff_lt, ge_iff_le, Int.not_lt, Int.not_le, Bool.not_eq_true', Bool.not_eq_false', Bool.not_true, Bool.not_false, reduceCtorEq, Decidable.not_not, not_true_eq_false, Bool.true_eq_false, Bool.false_eq_true] at hc') <;> (try (exfalso; omega)) <;> refine goS ?_)))
  · exact at_ret1 rfl rfl ⟨⟨-1, rfl, by omega, fun h => by omega⟩, Ext.refl _⟩
  · refine W_loop (α := Nat × Int) (fun p => [(0, .slice A l.length c), (1, .int .i64 p.2), (5, .int .i64 (p.1 : Int))])
      (fun p w' => p.1 ≤ l.length ∧ 0 ≤ p.2 ∧ p.2 = left - l.length - ((l.take p.1).map fun c => c.st.length).sum ∧ Ext w w') (fun p => l.length - p.1) (0, left - l.length) (by repeat (first | exact True.intro | refine And.intro rfl ?_)) ⟨Nat.zero_le _, by omega, by simp, Ext.refl _⟩ ?_
    rintro ⟨i, lf⟩ w1 ⟨hi, hp, hsum, he⟩
    simp only at hi hp hsum ⊢
    refine goS ?_
    refine Z52 rfl (fun hc => ?_) (fun hc => ?_)
    · have hlt : i < l.length := by simpa using hc
      obtain ⟨b, o, vs, Fs, rfl, hbF, c0, c1, c2, c3, hst, hFs⟩ := ces_at (h.ext he) hlt
      refine goS ?_
      refine Z83 rfl rfl rfl hlt ?_
      refine WO_loadS rfl rfl (four c0 c1 c2 c3) ?_
      refine goS ?_
      refine WO_call rfl (szCell_ret vs l[i] Fs lf w1 hst hp (by omega)) ?_
      rintro r w2 ⟨rfl, he2⟩
      have hadd : ((l.take (i + 1)).map fun c => c.st.length).sum = ((l.take i).map fun c => c.st.length).sum + l[i].st.length := by
        rw [List.take_succ_eq_append_getElem hlt, List.map_append, List.sum_append]
        simp only [List.map_cons, List.map_nil, List.sum_cons, List.sum_nil, Nat.add_zero]
      by_cases hle : (l[i].st.length : Int) ≤ lf
      · rw [if_pos hle]
        clear hst
        (refine goS ?_; repeat' (first | ((refine Z51 rfl rfl (fun c' hc' => ?_)); cases c' <;> (try simp only [decide_eq_true_eq, decide_eq_false_iff_not, beq_iff_eq, beq_eq_false_iff_ne, bne_iff_ne, bne_eq_false_iff_eq, ne_eq, gt_iff_lt, ge_iff_le, Int.not_lt, Int.not_le, Bool.not_eq_true', Bool.not_eq_false', Bool.not_true, Bool.not_false, reduceCtorEq, Decidable.not_not, not_true_eq_false, Bool.true_eq_false, Bool.false_eq_true] at hc') <;> (try (exfalso; omega)) <;> refine goS ?_) | ((refine Z52 rfl (fun hc' => ?_) (fun hc' => ?_)) <;> (try simp only [decide_eq_true_eq, decide_eq_false_iff_not, beq_iff_eq, beq_eq_false_iff_ne, bne_iff_ne, bne_eq_false_iff_eq, ne_eq, gt_iff_lt, ge_iff_le, Int.not_lt, Int.not_le, Bool.not_eq_true', Bool.not_eq_false', Bool.not_true, Bool.not_false, reduceCtorEq, Decidable.not_not, not_true_eq_false, Bool.true_eq_false, Bool.false_eq_true] at hc') <;> (try (exfalso; omega)) <;> refine goS ?_)))
        refine at_loop (i + 1, lf - l[i].st.length) (by repeat (first | exact True.intro | refine And.intro rfl ?_)) ⟨hlt, by simp only; omega, by simp only; rw [hadd]; omega, he.trans he2⟩ (by simp only; omega)
      · rw [if_neg hle]
        (refine goS ?_; repeat' (first | ((refine Z51 rfl rfl (fun c' hc' => ?_)); cases c' <;> (try simp only [decide_eq_true_eq, decide_eq_false_iff_not, beq_iff_eq, beq_eq_false_iff_ne, bne_iff_ne, bne_eq_false_iff_eq, ne_eq, gt_iff_lt, ge_iff_le, Int.not_lt, Int.not_le, Bool.not_eq_true', Bool.not_eq_false', Bool.not_true, Bool.not_false, reduceCtorEq, Decidable.not_not, not_true_eq_false, Bool.true_eq_false, Bool.false_eq_true] at hc') <;> (try (exfalso; omega)) <;> refine goS ?_) | ((refine Z52 rfl (fun hc' => ?_) (fun hc' => ?_)) <;> (try simp only [decide_eq_true_eq, decide_eq_false_iff_not, beq_iff_eq, beq_eq_false_iff_ne, bne_iff_ne, bne_eq_false_iff_eq, ne_eq, gt_iff_lt, ge_iff_le, Int.not_lt, Int.not_le, Bool.not_eq_true', Bool.not_eq_false', Bool.not_true, Bool.not_false, reduceCtorEq, Decidable.not_not, not_true_eq_false, Bool.true_eq_false, Bool.false_eq_true] at hc') <;> (try (exfalso; omega)) <;> refine goS ?_)))
        exact at_ret1 rfl rfl ⟨⟨-1, rfl, by omega, fun h => by omega⟩, he.trans he2⟩
    · have hge : i = l.length := by simp at hc; omega
      subst hge
      rw [List.take_length] at hsum
      refine goS ?_
      exact at_ret1 rfl rfl ⟨⟨lf, rfl, by omega, fun _ => by unfold cSize; omega⟩, he⟩
theorem take_succ_eqG {α : Type} {la lb : List α} {i : Nat} (ha : i < la.length) (hb : i < lb.length) (ht : la.take i = lb.take i) (he : la[i] = lb[i]) : la.take (i + 1) = lb.take (i + 1) := by
  rw [List.take_succ_eq_append_getElem ha, List.take_succ_eq_append_getElem hb, ht, he]
theorem eqTag_ret (a b : Tg) (w : World) : Ret Tryd.prog 37 [tgV a, tgV b] w fun r w' => r = .bool (decide (a = b)) ∧ Ext w w' := by
  obtain ⟨ai, au⟩ := a
  obtain ⟨bi, bu⟩ := b
  refine enter Tryd.func37 rfl Tryd.ntmps37 rfl rfl ?_
  refine Z43 (Z44 (WO_box rfl fun w1 h1 e1 z1 => WO_box rfl fun w2 h2 e2 z2 => ?_))
  replace h1 : Blk w2 w.heap.size [.int .i64 ai, .bool au] _ := Blk.ext h1 e2
  replace h2 : Blk w2 w1.heap.size [.int .i64 bi, .bool bu] _ := h2
  simp only [z1] at h2
  simp only [z1]
  (refine goS ?_; repeat' (first | ((refine Z51 rfl rfl (fun c' hc' => ?_)); cases c' <;> (try simp only [decide_eq_true_eq, decide_eq_false_iff_not, beq_iff_eq, beq_eq_false_iff_ne, bne_iff_ne, bne_eq_false_iff_eq, ne_eq, gt_iff_lt, ge_iff_le, Int.not_lt, Int.not_le, Bool.not_eq_true', Bool.not_eq_false', Bool.not_true, Bool.not_false, reduceCtorEq, Decidable.not_not, not_true_eq_false, Bool.true_eq_false, Bool.false_eq_true] at hc') <;> (try (exfalso; omega)) <;> refine goS ?_) | ((refine Z52 rfl (fun hc' => ?_) (fun hc' => ?_)) <;> (try simp only [decide_eq_true_eq, decide_eq_false_iff_not, beq_iff_eq, beq_eq_false_iff_ne, bne_iff_ne, bne_eq_false_iff_eq, ne_eq, gt_iff_lt, ge_iff_le, Int.not_lt, Int.not_le, Bool.not_eq_true', Bool.not_eq_false', Bool.not_true, Bool.not_false, reduceCtorEq, Decidable.not_not, not_true_eq_false, Bool.true_eq_false, Bool.false_eq_true] at hc') <;> (try (exfalso; omega)) <;> refine goS ?_)))
  all_goals (refine at_ret1 rfl rfl ⟨congrArg Value.bool ?_, e1.trans e2⟩; simp_all)
theorem eqTagS_ret (va vb : Value) (la lb : List Tg) (Fa Fb : List Nat) (w : World) (ha : TgS w va la Fa) (hb : TgS w vb lb Fb) :
    Ret Tryd.prog 31 [va, vb] w fun r w' => r = .bool (decide (la = lb)) ∧ Ext w w' := by
  obtain ⟨A, ca, rfl, hla⟩ := ha.slice
  obtain ⟨B, cb, rfl, hlb⟩ := hb.slice
  unfold maxI at hla hlb
  refine enter Tryd.func31 rfl Tryd.ntmps31 rfl rfl ?_
  refine goS ?_
  refine Z52 rfl (fun hc => ?_) (fun hc => ?_)
  · refine goS ?_
    refine at_ret1 rfl rfl ⟨?_, Ext.refl _⟩
    have : la ≠ lb := by rintro rfl; simp at hc
    simp [this]
  · have hlen : la.length = lb.length := by simp at hc; omega
    refine goS ?_
    refine W_loop (α := Nat) (fun i => [(0, .slice A la.length ca), (1, .slice B lb.length cb), (5, .int .i64 (i : Int))])
      (fun i w' => i ≤ la.length ∧ la.take i = lb.take i ∧ Ext w w') (fun i => la.length - i) 0 (by repeat (first | exact True.intro | refine And.intro rfl ?_)) ⟨Nat.zero_le _, rfl, Ext.refl _⟩ ?_
    rintro i w1 ⟨hi, ht, he⟩
    refine goS ?_
    refine Z52 rfl (fun hc => ?_) (fun hc => ?_)
    · have hlt : i < la.length := by simpa using hc
      have hlt2 : i < lb.length := by omega
      obtain ⟨ba, oa, rfl, _, a0, a1⟩ := tgs_at (ha.ext he) hlt
      obtain ⟨bb, ob, rfl, _, b0, b1⟩ := tgs_at (hb.ext he) hlt2
      refine goS ?_
      refine Z54 (by kernel_rfl) (by kernel_rfl) ?_
      repeat' (first | refine Z55 (Z56 rfl) ?_ | (refine Z57 ?_; first | refine Z58 rfl rfl (by decide) ?_ | refine Z59 rfl rfl (by decide) ?_ | refine Z60 rfl rfl ?_ | ((refine Z61 rfl rfl (fun c' hc' => ?_)); cases c' <;> (try simp only [decide_eq_true_eq, decide_eq_false_iff_not, beq_iff_eq, beq_eq_false_iff_ne, bne_iff_ne, bne_eq_false_iff_eq, ne_eq, gt_iff_lt, ge_iff_le, Int.not_lt, Int.not_le, Bool.not_eq_true', Bool.not_eq_false', Bool.not_true, Bool.not_false, reduceCtorEq, Decidable.not_not, not_true_eq_false, Bool.true_eq_false, Bool.false_eq_true] at hc') <;> (try (exfalso; omega)))) | (refine Z62 ?_; first | refine Z55 (Z63 rfl rfl) ?_ | refine Z55 (Z64 rfl rfl) ?_) | (refine Z65 ?_; first | refine Z55 (Z66 rfl (by assumption) (by rfl)) ?_ | refine Z55 (Z67 rfl (by assumption)) ?_) | (refine Z68 ?_; refine Z55 (Z69 rfl rfl rfl (by omega)) ?_) | (refine Z70 ?_; first | refine Z55 (Z14 rfl (by decide) rfl) ?_ | refine Z55 (Z15 rfl (by decide) rfl) ?_) | (refine Z71 ?_; first | refine Z55 (Z72 rfl) ?_ | refine Z55 (Z73 rfl) ?_) | (refine Z74 ?_; first | refine Z55 (Z75 rfl rfl (by omega)) ?_ | refine Z55 (Z76 rfl rfl (by omega)) ?_ | refine Z55 (Z77 rfl rfl (by omega)) ?_ | refine Z55 (Z78 rfl rfl (by omega) (by omega)) ?_ | refine Z55 (Z79 rfl rfl (by omega) (by omega) (by omega)) ?_ | refine Z55 (Z25 rfl rfl) ?_ | refine Z55 (Z26 rfl rfl) ?_) | (refine Z80 ?_; refine Z55 (Z28 rfl (Z53 ⟨by omega, by omega⟩)) ?_) | refine Z81 fun w' hw' => ?_)
      refine Z55 (q_loadS rfl rfl (two a0 a1)) ?_
      repeat' (first | refine Z55 (Z56 rfl) ?_ | (refine Z57 ?_; first | refine Z58 rfl rfl (by decide) ?_ | refine Z59 rfl rfl (by decide) ?_ | refine Z60 rfl rfl ?_ | ((refine Z61 rfl rfl (fun c' hc' => ?_)); cases c' <;> (try simp only [decide_eq_true_eq, decide_eq_false_iff_not, beq_iff_eq, beq_eq_false_iff_ne, bne_iff_ne, bne_eq_false_iff_eq, ne_eq, gt_iff_lt, ge_iff_le, Int.not_lt, Int.not_le, Bool.not_eq_true', Bool.not_eq_false', Bool.not_true, Bool.not_false, reduceCtorEq, Decidable.not_not, not_true_eq_false, Bool.true_eq_false, Bool.false_eq_true] at hc') <;> (try (exfalso; omega)))) | (refine Z62 ?_; first | refine Z55 (Z63 rfl rfl) ?_ | refine Z55 (Z64 rfl rfl) ?_) | (refine Z65 ?_; first | refine Z55 (Z66 rfl (by assumption) (by rfl)) ?_ | refine Z55 (Z67 rfl (by assumption)) ?_) | (refine Z68 ?_; refine Z55 (Z69 rfl rfl rfl (by omega)) ?_) | (refine Z70 ?_; first | refine Z55 (Z14 rfl (by decide) rfl) ?_ | refine Z55 (Z15 rfl (by decide) rfl) ?_) | (refine Z71 ?_; first | refine Z55 (Z72 rfl) ?_ | refine Z55 (Z73 rfl) ?_) | (refine Z74 ?_; first | refine Z55 (Z75 rfl rfl (by omega)) ?_ | refine Z55 (Z76 rfl rfl (by omega)) ?_ | refine Z55 (Z77 rfl rfl (by omega)) ?_ | refine Z55 (Z78 rfl rfl (by omega) (by omega)) ?_ | refine Z55 (Z79 rfl rfl (by omega) (by omega) (by omega)) ?_ | refine Z55 (Z25 rfl rfl) ?_ | refine Z55 (Z26 rfl rfl) ?_) | (refine Z80 ?_; refine Z55 (Z28 rfl (Z53 ⟨by omega, by omega⟩)) ?_) | refine Z81 fun w' hw' => ?_)
      refine Z55 (q_loadS rfl rfl (two b0 b1)) ?_
      refine WQ_call rfl (fun w' _ => (eqTag_ret la[i] lb[i] w').mono (by rintro u w'' ⟨rfl, h⟩; exact ⟨rfl, h⟩)) ?_
      repeat' (first | refine Z55 (Z56 rfl) ?_ | (refine Z57 ?_; first | refine Z58 rfl rfl (by decide) ?_ | refine Z59 rfl rfl (by decide) ?_ | refine Z60 rfl rfl ?_ | ((refine Z61 rfl rfl (fun c' hc' => ?_)); cases c' <;> (try simp only [decide_eq_true_eq, decide_eq_false_iff_not, beq_iff_eq, beq_eq_false_iff_ne, bne_iff_ne, bne_eq_false_iff_eq, ne_eq, gt_iff_lt, ge_iff_le, Int.not_lt, Int.not_le, Bool.not_eq_true', Bool.not_eq_false', Bool.not_true, Bool.not_false, reduceCtorEq, Decidable.not_not, not_true_eq_false, Bool.true_eq_false, Bool.false_eq_true] at hc') <;> (try (exfalso; omega)))) | (refine Z62 ?_; first | refine Z55 (Z63 rfl rfl) ?_ | refine Z55 (Z64 rfl rfl) ?_) | (refine Z65 ?_; first | refine Z55 (Z66 rfl (by assumption) (by rfl)) ?_ | refine Z55 (Z67 rfl (by assumption)) ?_) | (refine Z68 ?_; refine Z55 (Z69 rfl rfl rfl (by omega)) ?_) | (refine Z70 ?_; first | refine Z55 (Z14 rfl (by decide) rfl) ?_ | refine Z55 (Z15 rfl (by decide) rfl) ?_) | (refine Z71 ?_; first | refine Z55 (Z72 rfl) ?_ | refine Z55 (Z73 rfl) ?_) | (refine Z74 ?_; first | refine Z55 (Z75 rfl rfl (by omega)) ?_ | refine Z55 (Z76 rfl rfl (by omega)) ?_ | refine Z55 (Z77 rfl rfl (by omega)) ?_ | refine Z55 (Z78 rfl rfl (by omega) (by omega)) ?_ | refine Z55 (Z79 rfl rfl (by omega) (by omega) (by omega)) ?_ | refine Z55 (Z25 rfl rfl) ?_ | refine Z55 (Z26 rfl rfl) ?_) | (refine Z80 ?_; refine Z55 (Z28 rfl (Z53 ⟨by omega, by omega⟩)) ?_) | refine Z81 fun w' hw' => ?_)
      refine goS ?_
      refine Z52 rfl (fun hc => ?_) (fun hc => ?_)
      · refine goS ?_
        refine at_ret1 rfl rfl ⟨?_, he.trans hw'⟩
        have : la ≠ lb := by rintro rfl; simp at hc
        simp [this]
      · have heq : la[i] = lb[i] := by simpa using hc
        refine goS ?_
        refine at_loop (i + 1) (by repeat (first | exact True.intro | refine And.intro rfl ?_)) ⟨by omega, take_succ_eqG hlt hlt2 ht heq, he.trans hw'⟩ (by omega)
    · have hge : i = la.length := by simp at hc; omega
      refine goS ?_
      refine at_ret1 rfl rfl ⟨?_, he⟩
      subst hge
      rw [List.take_length, hlen, List.take_length] at ht
      simp [ht]
theorem eqCell_ret (a b : Ce) (va vb : Value) (Fa Fb : List Nat) (w : World) (ha : TgS w va a.st Fa) (hb : TgS w vb b.st Fb) :
    Ret Tryd.prog 22 [ceV a va, ceV b vb] w fun r w' => r = .bool (decide (a = b)) ∧ Ext w w' := by
  obtain ⟨av, aa, an, ast⟩ := a
  obtain ⟨bv, ba, bn, bst⟩ := b
  simp only at ha hb
  refine enter Tryd.func22 rfl Tryd.ntmps22 rfl rfl ?_
  refine Z43 (Z44 (WO_box rfl fun w1 h1 e1 z1 => WO_box rfl fun w2 h2 e2 z2 => ?_))
  replace h1 : Blk w2 w.heap.size [.int .i64 av, .bool aa, .int .i64 an, va] _ := Blk.ext h1 e2
  replace h2 : Blk w2 w1.heap.size [.int .i64 bv, .bool ba, .int .i64 bn, vb] _ := h2
  simp only [z1] at h2
  simp only [z1]
  have e12 := e1.trans e2
  replace ha := ha.ext e12
  replace hb := hb.ext e12
  (refine goS ?_; repeat' (first | ((refine Z51 rfl rfl (fun c' hc' => ?_)); cases c' <;> (try simp only [decide_eq_true_eq, decide_eq_false_iff_not, beq_iff_eq, beq_eq_false_iff_ne, bne_iff_ne, bne_eq_false_iff_eq, ne_eq, gt_iff_lt, ge_iff_le, Int.not_lt, Int.not_le, Bool.not_eq_true', Bool.not_eq_false', Bool.not_true, Bool.not_false, reduceCtorEq, Decidable.not_not, not_true_eq_false, Bool.true_eq_false, Bool.false_eq_true] at hc') <;> (try (exfalso; omega)) <;> refine goS ?_) | ((refine Z52 rfl (fun hc' => ?_) (fun hc' => ?_)) <;> (try simp only [decide_eq_true_eq, decide_eq_false_iff_not, beq_iff_eq, beq_eq_false_iff_ne, bne_iff_ne, bne_eq_false_iff_eq, ne_eq, gt_iff_lt, ge_iff_le, Int.not_lt, Int.not_le, Bool.not_eq_true', Bool.not_eq_false', Bool.not_true, Bool.not_false, reduceCtorEq, Decidable.not_not, not_true_eq_false, Bool.true_eq_false, Bool.false_eq_true] at hc') <;> (try (exfalso; omega)) <;> refine goS ?_)))
  all_goals first
    | (refine at_ret1 rfl rfl ⟨congrArg Value.bool ?_, e12⟩; simp_all; done)
    | skip
  refine WO_call rfl (eqTagS_ret va vb ast bst Fa Fb w2 ha hb) ?_
  rintro r w3 ⟨rfl, e3⟩
  by_cases hs : ast = bst
  · rw [decide_eq_true hs]
    (refine goS ?_; repeat' (first | ((refine Z51 rfl rfl (fun c' hc' => ?_)); cases c' <;> (try simp only [decide_eq_true_eq, decide_eq_false_iff_not, beq_iff_eq, beq_eq_false_iff_ne, bne_iff_ne, bne_eq_false_iff_eq, ne_eq, gt_iff_lt, ge_iff_le, Int.not_lt, Int.not_le, Bool.not_eq_true', Bool.not_eq_false', Bool.not_true, Bool.not_false, reduceCtorEq, Decidable.not_not, not_true_eq_false, Bool.true_eq_false, Bool.false_eq_true] at hc') <;> (try (exfalso; omega)) <;> refine goS ?_) | ((refine Z52 rfl (fun hc' => ?_) (fun hc' => ?_)) <;> (try simp only [decide_eq_true_eq, decide_eq_false_iff_not, beq_iff_eq, beq_eq_false_iff_ne, bne_iff_ne, bne_eq_false_iff_eq, ne_eq, gt_iff_lt, ge_iff_le, Int.not_lt, Int.not_le, Bool.not_eq_true', Bool.not_eq_false', Bool.not_true, Bool.not_false, reduceCtorEq, Decidable.not_not, not_true_eq_false, Bool.true_eq_false, Bool.false_eq_true] at hc') <;> (try (exfalso; omega)) <;> refine goS ?_)))
    refine at_ret1 rfl rfl ⟨congrArg Value.bool ?_, e12.trans e3⟩
    simp_all
  · rw [decide_eq_false hs]
    (refine goS ?_; repeat' (first | ((refine Z51 rfl rfl (fun c' hc' => ?_)); cases c' <;> (try simp only [decide_eq_true_eq, decide_eq_false_iff_not, beq_iff_eq, beq_eq_false_iff_ne, bne_iff_ne, bne_eq_false_iff_eq, ne_eq, gt_iff_lt, ge_iff_le, Int.not_lt, Int.not_le, Bool.not_eq_true', Bool.not_eq_false', Bool.not_true, Bool.not_false, reduceCtorEq, Decidable.not_not, not_true_eq_false, Bool.true_eq_false, Bool.false_eq_true] at hc') <;> (try (exfalso; omega)) <;> refine goS ?_) | ((refine Z52 rfl (fun hc' => ?_) (fun hc' => ?_)) <;> (try simp only [decide_eq_true_eq, decide_eq_false_iff_not, beq_iff_eq, beq_eq_false_iff_ne, bne_iff_ne, bne_eq_false_iff_eq, ne_eq, gt_iff_lt, ge_iff_le, Int.not_lt, Int.not_le, Bool.not_eq_true', Bool.not_eq_false', Bool.not_true, Bool.not_false, reduceCtorEq, Decidable.not_not, not_true_eq_false, Bool.true_eq_false, Bool.false_eq_true] at hc') <;> (try (exfalso; omega)) <;> refine goS ?_)))
    refine at_ret1 rfl rfl ⟨congrArg Value.bool ?_, e12.trans e3⟩
    simp_all
theorem eqCellS_ret (va vb : Value) (la lb : List Ce) (Fa Fb : List Nat) (w : World) (ha : CeS w va la Fa) (hb : CeS w vb lb Fb) :
    Ret Tryd.prog 9 [va, vb] w fun r w' => r = .bool (decide (la = lb)) ∧ Ext w w' := by
  obtain ⟨A, ca, rfl, hla⟩ := ha.slice
  obtain ⟨B, cb, rfl, hlb⟩ := hb.slice
  unfold maxI at hla hlb
  refine enter Tryd.func9 rfl Tryd.ntmps9 rfl rfl ?_
  refine goS ?_
  refine Z52 rfl (fun hc => ?_) (fun hc => ?_)
  · refine goS ?_
    refine at_ret1 rfl rfl ⟨?_, Ext.refl _⟩
    have : la ≠ lb := by rintro rfl; simp at hc
    simp [this]
  · have hlen : la.length = lb.length := by simp at hc; omega
    refine goS ?_
    refine W_loop (α := Nat) (fun i => [(0, .slice A la.length ca), (1, .slice B lb.length cb), (5, .int .i64 (i : Int))])
      (fun i w' => i ≤ la.length ∧ la.take i = lb.take i ∧ Ext w w') (fun i => la.length - i) 0 (by repeat (first | exact True.intro | refine And.intro rfl ?_)) ⟨Nat.zero_le _, rfl, Ext.refl _⟩ ?_
    rintro i w1 ⟨hi, ht, he⟩
    refine goS ?_
    refine Z52 rfl (fun hc => ?_) (fun hc => ?_)
    · have hlt : i < la.length := by simpa using hc
      have hlt2 : i < lb.length := by omega
      obtain ⟨ba, oa, ua, Ga, rfl, _, a0, a1, a2, a3, hsa, _⟩ := ces_at (ha.ext he) hlt
      obtain ⟨bb, ob, ub, Gb, rfl, _, b0, b1, b2, b3, hsb, _⟩ := ces_at (hb.ext he) hlt2
      refine goS ?_
      refine Z54 (by kernel_rfl) (by kernel_rfl) ?_
      repeat' (first | refine Z55 (Z56 rfl) ?_ | (refine Z57 ?_; first | refine Z58 rfl rfl (by decide) ?_ | refine Z59 rfl rfl (by decide) ?_ | refine Z60 rfl rfl ?_ | ((refine Z61 rfl rfl (fun c' hc' => ?_)); cases c' <;> (try simp only [decide_eq_true_eq, decide_eq_false_iff_not, beq_iff_eq, beq_eq_false_iff_ne, bne_iff_ne, bne_eq_false_iff_eq, ne_eq, gt_iff_lt, ge_iff_le, Int.not_lt, Int.not_le, Bool.not_eq_true', Bool.not_eq_false', Bool.not_true, Bool.not_false, reduceCtorEq, Decidable.not_not, not_true_eq_false, Bool.true_eq_false, Bool.false_eq_true] at hc') <;> (try (exfalso; omega)))) | (refine Z62 ?_; first | refine Z55 (Z63 rfl rfl) ?_ | refine Z55 (Z64 rfl rfl) ?_) | (refine Z65 ?_; first | refine Z55 (Z66 rfl (by assumption) (by rfl)) ?_ | refine Z55 (Z67 rfl (by assumption)) ?_) | (refine Z68 ?_; refine Z55 (Z69 rfl rfl rfl (by omega)) ?_) | (refine Z70 ?_; first | refine Z55 (Z14 rfl (by decide) rfl) ?_ | refine Z55 (Z15 rfl (by decide) rfl) ?_) | (refine Z71 ?_; first | refine Z55 (Z72 rfl) ?_ | refine Z55 (Z73 rfl) ?_) | (refine Z74 ?_; first | refine Z55 (Z75 rfl rfl (by omega)) ?_ | refine Z55 (Z76 rfl rfl (by omega)) ?_ | refine Z55 (Z77 rfl rfl (by omega)) ?_ | refine Z55 (Z78 rfl rfl (by omega) (by omega)) ?_ | refine Z55 (Z79 rfl rfl (by omega) (by omega) (by omega)) ?_ | refine Z55 (Z25 rfl rfl) ?_ | refine Z55 (Z26 rfl rfl) ?_) | (refine Z80 ?_; refine Z55 (Z28 rfl (Z53 ⟨by omega, by omega⟩)) ?_) | refine Z81 fun w' hw' => ?_)
      refine Z55 (q_loadS rfl rfl (four a0 a1 a2 a3)) ?_
      repeat' (first | refine Z55 (Z56 rfl) ?_ | (refine Z57 ?_; first | refine Z58 rfl rfl (by decide) ?_ | refine Z59 rfl rfl (by decide) ?_ | refine Z60 rfl rfl ?_ | ((refine Z61 rfl rfl (fun c' hc' => ?_)); cases c' <;> (try simp only [decide_eq_true_eq, decide_eq_false_iff_not, beq_iff_eq, beq_eq_false_iff_ne, bne_iff_ne, bne_eq_false_iff_eq, ne_eq, gt_iff_lt, ge_iff_le, Int.not_lt, Int.not_le, Bool.not_eq_true', Bool.not_eq_false', Bool.not_true, Bool.not_false, reduceCtorEq, Decidable.not_not, not_true_eq_false, Bool.true_eq_false, Bool.false_eq_true] at hc') <;> (try (exfalso; omega)))) | (refine Z62 ?_; first | refine Z55 (Z63 rfl rfl) ?_ | refine Z55 (Z64 rfl rfl) ?_) | (refine Z65 ?_; first | refine Z55 (Z66 rfl (by assumption) (by rfl)) ?_ | refine Z55 (Z67 rfl (by assumption)) ?_) | (refine Z68 ?_; refine Z55 (Z69 rfl rfl rfl (by omega)) ?_) | (refine Z70 ?_; first | refine Z55 (Z14 rfl (by decide) rfl) ?_ | refine Z55 (Z15 rfl (by decide) rfl) ?_) | (refine Z71 ?_; first | refine Z55 (Z72 rfl) ?_ | refine Z55 (Z73 rfl) ?_) | (refine Z74 ?_; first | refine Z55 (Z75 rfl rfl (by omega)) ?_ | refine Z55 (Z76 rfl rfl (by omega)) ?_ | refine Z55 (Z77 rfl rfl (by omega)) ?_ | refine Z55 (Z78 rfl rfl (by omega) (by omega)) ?_ | refine Z55 (Z79 rfl rfl (by omega) (by omega) (by omega)) ?_ | refine Z55 (Z25 rfl rfl) ?_ | refine Z55 (Z26 rfl rfl) ?_) | (refine Z80 ?_; refine Z55 (Z28 rfl (Z53 ⟨by omega, by omega⟩)) ?_) | refine Z81 fun w' hw' => ?_)
      refine Z55 (q_loadS rfl rfl (four b0 b1 b2 b3)) ?_
      refine WQ_call rfl (fun w' e' => (eqCell_ret la[i] lb[i] ua ub Ga Gb w' (hsa.ext e') (hsb.ext e')).mono (by rintro u w'' ⟨rfl, h⟩; exact ⟨rfl, h⟩)) ?_
      repeat' (first | refine Z55 (Z56 rfl) ?_ | (refine Z57 ?_; first | refine Z58 rfl rfl (by decide) ?_ | refine Z59 rfl rfl (by decide) ?_ | refine Z60 rfl rfl ?_ | ((refine Z61 rfl rfl (fun c' hc' => ?_)); cases c' <;> (try simp only [decide_eq_true_eq, decide_eq_false_iff_not, beq_iff_eq, beq_eq_false_iff_ne, bne_iff_ne, bne_eq_false_iff_eq, ne_eq, gt_iff_lt, ge_iff_le, Int.not_lt, Int.not_le, Bool.not_eq_true', Bool.not_eq_false', Bool.not_true, Bool.not_false, reduceCtorEq, Decidable.not_not, not_true_eq_false, Bool.true_eq_false, Bool.false_eq_true] at hc') <;> (try (exfalso; omega)))) | (refine Z62 ?_; first | refine Z55 (Z63 rfl rfl) ?_ | refine Z55 (Z64 rfl rfl) ?_) | (refine Z65 ?_; first | refine Z55 (Z66 rfl (by assumption) (by rfl)) ?_ | refine Z55 (Z67 rfl (by assumption)) ?_) | (refine Z68 ?_; refine Z55 (Z69 rfl rfl rfl (by omega)) ?_) | (refine Z70 ?_; first | refine Z55 (Z14 rfl (by decide) rfl) ?_ | refine Z55 (Z15 rfl (by decide) rfl) ?_) | (refine Z71 ?_; first | refine Z55 (Z72 rfl) ?_ | refine Z55 (Z73 rfl) ?_) | (refine Z74 ?_; first | refine Z55 (Z75 rfl rfl (by omega)) ?_ | refine Z55 (Z76 rfl rfl (by omega)) ?_ | refine Z55 (Z77 rfl rfl (by omega)) ?_ | refine Z55 (Z78 rfl rfl (by omega) (by omega)) ?_ | refine Z55 (Z79 rfl rfl (by omega) (by omega) (by omega)) ?_ | refine Z55 (Z25 rfl rfl) ?_ | refine Z55 (Z26 rfl rfl) ?_) | (refine Z80 ?_; refine Z55 (Z28 rfl (Z53 ⟨by omega, by omega⟩)) ?_) | refine Z81 fun w' hw' => ?_)
      refine goS ?_
      refine Z52 rfl (fun hc => ?_) (fun hc => ?_)
      · refine goS ?_
        refine at_ret1 rfl rfl ⟨?_, he.trans hw'⟩
        have : la ≠ lb := by rintro rfl; simp at hc
        simp [this]
      · have heq : la[i] = lb[i] := by simpa using hc
        refine goS ?_
        refine at_loop (i + 1) (by repeat (first | exact True.intro | refine And.intro rfl ?_)) ⟨by omega, take_succ_eqG hlt hlt2 ht heq, he.trans hw'⟩ (by omega)
    · have hge : i = la.length := by simp at hc; omega
      refine goS ?_
      refine at_ret1 rfl rfl ⟨?_, he⟩
      subst hge
      rw [List.take_length, hlen, List.take_length] at ht
      simp [ht]
theorem toTag_ret (t : Tg) (w : World) : Ret Tryd.prog 34 [tgV t] w fun r w' => r = tgV t ∧ Ext w w' := by
  refine enter Tryd.func34 rfl Tryd.ntmps34 rfl rfl ?_
  refine Z43 (Z44 (WO_box rfl fun w1 h1 e1 z1 => WO_alloc fun w2 h2 e2 z2 => ?_))
  replace h1 : Blk w2 w.heap.size [.int .i64 t.id, .bool t.u] _ := Blk.ext h1 e2
  replace h2 : Blk w2 w1.heap.size [.int .i64 0, .bool false] _ := h2
  refine goS ?_
  refine WO_alloc fun w3 h3 e3 z3 => ?_
  replace h3 : Blk w3 w2.heap.size [.int .i64 0, .bool false] _ := h3
  replace h1 := h1.ext e3
  replace h2 := h2.ext e3
  have e0 := e1.trans (e2.trans e3)
  refine goS ?_
  refine WO_store1 rfl rfl rfl h3 (by simp) fun w4 h4 o4 => ?_
  replace h1 := h1.only o4 (by omega)
  replace h2 := h2.only o4 (by omega)
  simp only [List.set_cons_zero, List.set_cons_succ] at h4
  refine goS ?_
  refine WO_store1 rfl rfl rfl h4 (by simp) fun w5 h5 o5 => ?_
  replace h1 := h1.only o5 (by omega)
  replace h2 := h2.only o5 (by omega)
  simp only [List.set_cons_zero, List.set_cons_succ] at h5
  refine goS ?_
  refine WO_loadSB rfl h5 rfl ?_
  refine WO_storeS (vs := [.int .i64 t.id, .bool t.u]) rfl rfl rfl (by intro v hv; simp at hv; rcases hv with rfl | rfl <;> rfl) h2 (by simp) fun w6 h6 o6 => ?_
  replace h6 : Blk w6 w1.heap.size [.int .i64 t.id, .bool t.u] _ := h6
  refine goS ?_
  refine at_retC rfl rfl h6 rfl ⟨rfl, ?_⟩
  exact ((e0.only o4 (by omega)).only o5 (by omega)).only o6 (by omega)
end Go.Proofs.YtnfapbghkmodeaaDoor
