/-
  What is proved here: the law FnExactFormatCells.
-/
import Derived.Test.YtnfapbghkmodeaaDoorCfw
import Derived.Test.YtnfapbghkmodeaaDoorCMark
namespace Go.Proofs.YtnfapbghkmodeaaDoor
set_option linter.unusedVariables false
set_option linter.unusedSimpArgs false
set_option linter.unnecessarySimpa false
open Go.RowKit

theorem FnExactFormatCells_ret {w : World} {v : Value} {x : List Ce × List Nat} (h : CeS w v x.1 x.2) (ht : TabW w) : Ret Tryd.prog 3 [v] w fun r w' => r = .bool true ∧ Ext w w' := by
  obtain ⟨l, F⟩ := x
  simp only at h
  refine enter Tryd.func3 rfl Tryd.ntmps3 rfl rfl ?_
  refine goS ?_
  refine WO_call rfl (szCellS_ret v l F 1048576 w h (by decide) (by decide)) ?_
  rintro r w1 ⟨⟨left, rfl, hle, hsz⟩, e1⟩
  (refine goS ?_; repeat' (first | ((refine Z51 rfl rfl (fun c' hc' => ?_)); cases c' <;> (try simp only [decide_eq_true_eq, decide_eq_false_iff_not, beq_iff_eq, beq_eq_false_iff_ne, bne_iff_ne, bne_eq_false_iff_eq, ne_eq, gt_iff_lt, ge_iff_le, Int.not_lt, Int.not_le, Bool.not_eq_true', Bool.not_eq_false', Bool.not_true, Bool.not_false, reduceCtorEq, Decidable.not_not, not_true_eq_false, Bool.true_eq_false, Bool.false_eq_true] at hc') <;> (try (exfalso; omega)) <;> refine goS ?_) | ((refine Z52 rfl (fun hc' => ?_) (fun hc' => ?_)) <;> (try simp only [decide_eq_true_eq, decide_eq_false_iff_not, beq_iff_eq, beq_eq_false_iff_ne, bne_iff_ne, bne_eq_false_iff_eq, ne_eq, gt_iff_lt, ge_iff_le, Int.not_lt, Int.not_le, Bool.not_eq_true', Bool.not_eq_false', Bool.not_true, Bool.not_false, reduceCtorEq, Decidable.not_not, not_true_eq_false, Bool.true_eq_false, Bool.false_eq_true] at hc') <;> (try (exfalso; omega)) <;> refine goS ?_)))
  · exact at_ret1 rfl rfl ⟨rfl, e1⟩
  have hn : cSize l ≤ 1048576 := by have := hsz (by omega); omega
  refine WO_call rfl (toCellS_ret v l F w1 (h.ext e1) hn) ?_
  rintro r w2 ⟨⟨F2, h2, _, _⟩, e2⟩
  refine goS ?_
  refine WO_call rfl (sFormatCells_ret r l F2 w2 h2.ces) ?_
  rintro _ w3 ⟨rfl, e3⟩
  have e13 := e1.trans (e2.trans e3)
  refine goS ?_
  refine WO_call rfl (toCellS_ret v l F w3 (h.ext e13) hn) ?_
  rintro x0 w4 ⟨⟨F4, h4, _, _⟩, e4⟩
  refine goS ?_
  refine WO_call rfl (FormatCells_ret x0 l F4 w4 h4.ces (tab_ext ht (e13.trans e4))) ?_
  rintro _ w5 ⟨rfl, e5⟩
  refine goT ?_
  rw [show (!decide (fmtC l = fmtC l)) = false from by simp]
  refine goT ?_
  have e15 := e13.trans (e4.trans e5)
  refine WO_call rfl (toCellS_ret v l F w5 (h.ext e15) hn) ?_
  rintro x1 w6 ⟨⟨F6, h6, _, _⟩, e6⟩
  refine goS ?_
  refine WO_call rfl (eqCellS_ret x0 x1 l l F4 F6 w6 (h4.ext (e5.trans e6)).ces h6.ces) ?_
  rintro _ w7 ⟨rfl, e7⟩
  rw [decide_eq_true rfl]
  refine goS ?_
  exact at_ret1 rfl rfl ⟨rfl, e15.trans (e6.trans e7)⟩
end Go.Proofs.YtnfapbghkmodeaaDoor
