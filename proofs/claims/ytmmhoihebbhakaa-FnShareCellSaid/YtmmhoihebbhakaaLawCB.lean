/-
  What is proved here: the laws BorrowCell, ShareCell, WriteCell and NewCell on cells.
-/
import Derived.Test.YtmmhoihebbhakaaLawCA
namespace Go.Proofs.Ytmmhoihebbhakaa
set_option linter.unusedVariables false
set_option linter.unusedSimpArgs false
set_option linter.unnecessarySimpa false
open Go.RowKit

theorem FnBorrowCell_ret {v : Value} {w : World} (hd : ByD w v) : Ret Try.prog 11 [v] w fun r w' => r = .bool true ∧ Ext w w' := by
  have hd0 := hd
  obtain ⟨A0, n0, c0, rfl, _, hn0, _⟩ := hd0
  refine enter Try.func11 rfl Try.ntmps11 rfl rfl ?_
  repeat' (first | (refine Z0 ?_; first | refine Z1 rfl ?_ | (refine Z2 ?_; first | refine Z3 rfl rfl (by decide) ?_ | refine Z4 rfl rfl (by decide) ?_ | refine Z5 rfl rfl ?_ | ((refine Z51 rfl rfl (fun c' hc' => ?_)); cases c' <;> (try simp only [decide_eq_true_eq, decide_eq_false_iff_not, beq_iff_eq, beq_eq_false_iff_ne, bne_iff_ne, bne_eq_false_iff_eq, ne_eq, gt_iff_lt, ge_iff_le, Int.not_lt, Int.not_le, Bool.not_eq_true', Bool.not_eq_false', Bool.not_true, Bool.not_false, reduceCtorEq, Decidable.not_not, not_true_eq_false, Bool.true_eq_false, Bool.false_eq_true] at hc') <;> (try (exfalso; omega)))) | (refine Z6 ?_; first | refine Z7 rfl rfl ?_ | refine Z8 rfl rfl ?_) | (refine Z9 ?_; first | refine Z10 rfl (by assumption) (by rfl) ?_ | refine Z11 rfl (by assumption) ?_) | (refine Z12 ?_; first | refine Z13 (Z14 rfl (by decide) rfl) ?_ | refine Z13 (Z15 rfl (by decide) rfl) ?_) | (refine Z16 ?_; first | refine Z17 rfl ?_ | refine Z18 rfl ?_) | (refine Z19 ?_; first | refine Z20 rfl rfl (by omega) ?_ | refine Z21 rfl rfl (by omega) ?_ | refine Z22 rfl rfl (by omega) ?_ | refine Z23 rfl rfl (by omega) (by omega) ?_ | refine Z24 rfl rfl (by omega) (by omega) (by omega) ?_ | refine Z13 (Z25 rfl rfl) ?_ | refine Z13 (Z26 rfl rfl) ?_) | (refine Z27 ?_; refine Z13 (Z28 rfl (Z53 ⟨by omega, by omega⟩)) ?_) | (refine Z29 ?_; refine Z13 (Z30 rfl (by rfl) (by simp only [Z84, List.set_cons_zero, List.set_cons_succ]; rfl)) ?_) | refine Z31 ?_) | (refine Z32 ?_; first | refine Z33 ?_ | refine Z34 ?_ | refine Z35 ?_ | refine Z36 ?_ | refine Z37 ?_ | refine Z38 rfl ?_ | refine Z39 ?_ | refine Z40 ?_ | refine Z41 ?_) | (refine Z42 ?_; first | refine Z43 ?_ | refine Z44 ?_ | refine Z45 ?_ | refine Z46 ?_ | refine Z47 ?_ | refine Z48 ?_ | refine Z49 rfl (by decide) ?_ | refine Z50 rfl (by decide) ?_ | ((refine Z52 rfl (fun hc' => ?_) (fun hc' => ?_)) <;> (try simp only [decide_eq_true_eq, decide_eq_false_iff_not, beq_iff_eq, beq_eq_false_iff_ne, bne_iff_ne, bne_eq_false_iff_eq, ne_eq, gt_iff_lt, ge_iff_le, Int.not_lt, Int.not_le, Bool.not_eq_true', Bool.not_eq_false', Bool.not_true, Bool.not_false, reduceCtorEq, Decidable.not_not, not_true_eq_false, Bool.true_eq_false, Bool.false_eq_true] at hc') <;> (try (exfalso; omega)))))
  any_goals (exact at_ret1 rfl rfl ⟨rfl, Ext.refl _⟩)
  refine WO_call rfl (DrawBorrowCell_ret _ w hd) ?_
  rintro _ w1 ⟨vm, x, rfl, ⟨m, Fm, hm, hms, _⟩, e0⟩
  repeat (first | (refine Z0 ?_; first | refine Z1 rfl ?_ | (refine Z2 ?_; first | refine Z3 rfl rfl (by decide) ?_ | refine Z4 rfl rfl (by decide) ?_ | refine Z5 rfl rfl ?_) | (refine Z6 ?_; first | refine Z7 rfl rfl ?_ | refine Z8 rfl rfl ?_) | (refine Z9 ?_; first | refine Z10 rfl (by assumption) (by rfl) ?_ | refine Z11 rfl (by assumption) ?_) | (refine Z12 ?_; first | refine Z13 (Z14 rfl (by decide) rfl) ?_ | refine Z13 (Z15 rfl (by decide) rfl) ?_) | (refine Z16 ?_; first | refine Z17 rfl ?_ | refine Z18 rfl ?_) | (refine Z19 ?_; first | refine Z20 rfl rfl (by omega) ?_ | refine Z21 rfl rfl (by omega) ?_ | refine Z22 rfl rfl (by omega) ?_ | refine Z23 rfl rfl (by omega) (by omega) ?_ | refine Z24 rfl rfl (by omega) (by omega) (by omega) ?_ | refine Z13 (Z25 rfl rfl) ?_ | refine Z13 (Z26 rfl rfl) ?_) | (refine Z27 ?_; refine Z13 (Z28 rfl (Z53 ⟨by omega, by omega⟩)) ?_) | (refine Z29 ?_; refine Z13 (Z30 rfl (by rfl) (by simp only [Z84, List.set_cons_zero, List.set_cons_succ]; rfl)) ?_) | refine Z31 ?_) | (refine Z32 ?_; first | refine Z33 ?_ | refine Z34 ?_ | refine Z35 ?_ | refine Z36 ?_ | refine Z37 ?_ | refine Z38 rfl ?_ | refine Z39 ?_ | refine Z40 ?_ | refine Z41 ?_) | (refine Z42 ?_; first | refine Z43 ?_ | refine Z44 ?_ | refine Z45 ?_ | refine Z46 ?_ | refine Z47 ?_ | refine Z48 ?_ | refine Z49 rfl (by decide) ?_ | refine Z50 rfl (by decide) ?_))
  refine WO_alloc fun wa ha0 ea za => ?_
  repeat (first | (refine Z0 ?_; first | refine Z1 rfl ?_ | (refine Z2 ?_; first | refine Z3 rfl rfl (by decide) ?_ | refine Z4 rfl rfl (by decide) ?_ | refine Z5 rfl rfl ?_) | (refine Z6 ?_; first | refine Z7 rfl rfl ?_ | refine Z8 rfl rfl ?_) | (refine Z9 ?_; first | refine Z10 rfl (by assumption) (by rfl) ?_ | refine Z11 rfl (by assumption) ?_) | (refine Z12 ?_; first | refine Z13 (Z14 rfl (by decide) rfl) ?_ | refine Z13 (Z15 rfl (by decide) rfl) ?_) | (refine Z16 ?_; first | refine Z17 rfl ?_ | refine Z18 rfl ?_) | (refine Z19 ?_; first | refine Z20 rfl rfl (by omega) ?_ | refine Z21 rfl rfl (by omega) ?_ | refine Z22 rfl rfl (by omega) ?_ | refine Z23 rfl rfl (by omega) (by omega) ?_ | refine Z24 rfl rfl (by omega) (by omega) (by omega) ?_ | refine Z13 (Z25 rfl rfl) ?_ | refine Z13 (Z26 rfl rfl) ?_) | (refine Z27 ?_; refine Z13 (Z28 rfl (Z53 ⟨by omega, by omega⟩)) ?_) | (refine Z29 ?_; refine Z13 (Z30 rfl (by rfl) (by simp only [Z84, List.set_cons_zero, List.set_cons_succ]; rfl)) ?_) | refine Z31 ?_) | (refine Z32 ?_; first | refine Z33 ?_ | refine Z34 ?_ | refine Z35 ?_ | refine Z36 ?_ | refine Z37 ?_ | refine Z38 rfl ?_ | refine Z39 ?_ | refine Z40 ?_ | refine Z41 ?_) | (refine Z42 ?_; first | refine Z43 ?_ | refine Z44 ?_ | refine Z45 ?_ | refine Z46 ?_ | refine Z47 ?_ | refine Z48 ?_ | refine Z49 rfl (by decide) ?_ | refine Z50 rfl (by decide) ?_))
  refine WO_storeS (k := 2) (vs := [.int .i64 (x).cell, .int .i64 (x).tag]) rfl rfl rfl (by intro v hv; simp at hv; rcases hv with rfl | rfl <;> rfl) ha0 (by decide) fun wb hb0 ob => ?_
  replace hb0 : Blk wb _ [.int .i64 (x).cell, .int .i64 (x).tag] _ := hb0
  have eb := Ext.only ea ob (Nat.le_refl _)
  try replace hx := Blk.ext hx eb
  try replace hy := Blk.ext hy eb
  try replace hwy := Blk.ext hwy eb
  try replace hz := Blk.ext hz eb
  try replace hm := CeS.ext hm eb
  try replace hn := CeS.ext hn eb
  try replace hwn := CeS.ext hwn eb
  try replace hp := CeS.ext hp eb
  try replace ha := CeS.ext ha eb
  try replace hb := CeS.ext hb eb
  try replace e0 := Ext.trans e0 eb
  clear ha0 ea za ob
  have hx := hb0
  clear hb0
  repeat (first | (refine Z0 ?_; first | refine Z1 rfl ?_ | (refine Z2 ?_; first | refine Z3 rfl rfl (by decide) ?_ | refine Z4 rfl rfl (by decide) ?_ | refine Z5 rfl rfl ?_) | (refine Z6 ?_; first | refine Z7 rfl rfl ?_ | refine Z8 rfl rfl ?_) | (refine Z9 ?_; first | refine Z10 rfl (by assumption) (by rfl) ?_ | refine Z11 rfl (by assumption) ?_) | (refine Z12 ?_; first | refine Z13 (Z14 rfl (by decide) rfl) ?_ | refine Z13 (Z15 rfl (by decide) rfl) ?_) | (refine Z16 ?_; first | refine Z17 rfl ?_ | refine Z18 rfl ?_) | (refine Z19 ?_; first | refine Z20 rfl rfl (by omega) ?_ | refine Z21 rfl rfl (by omega) ?_ | refine Z22 rfl rfl (by omega) ?_ | refine Z23 rfl rfl (by omega) (by omega) ?_ | refine Z24 rfl rfl (by omega) (by omega) (by omega) ?_ | refine Z13 (Z25 rfl rfl) ?_ | refine Z13 (Z26 rfl rfl) ?_) | (refine Z27 ?_; refine Z13 (Z28 rfl (Z53 ⟨by omega, by omega⟩)) ?_) | (refine Z29 ?_; refine Z13 (Z30 rfl (by rfl) (by simp only [Z84, List.set_cons_zero, List.set_cons_succ]; rfl)) ?_) | refine Z31 ?_) | (refine Z32 ?_; first | refine Z33 ?_ | refine Z34 ?_ | refine Z35 ?_ | refine Z36 ?_ | refine Z37 ?_ | refine Z38 rfl ?_ | refine Z39 ?_ | refine Z40 ?_ | refine Z41 ?_) | (refine Z42 ?_; first | refine Z43 ?_ | refine Z44 ?_ | refine Z45 ?_ | refine Z46 ?_ | refine Z47 ?_ | refine Z48 ?_ | refine Z49 rfl (by decide) ?_ | refine Z50 rfl (by decide) ?_))
  refine WO_loadSB rfl hx rfl ?_
  refine WO_call rfl (BorrowCell_ret vm m Fm x _ hm hms) ?_
  rintro _ wn ⟨vo, rfl, hN⟩
  have eN := hN.2
  try replace hx := Blk.ext hx eN
  try replace hy := Blk.ext hy eN
  try replace hwy := Blk.ext hwy eN
  try replace hz := Blk.ext hz eN
  try replace hm := CeS.ext hm eN
  try replace hn := CeS.ext hn eN
  try replace hwn := CeS.ext hwn eN
  try replace hp := CeS.ext hp eN
  try replace ha := CeS.ext ha eN
  try replace hb := CeS.ext hb eN
  try replace e0 := Ext.trans e0 eN
  obtain ⟨FN, hn, _⟩ := hN.ces
  clear hN eN
  repeat (first | (refine Z0 ?_; first | refine Z1 rfl ?_ | (refine Z2 ?_; first | refine Z3 rfl rfl (by decide) ?_ | refine Z4 rfl rfl (by decide) ?_ | refine Z5 rfl rfl ?_) | (refine Z6 ?_; first | refine Z7 rfl rfl ?_ | refine Z8 rfl rfl ?_) | (refine Z9 ?_; first | refine Z10 rfl (by assumption) (by rfl) ?_ | refine Z11 rfl (by assumption) ?_) | (refine Z12 ?_; first | refine Z13 (Z14 rfl (by decide) rfl) ?_ | refine Z13 (Z15 rfl (by decide) rfl) ?_) | (refine Z16 ?_; first | refine Z17 rfl ?_ | refine Z18 rfl ?_) | (refine Z19 ?_; first | refine Z20 rfl rfl (by omega) ?_ | refine Z21 rfl rfl (by omega) ?_ | refine Z22 rfl rfl (by omega) ?_ | refine Z23 rfl rfl (by omega) (by omega) ?_ | refine Z24 rfl rfl (by omega) (by omega) (by omega) ?_ | refine Z13 (Z25 rfl rfl) ?_ | refine Z13 (Z26 rfl rfl) ?_) | (refine Z27 ?_; refine Z13 (Z28 rfl (Z53 ⟨by omega, by omega⟩)) ?_) | (refine Z29 ?_; refine Z13 (Z30 rfl (by rfl) (by simp only [Z84, List.set_cons_zero, List.set_cons_succ]; rfl)) ?_) | refine Z31 ?_) | (refine Z32 ?_; first | refine Z33 ?_ | refine Z34 ?_ | refine Z35 ?_ | refine Z36 ?_ | refine Z37 ?_ | refine Z38 rfl ?_ | refine Z39 ?_ | refine Z40 ?_ | refine Z41 ?_) | (refine Z42 ?_; first | refine Z43 ?_ | refine Z44 ?_ | refine Z45 ?_ | refine Z46 ?_ | refine Z47 ?_ | refine Z48 ?_ | refine Z49 rfl (by decide) ?_ | refine Z50 rfl (by decide) ?_))
  refine WO_alloc fun wa ha0 ea za => ?_
  repeat (first | (refine Z0 ?_; first | refine Z1 rfl ?_ | (refine Z2 ?_; first | refine Z3 rfl rfl (by decide) ?_ | refine Z4 rfl rfl (by decide) ?_ | refine Z5 rfl rfl ?_) | (refine Z6 ?_; first | refine Z7 rfl rfl ?_ | refine Z8 rfl rfl ?_) | (refine Z9 ?_; first | refine Z10 rfl (by assumption) (by rfl) ?_ | refine Z11 rfl (by assumption) ?_) | (refine Z12 ?_; first | refine Z13 (Z14 rfl (by decide) rfl) ?_ | refine Z13 (Z15 rfl (by decide) rfl) ?_) | (refine Z16 ?_; first | refine Z17 rfl ?_ | refine Z18 rfl ?_) | (refine Z19 ?_; first | refine Z20 rfl rfl (by omega) ?_ | refine Z21 rfl rfl (by omega) ?_ | refine Z22 rfl rfl (by omega) ?_ | refine Z23 rfl rfl (by omega) (by omega) ?_ | refine Z24 rfl rfl (by omega) (by omega) (by omega) ?_ | refine Z13 (Z25 rfl rfl) ?_ | refine Z13 (Z26 rfl rfl) ?_) | (refine Z27 ?_; refine Z13 (Z28 rfl (Z53 ⟨by omega, by omega⟩)) ?_) | (refine Z29 ?_; refine Z13 (Z30 rfl (by rfl) (by simp only [Z84, List.set_cons_zero, List.set_cons_succ]; rfl)) ?_) | refine Z31 ?_) | (refine Z32 ?_; first | refine Z33 ?_ | refine Z34 ?_ | refine Z35 ?_ | refine Z36 ?_ | refine Z37 ?_ | refine Z38 rfl ?_ | refine Z39 ?_ | refine Z40 ?_ | refine Z41 ?_) | (refine Z42 ?_; first | refine Z43 ?_ | refine Z44 ?_ | refine Z45 ?_ | refine Z46 ?_ | refine Z47 ?_ | refine Z48 ?_ | refine Z49 rfl (by decide) ?_ | refine Z50 rfl (by decide) ?_))
  refine WO_storeS (k := 2) (vs := [.int .i64 (lentP m x true).cell, .int .i64 (lentP m x true).tag]) rfl rfl rfl (by intro v hv; simp at hv; rcases hv with rfl | rfl <;> rfl) ha0 (by decide) fun wb hb0 ob => ?_
  replace hb0 : Blk wb _ [.int .i64 (lentP m x true).cell, .int .i64 (lentP m x true).tag] _ := hb0
  have eb := Ext.only ea ob (Nat.le_refl _)
  try replace hx := Blk.ext hx eb
  try replace hy := Blk.ext hy eb
  try replace hwy := Blk.ext hwy eb
  try replace hz := Blk.ext hz eb
  try replace hm := CeS.ext hm eb
  try replace hn := CeS.ext hn eb
  try replace hwn := CeS.ext hwn eb
  try replace hp := CeS.ext hp eb
  try replace ha := CeS.ext ha eb
  try replace hb := CeS.ext hb eb
  try replace e0 := Ext.trans e0 eb
  clear ha0 ea za ob
  have hy := hb0
  clear hb0
  repeat (first | (refine Z0 ?_; first | refine Z1 rfl ?_ | (refine Z2 ?_; first | refine Z3 rfl rfl (by decide) ?_ | refine Z4 rfl rfl (by decide) ?_ | refine Z5 rfl rfl ?_) | (refine Z6 ?_; first | refine Z7 rfl rfl ?_ | refine Z8 rfl rfl ?_) | (refine Z9 ?_; first | refine Z10 rfl (by assumption) (by rfl) ?_ | refine Z11 rfl (by assumption) ?_) | (refine Z12 ?_; first | refine Z13 (Z14 rfl (by decide) rfl) ?_ | refine Z13 (Z15 rfl (by decide) rfl) ?_) | (refine Z16 ?_; first | refine Z17 rfl ?_ | refine Z18 rfl ?_) | (refine Z19 ?_; first | refine Z20 rfl rfl (by omega) ?_ | refine Z21 rfl rfl (by omega) ?_ | refine Z22 rfl rfl (by omega) ?_ | refine Z23 rfl rfl (by omega) (by omega) ?_ | refine Z24 rfl rfl (by omega) (by omega) (by omega) ?_ | refine Z13 (Z25 rfl rfl) ?_ | refine Z13 (Z26 rfl rfl) ?_) | (refine Z27 ?_; refine Z13 (Z28 rfl (Z53 ⟨by omega, by omega⟩)) ?_) | (refine Z29 ?_; refine Z13 (Z30 rfl (by rfl) (by simp only [Z84, List.set_cons_zero, List.set_cons_succ]; rfl)) ?_) | refine Z31 ?_) | (refine Z32 ?_; first | refine Z33 ?_ | refine Z34 ?_ | refine Z35 ?_ | refine Z36 ?_ | refine Z37 ?_ | refine Z38 rfl ?_ | refine Z39 ?_ | refine Z40 ?_ | refine Z41 ?_) | (refine Z42 ?_; first | refine Z43 ?_ | refine Z44 ?_ | refine Z45 ?_ | refine Z46 ?_ | refine Z47 ?_ | refine Z48 ?_ | refine Z49 rfl (by decide) ?_ | refine Z50 rfl (by decide) ?_))
  refine WO_loadSB rfl hx rfl ?_
  refine WO_call rfl (sBorrowCell_ret vm m Fm x _ hm hms) ?_
  rintro _ wn ⟨vo, rfl, hN⟩
  have eN := hN.2
  try replace hx := Blk.ext hx eN
  try replace hy := Blk.ext hy eN
  try replace hwy := Blk.ext hwy eN
  try replace hz := Blk.ext hz eN
  try replace hm := CeS.ext hm eN
  try replace hn := CeS.ext hn eN
  try replace hwn := CeS.ext hwn eN
  try replace hp := CeS.ext hp eN
  try replace ha := CeS.ext ha eN
  try replace hb := CeS.ext hb eN
  try replace e0 := Ext.trans e0 eN
  obtain ⟨FN, hwn, _⟩ := hN.ces
  clear hN eN
  repeat (first | (refine Z0 ?_; first | refine Z1 rfl ?_ | (refine Z2 ?_; first | refine Z3 rfl rfl (by decide) ?_ | refine Z4 rfl rfl (by decide) ?_ | refine Z5 rfl rfl ?_) | (refine Z6 ?_; first | refine Z7 rfl rfl ?_ | refine Z8 rfl rfl ?_) | (refine Z9 ?_; first | refine Z10 rfl (by assumption) (by rfl) ?_ | refine Z11 rfl (by assumption) ?_) | (refine Z12 ?_; first | refine Z13 (Z14 rfl (by decide) rfl) ?_ | refine Z13 (Z15 rfl (by decide) rfl) ?_) | (refine Z16 ?_; first | refine Z17 rfl ?_ | refine Z18 rfl ?_) | (refine Z19 ?_; first | refine Z20 rfl rfl (by omega) ?_ | refine Z21 rfl rfl (by omega) ?_ | refine Z22 rfl rfl (by omega) ?_ | refine Z23 rfl rfl (by omega) (by omega) ?_ | refine Z24 rfl rfl (by omega) (by omega) (by omega) ?_ | refine Z13 (Z25 rfl rfl) ?_ | refine Z13 (Z26 rfl rfl) ?_) | (refine Z27 ?_; refine Z13 (Z28 rfl (Z53 ⟨by omega, by omega⟩)) ?_) | (refine Z29 ?_; refine Z13 (Z30 rfl (by rfl) (by simp only [Z84, List.set_cons_zero, List.set_cons_succ]; rfl)) ?_) | refine Z31 ?_) | (refine Z32 ?_; first | refine Z33 ?_ | refine Z34 ?_ | refine Z35 ?_ | refine Z36 ?_ | refine Z37 ?_ | refine Z38 rfl ?_ | refine Z39 ?_ | refine Z40 ?_ | refine Z41 ?_) | (refine Z42 ?_; first | refine Z43 ?_ | refine Z44 ?_ | refine Z45 ?_ | refine Z46 ?_ | refine Z47 ?_ | refine Z48 ?_ | refine Z49 rfl (by decide) ?_ | refine Z50 rfl (by decide) ?_))
  refine WO_alloc fun wa ha0 ea za => ?_
  repeat (first | (refine Z0 ?_; first | refine Z1 rfl ?_ | (refine Z2 ?_; first | refine Z3 rfl rfl (by decide) ?_ | refine Z4 rfl rfl (by decide) ?_ | refine Z5 rfl rfl ?_) | (refine Z6 ?_; first | refine Z7 rfl rfl ?_ | refine Z8 rfl rfl ?_) | (refine Z9 ?_; first | refine Z10 rfl (by assumption) (by rfl) ?_ | refine Z11 rfl (by assumption) ?_) | (refine Z12 ?_; first | refine Z13 (Z14 rfl (by decide) rfl) ?_ | refine Z13 (Z15 rfl (by decide) rfl) ?_) | (refine Z16 ?_; first | refine Z17 rfl ?_ | refine Z18 rfl ?_) | (refine Z19 ?_; first | refine Z20 rfl rfl (by omega) ?_ | refine Z21 rfl rfl (by omega) ?_ | refine Z22 rfl rfl (by omega) ?_ | refine Z23 rfl rfl (by omega) (by omega) ?_ | refine Z24 rfl rfl (by omega) (by omega) (by omega) ?_ | refine Z13 (Z25 rfl rfl) ?_ | refine Z13 (Z26 rfl rfl) ?_) | (refine Z27 ?_; refine Z13 (Z28 rfl (Z53 ⟨by omega, by omega⟩)) ?_) | (refine Z29 ?_; refine Z13 (Z30 rfl (by rfl) (by simp only [Z84, List.set_cons_zero, List.set_cons_succ]; rfl)) ?_) | refine Z31 ?_) | (refine Z32 ?_; first | refine Z33 ?_ | refine Z34 ?_ | refine Z35 ?_ | refine Z36 ?_ | refine Z37 ?_ | refine Z38 rfl ?_ | refine Z39 ?_ | refine Z40 ?_ | refine Z41 ?_) | (refine Z42 ?_; first | refine Z43 ?_ | refine Z44 ?_ | refine Z45 ?_ | refine Z46 ?_ | refine Z47 ?_ | refine Z48 ?_ | refine Z49 rfl (by decide) ?_ | refine Z50 rfl (by decide) ?_))
  refine WO_storeS (k := 2) (vs := [.int .i64 (lentP m x true).cell, .int .i64 (lentP m x true).tag]) rfl rfl rfl (by intro v hv; simp at hv; rcases hv with rfl | rfl <;> rfl) ha0 (by decide) fun wb hb0 ob => ?_
  replace hb0 : Blk wb _ [.int .i64 (lentP m x true).cell, .int .i64 (lentP m x true).tag] _ := hb0
  have eb := Ext.only ea ob (Nat.le_refl _)
  try replace hx := Blk.ext hx eb
  try replace hy := Blk.ext hy eb
  try replace hwy := Blk.ext hwy eb
  try replace hz := Blk.ext hz eb
  try replace hm := CeS.ext hm eb
  try replace hn := CeS.ext hn eb
  try replace hwn := CeS.ext hwn eb
  try replace hp := CeS.ext hp eb
  try replace ha := CeS.ext ha eb
  try replace hb := CeS.ext hb eb
  try replace e0 := Ext.trans e0 eb
  clear ha0 ea za ob
  have hwy := hb0
  clear hb0
  repeat (first | (refine Z0 ?_; first | refine Z1 rfl ?_ | (refine Z2 ?_; first | refine Z3 rfl rfl (by decide) ?_ | refine Z4 rfl rfl (by decide) ?_ | refine Z5 rfl rfl ?_) | (refine Z6 ?_; first | refine Z7 rfl rfl ?_ | refine Z8 rfl rfl ?_) | (refine Z9 ?_; first | refine Z10 rfl (by assumption) (by rfl) ?_ | refine Z11 rfl (by assumption) ?_) | (refine Z12 ?_; first | refine Z13 (Z14 rfl (by decide) rfl) ?_ | refine Z13 (Z15 rfl (by decide) rfl) ?_) | (refine Z16 ?_; first | refine Z17 rfl ?_ | refine Z18 rfl ?_) | (refine Z19 ?_; first | refine Z20 rfl rfl (by omega) ?_ | refine Z21 rfl rfl (by omega) ?_ | refine Z22 rfl rfl (by omega) ?_ | refine Z23 rfl rfl (by omega) (by omega) ?_ | refine Z24 rfl rfl (by omega) (by omega) (by omega) ?_ | refine Z13 (Z25 rfl rfl) ?_ | refine Z13 (Z26 rfl rfl) ?_) | (refine Z27 ?_; refine Z13 (Z28 rfl (Z53 ⟨by omega, by omega⟩)) ?_) | (refine Z29 ?_; refine Z13 (Z30 rfl (by rfl) (by simp only [Z84, List.set_cons_zero, List.set_cons_succ]; rfl)) ?_) | refine Z31 ?_) | (refine Z32 ?_; first | refine Z33 ?_ | refine Z34 ?_ | refine Z35 ?_ | refine Z36 ?_ | refine Z37 ?_ | refine Z38 rfl ?_ | refine Z39 ?_ | refine Z40 ?_ | refine Z41 ?_) | (refine Z42 ?_; first | refine Z43 ?_ | refine Z44 ?_ | refine Z45 ?_ | refine Z46 ?_ | refine Z47 ?_ | refine Z48 ?_ | refine Z49 rfl (by decide) ?_ | refine Z50 rfl (by decide) ?_))
  refine WO_call rfl (bcSame_ret _ _ _ _ _ _ hn hwn) ?_
  rintro _ wn ⟨rfl, eN⟩
  try replace hx := Blk.ext hx eN
  try replace hy := Blk.ext hy eN
  try replace hwy := Blk.ext hwy eN
  try replace hz := Blk.ext hz eN
  try replace hm := CeS.ext hm eN
  try replace hn := CeS.ext hn eN
  try replace hwn := CeS.ext hwn eN
  try replace hp := CeS.ext hp eN
  try replace ha := CeS.ext ha eN
  try replace hb := CeS.ext hb eN
  try replace e0 := Ext.trans e0 eN
  clear eN
  repeat (first | (refine Z0 ?_; first | refine Z1 rfl ?_ | (refine Z2 ?_; first | refine Z3 rfl rfl (by decide) ?_ | refine Z4 rfl rfl (by decide) ?_ | refine Z5 rfl rfl ?_) | (refine Z6 ?_; first | refine Z7 rfl rfl ?_ | refine Z8 rfl rfl ?_) | (refine Z9 ?_; first | refine Z10 rfl (by assumption) (by rfl) ?_ | refine Z11 rfl (by assumption) ?_) | (refine Z12 ?_; first | refine Z13 (Z14 rfl (by decide) rfl) ?_ | refine Z13 (Z15 rfl (by decide) rfl) ?_) | (refine Z16 ?_; first | refine Z17 rfl ?_ | refine Z18 rfl ?_) | (refine Z19 ?_; first | refine Z20 rfl rfl (by omega) ?_ | refine Z21 rfl rfl (by omega) ?_ | refine Z22 rfl rfl (by omega) ?_ | refine Z23 rfl rfl (by omega) (by omega) ?_ | refine Z24 rfl rfl (by omega) (by omega) (by omega) ?_ | refine Z13 (Z25 rfl rfl) ?_ | refine Z13 (Z26 rfl rfl) ?_) | (refine Z27 ?_; refine Z13 (Z28 rfl (Z53 ⟨by omega, by omega⟩)) ?_) | (refine Z29 ?_; refine Z13 (Z30 rfl (by rfl) (by simp only [Z84, List.set_cons_zero, List.set_cons_succ]; rfl)) ?_) | refine Z31 ?_) | (refine Z32 ?_; first | refine Z33 ?_ | refine Z34 ?_ | refine Z35 ?_ | refine Z36 ?_ | refine Z37 ?_ | refine Z38 rfl ?_ | refine Z39 ?_ | refine Z40 ?_ | refine Z41 ?_) | (refine Z42 ?_; first | refine Z43 ?_ | refine Z44 ?_ | refine Z45 ?_ | refine Z46 ?_ | refine Z47 ?_ | refine Z48 ?_ | refine Z49 rfl (by decide) ?_ | refine Z50 rfl (by decide) ?_))
  refine WO_loadSB rfl hy rfl ?_
  repeat (first | (refine Z0 ?_; first | refine Z1 rfl ?_ | (refine Z2 ?_; first | refine Z3 rfl rfl (by decide) ?_ | refine Z4 rfl rfl (by decide) ?_ | refine Z5 rfl rfl ?_) | (refine Z6 ?_; first | refine Z7 rfl rfl ?_ | refine Z8 rfl rfl ?_) | (refine Z9 ?_; first | refine Z10 rfl (by assumption) (by rfl) ?_ | refine Z11 rfl (by assumption) ?_) | (refine Z12 ?_; first | refine Z13 (Z14 rfl (by decide) rfl) ?_ | refine Z13 (Z15 rfl (by decide) rfl) ?_) | (refine Z16 ?_; first | refine Z17 rfl ?_ | refine Z18 rfl ?_) | (refine Z19 ?_; first | refine Z20 rfl rfl (by omega) ?_ | refine Z21 rfl rfl (by omega) ?_ | refine Z22 rfl rfl (by omega) ?_ | refine Z23 rfl rfl (by omega) (by omega) ?_ | refine Z24 rfl rfl (by omega) (by omega) (by omega) ?_ | refine Z13 (Z25 rfl rfl) ?_ | refine Z13 (Z26 rfl rfl) ?_) | (refine Z27 ?_; refine Z13 (Z28 rfl (Z53 ⟨by omega, by omega⟩)) ?_) | (refine Z29 ?_; refine Z13 (Z30 rfl (by rfl) (by simp only [Z84, List.set_cons_zero, List.set_cons_succ]; rfl)) ?_) | refine Z31 ?_) | (refine Z32 ?_; first | refine Z33 ?_ | refine Z34 ?_ | refine Z35 ?_ | refine Z36 ?_ | refine Z37 ?_ | refine Z38 rfl ?_ | refine Z39 ?_ | refine Z40 ?_ | refine Z41 ?_) | (refine Z42 ?_; first | refine Z43 ?_ | refine Z44 ?_ | refine Z45 ?_ | refine Z46 ?_ | refine Z47 ?_ | refine Z48 ?_ | refine Z49 rfl (by decide) ?_ | refine Z50 rfl (by decide) ?_))
  refine WO_loadSB rfl hwy rfl ?_
  repeat (first | (refine Z0 ?_; first | refine Z1 rfl ?_ | (refine Z2 ?_; first | refine Z3 rfl rfl (by decide) ?_ | refine Z4 rfl rfl (by decide) ?_ | refine Z5 rfl rfl ?_) | (refine Z6 ?_; first | refine Z7 rfl rfl ?_ | refine Z8 rfl rfl ?_) | (refine Z9 ?_; first | refine Z10 rfl (by assumption) (by rfl) ?_ | refine Z11 rfl (by assumption) ?_) | (refine Z12 ?_; first | refine Z13 (Z14 rfl (by decide) rfl) ?_ | refine Z13 (Z15 rfl (by decide) rfl) ?_) | (refine Z16 ?_; first | refine Z17 rfl ?_ | refine Z18 rfl ?_) | (refine Z19 ?_; first | refine Z20 rfl rfl (by omega) ?_ | refine Z21 rfl rfl (by omega) ?_ | refine Z22 rfl rfl (by omega) ?_ | refine Z23 rfl rfl (by omega) (by omega) ?_ | refine Z24 rfl rfl (by omega) (by omega) (by omega) ?_ | refine Z13 (Z25 rfl rfl) ?_ | refine Z13 (Z26 rfl rfl) ?_) | (refine Z27 ?_; refine Z13 (Z28 rfl (Z53 ⟨by omega, by omega⟩)) ?_) | (refine Z29 ?_; refine Z13 (Z30 rfl (by rfl) (by simp only [Z84, List.set_cons_zero, List.set_cons_succ]; rfl)) ?_) | refine Z31 ?_) | (refine Z32 ?_; first | refine Z33 ?_ | refine Z34 ?_ | refine Z35 ?_ | refine Z36 ?_ | refine Z37 ?_ | refine Z38 rfl ?_ | refine Z39 ?_ | refine Z40 ?_ | refine Z41 ?_) | (refine Z42 ?_; first | refine Z43 ?_ | refine Z44 ?_ | refine Z45 ?_ | refine Z46 ?_ | refine Z47 ?_ | refine Z48 ?_ | refine Z49 rfl (by decide) ?_ | refine Z50 rfl (by decide) ?_))
  refine Z13 (q_nePtS (lentP m x true) rfl rfl) ?_
  by_cases hk : lentC m x true = 0
  · rw [hk]
    obtain ⟨t1, t2, t3, t4, t5, t6⟩ := borrow_use hk
    have hok2 := (write_read t2).1
    have hok3 := rd_ok (x := x) hok2
    repeat' (first | (refine Z0 ?_; first | refine Z1 rfl ?_ | (refine Z2 ?_; first | refine Z3 rfl rfl (by decide) ?_ | refine Z4 rfl rfl (by decide) ?_ | refine Z5 rfl rfl ?_ | ((refine Z51 rfl rfl (fun c' hc' => ?_)); cases c' <;> (try simp only [decide_eq_true_eq, decide_eq_false_iff_not, beq_iff_eq, beq_eq_false_iff_ne, bne_iff_ne, bne_eq_false_iff_eq, ne_eq, gt_iff_lt, ge_iff_le, Int.not_lt, Int.not_le, Bool.not_eq_true', Bool.not_eq_false', Bool.not_true, Bool.not_false, reduceCtorEq, Decidable.not_not, not_true_eq_false, Bool.true_eq_false, Bool.false_eq_true] at hc') <;> (try (exfalso; omega)))) | (refine Z6 ?_; first | refine Z7 rfl rfl ?_ | refine Z8 rfl rfl ?_) | (refine Z9 ?_; first | refine Z10 rfl (by assumption) (by rfl) ?_ | refine Z11 rfl (by assumption) ?_) | (refine Z12 ?_; first | refine Z13 (Z14 rfl (by decide) rfl) ?_ | refine Z13 (Z15 rfl (by decide) rfl) ?_) | (refine Z16 ?_; first | refine Z17 rfl ?_ | refine Z18 rfl ?_) | (refine Z19 ?_; first | refine Z20 rfl rfl (by omega) ?_ | refine Z21 rfl rfl (by omega) ?_ | refine Z22 rfl rfl (by omega) ?_ | refine Z23 rfl rfl (by omega) (by omega) ?_ | refine Z24 rfl rfl (by omega) (by omega) (by omega) ?_ | refine Z13 (Z25 rfl rfl) ?_ | refine Z13 (Z26 rfl rfl) ?_) | (refine Z27 ?_; refine Z13 (Z28 rfl (Z53 ⟨by omega, by omega⟩)) ?_) | (refine Z29 ?_; refine Z13 (Z30 rfl (by rfl) (by simp only [Z84, List.set_cons_zero, List.set_cons_succ]; rfl)) ?_) | refine Z31 ?_) | (refine Z32 ?_; first | refine Z33 ?_ | refine Z34 ?_ | refine Z35 ?_ | refine Z36 ?_ | refine Z37 ?_ | refine Z38 rfl ?_ | refine Z39 ?_ | refine Z40 ?_ | refine Z41 ?_) | (refine Z42 ?_; first | refine Z43 ?_ | refine Z44 ?_ | refine Z45 ?_ | refine Z46 ?_ | refine Z47 ?_ | refine Z48 ?_ | refine Z49 rfl (by decide) ?_ | refine Z50 rfl (by decide) ?_ | ((refine Z52 rfl (fun hc' => ?_) (fun hc' => ?_)) <;> (try simp only [decide_eq_true_eq, decide_eq_false_iff_not, beq_iff_eq, beq_eq_false_iff_ne, bne_iff_ne, bne_eq_false_iff_eq, ne_eq, gt_iff_lt, ge_iff_le, Int.not_lt, Int.not_le, Bool.not_eq_true', Bool.not_eq_false', Bool.not_true, Bool.not_false, reduceCtorEq, Decidable.not_not, not_true_eq_false, Bool.true_eq_false, Bool.false_eq_true] at hc') <;> (try (exfalso; omega)))))
    refine WO_loadSB rfl hy rfl ?_
    refine WO_call rfl (WriteCell_ret _ (lentL m x true) _ (lentP m x true) 7 _ hn (cells_size t1)) ?_
    rintro _ wn ⟨vo, rfl, hN⟩
    have eN := hN.2
    try replace hx := Blk.ext hx eN
    try replace hy := Blk.ext hy eN
    try replace hwy := Blk.ext hwy eN
    try replace hz := Blk.ext hz eN
    try replace hm := CeS.ext hm eN
    try replace hn := CeS.ext hn eN
    try replace hwn := CeS.ext hwn eN
    try replace hp := CeS.ext hp eN
    try replace ha := CeS.ext ha eN
    try replace hb := CeS.ext hb eN
    try replace e0 := Ext.trans e0 eN
    obtain ⟨FN, ha, _⟩ := hN.ces
    clear hN eN
    repeat (first | (refine Z0 ?_; first | refine Z1 rfl ?_ | (refine Z2 ?_; first | refine Z3 rfl rfl (by decide) ?_ | refine Z4 rfl rfl (by decide) ?_ | refine Z5 rfl rfl ?_) | (refine Z6 ?_; first | refine Z7 rfl rfl ?_ | refine Z8 rfl rfl ?_) | (refine Z9 ?_; first | refine Z10 rfl (by assumption) (by rfl) ?_ | refine Z11 rfl (by assumption) ?_) | (refine Z12 ?_; first | refine Z13 (Z14 rfl (by decide) rfl) ?_ | refine Z13 (Z15 rfl (by decide) rfl) ?_) | (refine Z16 ?_; first | refine Z17 rfl ?_ | refine Z18 rfl ?_) | (refine Z19 ?_; first | refine Z20 rfl rfl (by omega) ?_ | refine Z21 rfl rfl (by omega) ?_ | refine Z22 rfl rfl (by omega) ?_ | refine Z23 rfl rfl (by omega) (by omega) ?_ | refine Z24 rfl rfl (by omega) (by omega) (by omega) ?_ | refine Z13 (Z25 rfl rfl) ?_ | refine Z13 (Z26 rfl rfl) ?_) | (refine Z27 ?_; refine Z13 (Z28 rfl (Z53 ⟨by omega, by omega⟩)) ?_) | (refine Z29 ?_; refine Z13 (Z30 rfl (by rfl) (by simp only [Z84, List.set_cons_zero, List.set_cons_succ]; rfl)) ?_) | refine Z31 ?_) | (refine Z32 ?_; first | refine Z33 ?_ | refine Z34 ?_ | refine Z35 ?_ | refine Z36 ?_ | refine Z37 ?_ | refine Z38 rfl ?_ | refine Z39 ?_ | refine Z40 ?_ | refine Z41 ?_) | (refine Z42 ?_; first | refine Z43 ?_ | refine Z44 ?_ | refine Z45 ?_ | refine Z46 ?_ | refine Z47 ?_ | refine Z48 ?_ | refine Z49 rfl (by decide) ?_ | refine Z50 rfl (by decide) ?_))
    refine WO_loadSB rfl hx rfl ?_
    refine WO_call rfl (ReadCell_ret _ _ _ x _ ha (cells_size hok2)) ?_
    rintro _ wn ⟨vo, rfl, hN⟩
    have eN := hN.2
    try replace hx := Blk.ext hx eN
    try replace hy := Blk.ext hy eN
    try replace hwy := Blk.ext hwy eN
    try replace hz := Blk.ext hz eN
    try replace hm := CeS.ext hm eN
    try replace hn := CeS.ext hn eN
    try replace hwn := CeS.ext hwn eN
    try replace hp := CeS.ext hp eN
    try replace ha := CeS.ext ha eN
    try replace hb := CeS.ext hb eN
    try replace e0 := Ext.trans e0 eN
    obtain ⟨FN, hb, _⟩ := hN.ces
    clear hN eN
    repeat (first | (refine Z0 ?_; first | refine Z1 rfl ?_ | (refine Z2 ?_; first | refine Z3 rfl rfl (by decide) ?_ | refine Z4 rfl rfl (by decide) ?_ | refine Z5 rfl rfl ?_) | (refine Z6 ?_; first | refine Z7 rfl rfl ?_ | refine Z8 rfl rfl ?_) | (refine Z9 ?_; first | refine Z10 rfl (by assumption) (by rfl) ?_ | refine Z11 rfl (by assumption) ?_) | (refine Z12 ?_; first | refine Z13 (Z14 rfl (by decide) rfl) ?_ | refine Z13 (Z15 rfl (by decide) rfl) ?_) | (refine Z16 ?_; first | refine Z17 rfl ?_ | refine Z18 rfl ?_) | (refine Z19 ?_; first | refine Z20 rfl rfl (by omega) ?_ | refine Z21 rfl rfl (by omega) ?_ | refine Z22 rfl rfl (by omega) ?_ | refine Z23 rfl rfl (by omega) (by omega) ?_ | refine Z24 rfl rfl (by omega) (by omega) (by omega) ?_ | refine Z13 (Z25 rfl rfl) ?_ | refine Z13 (Z26 rfl rfl) ?_) | (refine Z27 ?_; refine Z13 (Z28 rfl (Z53 ⟨by omega, by omega⟩)) ?_) | (refine Z29 ?_; refine Z13 (Z30 rfl (by rfl) (by simp only [Z84, List.set_cons_zero, List.set_cons_succ]; rfl)) ?_) | refine Z31 ?_) | (refine Z32 ?_; first | refine Z33 ?_ | refine Z34 ?_ | refine Z35 ?_ | refine Z36 ?_ | refine Z37 ?_ | refine Z38 rfl ?_ | refine Z39 ?_ | refine Z40 ?_ | refine Z41 ?_) | (refine Z42 ?_; first | refine Z43 ?_ | refine Z44 ?_ | refine Z45 ?_ | refine Z46 ?_ | refine Z47 ?_ | refine Z48 ?_ | refine Z49 rfl (by decide) ?_ | refine Z50 rfl (by decide) ?_))
    refine WO_loadSB rfl hy rfl ?_
    refine WO_call rfl (WriteCell_ret _ _ _ (lentP m x true) 1 _ hb (cells_size hok3)) ?_
    rintro _ wn ⟨vo, rfl, hN⟩
    have eN := hN.2
    try replace hx := Blk.ext hx eN
    try replace hy := Blk.ext hy eN
    try replace hwy := Blk.ext hwy eN
    try replace hz := Blk.ext hz eN
    try replace hm := CeS.ext hm eN
    try replace hn := CeS.ext hn eN
    try replace hwn := CeS.ext hwn eN
    try replace hp := CeS.ext hp eN
    try replace ha := CeS.ext ha eN
    try replace hb := CeS.ext hb eN
    try replace e0 := Ext.trans e0 eN
    obtain ⟨FN, hp, _⟩ := hN.ces
    clear hN eN
    repeat (first | (refine Z0 ?_; first | refine Z1 rfl ?_ | (refine Z2 ?_; first | refine Z3 rfl rfl (by decide) ?_ | refine Z4 rfl rfl (by decide) ?_ | refine Z5 rfl rfl ?_) | (refine Z6 ?_; first | refine Z7 rfl rfl ?_ | refine Z8 rfl rfl ?_) | (refine Z9 ?_; first | refine Z10 rfl (by assumption) (by rfl) ?_ | refine Z11 rfl (by assumption) ?_) | (refine Z12 ?_; first | refine Z13 (Z14 rfl (by decide) rfl) ?_ | refine Z13 (Z15 rfl (by decide) rfl) ?_) | (refine Z16 ?_; first | refine Z17 rfl ?_ | refine Z18 rfl ?_) | (refine Z19 ?_; first | refine Z20 rfl rfl (by omega) ?_ | refine Z21 rfl rfl (by omega) ?_ | refine Z22 rfl rfl (by omega) ?_ | refine Z23 rfl rfl (by omega) (by omega) ?_ | refine Z24 rfl rfl (by omega) (by omega) (by omega) ?_ | refine Z13 (Z25 rfl rfl) ?_ | refine Z13 (Z26 rfl rfl) ?_) | (refine Z27 ?_; refine Z13 (Z28 rfl (Z53 ⟨by omega, by omega⟩)) ?_) | (refine Z29 ?_; refine Z13 (Z30 rfl (by rfl) (by simp only [Z84, List.set_cons_zero, List.set_cons_succ]; rfl)) ?_) | refine Z31 ?_) | (refine Z32 ?_; first | refine Z33 ?_ | refine Z34 ?_ | refine Z35 ?_ | refine Z36 ?_ | refine Z37 ?_ | refine Z38 rfl ?_ | refine Z39 ?_ | refine Z40 ?_ | refine Z41 ?_) | (refine Z42 ?_; first | refine Z43 ?_ | refine Z44 ?_ | refine Z45 ?_ | refine Z46 ?_ | refine Z47 ?_ | refine Z48 ?_ | refine Z49 rfl (by decide) ?_ | refine Z50 rfl (by decide) ?_))
    refine WO_loadSB rfl hy rfl ?_
    refine WO_call rfl (ReadCell_ret _ _ _ (lentP m x true) _ hb (cells_size hok3)) ?_
    rintro _ wn ⟨vo, rfl, hN⟩
    have eN := hN.2
    try replace hx := Blk.ext hx eN
    try replace hy := Blk.ext hy eN
    try replace hwy := Blk.ext hwy eN
    try replace hz := Blk.ext hz eN
    try replace hm := CeS.ext hm eN
    try replace hn := CeS.ext hn eN
    try replace hwn := CeS.ext hwn eN
    try replace hp := CeS.ext hp eN
    try replace ha := CeS.ext ha eN
    try replace hb := CeS.ext hb eN
    try replace e0 := Ext.trans e0 eN
    obtain ⟨FN, hq, _⟩ := hN.ces
    clear hN eN
    repeat (first | (refine Z0 ?_; first | refine Z1 rfl ?_ | (refine Z2 ?_; first | refine Z3 rfl rfl (by decide) ?_ | refine Z4 rfl rfl (by decide) ?_ | refine Z5 rfl rfl ?_) | (refine Z6 ?_; first | refine Z7 rfl rfl ?_ | refine Z8 rfl rfl ?_) | (refine Z9 ?_; first | refine Z10 rfl (by assumption) (by rfl) ?_ | refine Z11 rfl (by assumption) ?_) | (refine Z12 ?_; first | refine Z13 (Z14 rfl (by decide) rfl) ?_ | refine Z13 (Z15 rfl (by decide) rfl) ?_) | (refine Z16 ?_; first | refine Z17 rfl ?_ | refine Z18 rfl ?_) | (refine Z19 ?_; first | refine Z20 rfl rfl (by omega) ?_ | refine Z21 rfl rfl (by omega) ?_ | refine Z22 rfl rfl (by omega) ?_ | refine Z23 rfl rfl (by omega) (by omega) ?_ | refine Z24 rfl rfl (by omega) (by omega) (by omega) ?_ | refine Z13 (Z25 rfl rfl) ?_ | refine Z13 (Z26 rfl rfl) ?_) | (refine Z27 ?_; refine Z13 (Z28 rfl (Z53 ⟨by omega, by omega⟩)) ?_) | (refine Z29 ?_; refine Z13 (Z30 rfl (by rfl) (by simp only [Z84, List.set_cons_zero, List.set_cons_succ]; rfl)) ?_) | refine Z31 ?_) | (refine Z32 ?_; first | refine Z33 ?_ | refine Z34 ?_ | refine Z35 ?_ | refine Z36 ?_ | refine Z37 ?_ | refine Z38 rfl ?_ | refine Z39 ?_ | refine Z40 ?_ | refine Z41 ?_) | (refine Z42 ?_; first | refine Z43 ?_ | refine Z44 ?_ | refine Z45 ?_ | refine Z46 ?_ | refine Z47 ?_ | refine Z48 ?_ | refine Z49 rfl (by decide) ?_ | refine Z50 rfl (by decide) ?_))
    refine WO_call rfl (CellsValid_ret _ _ _ _ hn) ?_
    rintro _ wn ⟨rfl, eN⟩
    try replace hx := Blk.ext hx eN
    try replace hy := Blk.ext hy eN
    try replace hwy := Blk.ext hwy eN
    try replace hz := Blk.ext hz eN
    try replace hm := CeS.ext hm eN
    try replace hn := CeS.ext hn eN
    try replace hwn := CeS.ext hwn eN
    try replace hp := CeS.ext hp eN
    try replace ha := CeS.ext ha eN
    try replace hb := CeS.ext hb eN
    try replace e0 := Ext.trans e0 eN
    rw [decide_eq_true t1, t2, t3, t4, t5, t6]
    repeat' (first | (refine Z0 ?_; first | refine Z1 rfl ?_ | (refine Z2 ?_; first | refine Z3 rfl rfl (by decide) ?_ | refine Z4 rfl rfl (by decide) ?_ | refine Z5 rfl rfl ?_ | ((refine Z51 rfl rfl (fun c' hc' => ?_)); cases c' <;> (try simp only [decide_eq_true_eq, decide_eq_false_iff_not, beq_iff_eq, beq_eq_false_iff_ne, bne_iff_ne, bne_eq_false_iff_eq, ne_eq, gt_iff_lt, ge_iff_le, Int.not_lt, Int.not_le, Bool.not_eq_true', Bool.not_eq_false', Bool.not_true, Bool.not_false, reduceCtorEq, Decidable.not_not, not_true_eq_false, Bool.true_eq_false, Bool.false_eq_true] at hc') <;> (try (exfalso; omega)))) | (refine Z6 ?_; first | refine Z7 rfl rfl ?_ | refine Z8 rfl rfl ?_) | (refine Z9 ?_; first | refine Z10 rfl (by assumption) (by rfl) ?_ | refine Z11 rfl (by assumption) ?_) | (refine Z12 ?_; first | refine Z13 (Z14 rfl (by decide) rfl) ?_ | refine Z13 (Z15 rfl (by decide) rfl) ?_) | (refine Z16 ?_; first | refine Z17 rfl ?_ | refine Z18 rfl ?_) | (refine Z19 ?_; first | refine Z20 rfl rfl (by omega) ?_ | refine Z21 rfl rfl (by omega) ?_ | refine Z22 rfl rfl (by omega) ?_ | refine Z23 rfl rfl (by omega) (by omega) ?_ | refine Z24 rfl rfl (by omega) (by omega) (by omega) ?_ | refine Z13 (Z25 rfl rfl) ?_ | refine Z13 (Z26 rfl rfl) ?_) | (refine Z27 ?_; refine Z13 (Z28 rfl (Z53 ⟨by omega, by omega⟩)) ?_) | (refine Z29 ?_; refine Z13 (Z30 rfl (by rfl) (by simp only [Z84, List.set_cons_zero, List.set_cons_succ]; rfl)) ?_) | refine Z31 ?_) | (refine Z32 ?_; first | refine Z33 ?_ | refine Z34 ?_ | refine Z35 ?_ | refine Z36 ?_ | refine Z37 ?_ | refine Z38 rfl ?_ | refine Z39 ?_ | refine Z40 ?_ | refine Z41 ?_) | (refine Z42 ?_; first | refine Z43 ?_ | refine Z44 ?_ | refine Z45 ?_ | refine Z46 ?_ | refine Z47 ?_ | refine Z48 ?_ | refine Z49 rfl (by decide) ?_ | refine Z50 rfl (by decide) ?_ | ((refine Z52 rfl (fun hc' => ?_) (fun hc' => ?_)) <;> (try simp only [decide_eq_true_eq, decide_eq_false_iff_not, beq_iff_eq, beq_eq_false_iff_ne, bne_iff_ne, bne_eq_false_iff_eq, ne_eq, gt_iff_lt, ge_iff_le, Int.not_lt, Int.not_le, Bool.not_eq_true', Bool.not_eq_false', Bool.not_true, Bool.not_false, reduceCtorEq, Decidable.not_not, not_true_eq_false, Bool.true_eq_false, Bool.false_eq_true] at hc') <;> (try (exfalso; omega)))))
    exact at_ret1 rfl rfl ⟨rfl, e0⟩
  · repeat' (first | (refine Z0 ?_; first | refine Z1 rfl ?_ | (refine Z2 ?_; first | refine Z3 rfl rfl (by decide) ?_ | refine Z4 rfl rfl (by decide) ?_ | refine Z5 rfl rfl ?_ | ((refine Z51 rfl rfl (fun c' hc' => ?_)); cases c' <;> (try simp only [decide_eq_true_eq, decide_eq_false_iff_not, beq_iff_eq, beq_eq_false_iff_ne, bne_iff_ne, bne_eq_false_iff_eq, ne_eq, gt_iff_lt, ge_iff_le, Int.not_lt, Int.not_le, Bool.not_eq_true', Bool.not_eq_false', Bool.not_true, Bool.not_false, reduceCtorEq, Decidable.not_not, not_true_eq_false, Bool.true_eq_false, Bool.false_eq_true] at hc') <;> (try (exfalso; omega)))) | (refine Z6 ?_; first | refine Z7 rfl rfl ?_ | refine Z8 rfl rfl ?_) | (refine Z9 ?_; first | refine Z10 rfl (by assumption) (by rfl) ?_ | refine Z11 rfl (by assumption) ?_) | (refine Z12 ?_; first | refine Z13 (Z14 rfl (by decide) rfl) ?_ | refine Z13 (Z15 rfl (by decide) rfl) ?_) | (refine Z16 ?_; first | refine Z17 rfl ?_ | refine Z18 rfl ?_) | (refine Z19 ?_; first | refine Z20 rfl rfl (by omega) ?_ | refine Z21 rfl rfl (by omega) ?_ | refine Z22 rfl rfl (by omega) ?_ | refine Z23 rfl rfl (by omega) (by omega) ?_ | refine Z24 rfl rfl (by omega) (by omega) (by omega) ?_ | refine Z13 (Z25 rfl rfl) ?_ | refine Z13 (Z26 rfl rfl) ?_) | (refine Z27 ?_; refine Z13 (Z28 rfl (Z53 ⟨by omega, by omega⟩)) ?_) | (refine Z29 ?_; refine Z13 (Z30 rfl (by rfl) (by simp only [Z84, List.set_cons_zero, List.set_cons_succ]; rfl)) ?_) | refine Z31 ?_) | (refine Z32 ?_; first | refine Z33 ?_ | refine Z34 ?_ | refine Z35 ?_ | refine Z36 ?_ | refine Z37 ?_ | refine Z38 rfl ?_ | refine Z39 ?_ | refine Z40 ?_ | refine Z41 ?_) | (refine Z42 ?_; first | refine Z43 ?_ | refine Z44 ?_ | refine Z45 ?_ | refine Z46 ?_ | refine Z47 ?_ | refine Z48 ?_ | refine Z49 rfl (by decide) ?_ | refine Z50 rfl (by decide) ?_ | ((refine Z52 rfl (fun hc' => ?_) (fun hc' => ?_)) <;> (try simp only [decide_eq_true_eq, decide_eq_false_iff_not, beq_iff_eq, beq_eq_false_iff_ne, bne_iff_ne, bne_eq_false_iff_eq, ne_eq, gt_iff_lt, ge_iff_le, Int.not_lt, Int.not_le, Bool.not_eq_true', Bool.not_eq_false', Bool.not_true, Bool.not_false, reduceCtorEq, Decidable.not_not, not_true_eq_false, Bool.true_eq_false, Bool.false_eq_true] at hc') <;> (try (exfalso; omega)))))
    refine WO_call rfl (bcSame_ret _ _ _ _ _ _ hn hwn) ?_
    rintro _ wn ⟨rfl, eN⟩
    try replace hx := Blk.ext hx eN
    try replace hy := Blk.ext hy eN
    try replace hwy := Blk.ext hwy eN
    try replace hz := Blk.ext hz eN
    try replace hm := CeS.ext hm eN
    try replace hn := CeS.ext hn eN
    try replace hwn := CeS.ext hwn eN
    try replace hp := CeS.ext hp eN
    try replace ha := CeS.ext ha eN
    try replace hb := CeS.ext hb eN
    try replace e0 := Ext.trans e0 eN
    clear eN
    repeat (first | (refine Z0 ?_; first | refine Z1 rfl ?_ | (refine Z2 ?_; first | refine Z3 rfl rfl (by decide) ?_ | refine Z4 rfl rfl (by decide) ?_ | refine Z5 rfl rfl ?_) | (refine Z6 ?_; first | refine Z7 rfl rfl ?_ | refine Z8 rfl rfl ?_) | (refine Z9 ?_; first | refine Z10 rfl (by assumption) (by rfl) ?_ | refine Z11 rfl (by assumption) ?_) | (refine Z12 ?_; first | refine Z13 (Z14 rfl (by decide) rfl) ?_ | refine Z13 (Z15 rfl (by decide) rfl) ?_) | (refine Z16 ?_; first | refine Z17 rfl ?_ | refine Z18 rfl ?_) | (refine Z19 ?_; first | refine Z20 rfl rfl (by omega) ?_ | refine Z21 rfl rfl (by omega) ?_ | refine Z22 rfl rfl (by omega) ?_ | refine Z23 rfl rfl (by omega) (by omega) ?_ | refine Z24 rfl rfl (by omega) (by omega) (by omega) ?_ | refine Z13 (Z25 rfl rfl) ?_ | refine Z13 (Z26 rfl rfl) ?_) | (refine Z27 ?_; refine Z13 (Z28 rfl (Z53 ⟨by omega, by omega⟩)) ?_) | (refine Z29 ?_; refine Z13 (Z30 rfl (by rfl) (by simp only [Z84, List.set_cons_zero, List.set_cons_succ]; rfl)) ?_) | refine Z31 ?_) | (refine Z32 ?_; first | refine Z33 ?_ | refine Z34 ?_ | refine Z35 ?_ | refine Z36 ?_ | refine Z37 ?_ | refine Z38 rfl ?_ | refine Z39 ?_ | refine Z40 ?_ | refine Z41 ?_) | (refine Z42 ?_; first | refine Z43 ?_ | refine Z44 ?_ | refine Z45 ?_ | refine Z46 ?_ | refine Z47 ?_ | refine Z48 ?_ | refine Z49 rfl (by decide) ?_ | refine Z50 rfl (by decide) ?_))
    refine WO_loadSB rfl hy rfl ?_
    repeat (first | (refine Z0 ?_; first | refine Z1 rfl ?_ | (refine Z2 ?_; first | refine Z3 rfl rfl (by decide) ?_ | refine Z4 rfl rfl (by decide) ?_ | refine Z5 rfl rfl ?_) | (refine Z6 ?_; first | refine Z7 rfl rfl ?_ | refine Z8 rfl rfl ?_) | (refine Z9 ?_; first | refine Z10 rfl (by assumption) (by rfl) ?_ | refine Z11 rfl (by assumption) ?_) | (refine Z12 ?_; first | refine Z13 (Z14 rfl (by decide) rfl) ?_ | refine Z13 (Z15 rfl (by decide) rfl) ?_) | (refine Z16 ?_; first | refine Z17 rfl ?_ | refine Z18 rfl ?_) | (refine Z19 ?_; first | refine Z20 rfl rfl (by omega) ?_ | refine Z21 rfl rfl (by omega) ?_ | refine Z22 rfl rfl (by omega) ?_ | refine Z23 rfl rfl (by omega) (by omega) ?_ | refine Z24 rfl rfl (by omega) (by omega) (by omega) ?_ | refine Z13 (Z25 rfl rfl) ?_ | refine Z13 (Z26 rfl rfl) ?_) | (refine Z27 ?_; refine Z13 (Z28 rfl (Z53 ⟨by omega, by omega⟩)) ?_) | (refine Z29 ?_; refine Z13 (Z30 rfl (by rfl) (by simp only [Z84, List.set_cons_zero, List.set_cons_succ]; rfl)) ?_) | refine Z31 ?_) | (refine Z32 ?_; first | refine Z33 ?_ | refine Z34 ?_ | refine Z35 ?_ | refine Z36 ?_ | refine Z37 ?_ | refine Z38 rfl ?_ | refine Z39 ?_ | refine Z40 ?_ | refine Z41 ?_) | (refine Z42 ?_; first | refine Z43 ?_ | refine Z44 ?_ | refine Z45 ?_ | refine Z46 ?_ | refine Z47 ?_ | refine Z48 ?_ | refine Z49 rfl (by decide) ?_ | refine Z50 rfl (by decide) ?_))
    refine WO_loadSB rfl hwy rfl ?_
    repeat (first | (refine Z0 ?_; first | refine Z1 rfl ?_ | (refine Z2 ?_; first | refine Z3 rfl rfl (by decide) ?_ | refine Z4 rfl rfl (by decide) ?_ | refine Z5 rfl rfl ?_) | (refine Z6 ?_; first | refine Z7 rfl rfl ?_ | refine Z8 rfl rfl ?_) | (refine Z9 ?_; first | refine Z10 rfl (by assumption) (by rfl) ?_ | refine Z11 rfl (by assumption) ?_) | (refine Z12 ?_; first | refine Z13 (Z14 rfl (by decide) rfl) ?_ | refine Z13 (Z15 rfl (by decide) rfl) ?_) | (refine Z16 ?_; first | refine Z17 rfl ?_ | refine Z18 rfl ?_) | (refine Z19 ?_; first | refine Z20 rfl rfl (by omega) ?_ | refine Z21 rfl rfl (by omega) ?_ | refine Z22 rfl rfl (by omega) ?_ | refine Z23 rfl rfl (by omega) (by omega) ?_ | refine Z24 rfl rfl (by omega) (by omega) (by omega) ?_ | refine Z13 (Z25 rfl rfl) ?_ | refine Z13 (Z26 rfl rfl) ?_) | (refine Z27 ?_; refine Z13 (Z28 rfl (Z53 ⟨by omega, by omega⟩)) ?_) | (refine Z29 ?_; refine Z13 (Z30 rfl (by rfl) (by simp only [Z84, List.set_cons_zero, List.set_cons_succ]; rfl)) ?_) | refine Z31 ?_) | (refine Z32 ?_; first | refine Z33 ?_ | refine Z34 ?_ | refine Z35 ?_ | refine Z36 ?_ | refine Z37 ?_ | refine Z38 rfl ?_ | refine Z39 ?_ | refine Z40 ?_ | refine Z41 ?_) | (refine Z42 ?_; first | refine Z43 ?_ | refine Z44 ?_ | refine Z45 ?_ | refine Z46 ?_ | refine Z47 ?_ | refine Z48 ?_ | refine Z49 rfl (by decide) ?_ | refine Z50 rfl (by decide) ?_))
    refine Z13 (q_eqPtS (lentP m x true) rfl rfl) ?_
    repeat' (first | (refine Z0 ?_; first | refine Z1 rfl ?_ | (refine Z2 ?_; first | refine Z3 rfl rfl (by decide) ?_ | refine Z4 rfl rfl (by decide) ?_ | refine Z5 rfl rfl ?_ | ((refine Z51 rfl rfl (fun c' hc' => ?_)); cases c' <;> (try simp only [decide_eq_true_eq, decide_eq_false_iff_not, beq_iff_eq, beq_eq_false_iff_ne, bne_iff_ne, bne_eq_false_iff_eq, ne_eq, gt_iff_lt, ge_iff_le, Int.not_lt, Int.not_le, Bool.not_eq_true', Bool.not_eq_false', Bool.not_true, Bool.not_false, reduceCtorEq, Decidable.not_not, not_true_eq_false, Bool.true_eq_false, Bool.false_eq_true] at hc') <;> (try (exfalso; omega)))) | (refine Z6 ?_; first | refine Z7 rfl rfl ?_ | refine Z8 rfl rfl ?_) | (refine Z9 ?_; first | refine Z10 rfl (by assumption) (by rfl) ?_ | refine Z11 rfl (by assumption) ?_) | (refine Z12 ?_; first | refine Z13 (Z14 rfl (by decide) rfl) ?_ | refine Z13 (Z15 rfl (by decide) rfl) ?_) | (refine Z16 ?_; first | refine Z17 rfl ?_ | refine Z18 rfl ?_) | (refine Z19 ?_; first | refine Z20 rfl rfl (by omega) ?_ | refine Z21 rfl rfl (by omega) ?_ | refine Z22 rfl rfl (by omega) ?_ | refine Z23 rfl rfl (by omega) (by omega) ?_ | refine Z24 rfl rfl (by omega) (by omega) (by omega) ?_ | refine Z13 (Z25 rfl rfl) ?_ | refine Z13 (Z26 rfl rfl) ?_) | (refine Z27 ?_; refine Z13 (Z28 rfl (Z53 ⟨by omega, by omega⟩)) ?_) | (refine Z29 ?_; refine Z13 (Z30 rfl (by rfl) (by simp only [Z84, List.set_cons_zero, List.set_cons_succ]; rfl)) ?_) | refine Z31 ?_) | (refine Z32 ?_; first | refine Z33 ?_ | refine Z34 ?_ | refine Z35 ?_ | refine Z36 ?_ | refine Z37 ?_ | refine Z38 rfl ?_ | refine Z39 ?_ | refine Z40 ?_ | refine Z41 ?_) | (refine Z42 ?_; first | refine Z43 ?_ | refine Z44 ?_ | refine Z45 ?_ | refine Z46 ?_ | refine Z47 ?_ | refine Z48 ?_ | refine Z49 rfl (by decide) ?_ | refine Z50 rfl (by decide) ?_ | ((refine Z52 rfl (fun hc' => ?_) (fun hc' => ?_)) <;> (try simp only [decide_eq_true_eq, decide_eq_false_iff_not, beq_iff_eq, beq_eq_false_iff_ne, bne_iff_ne, bne_eq_false_iff_eq, ne_eq, gt_iff_lt, ge_iff_le, Int.not_lt, Int.not_le, Bool.not_eq_true', Bool.not_eq_false', Bool.not_true, Bool.not_false, reduceCtorEq, Decidable.not_not, not_true_eq_false, Bool.true_eq_false, Bool.false_eq_true] at hc') <;> (try (exfalso; omega)))))
    have hlm : lentL m x true = m := by unfold lentL; rw [if_neg hk]
    rw [hlm] at hn
    refine WO_call rfl (bcSame_ret _ _ _ _ _ _ hn hm) ?_
    rintro _ wn ⟨rfl, eN⟩
    try replace hx := Blk.ext hx eN
    try replace hy := Blk.ext hy eN
    try replace hwy := Blk.ext hwy eN
    try replace hz := Blk.ext hz eN
    try replace hm := CeS.ext hm eN
    try replace hn := CeS.ext hn eN
    try replace hwn := CeS.ext hwn eN
    try replace hp := CeS.ext hp eN
    try replace ha := CeS.ext ha eN
    try replace hb := CeS.ext hb eN
    try replace e0 := Ext.trans e0 eN
    clear eN
    repeat (first | (refine Z0 ?_; first | refine Z1 rfl ?_ | (refine Z2 ?_; first | refine Z3 rfl rfl (by decide) ?_ | refine Z4 rfl rfl (by decide) ?_ | refine Z5 rfl rfl ?_) | (refine Z6 ?_; first | refine Z7 rfl rfl ?_ | refine Z8 rfl rfl ?_) | (refine Z9 ?_; first | refine Z10 rfl (by assumption) (by rfl) ?_ | refine Z11 rfl (by assumption) ?_) | (refine Z12 ?_; first | refine Z13 (Z14 rfl (by decide) rfl) ?_ | refine Z13 (Z15 rfl (by decide) rfl) ?_) | (refine Z16 ?_; first | refine Z17 rfl ?_ | refine Z18 rfl ?_) | (refine Z19 ?_; first | refine Z20 rfl rfl (by omega) ?_ | refine Z21 rfl rfl (by omega) ?_ | refine Z22 rfl rfl (by omega) ?_ | refine Z23 rfl rfl (by omega) (by omega) ?_ | refine Z24 rfl rfl (by omega) (by omega) (by omega) ?_ | refine Z13 (Z25 rfl rfl) ?_ | refine Z13 (Z26 rfl rfl) ?_) | (refine Z27 ?_; refine Z13 (Z28 rfl (Z53 ⟨by omega, by omega⟩)) ?_) | (refine Z29 ?_; refine Z13 (Z30 rfl (by rfl) (by simp only [Z84, List.set_cons_zero, List.set_cons_succ]; rfl)) ?_) | refine Z31 ?_) | (refine Z32 ?_; first | refine Z33 ?_ | refine Z34 ?_ | refine Z35 ?_ | refine Z36 ?_ | refine Z37 ?_ | refine Z38 rfl ?_ | refine Z39 ?_ | refine Z40 ?_ | refine Z41 ?_) | (refine Z42 ?_; first | refine Z43 ?_ | refine Z44 ?_ | refine Z45 ?_ | refine Z46 ?_ | refine Z47 ?_ | refine Z48 ?_ | refine Z49 rfl (by decide) ?_ | refine Z50 rfl (by decide) ?_))
    exact at_ret1 rfl rfl ⟨by simp, e0⟩
theorem FnShareCell_ret {v : Value} {w : World} (hd : ByD w v) : Ret Try.prog 13 [v] w fun r w' => r = .bool true ∧ Ext w w' := by
  have hd0 := hd
  obtain ⟨A0, n0, c0, rfl, _, hn0, _⟩ := hd0
  refine enter Try.func13 rfl Try.ntmps13 rfl rfl ?_
  repeat' (first | (refine Z0 ?_; first | refine Z1 rfl ?_ | (refine Z2 ?_; first | refine Z3 rfl rfl (by decide) ?_ | refine Z4 rfl rfl (by decide) ?_ | refine Z5 rfl rfl ?_ | ((refine Z51 rfl rfl (fun c' hc' => ?_)); cases c' <;> (try simp only [decide_eq_true_eq, decide_eq_false_iff_not, beq_iff_eq, beq_eq_false_iff_ne, bne_iff_ne, bne_eq_false_iff_eq, ne_eq, gt_iff_lt, ge_iff_le, Int.not_lt, Int.not_le, Bool.not_eq_true', Bool.not_eq_false', Bool.not_true, Bool.not_false, reduceCtorEq, Decidable.not_not, not_true_eq_false, Bool.true_eq_false, Bool.false_eq_true] at hc') <;> (try (exfalso; omega)))) | (refine Z6 ?_; first | refine Z7 rfl rfl ?_ | refine Z8 rfl rfl ?_) | (refine Z9 ?_; first | refine Z10 rfl (by assumption) (by rfl) ?_ | refine Z11 rfl (by assumption) ?_) | (refine Z12 ?_; first | refine Z13 (Z14 rfl (by decide) rfl) ?_ | refine Z13 (Z15 rfl (by decide) rfl) ?_) | (refine Z16 ?_; first | refine Z17 rfl ?_ | refine Z18 rfl ?_) | (refine Z19 ?_; first | refine Z20 rfl rfl (by omega) ?_ | refine Z21 rfl rfl (by omega) ?_ | refine Z22 rfl rfl (by omega) ?_ | refine Z23 rfl rfl (by omega) (by omega) ?_ | refine Z24 rfl rfl (by omega) (by omega) (by omega) ?_ | refine Z13 (Z25 rfl rfl) ?_ | refine Z13 (Z26 rfl rfl) ?_) | (refine Z27 ?_; refine Z13 (Z28 rfl (Z53 ⟨by omega, by omega⟩)) ?_) | (refine Z29 ?_; refine Z13 (Z30 rfl (by rfl) (by simp only [Z84, List.set_cons_zero, List.set_cons_succ]; rfl)) ?_) | refine Z31 ?_) | (refine Z32 ?_; first | refine Z33 ?_ | refine Z34 ?_ | refine Z35 ?_ | refine Z36 ?_ | refine Z37 ?_ | refine Z38 rfl ?_ | refine Z39 ?_ | refine Z40 ?_ | refine Z41 ?_) | (refine Z42 ?_; first | refine Z43 ?_ | refine Z44 ?_ | refine Z45 ?_ | refine Z46 ?_ | refine Z47 ?_ | refine Z48 ?_ | refine Z49 rfl (by decide) ?_ | refine Z50 rfl (by decide) ?_ | ((refine Z52 rfl (fun hc' => ?_) (fun hc' => ?_)) <;> (try simp only [decide_eq_true_eq, decide_eq_false_iff_not, beq_iff_eq, beq_eq_false_iff_ne, bne_iff_ne, bne_eq_false_iff_eq, ne_eq, gt_iff_lt, ge_iff_le, Int.not_lt, Int.not_le, Bool.not_eq_true', Bool.not_eq_false', Bool.not_true, Bool.not_false, reduceCtorEq, Decidable.not_not, not_true_eq_false, Bool.true_eq_false, Bool.false_eq_true] at hc') <;> (try (exfalso; omega)))))
  any_goals (exact at_ret1 rfl rfl ⟨rfl, Ext.refl _⟩)
  refine WO_call rfl (DrawShareCell_ret _ w hd) ?_
  rintro _ w1 ⟨vm, x, rfl, ⟨m, Fm, hm, hms, _⟩, e0⟩
  repeat (first | (refine Z0 ?_; first | refine Z1 rfl ?_ | (refine Z2 ?_; first | refine Z3 rfl rfl (by decide) ?_ | refine Z4 rfl rfl (by decide) ?_ | refine Z5 rfl rfl ?_) | (refine Z6 ?_; first | refine Z7 rfl rfl ?_ | refine Z8 rfl rfl ?_) | (refine Z9 ?_; first | refine Z10 rfl (by assumption) (by rfl) ?_ | refine Z11 rfl (by assumption) ?_) | (refine Z12 ?_; first | refine Z13 (Z14 rfl (by decide) rfl) ?_ | refine Z13 (Z15 rfl (by decide) rfl) ?_) | (refine Z16 ?_; first | refine Z17 rfl ?_ | refine Z18 rfl ?_) | (refine Z19 ?_; first | refine Z20 rfl rfl (by omega) ?_ | refine Z21 rfl rfl (by omega) ?_ | refine Z22 rfl rfl (by omega) ?_ | refine Z23 rfl rfl (by omega) (by omega) ?_ | refine Z24 rfl rfl (by omega) (by omega) (by omega) ?_ | refine Z13 (Z25 rfl rfl) ?_ | refine Z13 (Z26 rfl rfl) ?_) | (refine Z27 ?_; refine Z13 (Z28 rfl (Z53 ⟨by omega, by omega⟩)) ?_) | (refine Z29 ?_; refine Z13 (Z30 rfl (by rfl) (by simp only [Z84, List.set_cons_zero, List.set_cons_succ]; rfl)) ?_) | refine Z31 ?_) | (refine Z32 ?_; first | refine Z33 ?_ | refine Z34 ?_ | refine Z35 ?_ | refine Z36 ?_ | refine Z37 ?_ | refine Z38 rfl ?_ | refine Z39 ?_ | refine Z40 ?_ | refine Z41 ?_) | (refine Z42 ?_; first | refine Z43 ?_ | refine Z44 ?_ | refine Z45 ?_ | refine Z46 ?_ | refine Z47 ?_ | refine Z48 ?_ | refine Z49 rfl (by decide) ?_ | refine Z50 rfl (by decide) ?_))
  refine WO_alloc fun wa ha0 ea za => ?_
  repeat (first | (refine Z0 ?_; first | refine Z1 rfl ?_ | (refine Z2 ?_; first | refine Z3 rfl rfl (by decide) ?_ | refine Z4 rfl rfl (by decide) ?_ | refine Z5 rfl rfl ?_) | (refine Z6 ?_; first | refine Z7 rfl rfl ?_ | refine Z8 rfl rfl ?_) | (refine Z9 ?_; first | refine Z10 rfl (by assumption) (by rfl) ?_ | refine Z11 rfl (by assumption) ?_) | (refine Z12 ?_; first | refine Z13 (Z14 rfl (by decide) rfl) ?_ | refine Z13 (Z15 rfl (by decide) rfl) ?_) | (refine Z16 ?_; first | refine Z17 rfl ?_ | refine Z18 rfl ?_) | (refine Z19 ?_; first | refine Z20 rfl rfl (by omega) ?_ | refine Z21 rfl rfl (by omega) ?_ | refine Z22 rfl rfl (by omega) ?_ | refine Z23 rfl rfl (by omega) (by omega) ?_ | refine Z24 rfl rfl (by omega) (by omega) (by omega) ?_ | refine Z13 (Z25 rfl rfl) ?_ | refine Z13 (Z26 rfl rfl) ?_) | (refine Z27 ?_; refine Z13 (Z28 rfl (Z53 ⟨by omega, by omega⟩)) ?_) | (refine Z29 ?_; refine Z13 (Z30 rfl (by rfl) (by simp only [Z84, List.set_cons_zero, List.set_cons_succ]; rfl)) ?_) | refine Z31 ?_) | (refine Z32 ?_; first | refine Z33 ?_ | refine Z34 ?_ | refine Z35 ?_ | refine Z36 ?_ | refine Z37 ?_ | refine Z38 rfl ?_ | refine Z39 ?_ | refine Z40 ?_ | refine Z41 ?_) | (refine Z42 ?_; first | refine Z43 ?_ | refine Z44 ?_ | refine Z45 ?_ | refine Z46 ?_ | refine Z47 ?_ | refine Z48 ?_ | refine Z49 rfl (by decide) ?_ | refine Z50 rfl (by decide) ?_))
  refine WO_storeS (k := 2) (vs := [.int .i64 (x).cell, .int .i64 (x).tag]) rfl rfl rfl (by intro v hv; simp at hv; rcases hv with rfl | rfl <;> rfl) ha0 (by decide) fun wb hb0 ob => ?_
  replace hb0 : Blk wb _ [.int .i64 (x).cell, .int .i64 (x).tag] _ := hb0
  have eb := Ext.only ea ob (Nat.le_refl _)
  try replace hx := Blk.ext hx eb
  try replace hy := Blk.ext hy eb
  try replace hwy := Blk.ext hwy eb
  try replace hz := Blk.ext hz eb
  try replace hm := CeS.ext hm eb
  try replace hn := CeS.ext hn eb
  try replace hwn := CeS.ext hwn eb
  try replace hp := CeS.ext hp eb
  try replace ha := CeS.ext ha eb
  try replace hb := CeS.ext hb eb
  try replace e0 := Ext.trans e0 eb
  clear ha0 ea za ob
  have hx := hb0
  clear hb0
  repeat (first | (refine Z0 ?_; first | refine Z1 rfl ?_ | (refine Z2 ?_; first | refine Z3 rfl rfl (by decide) ?_ | refine Z4 rfl rfl (by decide) ?_ | refine Z5 rfl rfl ?_) | (refine Z6 ?_; first | refine Z7 rfl rfl ?_ | refine Z8 rfl rfl ?_) | (refine Z9 ?_; first | refine Z10 rfl (by assumption) (by rfl) ?_ | refine Z11 rfl (by assumption) ?_) | (refine Z12 ?_; first | refine Z13 (Z14 rfl (by decide) rfl) ?_ | refine Z13 (Z15 rfl (by decide) rfl) ?_) | (refine Z16 ?_; first | refine Z17 rfl ?_ | refine Z18 rfl ?_) | (refine Z19 ?_; first | refine Z20 rfl rfl (by omega) ?_ | refine Z21 rfl rfl (by omega) ?_ | refine Z22 rfl rfl (by omega) ?_ | refine Z23 rfl rfl (by omega) (by omega) ?_ | refine Z24 rfl rfl (by omega) (by omega) (by omega) ?_ | refine Z13 (Z25 rfl rfl) ?_ | refine Z13 (Z26 rfl rfl) ?_) | (refine Z27 ?_; refine Z13 (Z28 rfl (Z53 ⟨by omega, by omega⟩)) ?_) | (refine Z29 ?_; refine Z13 (Z30 rfl (by rfl) (by simp only [Z84, List.set_cons_zero, List.set_cons_succ]; rfl)) ?_) | refine Z31 ?_) | (refine Z32 ?_; first | refine Z33 ?_ | refine Z34 ?_ | refine Z35 ?_ | refine Z36 ?_ | refine Z37 ?_ | refine Z38 rfl ?_ | refine Z39 ?_ | refine Z40 ?_ | refine Z41 ?_) | (refine Z42 ?_; first | refine Z43 ?_ | refine Z44 ?_ | refine Z45 ?_ | refine Z46 ?_ | refine Z47 ?_ | refine Z48 ?_ | refine Z49 rfl (by decide) ?_ | refine Z50 rfl (by decide) ?_))
  refine WO_loadSB rfl hx rfl ?_
  refine WO_call rfl (ShareCell_ret vm m Fm x _ hm hms) ?_
  rintro _ wn ⟨vo, rfl, hN⟩
  have eN := hN.2
  try replace hx := Blk.ext hx eN
  try replace hy := Blk.ext hy eN
  try replace hwy := Blk.ext hwy eN
  try replace hz := Blk.ext hz eN
  try replace hm := CeS.ext hm eN
  try replace hn := CeS.ext hn eN
  try replace hwn := CeS.ext hwn eN
  try replace hp := CeS.ext hp eN
  try replace ha := CeS.ext ha eN
  try replace hb := CeS.ext hb eN
  try replace e0 := Ext.trans e0 eN
  obtain ⟨FN, hn, _⟩ := hN.ces
  clear hN eN
  repeat (first | (refine Z0 ?_; first | refine Z1 rfl ?_ | (refine Z2 ?_; first | refine Z3 rfl rfl (by decide) ?_ | refine Z4 rfl rfl (by decide) ?_ | refine Z5 rfl rfl ?_) | (refine Z6 ?_; first | refine Z7 rfl rfl ?_ | refine Z8 rfl rfl ?_) | (refine Z9 ?_; first | refine Z10 rfl (by assumption) (by rfl) ?_ | refine Z11 rfl (by assumption) ?_) | (refine Z12 ?_; first | refine Z13 (Z14 rfl (by decide) rfl) ?_ | refine Z13 (Z15 rfl (by decide) rfl) ?_) | (refine Z16 ?_; first | refine Z17 rfl ?_ | refine Z18 rfl ?_) | (refine Z19 ?_; first | refine Z20 rfl rfl (by omega) ?_ | refine Z21 rfl rfl (by omega) ?_ | refine Z22 rfl rfl (by omega) ?_ | refine Z23 rfl rfl (by omega) (by omega) ?_ | refine Z24 rfl rfl (by omega) (by omega) (by omega) ?_ | refine Z13 (Z25 rfl rfl) ?_ | refine Z13 (Z26 rfl rfl) ?_) | (refine Z27 ?_; refine Z13 (Z28 rfl (Z53 ⟨by omega, by omega⟩)) ?_) | (refine Z29 ?_; refine Z13 (Z30 rfl (by rfl) (by simp only [Z84, List.set_cons_zero, List.set_cons_succ]; rfl)) ?_) | refine Z31 ?_) | (refine Z32 ?_; first | refine Z33 ?_ | refine Z34 ?_ | refine Z35 ?_ | refine Z36 ?_ | refine Z37 ?_ | refine Z38 rfl ?_ | refine Z39 ?_ | refine Z40 ?_ | refine Z41 ?_) | (refine Z42 ?_; first | refine Z43 ?_ | refine Z44 ?_ | refine Z45 ?_ | refine Z46 ?_ | refine Z47 ?_ | refine Z48 ?_ | refine Z49 rfl (by decide) ?_ | refine Z50 rfl (by decide) ?_))
  refine WO_alloc fun wa ha0 ea za => ?_
  repeat (first | (refine Z0 ?_; first | refine Z1 rfl ?_ | (refine Z2 ?_; first | refine Z3 rfl rfl (by decide) ?_ | refine Z4 rfl rfl (by decide) ?_ | refine Z5 rfl rfl ?_) | (refine Z6 ?_; first | refine Z7 rfl rfl ?_ | refine Z8 rfl rfl ?_) | (refine Z9 ?_; first | refine Z10 rfl (by assumption) (by rfl) ?_ | refine Z11 rfl (by assumption) ?_) | (refine Z12 ?_; first | refine Z13 (Z14 rfl (by decide) rfl) ?_ | refine Z13 (Z15 rfl (by decide) rfl) ?_) | (refine Z16 ?_; first | refine Z17 rfl ?_ | refine Z18 rfl ?_) | (refine Z19 ?_; first | refine Z20 rfl rfl (by omega) ?_ | refine Z21 rfl rfl (by omega) ?_ | refine Z22 rfl rfl (by omega) ?_ | refine Z23 rfl rfl (by omega) (by omega) ?_ | refine Z24 rfl rfl (by omega) (by omega) (by omega) ?_ | refine Z13 (Z25 rfl rfl) ?_ | refine Z13 (Z26 rfl rfl) ?_) | (refine Z27 ?_; refine Z13 (Z28 rfl (Z53 ⟨by omega, by omega⟩)) ?_) | (refine Z29 ?_; refine Z13 (Z30 rfl (by rfl) (by simp only [Z84, List.set_cons_zero, List.set_cons_succ]; rfl)) ?_) | refine Z31 ?_) | (refine Z32 ?_; first | refine Z33 ?_ | refine Z34 ?_ | refine Z35 ?_ | refine Z36 ?_ | refine Z37 ?_ | refine Z38 rfl ?_ | refine Z39 ?_ | refine Z40 ?_ | refine Z41 ?_) | (refine Z42 ?_; first | refine Z43 ?_ | refine Z44 ?_ | refine Z45 ?_ | refine Z46 ?_ | refine Z47 ?_ | refine Z48 ?_ | refine Z49 rfl (by decide) ?_ | refine Z50 rfl (by decide) ?_))
  refine WO_storeS (k := 2) (vs := [.int .i64 (lentP m x false).cell, .int .i64 (lentP m x false).tag]) rfl rfl rfl (by intro v hv; simp at hv; rcases hv with rfl | rfl <;> rfl) ha0 (by decide) fun wb hb0 ob => ?_
  replace hb0 : Blk wb _ [.int .i64 (lentP m x false).cell, .int .i64 (lentP m x false).tag] _ := hb0
  have eb := Ext.only ea ob (Nat.le_refl _)
  try replace hx := Blk.ext hx eb
  try replace hy := Blk.ext hy eb
  try replace hwy := Blk.ext hwy eb
  try replace hz := Blk.ext hz eb
  try replace hm := CeS.ext hm eb
  try replace hn := CeS.ext hn eb
  try replace hwn := CeS.ext hwn eb
  try replace hp := CeS.ext hp eb
  try replace ha := CeS.ext ha eb
  try replace hb := CeS.ext hb eb
  try replace e0 := Ext.trans e0 eb
  clear ha0 ea za ob
  have hy := hb0
  clear hb0
  repeat (first | (refine Z0 ?_; first | refine Z1 rfl ?_ | (refine Z2 ?_; first | refine Z3 rfl rfl (by decide) ?_ | refine Z4 rfl rfl (by decide) ?_ | refine Z5 rfl rfl ?_) | (refine Z6 ?_; first | refine Z7 rfl rfl ?_ | refine Z8 rfl rfl ?_) | (refine Z9 ?_; first | refine Z10 rfl (by assumption) (by rfl) ?_ | refine Z11 rfl (by assumption) ?_) | (refine Z12 ?_; first | refine Z13 (Z14 rfl (by decide) rfl) ?_ | refine Z13 (Z15 rfl (by decide) rfl) ?_) | (refine Z16 ?_; first | refine Z17 rfl ?_ | refine Z18 rfl ?_) | (refine Z19 ?_; first | refine Z20 rfl rfl (by omega) ?_ | refine Z21 rfl rfl (by omega) ?_ | refine Z22 rfl rfl (by omega) ?_ | refine Z23 rfl rfl (by omega) (by omega) ?_ | refine Z24 rfl rfl (by omega) (by omega) (by omega) ?_ | refine Z13 (Z25 rfl rfl) ?_ | refine Z13 (Z26 rfl rfl) ?_) | (refine Z27 ?_; refine Z13 (Z28 rfl (Z53 ⟨by omega, by omega⟩)) ?_) | (refine Z29 ?_; refine Z13 (Z30 rfl (by rfl) (by simp only [Z84, List.set_cons_zero, List.set_cons_succ]; rfl)) ?_) | refine Z31 ?_) | (refine Z32 ?_; first | refine Z33 ?_ | refine Z34 ?_ | refine Z35 ?_ | refine Z36 ?_ | refine Z37 ?_ | refine Z38 rfl ?_ | refine Z39 ?_ | refine Z40 ?_ | refine Z41 ?_) | (refine Z42 ?_; first | refine Z43 ?_ | refine Z44 ?_ | refine Z45 ?_ | refine Z46 ?_ | refine Z47 ?_ | refine Z48 ?_ | refine Z49 rfl (by decide) ?_ | refine Z50 rfl (by decide) ?_))
  refine WO_loadSB rfl hx rfl ?_
  refine WO_call rfl (sShareCell_ret vm m Fm x _ hm hms) ?_
  rintro _ wn ⟨vo, rfl, hN⟩
  have eN := hN.2
  try replace hx := Blk.ext hx eN
  try replace hy := Blk.ext hy eN
  try replace hwy := Blk.ext hwy eN
  try replace hz := Blk.ext hz eN
  try replace hm := CeS.ext hm eN
  try replace hn := CeS.ext hn eN
  try replace hwn := CeS.ext hwn eN
  try replace hp := CeS.ext hp eN
  try replace ha := CeS.ext ha eN
  try replace hb := CeS.ext hb eN
  try replace e0 := Ext.trans e0 eN
  obtain ⟨FN, hwn, _⟩ := hN.ces
  clear hN eN
  repeat (first | (refine Z0 ?_; first | refine Z1 rfl ?_ | (refine Z2 ?_; first | refine Z3 rfl rfl (by decide) ?_ | refine Z4 rfl rfl (by decide) ?_ | refine Z5 rfl rfl ?_) | (refine Z6 ?_; first | refine Z7 rfl rfl ?_ | refine Z8 rfl rfl ?_) | (refine Z9 ?_; first | refine Z10 rfl (by assumption) (by rfl) ?_ | refine Z11 rfl (by assumption) ?_) | (refine Z12 ?_; first | refine Z13 (Z14 rfl (by decide) rfl) ?_ | refine Z13 (Z15 rfl (by decide) rfl) ?_) | (refine Z16 ?_; first | refine Z17 rfl ?_ | refine Z18 rfl ?_) | (refine Z19 ?_; first | refine Z20 rfl rfl (by omega) ?_ | refine Z21 rfl rfl (by omega) ?_ | refine Z22 rfl rfl (by omega) ?_ | refine Z23 rfl rfl (by omega) (by omega) ?_ | refine Z24 rfl rfl (by omega) (by omega) (by omega) ?_ | refine Z13 (Z25 rfl rfl) ?_ | refine Z13 (Z26 rfl rfl) ?_) | (refine Z27 ?_; refine Z13 (Z28 rfl (Z53 ⟨by omega, by omega⟩)) ?_) | (refine Z29 ?_; refine Z13 (Z30 rfl (by rfl) (by simp only [Z84, List.set_cons_zero, List.set_cons_succ]; rfl)) ?_) | refine Z31 ?_) | (refine Z32 ?_; first | refine Z33 ?_ | refine Z34 ?_ | refine Z35 ?_ | refine Z36 ?_ | refine Z37 ?_ | refine Z38 rfl ?_ | refine Z39 ?_ | refine Z40 ?_ | refine Z41 ?_) | (refine Z42 ?_; first | refine Z43 ?_ | refine Z44 ?_ | refine Z45 ?_ | refine Z46 ?_ | refine Z47 ?_ | refine Z48 ?_ | refine Z49 rfl (by decide) ?_ | refine Z50 rfl (by decide) ?_))
  refine WO_alloc fun wa ha0 ea za => ?_
  repeat (first | (refine Z0 ?_; first | refine Z1 rfl ?_ | (refine Z2 ?_; first | refine Z3 rfl rfl (by decide) ?_ | refine Z4 rfl rfl (by decide) ?_ | refine Z5 rfl rfl ?_) | (refine Z6 ?_; first | refine Z7 rfl rfl ?_ | refine Z8 rfl rfl ?_) | (refine Z9 ?_; first | refine Z10 rfl (by assumption) (by rfl) ?_ | refine Z11 rfl (by assumption) ?_) | (refine Z12 ?_; first | refine Z13 (Z14 rfl (by decide) rfl) ?_ | refine Z13 (Z15 rfl (by decide) rfl) ?_) | (refine Z16 ?_; first | refine Z17 rfl ?_ | refine Z18 rfl ?_) | (refine Z19 ?_; first | refine Z20 rfl rfl (by omega) ?_ | refine Z21 rfl rfl (by omega) ?_ | refine Z22 rfl rfl (by omega) ?_ | refine Z23 rfl rfl (by omega) (by omega) ?_ | refine Z24 rfl rfl (by omega) (by omega) (by omega) ?_ | refine Z13 (Z25 rfl rfl) ?_ | refine Z13 (Z26 rfl rfl) ?_) | (refine Z27 ?_; refine Z13 (Z28 rfl (Z53 ⟨by omega, by omega⟩)) ?_) | (refine Z29 ?_; refine Z13 (Z30 rfl (by rfl) (by simp only [Z84, List.set_cons_zero, List.set_cons_succ]; rfl)) ?_) | refine Z31 ?_) | (refine Z32 ?_; first | refine Z33 ?_ | refine Z34 ?_ | refine Z35 ?_ | refine Z36 ?_ | refine Z37 ?_ | refine Z38 rfl ?_ | refine Z39 ?_ | refine Z40 ?_ | refine Z41 ?_) | (refine Z42 ?_; first | refine Z43 ?_ | refine Z44 ?_ | refine Z45 ?_ | refine Z46 ?_ | refine Z47 ?_ | refine Z48 ?_ | refine Z49 rfl (by decide) ?_ | refine Z50 rfl (by decide) ?_))
  refine WO_storeS (k := 2) (vs := [.int .i64 (lentP m x false).cell, .int .i64 (lentP m x false).tag]) rfl rfl rfl (by intro v hv; simp at hv; rcases hv with rfl | rfl <;> rfl) ha0 (by decide) fun wb hb0 ob => ?_
  replace hb0 : Blk wb _ [.int .i64 (lentP m x false).cell, .int .i64 (lentP m x false).tag] _ := hb0
  have eb := Ext.only ea ob (Nat.le_refl _)
  try replace hx := Blk.ext hx eb
  try replace hy := Blk.ext hy eb
  try replace hwy := Blk.ext hwy eb
  try replace hz := Blk.ext hz eb
  try replace hm := CeS.ext hm eb
  try replace hn := CeS.ext hn eb
  try replace hwn := CeS.ext hwn eb
  try replace hp := CeS.ext hp eb
  try replace ha := CeS.ext ha eb
  try replace hb := CeS.ext hb eb
  try replace e0 := Ext.trans e0 eb
  clear ha0 ea za ob
  have hwy := hb0
  clear hb0
  repeat (first | (refine Z0 ?_; first | refine Z1 rfl ?_ | (refine Z2 ?_; first | refine Z3 rfl rfl (by decide) ?_ | refine Z4 rfl rfl (by decide) ?_ | refine Z5 rfl rfl ?_) | (refine Z6 ?_; first | refine Z7 rfl rfl ?_ | refine Z8 rfl rfl ?_) | (refine Z9 ?_; first | refine Z10 rfl (by assumption) (by rfl) ?_ | refine Z11 rfl (by assumption) ?_) | (refine Z12 ?_; first | refine Z13 (Z14 rfl (by decide) rfl) ?_ | refine Z13 (Z15 rfl (by decide) rfl) ?_) | (refine Z16 ?_; first | refine Z17 rfl ?_ | refine Z18 rfl ?_) | (refine Z19 ?_; first | refine Z20 rfl rfl (by omega) ?_ | refine Z21 rfl rfl (by omega) ?_ | refine Z22 rfl rfl (by omega) ?_ | refine Z23 rfl rfl (by omega) (by omega) ?_ | refine Z24 rfl rfl (by omega) (by omega) (by omega) ?_ | refine Z13 (Z25 rfl rfl) ?_ | refine Z13 (Z26 rfl rfl) ?_) | (refine Z27 ?_; refine Z13 (Z28 rfl (Z53 ⟨by omega, by omega⟩)) ?_) | (refine Z29 ?_; refine Z13 (Z30 rfl (by rfl) (by simp only [Z84, List.set_cons_zero, List.set_cons_succ]; rfl)) ?_) | refine Z31 ?_) | (refine Z32 ?_; first | refine Z33 ?_ | refine Z34 ?_ | refine Z35 ?_ | refine Z36 ?_ | refine Z37 ?_ | refine Z38 rfl ?_ | refine Z39 ?_ | refine Z40 ?_ | refine Z41 ?_) | (refine Z42 ?_; first | refine Z43 ?_ | refine Z44 ?_ | refine Z45 ?_ | refine Z46 ?_ | refine Z47 ?_ | refine Z48 ?_ | refine Z49 rfl (by decide) ?_ | refine Z50 rfl (by decide) ?_))
  refine WO_call rfl (bcSame_ret _ _ _ _ _ _ hn hwn) ?_
  rintro _ wn ⟨rfl, eN⟩
  try replace hx := Blk.ext hx eN
  try replace hy := Blk.ext hy eN
  try replace hwy := Blk.ext hwy eN
  try replace hz := Blk.ext hz eN
  try replace hm := CeS.ext hm eN
  try replace hn := CeS.ext hn eN
  try replace hwn := CeS.ext hwn eN
  try replace hp := CeS.ext hp eN
  try replace ha := CeS.ext ha eN
  try replace hb := CeS.ext hb eN
  try replace e0 := Ext.trans e0 eN
  clear eN
  repeat (first | (refine Z0 ?_; first | refine Z1 rfl ?_ | (refine Z2 ?_; first | refine Z3 rfl rfl (by decide) ?_ | refine Z4 rfl rfl (by decide) ?_ | refine Z5 rfl rfl ?_) | (refine Z6 ?_; first | refine Z7 rfl rfl ?_ | refine Z8 rfl rfl ?_) | (refine Z9 ?_; first | refine Z10 rfl (by assumption) (by rfl) ?_ | refine Z11 rfl (by assumption) ?_) | (refine Z12 ?_; first | refine Z13 (Z14 rfl (by decide) rfl) ?_ | refine Z13 (Z15 rfl (by decide) rfl) ?_) | (refine Z16 ?_; first | refine Z17 rfl ?_ | refine Z18 rfl ?_) | (refine Z19 ?_; first | refine Z20 rfl rfl (by omega) ?_ | refine Z21 rfl rfl (by omega) ?_ | refine Z22 rfl rfl (by omega) ?_ | refine Z23 rfl rfl (by omega) (by omega) ?_ | refine Z24 rfl rfl (by omega) (by omega) (by omega) ?_ | refine Z13 (Z25 rfl rfl) ?_ | refine Z13 (Z26 rfl rfl) ?_) | (refine Z27 ?_; refine Z13 (Z28 rfl (Z53 ⟨by omega, by omega⟩)) ?_) | (refine Z29 ?_; refine Z13 (Z30 rfl (by rfl) (by simp only [Z84, List.set_cons_zero, List.set_cons_succ]; rfl)) ?_) | refine Z31 ?_) | (refine Z32 ?_; first | refine Z33 ?_ | refine Z34 ?_ | refine Z35 ?_ | refine Z36 ?_ | refine Z37 ?_ | refine Z38 rfl ?_ | refine Z39 ?_ | refine Z40 ?_ | refine Z41 ?_) | (refine Z42 ?_; first | refine Z43 ?_ | refine Z44 ?_ | refine Z45 ?_ | refine Z46 ?_ | refine Z47 ?_ | refine Z48 ?_ | refine Z49 rfl (by decide) ?_ | refine Z50 rfl (by decide) ?_))
  refine WO_loadSB rfl hy rfl ?_
  repeat (first | (refine Z0 ?_; first | refine Z1 rfl ?_ | (refine Z2 ?_; first | refine Z3 rfl rfl (by decide) ?_ | refine Z4 rfl rfl (by decide) ?_ | refine Z5 rfl rfl ?_) | (refine Z6 ?_; first | refine Z7 rfl rfl ?_ | refine Z8 rfl rfl ?_) | (refine Z9 ?_; first | refine Z10 rfl (by assumption) (by rfl) ?_ | refine Z11 rfl (by assumption) ?_) | (refine Z12 ?_; first | refine Z13 (Z14 rfl (by decide) rfl) ?_ | refine Z13 (Z15 rfl (by decide) rfl) ?_) | (refine Z16 ?_; first | refine Z17 rfl ?_ | refine Z18 rfl ?_) | (refine Z19 ?_; first | refine Z20 rfl rfl (by omega) ?_ | refine Z21 rfl rfl (by omega) ?_ | refine Z22 rfl rfl (by omega) ?_ | refine Z23 rfl rfl (by omega) (by omega) ?_ | refine Z24 rfl rfl (by omega) (by omega) (by omega) ?_ | refine Z13 (Z25 rfl rfl) ?_ | refine Z13 (Z26 rfl rfl) ?_) | (refine Z27 ?_; refine Z13 (Z28 rfl (Z53 ⟨by omega, by omega⟩)) ?_) | (refine Z29 ?_; refine Z13 (Z30 rfl (by rfl) (by simp only [Z84, List.set_cons_zero, List.set_cons_succ]; rfl)) ?_) | refine Z31 ?_) | (refine Z32 ?_; first | refine Z33 ?_ | refine Z34 ?_ | refine Z35 ?_ | refine Z36 ?_ | refine Z37 ?_ | refine Z38 rfl ?_ | refine Z39 ?_ | refine Z40 ?_ | refine Z41 ?_) | (refine Z42 ?_; first | refine Z43 ?_ | refine Z44 ?_ | refine Z45 ?_ | refine Z46 ?_ | refine Z47 ?_ | refine Z48 ?_ | refine Z49 rfl (by decide) ?_ | refine Z50 rfl (by decide) ?_))
  refine WO_loadSB rfl hwy rfl ?_
  repeat (first | (refine Z0 ?_; first | refine Z1 rfl ?_ | (refine Z2 ?_; first | refine Z3 rfl rfl (by decide) ?_ | refine Z4 rfl rfl (by decide) ?_ | refine Z5 rfl rfl ?_) | (refine Z6 ?_; first | refine Z7 rfl rfl ?_ | refine Z8 rfl rfl ?_) | (refine Z9 ?_; first | refine Z10 rfl (by assumption) (by rfl) ?_ | refine Z11 rfl (by assumption) ?_) | (refine Z12 ?_; first | refine Z13 (Z14 rfl (by decide) rfl) ?_ | refine Z13 (Z15 rfl (by decide) rfl) ?_) | (refine Z16 ?_; first | refine Z17 rfl ?_ | refine Z18 rfl ?_) | (refine Z19 ?_; first | refine Z20 rfl rfl (by omega) ?_ | refine Z21 rfl rfl (by omega) ?_ | refine Z22 rfl rfl (by omega) ?_ | refine Z23 rfl rfl (by omega) (by omega) ?_ | refine Z24 rfl rfl (by omega) (by omega) (by omega) ?_ | refine Z13 (Z25 rfl rfl) ?_ | refine Z13 (Z26 rfl rfl) ?_) | (refine Z27 ?_; refine Z13 (Z28 rfl (Z53 ⟨by omega, by omega⟩)) ?_) | (refine Z29 ?_; refine Z13 (Z30 rfl (by rfl) (by simp only [Z84, List.set_cons_zero, List.set_cons_succ]; rfl)) ?_) | refine Z31 ?_) | (refine Z32 ?_; first | refine Z33 ?_ | refine Z34 ?_ | refine Z35 ?_ | refine Z36 ?_ | refine Z37 ?_ | refine Z38 rfl ?_ | refine Z39 ?_ | refine Z40 ?_ | refine Z41 ?_) | (refine Z42 ?_; first | refine Z43 ?_ | refine Z44 ?_ | refine Z45 ?_ | refine Z46 ?_ | refine Z47 ?_ | refine Z48 ?_ | refine Z49 rfl (by decide) ?_ | refine Z50 rfl (by decide) ?_))
  refine Z13 (q_nePtS (lentP m x false) rfl rfl) ?_
  by_cases hk : lentC m x false = 0
  · rw [hk]
    obtain ⟨t1, t2, t3, t4, t5, t6⟩ := share_use hk
    repeat' (first | (refine Z0 ?_; first | refine Z1 rfl ?_ | (refine Z2 ?_; first | refine Z3 rfl rfl (by decide) ?_ | refine Z4 rfl rfl (by decide) ?_ | refine Z5 rfl rfl ?_ | ((refine Z51 rfl rfl (fun c' hc' => ?_)); cases c' <;> (try simp only [decide_eq_true_eq, decide_eq_false_iff_not, beq_iff_eq, beq_eq_false_iff_ne, bne_iff_ne, bne_eq_false_iff_eq, ne_eq, gt_iff_lt, ge_iff_le, Int.not_lt, Int.not_le, Bool.not_eq_true', Bool.not_eq_false', Bool.not_true, Bool.not_false, reduceCtorEq, Decidable.not_not, not_true_eq_false, Bool.true_eq_false, Bool.false_eq_true] at hc') <;> (try (exfalso; omega)))) | (refine Z6 ?_; first | refine Z7 rfl rfl ?_ | refine Z8 rfl rfl ?_) | (refine Z9 ?_; first | refine Z10 rfl (by assumption) (by rfl) ?_ | refine Z11 rfl (by assumption) ?_) | (refine Z12 ?_; first | refine Z13 (Z14 rfl (by decide) rfl) ?_ | refine Z13 (Z15 rfl (by decide) rfl) ?_) | (refine Z16 ?_; first | refine Z17 rfl ?_ | refine Z18 rfl ?_) | (refine Z19 ?_; first | refine Z20 rfl rfl (by omega) ?_ | refine Z21 rfl rfl (by omega) ?_ | refine Z22 rfl rfl (by omega) ?_ | refine Z23 rfl rfl (by omega) (by omega) ?_ | refine Z24 rfl rfl (by omega) (by omega) (by omega) ?_ | refine Z13 (Z25 rfl rfl) ?_ | refine Z13 (Z26 rfl rfl) ?_) | (refine Z27 ?_; refine Z13 (Z28 rfl (Z53 ⟨by omega, by omega⟩)) ?_) | (refine Z29 ?_; refine Z13 (Z30 rfl (by rfl) (by simp only [Z84, List.set_cons_zero, List.set_cons_succ]; rfl)) ?_) | refine Z31 ?_) | (refine Z32 ?_; first | refine Z33 ?_ | refine Z34 ?_ | refine Z35 ?_ | refine Z36 ?_ | refine Z37 ?_ | refine Z38 rfl ?_ | refine Z39 ?_ | refine Z40 ?_ | refine Z41 ?_) | (refine Z42 ?_; first | refine Z43 ?_ | refine Z44 ?_ | refine Z45 ?_ | refine Z46 ?_ | refine Z47 ?_ | refine Z48 ?_ | refine Z49 rfl (by decide) ?_ | refine Z50 rfl (by decide) ?_ | ((refine Z52 rfl (fun hc' => ?_) (fun hc' => ?_)) <;> (try simp only [decide_eq_true_eq, decide_eq_false_iff_not, beq_iff_eq, beq_eq_false_iff_ne, bne_iff_ne, bne_eq_false_iff_eq, ne_eq, gt_iff_lt, ge_iff_le, Int.not_lt, Int.not_le, Bool.not_eq_true', Bool.not_eq_false', Bool.not_true, Bool.not_false, reduceCtorEq, Decidable.not_not, not_true_eq_false, Bool.true_eq_false, Bool.false_eq_true] at hc') <;> (try (exfalso; omega)))))
    refine WO_loadSB rfl hy rfl ?_
    refine WO_call rfl (ReadCell_ret _ (lentL m x false) _ (lentP m x false) _ hn (cells_size t1)) ?_
    rintro _ wn ⟨vo, rfl, hN⟩
    have eN := hN.2
    try replace hx := Blk.ext hx eN
    try replace hy := Blk.ext hy eN
    try replace hwy := Blk.ext hwy eN
    try replace hz := Blk.ext hz eN
    try replace hm := CeS.ext hm eN
    try replace hn := CeS.ext hn eN
    try replace hwn := CeS.ext hwn eN
    try replace hp := CeS.ext hp eN
    try replace ha := CeS.ext ha eN
    try replace hb := CeS.ext hb eN
    try replace e0 := Ext.trans e0 eN
    obtain ⟨FN, ha, _⟩ := hN.ces
    clear hN eN
    repeat (first | (refine Z0 ?_; first | refine Z1 rfl ?_ | (refine Z2 ?_; first | refine Z3 rfl rfl (by decide) ?_ | refine Z4 rfl rfl (by decide) ?_ | refine Z5 rfl rfl ?_) | (refine Z6 ?_; first | refine Z7 rfl rfl ?_ | refine Z8 rfl rfl ?_) | (refine Z9 ?_; first | refine Z10 rfl (by assumption) (by rfl) ?_ | refine Z11 rfl (by assumption) ?_) | (refine Z12 ?_; first | refine Z13 (Z14 rfl (by decide) rfl) ?_ | refine Z13 (Z15 rfl (by decide) rfl) ?_) | (refine Z16 ?_; first | refine Z17 rfl ?_ | refine Z18 rfl ?_) | (refine Z19 ?_; first | refine Z20 rfl rfl (by omega) ?_ | refine Z21 rfl rfl (by omega) ?_ | refine Z22 rfl rfl (by omega) ?_ | refine Z23 rfl rfl (by omega) (by omega) ?_ | refine Z24 rfl rfl (by omega) (by omega) (by omega) ?_ | refine Z13 (Z25 rfl rfl) ?_ | refine Z13 (Z26 rfl rfl) ?_) | (refine Z27 ?_; refine Z13 (Z28 rfl (Z53 ⟨by omega, by omega⟩)) ?_) | (refine Z29 ?_; refine Z13 (Z30 rfl (by rfl) (by simp only [Z84, List.set_cons_zero, List.set_cons_succ]; rfl)) ?_) | refine Z31 ?_) | (refine Z32 ?_; first | refine Z33 ?_ | refine Z34 ?_ | refine Z35 ?_ | refine Z36 ?_ | refine Z37 ?_ | refine Z38 rfl ?_ | refine Z39 ?_ | refine Z40 ?_ | refine Z41 ?_) | (refine Z42 ?_; first | refine Z43 ?_ | refine Z44 ?_ | refine Z45 ?_ | refine Z46 ?_ | refine Z47 ?_ | refine Z48 ?_ | refine Z49 rfl (by decide) ?_ | refine Z50 rfl (by decide) ?_))
    rw [t3] at ha
    refine WO_loadSB rfl hx rfl ?_
    refine WO_call rfl (ReadCell_ret _ _ _ x _ ha (cells_size t1)) ?_
    rintro _ wn ⟨vo, rfl, hN⟩
    have eN := hN.2
    try replace hx := Blk.ext hx eN
    try replace hy := Blk.ext hy eN
    try replace hwy := Blk.ext hwy eN
    try replace hz := Blk.ext hz eN
    try replace hm := CeS.ext hm eN
    try replace hn := CeS.ext hn eN
    try replace hwn := CeS.ext hwn eN
    try replace hp := CeS.ext hp eN
    try replace ha := CeS.ext ha eN
    try replace hb := CeS.ext hb eN
    try replace e0 := Ext.trans e0 eN
    obtain ⟨FN, hb, _⟩ := hN.ces
    clear hN eN
    repeat (first | (refine Z0 ?_; first | refine Z1 rfl ?_ | (refine Z2 ?_; first | refine Z3 rfl rfl (by decide) ?_ | refine Z4 rfl rfl (by decide) ?_ | refine Z5 rfl rfl ?_) | (refine Z6 ?_; first | refine Z7 rfl rfl ?_ | refine Z8 rfl rfl ?_) | (refine Z9 ?_; first | refine Z10 rfl (by assumption) (by rfl) ?_ | refine Z11 rfl (by assumption) ?_) | (refine Z12 ?_; first | refine Z13 (Z14 rfl (by decide) rfl) ?_ | refine Z13 (Z15 rfl (by decide) rfl) ?_) | (refine Z16 ?_; first | refine Z17 rfl ?_ | refine Z18 rfl ?_) | (refine Z19 ?_; first | refine Z20 rfl rfl (by omega) ?_ | refine Z21 rfl rfl (by omega) ?_ | refine Z22 rfl rfl (by omega) ?_ | refine Z23 rfl rfl (by omega) (by omega) ?_ | refine Z24 rfl rfl (by omega) (by omega) (by omega) ?_ | refine Z13 (Z25 rfl rfl) ?_ | refine Z13 (Z26 rfl rfl) ?_) | (refine Z27 ?_; refine Z13 (Z28 rfl (Z53 ⟨by omega, by omega⟩)) ?_) | (refine Z29 ?_; refine Z13 (Z30 rfl (by rfl) (by simp only [Z84, List.set_cons_zero, List.set_cons_succ]; rfl)) ?_) | refine Z31 ?_) | (refine Z32 ?_; first | refine Z33 ?_ | refine Z34 ?_ | refine Z35 ?_ | refine Z36 ?_ | refine Z37 ?_ | refine Z38 rfl ?_ | refine Z39 ?_ | refine Z40 ?_ | refine Z41 ?_) | (refine Z42 ?_; first | refine Z43 ?_ | refine Z44 ?_ | refine Z45 ?_ | refine Z46 ?_ | refine Z47 ?_ | refine Z48 ?_ | refine Z49 rfl (by decide) ?_ | refine Z50 rfl (by decide) ?_))
    rw [t5] at hb
    refine WO_loadSB rfl hy rfl ?_
    refine WO_call rfl (ReadCell_ret _ _ _ (lentP m x false) _ hb (cells_size t1)) ?_
    rintro _ wn ⟨vo, rfl, hN⟩
    have eN := hN.2
    try replace hx := Blk.ext hx eN
    try replace hy := Blk.ext hy eN
    try replace hwy := Blk.ext hwy eN
    try replace hz := Blk.ext hz eN
    try replace hm := CeS.ext hm eN
    try replace hn := CeS.ext hn eN
    try replace hwn := CeS.ext hwn eN
    try replace hp := CeS.ext hp eN
    try replace ha := CeS.ext ha eN
    try replace hb := CeS.ext hb eN
    try replace e0 := Ext.trans e0 eN
    obtain ⟨FN, hp, _⟩ := hN.ces
    clear hN eN
    repeat (first | (refine Z0 ?_; first | refine Z1 rfl ?_ | (refine Z2 ?_; first | refine Z3 rfl rfl (by decide) ?_ | refine Z4 rfl rfl (by decide) ?_ | refine Z5 rfl rfl ?_) | (refine Z6 ?_; first | refine Z7 rfl rfl ?_ | refine Z8 rfl rfl ?_) | (refine Z9 ?_; first | refine Z10 rfl (by assumption) (by rfl) ?_ | refine Z11 rfl (by assumption) ?_) | (refine Z12 ?_; first | refine Z13 (Z14 rfl (by decide) rfl) ?_ | refine Z13 (Z15 rfl (by decide) rfl) ?_) | (refine Z16 ?_; first | refine Z17 rfl ?_ | refine Z18 rfl ?_) | (refine Z19 ?_; first | refine Z20 rfl rfl (by omega) ?_ | refine Z21 rfl rfl (by omega) ?_ | refine Z22 rfl rfl (by omega) ?_ | refine Z23 rfl rfl (by omega) (by omega) ?_ | refine Z24 rfl rfl (by omega) (by omega) (by omega) ?_ | refine Z13 (Z25 rfl rfl) ?_ | refine Z13 (Z26 rfl rfl) ?_) | (refine Z27 ?_; refine Z13 (Z28 rfl (Z53 ⟨by omega, by omega⟩)) ?_) | (refine Z29 ?_; refine Z13 (Z30 rfl (by rfl) (by simp only [Z84, List.set_cons_zero, List.set_cons_succ]; rfl)) ?_) | refine Z31 ?_) | (refine Z32 ?_; first | refine Z33 ?_ | refine Z34 ?_ | refine Z35 ?_ | refine Z36 ?_ | refine Z37 ?_ | refine Z38 rfl ?_ | refine Z39 ?_ | refine Z40 ?_ | refine Z41 ?_) | (refine Z42 ?_; first | refine Z43 ?_ | refine Z44 ?_ | refine Z45 ?_ | refine Z46 ?_ | refine Z47 ?_ | refine Z48 ?_ | refine Z49 rfl (by decide) ?_ | refine Z50 rfl (by decide) ?_))
    refine WO_loadSB rfl hy rfl ?_
    refine WO_call rfl (WriteCell_ret _ _ _ (lentP m x false) 1 _ hn (cells_size t1)) ?_
    rintro _ wn ⟨vo, rfl, hN⟩
    have eN := hN.2
    try replace hx := Blk.ext hx eN
    try replace hy := Blk.ext hy eN
    try replace hwy := Blk.ext hwy eN
    try replace hz := Blk.ext hz eN
    try replace hm := CeS.ext hm eN
    try replace hn := CeS.ext hn eN
    try replace hwn := CeS.ext hwn eN
    try replace hp := CeS.ext hp eN
    try replace ha := CeS.ext ha eN
    try replace hb := CeS.ext hb eN
    try replace e0 := Ext.trans e0 eN
    obtain ⟨FN, hq, _⟩ := hN.ces
    clear hN eN
    repeat (first | (refine Z0 ?_; first | refine Z1 rfl ?_ | (refine Z2 ?_; first | refine Z3 rfl rfl (by decide) ?_ | refine Z4 rfl rfl (by decide) ?_ | refine Z5 rfl rfl ?_) | (refine Z6 ?_; first | refine Z7 rfl rfl ?_ | refine Z8 rfl rfl ?_) | (refine Z9 ?_; first | refine Z10 rfl (by assumption) (by rfl) ?_ | refine Z11 rfl (by assumption) ?_) | (refine Z12 ?_; first | refine Z13 (Z14 rfl (by decide) rfl) ?_ | refine Z13 (Z15 rfl (by decide) rfl) ?_) | (refine Z16 ?_; first | refine Z17 rfl ?_ | refine Z18 rfl ?_) | (refine Z19 ?_; first | refine Z20 rfl rfl (by omega) ?_ | refine Z21 rfl rfl (by omega) ?_ | refine Z22 rfl rfl (by omega) ?_ | refine Z23 rfl rfl (by omega) (by omega) ?_ | refine Z24 rfl rfl (by omega) (by omega) (by omega) ?_ | refine Z13 (Z25 rfl rfl) ?_ | refine Z13 (Z26 rfl rfl) ?_) | (refine Z27 ?_; refine Z13 (Z28 rfl (Z53 ⟨by omega, by omega⟩)) ?_) | (refine Z29 ?_; refine Z13 (Z30 rfl (by rfl) (by simp only [Z84, List.set_cons_zero, List.set_cons_succ]; rfl)) ?_) | refine Z31 ?_) | (refine Z32 ?_; first | refine Z33 ?_ | refine Z34 ?_ | refine Z35 ?_ | refine Z36 ?_ | refine Z37 ?_ | refine Z38 rfl ?_ | refine Z39 ?_ | refine Z40 ?_ | refine Z41 ?_) | (refine Z42 ?_; first | refine Z43 ?_ | refine Z44 ?_ | refine Z45 ?_ | refine Z46 ?_ | refine Z47 ?_ | refine Z48 ?_ | refine Z49 rfl (by decide) ?_ | refine Z50 rfl (by decide) ?_))
    refine WO_call rfl (CellsValid_ret _ _ _ _ hn) ?_
    rintro _ wn ⟨rfl, eN⟩
    try replace hx := Blk.ext hx eN
    try replace hy := Blk.ext hy eN
    try replace hwy := Blk.ext hwy eN
    try replace hz := Blk.ext hz eN
    try replace hm := CeS.ext hm eN
    try replace hn := CeS.ext hn eN
    try replace hwn := CeS.ext hwn eN
    try replace hp := CeS.ext hp eN
    try replace ha := CeS.ext ha eN
    try replace hb := CeS.ext hb eN
    try replace e0 := Ext.trans e0 eN
    rw [t2, t4, t6, decide_eq_true t1]
    repeat' (first | (refine Z0 ?_; first | refine Z1 rfl ?_ | (refine Z2 ?_; first | refine Z3 rfl rfl (by decide) ?_ | refine Z4 rfl rfl (by decide) ?_ | refine Z5 rfl rfl ?_ | ((refine Z51 rfl rfl (fun c' hc' => ?_)); cases c' <;> (try simp only [decide_eq_true_eq, decide_eq_false_iff_not, beq_iff_eq, beq_eq_false_iff_ne, bne_iff_ne, bne_eq_false_iff_eq, ne_eq, gt_iff_lt, ge_iff_le, Int.not_lt, Int.not_le, Bool.not_eq_true', Bool.not_eq_false', Bool.not_true, Bool.not_false, reduceCtorEq, Decidable.not_not, not_true_eq_false, Bool.true_eq_false, Bool.false_eq_true] at hc') <;> (try (exfalso; omega)))) | (refine Z6 ?_; first | refine Z7 rfl rfl ?_ | refine Z8 rfl rfl ?_) | (refine Z9 ?_; first | refine Z10 rfl (by assumption) (by rfl) ?_ | refine Z11 rfl (by assumption) ?_) | (refine Z12 ?_; first | refine Z13 (Z14 rfl (by decide) rfl) ?_ | refine Z13 (Z15 rfl (by decide) rfl) ?_) | (refine Z16 ?_; first | refine Z17 rfl ?_ | refine Z18 rfl ?_) | (refine Z19 ?_; first | refine Z20 rfl rfl (by omega) ?_ | refine Z21 rfl rfl (by omega) ?_ | refine Z22 rfl rfl (by omega) ?_ | refine Z23 rfl rfl (by omega) (by omega) ?_ | refine Z24 rfl rfl (by omega) (by omega) (by omega) ?_ | refine Z13 (Z25 rfl rfl) ?_ | refine Z13 (Z26 rfl rfl) ?_) | (refine Z27 ?_; refine Z13 (Z28 rfl (Z53 ⟨by omega, by omega⟩)) ?_) | (refine Z29 ?_; refine Z13 (Z30 rfl (by rfl) (by simp only [Z84, List.set_cons_zero, List.set_cons_succ]; rfl)) ?_) | refine Z31 ?_) | (refine Z32 ?_; first | refine Z33 ?_ | refine Z34 ?_ | refine Z35 ?_ | refine Z36 ?_ | refine Z37 ?_ | refine Z38 rfl ?_ | refine Z39 ?_ | refine Z40 ?_ | refine Z41 ?_) | (refine Z42 ?_; first | refine Z43 ?_ | refine Z44 ?_ | refine Z45 ?_ | refine Z46 ?_ | refine Z47 ?_ | refine Z48 ?_ | refine Z49 rfl (by decide) ?_ | refine Z50 rfl (by decide) ?_ | ((refine Z52 rfl (fun hc' => ?_) (fun hc' => ?_)) <;> (try simp only [decide_eq_true_eq, decide_eq_false_iff_not, beq_iff_eq, beq_eq_false_iff_ne, bne_iff_ne, bne_eq_false_iff_eq, ne_eq, gt_iff_lt, ge_iff_le, Int.not_lt, Int.not_le, Bool.not_eq_true', Bool.not_eq_false', Bool.not_true, Bool.not_false, reduceCtorEq, Decidable.not_not, not_true_eq_false, Bool.true_eq_false, Bool.false_eq_true] at hc') <;> (try (exfalso; omega)))))
    exact at_ret1 rfl rfl ⟨rfl, e0⟩
  · repeat' (first | (refine Z0 ?_; first | refine Z1 rfl ?_ | (refine Z2 ?_; first | refine Z3 rfl rfl (by decide) ?_ | refine Z4 rfl rfl (by decide) ?_ | refine Z5 rfl rfl ?_ | ((refine Z51 rfl rfl (fun c' hc' => ?_)); cases c' <;> (try simp only [decide_eq_true_eq, decide_eq_false_iff_not, beq_iff_eq, beq_eq_false_iff_ne, bne_iff_ne, bne_eq_false_iff_eq, ne_eq, gt_iff_lt, ge_iff_le, Int.not_lt, Int.not_le, Bool.not_eq_true', Bool.not_eq_false', Bool.not_true, Bool.not_false, reduceCtorEq, Decidable.not_not, not_true_eq_false, Bool.true_eq_false, Bool.false_eq_true] at hc') <;> (try (exfalso; omega)))) | (refine Z6 ?_; first | refine Z7 rfl rfl ?_ | refine Z8 rfl rfl ?_) | (refine Z9 ?_; first | refine Z10 rfl (by assumption) (by rfl) ?_ | refine Z11 rfl (by assumption) ?_) | (refine Z12 ?_; first | refine Z13 (Z14 rfl (by decide) rfl) ?_ | refine Z13 (Z15 rfl (by decide) rfl) ?_) | (refine Z16 ?_; first | refine Z17 rfl ?_ | refine Z18 rfl ?_) | (refine Z19 ?_; first | refine Z20 rfl rfl (by omega) ?_ | refine Z21 rfl rfl (by omega) ?_ | refine Z22 rfl rfl (by omega) ?_ | refine Z23 rfl rfl (by omega) (by omega) ?_ | refine Z24 rfl rfl (by omega) (by omega) (by omega) ?_ | refine Z13 (Z25 rfl rfl) ?_ | refine Z13 (Z26 rfl rfl) ?_) | (refine Z27 ?_; refine Z13 (Z28 rfl (Z53 ⟨by omega, by omega⟩)) ?_) | (refine Z29 ?_; refine Z13 (Z30 rfl (by rfl) (by simp only [Z84, List.set_cons_zero, List.set_cons_succ]; rfl)) ?_) | refine Z31 ?_) | (refine Z32 ?_; first | refine Z33 ?_ | refine Z34 ?_ | refine Z35 ?_ | refine Z36 ?_ | refine Z37 ?_ | refine Z38 rfl ?_ | refine Z39 ?_ | refine Z40 ?_ | refine Z41 ?_) | (refine Z42 ?_; first | refine Z43 ?_ | refine Z44 ?_ | refine Z45 ?_ | refine Z46 ?_ | refine Z47 ?_ | refine Z48 ?_ | refine Z49 rfl (by decide) ?_ | refine Z50 rfl (by decide) ?_ | ((refine Z52 rfl (fun hc' => ?_) (fun hc' => ?_)) <;> (try simp only [decide_eq_true_eq, decide_eq_false_iff_not, beq_iff_eq, beq_eq_false_iff_ne, bne_iff_ne, bne_eq_false_iff_eq, ne_eq, gt_iff_lt, ge_iff_le, Int.not_lt, Int.not_le, Bool.not_eq_true', Bool.not_eq_false', Bool.not_true, Bool.not_false, reduceCtorEq, Decidable.not_not, not_true_eq_false, Bool.true_eq_false, Bool.false_eq_true] at hc') <;> (try (exfalso; omega)))))
    refine WO_call rfl (bcSame_ret _ _ _ _ _ _ hn hwn) ?_
    rintro _ wn ⟨rfl, eN⟩
    try replace hx := Blk.ext hx eN
    try replace hy := Blk.ext hy eN
    try replace hwy := Blk.ext hwy eN
    try replace hz := Blk.ext hz eN
    try replace hm := CeS.ext hm eN
    try replace hn := CeS.ext hn eN
    try replace hwn := CeS.ext hwn eN
    try replace hp := CeS.ext hp eN
    try replace ha := CeS.ext ha eN
    try replace hb := CeS.ext hb eN
    try replace e0 := Ext.trans e0 eN
    clear eN
    repeat (first | (refine Z0 ?_; first | refine Z1 rfl ?_ | (refine Z2 ?_; first | refine Z3 rfl rfl (by decide) ?_ | refine Z4 rfl rfl (by decide) ?_ | refine Z5 rfl rfl ?_) | (refine Z6 ?_; first | refine Z7 rfl rfl ?_ | refine Z8 rfl rfl ?_) | (refine Z9 ?_; first | refine Z10 rfl (by assumption) (by rfl) ?_ | refine Z11 rfl (by assumption) ?_) | (refine Z12 ?_; first | refine Z13 (Z14 rfl (by decide) rfl) ?_ | refine Z13 (Z15 rfl (by decide) rfl) ?_) | (refine Z16 ?_; first | refine Z17 rfl ?_ | refine Z18 rfl ?_) | (refine Z19 ?_; first | refine Z20 rfl rfl (by omega) ?_ | refine Z21 rfl rfl (by omega) ?_ | refine Z22 rfl rfl (by omega) ?_ | refine Z23 rfl rfl (by omega) (by omega) ?_ | refine Z24 rfl rfl (by omega) (by omega) (by omega) ?_ | refine Z13 (Z25 rfl rfl) ?_ | refine Z13 (Z26 rfl rfl) ?_) | (refine Z27 ?_; refine Z13 (Z28 rfl (Z53 ⟨by omega, by omega⟩)) ?_) | (refine Z29 ?_; refine Z13 (Z30 rfl (by rfl) (by simp only [Z84, List.set_cons_zero, List.set_cons_succ]; rfl)) ?_) | refine Z31 ?_) | (refine Z32 ?_; first | refine Z33 ?_ | refine Z34 ?_ | refine Z35 ?_ | refine Z36 ?_ | refine Z37 ?_ | refine Z38 rfl ?_ | refine Z39 ?_ | refine Z40 ?_ | refine Z41 ?_) | (refine Z42 ?_; first | refine Z43 ?_ | refine Z44 ?_ | refine Z45 ?_ | refine Z46 ?_ | refine Z47 ?_ | refine Z48 ?_ | refine Z49 rfl (by decide) ?_ | refine Z50 rfl (by decide) ?_))
    refine WO_loadSB rfl hy rfl ?_
    repeat (first | (refine Z0 ?_; first | refine Z1 rfl ?_ | (refine Z2 ?_; first | refine Z3 rfl rfl (by decide) ?_ | refine Z4 rfl rfl (by decide) ?_ | refine Z5 rfl rfl ?_) | (refine Z6 ?_; first | refine Z7 rfl rfl ?_ | refine Z8 rfl rfl ?_) | (refine Z9 ?_; first | refine Z10 rfl (by assumption) (by rfl) ?_ | refine Z11 rfl (by assumption) ?_) | (refine Z12 ?_; first | refine Z13 (Z14 rfl (by decide) rfl) ?_ | refine Z13 (Z15 rfl (by decide) rfl) ?_) | (refine Z16 ?_; first | refine Z17 rfl ?_ | refine Z18 rfl ?_) | (refine Z19 ?_; first | refine Z20 rfl rfl (by omega) ?_ | refine Z21 rfl rfl (by omega) ?_ | refine Z22 rfl rfl (by omega) ?_ | refine Z23 rfl rfl (by omega) (by omega) ?_ | refine Z24 rfl rfl (by omega) (by omega) (by omega) ?_ | refine Z13 (Z25 rfl rfl) ?_ | refine Z13 (Z26 rfl rfl) ?_) | (refine Z27 ?_; refine Z13 (Z28 rfl (Z53 ⟨by omega, by omega⟩)) ?_) | (refine Z29 ?_; refine Z13 (Z30 rfl (by rfl) (by simp only [Z84, List.set_cons_zero, List.set_cons_succ]; rfl)) ?_) | refine Z31 ?_) | (refine Z32 ?_; first | refine Z33 ?_ | refine Z34 ?_ | refine Z35 ?_ | refine Z36 ?_ | refine Z37 ?_ | refine Z38 rfl ?_ | refine Z39 ?_ | refine Z40 ?_ | refine Z41 ?_) | (refine Z42 ?_; first | refine Z43 ?_ | refine Z44 ?_ | refine Z45 ?_ | refine Z46 ?_ | refine Z47 ?_ | refine Z48 ?_ | refine Z49 rfl (by decide) ?_ | refine Z50 rfl (by decide) ?_))
    refine WO_loadSB rfl hwy rfl ?_
    repeat (first | (refine Z0 ?_; first | refine Z1 rfl ?_ | (refine Z2 ?_; first | refine Z3 rfl rfl (by decide) ?_ | refine Z4 rfl rfl (by decide) ?_ | refine Z5 rfl rfl ?_) | (refine Z6 ?_; first | refine Z7 rfl rfl ?_ | refine Z8 rfl rfl ?_) | (refine Z9 ?_; first | refine Z10 rfl (by assumption) (by rfl) ?_ | refine Z11 rfl (by assumption) ?_) | (refine Z12 ?_; first | refine Z13 (Z14 rfl (by decide) rfl) ?_ | refine Z13 (Z15 rfl (by decide) rfl) ?_) | (refine Z16 ?_; first | refine Z17 rfl ?_ | refine Z18 rfl ?_) | (refine Z19 ?_; first | refine Z20 rfl rfl (by omega) ?_ | refine Z21 rfl rfl (by omega) ?_ | refine Z22 rfl rfl (by omega) ?_ | refine Z23 rfl rfl (by omega) (by omega) ?_ | refine Z24 rfl rfl (by omega) (by omega) (by omega) ?_ | refine Z13 (Z25 rfl rfl) ?_ | refine Z13 (Z26 rfl rfl) ?_) | (refine Z27 ?_; refine Z13 (Z28 rfl (Z53 ⟨by omega, by omega⟩)) ?_) | (refine Z29 ?_; refine Z13 (Z30 rfl (by rfl) (by simp only [Z84, List.set_cons_zero, List.set_cons_succ]; rfl)) ?_) | refine Z31 ?_) | (refine Z32 ?_; first | refine Z33 ?_ | refine Z34 ?_ | refine Z35 ?_ | refine Z36 ?_ | refine Z37 ?_ | refine Z38 rfl ?_ | refine Z39 ?_ | refine Z40 ?_ | refine Z41 ?_) | (refine Z42 ?_; first | refine Z43 ?_ | refine Z44 ?_ | refine Z45 ?_ | refine Z46 ?_ | refine Z47 ?_ | refine Z48 ?_ | refine Z49 rfl (by decide) ?_ | refine Z50 rfl (by decide) ?_))
    refine Z13 (q_eqPtS (lentP m x false) rfl rfl) ?_
    repeat' (first | (refine Z0 ?_; first | refine Z1 rfl ?_ | (refine Z2 ?_; first | refine Z3 rfl rfl (by decide) ?_ | refine Z4 rfl rfl (by decide) ?_ | refine Z5 rfl rfl ?_ | ((refine Z51 rfl rfl (fun c' hc' => ?_)); cases c' <;> (try simp only [decide_eq_true_eq, decide_eq_false_iff_not, beq_iff_eq, beq_eq_false_iff_ne, bne_iff_ne, bne_eq_false_iff_eq, ne_eq, gt_iff_lt, ge_iff_le, Int.not_lt, Int.not_le, Bool.not_eq_true', Bool.not_eq_false', Bool.not_true, Bool.not_false, reduceCtorEq, Decidable.not_not, not_true_eq_false, Bool.true_eq_false, Bool.false_eq_true] at hc') <;> (try (exfalso; omega)))) | (refine Z6 ?_; first | refine Z7 rfl rfl ?_ | refine Z8 rfl rfl ?_) | (refine Z9 ?_; first | refine Z10 rfl (by assumption) (by rfl) ?_ | refine Z11 rfl (by assumption) ?_) | (refine Z12 ?_; first | refine Z13 (Z14 rfl (by decide) rfl) ?_ | refine Z13 (Z15 rfl (by decide) rfl) ?_) | (refine Z16 ?_; first | refine Z17 rfl ?_ | refine Z18 rfl ?_) | (refine Z19 ?_; first | refine Z20 rfl rfl (by omega) ?_ | refine Z21 rfl rfl (by omega) ?_ | refine Z22 rfl rfl (by omega) ?_ | refine Z23 rfl rfl (by omega) (by omega) ?_ | refine Z24 rfl rfl (by omega) (by omega) (by omega) ?_ | refine Z13 (Z25 rfl rfl) ?_ | refine Z13 (Z26 rfl rfl) ?_) | (refine Z27 ?_; refine Z13 (Z28 rfl (Z53 ⟨by omega, by omega⟩)) ?_) | (refine Z29 ?_; refine Z13 (Z30 rfl (by rfl) (by simp only [Z84, List.set_cons_zero, List.set_cons_succ]; rfl)) ?_) | refine Z31 ?_) | (refine Z32 ?_; first | refine Z33 ?_ | refine Z34 ?_ | refine Z35 ?_ | refine Z36 ?_ | refine Z37 ?_ | refine Z38 rfl ?_ | refine Z39 ?_ | refine Z40 ?_ | refine Z41 ?_) | (refine Z42 ?_; first | refine Z43 ?_ | refine Z44 ?_ | refine Z45 ?_ | refine Z46 ?_ | refine Z47 ?_ | refine Z48 ?_ | refine Z49 rfl (by decide) ?_ | refine Z50 rfl (by decide) ?_ | ((refine Z52 rfl (fun hc' => ?_) (fun hc' => ?_)) <;> (try simp only [decide_eq_true_eq, decide_eq_false_iff_not, beq_iff_eq, beq_eq_false_iff_ne, bne_iff_ne, bne_eq_false_iff_eq, ne_eq, gt_iff_lt, ge_iff_le, Int.not_lt, Int.not_le, Bool.not_eq_true', Bool.not_eq_false', Bool.not_true, Bool.not_false, reduceCtorEq, Decidable.not_not, not_true_eq_false, Bool.true_eq_false, Bool.false_eq_true] at hc') <;> (try (exfalso; omega)))))
    have hlm : lentL m x false = m := by unfold lentL; rw [if_neg hk]
    rw [hlm] at hn
    refine WO_call rfl (bcSame_ret _ _ _ _ _ _ hn hm) ?_
    rintro _ wn ⟨rfl, eN⟩
    try replace hx := Blk.ext hx eN
    try replace hy := Blk.ext hy eN
    try replace hwy := Blk.ext hwy eN
    try replace hz := Blk.ext hz eN
    try replace hm := CeS.ext hm eN
    try replace hn := CeS.ext hn eN
    try replace hwn := CeS.ext hwn eN
    try replace hp := CeS.ext hp eN
    try replace ha := CeS.ext ha eN
    try replace hb := CeS.ext hb eN
    try replace e0 := Ext.trans e0 eN
    clear eN
    repeat (first | (refine Z0 ?_; first | refine Z1 rfl ?_ | (refine Z2 ?_; first | refine Z3 rfl rfl (by decide) ?_ | refine Z4 rfl rfl (by decide) ?_ | refine Z5 rfl rfl ?_) | (refine Z6 ?_; first | refine Z7 rfl rfl ?_ | refine Z8 rfl rfl ?_) | (refine Z9 ?_; first | refine Z10 rfl (by assumption) (by rfl) ?_ | refine Z11 rfl (by assumption) ?_) | (refine Z12 ?_; first | refine Z13 (Z14 rfl (by decide) rfl) ?_ | refine Z13 (Z15 rfl (by decide) rfl) ?_) | (refine Z16 ?_; first | refine Z17 rfl ?_ | refine Z18 rfl ?_) | (refine Z19 ?_; first | refine Z20 rfl rfl (by omega) ?_ | refine Z21 rfl rfl (by omega) ?_ | refine Z22 rfl rfl (by omega) ?_ | refine Z23 rfl rfl (by omega) (by omega) ?_ | refine Z24 rfl rfl (by omega) (by omega) (by omega) ?_ | refine Z13 (Z25 rfl rfl) ?_ | refine Z13 (Z26 rfl rfl) ?_) | (refine Z27 ?_; refine Z13 (Z28 rfl (Z53 ⟨by omega, by omega⟩)) ?_) | (refine Z29 ?_; refine Z13 (Z30 rfl (by rfl) (by simp only [Z84, List.set_cons_zero, List.set_cons_succ]; rfl)) ?_) | refine Z31 ?_) | (refine Z32 ?_; first | refine Z33 ?_ | refine Z34 ?_ | refine Z35 ?_ | refine Z36 ?_ | refine Z37 ?_ | refine Z38 rfl ?_ | refine Z39 ?_ | refine Z40 ?_ | refine Z41 ?_) | (refine Z42 ?_; first | refine Z43 ?_ | refine Z44 ?_ | refine Z45 ?_ | refine Z46 ?_ | refine Z47 ?_ | refine Z48 ?_ | refine Z49 rfl (by decide) ?_ | refine Z50 rfl (by decide) ?_))
    exact at_ret1 rfl rfl ⟨by simp, e0⟩
end Go.Proofs.Ytmmhoihebbhakaa
