/-
  What is proved here: the law FnExactSplitProgram.
-/
import Derived.Test.YtpmfngnhfgnkmaaSpl
import Derived.Test.YtpmfngnhfgnkmaaOpenS
import Derived.Test.YtpmfngnhfgnkmaaPr
import Derived.Test.YtpmfngnhfgnkmaaWx
namespace Go.Proofs.Ytpmfngnhfgnkmaa
set_option linter.unusedVariables false
set_option linter.unusedSimpArgs false
set_option linter.unnecessarySimpa false
open Go.RowKit

theorem FnExactSplitProgram_ret {w : World} {p0 : PrArg} {v0 : Value} (hp0 : p0.In w v0) (a1 : Int) (b1 : -9223372036854775808 ≤ a1 ∧ a1 ≤ 9223372036854775807) :
    Ret Try.prog 12 [v0, .int .i64 a1] w fun r w' => r = .bool true ∧ Ext w w' := by
  obtain ⟨tv0, bv0, tl0, l0, Ft0, Fl0⟩ := p0
  obtain ⟨rfl, ht0, hl0⟩ := hp0
  simp only at ht0 hl0
  have e0 := Ext.refl w
  refine enter Try.func12 rfl Try.ntmps12 rfl rfl ?_
  refine Z43 (Z44 ?_)
  refine WO_box rfl fun wB0 hB0 eB0 zB0 => ?_
  replace e0 := Ext.trans e0 eB0
  have z1 := Ext.size_le eB0
  replace hB0 : Blk wB0 w.heap.size [tv0, bv0] _ := hB0
  repeat (first | (refine Z0 ?_; first | refine Z1 rfl ?_ | (refine Z2 ?_; first | refine Z3 rfl rfl (by decide) ?_ | refine Z4 rfl rfl (by decide) ?_ | refine Z5 rfl rfl ?_) | (refine Z6 ?_; first | refine Z7 rfl rfl ?_ | refine Z8 rfl rfl ?_) | (refine Z9 ?_; first | refine Z10 rfl (by assumption) (by rfl) ?_ | refine Z11 rfl (by assumption) ?_) | (refine Z12 ?_; first | refine Z13 (Z14 rfl (by decide) rfl) ?_ | refine Z13 (Z15 rfl (by decide) rfl) ?_) | (refine Z16 ?_; first | refine Z17 rfl ?_ | refine Z18 rfl ?_) | (refine Z19 ?_; first | refine Z20 rfl rfl (by omega) ?_ | refine Z21 rfl rfl (by omega) ?_ | refine Z22 rfl rfl (by omega) ?_ | refine Z23 rfl rfl (by omega) (by omega) ?_ | refine Z24 rfl rfl (by omega) (by omega) (by omega) ?_ | refine Z13 (Z25 rfl rfl) ?_ | refine Z13 (Z26 rfl rfl) ?_) | (refine Z27 ?_; refine Z13 (Z28 rfl (Z53 ⟨by omega, by omega⟩)) ?_) | (refine Z29 ?_; refine Z13 (Z30 rfl (by rfl) (by simp only [Z84, List.set_cons_zero, List.set_cons_succ]; rfl)) ?_) | refine Z31 ?_) | (refine Z32 ?_; first | refine Z33 ?_ | refine Z34 ?_ | refine Z35 ?_ | refine Z36 ?_ | refine Z37 ?_ | refine Z38 rfl ?_ | refine Z39 ?_ | refine Z40 ?_ | refine Z41 ?_) | (refine Z42 ?_; first | refine Z43 ?_ | refine Z44 ?_ | refine Z45 ?_ | refine Z46 ?_ | refine Z47 ?_ | refine Z48 ?_ | refine Z49 rfl (by decide) ?_ | refine Z50 rfl (by decide) ?_))
  refine WO_loadSB rfl hB0 rfl ?_
  repeat (first | (refine Z0 ?_; first | refine Z1 rfl ?_ | (refine Z2 ?_; first | refine Z3 rfl rfl (by decide) ?_ | refine Z4 rfl rfl (by decide) ?_ | refine Z5 rfl rfl ?_) | (refine Z6 ?_; first | refine Z7 rfl rfl ?_ | refine Z8 rfl rfl ?_) | (refine Z9 ?_; first | refine Z10 rfl (by assumption) (by rfl) ?_ | refine Z11 rfl (by assumption) ?_) | (refine Z12 ?_; first | refine Z13 (Z14 rfl (by decide) rfl) ?_ | refine Z13 (Z15 rfl (by decide) rfl) ?_) | (refine Z16 ?_; first | refine Z17 rfl ?_ | refine Z18 rfl ?_) | (refine Z19 ?_; first | refine Z20 rfl rfl (by omega) ?_ | refine Z21 rfl rfl (by omega) ?_ | refine Z22 rfl rfl (by omega) ?_ | refine Z23 rfl rfl (by omega) (by omega) ?_ | refine Z24 rfl rfl (by omega) (by omega) (by omega) ?_ | refine Z13 (Z25 rfl rfl) ?_ | refine Z13 (Z26 rfl rfl) ?_) | (refine Z27 ?_; refine Z13 (Z28 rfl (Z53 ⟨by omega, by omega⟩)) ?_) | (refine Z29 ?_; refine Z13 (Z30 rfl (by rfl) (by simp only [Z84, List.set_cons_zero, List.set_cons_succ]; rfl)) ?_) | refine Z31 ?_) | (refine Z32 ?_; first | refine Z33 ?_ | refine Z34 ?_ | refine Z35 ?_ | refine Z36 ?_ | refine Z37 ?_ | refine Z38 rfl ?_ | refine Z39 ?_ | refine Z40 ?_ | refine Z41 ?_) | (refine Z42 ?_; first | refine Z43 ?_ | refine Z44 ?_ | refine Z45 ?_ | refine Z46 ?_ | refine Z47 ?_ | refine Z48 ?_ | refine Z49 rfl (by decide) ?_ | refine Z50 rfl (by decide) ?_))
  refine WO_call rfl (szProgram_ret tv0 bv0 tl0 l0 Ft0 Fl0 ((1048576 : Int)) _ (ht0.ext e0) (hl0.ext e0) (by omega) (by omega)) ?_
  rintro _ wz2 ⟨rfl, ez2⟩
  replace e0 := Ext.trans e0 ez2
  replace hB0 := hB0.ext ez2
  have z3 := Ext.size_le ez2
  by_cases hle0 : ((tl0.length + cntL l0 : Nat) : Int) ≤ (1048576 : Int)
  rotate_left
  · rw [if_neg hle0]
    repeat' (first | (refine Z0 ?_; first | refine Z1 rfl ?_ | (refine Z2 ?_; first | refine Z3 rfl rfl (by decide) ?_ | refine Z4 rfl rfl (by decide) ?_ | refine Z5 rfl rfl ?_ | ((refine Z51 rfl rfl (fun c' hc' => ?_)); cases c' <;> (try simp only [decide_eq_true_eq, decide_eq_false_iff_not, beq_iff_eq, beq_eq_false_iff_ne, bne_iff_ne, bne_eq_false_iff_eq, ne_eq, gt_iff_lt, ge_iff_le, Int.not_lt, Int.not_le, Bool.not_eq_true', Bool.not_eq_false', Bool.not_true, Bool.not_false, reduceCtorEq, Decidable.not_not, not_true_eq_false, Bool.true_eq_false, Bool.false_eq_true] at hc') <;> (try (exfalso; omega)))) | (refine Z6 ?_; first | refine Z7 rfl rfl ?_ | refine Z8 rfl rfl ?_) | (refine Z9 ?_; first | refine Z10 rfl (by assumption) (by rfl) ?_ | refine Z11 rfl (by assumption) ?_) | (refine Z12 ?_; first | refine Z13 (Z14 rfl (by decide) rfl) ?_ | refine Z13 (Z15 rfl (by decide) rfl) ?_) | (refine Z16 ?_; first | refine Z17 rfl ?_ | refine Z18 rfl ?_) | (refine Z19 ?_; first | refine Z20 rfl rfl (by omega) ?_ | refine Z21 rfl rfl (by omega) ?_ | refine Z22 rfl rfl (by omega) ?_ | refine Z23 rfl rfl (by omega) (by omega) ?_ | refine Z24 rfl rfl (by omega) (by omega) (by omega) ?_ | refine Z13 (Z25 rfl rfl) ?_ | refine Z13 (Z26 rfl rfl) ?_) | (refine Z27 ?_; refine Z13 (Z28 rfl (Z53 ⟨by omega, by omega⟩)) ?_) | (refine Z29 ?_; refine Z13 (Z30 rfl (by rfl) (by simp only [Z84, List.set_cons_zero, List.set_cons_succ]; rfl)) ?_) | refine Z31 ?_) | (refine Z32 ?_; first | refine Z33 ?_ | refine Z34 ?_ | refine Z35 ?_ | refine Z36 ?_ | refine Z37 ?_ | refine Z38 rfl ?_ | refine Z39 ?_ | refine Z40 ?_ | refine Z41 ?_) | (refine Z42 ?_; first | refine Z43 ?_ | refine Z44 ?_ | refine Z45 ?_ | refine Z46 ?_ | refine Z47 ?_ | refine Z48 ?_ | refine Z49 rfl (by decide) ?_ | refine Z50 rfl (by decide) ?_ | ((refine Z52 rfl (fun hc' => ?_) (fun hc' => ?_)) <;> (try simp only [decide_eq_true_eq, decide_eq_false_iff_not, beq_iff_eq, beq_eq_false_iff_ne, bne_iff_ne, bne_eq_false_iff_eq, ne_eq, gt_iff_lt, ge_iff_le, Int.not_lt, Int.not_le, Bool.not_eq_true', Bool.not_eq_false', Bool.not_true, Bool.not_false, reduceCtorEq, Decidable.not_not, not_true_eq_false, Bool.true_eq_false, Bool.false_eq_true] at hc') <;> (try (exfalso; omega)))))
    exact at_ret1 rfl rfl ⟨rfl, e0⟩
  rw [if_pos hle0]
  repeat' (first | (refine Z0 ?_; first | refine Z1 rfl ?_ | (refine Z2 ?_; first | refine Z3 rfl rfl (by decide) ?_ | refine Z4 rfl rfl (by decide) ?_ | refine Z5 rfl rfl ?_ | ((refine Z51 rfl rfl (fun c' hc' => ?_)); cases c' <;> (try simp only [decide_eq_true_eq, decide_eq_false_iff_not, beq_iff_eq, beq_eq_false_iff_ne, bne_iff_ne, bne_eq_false_iff_eq, ne_eq, gt_iff_lt, ge_iff_le, Int.not_lt, Int.not_le, Bool.not_eq_true', Bool.not_eq_false', Bool.not_true, Bool.not_false, reduceCtorEq, Decidable.not_not, not_true_eq_false, Bool.true_eq_false, Bool.false_eq_true] at hc') <;> (try (exfalso; omega)))) | (refine Z6 ?_; first | refine Z7 rfl rfl ?_ | refine Z8 rfl rfl ?_) | (refine Z9 ?_; first | refine Z10 rfl (by assumption) (by rfl) ?_ | refine Z11 rfl (by assumption) ?_) | (refine Z12 ?_; first | refine Z13 (Z14 rfl (by decide) rfl) ?_ | refine Z13 (Z15 rfl (by decide) rfl) ?_) | (refine Z16 ?_; first | refine Z17 rfl ?_ | refine Z18 rfl ?_) | (refine Z19 ?_; first | refine Z20 rfl rfl (by omega) ?_ | refine Z21 rfl rfl (by omega) ?_ | refine Z22 rfl rfl (by omega) ?_ | refine Z23 rfl rfl (by omega) (by omega) ?_ | refine Z24 rfl rfl (by omega) (by omega) (by omega) ?_ | refine Z13 (Z25 rfl rfl) ?_ | refine Z13 (Z26 rfl rfl) ?_) | (refine Z27 ?_; refine Z13 (Z28 rfl (Z53 ⟨by omega, by omega⟩)) ?_) | (refine Z29 ?_; refine Z13 (Z30 rfl (by rfl) (by simp only [Z84, List.set_cons_zero, List.set_cons_succ]; rfl)) ?_) | refine Z31 ?_) | (refine Z32 ?_; first | refine Z33 ?_ | refine Z34 ?_ | refine Z35 ?_ | refine Z36 ?_ | refine Z37 ?_ | refine Z38 rfl ?_ | refine Z39 ?_ | refine Z40 ?_ | refine Z41 ?_) | (refine Z42 ?_; first | refine Z43 ?_ | refine Z44 ?_ | refine Z45 ?_ | refine Z46 ?_ | refine Z47 ?_ | refine Z48 ?_ | refine Z49 rfl (by decide) ?_ | refine Z50 rfl (by decide) ?_ | ((refine Z52 rfl (fun hc' => ?_) (fun hc' => ?_)) <;> (try simp only [decide_eq_true_eq, decide_eq_false_iff_not, beq_iff_eq, beq_eq_false_iff_ne, bne_iff_ne, bne_eq_false_iff_eq, ne_eq, gt_iff_lt, ge_iff_le, Int.not_lt, Int.not_le, Bool.not_eq_true', Bool.not_eq_false', Bool.not_true, Bool.not_false, reduceCtorEq, Decidable.not_not, not_true_eq_false, Bool.true_eq_false, Bool.false_eq_true] at hc') <;> (try (exfalso; omega)))))
  have hsT := splT_len tl0 l0 a1
  have hsL := spl_cnt tl0 l0 a1
  refine WO_loadSB rfl hB0 rfl ?_
  repeat (first | (refine Z0 ?_; first | refine Z1 rfl ?_ | (refine Z2 ?_; first | refine Z3 rfl rfl (by decide) ?_ | refine Z4 rfl rfl (by decide) ?_ | refine Z5 rfl rfl ?_) | (refine Z6 ?_; first | refine Z7 rfl rfl ?_ | refine Z8 rfl rfl ?_) | (refine Z9 ?_; first | refine Z10 rfl (by assumption) (by rfl) ?_ | refine Z11 rfl (by assumption) ?_) | (refine Z12 ?_; first | refine Z13 (Z14 rfl (by decide) rfl) ?_ | refine Z13 (Z15 rfl (by decide) rfl) ?_) | (refine Z16 ?_; first | refine Z17 rfl ?_ | refine Z18 rfl ?_) | (refine Z19 ?_; first | refine Z20 rfl rfl (by omega) ?_ | refine Z21 rfl rfl (by omega) ?_ | refine Z22 rfl rfl (by omega) ?_ | refine Z23 rfl rfl (by omega) (by omega) ?_ | refine Z24 rfl rfl (by omega) (by omega) (by omega) ?_ | refine Z13 (Z25 rfl rfl) ?_ | refine Z13 (Z26 rfl rfl) ?_) | (refine Z27 ?_; refine Z13 (Z28 rfl (Z53 ⟨by omega, by omega⟩)) ?_) | (refine Z29 ?_; refine Z13 (Z30 rfl (by rfl) (by simp only [Z84, List.set_cons_zero, List.set_cons_succ]; rfl)) ?_) | refine Z31 ?_) | (refine Z32 ?_; first | refine Z33 ?_ | refine Z34 ?_ | refine Z35 ?_ | refine Z36 ?_ | refine Z37 ?_ | refine Z38 rfl ?_ | refine Z39 ?_ | refine Z40 ?_ | refine Z41 ?_) | (refine Z42 ?_; first | refine Z43 ?_ | refine Z44 ?_ | refine Z45 ?_ | refine Z46 ?_ | refine Z47 ?_ | refine Z48 ?_ | refine Z49 rfl (by decide) ?_ | refine Z50 rfl (by decide) ?_))
  refine WO_call rfl (toProgram_ret tv0 bv0 tl0 l0 Ft0 Fl0 _ (ht0.ext e0) (hl0.ext e0) (by omega)) ?_
  rintro _ wc4 ⟨⟨tc4, bc4, rfl, hc4⟩, ec4⟩
  replace e0 := Ext.trans e0 ec4
  replace hB0 := hB0.ext ec4
  have z5 := Ext.size_le ec4
  repeat (first | (refine Z0 ?_; first | refine Z1 rfl ?_ | (refine Z2 ?_; first | refine Z3 rfl rfl (by decide) ?_ | refine Z4 rfl rfl (by decide) ?_ | refine Z5 rfl rfl ?_) | (refine Z6 ?_; first | refine Z7 rfl rfl ?_ | refine Z8 rfl rfl ?_) | (refine Z9 ?_; first | refine Z10 rfl (by assumption) (by rfl) ?_ | refine Z11 rfl (by assumption) ?_) | (refine Z12 ?_; first | refine Z13 (Z14 rfl (by decide) rfl) ?_ | refine Z13 (Z15 rfl (by decide) rfl) ?_) | (refine Z16 ?_; first | refine Z17 rfl ?_ | refine Z18 rfl ?_) | (refine Z19 ?_; first | refine Z20 rfl rfl (by omega) ?_ | refine Z21 rfl rfl (by omega) ?_ | refine Z22 rfl rfl (by omega) ?_ | refine Z23 rfl rfl (by omega) (by omega) ?_ | refine Z24 rfl rfl (by omega) (by omega) (by omega) ?_ | refine Z13 (Z25 rfl rfl) ?_ | refine Z13 (Z26 rfl rfl) ?_) | (refine Z27 ?_; refine Z13 (Z28 rfl (Z53 ⟨by omega, by omega⟩)) ?_) | (refine Z29 ?_; refine Z13 (Z30 rfl (by rfl) (by simp only [Z84, List.set_cons_zero, List.set_cons_succ]; rfl)) ?_) | refine Z31 ?_) | (refine Z32 ?_; first | refine Z33 ?_ | refine Z34 ?_ | refine Z35 ?_ | refine Z36 ?_ | refine Z37 ?_ | refine Z38 rfl ?_ | refine Z39 ?_ | refine Z40 ?_ | refine Z41 ?_) | (refine Z42 ?_; first | refine Z43 ?_ | refine Z44 ?_ | refine Z45 ?_ | refine Z46 ?_ | refine Z47 ?_ | refine Z48 ?_ | refine Z49 rfl (by decide) ?_ | refine Z50 rfl (by decide) ?_))
  obtain ⟨Af6, pf6⟩ := (hc4).int
  obtain ⟨Bf6, qf6⟩ := (hc4).sts
  refine WO_call rfl (sSplitProgram_ret tc4 bc4 tl0 l0 _ _ a1 _ pf6 qf6 b1 (by omega) (by omega)) ?_
  rintro _ wr7 ⟨mr7, tr7, br7, ur7, dr7, rfl, hr7, gr7, ir7, jr7, er7⟩
  replace e0 := Ext.trans e0 er7
  replace hB0 := hB0.ext er7
  replace hc4 := hc4.ext er7
  have z8 := Ext.size_le er7
  repeat (first | (refine Z0 ?_; first | refine Z1 rfl ?_ | (refine Z2 ?_; first | refine Z3 rfl rfl (by decide) ?_ | refine Z4 rfl rfl (by decide) ?_ | refine Z5 rfl rfl ?_) | (refine Z6 ?_; first | refine Z7 rfl rfl ?_ | refine Z8 rfl rfl ?_) | (refine Z9 ?_; first | refine Z10 rfl (by assumption) (by rfl) ?_ | refine Z11 rfl (by assumption) ?_) | (refine Z12 ?_; first | refine Z13 (Z14 rfl (by decide) rfl) ?_ | refine Z13 (Z15 rfl (by decide) rfl) ?_) | (refine Z16 ?_; first | refine Z17 rfl ?_ | refine Z18 rfl ?_) | (refine Z19 ?_; first | refine Z20 rfl rfl (by omega) ?_ | refine Z21 rfl rfl (by omega) ?_ | refine Z22 rfl rfl (by omega) ?_ | refine Z23 rfl rfl (by omega) (by omega) ?_ | refine Z24 rfl rfl (by omega) (by omega) (by omega) ?_ | refine Z13 (Z25 rfl rfl) ?_ | refine Z13 (Z26 rfl rfl) ?_) | (refine Z27 ?_; refine Z13 (Z28 rfl (Z53 ⟨by omega, by omega⟩)) ?_) | (refine Z29 ?_; refine Z13 (Z30 rfl (by rfl) (by simp only [Z84, List.set_cons_zero, List.set_cons_succ]; rfl)) ?_) | refine Z31 ?_) | (refine Z32 ?_; first | refine Z33 ?_ | refine Z34 ?_ | refine Z35 ?_ | refine Z36 ?_ | refine Z37 ?_ | refine Z38 rfl ?_ | refine Z39 ?_ | refine Z40 ?_ | refine Z41 ?_) | (refine Z42 ?_; first | refine Z43 ?_ | refine Z44 ?_ | refine Z45 ?_ | refine Z46 ?_ | refine Z47 ?_ | refine Z48 ?_ | refine Z49 rfl (by decide) ?_ | refine Z50 rfl (by decide) ?_))
  refine WO_alloc fun wq9 hq9 eq9 zq9 => ?_
  replace e0 := Ext.trans e0 eq9
  replace hB0 := hB0.ext eq9
  replace hc4 := hc4.ext eq9
  replace hr7 := hr7.ext eq9
  replace gr7 := gr7.ext eq9
  have z10 := Ext.size_le eq9
  have hltq9 := Blk.lt hq9
  repeat (first | (refine Z0 ?_; first | refine Z1 rfl ?_ | (refine Z2 ?_; first | refine Z3 rfl rfl (by decide) ?_ | refine Z4 rfl rfl (by decide) ?_ | refine Z5 rfl rfl ?_) | (refine Z6 ?_; first | refine Z7 rfl rfl ?_ | refine Z8 rfl rfl ?_) | (refine Z9 ?_; first | refine Z10 rfl (by assumption) (by rfl) ?_ | refine Z11 rfl (by assumption) ?_) | (refine Z12 ?_; first | refine Z13 (Z14 rfl (by decide) rfl) ?_ | refine Z13 (Z15 rfl (by decide) rfl) ?_) | (refine Z16 ?_; first | refine Z17 rfl ?_ | refine Z18 rfl ?_) | (refine Z19 ?_; first | refine Z20 rfl rfl (by omega) ?_ | refine Z21 rfl rfl (by omega) ?_ | refine Z22 rfl rfl (by omega) ?_ | refine Z23 rfl rfl (by omega) (by omega) ?_ | refine Z24 rfl rfl (by omega) (by omega) (by omega) ?_ | refine Z13 (Z25 rfl rfl) ?_ | refine Z13 (Z26 rfl rfl) ?_) | (refine Z27 ?_; refine Z13 (Z28 rfl (Z53 ⟨by omega, by omega⟩)) ?_) | (refine Z29 ?_; refine Z13 (Z30 rfl (by rfl) (by simp only [Z84, List.set_cons_zero, List.set_cons_succ]; rfl)) ?_) | refine Z31 ?_) | (refine Z32 ?_; first | refine Z33 ?_ | refine Z34 ?_ | refine Z35 ?_ | refine Z36 ?_ | refine Z37 ?_ | refine Z38 rfl ?_ | refine Z39 ?_ | refine Z40 ?_ | refine Z41 ?_) | (refine Z42 ?_; first | refine Z43 ?_ | refine Z44 ?_ | refine Z45 ?_ | refine Z46 ?_ | refine Z47 ?_ | refine Z48 ?_ | refine Z49 rfl (by decide) ?_ | refine Z50 rfl (by decide) ?_))
  refine WO_alloc fun wq11 hq11 eq11 zq11 => ?_
  replace e0 := Ext.trans e0 eq11
  replace hB0 := hB0.ext eq11
  replace hc4 := hc4.ext eq11
  replace hr7 := hr7.ext eq11
  replace gr7 := gr7.ext eq11
  replace hq9 := hq9.ext eq11
  have z12 := Ext.size_le eq11
  have hltq11 := Blk.lt hq11
  repeat (first | (refine Z0 ?_; first | refine Z1 rfl ?_ | (refine Z2 ?_; first | refine Z3 rfl rfl (by decide) ?_ | refine Z4 rfl rfl (by decide) ?_ | refine Z5 rfl rfl ?_) | (refine Z6 ?_; first | refine Z7 rfl rfl ?_ | refine Z8 rfl rfl ?_) | (refine Z9 ?_; first | refine Z10 rfl (by assumption) (by rfl) ?_ | refine Z11 rfl (by assumption) ?_) | (refine Z12 ?_; first | refine Z13 (Z14 rfl (by decide) rfl) ?_ | refine Z13 (Z15 rfl (by decide) rfl) ?_) | (refine Z16 ?_; first | refine Z17 rfl ?_ | refine Z18 rfl ?_) | (refine Z19 ?_; first | refine Z20 rfl rfl (by omega) ?_ | refine Z21 rfl rfl (by omega) ?_ | refine Z22 rfl rfl (by omega) ?_ | refine Z23 rfl rfl (by omega) (by omega) ?_ | refine Z24 rfl rfl (by omega) (by omega) (by omega) ?_ | refine Z13 (Z25 rfl rfl) ?_ | refine Z13 (Z26 rfl rfl) ?_) | (refine Z27 ?_; refine Z13 (Z28 rfl (Z53 ⟨by omega, by omega⟩)) ?_) | (refine Z29 ?_; refine Z13 (Z30 rfl (by rfl) (by simp only [Z84, List.set_cons_zero, List.set_cons_succ]; rfl)) ?_) | refine Z31 ?_) | (refine Z32 ?_; first | refine Z33 ?_ | refine Z34 ?_ | refine Z35 ?_ | refine Z36 ?_ | refine Z37 ?_ | refine Z38 rfl ?_ | refine Z39 ?_ | refine Z40 ?_ | refine Z41 ?_) | (refine Z42 ?_; first | refine Z43 ?_ | refine Z44 ?_ | refine Z45 ?_ | refine Z46 ?_ | refine Z47 ?_ | refine Z48 ?_ | refine Z49 rfl (by decide) ?_ | refine Z50 rfl (by decide) ?_))
  obtain ⟨onq9, omq9⟩ := hr7.ones
  refine WO_storeS (k := 2) (vs := [tr7, br7]) rfl rfl rfl (by intro v hv; simp at hv; rcases hv with rfl | rfl <;> assumption) hq9 (by decide) fun wzq9 hzq9 ozq9 => ?_
  have czq9 := Only.toI ozq9
  replace e0 := e0.chgI czq9 (by omega)
  replace hB0 := hB0.chgI czq9 (by omega)
  replace hc4 := hc4.chgI czq9 (by omega)
  replace hr7 := hr7.chgI czq9 (by omega)
  replace gr7 := gr7.chgI czq9 (by omega)
  replace hq11 := hq11.chgI czq9 (by omega)
  have z13 := ChgI.size czq9
  have kq9 : Blk wzq9 wr7.heap.size [tr7, br7] _ := hzq9
  repeat (first | (refine Z0 ?_; first | refine Z1 rfl ?_ | (refine Z2 ?_; first | refine Z3 rfl rfl (by decide) ?_ | refine Z4 rfl rfl (by decide) ?_ | refine Z5 rfl rfl ?_) | (refine Z6 ?_; first | refine Z7 rfl rfl ?_ | refine Z8 rfl rfl ?_) | (refine Z9 ?_; first | refine Z10 rfl (by assumption) (by rfl) ?_ | refine Z11 rfl (by assumption) ?_) | (refine Z12 ?_; first | refine Z13 (Z14 rfl (by decide) rfl) ?_ | refine Z13 (Z15 rfl (by decide) rfl) ?_) | (refine Z16 ?_; first | refine Z17 rfl ?_ | refine Z18 rfl ?_) | (refine Z19 ?_; first | refine Z20 rfl rfl (by omega) ?_ | refine Z21 rfl rfl (by omega) ?_ | refine Z22 rfl rfl (by omega) ?_ | refine Z23 rfl rfl (by omega) (by omega) ?_ | refine Z24 rfl rfl (by omega) (by omega) (by omega) ?_ | refine Z13 (Z25 rfl rfl) ?_ | refine Z13 (Z26 rfl rfl) ?_) | (refine Z27 ?_; refine Z13 (Z28 rfl (Z53 ⟨by omega, by omega⟩)) ?_) | (refine Z29 ?_; refine Z13 (Z30 rfl (by rfl) (by simp only [Z84, List.set_cons_zero, List.set_cons_succ]; rfl)) ?_) | refine Z31 ?_) | (refine Z32 ?_; first | refine Z33 ?_ | refine Z34 ?_ | refine Z35 ?_ | refine Z36 ?_ | refine Z37 ?_ | refine Z38 rfl ?_ | refine Z39 ?_ | refine Z40 ?_ | refine Z41 ?_) | (refine Z42 ?_; first | refine Z43 ?_ | refine Z44 ?_ | refine Z45 ?_ | refine Z46 ?_ | refine Z47 ?_ | refine Z48 ?_ | refine Z49 rfl (by decide) ?_ | refine Z50 rfl (by decide) ?_))
  obtain ⟨onq11, omq11⟩ := gr7.ones
  refine WO_storeS (k := 2) (vs := [ur7, dr7]) rfl rfl rfl (by intro v hv; simp at hv; rcases hv with rfl | rfl <;> assumption) hq11 (by decide) fun wzq11 hzq11 ozq11 => ?_
  have czq11 := Only.toI ozq11
  replace e0 := e0.chgI czq11 (by omega)
  replace hB0 := hB0.chgI czq11 (by omega)
  replace hc4 := hc4.chgI czq11 (by omega)
  replace hr7 := hr7.chgI czq11 (by omega)
  replace gr7 := gr7.chgI czq11 (by omega)
  replace kq9 := kq9.chgI czq11 (by omega)
  have z14 := ChgI.size czq11
  have kq11 : Blk wzq11 wq9.heap.size [ur7, dr7] _ := hzq11
  repeat (first | (refine Z0 ?_; first | refine Z1 rfl ?_ | (refine Z2 ?_; first | refine Z3 rfl rfl (by decide) ?_ | refine Z4 rfl rfl (by decide) ?_ | refine Z5 rfl rfl ?_) | (refine Z6 ?_; first | refine Z7 rfl rfl ?_ | refine Z8 rfl rfl ?_) | (refine Z9 ?_; first | refine Z10 rfl (by assumption) (by rfl) ?_ | refine Z11 rfl (by assumption) ?_) | (refine Z12 ?_; first | refine Z13 (Z14 rfl (by decide) rfl) ?_ | refine Z13 (Z15 rfl (by decide) rfl) ?_) | (refine Z16 ?_; first | refine Z17 rfl ?_ | refine Z18 rfl ?_) | (refine Z19 ?_; first | refine Z20 rfl rfl (by omega) ?_ | refine Z21 rfl rfl (by omega) ?_ | refine Z22 rfl rfl (by omega) ?_ | refine Z23 rfl rfl (by omega) (by omega) ?_ | refine Z24 rfl rfl (by omega) (by omega) (by omega) ?_ | refine Z13 (Z25 rfl rfl) ?_ | refine Z13 (Z26 rfl rfl) ?_) | (refine Z27 ?_; refine Z13 (Z28 rfl (Z53 ⟨by omega, by omega⟩)) ?_) | (refine Z29 ?_; refine Z13 (Z30 rfl (by rfl) (by simp only [Z84, List.set_cons_zero, List.set_cons_succ]; rfl)) ?_) | refine Z31 ?_) | (refine Z32 ?_; first | refine Z33 ?_ | refine Z34 ?_ | refine Z35 ?_ | refine Z36 ?_ | refine Z37 ?_ | refine Z38 rfl ?_ | refine Z39 ?_ | refine Z40 ?_ | refine Z41 ?_) | (refine Z42 ?_; first | refine Z43 ?_ | refine Z44 ?_ | refine Z45 ?_ | refine Z46 ?_ | refine Z47 ?_ | refine Z48 ?_ | refine Z49 rfl (by decide) ?_ | refine Z50 rfl (by decide) ?_))
  refine WO_loadSB rfl hB0 rfl ?_
  refine WO_call rfl (toProgram_ret tv0 bv0 tl0 l0 Ft0 Fl0 _ (ht0.ext e0) (hl0.ext e0) (by omega)) ?_
  rintro _ wc15 ⟨⟨tc15, bc15, rfl, hc15⟩, ec15⟩
  replace e0 := Ext.trans e0 ec15
  replace hB0 := hB0.ext ec15
  replace hc4 := hc4.ext ec15
  replace hr7 := hr7.ext ec15
  replace gr7 := gr7.ext ec15
  replace kq9 := kq9.ext ec15
  replace kq11 := kq11.ext ec15
  have z16 := Ext.size_le ec15
  repeat (first | (refine Z0 ?_; first | refine Z1 rfl ?_ | (refine Z2 ?_; first | refine Z3 rfl rfl (by decide) ?_ | refine Z4 rfl rfl (by decide) ?_ | refine Z5 rfl rfl ?_) | (refine Z6 ?_; first | refine Z7 rfl rfl ?_ | refine Z8 rfl rfl ?_) | (refine Z9 ?_; first | refine Z10 rfl (by assumption) (by rfl) ?_ | refine Z11 rfl (by assumption) ?_) | (refine Z12 ?_; first | refine Z13 (Z14 rfl (by decide) rfl) ?_ | refine Z13 (Z15 rfl (by decide) rfl) ?_) | (refine Z16 ?_; first | refine Z17 rfl ?_ | refine Z18 rfl ?_) | (refine Z19 ?_; first | refine Z20 rfl rfl (by omega) ?_ | refine Z21 rfl rfl (by omega) ?_ | refine Z22 rfl rfl (by omega) ?_ | refine Z23 rfl rfl (by omega) (by omega) ?_ | refine Z24 rfl rfl (by omega) (by omega) (by omega) ?_ | refine Z13 (Z25 rfl rfl) ?_ | refine Z13 (Z26 rfl rfl) ?_) | (refine Z27 ?_; refine Z13 (Z28 rfl (Z53 ⟨by omega, by omega⟩)) ?_) | (refine Z29 ?_; refine Z13 (Z30 rfl (by rfl) (by simp only [Z84, List.set_cons_zero, List.set_cons_succ]; rfl)) ?_) | refine Z31 ?_) | (refine Z32 ?_; first | refine Z33 ?_ | refine Z34 ?_ | refine Z35 ?_ | refine Z36 ?_ | refine Z37 ?_ | refine Z38 rfl ?_ | refine Z39 ?_ | refine Z40 ?_ | refine Z41 ?_) | (refine Z42 ?_; first | refine Z43 ?_ | refine Z44 ?_ | refine Z45 ?_ | refine Z46 ?_ | refine Z47 ?_ | refine Z48 ?_ | refine Z49 rfl (by decide) ?_ | refine Z50 rfl (by decide) ?_))
  obtain ⟨onq17, omq17⟩ := hc15.ones
  refine WO_alloc fun wq17 hq17 eq17 zq17 => ?_
  repeat (first | (refine Z0 ?_; first | refine Z1 rfl ?_ | (refine Z2 ?_; first | refine Z3 rfl rfl (by decide) ?_ | refine Z4 rfl rfl (by decide) ?_ | refine Z5 rfl rfl ?_) | (refine Z6 ?_; first | refine Z7 rfl rfl ?_ | refine Z8 rfl rfl ?_) | (refine Z9 ?_; first | refine Z10 rfl (by assumption) (by rfl) ?_ | refine Z11 rfl (by assumption) ?_) | (refine Z12 ?_; first | refine Z13 (Z14 rfl (by decide) rfl) ?_ | refine Z13 (Z15 rfl (by decide) rfl) ?_) | (refine Z16 ?_; first | refine Z17 rfl ?_ | refine Z18 rfl ?_) | (refine Z19 ?_; first | refine Z20 rfl rfl (by omega) ?_ | refine Z21 rfl rfl (by omega) ?_ | refine Z22 rfl rfl (by omega) ?_ | refine Z23 rfl rfl (by omega) (by omega) ?_ | refine Z24 rfl rfl (by omega) (by omega) (by omega) ?_ | refine Z13 (Z25 rfl rfl) ?_ | refine Z13 (Z26 rfl rfl) ?_) | (refine Z27 ?_; refine Z13 (Z28 rfl (Z53 ⟨by omega, by omega⟩)) ?_) | (refine Z29 ?_; refine Z13 (Z30 rfl (by rfl) (by simp only [Z84, List.set_cons_zero, List.set_cons_succ]; rfl)) ?_) | refine Z31 ?_) | (refine Z32 ?_; first | refine Z33 ?_ | refine Z34 ?_ | refine Z35 ?_ | refine Z36 ?_ | refine Z37 ?_ | refine Z38 rfl ?_ | refine Z39 ?_ | refine Z40 ?_ | refine Z41 ?_) | (refine Z42 ?_; first | refine Z43 ?_ | refine Z44 ?_ | refine Z45 ?_ | refine Z46 ?_ | refine Z47 ?_ | refine Z48 ?_ | refine Z49 rfl (by decide) ?_ | refine Z50 rfl (by decide) ?_))
  refine WO_storeS (k := 2) (vs := [tc15, bc15]) rfl rfl rfl (by intro v hv; simp at hv; rcases hv with rfl | rfl <;> first | rfl | assumption) hq17 (by decide) fun wzq17 hzq17 ozq17 => ?_
  have ezq17 := Ext.only eq17 ozq17 (Nat.le_refl _)
  replace e0 := Ext.trans e0 ezq17
  replace hB0 := hB0.ext ezq17
  replace hc4 := hc4.ext ezq17
  replace hr7 := hr7.ext ezq17
  replace gr7 := gr7.ext ezq17
  replace kq9 := kq9.ext ezq17
  replace kq11 := kq11.ext ezq17
  replace hc15 := hc15.ext ezq17
  have z18 := Ext.size_le ezq17
  have kq17 : Blk wzq17 wc15.heap.size [tc15, bc15] _ := hzq17
  have hltq17 := Blk.lt kq17
  repeat (first | (refine Z0 ?_; first | refine Z1 rfl ?_ | (refine Z2 ?_; first | refine Z3 rfl rfl (by decide) ?_ | refine Z4 rfl rfl (by decide) ?_ | refine Z5 rfl rfl ?_) | (refine Z6 ?_; first | refine Z7 rfl rfl ?_ | refine Z8 rfl rfl ?_) | (refine Z9 ?_; first | refine Z10 rfl (by assumption) (by rfl) ?_ | refine Z11 rfl (by assumption) ?_) | (refine Z12 ?_; first | refine Z13 (Z14 rfl (by decide) rfl) ?_ | refine Z13 (Z15 rfl (by decide) rfl) ?_) | (refine Z16 ?_; first | refine Z17 rfl ?_ | refine Z18 rfl ?_) | (refine Z19 ?_; first | refine Z20 rfl rfl (by omega) ?_ | refine Z21 rfl rfl (by omega) ?_ | refine Z22 rfl rfl (by omega) ?_ | refine Z23 rfl rfl (by omega) (by omega) ?_ | refine Z24 rfl rfl (by omega) (by omega) (by omega) ?_ | refine Z13 (Z25 rfl rfl) ?_ | refine Z13 (Z26 rfl rfl) ?_) | (refine Z27 ?_; refine Z13 (Z28 rfl (Z53 ⟨by omega, by omega⟩)) ?_) | (refine Z29 ?_; refine Z13 (Z30 rfl (by rfl) (by simp only [Z84, List.set_cons_zero, List.set_cons_succ]; rfl)) ?_) | refine Z31 ?_) | (refine Z32 ?_; first | refine Z33 ?_ | refine Z34 ?_ | refine Z35 ?_ | refine Z36 ?_ | refine Z37 ?_ | refine Z38 rfl ?_ | refine Z39 ?_ | refine Z40 ?_ | refine Z41 ?_) | (refine Z42 ?_; first | refine Z43 ?_ | refine Z44 ?_ | refine Z45 ?_ | refine Z46 ?_ | refine Z47 ?_ | refine Z48 ?_ | refine Z49 rfl (by decide) ?_ | refine Z50 rfl (by decide) ?_))
  refine WO_loadSB rfl kq17 rfl ?_
  repeat (first | (refine Z0 ?_; first | refine Z1 rfl ?_ | (refine Z2 ?_; first | refine Z3 rfl rfl (by decide) ?_ | refine Z4 rfl rfl (by decide) ?_ | refine Z5 rfl rfl ?_) | (refine Z6 ?_; first | refine Z7 rfl rfl ?_ | refine Z8 rfl rfl ?_) | (refine Z9 ?_; first | refine Z10 rfl (by assumption) (by rfl) ?_ | refine Z11 rfl (by assumption) ?_) | (refine Z12 ?_; first | refine Z13 (Z14 rfl (by decide) rfl) ?_ | refine Z13 (Z15 rfl (by decide) rfl) ?_) | (refine Z16 ?_; first | refine Z17 rfl ?_ | refine Z18 rfl ?_) | (refine Z19 ?_; first | refine Z20 rfl rfl (by omega) ?_ | refine Z21 rfl rfl (by omega) ?_ | refine Z22 rfl rfl (by omega) ?_ | refine Z23 rfl rfl (by omega) (by omega) ?_ | refine Z24 rfl rfl (by omega) (by omega) (by omega) ?_ | refine Z13 (Z25 rfl rfl) ?_ | refine Z13 (Z26 rfl rfl) ?_) | (refine Z27 ?_; refine Z13 (Z28 rfl (Z53 ⟨by omega, by omega⟩)) ?_) | (refine Z29 ?_; refine Z13 (Z30 rfl (by rfl) (by simp only [Z84, List.set_cons_zero, List.set_cons_succ]; rfl)) ?_) | refine Z31 ?_) | (refine Z32 ?_; first | refine Z33 ?_ | refine Z34 ?_ | refine Z35 ?_ | refine Z36 ?_ | refine Z37 ?_ | refine Z38 rfl ?_ | refine Z39 ?_ | refine Z40 ?_ | refine Z41 ?_) | (refine Z42 ?_; first | refine Z43 ?_ | refine Z44 ?_ | refine Z45 ?_ | refine Z46 ?_ | refine Z47 ?_ | refine Z48 ?_ | refine Z49 rfl (by decide) ?_ | refine Z50 rfl (by decide) ?_))
  obtain ⟨Af19, pf19⟩ := (hc15).int
  obtain ⟨Bf19, qf19⟩ := (hc15).sts
  refine WO_call rfl (SplitProgram_ret tc15 bc15 tl0 l0 _ _ a1 _ pf19 qf19 b1 (by omega) (by omega)) ?_
  rintro _ wr20 ⟨mr20, tr20, br20, ur20, dr20, rfl, hr20, gr20, ir20, jr20, er20⟩
  replace e0 := Ext.trans e0 er20
  replace hB0 := hB0.ext er20
  replace hc4 := hc4.ext er20
  replace hr7 := hr7.ext er20
  replace gr7 := gr7.ext er20
  replace kq9 := kq9.ext er20
  replace kq11 := kq11.ext er20
  replace hc15 := hc15.ext er20
  replace kq17 := kq17.ext er20
  have z21 := Ext.size_le er20
  repeat (first | (refine Z0 ?_; first | refine Z1 rfl ?_ | (refine Z2 ?_; first | refine Z3 rfl rfl (by decide) ?_ | refine Z4 rfl rfl (by decide) ?_ | refine Z5 rfl rfl ?_) | (refine Z6 ?_; first | refine Z7 rfl rfl ?_ | refine Z8 rfl rfl ?_) | (refine Z9 ?_; first | refine Z10 rfl (by assumption) (by rfl) ?_ | refine Z11 rfl (by assumption) ?_) | (refine Z12 ?_; first | refine Z13 (Z14 rfl (by decide) rfl) ?_ | refine Z13 (Z15 rfl (by decide) rfl) ?_) | (refine Z16 ?_; first | refine Z17 rfl ?_ | refine Z18 rfl ?_) | (refine Z19 ?_; first | refine Z20 rfl rfl (by omega) ?_ | refine Z21 rfl rfl (by omega) ?_ | refine Z22 rfl rfl (by omega) ?_ | refine Z23 rfl rfl (by omega) (by omega) ?_ | refine Z24 rfl rfl (by omega) (by omega) (by omega) ?_ | refine Z13 (Z25 rfl rfl) ?_ | refine Z13 (Z26 rfl rfl) ?_) | (refine Z27 ?_; refine Z13 (Z28 rfl (Z53 ⟨by omega, by omega⟩)) ?_) | (refine Z29 ?_; refine Z13 (Z30 rfl (by rfl) (by simp only [Z84, List.set_cons_zero, List.set_cons_succ]; rfl)) ?_) | refine Z31 ?_) | (refine Z32 ?_; first | refine Z33 ?_ | refine Z34 ?_ | refine Z35 ?_ | refine Z36 ?_ | refine Z37 ?_ | refine Z38 rfl ?_ | refine Z39 ?_ | refine Z40 ?_ | refine Z41 ?_) | (refine Z42 ?_; first | refine Z43 ?_ | refine Z44 ?_ | refine Z45 ?_ | refine Z46 ?_ | refine Z47 ?_ | refine Z48 ?_ | refine Z49 rfl (by decide) ?_ | refine Z50 rfl (by decide) ?_))
  refine WO_alloc fun wq22 hq22 eq22 zq22 => ?_
  replace e0 := Ext.trans e0 eq22
  replace hB0 := hB0.ext eq22
  replace hc4 := hc4.ext eq22
  replace hr7 := hr7.ext eq22
  replace gr7 := gr7.ext eq22
  replace kq9 := kq9.ext eq22
  replace kq11 := kq11.ext eq22
  replace hc15 := hc15.ext eq22
  replace kq17 := kq17.ext eq22
  replace hr20 := hr20.ext eq22
  replace gr20 := gr20.ext eq22
  have z23 := Ext.size_le eq22
  have hltq22 := Blk.lt hq22
  repeat (first | (refine Z0 ?_; first | refine Z1 rfl ?_ | (refine Z2 ?_; first | refine Z3 rfl rfl (by decide) ?_ | refine Z4 rfl rfl (by decide) ?_ | refine Z5 rfl rfl ?_) | (refine Z6 ?_; first | refine Z7 rfl rfl ?_ | refine Z8 rfl rfl ?_) | (refine Z9 ?_; first | refine Z10 rfl (by assumption) (by rfl) ?_ | refine Z11 rfl (by assumption) ?_) | (refine Z12 ?_; first | refine Z13 (Z14 rfl (by decide) rfl) ?_ | refine Z13 (Z15 rfl (by decide) rfl) ?_) | (refine Z16 ?_; first | refine Z17 rfl ?_ | refine Z18 rfl ?_) | (refine Z19 ?_; first | refine Z20 rfl rfl (by omega) ?_ | refine Z21 rfl rfl (by omega) ?_ | refine Z22 rfl rfl (by omega) ?_ | refine Z23 rfl rfl (by omega) (by omega) ?_ | refine Z24 rfl rfl (by omega) (by omega) (by omega) ?_ | refine Z13 (Z25 rfl rfl) ?_ | refine Z13 (Z26 rfl rfl) ?_) | (refine Z27 ?_; refine Z13 (Z28 rfl (Z53 ⟨by omega, by omega⟩)) ?_) | (refine Z29 ?_; refine Z13 (Z30 rfl (by rfl) (by simp only [Z84, List.set_cons_zero, List.set_cons_succ]; rfl)) ?_) | refine Z31 ?_) | (refine Z32 ?_; first | refine Z33 ?_ | refine Z34 ?_ | refine Z35 ?_ | refine Z36 ?_ | refine Z37 ?_ | refine Z38 rfl ?_ | refine Z39 ?_ | refine Z40 ?_ | refine Z41 ?_) | (refine Z42 ?_; first | refine Z43 ?_ | refine Z44 ?_ | refine Z45 ?_ | refine Z46 ?_ | refine Z47 ?_ | refine Z48 ?_ | refine Z49 rfl (by decide) ?_ | refine Z50 rfl (by decide) ?_))
  refine WO_alloc fun wq24 hq24 eq24 zq24 => ?_
  replace e0 := Ext.trans e0 eq24
  replace hB0 := hB0.ext eq24
  replace hc4 := hc4.ext eq24
  replace hr7 := hr7.ext eq24
  replace gr7 := gr7.ext eq24
  replace kq9 := kq9.ext eq24
  replace kq11 := kq11.ext eq24
  replace hc15 := hc15.ext eq24
  replace kq17 := kq17.ext eq24
  replace hr20 := hr20.ext eq24
  replace gr20 := gr20.ext eq24
  replace hq22 := hq22.ext eq24
  have z25 := Ext.size_le eq24
  have hltq24 := Blk.lt hq24
  repeat (first | (refine Z0 ?_; first | refine Z1 rfl ?_ | (refine Z2 ?_; first | refine Z3 rfl rfl (by decide) ?_ | refine Z4 rfl rfl (by decide) ?_ | refine Z5 rfl rfl ?_) | (refine Z6 ?_; first | refine Z7 rfl rfl ?_ | refine Z8 rfl rfl ?_) | (refine Z9 ?_; first | refine Z10 rfl (by assumption) (by rfl) ?_ | refine Z11 rfl (by assumption) ?_) | (refine Z12 ?_; first | refine Z13 (Z14 rfl (by decide) rfl) ?_ | refine Z13 (Z15 rfl (by decide) rfl) ?_) | (refine Z16 ?_; first | refine Z17 rfl ?_ | refine Z18 rfl ?_) | (refine Z19 ?_; first | refine Z20 rfl rfl (by omega) ?_ | refine Z21 rfl rfl (by omega) ?_ | refine Z22 rfl rfl (by omega) ?_ | refine Z23 rfl rfl (by omega) (by omega) ?_ | refine Z24 rfl rfl (by omega) (by omega) (by omega) ?_ | refine Z13 (Z25 rfl rfl) ?_ | refine Z13 (Z26 rfl rfl) ?_) | (refine Z27 ?_; refine Z13 (Z28 rfl (Z53 ⟨by omega, by omega⟩)) ?_) | (refine Z29 ?_; refine Z13 (Z30 rfl (by rfl) (by simp only [Z84, List.set_cons_zero, List.set_cons_succ]; rfl)) ?_) | refine Z31 ?_) | (refine Z32 ?_; first | refine Z33 ?_ | refine Z34 ?_ | refine Z35 ?_ | refine Z36 ?_ | refine Z37 ?_ | refine Z38 rfl ?_ | refine Z39 ?_ | refine Z40 ?_ | refine Z41 ?_) | (refine Z42 ?_; first | refine Z43 ?_ | refine Z44 ?_ | refine Z45 ?_ | refine Z46 ?_ | refine Z47 ?_ | refine Z48 ?_ | refine Z49 rfl (by decide) ?_ | refine Z50 rfl (by decide) ?_))
  obtain ⟨onq22, omq22⟩ := hr20.ones
  refine WO_storeS (k := 2) (vs := [tr20, br20]) rfl rfl rfl (by intro v hv; simp at hv; rcases hv with rfl | rfl <;> assumption) hq22 (by decide) fun wzq22 hzq22 ozq22 => ?_
  have czq22 := Only.toI ozq22
  replace e0 := e0.chgI czq22 (by omega)
  replace hB0 := hB0.chgI czq22 (by omega)
  replace hc4 := hc4.chgI czq22 (by omega)
  replace hr7 := hr7.chgI czq22 (by omega)
  replace gr7 := gr7.chgI czq22 (by omega)
  replace kq9 := kq9.chgI czq22 (by omega)
  replace kq11 := kq11.chgI czq22 (by omega)
  replace hc15 := hc15.chgI czq22 (by omega)
  replace kq17 := kq17.chgI czq22 (by omega)
  replace hr20 := hr20.chgI czq22 (by omega)
  replace gr20 := gr20.chgI czq22 (by omega)
  replace hq24 := hq24.chgI czq22 (by omega)
  have z26 := ChgI.size czq22
  have kq22 : Blk wzq22 wr20.heap.size [tr20, br20] _ := hzq22
  repeat (first | (refine Z0 ?_; first | refine Z1 rfl ?_ | (refine Z2 ?_; first | refine Z3 rfl rfl (by decide) ?_ | refine Z4 rfl rfl (by decide) ?_ | refine Z5 rfl rfl ?_) | (refine Z6 ?_; first | refine Z7 rfl rfl ?_ | refine Z8 rfl rfl ?_) | (refine Z9 ?_; first | refine Z10 rfl (by assumption) (by rfl) ?_ | refine Z11 rfl (by assumption) ?_) | (refine Z12 ?_; first | refine Z13 (Z14 rfl (by decide) rfl) ?_ | refine Z13 (Z15 rfl (by decide) rfl) ?_) | (refine Z16 ?_; first | refine Z17 rfl ?_ | refine Z18 rfl ?_) | (refine Z19 ?_; first | refine Z20 rfl rfl (by omega) ?_ | refine Z21 rfl rfl (by omega) ?_ | refine Z22 rfl rfl (by omega) ?_ | refine Z23 rfl rfl (by omega) (by omega) ?_ | refine Z24 rfl rfl (by omega) (by omega) (by omega) ?_ | refine Z13 (Z25 rfl rfl) ?_ | refine Z13 (Z26 rfl rfl) ?_) | (refine Z27 ?_; refine Z13 (Z28 rfl (Z53 ⟨by omega, by omega⟩)) ?_) | (refine Z29 ?_; refine Z13 (Z30 rfl (by rfl) (by simp only [Z84, List.set_cons_zero, List.set_cons_succ]; rfl)) ?_) | refine Z31 ?_) | (refine Z32 ?_; first | refine Z33 ?_ | refine Z34 ?_ | refine Z35 ?_ | refine Z36 ?_ | refine Z37 ?_ | refine Z38 rfl ?_ | refine Z39 ?_ | refine Z40 ?_ | refine Z41 ?_) | (refine Z42 ?_; first | refine Z43 ?_ | refine Z44 ?_ | refine Z45 ?_ | refine Z46 ?_ | refine Z47 ?_ | refine Z48 ?_ | refine Z49 rfl (by decide) ?_ | refine Z50 rfl (by decide) ?_))
  obtain ⟨onq24, omq24⟩ := gr20.ones
  refine WO_storeS (k := 2) (vs := [ur20, dr20]) rfl rfl rfl (by intro v hv; simp at hv; rcases hv with rfl | rfl <;> assumption) hq24 (by decide) fun wzq24 hzq24 ozq24 => ?_
  have czq24 := Only.toI ozq24
  replace e0 := e0.chgI czq24 (by omega)
  replace hB0 := hB0.chgI czq24 (by omega)
  replace hc4 := hc4.chgI czq24 (by omega)
  replace hr7 := hr7.chgI czq24 (by omega)
  replace gr7 := gr7.chgI czq24 (by omega)
  replace kq9 := kq9.chgI czq24 (by omega)
  replace kq11 := kq11.chgI czq24 (by omega)
  replace hc15 := hc15.chgI czq24 (by omega)
  replace kq17 := kq17.chgI czq24 (by omega)
  replace hr20 := hr20.chgI czq24 (by omega)
  replace gr20 := gr20.chgI czq24 (by omega)
  replace kq22 := kq22.chgI czq24 (by omega)
  have z27 := ChgI.size czq24
  have kq24 : Blk wzq24 wq22.heap.size [ur20, dr20] _ := hzq24
  repeat (first | (refine Z0 ?_; first | refine Z1 rfl ?_ | (refine Z2 ?_; first | refine Z3 rfl rfl (by decide) ?_ | refine Z4 rfl rfl (by decide) ?_ | refine Z5 rfl rfl ?_) | (refine Z6 ?_; first | refine Z7 rfl rfl ?_ | refine Z8 rfl rfl ?_) | (refine Z9 ?_; first | refine Z10 rfl (by assumption) (by rfl) ?_ | refine Z11 rfl (by assumption) ?_) | (refine Z12 ?_; first | refine Z13 (Z14 rfl (by decide) rfl) ?_ | refine Z13 (Z15 rfl (by decide) rfl) ?_) | (refine Z16 ?_; first | refine Z17 rfl ?_ | refine Z18 rfl ?_) | (refine Z19 ?_; first | refine Z20 rfl rfl (by omega) ?_ | refine Z21 rfl rfl (by omega) ?_ | refine Z22 rfl rfl (by omega) ?_ | refine Z23 rfl rfl (by omega) (by omega) ?_ | refine Z24 rfl rfl (by omega) (by omega) (by omega) ?_ | refine Z13 (Z25 rfl rfl) ?_ | refine Z13 (Z26 rfl rfl) ?_) | (refine Z27 ?_; refine Z13 (Z28 rfl (Z53 ⟨by omega, by omega⟩)) ?_) | (refine Z29 ?_; refine Z13 (Z30 rfl (by rfl) (by simp only [Z84, List.set_cons_zero, List.set_cons_succ]; rfl)) ?_) | refine Z31 ?_) | (refine Z32 ?_; first | refine Z33 ?_ | refine Z34 ?_ | refine Z35 ?_ | refine Z36 ?_ | refine Z37 ?_ | refine Z38 rfl ?_ | refine Z39 ?_ | refine Z40 ?_ | refine Z41 ?_) | (refine Z42 ?_; first | refine Z43 ?_ | refine Z44 ?_ | refine Z45 ?_ | refine Z46 ?_ | refine Z47 ?_ | refine Z48 ?_ | refine Z49 rfl (by decide) ?_ | refine Z50 rfl (by decide) ?_))
  refine WO_loadSB rfl kq22 rfl ?_
  repeat (first | (refine Z0 ?_; first | refine Z1 rfl ?_ | (refine Z2 ?_; first | refine Z3 rfl rfl (by decide) ?_ | refine Z4 rfl rfl (by decide) ?_ | refine Z5 rfl rfl ?_) | (refine Z6 ?_; first | refine Z7 rfl rfl ?_ | refine Z8 rfl rfl ?_) | (refine Z9 ?_; first | refine Z10 rfl (by assumption) (by rfl) ?_ | refine Z11 rfl (by assumption) ?_) | (refine Z12 ?_; first | refine Z13 (Z14 rfl (by decide) rfl) ?_ | refine Z13 (Z15 rfl (by decide) rfl) ?_) | (refine Z16 ?_; first | refine Z17 rfl ?_ | refine Z18 rfl ?_) | (refine Z19 ?_; first | refine Z20 rfl rfl (by omega) ?_ | refine Z21 rfl rfl (by omega) ?_ | refine Z22 rfl rfl (by omega) ?_ | refine Z23 rfl rfl (by omega) (by omega) ?_ | refine Z24 rfl rfl (by omega) (by omega) (by omega) ?_ | refine Z13 (Z25 rfl rfl) ?_ | refine Z13 (Z26 rfl rfl) ?_) | (refine Z27 ?_; refine Z13 (Z28 rfl (Z53 ⟨by omega, by omega⟩)) ?_) | (refine Z29 ?_; refine Z13 (Z30 rfl (by rfl) (by simp only [Z84, List.set_cons_zero, List.set_cons_succ]; rfl)) ?_) | refine Z31 ?_) | (refine Z32 ?_; first | refine Z33 ?_ | refine Z34 ?_ | refine Z35 ?_ | refine Z36 ?_ | refine Z37 ?_ | refine Z38 rfl ?_ | refine Z39 ?_ | refine Z40 ?_ | refine Z41 ?_) | (refine Z42 ?_; first | refine Z43 ?_ | refine Z44 ?_ | refine Z45 ?_ | refine Z46 ?_ | refine Z47 ?_ | refine Z48 ?_ | refine Z49 rfl (by decide) ?_ | refine Z50 rfl (by decide) ?_))
  refine WO_loadSB rfl kq9 rfl ?_
  repeat (first | (refine Z0 ?_; first | refine Z1 rfl ?_ | (refine Z2 ?_; first | refine Z3 rfl rfl (by decide) ?_ | refine Z4 rfl rfl (by decide) ?_ | refine Z5 rfl rfl ?_) | (refine Z6 ?_; first | refine Z7 rfl rfl ?_ | refine Z8 rfl rfl ?_) | (refine Z9 ?_; first | refine Z10 rfl (by assumption) (by rfl) ?_ | refine Z11 rfl (by assumption) ?_) | (refine Z12 ?_; first | refine Z13 (Z14 rfl (by decide) rfl) ?_ | refine Z13 (Z15 rfl (by decide) rfl) ?_) | (refine Z16 ?_; first | refine Z17 rfl ?_ | refine Z18 rfl ?_) | (refine Z19 ?_; first | refine Z20 rfl rfl (by omega) ?_ | refine Z21 rfl rfl (by omega) ?_ | refine Z22 rfl rfl (by omega) ?_ | refine Z23 rfl rfl (by omega) (by omega) ?_ | refine Z24 rfl rfl (by omega) (by omega) (by omega) ?_ | refine Z13 (Z25 rfl rfl) ?_ | refine Z13 (Z26 rfl rfl) ?_) | (refine Z27 ?_; refine Z13 (Z28 rfl (Z53 ⟨by omega, by omega⟩)) ?_) | (refine Z29 ?_; refine Z13 (Z30 rfl (by rfl) (by simp only [Z84, List.set_cons_zero, List.set_cons_succ]; rfl)) ?_) | refine Z31 ?_) | (refine Z32 ?_; first | refine Z33 ?_ | refine Z34 ?_ | refine Z35 ?_ | refine Z36 ?_ | refine Z37 ?_ | refine Z38 rfl ?_ | refine Z39 ?_ | refine Z40 ?_ | refine Z41 ?_) | (refine Z42 ?_; first | refine Z43 ?_ | refine Z44 ?_ | refine Z45 ?_ | refine Z46 ?_ | refine Z47 ?_ | refine Z48 ?_ | refine Z49 rfl (by decide) ?_ | refine Z50 rfl (by decide) ?_))
  obtain ⟨Af28, pf28⟩ := hr20.int
  obtain ⟨Bf28, qf28⟩ := hr20.sts
  obtain ⟨Cf28, rf28⟩ := hr7.int
  obtain ⟨Df28, sf28⟩ := hr7.sts
  refine WO_call rfl (eqProgram_ret _ _ _ _ _ _ _ _ Af28 Bf28 Cf28 Df28 _ pf28 qf28 rf28 sf28) ?_
  rintro _ wf28 ⟨rfl, ef28⟩
  rw [decide_eq_true ⟨rfl, rfl⟩]
  replace e0 := Ext.trans e0 ef28
  replace hB0 := hB0.ext ef28
  replace hc4 := hc4.ext ef28
  replace hr7 := hr7.ext ef28
  replace gr7 := gr7.ext ef28
  replace kq9 := kq9.ext ef28
  replace kq11 := kq11.ext ef28
  replace hc15 := hc15.ext ef28
  replace kq17 := kq17.ext ef28
  replace hr20 := hr20.ext ef28
  replace gr20 := gr20.ext ef28
  replace kq22 := kq22.ext ef28
  replace kq24 := kq24.ext ef28
  have z29 := Ext.size_le ef28
  repeat (first | (refine Z0 ?_; first | refine Z1 rfl ?_ | (refine Z2 ?_; first | refine Z3 rfl rfl (by decide) ?_ | refine Z4 rfl rfl (by decide) ?_ | refine Z5 rfl rfl ?_) | (refine Z6 ?_; first | refine Z7 rfl rfl ?_ | refine Z8 rfl rfl ?_) | (refine Z9 ?_; first | refine Z10 rfl (by assumption) (by rfl) ?_ | refine Z11 rfl (by assumption) ?_) | (refine Z12 ?_; first | refine Z13 (Z14 rfl (by decide) rfl) ?_ | refine Z13 (Z15 rfl (by decide) rfl) ?_) | (refine Z16 ?_; first | refine Z17 rfl ?_ | refine Z18 rfl ?_) | (refine Z19 ?_; first | refine Z20 rfl rfl (by omega) ?_ | refine Z21 rfl rfl (by omega) ?_ | refine Z22 rfl rfl (by omega) ?_ | refine Z23 rfl rfl (by omega) (by omega) ?_ | refine Z24 rfl rfl (by omega) (by omega) (by omega) ?_ | refine Z13 (Z25 rfl rfl) ?_ | refine Z13 (Z26 rfl rfl) ?_) | (refine Z27 ?_; refine Z13 (Z28 rfl (Z53 ⟨by omega, by omega⟩)) ?_) | (refine Z29 ?_; refine Z13 (Z30 rfl (by rfl) (by simp only [Z84, List.set_cons_zero, List.set_cons_succ]; rfl)) ?_) | refine Z31 ?_) | (refine Z32 ?_; first | refine Z33 ?_ | refine Z34 ?_ | refine Z35 ?_ | refine Z36 ?_ | refine Z37 ?_ | refine Z38 rfl ?_ | refine Z39 ?_ | refine Z40 ?_ | refine Z41 ?_) | (refine Z42 ?_; first | refine Z43 ?_ | refine Z44 ?_ | refine Z45 ?_ | refine Z46 ?_ | refine Z47 ?_ | refine Z48 ?_ | refine Z49 rfl (by decide) ?_ | refine Z50 rfl (by decide) ?_))
  refine WO_loadSB rfl kq24 rfl ?_
  repeat (first | (refine Z0 ?_; first | refine Z1 rfl ?_ | (refine Z2 ?_; first | refine Z3 rfl rfl (by decide) ?_ | refine Z4 rfl rfl (by decide) ?_ | refine Z5 rfl rfl ?_) | (refine Z6 ?_; first | refine Z7 rfl rfl ?_ | refine Z8 rfl rfl ?_) | (refine Z9 ?_; first | refine Z10 rfl (by assumption) (by rfl) ?_ | refine Z11 rfl (by assumption) ?_) | (refine Z12 ?_; first | refine Z13 (Z14 rfl (by decide) rfl) ?_ | refine Z13 (Z15 rfl (by decide) rfl) ?_) | (refine Z16 ?_; first | refine Z17 rfl ?_ | refine Z18 rfl ?_) | (refine Z19 ?_; first | refine Z20 rfl rfl (by omega) ?_ | refine Z21 rfl rfl (by omega) ?_ | refine Z22 rfl rfl (by omega) ?_ | refine Z23 rfl rfl (by omega) (by omega) ?_ | refine Z24 rfl rfl (by omega) (by omega) (by omega) ?_ | refine Z13 (Z25 rfl rfl) ?_ | refine Z13 (Z26 rfl rfl) ?_) | (refine Z27 ?_; refine Z13 (Z28 rfl (Z53 ⟨by omega, by omega⟩)) ?_) | (refine Z29 ?_; refine Z13 (Z30 rfl (by rfl) (by simp only [Z84, List.set_cons_zero, List.set_cons_succ]; rfl)) ?_) | refine Z31 ?_) | (refine Z32 ?_; first | refine Z33 ?_ | refine Z34 ?_ | refine Z35 ?_ | refine Z36 ?_ | refine Z37 ?_ | refine Z38 rfl ?_ | refine Z39 ?_ | refine Z40 ?_ | refine Z41 ?_) | (refine Z42 ?_; first | refine Z43 ?_ | refine Z44 ?_ | refine Z45 ?_ | refine Z46 ?_ | refine Z47 ?_ | refine Z48 ?_ | refine Z49 rfl (by decide) ?_ | refine Z50 rfl (by decide) ?_))
  refine WO_loadSB rfl kq11 rfl ?_
  repeat (first | (refine Z0 ?_; first | refine Z1 rfl ?_ | (refine Z2 ?_; first | refine Z3 rfl rfl (by decide) ?_ | refine Z4 rfl rfl (by decide) ?_ | refine Z5 rfl rfl ?_) | (refine Z6 ?_; first | refine Z7 rfl rfl ?_ | refine Z8 rfl rfl ?_) | (refine Z9 ?_; first | refine Z10 rfl (by assumption) (by rfl) ?_ | refine Z11 rfl (by assumption) ?_) | (refine Z12 ?_; first | refine Z13 (Z14 rfl (by decide) rfl) ?_ | refine Z13 (Z15 rfl (by decide) rfl) ?_) | (refine Z16 ?_; first | refine Z17 rfl ?_ | refine Z18 rfl ?_) | (refine Z19 ?_; first | refine Z20 rfl rfl (by omega) ?_ | refine Z21 rfl rfl (by omega) ?_ | refine Z22 rfl rfl (by omega) ?_ | refine Z23 rfl rfl (by omega) (by omega) ?_ | refine Z24 rfl rfl (by omega) (by omega) (by omega) ?_ | refine Z13 (Z25 rfl rfl) ?_ | refine Z13 (Z26 rfl rfl) ?_) | (refine Z27 ?_; refine Z13 (Z28 rfl (Z53 ⟨by omega, by omega⟩)) ?_) | (refine Z29 ?_; refine Z13 (Z30 rfl (by rfl) (by simp only [Z84, List.set_cons_zero, List.set_cons_succ]; rfl)) ?_) | refine Z31 ?_) | (refine Z32 ?_; first | refine Z33 ?_ | refine Z34 ?_ | refine Z35 ?_ | refine Z36 ?_ | refine Z37 ?_ | refine Z38 rfl ?_ | refine Z39 ?_ | refine Z40 ?_ | refine Z41 ?_) | (refine Z42 ?_; first | refine Z43 ?_ | refine Z44 ?_ | refine Z45 ?_ | refine Z46 ?_ | refine Z47 ?_ | refine Z48 ?_ | refine Z49 rfl (by decide) ?_ | refine Z50 rfl (by decide) ?_))
  obtain ⟨Af30, pf30⟩ := gr20.int
  obtain ⟨Bf30, qf30⟩ := gr20.sts
  obtain ⟨Cf30, rf30⟩ := gr7.int
  obtain ⟨Df30, sf30⟩ := gr7.sts
  refine WO_call rfl (eqProgram_ret _ _ _ _ _ _ _ _ Af30 Bf30 Cf30 Df30 _ pf30 qf30 rf30 sf30) ?_
  rintro _ wf30 ⟨rfl, ef30⟩
  rw [decide_eq_true ⟨rfl, rfl⟩]
  replace e0 := Ext.trans e0 ef30
  replace hB0 := hB0.ext ef30
  replace hc4 := hc4.ext ef30
  replace hr7 := hr7.ext ef30
  replace gr7 := gr7.ext ef30
  replace kq9 := kq9.ext ef30
  replace kq11 := kq11.ext ef30
  replace hc15 := hc15.ext ef30
  replace kq17 := kq17.ext ef30
  replace hr20 := hr20.ext ef30
  replace gr20 := gr20.ext ef30
  replace kq22 := kq22.ext ef30
  replace kq24 := kq24.ext ef30
  have z31 := Ext.size_le ef30
  repeat' (first | (refine Z0 ?_; first | refine Z1 rfl ?_ | (refine Z2 ?_; first | refine Z3 rfl rfl (by decide) ?_ | refine Z4 rfl rfl (by decide) ?_ | refine Z5 rfl rfl ?_ | ((refine Z51 rfl rfl (fun c' hc' => ?_)); cases c' <;> (try simp only [decide_eq_true_eq, decide_eq_false_iff_not, beq_iff_eq, beq_eq_false_iff_ne, bne_iff_ne, bne_eq_false_iff_eq, ne_eq, gt_iff_lt, ge_iff_le, Int.not_lt, Int.not_le, Bool.not_eq_true', Bool.not_eq_false', Bool.not_true, Bool.not_false, reduceCtorEq, Decidable.not_not, not_true_eq_false, Bool.true_eq_false, Bool.false_eq_true] at hc') <;> (try (exfalso; omega)))) | (refine Z6 ?_; first | refine Z7 rfl rfl ?_ | refine Z8 rfl rfl ?_) | (refine Z9 ?_; first | refine Z10 rfl (by assumption) (by rfl) ?_ | refine Z11 rfl (by assumption) ?_) | (refine Z12 ?_; first | refine Z13 (Z14 rfl (by decide) rfl) ?_ | refine Z13 (Z15 rfl (by decide) rfl) ?_) | (refine Z16 ?_; first | refine Z17 rfl ?_ | refine Z18 rfl ?_) | (refine Z19 ?_; first | refine Z20 rfl rfl (by omega) ?_ | refine Z21 rfl rfl (by omega) ?_ | refine Z22 rfl rfl (by omega) ?_ | refine Z23 rfl rfl (by omega) (by omega) ?_ | refine Z24 rfl rfl (by omega) (by omega) (by omega) ?_ | refine Z13 (Z25 rfl rfl) ?_ | refine Z13 (Z26 rfl rfl) ?_) | (refine Z27 ?_; refine Z13 (Z28 rfl (Z53 ⟨by omega, by omega⟩)) ?_) | (refine Z29 ?_; refine Z13 (Z30 rfl (by rfl) (by simp only [Z84, List.set_cons_zero, List.set_cons_succ]; rfl)) ?_) | refine Z31 ?_) | (refine Z32 ?_; first | refine Z33 ?_ | refine Z34 ?_ | refine Z35 ?_ | refine Z36 ?_ | refine Z37 ?_ | refine Z38 rfl ?_ | refine Z39 ?_ | refine Z40 ?_ | refine Z41 ?_) | (refine Z42 ?_; first | refine Z43 ?_ | refine Z44 ?_ | refine Z45 ?_ | refine Z46 ?_ | refine Z47 ?_ | refine Z48 ?_ | refine Z49 rfl (by decide) ?_ | refine Z50 rfl (by decide) ?_ | ((refine Z52 rfl (fun hc' => ?_) (fun hc' => ?_)) <;> (try simp only [decide_eq_true_eq, decide_eq_false_iff_not, beq_iff_eq, beq_eq_false_iff_ne, bne_iff_ne, bne_eq_false_iff_eq, ne_eq, gt_iff_lt, ge_iff_le, Int.not_lt, Int.not_le, Bool.not_eq_true', Bool.not_eq_false', Bool.not_true, Bool.not_false, reduceCtorEq, Decidable.not_not, not_true_eq_false, Bool.true_eq_false, Bool.false_eq_true] at hc') <;> (try (exfalso; omega)))))
  repeat (first | (refine Z0 ?_; first | refine Z1 rfl ?_ | (refine Z2 ?_; first | refine Z3 rfl rfl (by decide) ?_ | refine Z4 rfl rfl (by decide) ?_ | refine Z5 rfl rfl ?_) | (refine Z6 ?_; first | refine Z7 rfl rfl ?_ | refine Z8 rfl rfl ?_) | (refine Z9 ?_; first | refine Z10 rfl (by assumption) (by rfl) ?_ | refine Z11 rfl (by assumption) ?_) | (refine Z12 ?_; first | refine Z13 (Z14 rfl (by decide) rfl) ?_ | refine Z13 (Z15 rfl (by decide) rfl) ?_) | (refine Z16 ?_; first | refine Z17 rfl ?_ | refine Z18 rfl ?_) | (refine Z19 ?_; first | refine Z20 rfl rfl (by omega) ?_ | refine Z21 rfl rfl (by omega) ?_ | refine Z22 rfl rfl (by omega) ?_ | refine Z23 rfl rfl (by omega) (by omega) ?_ | refine Z24 rfl rfl (by omega) (by omega) (by omega) ?_ | refine Z13 (Z25 rfl rfl) ?_ | refine Z13 (Z26 rfl rfl) ?_) | (refine Z27 ?_; refine Z13 (Z28 rfl (Z53 ⟨by omega, by omega⟩)) ?_) | (refine Z29 ?_; refine Z13 (Z30 rfl (by rfl) (by simp only [Z84, List.set_cons_zero, List.set_cons_succ]; rfl)) ?_) | refine Z31 ?_) | (refine Z32 ?_; first | refine Z33 ?_ | refine Z34 ?_ | refine Z35 ?_ | refine Z36 ?_ | refine Z37 ?_ | refine Z38 rfl ?_ | refine Z39 ?_ | refine Z40 ?_ | refine Z41 ?_) | (refine Z42 ?_; first | refine Z43 ?_ | refine Z44 ?_ | refine Z45 ?_ | refine Z46 ?_ | refine Z47 ?_ | refine Z48 ?_ | refine Z49 rfl (by decide) ?_ | refine Z50 rfl (by decide) ?_))
  refine W_heldX [(1, .int .i64 a1), (2, .pointer (some ⟨w.heap.size, 0, none⟩)), (6, .pointer (some ⟨wr7.heap.size, 0, none⟩)), (7, .pointer (some ⟨wq9.heap.size, 0, none⟩)), (8, .bool (decide (splOk tl0 l0 a1))), (9, .pointer (some ⟨wc15.heap.size, 0, none⟩)), (10, .pointer (some ⟨wr20.heap.size, 0, none⟩)), (11, .pointer (some ⟨wq22.heap.size, 0, none⟩)), (12, .bool (decide (splOk tl0 l0 a1))), (60, .bool false)] (by kernel_rfl) (fun wsd32 esd32 hSd32 => ?_) (fun wtd32 etd32 => ?_)
  · refine Z82 0 rfl (by kernel_rfl) (by kernel_rfl) (by kernel_rfl) (by assumption) (fun w' hw' => q_loadS (cs := [tc15, bc15]) rfl rfl (fun j u hu => by rw [Nat.zero_add]; exact ((kq17.ext esd32).ext hw'.ext).cell hu)) ?_
    refine Z82 1 rfl (by kernel_rfl) (by kernel_rfl) (by kernel_rfl) (by assumption) (fun w' hw' => q_loadS (cs := [tv0, bv0]) rfl rfl (fun j u hu => by rw [Nat.zero_add]; exact ((hB0.ext esd32).ext hw'.ext).cell hu)) ?_
    refine WX_call 2 rfl (by kernel_rfl) rfl (toProgram_ret tv0 bv0 tl0 l0 Ft0 Fl0 _ (ht0.ext (e0.trans esd32)) (hl0.ext (e0.trans esd32)) (by omega)) ?_
    rintro _ wc33 ⟨⟨tc33, bc33, rfl, hc33⟩, ec33⟩
    have S2 := Ext.chg ec33 []
    refine ⟨S2, ?_⟩
    obtain ⟨Ad32, pd32⟩ := ((hc15.ext esd32).ext ec33).int
    obtain ⟨Bd32, qd32⟩ := ((hc15.ext esd32).ext ec33).sts
    obtain ⟨Cd32, rd32⟩ := hc33.int
    obtain ⟨Dd32, sd32⟩ := hc33.sts
    refine WX_call 3 rfl (by kernel_rfl) rfl (eqProgram_ret _ _ _ _ _ _ _ _ Ad32 Bd32 Cd32 Dd32 _ pd32 qd32 rd32 sd32) ?_
    rintro _ wd32 ⟨rfl, ed32⟩
    rw [decide_eq_true (p := tl0 = tl0 ∧ l0 = l0) ⟨rfl, rfl⟩]
    have S3 := Ext.chg (Ext.trans ec33 ed32) []
    refine ⟨S3, ?_⟩
    refine Z82 4 rfl (by kernel_rfl) (by kernel_rfl) (by kernel_rfl) (by assumption) (fun w' hw' => Z56 rfl) ?_
    exact WH_done (by kernel_rfl) (by repeat (first | exact True.intro | refine And.intro rfl ?_)) (esd32.trans (ec33.trans ed32))
  replace e0 := Ext.trans e0 etd32
  replace hB0 := hB0.ext etd32
  replace hc4 := hc4.ext etd32
  replace hr7 := hr7.ext etd32
  replace gr7 := gr7.ext etd32
  replace kq9 := kq9.ext etd32
  replace kq11 := kq11.ext etd32
  replace hc15 := hc15.ext etd32
  replace kq17 := kq17.ext etd32
  replace hr20 := hr20.ext etd32
  replace gr20 := gr20.ext etd32
  replace kq22 := kq22.ext etd32
  replace kq24 := kq24.ext etd32
  have z34 := Ext.size_le etd32
  repeat (first | (refine Z0 ?_; first | refine Z1 rfl ?_ | (refine Z2 ?_; first | refine Z3 rfl rfl (by decide) ?_ | refine Z4 rfl rfl (by decide) ?_ | refine Z5 rfl rfl ?_) | (refine Z6 ?_; first | refine Z7 rfl rfl ?_ | refine Z8 rfl rfl ?_) | (refine Z9 ?_; first | refine Z10 rfl (by assumption) (by rfl) ?_ | refine Z11 rfl (by assumption) ?_) | (refine Z12 ?_; first | refine Z13 (Z14 rfl (by decide) rfl) ?_ | refine Z13 (Z15 rfl (by decide) rfl) ?_) | (refine Z16 ?_; first | refine Z17 rfl ?_ | refine Z18 rfl ?_) | (refine Z19 ?_; first | refine Z20 rfl rfl (by omega) ?_ | refine Z21 rfl rfl (by omega) ?_ | refine Z22 rfl rfl (by omega) ?_ | refine Z23 rfl rfl (by omega) (by omega) ?_ | refine Z24 rfl rfl (by omega) (by omega) (by omega) ?_ | refine Z13 (Z25 rfl rfl) ?_ | refine Z13 (Z26 rfl rfl) ?_) | (refine Z27 ?_; refine Z13 (Z28 rfl (Z53 ⟨by omega, by omega⟩)) ?_) | (refine Z29 ?_; refine Z13 (Z30 rfl (by rfl) (by simp only [Z84, List.set_cons_zero, List.set_cons_succ]; rfl)) ?_) | refine Z31 ?_) | (refine Z32 ?_; first | refine Z33 ?_ | refine Z34 ?_ | refine Z35 ?_ | refine Z36 ?_ | refine Z37 ?_ | refine Z38 rfl ?_ | refine Z39 ?_ | refine Z40 ?_ | refine Z41 ?_) | (refine Z42 ?_; first | refine Z43 ?_ | refine Z44 ?_ | refine Z45 ?_ | refine Z46 ?_ | refine Z47 ?_ | refine Z48 ?_ | refine Z49 rfl (by decide) ?_ | refine Z50 rfl (by decide) ?_))
  refine WO_loadSB rfl kq17 rfl ?_
  repeat (first | (refine Z0 ?_; first | refine Z1 rfl ?_ | (refine Z2 ?_; first | refine Z3 rfl rfl (by decide) ?_ | refine Z4 rfl rfl (by decide) ?_ | refine Z5 rfl rfl ?_) | (refine Z6 ?_; first | refine Z7 rfl rfl ?_ | refine Z8 rfl rfl ?_) | (refine Z9 ?_; first | refine Z10 rfl (by assumption) (by rfl) ?_ | refine Z11 rfl (by assumption) ?_) | (refine Z12 ?_; first | refine Z13 (Z14 rfl (by decide) rfl) ?_ | refine Z13 (Z15 rfl (by decide) rfl) ?_) | (refine Z16 ?_; first | refine Z17 rfl ?_ | refine Z18 rfl ?_) | (refine Z19 ?_; first | refine Z20 rfl rfl (by omega) ?_ | refine Z21 rfl rfl (by omega) ?_ | refine Z22 rfl rfl (by omega) ?_ | refine Z23 rfl rfl (by omega) (by omega) ?_ | refine Z24 rfl rfl (by omega) (by omega) (by omega) ?_ | refine Z13 (Z25 rfl rfl) ?_ | refine Z13 (Z26 rfl rfl) ?_) | (refine Z27 ?_; refine Z13 (Z28 rfl (Z53 ⟨by omega, by omega⟩)) ?_) | (refine Z29 ?_; refine Z13 (Z30 rfl (by rfl) (by simp only [Z84, List.set_cons_zero, List.set_cons_succ]; rfl)) ?_) | refine Z31 ?_) | (refine Z32 ?_; first | refine Z33 ?_ | refine Z34 ?_ | refine Z35 ?_ | refine Z36 ?_ | refine Z37 ?_ | refine Z38 rfl ?_ | refine Z39 ?_ | refine Z40 ?_ | refine Z41 ?_) | (refine Z42 ?_; first | refine Z43 ?_ | refine Z44 ?_ | refine Z45 ?_ | refine Z46 ?_ | refine Z47 ?_ | refine Z48 ?_ | refine Z49 rfl (by decide) ?_ | refine Z50 rfl (by decide) ?_))
  refine WO_call rfl (markProgram_ret _ _ tl0 l0 _ _ ((1 : Int)) _ hc15 (by omega) (by omega)) ?_
  rintro _ wm35 ⟨rfl, _, wbm35, em35, cm35⟩
  replace e0 := Ext.trans e0 em35
  replace hB0 := hB0.ext em35
  replace hc4 := hc4.ext em35
  replace hr7 := hr7.ext em35
  replace gr7 := gr7.ext em35
  replace kq9 := kq9.ext em35
  replace kq11 := kq11.ext em35
  replace kq17 := kq17.ext em35
  replace hr20 := hr20.ext em35
  replace gr20 := gr20.ext em35
  replace kq22 := kq22.ext em35
  replace kq24 := kq24.ext em35
  have z36 := Ext.size_le em35
  replace e0 := e0.chgI cm35 (by omega)
  replace hB0 := hB0.chgI cm35 (by omega)
  replace hc4 := hc4.chgI cm35 (by omega)
  replace hr7 := hr7.chgI cm35 (by omega)
  replace gr7 := gr7.chgI cm35 (by omega)
  replace kq9 := kq9.chgI cm35 (by omega)
  replace kq11 := kq11.chgI cm35 (by omega)
  replace kq17 := kq17.chgI cm35 (by omega)
  replace hr20 := hr20.chgI cm35 (by omega)
  replace gr20 := gr20.chgI cm35 (by omega)
  replace kq22 := kq22.chgI cm35 (by omega)
  replace kq24 := kq24.chgI cm35 (by omega)
  have z37 := ChgI.size cm35
  repeat' (first | (refine Z0 ?_; first | refine Z1 rfl ?_ | (refine Z2 ?_; first | refine Z3 rfl rfl (by decide) ?_ | refine Z4 rfl rfl (by decide) ?_ | refine Z5 rfl rfl ?_ | ((refine Z51 rfl rfl (fun c' hc' => ?_)); cases c' <;> (try simp only [decide_eq_true_eq, decide_eq_false_iff_not, beq_iff_eq, beq_eq_false_iff_ne, bne_iff_ne, bne_eq_false_iff_eq, ne_eq, gt_iff_lt, ge_iff_le, Int.not_lt, Int.not_le, Bool.not_eq_true', Bool.not_eq_false', Bool.not_true, Bool.not_false, reduceCtorEq, Decidable.not_not, not_true_eq_false, Bool.true_eq_false, Bool.false_eq_true] at hc') <;> (try (exfalso; omega)))) | (refine Z6 ?_; first | refine Z7 rfl rfl ?_ | refine Z8 rfl rfl ?_) | (refine Z9 ?_; first | refine Z10 rfl (by assumption) (by rfl) ?_ | refine Z11 rfl (by assumption) ?_) | (refine Z12 ?_; first | refine Z13 (Z14 rfl (by decide) rfl) ?_ | refine Z13 (Z15 rfl (by decide) rfl) ?_) | (refine Z16 ?_; first | refine Z17 rfl ?_ | refine Z18 rfl ?_) | (refine Z19 ?_; first | refine Z20 rfl rfl (by omega) ?_ | refine Z21 rfl rfl (by omega) ?_ | refine Z22 rfl rfl (by omega) ?_ | refine Z23 rfl rfl (by omega) (by omega) ?_ | refine Z24 rfl rfl (by omega) (by omega) (by omega) ?_ | refine Z13 (Z25 rfl rfl) ?_ | refine Z13 (Z26 rfl rfl) ?_) | (refine Z27 ?_; refine Z13 (Z28 rfl (Z53 ⟨by omega, by omega⟩)) ?_) | (refine Z29 ?_; refine Z13 (Z30 rfl (by rfl) (by simp only [Z84, List.set_cons_zero, List.set_cons_succ]; rfl)) ?_) | refine Z31 ?_) | (refine Z32 ?_; first | refine Z33 ?_ | refine Z34 ?_ | refine Z35 ?_ | refine Z36 ?_ | refine Z37 ?_ | refine Z38 rfl ?_ | refine Z39 ?_ | refine Z40 ?_ | refine Z41 ?_) | (refine Z42 ?_; first | refine Z43 ?_ | refine Z44 ?_ | refine Z45 ?_ | refine Z46 ?_ | refine Z47 ?_ | refine Z48 ?_ | refine Z49 rfl (by decide) ?_ | refine Z50 rfl (by decide) ?_ | ((refine Z52 rfl (fun hc' => ?_) (fun hc' => ?_)) <;> (try simp only [decide_eq_true_eq, decide_eq_false_iff_not, beq_iff_eq, beq_eq_false_iff_ne, bne_iff_ne, bne_eq_false_iff_eq, ne_eq, gt_iff_lt, ge_iff_le, Int.not_lt, Int.not_le, Bool.not_eq_true', Bool.not_eq_false', Bool.not_true, Bool.not_false, reduceCtorEq, Decidable.not_not, not_true_eq_false, Bool.true_eq_false, Bool.false_eq_true] at hc') <;> (try (exfalso; omega)))))
  repeat (first | (refine Z0 ?_; first | refine Z1 rfl ?_ | (refine Z2 ?_; first | refine Z3 rfl rfl (by decide) ?_ | refine Z4 rfl rfl (by decide) ?_ | refine Z5 rfl rfl ?_) | (refine Z6 ?_; first | refine Z7 rfl rfl ?_ | refine Z8 rfl rfl ?_) | (refine Z9 ?_; first | refine Z10 rfl (by assumption) (by rfl) ?_ | refine Z11 rfl (by assumption) ?_) | (refine Z12 ?_; first | refine Z13 (Z14 rfl (by decide) rfl) ?_ | refine Z13 (Z15 rfl (by decide) rfl) ?_) | (refine Z16 ?_; first | refine Z17 rfl ?_ | refine Z18 rfl ?_) | (refine Z19 ?_; first | refine Z20 rfl rfl (by omega) ?_ | refine Z21 rfl rfl (by omega) ?_ | refine Z22 rfl rfl (by omega) ?_ | refine Z23 rfl rfl (by omega) (by omega) ?_ | refine Z24 rfl rfl (by omega) (by omega) (by omega) ?_ | refine Z13 (Z25 rfl rfl) ?_ | refine Z13 (Z26 rfl rfl) ?_) | (refine Z27 ?_; refine Z13 (Z28 rfl (Z53 ⟨by omega, by omega⟩)) ?_) | (refine Z29 ?_; refine Z13 (Z30 rfl (by rfl) (by simp only [Z84, List.set_cons_zero, List.set_cons_succ]; rfl)) ?_) | refine Z31 ?_) | (refine Z32 ?_; first | refine Z33 ?_ | refine Z34 ?_ | refine Z35 ?_ | refine Z36 ?_ | refine Z37 ?_ | refine Z38 rfl ?_ | refine Z39 ?_ | refine Z40 ?_ | refine Z41 ?_) | (refine Z42 ?_; first | refine Z43 ?_ | refine Z44 ?_ | refine Z45 ?_ | refine Z46 ?_ | refine Z47 ?_ | refine Z48 ?_ | refine Z49 rfl (by decide) ?_ | refine Z50 rfl (by decide) ?_))
  refine WO_loadSB rfl kq22 rfl ?_
  repeat (first | (refine Z0 ?_; first | refine Z1 rfl ?_ | (refine Z2 ?_; first | refine Z3 rfl rfl (by decide) ?_ | refine Z4 rfl rfl (by decide) ?_ | refine Z5 rfl rfl ?_) | (refine Z6 ?_; first | refine Z7 rfl rfl ?_ | refine Z8 rfl rfl ?_) | (refine Z9 ?_; first | refine Z10 rfl (by assumption) (by rfl) ?_ | refine Z11 rfl (by assumption) ?_) | (refine Z12 ?_; first | refine Z13 (Z14 rfl (by decide) rfl) ?_ | refine Z13 (Z15 rfl (by decide) rfl) ?_) | (refine Z16 ?_; first | refine Z17 rfl ?_ | refine Z18 rfl ?_) | (refine Z19 ?_; first | refine Z20 rfl rfl (by omega) ?_ | refine Z21 rfl rfl (by omega) ?_ | refine Z22 rfl rfl (by omega) ?_ | refine Z23 rfl rfl (by omega) (by omega) ?_ | refine Z24 rfl rfl (by omega) (by omega) (by omega) ?_ | refine Z13 (Z25 rfl rfl) ?_ | refine Z13 (Z26 rfl rfl) ?_) | (refine Z27 ?_; refine Z13 (Z28 rfl (Z53 ⟨by omega, by omega⟩)) ?_) | (refine Z29 ?_; refine Z13 (Z30 rfl (by rfl) (by simp only [Z84, List.set_cons_zero, List.set_cons_succ]; rfl)) ?_) | refine Z31 ?_) | (refine Z32 ?_; first | refine Z33 ?_ | refine Z34 ?_ | refine Z35 ?_ | refine Z36 ?_ | refine Z37 ?_ | refine Z38 rfl ?_ | refine Z39 ?_ | refine Z40 ?_ | refine Z41 ?_) | (refine Z42 ?_; first | refine Z43 ?_ | refine Z44 ?_ | refine Z45 ?_ | refine Z46 ?_ | refine Z47 ?_ | refine Z48 ?_ | refine Z49 rfl (by decide) ?_ | refine Z50 rfl (by decide) ?_))
  refine WO_loadSB rfl kq9 rfl ?_
  repeat (first | (refine Z0 ?_; first | refine Z1 rfl ?_ | (refine Z2 ?_; first | refine Z3 rfl rfl (by decide) ?_ | refine Z4 rfl rfl (by decide) ?_ | refine Z5 rfl rfl ?_) | (refine Z6 ?_; first | refine Z7 rfl rfl ?_ | refine Z8 rfl rfl ?_) | (refine Z9 ?_; first | refine Z10 rfl (by assumption) (by rfl) ?_ | refine Z11 rfl (by assumption) ?_) | (refine Z12 ?_; first | refine Z13 (Z14 rfl (by decide) rfl) ?_ | refine Z13 (Z15 rfl (by decide) rfl) ?_) | (refine Z16 ?_; first | refine Z17 rfl ?_ | refine Z18 rfl ?_) | (refine Z19 ?_; first | refine Z20 rfl rfl (by omega) ?_ | refine Z21 rfl rfl (by omega) ?_ | refine Z22 rfl rfl (by omega) ?_ | refine Z23 rfl rfl (by omega) (by omega) ?_ | refine Z24 rfl rfl (by omega) (by omega) (by omega) ?_ | refine Z13 (Z25 rfl rfl) ?_ | refine Z13 (Z26 rfl rfl) ?_) | (refine Z27 ?_; refine Z13 (Z28 rfl (Z53 ⟨by omega, by omega⟩)) ?_) | (refine Z29 ?_; refine Z13 (Z30 rfl (by rfl) (by simp only [Z84, List.set_cons_zero, List.set_cons_succ]; rfl)) ?_) | refine Z31 ?_) | (refine Z32 ?_; first | refine Z33 ?_ | refine Z34 ?_ | refine Z35 ?_ | refine Z36 ?_ | refine Z37 ?_ | refine Z38 rfl ?_ | refine Z39 ?_ | refine Z40 ?_ | refine Z41 ?_) | (refine Z42 ?_; first | refine Z43 ?_ | refine Z44 ?_ | refine Z45 ?_ | refine Z46 ?_ | refine Z47 ?_ | refine Z48 ?_ | refine Z49 rfl (by decide) ?_ | refine Z50 rfl (by decide) ?_))
  obtain ⟨Af38, pf38⟩ := hr20.int
  obtain ⟨Bf38, qf38⟩ := hr20.sts
  obtain ⟨Cf38, rf38⟩ := hr7.int
  obtain ⟨Df38, sf38⟩ := hr7.sts
  refine WO_call rfl (eqProgram_ret _ _ _ _ _ _ _ _ Af38 Bf38 Cf38 Df38 _ pf38 qf38 rf38 sf38) ?_
  rintro _ wf38 ⟨rfl, ef38⟩
  rw [decide_eq_true ⟨rfl, rfl⟩]
  replace e0 := Ext.trans e0 ef38
  replace hB0 := hB0.ext ef38
  replace hc4 := hc4.ext ef38
  replace hr7 := hr7.ext ef38
  replace gr7 := gr7.ext ef38
  replace kq9 := kq9.ext ef38
  replace kq11 := kq11.ext ef38
  replace kq17 := kq17.ext ef38
  replace hr20 := hr20.ext ef38
  replace gr20 := gr20.ext ef38
  replace kq22 := kq22.ext ef38
  replace kq24 := kq24.ext ef38
  have z39 := Ext.size_le ef38
  repeat (first | (refine Z0 ?_; first | refine Z1 rfl ?_ | (refine Z2 ?_; first | refine Z3 rfl rfl (by decide) ?_ | refine Z4 rfl rfl (by decide) ?_ | refine Z5 rfl rfl ?_) | (refine Z6 ?_; first | refine Z7 rfl rfl ?_ | refine Z8 rfl rfl ?_) | (refine Z9 ?_; first | refine Z10 rfl (by assumption) (by rfl) ?_ | refine Z11 rfl (by assumption) ?_) | (refine Z12 ?_; first | refine Z13 (Z14 rfl (by decide) rfl) ?_ | refine Z13 (Z15 rfl (by decide) rfl) ?_) | (refine Z16 ?_; first | refine Z17 rfl ?_ | refine Z18 rfl ?_) | (refine Z19 ?_; first | refine Z20 rfl rfl (by omega) ?_ | refine Z21 rfl rfl (by omega) ?_ | refine Z22 rfl rfl (by omega) ?_ | refine Z23 rfl rfl (by omega) (by omega) ?_ | refine Z24 rfl rfl (by omega) (by omega) (by omega) ?_ | refine Z13 (Z25 rfl rfl) ?_ | refine Z13 (Z26 rfl rfl) ?_) | (refine Z27 ?_; refine Z13 (Z28 rfl (Z53 ⟨by omega, by omega⟩)) ?_) | (refine Z29 ?_; refine Z13 (Z30 rfl (by rfl) (by simp only [Z84, List.set_cons_zero, List.set_cons_succ]; rfl)) ?_) | refine Z31 ?_) | (refine Z32 ?_; first | refine Z33 ?_ | refine Z34 ?_ | refine Z35 ?_ | refine Z36 ?_ | refine Z37 ?_ | refine Z38 rfl ?_ | refine Z39 ?_ | refine Z40 ?_ | refine Z41 ?_) | (refine Z42 ?_; first | refine Z43 ?_ | refine Z44 ?_ | refine Z45 ?_ | refine Z46 ?_ | refine Z47 ?_ | refine Z48 ?_ | refine Z49 rfl (by decide) ?_ | refine Z50 rfl (by decide) ?_))
  refine WO_loadSB rfl kq24 rfl ?_
  repeat (first | (refine Z0 ?_; first | refine Z1 rfl ?_ | (refine Z2 ?_; first | refine Z3 rfl rfl (by decide) ?_ | refine Z4 rfl rfl (by decide) ?_ | refine Z5 rfl rfl ?_) | (refine Z6 ?_; first | refine Z7 rfl rfl ?_ | refine Z8 rfl rfl ?_) | (refine Z9 ?_; first | refine Z10 rfl (by assumption) (by rfl) ?_ | refine Z11 rfl (by assumption) ?_) | (refine Z12 ?_; first | refine Z13 (Z14 rfl (by decide) rfl) ?_ | refine Z13 (Z15 rfl (by decide) rfl) ?_) | (refine Z16 ?_; first | refine Z17 rfl ?_ | refine Z18 rfl ?_) | (refine Z19 ?_; first | refine Z20 rfl rfl (by omega) ?_ | refine Z21 rfl rfl (by omega) ?_ | refine Z22 rfl rfl (by omega) ?_ | refine Z23 rfl rfl (by omega) (by omega) ?_ | refine Z24 rfl rfl (by omega) (by omega) (by omega) ?_ | refine Z13 (Z25 rfl rfl) ?_ | refine Z13 (Z26 rfl rfl) ?_) | (refine Z27 ?_; refine Z13 (Z28 rfl (Z53 ⟨by omega, by omega⟩)) ?_) | (refine Z29 ?_; refine Z13 (Z30 rfl (by rfl) (by simp only [Z84, List.set_cons_zero, List.set_cons_succ]; rfl)) ?_) | refine Z31 ?_) | (refine Z32 ?_; first | refine Z33 ?_ | refine Z34 ?_ | refine Z35 ?_ | refine Z36 ?_ | refine Z37 ?_ | refine Z38 rfl ?_ | refine Z39 ?_ | refine Z40 ?_ | refine Z41 ?_) | (refine Z42 ?_; first | refine Z43 ?_ | refine Z44 ?_ | refine Z45 ?_ | refine Z46 ?_ | refine Z47 ?_ | refine Z48 ?_ | refine Z49 rfl (by decide) ?_ | refine Z50 rfl (by decide) ?_))
  refine WO_loadSB rfl kq11 rfl ?_
  repeat (first | (refine Z0 ?_; first | refine Z1 rfl ?_ | (refine Z2 ?_; first | refine Z3 rfl rfl (by decide) ?_ | refine Z4 rfl rfl (by decide) ?_ | refine Z5 rfl rfl ?_) | (refine Z6 ?_; first | refine Z7 rfl rfl ?_ | refine Z8 rfl rfl ?_) | (refine Z9 ?_; first | refine Z10 rfl (by assumption) (by rfl) ?_ | refine Z11 rfl (by assumption) ?_) | (refine Z12 ?_; first | refine Z13 (Z14 rfl (by decide) rfl) ?_ | refine Z13 (Z15 rfl (by decide) rfl) ?_) | (refine Z16 ?_; first | refine Z17 rfl ?_ | refine Z18 rfl ?_) | (refine Z19 ?_; first | refine Z20 rfl rfl (by omega) ?_ | refine Z21 rfl rfl (by omega) ?_ | refine Z22 rfl rfl (by omega) ?_ | refine Z23 rfl rfl (by omega) (by omega) ?_ | refine Z24 rfl rfl (by omega) (by omega) (by omega) ?_ | refine Z13 (Z25 rfl rfl) ?_ | refine Z13 (Z26 rfl rfl) ?_) | (refine Z27 ?_; refine Z13 (Z28 rfl (Z53 ⟨by omega, by omega⟩)) ?_) | (refine Z29 ?_; refine Z13 (Z30 rfl (by rfl) (by simp only [Z84, List.set_cons_zero, List.set_cons_succ]; rfl)) ?_) | refine Z31 ?_) | (refine Z32 ?_; first | refine Z33 ?_ | refine Z34 ?_ | refine Z35 ?_ | refine Z36 ?_ | refine Z37 ?_ | refine Z38 rfl ?_ | refine Z39 ?_ | refine Z40 ?_ | refine Z41 ?_) | (refine Z42 ?_; first | refine Z43 ?_ | refine Z44 ?_ | refine Z45 ?_ | refine Z46 ?_ | refine Z47 ?_ | refine Z48 ?_ | refine Z49 rfl (by decide) ?_ | refine Z50 rfl (by decide) ?_))
  obtain ⟨Af40, pf40⟩ := gr20.int
  obtain ⟨Bf40, qf40⟩ := gr20.sts
  obtain ⟨Cf40, rf40⟩ := gr7.int
  obtain ⟨Df40, sf40⟩ := gr7.sts
  refine WO_call rfl (eqProgram_ret _ _ _ _ _ _ _ _ Af40 Bf40 Cf40 Df40 _ pf40 qf40 rf40 sf40) ?_
  rintro _ wf40 ⟨rfl, ef40⟩
  rw [decide_eq_true ⟨rfl, rfl⟩]
  replace e0 := Ext.trans e0 ef40
  replace hB0 := hB0.ext ef40
  replace hc4 := hc4.ext ef40
  replace hr7 := hr7.ext ef40
  replace gr7 := gr7.ext ef40
  replace kq9 := kq9.ext ef40
  replace kq11 := kq11.ext ef40
  replace kq17 := kq17.ext ef40
  replace hr20 := hr20.ext ef40
  replace gr20 := gr20.ext ef40
  replace kq22 := kq22.ext ef40
  replace kq24 := kq24.ext ef40
  have z41 := Ext.size_le ef40
  repeat' (first | (refine Z0 ?_; first | refine Z1 rfl ?_ | (refine Z2 ?_; first | refine Z3 rfl rfl (by decide) ?_ | refine Z4 rfl rfl (by decide) ?_ | refine Z5 rfl rfl ?_ | ((refine Z51 rfl rfl (fun c' hc' => ?_)); cases c' <;> (try simp only [decide_eq_true_eq, decide_eq_false_iff_not, beq_iff_eq, beq_eq_false_iff_ne, bne_iff_ne, bne_eq_false_iff_eq, ne_eq, gt_iff_lt, ge_iff_le, Int.not_lt, Int.not_le, Bool.not_eq_true', Bool.not_eq_false', Bool.not_true, Bool.not_false, reduceCtorEq, Decidable.not_not, not_true_eq_false, Bool.true_eq_false, Bool.false_eq_true] at hc') <;> (try (exfalso; omega)))) | (refine Z6 ?_; first | refine Z7 rfl rfl ?_ | refine Z8 rfl rfl ?_) | (refine Z9 ?_; first | refine Z10 rfl (by assumption) (by rfl) ?_ | refine Z11 rfl (by assumption) ?_) | (refine Z12 ?_; first | refine Z13 (Z14 rfl (by decide) rfl) ?_ | refine Z13 (Z15 rfl (by decide) rfl) ?_) | (refine Z16 ?_; first | refine Z17 rfl ?_ | refine Z18 rfl ?_) | (refine Z19 ?_; first | refine Z20 rfl rfl (by omega) ?_ | refine Z21 rfl rfl (by omega) ?_ | refine Z22 rfl rfl (by omega) ?_ | refine Z23 rfl rfl (by omega) (by omega) ?_ | refine Z24 rfl rfl (by omega) (by omega) (by omega) ?_ | refine Z13 (Z25 rfl rfl) ?_ | refine Z13 (Z26 rfl rfl) ?_) | (refine Z27 ?_; refine Z13 (Z28 rfl (Z53 ⟨by omega, by omega⟩)) ?_) | (refine Z29 ?_; refine Z13 (Z30 rfl (by rfl) (by simp only [Z84, List.set_cons_zero, List.set_cons_succ]; rfl)) ?_) | refine Z31 ?_) | (refine Z32 ?_; first | refine Z33 ?_ | refine Z34 ?_ | refine Z35 ?_ | refine Z36 ?_ | refine Z37 ?_ | refine Z38 rfl ?_ | refine Z39 ?_ | refine Z40 ?_ | refine Z41 ?_) | (refine Z42 ?_; first | refine Z43 ?_ | refine Z44 ?_ | refine Z45 ?_ | refine Z46 ?_ | refine Z47 ?_ | refine Z48 ?_ | refine Z49 rfl (by decide) ?_ | refine Z50 rfl (by decide) ?_ | ((refine Z52 rfl (fun hc' => ?_) (fun hc' => ?_)) <;> (try simp only [decide_eq_true_eq, decide_eq_false_iff_not, beq_iff_eq, beq_eq_false_iff_ne, bne_iff_ne, bne_eq_false_iff_eq, ne_eq, gt_iff_lt, ge_iff_le, Int.not_lt, Int.not_le, Bool.not_eq_true', Bool.not_eq_false', Bool.not_true, Bool.not_false, reduceCtorEq, Decidable.not_not, not_true_eq_false, Bool.true_eq_false, Bool.false_eq_true] at hc') <;> (try (exfalso; omega)))))
  repeat (first | (refine Z0 ?_; first | refine Z1 rfl ?_ | (refine Z2 ?_; first | refine Z3 rfl rfl (by decide) ?_ | refine Z4 rfl rfl (by decide) ?_ | refine Z5 rfl rfl ?_) | (refine Z6 ?_; first | refine Z7 rfl rfl ?_ | refine Z8 rfl rfl ?_) | (refine Z9 ?_; first | refine Z10 rfl (by assumption) (by rfl) ?_ | refine Z11 rfl (by assumption) ?_) | (refine Z12 ?_; first | refine Z13 (Z14 rfl (by decide) rfl) ?_ | refine Z13 (Z15 rfl (by decide) rfl) ?_) | (refine Z16 ?_; first | refine Z17 rfl ?_ | refine Z18 rfl ?_) | (refine Z19 ?_; first | refine Z20 rfl rfl (by omega) ?_ | refine Z21 rfl rfl (by omega) ?_ | refine Z22 rfl rfl (by omega) ?_ | refine Z23 rfl rfl (by omega) (by omega) ?_ | refine Z24 rfl rfl (by omega) (by omega) (by omega) ?_ | refine Z13 (Z25 rfl rfl) ?_ | refine Z13 (Z26 rfl rfl) ?_) | (refine Z27 ?_; refine Z13 (Z28 rfl (Z53 ⟨by omega, by omega⟩)) ?_) | (refine Z29 ?_; refine Z13 (Z30 rfl (by rfl) (by simp only [Z84, List.set_cons_zero, List.set_cons_succ]; rfl)) ?_) | refine Z31 ?_) | (refine Z32 ?_; first | refine Z33 ?_ | refine Z34 ?_ | refine Z35 ?_ | refine Z36 ?_ | refine Z37 ?_ | refine Z38 rfl ?_ | refine Z39 ?_ | refine Z40 ?_ | refine Z41 ?_) | (refine Z42 ?_; first | refine Z43 ?_ | refine Z44 ?_ | refine Z45 ?_ | refine Z46 ?_ | refine Z47 ?_ | refine Z48 ?_ | refine Z49 rfl (by decide) ?_ | refine Z50 rfl (by decide) ?_))
  refine WO_loadSB rfl kq22 rfl ?_
  repeat (first | (refine Z0 ?_; first | refine Z1 rfl ?_ | (refine Z2 ?_; first | refine Z3 rfl rfl (by decide) ?_ | refine Z4 rfl rfl (by decide) ?_ | refine Z5 rfl rfl ?_) | (refine Z6 ?_; first | refine Z7 rfl rfl ?_ | refine Z8 rfl rfl ?_) | (refine Z9 ?_; first | refine Z10 rfl (by assumption) (by rfl) ?_ | refine Z11 rfl (by assumption) ?_) | (refine Z12 ?_; first | refine Z13 (Z14 rfl (by decide) rfl) ?_ | refine Z13 (Z15 rfl (by decide) rfl) ?_) | (refine Z16 ?_; first | refine Z17 rfl ?_ | refine Z18 rfl ?_) | (refine Z19 ?_; first | refine Z20 rfl rfl (by omega) ?_ | refine Z21 rfl rfl (by omega) ?_ | refine Z22 rfl rfl (by omega) ?_ | refine Z23 rfl rfl (by omega) (by omega) ?_ | refine Z24 rfl rfl (by omega) (by omega) (by omega) ?_ | refine Z13 (Z25 rfl rfl) ?_ | refine Z13 (Z26 rfl rfl) ?_) | (refine Z27 ?_; refine Z13 (Z28 rfl (Z53 ⟨by omega, by omega⟩)) ?_) | (refine Z29 ?_; refine Z13 (Z30 rfl (by rfl) (by simp only [Z84, List.set_cons_zero, List.set_cons_succ]; rfl)) ?_) | refine Z31 ?_) | (refine Z32 ?_; first | refine Z33 ?_ | refine Z34 ?_ | refine Z35 ?_ | refine Z36 ?_ | refine Z37 ?_ | refine Z38 rfl ?_ | refine Z39 ?_ | refine Z40 ?_ | refine Z41 ?_) | (refine Z42 ?_; first | refine Z43 ?_ | refine Z44 ?_ | refine Z45 ?_ | refine Z46 ?_ | refine Z47 ?_ | refine Z48 ?_ | refine Z49 rfl (by decide) ?_ | refine Z50 rfl (by decide) ?_))
  refine WO_call rfl (markProgram_ret _ _ (splT tl0 l0 a1) (splA tl0 l0 a1) _ _ ((1 : Int)) _ hr20 (by omega) (by omega)) ?_
  rintro _ wm42 ⟨rfl, Hm42, wbm42, em42, cm42⟩
  replace e0 := Ext.trans e0 em42
  replace hB0 := hB0.ext em42
  replace hc4 := hc4.ext em42
  replace hr7 := hr7.ext em42
  replace gr7 := gr7.ext em42
  replace kq9 := kq9.ext em42
  replace kq11 := kq11.ext em42
  replace kq17 := kq17.ext em42
  replace gr20 := gr20.ext em42
  replace kq22 := kq22.ext em42
  replace kq24 := kq24.ext em42
  have z43 := Ext.size_le em42
  replace e0 := e0.chgI cm42 (by omega)
  replace hB0 := hB0.chgI cm42 (by omega)
  replace hc4 := hc4.chgI cm42 (by omega)
  replace hr7 := hr7.chgI cm42 (by omega)
  replace gr7 := gr7.chgI cm42 (by omega)
  replace kq9 := kq9.chgI cm42 (by omega)
  replace kq11 := kq11.chgI cm42 (by omega)
  replace kq17 := kq17.chgI cm42 (by omega)
  replace gr20 := gr20.chgI cm42 (by omega)
  replace kq22 := kq22.chgI cm42 (by omega)
  replace kq24 := kq24.chgI cm42 (by omega)
  have z44 := ChgI.size cm42
  repeat (first | (refine Z0 ?_; first | refine Z1 rfl ?_ | (refine Z2 ?_; first | refine Z3 rfl rfl (by decide) ?_ | refine Z4 rfl rfl (by decide) ?_ | refine Z5 rfl rfl ?_) | (refine Z6 ?_; first | refine Z7 rfl rfl ?_ | refine Z8 rfl rfl ?_) | (refine Z9 ?_; first | refine Z10 rfl (by assumption) (by rfl) ?_ | refine Z11 rfl (by assumption) ?_) | (refine Z12 ?_; first | refine Z13 (Z14 rfl (by decide) rfl) ?_ | refine Z13 (Z15 rfl (by decide) rfl) ?_) | (refine Z16 ?_; first | refine Z17 rfl ?_ | refine Z18 rfl ?_) | (refine Z19 ?_; first | refine Z20 rfl rfl (by omega) ?_ | refine Z21 rfl rfl (by omega) ?_ | refine Z22 rfl rfl (by omega) ?_ | refine Z23 rfl rfl (by omega) (by omega) ?_ | refine Z24 rfl rfl (by omega) (by omega) (by omega) ?_ | refine Z13 (Z25 rfl rfl) ?_ | refine Z13 (Z26 rfl rfl) ?_) | (refine Z27 ?_; refine Z13 (Z28 rfl (Z53 ⟨by omega, by omega⟩)) ?_) | (refine Z29 ?_; refine Z13 (Z30 rfl (by rfl) (by simp only [Z84, List.set_cons_zero, List.set_cons_succ]; rfl)) ?_) | refine Z31 ?_) | (refine Z32 ?_; first | refine Z33 ?_ | refine Z34 ?_ | refine Z35 ?_ | refine Z36 ?_ | refine Z37 ?_ | refine Z38 rfl ?_ | refine Z39 ?_ | refine Z40 ?_ | refine Z41 ?_) | (refine Z42 ?_; first | refine Z43 ?_ | refine Z44 ?_ | refine Z45 ?_ | refine Z46 ?_ | refine Z47 ?_ | refine Z48 ?_ | refine Z49 rfl (by decide) ?_ | refine Z50 rfl (by decide) ?_))
  refine WO_loadSB rfl kq24 rfl ?_
  repeat (first | (refine Z0 ?_; first | refine Z1 rfl ?_ | (refine Z2 ?_; first | refine Z3 rfl rfl (by decide) ?_ | refine Z4 rfl rfl (by decide) ?_ | refine Z5 rfl rfl ?_) | (refine Z6 ?_; first | refine Z7 rfl rfl ?_ | refine Z8 rfl rfl ?_) | (refine Z9 ?_; first | refine Z10 rfl (by assumption) (by rfl) ?_ | refine Z11 rfl (by assumption) ?_) | (refine Z12 ?_; first | refine Z13 (Z14 rfl (by decide) rfl) ?_ | refine Z13 (Z15 rfl (by decide) rfl) ?_) | (refine Z16 ?_; first | refine Z17 rfl ?_ | refine Z18 rfl ?_) | (refine Z19 ?_; first | refine Z20 rfl rfl (by omega) ?_ | refine Z21 rfl rfl (by omega) ?_ | refine Z22 rfl rfl (by omega) ?_ | refine Z23 rfl rfl (by omega) (by omega) ?_ | refine Z24 rfl rfl (by omega) (by omega) (by omega) ?_ | refine Z13 (Z25 rfl rfl) ?_ | refine Z13 (Z26 rfl rfl) ?_) | (refine Z27 ?_; refine Z13 (Z28 rfl (Z53 ⟨by omega, by omega⟩)) ?_) | (refine Z29 ?_; refine Z13 (Z30 rfl (by rfl) (by simp only [Z84, List.set_cons_zero, List.set_cons_succ]; rfl)) ?_) | refine Z31 ?_) | (refine Z32 ?_; first | refine Z33 ?_ | refine Z34 ?_ | refine Z35 ?_ | refine Z36 ?_ | refine Z37 ?_ | refine Z38 rfl ?_ | refine Z39 ?_ | refine Z40 ?_ | refine Z41 ?_) | (refine Z42 ?_; first | refine Z43 ?_ | refine Z44 ?_ | refine Z45 ?_ | refine Z46 ?_ | refine Z47 ?_ | refine Z48 ?_ | refine Z49 rfl (by decide) ?_ | refine Z50 rfl (by decide) ?_))
  refine WO_call rfl (markProgram_ret _ _ (splT tl0 l0 a1) (splB tl0 l0 a1) _ _ ((1 : Int) + (splT tl0 l0 a1).length + 4 * cntL (splA tl0 l0 a1)) _ gr20 (by omega) (by omega)) ?_
  rintro _ wm45 ⟨rfl, Hm45, wbm45, em45, cm45⟩
  replace e0 := Ext.trans e0 em45
  replace hB0 := hB0.ext em45
  replace hc4 := hc4.ext em45
  replace hr7 := hr7.ext em45
  replace gr7 := gr7.ext em45
  replace kq9 := kq9.ext em45
  replace kq11 := kq11.ext em45
  replace kq17 := kq17.ext em45
  replace kq22 := kq22.ext em45
  replace kq24 := kq24.ext em45
  replace Hm42 := Hm42.ext em45
  have z46 := Ext.size_le em45
  replace e0 := e0.chgI cm45 (by omega)
  replace hB0 := hB0.chgI cm45 (by omega)
  replace hc4 := hc4.chgI cm45 (by omega)
  replace hr7 := hr7.chgI cm45 (by omega)
  replace gr7 := gr7.chgI cm45 (by omega)
  replace kq9 := kq9.chgI cm45 (by omega)
  replace kq11 := kq11.chgI cm45 (by omega)
  replace kq17 := kq17.chgI cm45 (by omega)
  replace kq22 := kq22.chgI cm45 (by omega)
  replace kq24 := kq24.chgI cm45 (by omega)
  replace Hm42 := Hm42.chgI cm45 (by omega)
  have z47 := ChgI.size cm45
  repeat (first | (refine Z0 ?_; first | refine Z1 rfl ?_ | (refine Z2 ?_; first | refine Z3 rfl rfl (by decide) ?_ | refine Z4 rfl rfl (by decide) ?_ | refine Z5 rfl rfl ?_) | (refine Z6 ?_; first | refine Z7 rfl rfl ?_ | refine Z8 rfl rfl ?_) | (refine Z9 ?_; first | refine Z10 rfl (by assumption) (by rfl) ?_ | refine Z11 rfl (by assumption) ?_) | (refine Z12 ?_; first | refine Z13 (Z14 rfl (by decide) rfl) ?_ | refine Z13 (Z15 rfl (by decide) rfl) ?_) | (refine Z16 ?_; first | refine Z17 rfl ?_ | refine Z18 rfl ?_) | (refine Z19 ?_; first | refine Z20 rfl rfl (by omega) ?_ | refine Z21 rfl rfl (by omega) ?_ | refine Z22 rfl rfl (by omega) ?_ | refine Z23 rfl rfl (by omega) (by omega) ?_ | refine Z24 rfl rfl (by omega) (by omega) (by omega) ?_ | refine Z13 (Z25 rfl rfl) ?_ | refine Z13 (Z26 rfl rfl) ?_) | (refine Z27 ?_; refine Z13 (Z28 rfl (Z53 ⟨by omega, by omega⟩)) ?_) | (refine Z29 ?_; refine Z13 (Z30 rfl (by rfl) (by simp only [Z84, List.set_cons_zero, List.set_cons_succ]; rfl)) ?_) | refine Z31 ?_) | (refine Z32 ?_; first | refine Z33 ?_ | refine Z34 ?_ | refine Z35 ?_ | refine Z36 ?_ | refine Z37 ?_ | refine Z38 rfl ?_ | refine Z39 ?_ | refine Z40 ?_ | refine Z41 ?_) | (refine Z42 ?_; first | refine Z43 ?_ | refine Z44 ?_ | refine Z45 ?_ | refine Z46 ?_ | refine Z47 ?_ | refine Z48 ?_ | refine Z49 rfl (by decide) ?_ | refine Z50 rfl (by decide) ?_))
  refine WO_loadSB rfl kq22 rfl ?_
  repeat (first | (refine Z0 ?_; first | refine Z1 rfl ?_ | (refine Z2 ?_; first | refine Z3 rfl rfl (by decide) ?_ | refine Z4 rfl rfl (by decide) ?_ | refine Z5 rfl rfl ?_) | (refine Z6 ?_; first | refine Z7 rfl rfl ?_ | refine Z8 rfl rfl ?_) | (refine Z9 ?_; first | refine Z10 rfl (by assumption) (by rfl) ?_ | refine Z11 rfl (by assumption) ?_) | (refine Z12 ?_; first | refine Z13 (Z14 rfl (by decide) rfl) ?_ | refine Z13 (Z15 rfl (by decide) rfl) ?_) | (refine Z16 ?_; first | refine Z17 rfl ?_ | refine Z18 rfl ?_) | (refine Z19 ?_; first | refine Z20 rfl rfl (by omega) ?_ | refine Z21 rfl rfl (by omega) ?_ | refine Z22 rfl rfl (by omega) ?_ | refine Z23 rfl rfl (by omega) (by omega) ?_ | refine Z24 rfl rfl (by omega) (by omega) (by omega) ?_ | refine Z13 (Z25 rfl rfl) ?_ | refine Z13 (Z26 rfl rfl) ?_) | (refine Z27 ?_; refine Z13 (Z28 rfl (Z53 ⟨by omega, by omega⟩)) ?_) | (refine Z29 ?_; refine Z13 (Z30 rfl (by rfl) (by simp only [Z84, List.set_cons_zero, List.set_cons_succ]; rfl)) ?_) | refine Z31 ?_) | (refine Z32 ?_; first | refine Z33 ?_ | refine Z34 ?_ | refine Z35 ?_ | refine Z36 ?_ | refine Z37 ?_ | refine Z38 rfl ?_ | refine Z39 ?_ | refine Z40 ?_ | refine Z41 ?_) | (refine Z42 ?_; first | refine Z43 ?_ | refine Z44 ?_ | refine Z45 ?_ | refine Z46 ?_ | refine Z47 ?_ | refine Z48 ?_ | refine Z49 rfl (by decide) ?_ | refine Z50 rfl (by decide) ?_))
  obtain ⟨Am48, pm48⟩ := Hm42.int
  obtain ⟨Bm48, qm48⟩ := Hm42.sts
  refine WO_call rfl (heldProgram_ret _ _ (splT tl0 l0 a1).length (splA tl0 l0 a1) Am48 Bm48 ((1 : Int)) _ pm48 qm48 (by omega) (by omega)) ?_
  rintro _ wm48 ⟨rfl, em48⟩
  replace e0 := Ext.trans e0 em48
  replace hB0 := hB0.ext em48
  replace hc4 := hc4.ext em48
  replace hr7 := hr7.ext em48
  replace gr7 := gr7.ext em48
  replace kq9 := kq9.ext em48
  replace kq11 := kq11.ext em48
  replace kq17 := kq17.ext em48
  replace kq22 := kq22.ext em48
  replace kq24 := kq24.ext em48
  replace Hm42 := Hm42.ext em48
  replace Hm45 := Hm45.ext em48
  have z49 := Ext.size_le em48
  repeat' (first | (refine Z0 ?_; first | refine Z1 rfl ?_ | (refine Z2 ?_; first | refine Z3 rfl rfl (by decide) ?_ | refine Z4 rfl rfl (by decide) ?_ | refine Z5 rfl rfl ?_ | ((refine Z51 rfl rfl (fun c' hc' => ?_)); cases c' <;> (try simp only [decide_eq_true_eq, decide_eq_false_iff_not, beq_iff_eq, beq_eq_false_iff_ne, bne_iff_ne, bne_eq_false_iff_eq, ne_eq, gt_iff_lt, ge_iff_le, Int.not_lt, Int.not_le, Bool.not_eq_true', Bool.not_eq_false', Bool.not_true, Bool.not_false, reduceCtorEq, Decidable.not_not, not_true_eq_false, Bool.true_eq_false, Bool.false_eq_true] at hc') <;> (try (exfalso; omega)))) | (refine Z6 ?_; first | refine Z7 rfl rfl ?_ | refine Z8 rfl rfl ?_) | (refine Z9 ?_; first | refine Z10 rfl (by assumption) (by rfl) ?_ | refine Z11 rfl (by assumption) ?_) | (refine Z12 ?_; first | refine Z13 (Z14 rfl (by decide) rfl) ?_ | refine Z13 (Z15 rfl (by decide) rfl) ?_) | (refine Z16 ?_; first | refine Z17 rfl ?_ | refine Z18 rfl ?_) | (refine Z19 ?_; first | refine Z20 rfl rfl (by omega) ?_ | refine Z21 rfl rfl (by omega) ?_ | refine Z22 rfl rfl (by omega) ?_ | refine Z23 rfl rfl (by omega) (by omega) ?_ | refine Z24 rfl rfl (by omega) (by omega) (by omega) ?_ | refine Z13 (Z25 rfl rfl) ?_ | refine Z13 (Z26 rfl rfl) ?_) | (refine Z27 ?_; refine Z13 (Z28 rfl (Z53 ⟨by omega, by omega⟩)) ?_) | (refine Z29 ?_; refine Z13 (Z30 rfl (by rfl) (by simp only [Z84, List.set_cons_zero, List.set_cons_succ]; rfl)) ?_) | refine Z31 ?_) | (refine Z32 ?_; first | refine Z33 ?_ | refine Z34 ?_ | refine Z35 ?_ | refine Z36 ?_ | refine Z37 ?_ | refine Z38 rfl ?_ | refine Z39 ?_ | refine Z40 ?_ | refine Z41 ?_) | (refine Z42 ?_; first | refine Z43 ?_ | refine Z44 ?_ | refine Z45 ?_ | refine Z46 ?_ | refine Z47 ?_ | refine Z48 ?_ | refine Z49 rfl (by decide) ?_ | refine Z50 rfl (by decide) ?_ | ((refine Z52 rfl (fun hc' => ?_) (fun hc' => ?_)) <;> (try simp only [decide_eq_true_eq, decide_eq_false_iff_not, beq_iff_eq, beq_eq_false_iff_ne, bne_iff_ne, bne_eq_false_iff_eq, ne_eq, gt_iff_lt, ge_iff_le, Int.not_lt, Int.not_le, Bool.not_eq_true', Bool.not_eq_false', Bool.not_true, Bool.not_false, reduceCtorEq, Decidable.not_not, not_true_eq_false, Bool.true_eq_false, Bool.false_eq_true] at hc') <;> (try (exfalso; omega)))))
  repeat (first | (refine Z0 ?_; first | refine Z1 rfl ?_ | (refine Z2 ?_; first | refine Z3 rfl rfl (by decide) ?_ | refine Z4 rfl rfl (by decide) ?_ | refine Z5 rfl rfl ?_) | (refine Z6 ?_; first | refine Z7 rfl rfl ?_ | refine Z8 rfl rfl ?_) | (refine Z9 ?_; first | refine Z10 rfl (by assumption) (by rfl) ?_ | refine Z11 rfl (by assumption) ?_) | (refine Z12 ?_; first | refine Z13 (Z14 rfl (by decide) rfl) ?_ | refine Z13 (Z15 rfl (by decide) rfl) ?_) | (refine Z16 ?_; first | refine Z17 rfl ?_ | refine Z18 rfl ?_) | (refine Z19 ?_; first | refine Z20 rfl rfl (by omega) ?_ | refine Z21 rfl rfl (by omega) ?_ | refine Z22 rfl rfl (by omega) ?_ | refine Z23 rfl rfl (by omega) (by omega) ?_ | refine Z24 rfl rfl (by omega) (by omega) (by omega) ?_ | refine Z13 (Z25 rfl rfl) ?_ | refine Z13 (Z26 rfl rfl) ?_) | (refine Z27 ?_; refine Z13 (Z28 rfl (Z53 ⟨by omega, by omega⟩)) ?_) | (refine Z29 ?_; refine Z13 (Z30 rfl (by rfl) (by simp only [Z84, List.set_cons_zero, List.set_cons_succ]; rfl)) ?_) | refine Z31 ?_) | (refine Z32 ?_; first | refine Z33 ?_ | refine Z34 ?_ | refine Z35 ?_ | refine Z36 ?_ | refine Z37 ?_ | refine Z38 rfl ?_ | refine Z39 ?_ | refine Z40 ?_ | refine Z41 ?_) | (refine Z42 ?_; first | refine Z43 ?_ | refine Z44 ?_ | refine Z45 ?_ | refine Z46 ?_ | refine Z47 ?_ | refine Z48 ?_ | refine Z49 rfl (by decide) ?_ | refine Z50 rfl (by decide) ?_))
  refine WO_loadSB rfl kq24 rfl ?_
  repeat (first | (refine Z0 ?_; first | refine Z1 rfl ?_ | (refine Z2 ?_; first | refine Z3 rfl rfl (by decide) ?_ | refine Z4 rfl rfl (by decide) ?_ | refine Z5 rfl rfl ?_) | (refine Z6 ?_; first | refine Z7 rfl rfl ?_ | refine Z8 rfl rfl ?_) | (refine Z9 ?_; first | refine Z10 rfl (by assumption) (by rfl) ?_ | refine Z11 rfl (by assumption) ?_) | (refine Z12 ?_; first | refine Z13 (Z14 rfl (by decide) rfl) ?_ | refine Z13 (Z15 rfl (by decide) rfl) ?_) | (refine Z16 ?_; first | refine Z17 rfl ?_ | refine Z18 rfl ?_) | (refine Z19 ?_; first | refine Z20 rfl rfl (by omega) ?_ | refine Z21 rfl rfl (by omega) ?_ | refine Z22 rfl rfl (by omega) ?_ | refine Z23 rfl rfl (by omega) (by omega) ?_ | refine Z24 rfl rfl (by omega) (by omega) (by omega) ?_ | refine Z13 (Z25 rfl rfl) ?_ | refine Z13 (Z26 rfl rfl) ?_) | (refine Z27 ?_; refine Z13 (Z28 rfl (Z53 ⟨by omega, by omega⟩)) ?_) | (refine Z29 ?_; refine Z13 (Z30 rfl (by rfl) (by simp only [Z84, List.set_cons_zero, List.set_cons_succ]; rfl)) ?_) | refine Z31 ?_) | (refine Z32 ?_; first | refine Z33 ?_ | refine Z34 ?_ | refine Z35 ?_ | refine Z36 ?_ | refine Z37 ?_ | refine Z38 rfl ?_ | refine Z39 ?_ | refine Z40 ?_ | refine Z41 ?_) | (refine Z42 ?_; first | refine Z43 ?_ | refine Z44 ?_ | refine Z45 ?_ | refine Z46 ?_ | refine Z47 ?_ | refine Z48 ?_ | refine Z49 rfl (by decide) ?_ | refine Z50 rfl (by decide) ?_))
  obtain ⟨Am50, pm50⟩ := Hm45.int
  obtain ⟨Bm50, qm50⟩ := Hm45.sts
  refine WO_call rfl (heldProgram_ret _ _ (splT tl0 l0 a1).length (splB tl0 l0 a1) Am50 Bm50 ((1 : Int) + (splT tl0 l0 a1).length + 4 * cntL (splA tl0 l0 a1)) _ pm50 qm50 (by omega) (by omega)) ?_
  rintro _ wm50 ⟨rfl, em50⟩
  replace e0 := Ext.trans e0 em50
  replace hB0 := hB0.ext em50
  replace hc4 := hc4.ext em50
  replace hr7 := hr7.ext em50
  replace gr7 := gr7.ext em50
  replace kq9 := kq9.ext em50
  replace kq11 := kq11.ext em50
  replace kq17 := kq17.ext em50
  replace kq22 := kq22.ext em50
  replace kq24 := kq24.ext em50
  replace Hm42 := Hm42.ext em50
  replace Hm45 := Hm45.ext em50
  have z51 := Ext.size_le em50
  repeat' (first | (refine Z0 ?_; first | refine Z1 rfl ?_ | (refine Z2 ?_; first | refine Z3 rfl rfl (by decide) ?_ | refine Z4 rfl rfl (by decide) ?_ | refine Z5 rfl rfl ?_ | ((refine Z51 rfl rfl (fun c' hc' => ?_)); cases c' <;> (try simp only [decide_eq_true_eq, decide_eq_false_iff_not, beq_iff_eq, beq_eq_false_iff_ne, bne_iff_ne, bne_eq_false_iff_eq, ne_eq, gt_iff_lt, ge_iff_le, Int.not_lt, Int.not_le, Bool.not_eq_true', Bool.not_eq_false', Bool.not_true, Bool.not_false, reduceCtorEq, Decidable.not_not, not_true_eq_false, Bool.true_eq_false, Bool.false_eq_true] at hc') <;> (try (exfalso; omega)))) | (refine Z6 ?_; first | refine Z7 rfl rfl ?_ | refine Z8 rfl rfl ?_) | (refine Z9 ?_; first | refine Z10 rfl (by assumption) (by rfl) ?_ | refine Z11 rfl (by assumption) ?_) | (refine Z12 ?_; first | refine Z13 (Z14 rfl (by decide) rfl) ?_ | refine Z13 (Z15 rfl (by decide) rfl) ?_) | (refine Z16 ?_; first | refine Z17 rfl ?_ | refine Z18 rfl ?_) | (refine Z19 ?_; first | refine Z20 rfl rfl (by omega) ?_ | refine Z21 rfl rfl (by omega) ?_ | refine Z22 rfl rfl (by omega) ?_ | refine Z23 rfl rfl (by omega) (by omega) ?_ | refine Z24 rfl rfl (by omega) (by omega) (by omega) ?_ | refine Z13 (Z25 rfl rfl) ?_ | refine Z13 (Z26 rfl rfl) ?_) | (refine Z27 ?_; refine Z13 (Z28 rfl (Z53 ⟨by omega, by omega⟩)) ?_) | (refine Z29 ?_; refine Z13 (Z30 rfl (by rfl) (by simp only [Z84, List.set_cons_zero, List.set_cons_succ]; rfl)) ?_) | refine Z31 ?_) | (refine Z32 ?_; first | refine Z33 ?_ | refine Z34 ?_ | refine Z35 ?_ | refine Z36 ?_ | refine Z37 ?_ | refine Z38 rfl ?_ | refine Z39 ?_ | refine Z40 ?_ | refine Z41 ?_) | (refine Z42 ?_; first | refine Z43 ?_ | refine Z44 ?_ | refine Z45 ?_ | refine Z46 ?_ | refine Z47 ?_ | refine Z48 ?_ | refine Z49 rfl (by decide) ?_ | refine Z50 rfl (by decide) ?_ | ((refine Z52 rfl (fun hc' => ?_) (fun hc' => ?_)) <;> (try simp only [decide_eq_true_eq, decide_eq_false_iff_not, beq_iff_eq, beq_eq_false_iff_ne, bne_iff_ne, bne_eq_false_iff_eq, ne_eq, gt_iff_lt, ge_iff_le, Int.not_lt, Int.not_le, Bool.not_eq_true', Bool.not_eq_false', Bool.not_true, Bool.not_false, reduceCtorEq, Decidable.not_not, not_true_eq_false, Bool.true_eq_false, Bool.false_eq_true] at hc') <;> (try (exfalso; omega)))))
  repeat' (first | (refine Z0 ?_; first | refine Z1 rfl ?_ | (refine Z2 ?_; first | refine Z3 rfl rfl (by decide) ?_ | refine Z4 rfl rfl (by decide) ?_ | refine Z5 rfl rfl ?_ | ((refine Z51 rfl rfl (fun c' hc' => ?_)); cases c' <;> (try simp only [decide_eq_true_eq, decide_eq_false_iff_not, beq_iff_eq, beq_eq_false_iff_ne, bne_iff_ne, bne_eq_false_iff_eq, ne_eq, gt_iff_lt, ge_iff_le, Int.not_lt, Int.not_le, Bool.not_eq_true', Bool.not_eq_false', Bool.not_true, Bool.not_false, reduceCtorEq, Decidable.not_not, not_true_eq_false, Bool.true_eq_false, Bool.false_eq_true] at hc') <;> (try (exfalso; omega)))) | (refine Z6 ?_; first | refine Z7 rfl rfl ?_ | refine Z8 rfl rfl ?_) | (refine Z9 ?_; first | refine Z10 rfl (by assumption) (by rfl) ?_ | refine Z11 rfl (by assumption) ?_) | (refine Z12 ?_; first | refine Z13 (Z14 rfl (by decide) rfl) ?_ | refine Z13 (Z15 rfl (by decide) rfl) ?_) | (refine Z16 ?_; first | refine Z17 rfl ?_ | refine Z18 rfl ?_) | (refine Z19 ?_; first | refine Z20 rfl rfl (by omega) ?_ | refine Z21 rfl rfl (by omega) ?_ | refine Z22 rfl rfl (by omega) ?_ | refine Z23 rfl rfl (by omega) (by omega) ?_ | refine Z24 rfl rfl (by omega) (by omega) (by omega) ?_ | refine Z13 (Z25 rfl rfl) ?_ | refine Z13 (Z26 rfl rfl) ?_) | (refine Z27 ?_; refine Z13 (Z28 rfl (Z53 ⟨by omega, by omega⟩)) ?_) | (refine Z29 ?_; refine Z13 (Z30 rfl (by rfl) (by simp only [Z84, List.set_cons_zero, List.set_cons_succ]; rfl)) ?_) | refine Z31 ?_) | (refine Z32 ?_; first | refine Z33 ?_ | refine Z34 ?_ | refine Z35 ?_ | refine Z36 ?_ | refine Z37 ?_ | refine Z38 rfl ?_ | refine Z39 ?_ | refine Z40 ?_ | refine Z41 ?_) | (refine Z42 ?_; first | refine Z43 ?_ | refine Z44 ?_ | refine Z45 ?_ | refine Z46 ?_ | refine Z47 ?_ | refine Z48 ?_ | refine Z49 rfl (by decide) ?_ | refine Z50 rfl (by decide) ?_ | ((refine Z52 rfl (fun hc' => ?_) (fun hc' => ?_)) <;> (try simp only [decide_eq_true_eq, decide_eq_false_iff_not, beq_iff_eq, beq_eq_false_iff_ne, bne_iff_ne, bne_eq_false_iff_eq, ne_eq, gt_iff_lt, ge_iff_le, Int.not_lt, Int.not_le, Bool.not_eq_true', Bool.not_eq_false', Bool.not_true, Bool.not_false, reduceCtorEq, Decidable.not_not, not_true_eq_false, Bool.true_eq_false, Bool.false_eq_true] at hc') <;> (try (exfalso; omega)))))
  refine WO_loadSB rfl hB0 rfl ?_
  repeat (first | (refine Z0 ?_; first | refine Z1 rfl ?_ | (refine Z2 ?_; first | refine Z3 rfl rfl (by decide) ?_ | refine Z4 rfl rfl (by decide) ?_ | refine Z5 rfl rfl ?_) | (refine Z6 ?_; first | refine Z7 rfl rfl ?_ | refine Z8 rfl rfl ?_) | (refine Z9 ?_; first | refine Z10 rfl (by assumption) (by rfl) ?_ | refine Z11 rfl (by assumption) ?_) | (refine Z12 ?_; first | refine Z13 (Z14 rfl (by decide) rfl) ?_ | refine Z13 (Z15 rfl (by decide) rfl) ?_) | (refine Z16 ?_; first | refine Z17 rfl ?_ | refine Z18 rfl ?_) | (refine Z19 ?_; first | refine Z20 rfl rfl (by omega) ?_ | refine Z21 rfl rfl (by omega) ?_ | refine Z22 rfl rfl (by omega) ?_ | refine Z23 rfl rfl (by omega) (by omega) ?_ | refine Z24 rfl rfl (by omega) (by omega) (by omega) ?_ | refine Z13 (Z25 rfl rfl) ?_ | refine Z13 (Z26 rfl rfl) ?_) | (refine Z27 ?_; refine Z13 (Z28 rfl (Z53 ⟨by omega, by omega⟩)) ?_) | (refine Z29 ?_; refine Z13 (Z30 rfl (by rfl) (by simp only [Z84, List.set_cons_zero, List.set_cons_succ]; rfl)) ?_) | refine Z31 ?_) | (refine Z32 ?_; first | refine Z33 ?_ | refine Z34 ?_ | refine Z35 ?_ | refine Z36 ?_ | refine Z37 ?_ | refine Z38 rfl ?_ | refine Z39 ?_ | refine Z40 ?_ | refine Z41 ?_) | (refine Z42 ?_; first | refine Z43 ?_ | refine Z44 ?_ | refine Z45 ?_ | refine Z46 ?_ | refine Z47 ?_ | refine Z48 ?_ | refine Z49 rfl (by decide) ?_ | refine Z50 rfl (by decide) ?_))
  refine WO_call rfl (toProgram_ret tv0 bv0 tl0 l0 Ft0 Fl0 _ (ht0.ext e0) (hl0.ext e0) (by omega)) ?_
  rintro _ wc52 ⟨⟨tc52, bc52, rfl, hc52⟩, ec52⟩
  replace e0 := Ext.trans e0 ec52
  replace hB0 := hB0.ext ec52
  replace hc4 := hc4.ext ec52
  replace hr7 := hr7.ext ec52
  replace gr7 := gr7.ext ec52
  replace kq9 := kq9.ext ec52
  replace kq11 := kq11.ext ec52
  replace kq17 := kq17.ext ec52
  replace kq22 := kq22.ext ec52
  replace kq24 := kq24.ext ec52
  replace Hm42 := Hm42.ext ec52
  replace Hm45 := Hm45.ext ec52
  have z53 := Ext.size_le ec52
  repeat (first | (refine Z0 ?_; first | refine Z1 rfl ?_ | (refine Z2 ?_; first | refine Z3 rfl rfl (by decide) ?_ | refine Z4 rfl rfl (by decide) ?_ | refine Z5 rfl rfl ?_) | (refine Z6 ?_; first | refine Z7 rfl rfl ?_ | refine Z8 rfl rfl ?_) | (refine Z9 ?_; first | refine Z10 rfl (by assumption) (by rfl) ?_ | refine Z11 rfl (by assumption) ?_) | (refine Z12 ?_; first | refine Z13 (Z14 rfl (by decide) rfl) ?_ | refine Z13 (Z15 rfl (by decide) rfl) ?_) | (refine Z16 ?_; first | refine Z17 rfl ?_ | refine Z18 rfl ?_) | (refine Z19 ?_; first | refine Z20 rfl rfl (by omega) ?_ | refine Z21 rfl rfl (by omega) ?_ | refine Z22 rfl rfl (by omega) ?_ | refine Z23 rfl rfl (by omega) (by omega) ?_ | refine Z24 rfl rfl (by omega) (by omega) (by omega) ?_ | refine Z13 (Z25 rfl rfl) ?_ | refine Z13 (Z26 rfl rfl) ?_) | (refine Z27 ?_; refine Z13 (Z28 rfl (Z53 ⟨by omega, by omega⟩)) ?_) | (refine Z29 ?_; refine Z13 (Z30 rfl (by rfl) (by simp only [Z84, List.set_cons_zero, List.set_cons_succ]; rfl)) ?_) | refine Z31 ?_) | (refine Z32 ?_; first | refine Z33 ?_ | refine Z34 ?_ | refine Z35 ?_ | refine Z36 ?_ | refine Z37 ?_ | refine Z38 rfl ?_ | refine Z39 ?_ | refine Z40 ?_ | refine Z41 ?_) | (refine Z42 ?_; first | refine Z43 ?_ | refine Z44 ?_ | refine Z45 ?_ | refine Z46 ?_ | refine Z47 ?_ | refine Z48 ?_ | refine Z49 rfl (by decide) ?_ | refine Z50 rfl (by decide) ?_))
  obtain ⟨Af54, pf54⟩ := (hc52).int
  obtain ⟨Bf54, qf54⟩ := (hc52).sts
  refine WO_call rfl (SplitProgram_ret tc52 bc52 tl0 l0 _ _ a1 _ pf54 qf54 b1 (by omega) (by omega)) ?_
  rintro _ wr55 ⟨mr55, tr55, br55, ur55, dr55, rfl, hr55, gr55, ir55, jr55, er55⟩
  replace e0 := Ext.trans e0 er55
  replace hB0 := hB0.ext er55
  replace hc4 := hc4.ext er55
  replace hr7 := hr7.ext er55
  replace gr7 := gr7.ext er55
  replace kq9 := kq9.ext er55
  replace kq11 := kq11.ext er55
  replace kq17 := kq17.ext er55
  replace kq22 := kq22.ext er55
  replace kq24 := kq24.ext er55
  replace Hm42 := Hm42.ext er55
  replace Hm45 := Hm45.ext er55
  replace hc52 := hc52.ext er55
  have z56 := Ext.size_le er55
  repeat (first | (refine Z0 ?_; first | refine Z1 rfl ?_ | (refine Z2 ?_; first | refine Z3 rfl rfl (by decide) ?_ | refine Z4 rfl rfl (by decide) ?_ | refine Z5 rfl rfl ?_) | (refine Z6 ?_; first | refine Z7 rfl rfl ?_ | refine Z8 rfl rfl ?_) | (refine Z9 ?_; first | refine Z10 rfl (by assumption) (by rfl) ?_ | refine Z11 rfl (by assumption) ?_) | (refine Z12 ?_; first | refine Z13 (Z14 rfl (by decide) rfl) ?_ | refine Z13 (Z15 rfl (by decide) rfl) ?_) | (refine Z16 ?_; first | refine Z17 rfl ?_ | refine Z18 rfl ?_) | (refine Z19 ?_; first | refine Z20 rfl rfl (by omega) ?_ | refine Z21 rfl rfl (by omega) ?_ | refine Z22 rfl rfl (by omega) ?_ | refine Z23 rfl rfl (by omega) (by omega) ?_ | refine Z24 rfl rfl (by omega) (by omega) (by omega) ?_ | refine Z13 (Z25 rfl rfl) ?_ | refine Z13 (Z26 rfl rfl) ?_) | (refine Z27 ?_; refine Z13 (Z28 rfl (Z53 ⟨by omega, by omega⟩)) ?_) | (refine Z29 ?_; refine Z13 (Z30 rfl (by rfl) (by simp only [Z84, List.set_cons_zero, List.set_cons_succ]; rfl)) ?_) | refine Z31 ?_) | (refine Z32 ?_; first | refine Z33 ?_ | refine Z34 ?_ | refine Z35 ?_ | refine Z36 ?_ | refine Z37 ?_ | refine Z38 rfl ?_ | refine Z39 ?_ | refine Z40 ?_ | refine Z41 ?_) | (refine Z42 ?_; first | refine Z43 ?_ | refine Z44 ?_ | refine Z45 ?_ | refine Z46 ?_ | refine Z47 ?_ | refine Z48 ?_ | refine Z49 rfl (by decide) ?_ | refine Z50 rfl (by decide) ?_))
  refine WO_alloc fun wq57 hq57 eq57 zq57 => ?_
  replace e0 := Ext.trans e0 eq57
  replace hB0 := hB0.ext eq57
  replace hc4 := hc4.ext eq57
  replace hr7 := hr7.ext eq57
  replace gr7 := gr7.ext eq57
  replace kq9 := kq9.ext eq57
  replace kq11 := kq11.ext eq57
  replace kq17 := kq17.ext eq57
  replace kq22 := kq22.ext eq57
  replace kq24 := kq24.ext eq57
  replace Hm42 := Hm42.ext eq57
  replace Hm45 := Hm45.ext eq57
  replace hc52 := hc52.ext eq57
  replace hr55 := hr55.ext eq57
  replace gr55 := gr55.ext eq57
  have z58 := Ext.size_le eq57
  have hltq57 := Blk.lt hq57
  repeat (first | (refine Z0 ?_; first | refine Z1 rfl ?_ | (refine Z2 ?_; first | refine Z3 rfl rfl (by decide) ?_ | refine Z4 rfl rfl (by decide) ?_ | refine Z5 rfl rfl ?_) | (refine Z6 ?_; first | refine Z7 rfl rfl ?_ | refine Z8 rfl rfl ?_) | (refine Z9 ?_; first | refine Z10 rfl (by assumption) (by rfl) ?_ | refine Z11 rfl (by assumption) ?_) | (refine Z12 ?_; first | refine Z13 (Z14 rfl (by decide) rfl) ?_ | refine Z13 (Z15 rfl (by decide) rfl) ?_) | (refine Z16 ?_; first | refine Z17 rfl ?_ | refine Z18 rfl ?_) | (refine Z19 ?_; first | refine Z20 rfl rfl (by omega) ?_ | refine Z21 rfl rfl (by omega) ?_ | refine Z22 rfl rfl (by omega) ?_ | refine Z23 rfl rfl (by omega) (by omega) ?_ | refine Z24 rfl rfl (by omega) (by omega) (by omega) ?_ | refine Z13 (Z25 rfl rfl) ?_ | refine Z13 (Z26 rfl rfl) ?_) | (refine Z27 ?_; refine Z13 (Z28 rfl (Z53 ⟨by omega, by omega⟩)) ?_) | (refine Z29 ?_; refine Z13 (Z30 rfl (by rfl) (by simp only [Z84, List.set_cons_zero, List.set_cons_succ]; rfl)) ?_) | refine Z31 ?_) | (refine Z32 ?_; first | refine Z33 ?_ | refine Z34 ?_ | refine Z35 ?_ | refine Z36 ?_ | refine Z37 ?_ | refine Z38 rfl ?_ | refine Z39 ?_ | refine Z40 ?_ | refine Z41 ?_) | (refine Z42 ?_; first | refine Z43 ?_ | refine Z44 ?_ | refine Z45 ?_ | refine Z46 ?_ | refine Z47 ?_ | refine Z48 ?_ | refine Z49 rfl (by decide) ?_ | refine Z50 rfl (by decide) ?_))
  refine WO_alloc fun wq59 hq59 eq59 zq59 => ?_
  replace e0 := Ext.trans e0 eq59
  replace hB0 := hB0.ext eq59
  replace hc4 := hc4.ext eq59
  replace hr7 := hr7.ext eq59
  replace gr7 := gr7.ext eq59
  replace kq9 := kq9.ext eq59
  replace kq11 := kq11.ext eq59
  replace kq17 := kq17.ext eq59
  replace kq22 := kq22.ext eq59
  replace kq24 := kq24.ext eq59
  replace Hm42 := Hm42.ext eq59
  replace Hm45 := Hm45.ext eq59
  replace hc52 := hc52.ext eq59
  replace hr55 := hr55.ext eq59
  replace gr55 := gr55.ext eq59
  replace hq57 := hq57.ext eq59
  have z60 := Ext.size_le eq59
  have hltq59 := Blk.lt hq59
  repeat (first | (refine Z0 ?_; first | refine Z1 rfl ?_ | (refine Z2 ?_; first | refine Z3 rfl rfl (by decide) ?_ | refine Z4 rfl rfl (by decide) ?_ | refine Z5 rfl rfl ?_) | (refine Z6 ?_; first | refine Z7 rfl rfl ?_ | refine Z8 rfl rfl ?_) | (refine Z9 ?_; first | refine Z10 rfl (by assumption) (by rfl) ?_ | refine Z11 rfl (by assumption) ?_) | (refine Z12 ?_; first | refine Z13 (Z14 rfl (by decide) rfl) ?_ | refine Z13 (Z15 rfl (by decide) rfl) ?_) | (refine Z16 ?_; first | refine Z17 rfl ?_ | refine Z18 rfl ?_) | (refine Z19 ?_; first | refine Z20 rfl rfl (by omega) ?_ | refine Z21 rfl rfl (by omega) ?_ | refine Z22 rfl rfl (by omega) ?_ | refine Z23 rfl rfl (by omega) (by omega) ?_ | refine Z24 rfl rfl (by omega) (by omega) (by omega) ?_ | refine Z13 (Z25 rfl rfl) ?_ | refine Z13 (Z26 rfl rfl) ?_) | (refine Z27 ?_; refine Z13 (Z28 rfl (Z53 ⟨by omega, by omega⟩)) ?_) | (refine Z29 ?_; refine Z13 (Z30 rfl (by rfl) (by simp only [Z84, List.set_cons_zero, List.set_cons_succ]; rfl)) ?_) | refine Z31 ?_) | (refine Z32 ?_; first | refine Z33 ?_ | refine Z34 ?_ | refine Z35 ?_ | refine Z36 ?_ | refine Z37 ?_ | refine Z38 rfl ?_ | refine Z39 ?_ | refine Z40 ?_ | refine Z41 ?_) | (refine Z42 ?_; first | refine Z43 ?_ | refine Z44 ?_ | refine Z45 ?_ | refine Z46 ?_ | refine Z47 ?_ | refine Z48 ?_ | refine Z49 rfl (by decide) ?_ | refine Z50 rfl (by decide) ?_))
  obtain ⟨onq57, omq57⟩ := hr55.ones
  refine WO_storeS (k := 2) (vs := [tr55, br55]) rfl rfl rfl (by intro v hv; simp at hv; rcases hv with rfl | rfl <;> assumption) hq57 (by decide) fun wzq57 hzq57 ozq57 => ?_
  have czq57 := Only.toI ozq57
  replace e0 := e0.chgI czq57 (by omega)
  replace hB0 := hB0.chgI czq57 (by omega)
  replace hc4 := hc4.chgI czq57 (by omega)
  replace hr7 := hr7.chgI czq57 (by omega)
  replace gr7 := gr7.chgI czq57 (by omega)
  replace kq9 := kq9.chgI czq57 (by omega)
  replace kq11 := kq11.chgI czq57 (by omega)
  replace kq17 := kq17.chgI czq57 (by omega)
  replace kq22 := kq22.chgI czq57 (by omega)
  replace kq24 := kq24.chgI czq57 (by omega)
  replace Hm42 := Hm42.chgI czq57 (by omega)
  replace Hm45 := Hm45.chgI czq57 (by omega)
  replace hc52 := hc52.chgI czq57 (by omega)
  replace hr55 := hr55.chgI czq57 (by omega)
  replace gr55 := gr55.chgI czq57 (by omega)
  replace hq59 := hq59.chgI czq57 (by omega)
  have z61 := ChgI.size czq57
  have kq57 : Blk wzq57 wr55.heap.size [tr55, br55] _ := hzq57
  repeat (first | (refine Z0 ?_; first | refine Z1 rfl ?_ | (refine Z2 ?_; first | refine Z3 rfl rfl (by decide) ?_ | refine Z4 rfl rfl (by decide) ?_ | refine Z5 rfl rfl ?_) | (refine Z6 ?_; first | refine Z7 rfl rfl ?_ | refine Z8 rfl rfl ?_) | (refine Z9 ?_; first | refine Z10 rfl (by assumption) (by rfl) ?_ | refine Z11 rfl (by assumption) ?_) | (refine Z12 ?_; first | refine Z13 (Z14 rfl (by decide) rfl) ?_ | refine Z13 (Z15 rfl (by decide) rfl) ?_) | (refine Z16 ?_; first | refine Z17 rfl ?_ | refine Z18 rfl ?_) | (refine Z19 ?_; first | refine Z20 rfl rfl (by omega) ?_ | refine Z21 rfl rfl (by omega) ?_ | refine Z22 rfl rfl (by omega) ?_ | refine Z23 rfl rfl (by omega) (by omega) ?_ | refine Z24 rfl rfl (by omega) (by omega) (by omega) ?_ | refine Z13 (Z25 rfl rfl) ?_ | refine Z13 (Z26 rfl rfl) ?_) | (refine Z27 ?_; refine Z13 (Z28 rfl (Z53 ⟨by omega, by omega⟩)) ?_) | (refine Z29 ?_; refine Z13 (Z30 rfl (by rfl) (by simp only [Z84, List.set_cons_zero, List.set_cons_succ]; rfl)) ?_) | refine Z31 ?_) | (refine Z32 ?_; first | refine Z33 ?_ | refine Z34 ?_ | refine Z35 ?_ | refine Z36 ?_ | refine Z37 ?_ | refine Z38 rfl ?_ | refine Z39 ?_ | refine Z40 ?_ | refine Z41 ?_) | (refine Z42 ?_; first | refine Z43 ?_ | refine Z44 ?_ | refine Z45 ?_ | refine Z46 ?_ | refine Z47 ?_ | refine Z48 ?_ | refine Z49 rfl (by decide) ?_ | refine Z50 rfl (by decide) ?_))
  obtain ⟨onq59, omq59⟩ := gr55.ones
  refine WO_storeS (k := 2) (vs := [ur55, dr55]) rfl rfl rfl (by intro v hv; simp at hv; rcases hv with rfl | rfl <;> assumption) hq59 (by decide) fun wzq59 hzq59 ozq59 => ?_
  have czq59 := Only.toI ozq59
  replace e0 := e0.chgI czq59 (by omega)
  replace hB0 := hB0.chgI czq59 (by omega)
  replace hc4 := hc4.chgI czq59 (by omega)
  replace hr7 := hr7.chgI czq59 (by omega)
  replace gr7 := gr7.chgI czq59 (by omega)
  replace kq9 := kq9.chgI czq59 (by omega)
  replace kq11 := kq11.chgI czq59 (by omega)
  replace kq17 := kq17.chgI czq59 (by omega)
  replace kq22 := kq22.chgI czq59 (by omega)
  replace kq24 := kq24.chgI czq59 (by omega)
  replace Hm42 := Hm42.chgI czq59 (by omega)
  replace Hm45 := Hm45.chgI czq59 (by omega)
  replace hc52 := hc52.chgI czq59 (by omega)
  replace hr55 := hr55.chgI czq59 (by omega)
  replace gr55 := gr55.chgI czq59 (by omega)
  replace kq57 := kq57.chgI czq59 (by omega)
  have z62 := ChgI.size czq59
  have kq59 : Blk wzq59 wq57.heap.size [ur55, dr55] _ := hzq59
  repeat (first | (refine Z0 ?_; first | refine Z1 rfl ?_ | (refine Z2 ?_; first | refine Z3 rfl rfl (by decide) ?_ | refine Z4 rfl rfl (by decide) ?_ | refine Z5 rfl rfl ?_) | (refine Z6 ?_; first | refine Z7 rfl rfl ?_ | refine Z8 rfl rfl ?_) | (refine Z9 ?_; first | refine Z10 rfl (by assumption) (by rfl) ?_ | refine Z11 rfl (by assumption) ?_) | (refine Z12 ?_; first | refine Z13 (Z14 rfl (by decide) rfl) ?_ | refine Z13 (Z15 rfl (by decide) rfl) ?_) | (refine Z16 ?_; first | refine Z17 rfl ?_ | refine Z18 rfl ?_) | (refine Z19 ?_; first | refine Z20 rfl rfl (by omega) ?_ | refine Z21 rfl rfl (by omega) ?_ | refine Z22 rfl rfl (by omega) ?_ | refine Z23 rfl rfl (by omega) (by omega) ?_ | refine Z24 rfl rfl (by omega) (by omega) (by omega) ?_ | refine Z13 (Z25 rfl rfl) ?_ | refine Z13 (Z26 rfl rfl) ?_) | (refine Z27 ?_; refine Z13 (Z28 rfl (Z53 ⟨by omega, by omega⟩)) ?_) | (refine Z29 ?_; refine Z13 (Z30 rfl (by rfl) (by simp only [Z84, List.set_cons_zero, List.set_cons_succ]; rfl)) ?_) | refine Z31 ?_) | (refine Z32 ?_; first | refine Z33 ?_ | refine Z34 ?_ | refine Z35 ?_ | refine Z36 ?_ | refine Z37 ?_ | refine Z38 rfl ?_ | refine Z39 ?_ | refine Z40 ?_ | refine Z41 ?_) | (refine Z42 ?_; first | refine Z43 ?_ | refine Z44 ?_ | refine Z45 ?_ | refine Z46 ?_ | refine Z47 ?_ | refine Z48 ?_ | refine Z49 rfl (by decide) ?_ | refine Z50 rfl (by decide) ?_))
  refine WO_loadSB rfl kq57 rfl ?_
  repeat (first | (refine Z0 ?_; first | refine Z1 rfl ?_ | (refine Z2 ?_; first | refine Z3 rfl rfl (by decide) ?_ | refine Z4 rfl rfl (by decide) ?_ | refine Z5 rfl rfl ?_) | (refine Z6 ?_; first | refine Z7 rfl rfl ?_ | refine Z8 rfl rfl ?_) | (refine Z9 ?_; first | refine Z10 rfl (by assumption) (by rfl) ?_ | refine Z11 rfl (by assumption) ?_) | (refine Z12 ?_; first | refine Z13 (Z14 rfl (by decide) rfl) ?_ | refine Z13 (Z15 rfl (by decide) rfl) ?_) | (refine Z16 ?_; first | refine Z17 rfl ?_ | refine Z18 rfl ?_) | (refine Z19 ?_; first | refine Z20 rfl rfl (by omega) ?_ | refine Z21 rfl rfl (by omega) ?_ | refine Z22 rfl rfl (by omega) ?_ | refine Z23 rfl rfl (by omega) (by omega) ?_ | refine Z24 rfl rfl (by omega) (by omega) (by omega) ?_ | refine Z13 (Z25 rfl rfl) ?_ | refine Z13 (Z26 rfl rfl) ?_) | (refine Z27 ?_; refine Z13 (Z28 rfl (Z53 ⟨by omega, by omega⟩)) ?_) | (refine Z29 ?_; refine Z13 (Z30 rfl (by rfl) (by simp only [Z84, List.set_cons_zero, List.set_cons_succ]; rfl)) ?_) | refine Z31 ?_) | (refine Z32 ?_; first | refine Z33 ?_ | refine Z34 ?_ | refine Z35 ?_ | refine Z36 ?_ | refine Z37 ?_ | refine Z38 rfl ?_ | refine Z39 ?_ | refine Z40 ?_ | refine Z41 ?_) | (refine Z42 ?_; first | refine Z43 ?_ | refine Z44 ?_ | refine Z45 ?_ | refine Z46 ?_ | refine Z47 ?_ | refine Z48 ?_ | refine Z49 rfl (by decide) ?_ | refine Z50 rfl (by decide) ?_))
  refine WO_loadSB rfl kq9 rfl ?_
  repeat (first | (refine Z0 ?_; first | refine Z1 rfl ?_ | (refine Z2 ?_; first | refine Z3 rfl rfl (by decide) ?_ | refine Z4 rfl rfl (by decide) ?_ | refine Z5 rfl rfl ?_) | (refine Z6 ?_; first | refine Z7 rfl rfl ?_ | refine Z8 rfl rfl ?_) | (refine Z9 ?_; first | refine Z10 rfl (by assumption) (by rfl) ?_ | refine Z11 rfl (by assumption) ?_) | (refine Z12 ?_; first | refine Z13 (Z14 rfl (by decide) rfl) ?_ | refine Z13 (Z15 rfl (by decide) rfl) ?_) | (refine Z16 ?_; first | refine Z17 rfl ?_ | refine Z18 rfl ?_) | (refine Z19 ?_; first | refine Z20 rfl rfl (by omega) ?_ | refine Z21 rfl rfl (by omega) ?_ | refine Z22 rfl rfl (by omega) ?_ | refine Z23 rfl rfl (by omega) (by omega) ?_ | refine Z24 rfl rfl (by omega) (by omega) (by omega) ?_ | refine Z13 (Z25 rfl rfl) ?_ | refine Z13 (Z26 rfl rfl) ?_) | (refine Z27 ?_; refine Z13 (Z28 rfl (Z53 ⟨by omega, by omega⟩)) ?_) | (refine Z29 ?_; refine Z13 (Z30 rfl (by rfl) (by simp only [Z84, List.set_cons_zero, List.set_cons_succ]; rfl)) ?_) | refine Z31 ?_) | (refine Z32 ?_; first | refine Z33 ?_ | refine Z34 ?_ | refine Z35 ?_ | refine Z36 ?_ | refine Z37 ?_ | refine Z38 rfl ?_ | refine Z39 ?_ | refine Z40 ?_ | refine Z41 ?_) | (refine Z42 ?_; first | refine Z43 ?_ | refine Z44 ?_ | refine Z45 ?_ | refine Z46 ?_ | refine Z47 ?_ | refine Z48 ?_ | refine Z49 rfl (by decide) ?_ | refine Z50 rfl (by decide) ?_))
  obtain ⟨Af63, pf63⟩ := hr55.int
  obtain ⟨Bf63, qf63⟩ := hr55.sts
  obtain ⟨Cf63, rf63⟩ := hr7.int
  obtain ⟨Df63, sf63⟩ := hr7.sts
  refine WO_call rfl (eqProgram_ret _ _ _ _ _ _ _ _ Af63 Bf63 Cf63 Df63 _ pf63 qf63 rf63 sf63) ?_
  rintro _ wf63 ⟨rfl, ef63⟩
  rw [decide_eq_true ⟨rfl, rfl⟩]
  replace e0 := Ext.trans e0 ef63
  replace hB0 := hB0.ext ef63
  replace hc4 := hc4.ext ef63
  replace hr7 := hr7.ext ef63
  replace gr7 := gr7.ext ef63
  replace kq9 := kq9.ext ef63
  replace kq11 := kq11.ext ef63
  replace kq17 := kq17.ext ef63
  replace kq22 := kq22.ext ef63
  replace kq24 := kq24.ext ef63
  replace Hm42 := Hm42.ext ef63
  replace Hm45 := Hm45.ext ef63
  replace hc52 := hc52.ext ef63
  replace hr55 := hr55.ext ef63
  replace gr55 := gr55.ext ef63
  replace kq57 := kq57.ext ef63
  replace kq59 := kq59.ext ef63
  have z64 := Ext.size_le ef63
  repeat (first | (refine Z0 ?_; first | refine Z1 rfl ?_ | (refine Z2 ?_; first | refine Z3 rfl rfl (by decide) ?_ | refine Z4 rfl rfl (by decide) ?_ | refine Z5 rfl rfl ?_) | (refine Z6 ?_; first | refine Z7 rfl rfl ?_ | refine Z8 rfl rfl ?_) | (refine Z9 ?_; first | refine Z10 rfl (by assumption) (by rfl) ?_ | refine Z11 rfl (by assumption) ?_) | (refine Z12 ?_; first | refine Z13 (Z14 rfl (by decide) rfl) ?_ | refine Z13 (Z15 rfl (by decide) rfl) ?_) | (refine Z16 ?_; first | refine Z17 rfl ?_ | refine Z18 rfl ?_) | (refine Z19 ?_; first | refine Z20 rfl rfl (by omega) ?_ | refine Z21 rfl rfl (by omega) ?_ | refine Z22 rfl rfl (by omega) ?_ | refine Z23 rfl rfl (by omega) (by omega) ?_ | refine Z24 rfl rfl (by omega) (by omega) (by omega) ?_ | refine Z13 (Z25 rfl rfl) ?_ | refine Z13 (Z26 rfl rfl) ?_) | (refine Z27 ?_; refine Z13 (Z28 rfl (Z53 ⟨by omega, by omega⟩)) ?_) | (refine Z29 ?_; refine Z13 (Z30 rfl (by rfl) (by simp only [Z84, List.set_cons_zero, List.set_cons_succ]; rfl)) ?_) | refine Z31 ?_) | (refine Z32 ?_; first | refine Z33 ?_ | refine Z34 ?_ | refine Z35 ?_ | refine Z36 ?_ | refine Z37 ?_ | refine Z38 rfl ?_ | refine Z39 ?_ | refine Z40 ?_ | refine Z41 ?_) | (refine Z42 ?_; first | refine Z43 ?_ | refine Z44 ?_ | refine Z45 ?_ | refine Z46 ?_ | refine Z47 ?_ | refine Z48 ?_ | refine Z49 rfl (by decide) ?_ | refine Z50 rfl (by decide) ?_))
  refine WO_loadSB rfl kq59 rfl ?_
  repeat (first | (refine Z0 ?_; first | refine Z1 rfl ?_ | (refine Z2 ?_; first | refine Z3 rfl rfl (by decide) ?_ | refine Z4 rfl rfl (by decide) ?_ | refine Z5 rfl rfl ?_) | (refine Z6 ?_; first | refine Z7 rfl rfl ?_ | refine Z8 rfl rfl ?_) | (refine Z9 ?_; first | refine Z10 rfl (by assumption) (by rfl) ?_ | refine Z11 rfl (by assumption) ?_) | (refine Z12 ?_; first | refine Z13 (Z14 rfl (by decide) rfl) ?_ | refine Z13 (Z15 rfl (by decide) rfl) ?_) | (refine Z16 ?_; first | refine Z17 rfl ?_ | refine Z18 rfl ?_) | (refine Z19 ?_; first | refine Z20 rfl rfl (by omega) ?_ | refine Z21 rfl rfl (by omega) ?_ | refine Z22 rfl rfl (by omega) ?_ | refine Z23 rfl rfl (by omega) (by omega) ?_ | refine Z24 rfl rfl (by omega) (by omega) (by omega) ?_ | refine Z13 (Z25 rfl rfl) ?_ | refine Z13 (Z26 rfl rfl) ?_) | (refine Z27 ?_; refine Z13 (Z28 rfl (Z53 ⟨by omega, by omega⟩)) ?_) | (refine Z29 ?_; refine Z13 (Z30 rfl (by rfl) (by simp only [Z84, List.set_cons_zero, List.set_cons_succ]; rfl)) ?_) | refine Z31 ?_) | (refine Z32 ?_; first | refine Z33 ?_ | refine Z34 ?_ | refine Z35 ?_ | refine Z36 ?_ | refine Z37 ?_ | refine Z38 rfl ?_ | refine Z39 ?_ | refine Z40 ?_ | refine Z41 ?_) | (refine Z42 ?_; first | refine Z43 ?_ | refine Z44 ?_ | refine Z45 ?_ | refine Z46 ?_ | refine Z47 ?_ | refine Z48 ?_ | refine Z49 rfl (by decide) ?_ | refine Z50 rfl (by decide) ?_))
  refine WO_loadSB rfl kq11 rfl ?_
  repeat (first | (refine Z0 ?_; first | refine Z1 rfl ?_ | (refine Z2 ?_; first | refine Z3 rfl rfl (by decide) ?_ | refine Z4 rfl rfl (by decide) ?_ | refine Z5 rfl rfl ?_) | (refine Z6 ?_; first | refine Z7 rfl rfl ?_ | refine Z8 rfl rfl ?_) | (refine Z9 ?_; first | refine Z10 rfl (by assumption) (by rfl) ?_ | refine Z11 rfl (by assumption) ?_) | (refine Z12 ?_; first | refine Z13 (Z14 rfl (by decide) rfl) ?_ | refine Z13 (Z15 rfl (by decide) rfl) ?_) | (refine Z16 ?_; first | refine Z17 rfl ?_ | refine Z18 rfl ?_) | (refine Z19 ?_; first | refine Z20 rfl rfl (by omega) ?_ | refine Z21 rfl rfl (by omega) ?_ | refine Z22 rfl rfl (by omega) ?_ | refine Z23 rfl rfl (by omega) (by omega) ?_ | refine Z24 rfl rfl (by omega) (by omega) (by omega) ?_ | refine Z13 (Z25 rfl rfl) ?_ | refine Z13 (Z26 rfl rfl) ?_) | (refine Z27 ?_; refine Z13 (Z28 rfl (Z53 ⟨by omega, by omega⟩)) ?_) | (refine Z29 ?_; refine Z13 (Z30 rfl (by rfl) (by simp only [Z84, List.set_cons_zero, List.set_cons_succ]; rfl)) ?_) | refine Z31 ?_) | (refine Z32 ?_; first | refine Z33 ?_ | refine Z34 ?_ | refine Z35 ?_ | refine Z36 ?_ | refine Z37 ?_ | refine Z38 rfl ?_ | refine Z39 ?_ | refine Z40 ?_ | refine Z41 ?_) | (refine Z42 ?_; first | refine Z43 ?_ | refine Z44 ?_ | refine Z45 ?_ | refine Z46 ?_ | refine Z47 ?_ | refine Z48 ?_ | refine Z49 rfl (by decide) ?_ | refine Z50 rfl (by decide) ?_))
  obtain ⟨Af65, pf65⟩ := gr55.int
  obtain ⟨Bf65, qf65⟩ := gr55.sts
  obtain ⟨Cf65, rf65⟩ := gr7.int
  obtain ⟨Df65, sf65⟩ := gr7.sts
  refine WO_call rfl (eqProgram_ret _ _ _ _ _ _ _ _ Af65 Bf65 Cf65 Df65 _ pf65 qf65 rf65 sf65) ?_
  rintro _ wf65 ⟨rfl, ef65⟩
  rw [decide_eq_true ⟨rfl, rfl⟩]
  replace e0 := Ext.trans e0 ef65
  replace hB0 := hB0.ext ef65
  replace hc4 := hc4.ext ef65
  replace hr7 := hr7.ext ef65
  replace gr7 := gr7.ext ef65
  replace kq9 := kq9.ext ef65
  replace kq11 := kq11.ext ef65
  replace kq17 := kq17.ext ef65
  replace kq22 := kq22.ext ef65
  replace kq24 := kq24.ext ef65
  replace Hm42 := Hm42.ext ef65
  replace Hm45 := Hm45.ext ef65
  replace hc52 := hc52.ext ef65
  replace hr55 := hr55.ext ef65
  replace gr55 := gr55.ext ef65
  replace kq57 := kq57.ext ef65
  replace kq59 := kq59.ext ef65
  have z66 := Ext.size_le ef65
  repeat' (first | (refine Z0 ?_; first | refine Z1 rfl ?_ | (refine Z2 ?_; first | refine Z3 rfl rfl (by decide) ?_ | refine Z4 rfl rfl (by decide) ?_ | refine Z5 rfl rfl ?_ | ((refine Z51 rfl rfl (fun c' hc' => ?_)); cases c' <;> (try simp only [decide_eq_true_eq, decide_eq_false_iff_not, beq_iff_eq, beq_eq_false_iff_ne, bne_iff_ne, bne_eq_false_iff_eq, ne_eq, gt_iff_lt, ge_iff_le, Int.not_lt, Int.not_le, Bool.not_eq_true', Bool.not_eq_false', Bool.not_true, Bool.not_false, reduceCtorEq, Decidable.not_not, not_true_eq_false, Bool.true_eq_false, Bool.false_eq_true] at hc') <;> (try (exfalso; omega)))) | (refine Z6 ?_; first | refine Z7 rfl rfl ?_ | refine Z8 rfl rfl ?_) | (refine Z9 ?_; first | refine Z10 rfl (by assumption) (by rfl) ?_ | refine Z11 rfl (by assumption) ?_) | (refine Z12 ?_; first | refine Z13 (Z14 rfl (by decide) rfl) ?_ | refine Z13 (Z15 rfl (by decide) rfl) ?_) | (refine Z16 ?_; first | refine Z17 rfl ?_ | refine Z18 rfl ?_) | (refine Z19 ?_; first | refine Z20 rfl rfl (by omega) ?_ | refine Z21 rfl rfl (by omega) ?_ | refine Z22 rfl rfl (by omega) ?_ | refine Z23 rfl rfl (by omega) (by omega) ?_ | refine Z24 rfl rfl (by omega) (by omega) (by omega) ?_ | refine Z13 (Z25 rfl rfl) ?_ | refine Z13 (Z26 rfl rfl) ?_) | (refine Z27 ?_; refine Z13 (Z28 rfl (Z53 ⟨by omega, by omega⟩)) ?_) | (refine Z29 ?_; refine Z13 (Z30 rfl (by rfl) (by simp only [Z84, List.set_cons_zero, List.set_cons_succ]; rfl)) ?_) | refine Z31 ?_) | (refine Z32 ?_; first | refine Z33 ?_ | refine Z34 ?_ | refine Z35 ?_ | refine Z36 ?_ | refine Z37 ?_ | refine Z38 rfl ?_ | refine Z39 ?_ | refine Z40 ?_ | refine Z41 ?_) | (refine Z42 ?_; first | refine Z43 ?_ | refine Z44 ?_ | refine Z45 ?_ | refine Z46 ?_ | refine Z47 ?_ | refine Z48 ?_ | refine Z49 rfl (by decide) ?_ | refine Z50 rfl (by decide) ?_ | ((refine Z52 rfl (fun hc' => ?_) (fun hc' => ?_)) <;> (try simp only [decide_eq_true_eq, decide_eq_false_iff_not, beq_iff_eq, beq_eq_false_iff_ne, bne_iff_ne, bne_eq_false_iff_eq, ne_eq, gt_iff_lt, ge_iff_le, Int.not_lt, Int.not_le, Bool.not_eq_true', Bool.not_eq_false', Bool.not_true, Bool.not_false, reduceCtorEq, Decidable.not_not, not_true_eq_false, Bool.true_eq_false, Bool.false_eq_true] at hc') <;> (try (exfalso; omega)))))
  repeat (first | (refine Z0 ?_; first | refine Z1 rfl ?_ | (refine Z2 ?_; first | refine Z3 rfl rfl (by decide) ?_ | refine Z4 rfl rfl (by decide) ?_ | refine Z5 rfl rfl ?_) | (refine Z6 ?_; first | refine Z7 rfl rfl ?_ | refine Z8 rfl rfl ?_) | (refine Z9 ?_; first | refine Z10 rfl (by assumption) (by rfl) ?_ | refine Z11 rfl (by assumption) ?_) | (refine Z12 ?_; first | refine Z13 (Z14 rfl (by decide) rfl) ?_ | refine Z13 (Z15 rfl (by decide) rfl) ?_) | (refine Z16 ?_; first | refine Z17 rfl ?_ | refine Z18 rfl ?_) | (refine Z19 ?_; first | refine Z20 rfl rfl (by omega) ?_ | refine Z21 rfl rfl (by omega) ?_ | refine Z22 rfl rfl (by omega) ?_ | refine Z23 rfl rfl (by omega) (by omega) ?_ | refine Z24 rfl rfl (by omega) (by omega) (by omega) ?_ | refine Z13 (Z25 rfl rfl) ?_ | refine Z13 (Z26 rfl rfl) ?_) | (refine Z27 ?_; refine Z13 (Z28 rfl (Z53 ⟨by omega, by omega⟩)) ?_) | (refine Z29 ?_; refine Z13 (Z30 rfl (by rfl) (by simp only [Z84, List.set_cons_zero, List.set_cons_succ]; rfl)) ?_) | refine Z31 ?_) | (refine Z32 ?_; first | refine Z33 ?_ | refine Z34 ?_ | refine Z35 ?_ | refine Z36 ?_ | refine Z37 ?_ | refine Z38 rfl ?_ | refine Z39 ?_ | refine Z40 ?_ | refine Z41 ?_) | (refine Z42 ?_; first | refine Z43 ?_ | refine Z44 ?_ | refine Z45 ?_ | refine Z46 ?_ | refine Z47 ?_ | refine Z48 ?_ | refine Z49 rfl (by decide) ?_ | refine Z50 rfl (by decide) ?_))
  refine WO_loadSB rfl kq22 rfl ?_
  repeat (first | (refine Z0 ?_; first | refine Z1 rfl ?_ | (refine Z2 ?_; first | refine Z3 rfl rfl (by decide) ?_ | refine Z4 rfl rfl (by decide) ?_ | refine Z5 rfl rfl ?_) | (refine Z6 ?_; first | refine Z7 rfl rfl ?_ | refine Z8 rfl rfl ?_) | (refine Z9 ?_; first | refine Z10 rfl (by assumption) (by rfl) ?_ | refine Z11 rfl (by assumption) ?_) | (refine Z12 ?_; first | refine Z13 (Z14 rfl (by decide) rfl) ?_ | refine Z13 (Z15 rfl (by decide) rfl) ?_) | (refine Z16 ?_; first | refine Z17 rfl ?_ | refine Z18 rfl ?_) | (refine Z19 ?_; first | refine Z20 rfl rfl (by omega) ?_ | refine Z21 rfl rfl (by omega) ?_ | refine Z22 rfl rfl (by omega) ?_ | refine Z23 rfl rfl (by omega) (by omega) ?_ | refine Z24 rfl rfl (by omega) (by omega) (by omega) ?_ | refine Z13 (Z25 rfl rfl) ?_ | refine Z13 (Z26 rfl rfl) ?_) | (refine Z27 ?_; refine Z13 (Z28 rfl (Z53 ⟨by omega, by omega⟩)) ?_) | (refine Z29 ?_; refine Z13 (Z30 rfl (by rfl) (by simp only [Z84, List.set_cons_zero, List.set_cons_succ]; rfl)) ?_) | refine Z31 ?_) | (refine Z32 ?_; first | refine Z33 ?_ | refine Z34 ?_ | refine Z35 ?_ | refine Z36 ?_ | refine Z37 ?_ | refine Z38 rfl ?_ | refine Z39 ?_ | refine Z40 ?_ | refine Z41 ?_) | (refine Z42 ?_; first | refine Z43 ?_ | refine Z44 ?_ | refine Z45 ?_ | refine Z46 ?_ | refine Z47 ?_ | refine Z48 ?_ | refine Z49 rfl (by decide) ?_ | refine Z50 rfl (by decide) ?_))
  obtain ⟨Am67, pm67⟩ := Hm42.int
  obtain ⟨Bm67, qm67⟩ := Hm42.sts
  refine WO_call rfl (heldProgram_ret _ _ (splT tl0 l0 a1).length (splA tl0 l0 a1) Am67 Bm67 ((1 : Int)) _ pm67 qm67 (by omega) (by omega)) ?_
  rintro _ wm67 ⟨rfl, em67⟩
  replace e0 := Ext.trans e0 em67
  replace hB0 := hB0.ext em67
  replace hc4 := hc4.ext em67
  replace hr7 := hr7.ext em67
  replace gr7 := gr7.ext em67
  replace kq9 := kq9.ext em67
  replace kq11 := kq11.ext em67
  replace kq17 := kq17.ext em67
  replace kq22 := kq22.ext em67
  replace kq24 := kq24.ext em67
  replace Hm42 := Hm42.ext em67
  replace Hm45 := Hm45.ext em67
  replace hc52 := hc52.ext em67
  replace hr55 := hr55.ext em67
  replace gr55 := gr55.ext em67
  replace kq57 := kq57.ext em67
  replace kq59 := kq59.ext em67
  have z68 := Ext.size_le em67
  repeat' (first | (refine Z0 ?_; first | refine Z1 rfl ?_ | (refine Z2 ?_; first | refine Z3 rfl rfl (by decide) ?_ | refine Z4 rfl rfl (by decide) ?_ | refine Z5 rfl rfl ?_ | ((refine Z51 rfl rfl (fun c' hc' => ?_)); cases c' <;> (try simp only [decide_eq_true_eq, decide_eq_false_iff_not, beq_iff_eq, beq_eq_false_iff_ne, bne_iff_ne, bne_eq_false_iff_eq, ne_eq, gt_iff_lt, ge_iff_le, Int.not_lt, Int.not_le, Bool.not_eq_true', Bool.not_eq_false', Bool.not_true, Bool.not_false, reduceCtorEq, Decidable.not_not, not_true_eq_false, Bool.true_eq_false, Bool.false_eq_true] at hc') <;> (try (exfalso; omega)))) | (refine Z6 ?_; first | refine Z7 rfl rfl ?_ | refine Z8 rfl rfl ?_) | (refine Z9 ?_; first | refine Z10 rfl (by assumption) (by rfl) ?_ | refine Z11 rfl (by assumption) ?_) | (refine Z12 ?_; first | refine Z13 (Z14 rfl (by decide) rfl) ?_ | refine Z13 (Z15 rfl (by decide) rfl) ?_) | (refine Z16 ?_; first | refine Z17 rfl ?_ | refine Z18 rfl ?_) | (refine Z19 ?_; first | refine Z20 rfl rfl (by omega) ?_ | refine Z21 rfl rfl (by omega) ?_ | refine Z22 rfl rfl (by omega) ?_ | refine Z23 rfl rfl (by omega) (by omega) ?_ | refine Z24 rfl rfl (by omega) (by omega) (by omega) ?_ | refine Z13 (Z25 rfl rfl) ?_ | refine Z13 (Z26 rfl rfl) ?_) | (refine Z27 ?_; refine Z13 (Z28 rfl (Z53 ⟨by omega, by omega⟩)) ?_) | (refine Z29 ?_; refine Z13 (Z30 rfl (by rfl) (by simp only [Z84, List.set_cons_zero, List.set_cons_succ]; rfl)) ?_) | refine Z31 ?_) | (refine Z32 ?_; first | refine Z33 ?_ | refine Z34 ?_ | refine Z35 ?_ | refine Z36 ?_ | refine Z37 ?_ | refine Z38 rfl ?_ | refine Z39 ?_ | refine Z40 ?_ | refine Z41 ?_) | (refine Z42 ?_; first | refine Z43 ?_ | refine Z44 ?_ | refine Z45 ?_ | refine Z46 ?_ | refine Z47 ?_ | refine Z48 ?_ | refine Z49 rfl (by decide) ?_ | refine Z50 rfl (by decide) ?_ | ((refine Z52 rfl (fun hc' => ?_) (fun hc' => ?_)) <;> (try simp only [decide_eq_true_eq, decide_eq_false_iff_not, beq_iff_eq, beq_eq_false_iff_ne, bne_iff_ne, bne_eq_false_iff_eq, ne_eq, gt_iff_lt, ge_iff_le, Int.not_lt, Int.not_le, Bool.not_eq_true', Bool.not_eq_false', Bool.not_true, Bool.not_false, reduceCtorEq, Decidable.not_not, not_true_eq_false, Bool.true_eq_false, Bool.false_eq_true] at hc') <;> (try (exfalso; omega)))))
  repeat (first | (refine Z0 ?_; first | refine Z1 rfl ?_ | (refine Z2 ?_; first | refine Z3 rfl rfl (by decide) ?_ | refine Z4 rfl rfl (by decide) ?_ | refine Z5 rfl rfl ?_) | (refine Z6 ?_; first | refine Z7 rfl rfl ?_ | refine Z8 rfl rfl ?_) | (refine Z9 ?_; first | refine Z10 rfl (by assumption) (by rfl) ?_ | refine Z11 rfl (by assumption) ?_) | (refine Z12 ?_; first | refine Z13 (Z14 rfl (by decide) rfl) ?_ | refine Z13 (Z15 rfl (by decide) rfl) ?_) | (refine Z16 ?_; first | refine Z17 rfl ?_ | refine Z18 rfl ?_) | (refine Z19 ?_; first | refine Z20 rfl rfl (by omega) ?_ | refine Z21 rfl rfl (by omega) ?_ | refine Z22 rfl rfl (by omega) ?_ | refine Z23 rfl rfl (by omega) (by omega) ?_ | refine Z24 rfl rfl (by omega) (by omega) (by omega) ?_ | refine Z13 (Z25 rfl rfl) ?_ | refine Z13 (Z26 rfl rfl) ?_) | (refine Z27 ?_; refine Z13 (Z28 rfl (Z53 ⟨by omega, by omega⟩)) ?_) | (refine Z29 ?_; refine Z13 (Z30 rfl (by rfl) (by simp only [Z84, List.set_cons_zero, List.set_cons_succ]; rfl)) ?_) | refine Z31 ?_) | (refine Z32 ?_; first | refine Z33 ?_ | refine Z34 ?_ | refine Z35 ?_ | refine Z36 ?_ | refine Z37 ?_ | refine Z38 rfl ?_ | refine Z39 ?_ | refine Z40 ?_ | refine Z41 ?_) | (refine Z42 ?_; first | refine Z43 ?_ | refine Z44 ?_ | refine Z45 ?_ | refine Z46 ?_ | refine Z47 ?_ | refine Z48 ?_ | refine Z49 rfl (by decide) ?_ | refine Z50 rfl (by decide) ?_))
  refine WO_loadSB rfl kq24 rfl ?_
  repeat (first | (refine Z0 ?_; first | refine Z1 rfl ?_ | (refine Z2 ?_; first | refine Z3 rfl rfl (by decide) ?_ | refine Z4 rfl rfl (by decide) ?_ | refine Z5 rfl rfl ?_) | (refine Z6 ?_; first | refine Z7 rfl rfl ?_ | refine Z8 rfl rfl ?_) | (refine Z9 ?_; first | refine Z10 rfl (by assumption) (by rfl) ?_ | refine Z11 rfl (by assumption) ?_) | (refine Z12 ?_; first | refine Z13 (Z14 rfl (by decide) rfl) ?_ | refine Z13 (Z15 rfl (by decide) rfl) ?_) | (refine Z16 ?_; first | refine Z17 rfl ?_ | refine Z18 rfl ?_) | (refine Z19 ?_; first | refine Z20 rfl rfl (by omega) ?_ | refine Z21 rfl rfl (by omega) ?_ | refine Z22 rfl rfl (by omega) ?_ | refine Z23 rfl rfl (by omega) (by omega) ?_ | refine Z24 rfl rfl (by omega) (by omega) (by omega) ?_ | refine Z13 (Z25 rfl rfl) ?_ | refine Z13 (Z26 rfl rfl) ?_) | (refine Z27 ?_; refine Z13 (Z28 rfl (Z53 ⟨by omega, by omega⟩)) ?_) | (refine Z29 ?_; refine Z13 (Z30 rfl (by rfl) (by simp only [Z84, List.set_cons_zero, List.set_cons_succ]; rfl)) ?_) | refine Z31 ?_) | (refine Z32 ?_; first | refine Z33 ?_ | refine Z34 ?_ | refine Z35 ?_ | refine Z36 ?_ | refine Z37 ?_ | refine Z38 rfl ?_ | refine Z39 ?_ | refine Z40 ?_ | refine Z41 ?_) | (refine Z42 ?_; first | refine Z43 ?_ | refine Z44 ?_ | refine Z45 ?_ | refine Z46 ?_ | refine Z47 ?_ | refine Z48 ?_ | refine Z49 rfl (by decide) ?_ | refine Z50 rfl (by decide) ?_))
  obtain ⟨Am69, pm69⟩ := Hm45.int
  obtain ⟨Bm69, qm69⟩ := Hm45.sts
  refine WO_call rfl (heldProgram_ret _ _ (splT tl0 l0 a1).length (splB tl0 l0 a1) Am69 Bm69 ((1 : Int) + (splT tl0 l0 a1).length + 4 * cntL (splA tl0 l0 a1)) _ pm69 qm69 (by omega) (by omega)) ?_
  rintro _ wm69 ⟨rfl, em69⟩
  replace e0 := Ext.trans e0 em69
  replace hB0 := hB0.ext em69
  replace hc4 := hc4.ext em69
  replace hr7 := hr7.ext em69
  replace gr7 := gr7.ext em69
  replace kq9 := kq9.ext em69
  replace kq11 := kq11.ext em69
  replace kq17 := kq17.ext em69
  replace kq22 := kq22.ext em69
  replace kq24 := kq24.ext em69
  replace Hm42 := Hm42.ext em69
  replace Hm45 := Hm45.ext em69
  replace hc52 := hc52.ext em69
  replace hr55 := hr55.ext em69
  replace gr55 := gr55.ext em69
  replace kq57 := kq57.ext em69
  replace kq59 := kq59.ext em69
  have z70 := Ext.size_le em69
  repeat' (first | (refine Z0 ?_; first | refine Z1 rfl ?_ | (refine Z2 ?_; first | refine Z3 rfl rfl (by decide) ?_ | refine Z4 rfl rfl (by decide) ?_ | refine Z5 rfl rfl ?_ | ((refine Z51 rfl rfl (fun c' hc' => ?_)); cases c' <;> (try simp only [decide_eq_true_eq, decide_eq_false_iff_not, beq_iff_eq, beq_eq_false_iff_ne, bne_iff_ne, bne_eq_false_iff_eq, ne_eq, gt_iff_lt, ge_iff_le, Int.not_lt, Int.not_le, Bool.not_eq_true', Bool.not_eq_false', Bool.not_true, Bool.not_false, reduceCtorEq, Decidable.not_not, not_true_eq_false, Bool.true_eq_false, Bool.false_eq_true] at hc') <;> (try (exfalso; omega)))) | (refine Z6 ?_; first | refine Z7 rfl rfl ?_ | refine Z8 rfl rfl ?_) | (refine Z9 ?_; first | refine Z10 rfl (by assumption) (by rfl) ?_ | refine Z11 rfl (by assumption) ?_) | (refine Z12 ?_; first | refine Z13 (Z14 rfl (by decide) rfl) ?_ | refine Z13 (Z15 rfl (by decide) rfl) ?_) | (refine Z16 ?_; first | refine Z17 rfl ?_ | refine Z18 rfl ?_) | (refine Z19 ?_; first | refine Z20 rfl rfl (by omega) ?_ | refine Z21 rfl rfl (by omega) ?_ | refine Z22 rfl rfl (by omega) ?_ | refine Z23 rfl rfl (by omega) (by omega) ?_ | refine Z24 rfl rfl (by omega) (by omega) (by omega) ?_ | refine Z13 (Z25 rfl rfl) ?_ | refine Z13 (Z26 rfl rfl) ?_) | (refine Z27 ?_; refine Z13 (Z28 rfl (Z53 ⟨by omega, by omega⟩)) ?_) | (refine Z29 ?_; refine Z13 (Z30 rfl (by rfl) (by simp only [Z84, List.set_cons_zero, List.set_cons_succ]; rfl)) ?_) | refine Z31 ?_) | (refine Z32 ?_; first | refine Z33 ?_ | refine Z34 ?_ | refine Z35 ?_ | refine Z36 ?_ | refine Z37 ?_ | refine Z38 rfl ?_ | refine Z39 ?_ | refine Z40 ?_ | refine Z41 ?_) | (refine Z42 ?_; first | refine Z43 ?_ | refine Z44 ?_ | refine Z45 ?_ | refine Z46 ?_ | refine Z47 ?_ | refine Z48 ?_ | refine Z49 rfl (by decide) ?_ | refine Z50 rfl (by decide) ?_ | ((refine Z52 rfl (fun hc' => ?_) (fun hc' => ?_)) <;> (try simp only [decide_eq_true_eq, decide_eq_false_iff_not, beq_iff_eq, beq_eq_false_iff_ne, bne_iff_ne, bne_eq_false_iff_eq, ne_eq, gt_iff_lt, ge_iff_le, Int.not_lt, Int.not_le, Bool.not_eq_true', Bool.not_eq_false', Bool.not_true, Bool.not_false, reduceCtorEq, Decidable.not_not, not_true_eq_false, Bool.true_eq_false, Bool.false_eq_true] at hc') <;> (try (exfalso; omega)))))
  repeat' (first | (refine Z0 ?_; first | refine Z1 rfl ?_ | (refine Z2 ?_; first | refine Z3 rfl rfl (by decide) ?_ | refine Z4 rfl rfl (by decide) ?_ | refine Z5 rfl rfl ?_ | ((refine Z51 rfl rfl (fun c' hc' => ?_)); cases c' <;> (try simp only [decide_eq_true_eq, decide_eq_false_iff_not, beq_iff_eq, beq_eq_false_iff_ne, bne_iff_ne, bne_eq_false_iff_eq, ne_eq, gt_iff_lt, ge_iff_le, Int.not_lt, Int.not_le, Bool.not_eq_true', Bool.not_eq_false', Bool.not_true, Bool.not_false, reduceCtorEq, Decidable.not_not, not_true_eq_false, Bool.true_eq_false, Bool.false_eq_true] at hc') <;> (try (exfalso; omega)))) | (refine Z6 ?_; first | refine Z7 rfl rfl ?_ | refine Z8 rfl rfl ?_) | (refine Z9 ?_; first | refine Z10 rfl (by assumption) (by rfl) ?_ | refine Z11 rfl (by assumption) ?_) | (refine Z12 ?_; first | refine Z13 (Z14 rfl (by decide) rfl) ?_ | refine Z13 (Z15 rfl (by decide) rfl) ?_) | (refine Z16 ?_; first | refine Z17 rfl ?_ | refine Z18 rfl ?_) | (refine Z19 ?_; first | refine Z20 rfl rfl (by omega) ?_ | refine Z21 rfl rfl (by omega) ?_ | refine Z22 rfl rfl (by omega) ?_ | refine Z23 rfl rfl (by omega) (by omega) ?_ | refine Z24 rfl rfl (by omega) (by omega) (by omega) ?_ | refine Z13 (Z25 rfl rfl) ?_ | refine Z13 (Z26 rfl rfl) ?_) | (refine Z27 ?_; refine Z13 (Z28 rfl (Z53 ⟨by omega, by omega⟩)) ?_) | (refine Z29 ?_; refine Z13 (Z30 rfl (by rfl) (by simp only [Z84, List.set_cons_zero, List.set_cons_succ]; rfl)) ?_) | refine Z31 ?_) | (refine Z32 ?_; first | refine Z33 ?_ | refine Z34 ?_ | refine Z35 ?_ | refine Z36 ?_ | refine Z37 ?_ | refine Z38 rfl ?_ | refine Z39 ?_ | refine Z40 ?_ | refine Z41 ?_) | (refine Z42 ?_; first | refine Z43 ?_ | refine Z44 ?_ | refine Z45 ?_ | refine Z46 ?_ | refine Z47 ?_ | refine Z48 ?_ | refine Z49 rfl (by decide) ?_ | refine Z50 rfl (by decide) ?_ | ((refine Z52 rfl (fun hc' => ?_) (fun hc' => ?_)) <;> (try simp only [decide_eq_true_eq, decide_eq_false_iff_not, beq_iff_eq, beq_eq_false_iff_ne, bne_iff_ne, bne_eq_false_iff_eq, ne_eq, gt_iff_lt, ge_iff_le, Int.not_lt, Int.not_le, Bool.not_eq_true', Bool.not_eq_false', Bool.not_true, Bool.not_false, reduceCtorEq, Decidable.not_not, not_true_eq_false, Bool.true_eq_false, Bool.false_eq_true] at hc') <;> (try (exfalso; omega)))))
  exact at_ret1 rfl rfl ⟨rfl, e0⟩
end Go.Proofs.Ytpmfngnhfgnkmaa
