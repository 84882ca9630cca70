/-
  What is proved here: the law FnExactFormatProgram.
-/
import Derived.Test.YteonnoijdnjpdaaDoorFp
import Derived.Test.YteonnoijdnjpdaaDoorOpenS
import Derived.Test.YteonnoijdnjpdaaDoorPr
import Derived.Test.YteonnoijdnjpdaaDoorWx
namespace Go.Proofs.YteonnoijdnjpdaaDoor
set_option linter.unusedVariables false
set_option linter.unusedSimpArgs false
set_option linter.unnecessarySimpa false
open Go.RowKit

theorem FnExactFormatProgram_ret {w : World} {p0 : PrArg} {v0 : Value} (hp0 : p0.In w v0) :
    Ret Tryd.prog 3 [v0] w fun r w' => r = .bool true ∧ Ext w w' := by
  obtain ⟨tv0, bv0, tl0, l0, Ft0, Fl0⟩ := p0
  obtain ⟨rfl, ht0, hl0⟩ := hp0
  simp only at ht0 hl0
  have e0 := Ext.refl w
  refine enter Tryd.func3 rfl Tryd.ntmps3 rfl rfl ?_
  refine Z43 (Z44 ?_)
  refine WO_box rfl fun wB0 hB0 eB0 zB0 => ?_
  replace e0 := Ext.trans e0 eB0
  have z1 := Ext.size_le eB0
  replace hB0 : Blk wB0 w.heap.size [tv0, bv0] _ := hB0
  refine goS ?_
  refine WO_loadSB rfl hB0 rfl ?_
  refine goS ?_
  refine WO_call rfl (szProgram_ret tv0 bv0 tl0 l0 Ft0 Fl0 ((1048576 : Int)) _ (ht0.ext e0) (hl0.ext e0) (by omega) (by omega)) ?_
  rintro _ wz2 ⟨rfl, ez2⟩
  replace e0 := Ext.trans e0 ez2
  replace hB0 := hB0.ext ez2
  have z3 := Ext.size_le ez2
  by_cases hle0 : ((tl0.length + cntL l0 : Nat) : Int) ≤ (1048576 : Int)
  rotate_left
  · rw [if_neg hle0]
    (refine goS ?_; repeat' (first | ((refine Z51 rfl rfl (fun c' hc' => ?_)); cases c' <;> (try simp only [decide_eq_true_eq, decide_eq_false_iff_not, beq_iff_eq, beq_eq_false_iff_ne, bne_iff_ne, bne_eq_false_iff_eq, ne_eq, gt_iff_lt, ge_iff_le, Int.not_lt, Int.not_le, Bool.not_eq_true', Bool.not_eq_false', Bool.not_true, Bool.not_false, reduceCtorEq, Decidable.not_not, not_true_eq_false, Bool.true_eq_false, Bool.false_eq_true] at hc') <;> (try (exfalso; omega)) <;> refine goS ?_) | ((refine Z52 rfl (fun hc' => ?_) (fun hc' => ?_)) <;> (try simp only [decide_eq_true_eq, decide_eq_false_iff_not, beq_iff_eq, beq_eq_false_iff_ne, bne_iff_ne, bne_eq_false_iff_eq, ne_eq, gt_iff_lt, ge_iff_le, Int.not_lt, Int.not_le, Bool.not_eq_true', Bool.not_eq_false', Bool.not_true, Bool.not_false, reduceCtorEq, Decidable.not_not, not_true_eq_false, Bool.true_eq_false, Bool.false_eq_true] at hc') <;> (try (exfalso; omega)) <;> refine goS ?_)))
    exact at_ret1 rfl rfl ⟨rfl, e0⟩
  rw [if_pos hle0]
  (refine goS ?_; repeat' (first | ((refine Z51 rfl rfl (fun c' hc' => ?_)); cases c' <;> (try simp only [decide_eq_true_eq, decide_eq_false_iff_not, beq_iff_eq, beq_eq_false_iff_ne, bne_iff_ne, bne_eq_false_iff_eq, ne_eq, gt_iff_lt, ge_iff_le, Int.not_lt, Int.not_le, Bool.not_eq_true', Bool.not_eq_false', Bool.not_true, Bool.not_false, reduceCtorEq, Decidable.not_not, not_true_eq_false, Bool.true_eq_false, Bool.false_eq_true] at hc') <;> (try (exfalso; omega)) <;> refine goS ?_) | ((refine Z52 rfl (fun hc' => ?_) (fun hc' => ?_)) <;> (try simp only [decide_eq_true_eq, decide_eq_false_iff_not, beq_iff_eq, beq_eq_false_iff_ne, bne_iff_ne, bne_eq_false_iff_eq, ne_eq, gt_iff_lt, ge_iff_le, Int.not_lt, Int.not_le, Bool.not_eq_true', Bool.not_eq_false', Bool.not_true, Bool.not_false, reduceCtorEq, Decidable.not_not, not_true_eq_false, Bool.true_eq_false, Bool.false_eq_true] at hc') <;> (try (exfalso; omega)) <;> refine goS ?_)))
  refine WO_loadSB rfl hB0 rfl ?_
  refine goS ?_
  refine WO_call rfl (toProgram_ret tv0 bv0 tl0 l0 Ft0 Fl0 _ (ht0.ext e0) (hl0.ext e0) (by omega)) ?_
  rintro _ wc4 ⟨⟨tc4, bc4, rfl, hc4⟩, ec4⟩
  replace e0 := Ext.trans e0 ec4
  replace hB0 := hB0.ext ec4
  have z5 := Ext.size_le ec4
  refine goS ?_
  obtain ⟨Af6, pf6⟩ := (hc4).int
  obtain ⟨Bf6, qf6⟩ := (hc4).sts
  refine WO_call rfl (sFormatProgram_ret tc4 bc4 tl0 l0 _ _ _ pf6 qf6 (by omega)) ?_
  rintro _ wr7 ⟨rfl, er7⟩
  replace e0 := Ext.trans e0 er7
  replace hB0 := hB0.ext er7
  replace hc4 := hc4.ext er7
  have z8 := Ext.size_le er7
  refine goS ?_
  refine WO_loadSB rfl hB0 rfl ?_
  refine WO_call rfl (toProgram_ret tv0 bv0 tl0 l0 Ft0 Fl0 _ (ht0.ext e0) (hl0.ext e0) (by omega)) ?_
  rintro _ wc9 ⟨⟨tc9, bc9, rfl, hc9⟩, ec9⟩
  replace e0 := Ext.trans e0 ec9
  replace hB0 := hB0.ext ec9
  replace hc4 := hc4.ext ec9
  have z10 := Ext.size_le ec9
  refine goS ?_
  obtain ⟨onq11, omq11⟩ := hc9.ones
  refine WO_alloc fun wq11 hq11 eq11 zq11 => ?_
  refine goS ?_
  refine WO_storeS (k := 2) (vs := [tc9, bc9]) rfl rfl rfl (by intro v hv; simp at hv; rcases hv with rfl | rfl <;> first | rfl | assumption) hq11 (by decide) fun wzq11 hzq11 ozq11 => ?_
  have ezq11 := Ext.only eq11 ozq11 (Nat.le_refl _)
  replace e0 := Ext.trans e0 ezq11
  replace hB0 := hB0.ext ezq11
  replace hc4 := hc4.ext ezq11
  replace hc9 := hc9.ext ezq11
  have z12 := Ext.size_le ezq11
  have kq11 : Blk wzq11 wc9.heap.size [tc9, bc9] _ := hzq11
  refine goS ?_
  refine WO_loadSB rfl kq11 rfl ?_
  refine goS ?_
  obtain ⟨Af13, pf13⟩ := (hc9).int
  obtain ⟨Bf13, qf13⟩ := (hc9).sts
  refine WO_call rfl (FormatProgram_ret tc9 bc9 tl0 l0 _ _ _ pf13 qf13) ?_
  rintro _ wr14 ⟨rfl, er14⟩
  replace e0 := Ext.trans e0 er14
  replace hB0 := hB0.ext er14
  replace hc4 := hc4.ext er14
  replace hc9 := hc9.ext er14
  replace kq11 := kq11.ext er14
  have z15 := Ext.size_le er14
  refine goT ?_
  rw [show (!decide (fmtT tl0 l0 = fmtT tl0 l0)) = false from by simp]
  refine goT ?_
  refine W_heldX [(1, .pointer (some ⟨w.heap.size, 0, none⟩)), (4, sV (fmtT tl0 l0)), (5, .pointer (some ⟨wc9.heap.size, 0, none⟩)), (6, sV (fmtT tl0 l0)), (26, .bool false)] (by kernel_rfl) (fun wsd16 esd16 hSd16 => ?_) (fun wtd16 etd16 => ?_)
  · refine Z82 0 rfl (by kernel_rfl) (by kernel_rfl) (by kernel_rfl) (by assumption) (fun w' hw' => q_loadS (cs := [tc9, bc9]) rfl rfl (fun j u hu => by rw [Nat.zero_add]; exact ((kq11.ext esd16).ext hw'.ext).cell hu)) ?_
    refine Z82 1 rfl (by kernel_rfl) (by kernel_rfl) (by kernel_rfl) (by assumption) (fun w' hw' => q_loadS (cs := [tv0, bv0]) rfl rfl (fun j u hu => by rw [Nat.zero_add]; exact ((hB0.ext esd16).ext hw'.ext).cell hu)) ?_
    refine WX_call 2 rfl (by kernel_rfl) rfl (toProgram_ret tv0 bv0 tl0 l0 Ft0 Fl0 _ (ht0.ext (e0.trans esd16)) (hl0.ext (e0.trans esd16)) (by omega)) ?_
    rintro _ wc17 ⟨⟨tc17, bc17, rfl, hc17⟩, ec17⟩
    have S2 := Ext.chg ec17 []
    refine ⟨S2, ?_⟩
    obtain ⟨Ad16, pd16⟩ := ((hc9.ext esd16).ext ec17).int
    obtain ⟨Bd16, qd16⟩ := ((hc9.ext esd16).ext ec17).sts
    obtain ⟨Cd16, rd16⟩ := hc17.int
    obtain ⟨Dd16, sd16⟩ := hc17.sts
    refine WX_call 3 rfl (by kernel_rfl) rfl (eqProgram_ret _ _ _ _ _ _ _ _ Ad16 Bd16 Cd16 Dd16 _ pd16 qd16 rd16 sd16) ?_
    rintro _ wd16 ⟨rfl, ed16⟩
    rw [decide_eq_true ⟨rfl, rfl⟩]
    have S3 := Ext.chg (Ext.trans ec17 ed16) []
    refine ⟨S3, ?_⟩
    refine Z82 4 rfl (by kernel_rfl) (by kernel_rfl) (by kernel_rfl) (by assumption) (fun w' hw' => Z56 rfl) ?_
    exact WH_done (by kernel_rfl) (by repeat (first | exact True.intro | refine And.intro rfl ?_)) (esd16.trans (ec17.trans ed16))
  replace e0 := Ext.trans e0 etd16
  replace hB0 := hB0.ext etd16
  replace hc4 := hc4.ext etd16
  replace hc9 := hc9.ext etd16
  replace kq11 := kq11.ext etd16
  have z18 := Ext.size_le etd16
  refine goS ?_
  exact at_ret1 rfl rfl ⟨rfl, e0⟩
end Go.Proofs.YteonnoijdnjpdaaDoor
