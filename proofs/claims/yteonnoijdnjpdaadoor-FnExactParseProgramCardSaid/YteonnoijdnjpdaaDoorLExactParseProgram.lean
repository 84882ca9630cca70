/-
  What is proved here: the law FnExactParseProgram.
-/
import Derived.Test.YteonnoijdnjpdaaDoorRdP
import Derived.Test.YteonnoijdnjpdaaDoorPr
import Derived.Test.YteonnoijdnjpdaaDoorWx
namespace Go.Proofs.YteonnoijdnjpdaaDoor
set_option linter.unusedVariables false
set_option linter.unusedSimpArgs false
set_option linter.unnecessarySimpa false
open Go.RowKit

theorem paT_len (t : Tx) : (paT (parseS t)).length ≤ 6 := by
  cases h : parseS t with
  | none => simp [paT]
  | some p => exact okT_len (vp_parts (parseS_valid (tl := p.1) (l := p.2) h).1).1
theorem paL_cnt (t : Tx) : cntL (paL (parseS t)) ≤ 30 := by
  cases h : parseS t with
  | none => simp [paL, cntL]
  | some p => exact (vp_parts (parseS_valid (tl := p.1) (l := p.2) h).1).2.2
theorem FnExactParseProgram_ret {w : World} (s : ByteArray) (_ : s.size ≤ maxLen) (hm : ∃ m, w.cell? ⟨0, 0, none⟩ = some (.int .i64 m)) :
    Ret Tryd.prog 4 [.string s] w fun r w' => r = .bool true ∧ Ext w w' := by
  obtain ⟨m, hm⟩ := hm
  obtain ⟨t, rfl⟩ : ∃ t : Tx, s = ⟨t.toArray⟩ := ⟨s.data.toList, by cases s; simp⟩
  change Ret Tryd.prog 4 [sV t] w _
  have e0 := Ext.refl w
  refine enter Tryd.func4 rfl Tryd.ntmps4 rfl rfl ?_
  have hsT := paT_len t
  have hsB := paL_cnt t
  refine goT ?_
  by_cases hlen : (t.length : Int) > 1048576
  · rw [decide_eq_true hlen]
    refine goT ?_
    exact at_ret1 rfl rfl ⟨rfl, e0⟩
  rw [decide_eq_false hlen]
  refine goT ?_
  refine WO_call rfl (sParseProgram_ret t _ (by omega)) ?_
  rintro _ wr1 ⟨tr1, br1, rfl, hr1, er1⟩
  replace e0 := Ext.trans e0 er1
  have z2 := Ext.size_le er1
  refine goS ?_
  refine WO_alloc fun wq3 hq3 eq3 zq3 => ?_
  replace e0 := Ext.trans e0 eq3
  replace hr1 := hr1.ext eq3
  have z4 := Ext.size_le eq3
  have hltq3 := Blk.lt hq3
  refine goS ?_
  obtain ⟨onq3, omq3⟩ := hr1.ones
  refine WO_storeS (k := 2) (vs := [tr1, br1]) rfl rfl rfl (by intro v hv; simp at hv; rcases hv with rfl | rfl <;> assumption) hq3 (by decide) fun wzq3 hzq3 ozq3 => ?_
  have czq3 := Only.toI ozq3
  replace e0 := e0.chgI czq3 (by omega)
  replace hr1 := hr1.chgI czq3 (by omega)
  have z5 := ChgI.size czq3
  have kq3 : Blk wzq3 wr1.heap.size [tr1, br1] _ := hzq3
  refine goS ?_
  refine WO_call rfl (ParseProgram_ret t m _ (cell_ext hm e0)) ?_
  rintro _ wr6 ⟨tr6, br6, rfl, hr6, er6⟩
  replace e0 := Ext.trans e0 er6
  replace hr1 := hr1.ext er6
  replace kq3 := kq3.ext er6
  have z7 := Ext.size_le er6
  refine goS ?_
  refine WO_alloc fun wq8 hq8 eq8 zq8 => ?_
  replace e0 := Ext.trans e0 eq8
  replace hr1 := hr1.ext eq8
  replace kq3 := kq3.ext eq8
  replace hr6 := hr6.ext eq8
  have z9 := Ext.size_le eq8
  have hltq8 := Blk.lt hq8
  refine goS ?_
  obtain ⟨onq8, omq8⟩ := hr6.ones
  refine WO_storeS (k := 2) (vs := [tr6, br6]) rfl rfl rfl (by intro v hv; simp at hv; rcases hv with rfl | rfl <;> assumption) hq8 (by decide) fun wzq8 hzq8 ozq8 => ?_
  have czq8 := Only.toI ozq8
  replace e0 := e0.chgI czq8 (by omega)
  replace hr1 := hr1.chgI czq8 (by omega)
  replace kq3 := kq3.chgI czq8 (by omega)
  replace hr6 := hr6.chgI czq8 (by omega)
  have z10 := ChgI.size czq8
  have kq8 : Blk wzq8 wr6.heap.size [tr6, br6] _ := hzq8
  refine goS ?_
  refine WO_loadSB rfl kq8 rfl ?_
  refine goS ?_
  refine WO_loadSB rfl kq3 rfl ?_
  refine goS ?_
  obtain ⟨Af11, pf11⟩ := hr6.int
  obtain ⟨Bf11, qf11⟩ := hr6.sts
  obtain ⟨Cf11, rf11⟩ := hr1.int
  obtain ⟨Df11, sf11⟩ := hr1.sts
  refine WO_call rfl (eqProgram_ret _ _ _ _ _ _ _ _ Af11 Bf11 Cf11 Df11 _ pf11 qf11 rf11 sf11) ?_
  rintro _ wf11 ⟨rfl, ef11⟩
  rw [decide_eq_true ⟨rfl, rfl⟩]
  replace e0 := Ext.trans e0 ef11
  replace hr1 := hr1.ext ef11
  replace kq3 := kq3.ext ef11
  replace hr6 := hr6.ext ef11
  replace kq8 := kq8.ext ef11
  have z12 := Ext.size_le ef11
  (refine goS ?_; repeat' (first | ((refine Z51 rfl rfl (fun c' hc' => ?_)); cases c' <;> (try simp only [decide_eq_true_eq, decide_eq_false_iff_not, beq_iff_eq, beq_eq_false_iff_ne, bne_iff_ne, bne_eq_false_iff_eq, ne_eq, gt_iff_lt, ge_iff_le, Int.not_lt, Int.not_le, Bool.not_eq_true', Bool.not_eq_false', Bool.not_true, Bool.not_false, reduceCtorEq, Decidable.not_not, not_true_eq_false, Bool.true_eq_false, Bool.false_eq_true] at hc') <;> (try (exfalso; omega)) <;> refine goS ?_) | ((refine Z52 rfl (fun hc' => ?_) (fun hc' => ?_)) <;> (try simp only [decide_eq_true_eq, decide_eq_false_iff_not, beq_iff_eq, beq_eq_false_iff_ne, bne_iff_ne, bne_eq_false_iff_eq, ne_eq, gt_iff_lt, ge_iff_le, Int.not_lt, Int.not_le, Bool.not_eq_true', Bool.not_eq_false', Bool.not_true, Bool.not_false, reduceCtorEq, Decidable.not_not, not_true_eq_false, Bool.true_eq_false, Bool.false_eq_true] at hc') <;> (try (exfalso; omega)) <;> refine goS ?_)))
  refine goS ?_
  refine WO_loadSB rfl kq8 rfl ?_
  refine goS ?_
  refine WO_call rfl (markProgram_ret _ _ (paT (parseS t)) (paL (parseS t)) _ _ ((1 : Int)) _ hr6 (by omega) (by omega)) ?_
  rintro _ wm13 ⟨rfl, Hm13, wbm13, em13, cm13⟩
  replace e0 := Ext.trans e0 em13
  replace hr1 := hr1.ext em13
  replace kq3 := kq3.ext em13
  replace kq8 := kq8.ext em13
  have z14 := Ext.size_le em13
  replace e0 := e0.chgI cm13 (by omega)
  replace hr1 := hr1.chgI cm13 (by omega)
  replace kq3 := kq3.chgI cm13 (by omega)
  replace kq8 := kq8.chgI cm13 (by omega)
  have z15 := ChgI.size cm13
  refine goS ?_
  refine WO_loadSB rfl kq8 rfl ?_
  refine goS ?_
  obtain ⟨Am16, pm16⟩ := Hm13.int
  obtain ⟨Bm16, qm16⟩ := Hm13.sts
  refine WO_call rfl (heldProgram_ret _ _ (paT (parseS t)).length (paL (parseS t)) Am16 Bm16 ((1 : Int)) _ pm16 qm16 (by omega) (by omega)) ?_
  rintro _ wm16 ⟨rfl, em16⟩
  replace e0 := Ext.trans e0 em16
  replace hr1 := hr1.ext em16
  replace kq3 := kq3.ext em16
  replace kq8 := kq8.ext em16
  replace Hm13 := Hm13.ext em16
  have z17 := Ext.size_le em16
  (refine goS ?_; repeat' (first | ((refine Z51 rfl rfl (fun c' hc' => ?_)); cases c' <;> (try simp only [decide_eq_true_eq, decide_eq_false_iff_not, beq_iff_eq, beq_eq_false_iff_ne, bne_iff_ne, bne_eq_false_iff_eq, ne_eq, gt_iff_lt, ge_iff_le, Int.not_lt, Int.not_le, Bool.not_eq_true', Bool.not_eq_false', Bool.not_true, Bool.not_false, reduceCtorEq, Decidable.not_not, not_true_eq_false, Bool.true_eq_false, Bool.false_eq_true] at hc') <;> (try (exfalso; omega)) <;> refine goS ?_) | ((refine Z52 rfl (fun hc' => ?_) (fun hc' => ?_)) <;> (try simp only [decide_eq_true_eq, decide_eq_false_iff_not, beq_iff_eq, beq_eq_false_iff_ne, bne_iff_ne, bne_eq_false_iff_eq, ne_eq, gt_iff_lt, ge_iff_le, Int.not_lt, Int.not_le, Bool.not_eq_true', Bool.not_eq_false', Bool.not_true, Bool.not_false, reduceCtorEq, Decidable.not_not, not_true_eq_false, Bool.true_eq_false, Bool.false_eq_true] at hc') <;> (try (exfalso; omega)) <;> refine goS ?_)))
  (refine goS ?_; repeat' (first | ((refine Z51 rfl rfl (fun c' hc' => ?_)); cases c' <;> (try simp only [decide_eq_true_eq, decide_eq_false_iff_not, beq_iff_eq, beq_eq_false_iff_ne, bne_iff_ne, bne_eq_false_iff_eq, ne_eq, gt_iff_lt, ge_iff_le, Int.not_lt, Int.not_le, Bool.not_eq_true', Bool.not_eq_false', Bool.not_true, Bool.not_false, reduceCtorEq, Decidable.not_not, not_true_eq_false, Bool.true_eq_false, Bool.false_eq_true] at hc') <;> (try (exfalso; omega)) <;> refine goS ?_) | ((refine Z52 rfl (fun hc' => ?_) (fun hc' => ?_)) <;> (try simp only [decide_eq_true_eq, decide_eq_false_iff_not, beq_iff_eq, beq_eq_false_iff_ne, bne_iff_ne, bne_eq_false_iff_eq, ne_eq, gt_iff_lt, ge_iff_le, Int.not_lt, Int.not_le, Bool.not_eq_true', Bool.not_eq_false', Bool.not_true, Bool.not_false, reduceCtorEq, Decidable.not_not, not_true_eq_false, Bool.true_eq_false, Bool.false_eq_true] at hc') <;> (try (exfalso; omega)) <;> refine goS ?_)))
  refine goS ?_
  refine WO_call rfl (ParseProgram_ret t m _ (cell_ext hm e0)) ?_
  rintro _ wr18 ⟨tr18, br18, rfl, hr18, er18⟩
  replace e0 := Ext.trans e0 er18
  replace hr1 := hr1.ext er18
  replace kq3 := kq3.ext er18
  replace kq8 := kq8.ext er18
  replace Hm13 := Hm13.ext er18
  have z19 := Ext.size_le er18
  refine goS ?_
  refine WO_alloc fun wq20 hq20 eq20 zq20 => ?_
  replace e0 := Ext.trans e0 eq20
  replace hr1 := hr1.ext eq20
  replace kq3 := kq3.ext eq20
  replace kq8 := kq8.ext eq20
  replace Hm13 := Hm13.ext eq20
  replace hr18 := hr18.ext eq20
  have z21 := Ext.size_le eq20
  have hltq20 := Blk.lt hq20
  refine goS ?_
  obtain ⟨onq20, omq20⟩ := hr18.ones
  refine WO_storeS (k := 2) (vs := [tr18, br18]) rfl rfl rfl (by intro v hv; simp at hv; rcases hv with rfl | rfl <;> assumption) hq20 (by decide) fun wzq20 hzq20 ozq20 => ?_
  have czq20 := Only.toI ozq20
  replace e0 := e0.chgI czq20 (by omega)
  replace hr1 := hr1.chgI czq20 (by omega)
  replace kq3 := kq3.chgI czq20 (by omega)
  replace kq8 := kq8.chgI czq20 (by omega)
  replace Hm13 := Hm13.chgI czq20 (by omega)
  replace hr18 := hr18.chgI czq20 (by omega)
  have z22 := ChgI.size czq20
  have kq20 : Blk wzq20 wr18.heap.size [tr18, br18] _ := hzq20
  refine goS ?_
  refine WO_loadSB rfl kq20 rfl ?_
  refine goS ?_
  refine WO_loadSB rfl kq3 rfl ?_
  refine goS ?_
  obtain ⟨Af23, pf23⟩ := hr18.int
  obtain ⟨Bf23, qf23⟩ := hr18.sts
  obtain ⟨Cf23, rf23⟩ := hr1.int
  obtain ⟨Df23, sf23⟩ := hr1.sts
  refine WO_call rfl (eqProgram_ret _ _ _ _ _ _ _ _ Af23 Bf23 Cf23 Df23 _ pf23 qf23 rf23 sf23) ?_
  rintro _ wf23 ⟨rfl, ef23⟩
  rw [decide_eq_true ⟨rfl, rfl⟩]
  replace e0 := Ext.trans e0 ef23
  replace hr1 := hr1.ext ef23
  replace kq3 := kq3.ext ef23
  replace kq8 := kq8.ext ef23
  replace Hm13 := Hm13.ext ef23
  replace hr18 := hr18.ext ef23
  replace kq20 := kq20.ext ef23
  have z24 := Ext.size_le ef23
  (refine goS ?_; repeat' (first | ((refine Z51 rfl rfl (fun c' hc' => ?_)); cases c' <;> (try simp only [decide_eq_true_eq, decide_eq_false_iff_not, beq_iff_eq, beq_eq_false_iff_ne, bne_iff_ne, bne_eq_false_iff_eq, ne_eq, gt_iff_lt, ge_iff_le, Int.not_lt, Int.not_le, Bool.not_eq_true', Bool.not_eq_false', Bool.not_true, Bool.not_false, reduceCtorEq, Decidable.not_not, not_true_eq_false, Bool.true_eq_false, Bool.false_eq_true] at hc') <;> (try (exfalso; omega)) <;> refine goS ?_) | ((refine Z52 rfl (fun hc' => ?_) (fun hc' => ?_)) <;> (try simp only [decide_eq_true_eq, decide_eq_false_iff_not, beq_iff_eq, beq_eq_false_iff_ne, bne_iff_ne, bne_eq_false_iff_eq, ne_eq, gt_iff_lt, ge_iff_le, Int.not_lt, Int.not_le, Bool.not_eq_true', Bool.not_eq_false', Bool.not_true, Bool.not_false, reduceCtorEq, Decidable.not_not, not_true_eq_false, Bool.true_eq_false, Bool.false_eq_true] at hc') <;> (try (exfalso; omega)) <;> refine goS ?_)))
  refine goS ?_
  refine WO_loadSB rfl kq8 rfl ?_
  refine goS ?_
  obtain ⟨Am25, pm25⟩ := Hm13.int
  obtain ⟨Bm25, qm25⟩ := Hm13.sts
  refine WO_call rfl (heldProgram_ret _ _ (paT (parseS t)).length (paL (parseS t)) Am25 Bm25 ((1 : Int)) _ pm25 qm25 (by omega) (by omega)) ?_
  rintro _ wm25 ⟨rfl, em25⟩
  replace e0 := Ext.trans e0 em25
  replace hr1 := hr1.ext em25
  replace kq3 := kq3.ext em25
  replace kq8 := kq8.ext em25
  replace Hm13 := Hm13.ext em25
  replace hr18 := hr18.ext em25
  replace kq20 := kq20.ext em25
  have z26 := Ext.size_le em25
  (refine goS ?_; repeat' (first | ((refine Z51 rfl rfl (fun c' hc' => ?_)); cases c' <;> (try simp only [decide_eq_true_eq, decide_eq_false_iff_not, beq_iff_eq, beq_eq_false_iff_ne, bne_iff_ne, bne_eq_false_iff_eq, ne_eq, gt_iff_lt, ge_iff_le, Int.not_lt, Int.not_le, Bool.not_eq_true', Bool.not_eq_false', Bool.not_true, Bool.not_false, reduceCtorEq, Decidable.not_not, not_true_eq_false, Bool.true_eq_false, Bool.false_eq_true] at hc') <;> (try (exfalso; omega)) <;> refine goS ?_) | ((refine Z52 rfl (fun hc' => ?_) (fun hc' => ?_)) <;> (try simp only [decide_eq_true_eq, decide_eq_false_iff_not, beq_iff_eq, beq_eq_false_iff_ne, bne_iff_ne, bne_eq_false_iff_eq, ne_eq, gt_iff_lt, ge_iff_le, Int.not_lt, Int.not_le, Bool.not_eq_true', Bool.not_eq_false', Bool.not_true, Bool.not_false, reduceCtorEq, Decidable.not_not, not_true_eq_false, Bool.true_eq_false, Bool.false_eq_true] at hc') <;> (try (exfalso; omega)) <;> refine goS ?_)))
  (refine goS ?_; repeat' (first | ((refine Z51 rfl rfl (fun c' hc' => ?_)); cases c' <;> (try simp only [decide_eq_true_eq, decide_eq_false_iff_not, beq_iff_eq, beq_eq_false_iff_ne, bne_iff_ne, bne_eq_false_iff_eq, ne_eq, gt_iff_lt, ge_iff_le, Int.not_lt, Int.not_le, Bool.not_eq_true', Bool.not_eq_false', Bool.not_true, Bool.not_false, reduceCtorEq, Decidable.not_not, not_true_eq_false, Bool.true_eq_false, Bool.false_eq_true] at hc') <;> (try (exfalso; omega)) <;> refine goS ?_) | ((refine Z52 rfl (fun hc' => ?_) (fun hc' => ?_)) <;> (try simp only [decide_eq_true_eq, decide_eq_false_iff_not, beq_iff_eq, beq_eq_false_iff_ne, bne_iff_ne, bne_eq_false_iff_eq, ne_eq, gt_iff_lt, ge_iff_le, Int.not_lt, Int.not_le, Bool.not_eq_true', Bool.not_eq_false', Bool.not_true, Bool.not_false, reduceCtorEq, Decidable.not_not, not_true_eq_false, Bool.true_eq_false, Bool.false_eq_true] at hc') <;> (try (exfalso; omega)) <;> refine goS ?_)))
  exact at_ret1 rfl rfl ⟨rfl, e0⟩
end Go.Proofs.YteonnoijdnjpdaaDoor
