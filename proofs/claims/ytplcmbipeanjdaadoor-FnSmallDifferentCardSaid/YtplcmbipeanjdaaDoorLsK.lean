/-
  What is proved here: the law SmallDifferent on drawn numbers: small programs of different numbers have different texts.
-/
import Derived.Test.YtplcmbipeanjdaaDoorLwSm
import Derived.Test.YtplcmbipeanjdaaDoorFp
import Derived.Test.YtplcmbipeanjdaaDoorPin
namespace Go.Proofs.YtplcmbipeanjdaaDoor
set_option linter.unusedVariables false
set_option linter.unusedSimpArgs false
set_option linter.unnecessarySimpa false
open Go.RowKit

theorem sm_fmt {a b : Int} (ha : smOk a) (hb : smOk b) : fmtT (smT a) (smB a) = fmtT (smT b) (smB b) ↔ a = b := by
  have v : ∀ {c : Int}, smOk c → validP (smT c) (smB c) = true := fun {c} hc => by
    have h1 : smT c = smTypes := by unfold smT; rw [if_pos hc]
    have h2 : smB c = smBody c.toNat := by unfold smB; rw [if_pos hc]
    rw [h1, h2]
    exact valid_sm _
  rw [fmtT_of (v ha), fmtT_of (v hb)]
  constructor
  · intro h
    obtain ⟨h1, h2⟩ := progT_inj (v ha) (v hb) h
    have q1 := (num_sm ha).1
    have q2 := (num_sm hb).1
    rw [h1, h2] at q1
    exact q1.symm.trans q2
  · intro h
    rw [h]
theorem FnSmallDifferent_ret {v u : Value} {w : World} (hd : ByD w v) (hm : ByD w u) : Ret Tryd.prog 4 [v, u] w fun r w' => r = .bool true ∧ Ext w w' := by
  have hd0 := hd
  obtain ⟨A0, n0, c0, rfl, _, hn0, _⟩ := hd0
  have hm0 := hm
  obtain ⟨A1, n1, c1, rfl, _, hn1, _⟩ := hm0
  refine enter Tryd.func4 rfl Tryd.ntmps4 rfl rfl ?_
  (refine goS ?_; repeat' (first | ((refine Z51 rfl rfl (fun c' hc' => ?_)); cases c' <;> (try simp only [decide_eq_true_eq, decide_eq_false_iff_not, beq_iff_eq, beq_eq_false_iff_ne, bne_iff_ne, bne_eq_false_iff_eq, ne_eq, gt_iff_lt, ge_iff_le, Int.not_lt, Int.not_le, Bool.not_eq_true', Bool.not_eq_false', Bool.not_true, Bool.not_false, reduceCtorEq, Decidable.not_not, not_true_eq_false, Bool.true_eq_false, Bool.false_eq_true] at hc') <;> (try (exfalso; omega)) <;> refine goS ?_) | ((refine Z52 rfl (fun hc' => ?_) (fun hc' => ?_)) <;> (try simp only [decide_eq_true_eq, decide_eq_false_iff_not, beq_iff_eq, beq_eq_false_iff_ne, bne_iff_ne, bne_eq_false_iff_eq, ne_eq, gt_iff_lt, ge_iff_le, Int.not_lt, Int.not_le, Bool.not_eq_true', Bool.not_eq_false', Bool.not_true, Bool.not_false, reduceCtorEq, Decidable.not_not, not_true_eq_false, Bool.true_eq_false, Bool.false_eq_true] at hc') <;> (try (exfalso; omega)) <;> refine goS ?_)))
  any_goals (exact at_ret1 rfl rfl ⟨rfl, Ext.refl _⟩)
  refine WO_call rfl (DrawSmallProgram_ret _ w hd) ?_
  rintro _ w1 ⟨z, rfl, hz, e1⟩
  refine goS ?_
  refine WO_call rfl (SmallProgram_ret z w1 (by omega)) ?_
  rintro _ w2 ⟨t1, b1, rfl, h1, e2⟩
  obtain ⟨on1, om1⟩ := h1.ones
  refine goS ?_
  refine WO_alloc fun wa ha ea za => ?_
  refine WO_storeS (k := 2) (vs := [t1, b1]) rfl rfl rfl (by simp; exact ⟨on1, om1⟩) ha (by decide) fun w3 hp o3 => ?_
  replace hp : Blk w3 w2.heap.size [t1, b1] _ := hp
  have e3 : Ext w2 w3 := ea.only o3 (Nat.le_refl _)
  replace h1 := h1.ext e3
  have e0 := (e1.trans e2).trans e3
  refine goS ?_
  refine WO_call rfl (sSmallProgram_ret z w3 (by omega)) ?_
  rintro _ w4 ⟨t2, b2, rfl, h2, e4⟩
  obtain ⟨on2, om2⟩ := h2.ones
  replace hp := hp.ext e4
  replace h1 := h1.ext e4
  refine goS ?_
  refine WO_alloc fun wb hb eb zb => ?_
  refine WO_storeS (k := 2) (vs := [t2, b2]) rfl rfl rfl (by simp; exact ⟨on2, om2⟩) hb (by decide) fun w5 hq o5 => ?_
  replace hq : Blk w5 w4.heap.size [t2, b2] _ := hq
  have e5 : Ext w4 w5 := eb.only o5 (Nat.le_refl _)
  replace h1 := h1.ext e5
  replace h2 := h2.ext e5
  replace hp := hp.ext e5
  replace e0 := (e0.trans e4).trans e5
  refine goS ?_
  refine WO_call rfl (DrawSmallProgram_ret _ w5 (hm.ext e0)) ?_
  rintro _ w6 ⟨m, rfl, hmz, e6⟩
  refine goS ?_
  refine WO_call rfl (SmallProgram_ret m w6 (by omega)) ?_
  rintro _ w7 ⟨t3, b3, rfl, h3, e7⟩
  obtain ⟨on3, om3⟩ := h3.ones
  refine goS ?_
  refine WO_alloc fun wc hc ec zc => ?_
  refine WO_storeS (k := 2) (vs := [t3, b3]) rfl rfl rfl (by simp; exact ⟨on3, om3⟩) hc (by decide) fun w8 hr o8 => ?_
  replace hr : Blk w8 w7.heap.size [t3, b3] _ := hr
  have e8 : Ext w7 w8 := ec.only o8 (Nat.le_refl _)
  have e58 := (e6.trans e7).trans e8
  replace h1 := h1.ext e58
  replace h2 := h2.ext e58
  replace h3 := h3.ext e8
  replace hp := hp.ext e58
  replace hq := hq.ext e58
  replace e0 := e0.trans e58
  obtain ⟨f1, i1⟩ := h1.int
  obtain ⟨g1, j1⟩ := h1.sts
  obtain ⟨f2, i2⟩ := h2.int
  obtain ⟨g2, j2⟩ := h2.sts
  obtain ⟨f3, i3⟩ := h3.int
  obtain ⟨g3, j3⟩ := h3.sts
  refine goS ?_
  rw [show (!(decide (smOk z) == decide (smOk z))) = false from by simp]
  refine goS ?_
  refine WO_loadSB rfl hp rfl ?_
  refine goS ?_
  refine WO_loadSB rfl hq rfl ?_
  refine goS ?_
  refine WO_call rfl (ProgramSame_ret t1 b1 t2 b2 _ _ _ _ _ _ _ _ w8 i1 j1 i2 j2) ?_
  rintro _ w9 ⟨rfl, e9⟩
  rw [decide_eq_true (show smT z = smT z ∧ smB z = smB z from ⟨rfl, rfl⟩)]
  by_cases hz1' : smOk z ∧ smOk m
  · obtain ⟨hz1, hm1⟩ := hz1'
    rw [decide_eq_true hz1, decide_eq_true hm1]
    refine goS ?_
    have hp9 := hp.ext e9
    have hr9 := hr.ext e9
    refine Z54 (by kernel_rfl) (by kernel_rfl) ?_
    refine Z55 (q_loadS (cs := [t1, b1]) rfl rfl (blk_cells hp9)) ?_
    repeat' (first | refine Z55 (Z56 rfl) ?_ | (refine Z57 ?_; first | refine Z58 rfl rfl (by decide) ?_ | refine Z59 rfl rfl (by decide) ?_ | refine Z60 rfl rfl ?_ | ((refine Z61 rfl rfl (fun c' hc' => ?_)); cases c' <;> (try simp only [decide_eq_true_eq, decide_eq_false_iff_not, beq_iff_eq, beq_eq_false_iff_ne, bne_iff_ne, bne_eq_false_iff_eq, ne_eq, gt_iff_lt, ge_iff_le, Int.not_lt, Int.not_le, Bool.not_eq_true', Bool.not_eq_false', Bool.not_true, Bool.not_false, reduceCtorEq, Decidable.not_not, not_true_eq_false, Bool.true_eq_false, Bool.false_eq_true] at hc') <;> (try (exfalso; omega)))) | (refine Z62 ?_; first | refine Z55 (Z63 rfl rfl) ?_ | refine Z55 (Z64 rfl rfl) ?_) | (refine Z65 ?_; first | refine Z55 (Z66 rfl (by assumption) (by rfl)) ?_ | refine Z55 (Z67 rfl (by assumption)) ?_) | (refine Z68 ?_; refine Z55 (Z69 rfl rfl rfl (by omega)) ?_) | (refine Z70 ?_; first | refine Z55 (Z14 rfl (by decide) rfl) ?_ | refine Z55 (Z15 rfl (by decide) rfl) ?_) | (refine Z71 ?_; first | refine Z55 (Z72 rfl) ?_ | refine Z55 (Z73 rfl) ?_) | (refine Z74 ?_; first | refine Z55 (Z75 rfl rfl (by omega)) ?_ | refine Z55 (Z76 rfl rfl (by omega)) ?_ | refine Z55 (Z77 rfl rfl (by omega)) ?_ | refine Z55 (Z78 rfl rfl (by omega) (by omega)) ?_ | refine Z55 (Z79 rfl rfl (by omega) (by omega) (by omega)) ?_ | refine Z55 (Z25 rfl rfl) ?_ | refine Z55 (Z26 rfl rfl) ?_) | (refine Z80 ?_; refine Z55 (Z28 rfl (Z53 ⟨by omega, by omega⟩)) ?_) | refine Z81 fun w' hw' => ?_)
    refine WQ_call rfl (fun w' hw' => FormatProgram_ret t1 b1 _ _ _ _ w' (i1.ext (e9.trans hw')) (j1.ext (e9.trans hw'))) ?_
    refine Z55 (q_loadS (cs := [t3, b3]) rfl rfl (blk_cells hr9)) ?_
    repeat' (first | refine Z55 (Z56 rfl) ?_ | (refine Z57 ?_; first | refine Z58 rfl rfl (by decide) ?_ | refine Z59 rfl rfl (by decide) ?_ | refine Z60 rfl rfl ?_ | ((refine Z61 rfl rfl (fun c' hc' => ?_)); cases c' <;> (try simp only [decide_eq_true_eq, decide_eq_false_iff_not, beq_iff_eq, beq_eq_false_iff_ne, bne_iff_ne, bne_eq_false_iff_eq, ne_eq, gt_iff_lt, ge_iff_le, Int.not_lt, Int.not_le, Bool.not_eq_true', Bool.not_eq_false', Bool.not_true, Bool.not_false, reduceCtorEq, Decidable.not_not, not_true_eq_false, Bool.true_eq_false, Bool.false_eq_true] at hc') <;> (try (exfalso; omega)))) | (refine Z62 ?_; first | refine Z55 (Z63 rfl rfl) ?_ | refine Z55 (Z64 rfl rfl) ?_) | (refine Z65 ?_; first | refine Z55 (Z66 rfl (by assumption) (by rfl)) ?_ | refine Z55 (Z67 rfl (by assumption)) ?_) | (refine Z68 ?_; refine Z55 (Z69 rfl rfl rfl (by omega)) ?_) | (refine Z70 ?_; first | refine Z55 (Z14 rfl (by decide) rfl) ?_ | refine Z55 (Z15 rfl (by decide) rfl) ?_) | (refine Z71 ?_; first | refine Z55 (Z72 rfl) ?_ | refine Z55 (Z73 rfl) ?_) | (refine Z74 ?_; first | refine Z55 (Z75 rfl rfl (by omega)) ?_ | refine Z55 (Z76 rfl rfl (by omega)) ?_ | refine Z55 (Z77 rfl rfl (by omega)) ?_ | refine Z55 (Z78 rfl rfl (by omega) (by omega)) ?_ | refine Z55 (Z79 rfl rfl (by omega) (by omega) (by omega)) ?_ | refine Z55 (Z25 rfl rfl) ?_ | refine Z55 (Z26 rfl rfl) ?_) | (refine Z80 ?_; refine Z55 (Z28 rfl (Z53 ⟨by omega, by omega⟩)) ?_) | refine Z81 fun w' hw' => ?_)
    refine WQ_call rfl (fun w' hw' => FormatProgram_ret t3 b3 _ _ _ _ w' (i3.ext (e9.trans hw')) (j3.ext (e9.trans hw'))) ?_
    refine Z55 (Z85 rfl rfl) ?_
    repeat' (first | refine Z55 (Z56 rfl) ?_ | (refine Z57 ?_; first | refine Z58 rfl rfl (by decide) ?_ | refine Z59 rfl rfl (by decide) ?_ | refine Z60 rfl rfl ?_ | ((refine Z61 rfl rfl (fun c' hc' => ?_)); cases c' <;> (try simp only [decide_eq_true_eq, decide_eq_false_iff_not, beq_iff_eq, beq_eq_false_iff_ne, bne_iff_ne, bne_eq_false_iff_eq, ne_eq, gt_iff_lt, ge_iff_le, Int.not_lt, Int.not_le, Bool.not_eq_true', Bool.not_eq_false', Bool.not_true, Bool.not_false, reduceCtorEq, Decidable.not_not, not_true_eq_false, Bool.true_eq_false, Bool.false_eq_true] at hc') <;> (try (exfalso; omega)))) | (refine Z62 ?_; first | refine Z55 (Z63 rfl rfl) ?_ | refine Z55 (Z64 rfl rfl) ?_) | (refine Z65 ?_; first | refine Z55 (Z66 rfl (by assumption) (by rfl)) ?_ | refine Z55 (Z67 rfl (by assumption)) ?_) | (refine Z68 ?_; refine Z55 (Z69 rfl rfl rfl (by omega)) ?_) | (refine Z70 ?_; first | refine Z55 (Z14 rfl (by decide) rfl) ?_ | refine Z55 (Z15 rfl (by decide) rfl) ?_) | (refine Z71 ?_; first | refine Z55 (Z72 rfl) ?_ | refine Z55 (Z73 rfl) ?_) | (refine Z74 ?_; first | refine Z55 (Z75 rfl rfl (by omega)) ?_ | refine Z55 (Z76 rfl rfl (by omega)) ?_ | refine Z55 (Z77 rfl rfl (by omega)) ?_ | refine Z55 (Z78 rfl rfl (by omega) (by omega)) ?_ | refine Z55 (Z79 rfl rfl (by omega) (by omega) (by omega)) ?_ | refine Z55 (Z25 rfl rfl) ?_ | refine Z55 (Z26 rfl rfl) ?_) | (refine Z80 ?_; refine Z55 (Z28 rfl (Z53 ⟨by omega, by omega⟩)) ?_) | refine Z81 fun w' hw' => ?_)
    rw [show decide (fmtT (smT z) (smB z) = fmtT (smT m) (smB m)) = decide (z = m) from decide_eq_decide.2 (sm_fmt hz1 hm1)]
    rw [show (decide (z = m) == (z == m)) = true from by by_cases h : z = m <;> simp [h]]
    refine goT ?_
    exact at_ret1 rfl rfl ⟨rfl, ((e0.trans e9).trans hw')⟩
  · have fin : ∀ w', Ext w9 w' → Ext w w' := fun w' h => (e0.trans e9).trans h
    have hp9 := hp.ext e9
    have hq9 := hq.ext e9
    refine goS ?_
    by_cases hz1 : smOk z
    · have hm1 : ¬ smOk m := fun h => hz1' ⟨hz1, h⟩
      rw [decide_eq_true hz1, decide_eq_false hm1]
      refine goS ?_
      refine WO_loadSB rfl hp9 rfl ?_
      refine goS ?_
      refine WO_loadSB rfl hq9 rfl ?_
      refine goS ?_
      refine WO_call rfl (ProgramSame_ret t1 b1 t2 b2 _ _ _ _ _ _ _ _ w9 (i1.ext e9) (j1.ext e9) (i2.ext e9) (j2.ext e9)) ?_
      rintro _ wz ⟨rfl, ez⟩
      rw [decide_eq_true (show smT z = smT z ∧ smB z = smB z from ⟨rfl, rfl⟩)]
      refine goS ?_
      exact at_ret1 rfl rfl ⟨rfl, fin _ ez⟩
    · rw [decide_eq_false hz1]
      refine goS ?_
      refine WO_loadSB rfl hp9 rfl ?_
      refine goS ?_
      refine WO_loadSB rfl hq9 rfl ?_
      refine goS ?_
      refine WO_call rfl (ProgramSame_ret t1 b1 t2 b2 _ _ _ _ _ _ _ _ w9 (i1.ext e9) (j1.ext e9) (i2.ext e9) (j2.ext e9)) ?_
      rintro _ wz ⟨rfl, ez⟩
      rw [decide_eq_true (show smT z = smT z ∧ smB z = smB z from ⟨rfl, rfl⟩)]
      refine goS ?_
      exact at_ret1 rfl rfl ⟨rfl, fin _ ez⟩
end Go.Proofs.YtplcmbipeanjdaaDoor
