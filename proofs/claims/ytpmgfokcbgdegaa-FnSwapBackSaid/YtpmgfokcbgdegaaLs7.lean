/-
  What is proved here: the laws SplitAll and SwapBack on drawn programs.
-/
import Derived.Test.YtpmgfokcbgdegaaDr7
import Derived.Test.YtpmgfokcbgdegaaLsP
import Derived.Test.YtpmgfokcbgdegaaSwp
import Derived.Test.YtpmgfokcbgdegaaSwpS
import Derived.Test.YtpmgfokcbgdegaaSpl
namespace Go.Proofs.Ytpmgfokcbgdegaa
set_option linter.unusedVariables false
set_option linter.unusedSimpArgs false
set_option linter.unnecessarySimpa false
open Go.RowKit

theorem apart_symm (a b : List Int) : apartB a b = apartB b a := by
  unfold apartB
  congr 1
  rw [Bool.eq_iff_iff]
  simp only [List.any_eq_true, decide_eq_true_eq]
  exact ⟨fun ⟨x, h1, h2⟩ => ⟨x, h2, h1⟩, fun ⟨x, h1, h2⟩ => ⟨x, h2, h1⟩⟩
theorem swp_back {tl : List Int} {l l' : Ss} {k : Int} (h : swpR tl l k = some l') : swpR tl l' k = some l ∧ cntL l' = cntL l := by
  unfold swpR at h
  by_cases hv : validP tl l = true ∧ 0 ≤ k
  · rw [if_pos hv] at h
    obtain ⟨hv1, hk⟩ := hv
    obtain ⟨i, rfl⟩ : ∃ i : Nat, k = (i : Int) := ⟨k.toNat, by omega⟩
    rw [Int.toNat_natCast] at h
    have hd := Ss.take_drop i l
    have hll := Ss.len_drop i l
    cases h1 : l.drop i with
    | nil => rw [h1] at h; simp [swpAt] at h
    | cons op x y n t e r1 =>
      cases r1 with
      | nil => rw [h1] at h; simp [swpAt] at h
      | cons op' x' y' n' t' e' r =>
        rw [h1] at h hd hll
        simp only [Ss.len] at hll
        have hlt := Ss.len_take i l (by omega)
        generalize l.take i = d at h hd hlt
        simp only [swpAt] at h
        by_cases hc : ¬ (op = 9 ∨ op = 10) ∧ ¬ (op' = 9 ∨ op' = 10) ∧ apartB (varsL op x y t e) (varsL op' x' y' t' e') = true
        · rw [if_pos hc] at h
          have h2 := Option.some.inj h
          subst h2
          subst hd
          subst hlt
          rw [validP_iff, okL_appC, okL_cons, okL_cons, cntL_app] at hv1
          simp only [Bool.and_eq_true, cntL] at hv1
          obtain ⟨v1, ⟨v2, v3, v4, v5⟩, v6⟩ := hv1
          have hv2 : validP tl (d.app (.cons op' x' y' n' t' e' (.cons op x y n t e r))) = true := by
            rw [validP_iff, okL_appC, okL_cons, okL_cons, cntL_app]
            simp only [Bool.and_eq_true, cntL]
            exact ⟨v1, ⟨v2, v4, v3, v5⟩, by omega⟩
          refine ⟨?_, by simp only [cntL_app, cntL]; omega⟩
          unfold swpR
          rw [if_pos ⟨hv2, by omega⟩, Int.toNat_natCast, Ss.drop_app, Ss.take_app]
          simp only [swpAt]
          rw [if_pos ⟨hc.2.1, hc.1, by rw [apart_symm]; exact hc.2.2⟩]
          rfl
        · rw [if_neg hc] at h
          cases h
  · rw [if_neg hv] at h
    cases h
theorem FnSwapBack_ret {v : Value} {w : World} (hd : ByD w v) : Ret Try.prog 5 [v] w fun r w' => r = .bool true ∧ Ext w w' := by
  have hd0 := hd
  obtain ⟨A0, n0, c0, rfl, _, hn0, _⟩ := hd0
  refine enter Try.func5 rfl Try.ntmps5 rfl rfl ?_
  (refine goS ?_; repeat' (first | ((refine Z51 rfl rfl (fun c' hc' => ?_)); cases c' <;> (try simp only [decide_eq_true_eq, decide_eq_false_iff_not, beq_iff_eq, beq_eq_false_iff_ne, bne_iff_ne, bne_eq_false_iff_eq, ne_eq, gt_iff_lt, ge_iff_le, Int.not_lt, Int.not_le, Bool.not_eq_true', Bool.not_eq_false', Bool.not_true, Bool.not_false, reduceCtorEq, Decidable.not_not, not_true_eq_false, Bool.true_eq_false, Bool.false_eq_true] at hc') <;> (try (exfalso; omega)) <;> refine goS ?_) | ((refine Z52 rfl (fun hc' => ?_) (fun hc' => ?_)) <;> (try simp only [decide_eq_true_eq, decide_eq_false_iff_not, beq_iff_eq, beq_eq_false_iff_ne, bne_iff_ne, bne_eq_false_iff_eq, ne_eq, gt_iff_lt, ge_iff_le, Int.not_lt, Int.not_le, Bool.not_eq_true', Bool.not_eq_false', Bool.not_true, Bool.not_false, reduceCtorEq, Decidable.not_not, not_true_eq_false, Bool.true_eq_false, Bool.false_eq_true] at hc') <;> (try (exfalso; omega)) <;> refine goS ?_)))
  any_goals (exact at_ret1 rfl rfl ⟨rfl, Ext.refl _⟩)
  refine WO_call rfl (DrawSwapStmts_ret _ w hd) ?_
  rintro _ w1 ⟨tv, bv, tl, l, Ft, Fb, k, rfl, i1, j1, _, ⟨htl, hcl⟩, hk, e1⟩
  have oT := i1.one
  have oB := j1.one
  refine goS ?_
  refine WO_alloc fun w2 hb2 e2 z2 => ?_
  refine WO_storeS (k := 2) (vs := [tv, bv]) rfl rfl rfl (by simp; exact ⟨oT, oB⟩) hb2 (by decide) fun w3 hp o3 => ?_
  replace hp : Blk w3 w1.heap.size [tv, bv] _ := hp
  have e3 : Ext w1 w3 := e2.only o3 (Nat.le_refl _)
  replace i1 := i1.ext e3
  replace j1 := j1.ext e3
  have e0 := e1.trans e3
  refine goS ?_
  refine WO_loadSB rfl hp rfl ?_
  refine goS ?_
  refine WO_call rfl (SwapStmts_ret tv bv tl l Ft Fb k w3 i1 j1 (by omega) (by omega) (by omega)) ?_
  rintro _ w4 ⟨tq, bq, rfl, hq, e4⟩
  obtain ⟨oq1, oq2⟩ := hq.ones
  refine goS ?_
  refine WO_alloc fun w5 hb5 e5 z5 => ?_
  refine WO_storeS (k := 2) (vs := [tq, bq]) rfl rfl rfl (by simp; exact ⟨oq1, oq2⟩) hb5 (by decide) fun w6 hq6 o6 => ?_
  replace hq6 : Blk w6 w4.heap.size [tq, bq] _ := hq6
  have e6 : Ext w4 w6 := e5.only o6 (Nat.le_refl _)
  replace hq := hq.ext e6
  have e46 := e4.trans e6
  refine goS ?_
  refine WO_loadSB rfl (hp.ext e46) rfl ?_
  refine goS ?_
  refine WO_call rfl (sSwapStmts_ret tv bv tl l Ft Fb k w6 (i1.ext e46) (j1.ext e46) (by omega) (by omega) (by omega)) ?_
  rintro _ w7 ⟨ts, bs, rfl, hs, e7⟩
  obtain ⟨os1, os2⟩ := hs.ones
  refine goS ?_
  refine WO_alloc fun w8 hb8 e8 z8 => ?_
  refine WO_storeS (k := 2) (vs := [ts, bs]) rfl rfl rfl (by simp; exact ⟨os1, os2⟩) hb8 (by decide) fun w9 hs9 o9 => ?_
  replace hs9 : Blk w9 w7.heap.size [ts, bs] _ := hs9
  have e9 : Ext w7 w9 := e8.only o9 (Nat.le_refl _)
  replace hs := hs.ext e9
  have e79 := e7.trans e9
  have hq9 := hq6.ext e79
  have e39 := e46.trans e79
  have hp9 := hp.ext e39
  obtain ⟨g1, k1⟩ := (hq.ext e79).int
  obtain ⟨g2, k2⟩ := (hq.ext e79).sts
  obtain ⟨g3, k3⟩ := hs.int
  obtain ⟨g4, k4⟩ := hs.sts
  have i9 := i1.ext e39
  have j9 := j1.ext e39
  refine goS ?_
  rw [show ((swpR tl l k).isSome == (swpR tl l k).isSome) = true from by simp]
  refine goS ?_
  refine WO_loadSB rfl hq9 rfl ?_
  refine goS ?_
  refine WO_loadSB rfl hs9 rfl ?_
  refine goS ?_
  refine WO_call rfl (ProgramSame_ret tq bq ts bs _ _ _ _ _ _ _ _ w9 k1 k2 k3 k4) ?_
  rintro _ w10 ⟨rfl, ex⟩
  rw [decide_eq_true ⟨rfl, rfl⟩]
  have fin : ∀ w11, Ext w10 w11 → Ext w w11 := fun w11 h => ((e0.trans e39).trans ex).trans h
  cases hR : swpR tl l k with
  | none =>
    simp only [Option.isSome_none]
    refine goS ?_
    refine WO_loadSB rfl (hq9.ext ex) rfl ?_
    refine goS ?_
    refine WO_loadSB rfl (hs9.ext ex) rfl ?_
    refine goS ?_
    refine WO_call rfl (ProgramSame_ret tq bq ts bs _ _ _ _ _ _ _ _ w10 (k1.ext ex) (k2.ext ex) (k3.ext ex) (k4.ext ex)) ?_
    rintro _ w11 ⟨rfl, ey⟩
    rw [decide_eq_true ⟨rfl, rfl⟩]
    refine goS ?_
    exact at_ret1 rfl rfl ⟨rfl, fin _ ey⟩
  | some l' =>
    obtain ⟨hback, hcnt⟩ := swp_back hR
    rw [hR] at k1 k2
    have kT : chT tl (some l') = tl := rfl
    have kL : chL (some l') = l' := rfl
    rw [kT] at k1
    rw [kL] at k2
    simp only [Option.isSome_some]
    refine goS ?_
    refine WO_loadSB rfl (hq9.ext ex) rfl ?_
    refine goS ?_
    refine WO_call rfl (SwapStmts_ret tq bq tl l' _ _ k w10 (k1.ext ex) (k2.ext ex) (by omega) (by omega) (by omega)) ?_
    rintro _ w11 ⟨tr, br, rfl, hr, e11⟩
    rw [hback] at hr ⊢
    simp only [Option.isSome_some]
    obtain ⟨or1, or2⟩ := hr.ones
    refine goS ?_
    refine WO_alloc fun w12 hb12 e12 z12 => ?_
    refine WO_storeS (k := 2) (vs := [tr, br]) rfl rfl rfl (by simp; exact ⟨or1, or2⟩) hb12 (by decide) fun w13 hr13 o13 => ?_
    replace hr13 : Blk w13 w11.heap.size [tr, br] _ := hr13
    have e13 : Ext w11 w13 := e12.only o13 (Nat.le_refl _)
    replace hr := hr.ext e13
    have e1013 := e11.trans e13
    have hp13 := (hp9.ext ex).ext e1013
    obtain ⟨g5, k5⟩ := hr.int
    obtain ⟨g6, k6⟩ := hr.sts
    refine goS ?_
    refine WO_loadSB rfl hr13 rfl ?_
    refine goS ?_
    refine WO_loadSB rfl hp13 rfl ?_
    refine goS ?_
    refine WO_call rfl (ProgramSame_ret tr br tv bv tl tl l l _ _ _ _ w13 k5 k6 ((i9.ext ex).ext e1013) ((j9.ext ex).ext e1013)) ?_
    rintro _ w14 ⟨rfl, e14⟩
    rw [decide_eq_true ⟨rfl, rfl⟩]
    refine goS ?_
    exact at_ret1 rfl rfl ⟨rfl, fin _ (e1013.trans e14)⟩
end Go.Proofs.Ytpmgfokcbgdegaa
