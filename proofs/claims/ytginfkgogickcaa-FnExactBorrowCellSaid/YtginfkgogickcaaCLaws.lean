/-
  What is proved here: the laws FnExactNewCell, FnExactReadCell, FnExactWriteCell, FnExactFreeCell, FnExactShareCell, FnExactBorrowCell.
-/
import Derived.Test.YtginfkgogickcaaCLent
import Derived.Test.YtginfkgogickcaaChgI
import Derived.Test.YtginfkgogickcaaCAlive
namespace Go.Proofs.Ytginfkgogickcaa
set_option linter.unusedVariables false
set_option linter.unusedSimpArgs false
set_option linter.unnecessarySimpa false
open Go.RowKit

/-- An owned row of cells between two places of memory. -/
def Own (e eT : TypeId) (B U : Nat) (l : List Ce) (w : World) (v : Value) : Prop := ∃ F, RowC e eT w v l F ∧ F.Nodup ∧ ∀ b ∈ F, B ≤ b ∧ b < U
section
variable {e eT : TypeId} {B U : Nat} {l : List Ce} {w w' : World} {v : Value}
theorem NewCells.own (h : NewCells e eT l w v w') : Own e eT w.heap.size w'.heap.size l w' v := by
  obtain ⟨⟨F, h1, h2, h3⟩, h4⟩ := h
  exact ⟨F, h1, h2, fun b hb => ⟨h3 b hb, h1.lt b hb⟩⟩
theorem Own.ext (h : Own e eT B U l w v) (he : Ext w w') : Own e eT B U l w' v := by
  obtain ⟨F, h1, h2, h3⟩ := h
  exact ⟨F, h1.ext he, h2, h3⟩
theorem Own.chgI {B' U' : Nat} (h : Own e eT B U l w v) (k : ChgI B' U' w w') (hd : U ≤ B' ∨ U' ≤ B) : Own e eT B U l w' v := by
  obtain ⟨F, h1, h2, h3⟩ := h
  refine ⟨F, ?_, h2, h3⟩
  have : Chg ((List.range w.heap.size).filter fun x => decide (B' ≤ x ∧ x < U')) w w' := ⟨k.os, k.tape, k.output, k.size, fun x hx hn => k.block x hx fun hm => hn (by simp; omega)⟩
  exact h1.chg this fun x hx hm => by
    have := h3 x hx
    simp at hm
    omega
theorem Own.ces (h : Own e eT B U l w v) : ∃ F, CeS w v l F := by
  obtain ⟨F, h1, _⟩ := h
  exact ⟨F, h1.ces⟩
end
theorem newL_size {l : List Ce} {val : Int} (h : cSize l ≤ 1048576) : cSize (newL l val) ≤ 1048576 := by
  unfold newL
  split
  · rename_i hk
    refine cSize_small (by rw [List.length_append]; have := hk.1.1; have := hk.2.2.2; simp; omega) fun c hc => ?_
    rcases List.mem_append.1 hc with hc | hc
    · have := (hk.1.2 c hc).2.2.1; omega
    · simp at hc; subst hc; simp [freshCe]
  · simp [cSize]
theorem readL_size {l : List Ce} {x : Pt} (h : cSize l ≤ 1048576) : cSize (readL l x) ≤ 1048576 := by
  by_cases h0 : accC l x = 0
  · obtain ⟨_, i, hi, st, _, hL, hst⟩ := touch0 (u := false) h0
    have hL : readL l x = _ := hL
    rw [hL]
    exact set_small (acc_valid h0) (by simp; omega)
  · rw [readL_ne h0]; exact h
theorem wrL_size {l : List Ce} {x : Pt} (h : cSize l ≤ 1048576) : cSize (wrL l x) ≤ 1048576 := by
  by_cases h0 : wrC l x = 0
  · obtain ⟨_, i, hi, st, _, hL, hst⟩ := touch0 (u := true) h0
    have hL : wrL l x = _ := hL
    rw [hL]
    exact set_small (acc_valid (wr0 h0).1) (by simp; omega)
  · rw [wrL_ne h0]; exact h
theorem sum_set (l : List Ce) (i : Nat) (c : Ce) (hi : i < l.length) (hc : c.st = l[i].st) : ((l.set i c).map fun c => c.st.length) = l.map fun c => c.st.length := by
  rw [List.map_set]
  apply List.ext_getElem?
  intro j
  rw [List.getElem?_set]
  split
  · rename_i h; subst h; simp [hi, hc]
  · rfl
theorem setC_size {l : List Ce} {x : Pt} {f : Ce → Ce} (hf : ∀ c, (f c).st = c.st) : cSize (setC l x f) = cSize l := by
  unfold setC
  split
  · rename_i c hc
    obtain ⟨hi, rfl⟩ := List.getElem?_eq_some_iff.1 hc
    unfold cSize
    rw [List.length_set, sum_set _ _ _ hi (hf _)]
  · rfl
theorem wrvL_size {l : List Ce} {x : Pt} {val : Int} (h : cSize l ≤ 1048576) : cSize (wrvL l x val) ≤ 1048576 := by
  unfold wrvL
  split
  · rw [setC_size (by intro c; rfl)]; exact wrL_size h
  · exact h
theorem frL_size {l : List Ce} {x : Pt} (h : cSize l ≤ 1048576) : cSize (frL l x) ≤ 1048576 := by
  unfold frL
  split
  · rw [setC_size (by intro c; rfl)]; exact wrL_size h
  · exact h
theorem lentL_size {l : List Ce} {x : Pt} {u : Bool} (h : cSize l ≤ 1048576) : cSize (lentL l x u) ≤ 1048576 := by
  unfold lentL
  split
  · rename_i hc
    have h0 : touchC l x u = 0 := by
      unfold lentC at hc
      split at hc
      · assumption
      · rename_i h1; exact absurd hc h1
    obtain ⟨hok, i, hi, st, hxc, hL, hst⟩ := touch0 h0
    have hi' : i < (touchL l x u).length := by rw [hL, List.length_set]; exact hi
    have hTi : (touchL l x u)[i] = ⟨l[i].val, l[i].al, l[i].nx, st⟩ := by simp [hL]
    rw [setC_at hi' hxc, hTi, hL, List.set_set]
    exact set_small hok (by simp; omega)
  · exact h
theorem FnExactNewCell_ret {w : World} {v : Value} {x : List Ce × List Nat} (h : CeS w v x.1 x.2) (val : Int) (hval : -9223372036854775808 ≤ val ∧ val ≤ 9223372036854775807) :
    Ret Try.prog 5 [v, .int .i64 val] w fun r w' => r = .bool true ∧ Ext w w' := by
  obtain ⟨l, F⟩ := x
  simp only at h
  have e0 := Ext.refl w
  refine enter Try.func5 rfl Try.ntmps5 rfl rfl ?_
  repeat (first | (refine Z0 ?_; first | refine Z1 rfl ?_ | (refine Z2 ?_; first | refine Z3 rfl rfl (by decide) ?_ | refine Z4 rfl rfl (by decide) ?_ | refine Z5 rfl rfl ?_) | (refine Z6 ?_; first | refine Z7 rfl rfl ?_ | refine Z8 rfl rfl ?_) | (refine Z9 ?_; first | refine Z10 rfl (by assumption) (by rfl) ?_ | refine Z11 rfl (by assumption) ?_) | (refine Z12 ?_; first | refine Z13 (Z14 rfl (by decide) rfl) ?_ | refine Z13 (Z15 rfl (by decide) rfl) ?_) | (refine Z16 ?_; first | refine Z17 rfl ?_ | refine Z18 rfl ?_) | (refine Z19 ?_; first | refine Z20 rfl rfl (by omega) ?_ | refine Z21 rfl rfl (by omega) ?_ | refine Z22 rfl rfl (by omega) ?_ | refine Z23 rfl rfl (by omega) (by omega) ?_ | refine Z24 rfl rfl (by omega) (by omega) (by omega) ?_ | refine Z13 (Z25 rfl rfl) ?_ | refine Z13 (Z26 rfl rfl) ?_) | (refine Z27 ?_; refine Z13 (Z28 rfl (Z53 ⟨by omega, by omega⟩)) ?_) | (refine Z29 ?_; refine Z13 (Z30 rfl (by rfl) (by simp only [Z84, List.set_cons_zero, List.set_cons_succ]; rfl)) ?_) | refine Z31 ?_) | (refine Z32 ?_; first | refine Z33 ?_ | refine Z34 ?_ | refine Z35 ?_ | refine Z36 ?_ | refine Z37 ?_ | refine Z38 rfl ?_ | refine Z39 ?_ | refine Z40 ?_ | refine Z41 ?_) | (refine Z42 ?_; first | refine Z43 ?_ | refine Z44 ?_ | refine Z45 ?_ | refine Z46 ?_ | refine Z47 ?_ | refine Z48 ?_ | refine Z49 rfl (by decide) ?_ | refine Z50 rfl (by decide) ?_))
  refine WO_call rfl (szCellS_ret v l F 1048576 _ (h.ext e0) (by decide) (by decide)) ?_
  rintro r w1 ⟨⟨left, rfl, hle, hsz⟩, e1⟩
  replace e0 := e0.trans e1
  try replace ha := Own.ext ha e1
  try replace hx := Own.ext hx e1
  try replace hg := Own.ext hg e1
  try replace hp := Blk.ext hp e1
  try replace hq := Blk.ext hq e1
  try replace hb := Blk.ext hb e1
  have := Ext.size_le e1
  repeat' (first | (refine Z0 ?_; first | refine Z1 rfl ?_ | (refine Z2 ?_; first | refine Z3 rfl rfl (by decide) ?_ | refine Z4 rfl rfl (by decide) ?_ | refine Z5 rfl rfl ?_ | ((refine Z51 rfl rfl (fun c' hc' => ?_)); cases c' <;> (try simp only [decide_eq_true_eq, decide_eq_false_iff_not, beq_iff_eq, beq_eq_false_iff_ne, bne_iff_ne, bne_eq_false_iff_eq, ne_eq, gt_iff_lt, ge_iff_le, Int.not_lt, Int.not_le, Bool.not_eq_true', Bool.not_eq_false', Bool.not_true, Bool.not_false, reduceCtorEq, Decidable.not_not, not_true_eq_false, Bool.true_eq_false, Bool.false_eq_true] at hc') <;> (try (exfalso; omega)))) | (refine Z6 ?_; first | refine Z7 rfl rfl ?_ | refine Z8 rfl rfl ?_) | (refine Z9 ?_; first | refine Z10 rfl (by assumption) (by rfl) ?_ | refine Z11 rfl (by assumption) ?_) | (refine Z12 ?_; first | refine Z13 (Z14 rfl (by decide) rfl) ?_ | refine Z13 (Z15 rfl (by decide) rfl) ?_) | (refine Z16 ?_; first | refine Z17 rfl ?_ | refine Z18 rfl ?_) | (refine Z19 ?_; first | refine Z20 rfl rfl (by omega) ?_ | refine Z21 rfl rfl (by omega) ?_ | refine Z22 rfl rfl (by omega) ?_ | refine Z23 rfl rfl (by omega) (by omega) ?_ | refine Z24 rfl rfl (by omega) (by omega) (by omega) ?_ | refine Z13 (Z25 rfl rfl) ?_ | refine Z13 (Z26 rfl rfl) ?_) | (refine Z27 ?_; refine Z13 (Z28 rfl (Z53 ⟨by omega, by omega⟩)) ?_) | (refine Z29 ?_; refine Z13 (Z30 rfl (by rfl) (by simp only [Z84, List.set_cons_zero, List.set_cons_succ]; rfl)) ?_) | refine Z31 ?_) | (refine Z32 ?_; first | refine Z33 ?_ | refine Z34 ?_ | refine Z35 ?_ | refine Z36 ?_ | refine Z37 ?_ | refine Z38 rfl ?_ | refine Z39 ?_ | refine Z40 ?_ | refine Z41 ?_) | (refine Z42 ?_; first | refine Z43 ?_ | refine Z44 ?_ | refine Z45 ?_ | refine Z46 ?_ | refine Z47 ?_ | refine Z48 ?_ | refine Z49 rfl (by decide) ?_ | refine Z50 rfl (by decide) ?_ | ((refine Z52 rfl (fun hc' => ?_) (fun hc' => ?_)) <;> (try simp only [decide_eq_true_eq, decide_eq_false_iff_not, beq_iff_eq, beq_eq_false_iff_ne, bne_iff_ne, bne_eq_false_iff_eq, ne_eq, gt_iff_lt, ge_iff_le, Int.not_lt, Int.not_le, Bool.not_eq_true', Bool.not_eq_false', Bool.not_true, Bool.not_false, reduceCtorEq, Decidable.not_not, not_true_eq_false, Bool.true_eq_false, Bool.false_eq_true] at hc') <;> (try (exfalso; omega)))))
  · exact at_ret1 rfl rfl ⟨rfl, e0⟩
  have hn : cSize l ≤ 1048576 := by have := hsz (by omega); omega
  clear hsz
  have hm := newL_size (val := val) hn
  refine WO_call rfl (toCellS_ret v l F _ (h.ext e0) hn) ?_
  rintro xr wr hxr
  have er := hxr.2
  replace e0 := e0.trans er
  try replace ha := Own.ext ha er
  try replace hx := Own.ext hx er
  try replace hg := Own.ext hg er
  try replace hp := Blk.ext hp er
  try replace hq := Blk.ext hq er
  try replace hb := Blk.ext hb er
  have := Ext.size_le er
  obtain ⟨Fr, hcr, _⟩ := hxr.ces
  repeat (first | (refine Z0 ?_; first | refine Z1 rfl ?_ | (refine Z2 ?_; first | refine Z3 rfl rfl (by decide) ?_ | refine Z4 rfl rfl (by decide) ?_ | refine Z5 rfl rfl ?_) | (refine Z6 ?_; first | refine Z7 rfl rfl ?_ | refine Z8 rfl rfl ?_) | (refine Z9 ?_; first | refine Z10 rfl (by assumption) (by rfl) ?_ | refine Z11 rfl (by assumption) ?_) | (refine Z12 ?_; first | refine Z13 (Z14 rfl (by decide) rfl) ?_ | refine Z13 (Z15 rfl (by decide) rfl) ?_) | (refine Z16 ?_; first | refine Z17 rfl ?_ | refine Z18 rfl ?_) | (refine Z19 ?_; first | refine Z20 rfl rfl (by omega) ?_ | refine Z21 rfl rfl (by omega) ?_ | refine Z22 rfl rfl (by omega) ?_ | refine Z23 rfl rfl (by omega) (by omega) ?_ | refine Z24 rfl rfl (by omega) (by omega) (by omega) ?_ | refine Z13 (Z25 rfl rfl) ?_ | refine Z13 (Z26 rfl rfl) ?_) | (refine Z27 ?_; refine Z13 (Z28 rfl (Z53 ⟨by omega, by omega⟩)) ?_) | (refine Z29 ?_; refine Z13 (Z30 rfl (by rfl) (by simp only [Z84, List.set_cons_zero, List.set_cons_succ]; rfl)) ?_) | refine Z31 ?_) | (refine Z32 ?_; first | refine Z33 ?_ | refine Z34 ?_ | refine Z35 ?_ | refine Z36 ?_ | refine Z37 ?_ | refine Z38 rfl ?_ | refine Z39 ?_ | refine Z40 ?_ | refine Z41 ?_) | (refine Z42 ?_; first | refine Z43 ?_ | refine Z44 ?_ | refine Z45 ?_ | refine Z46 ?_ | refine Z47 ?_ | refine Z48 ?_ | refine Z49 rfl (by decide) ?_ | refine Z50 rfl (by decide) ?_))
  refine WO_call rfl (sNewCell_ret _ l Fr val _ hcr hn) ?_
  rintro _ wa ⟨a0, rfl, hA⟩
  have ea := hA.2
  replace e0 := e0.trans ea
  try replace ha := Own.ext ha ea
  try replace hx := Own.ext hx ea
  try replace hg := Own.ext hg ea
  try replace hp := Blk.ext hp ea
  try replace hq := Blk.ext hq ea
  try replace hb := Blk.ext hb ea
  have := Ext.size_le ea
  have ha := hA.own
  repeat (first | (refine Z0 ?_; first | refine Z1 rfl ?_ | (refine Z2 ?_; first | refine Z3 rfl rfl (by decide) ?_ | refine Z4 rfl rfl (by decide) ?_ | refine Z5 rfl rfl ?_) | (refine Z6 ?_; first | refine Z7 rfl rfl ?_ | refine Z8 rfl rfl ?_) | (refine Z9 ?_; first | refine Z10 rfl (by assumption) (by rfl) ?_ | refine Z11 rfl (by assumption) ?_) | (refine Z12 ?_; first | refine Z13 (Z14 rfl (by decide) rfl) ?_ | refine Z13 (Z15 rfl (by decide) rfl) ?_) | (refine Z16 ?_; first | refine Z17 rfl ?_ | refine Z18 rfl ?_) | (refine Z19 ?_; first | refine Z20 rfl rfl (by omega) ?_ | refine Z21 rfl rfl (by omega) ?_ | refine Z22 rfl rfl (by omega) ?_ | refine Z23 rfl rfl (by omega) (by omega) ?_ | refine Z24 rfl rfl (by omega) (by omega) (by omega) ?_ | refine Z13 (Z25 rfl rfl) ?_ | refine Z13 (Z26 rfl rfl) ?_) | (refine Z27 ?_; refine Z13 (Z28 rfl (Z53 ⟨by omega, by omega⟩)) ?_) | (refine Z29 ?_; refine Z13 (Z30 rfl (by rfl) (by simp only [Z84, List.set_cons_zero, List.set_cons_succ]; rfl)) ?_) | refine Z31 ?_) | (refine Z32 ?_; first | refine Z33 ?_ | refine Z34 ?_ | refine Z35 ?_ | refine Z36 ?_ | refine Z37 ?_ | refine Z38 rfl ?_ | refine Z39 ?_ | refine Z40 ?_ | refine Z41 ?_) | (refine Z42 ?_; first | refine Z43 ?_ | refine Z44 ?_ | refine Z45 ?_ | refine Z46 ?_ | refine Z47 ?_ | refine Z48 ?_ | refine Z49 rfl (by decide) ?_ | refine Z50 rfl (by decide) ?_))
  refine WO_alloc fun wb hp eb zb => ?_
  repeat (first | (refine Z0 ?_; first | refine Z1 rfl ?_ | (refine Z2 ?_; first | refine Z3 rfl rfl (by decide) ?_ | refine Z4 rfl rfl (by decide) ?_ | refine Z5 rfl rfl ?_) | (refine Z6 ?_; first | refine Z7 rfl rfl ?_ | refine Z8 rfl rfl ?_) | (refine Z9 ?_; first | refine Z10 rfl (by assumption) (by rfl) ?_ | refine Z11 rfl (by assumption) ?_) | (refine Z12 ?_; first | refine Z13 (Z14 rfl (by decide) rfl) ?_ | refine Z13 (Z15 rfl (by decide) rfl) ?_) | (refine Z16 ?_; first | refine Z17 rfl ?_ | refine Z18 rfl ?_) | (refine Z19 ?_; first | refine Z20 rfl rfl (by omega) ?_ | refine Z21 rfl rfl (by omega) ?_ | refine Z22 rfl rfl (by omega) ?_ | refine Z23 rfl rfl (by omega) (by omega) ?_ | refine Z24 rfl rfl (by omega) (by omega) (by omega) ?_ | refine Z13 (Z25 rfl rfl) ?_ | refine Z13 (Z26 rfl rfl) ?_) | (refine Z27 ?_; refine Z13 (Z28 rfl (Z53 ⟨by omega, by omega⟩)) ?_) | (refine Z29 ?_; refine Z13 (Z30 rfl (by rfl) (by simp only [Z84, List.set_cons_zero, List.set_cons_succ]; rfl)) ?_) | refine Z31 ?_) | (refine Z32 ?_; first | refine Z33 ?_ | refine Z34 ?_ | refine Z35 ?_ | refine Z36 ?_ | refine Z37 ?_ | refine Z38 rfl ?_ | refine Z39 ?_ | refine Z40 ?_ | refine Z41 ?_) | (refine Z42 ?_; first | refine Z43 ?_ | refine Z44 ?_ | refine Z45 ?_ | refine Z46 ?_ | refine Z47 ?_ | refine Z48 ?_ | refine Z49 rfl (by decide) ?_ | refine Z50 rfl (by decide) ?_))
  refine WO_storeS (k := 2) (vs := [.int .i64 (newP l val).cell, .int .i64 (newP l val).tag]) rfl rfl rfl (by intro v hv; simp at hv; rcases hv with rfl | rfl <;> rfl) hp (by decide) fun wc hpc oc => ?_
  clear hp
  have ec := eb.only oc (Nat.le_refl _)
  replace e0 := e0.trans ec
  try replace ha := Own.ext ha ec
  try replace hx := Own.ext hx ec
  try replace hg := Own.ext hg ec
  try replace hp := Blk.ext hp ec
  try replace hq := Blk.ext hq ec
  try replace hb := Blk.ext hb ec
  have := Ext.size_le ec
  have hp : Blk wc wa.heap.size [.int .i64 (newP l val).cell, .int .i64 (newP l val).tag] _ := hpc
  have hplt := hp.lt
  repeat (first | (refine Z0 ?_; first | refine Z1 rfl ?_ | (refine Z2 ?_; first | refine Z3 rfl rfl (by decide) ?_ | refine Z4 rfl rfl (by decide) ?_ | refine Z5 rfl rfl ?_) | (refine Z6 ?_; first | refine Z7 rfl rfl ?_ | refine Z8 rfl rfl ?_) | (refine Z9 ?_; first | refine Z10 rfl (by assumption) (by rfl) ?_ | refine Z11 rfl (by assumption) ?_) | (refine Z12 ?_; first | refine Z13 (Z14 rfl (by decide) rfl) ?_ | refine Z13 (Z15 rfl (by decide) rfl) ?_) | (refine Z16 ?_; first | refine Z17 rfl ?_ | refine Z18 rfl ?_) | (refine Z19 ?_; first | refine Z20 rfl rfl (by omega) ?_ | refine Z21 rfl rfl (by omega) ?_ | refine Z22 rfl rfl (by omega) ?_ | refine Z23 rfl rfl (by omega) (by omega) ?_ | refine Z24 rfl rfl (by omega) (by omega) (by omega) ?_ | refine Z13 (Z25 rfl rfl) ?_ | refine Z13 (Z26 rfl rfl) ?_) | (refine Z27 ?_; refine Z13 (Z28 rfl (Z53 ⟨by omega, by omega⟩)) ?_) | (refine Z29 ?_; refine Z13 (Z30 rfl (by rfl) (by simp only [Z84, List.set_cons_zero, List.set_cons_succ]; rfl)) ?_) | refine Z31 ?_) | (refine Z32 ?_; first | refine Z33 ?_ | refine Z34 ?_ | refine Z35 ?_ | refine Z36 ?_ | refine Z37 ?_ | refine Z38 rfl ?_ | refine Z39 ?_ | refine Z40 ?_ | refine Z41 ?_) | (refine Z42 ?_; first | refine Z43 ?_ | refine Z44 ?_ | refine Z45 ?_ | refine Z46 ?_ | refine Z47 ?_ | refine Z48 ?_ | refine Z49 rfl (by decide) ?_ | refine Z50 rfl (by decide) ?_))
  refine WO_call rfl (toCellS_ret v l F _ (h.ext e0) hn) ?_
  rintro xr wr hxr
  have er := hxr.2
  replace e0 := e0.trans er
  try replace ha := Own.ext ha er
  try replace hx := Own.ext hx er
  try replace hg := Own.ext hg er
  try replace hp := Blk.ext hp er
  try replace hq := Blk.ext hq er
  try replace hb := Blk.ext hb er
  have := Ext.size_le er
  have hx := hxr.own
  obtain ⟨Fr, hcr, _⟩ := hxr.ces
  repeat (first | (refine Z0 ?_; first | refine Z1 rfl ?_ | (refine Z2 ?_; first | refine Z3 rfl rfl (by decide) ?_ | refine Z4 rfl rfl (by decide) ?_ | refine Z5 rfl rfl ?_) | (refine Z6 ?_; first | refine Z7 rfl rfl ?_ | refine Z8 rfl rfl ?_) | (refine Z9 ?_; first | refine Z10 rfl (by assumption) (by rfl) ?_ | refine Z11 rfl (by assumption) ?_) | (refine Z12 ?_; first | refine Z13 (Z14 rfl (by decide) rfl) ?_ | refine Z13 (Z15 rfl (by decide) rfl) ?_) | (refine Z16 ?_; first | refine Z17 rfl ?_ | refine Z18 rfl ?_) | (refine Z19 ?_; first | refine Z20 rfl rfl (by omega) ?_ | refine Z21 rfl rfl (by omega) ?_ | refine Z22 rfl rfl (by omega) ?_ | refine Z23 rfl rfl (by omega) (by omega) ?_ | refine Z24 rfl rfl (by omega) (by omega) (by omega) ?_ | refine Z13 (Z25 rfl rfl) ?_ | refine Z13 (Z26 rfl rfl) ?_) | (refine Z27 ?_; refine Z13 (Z28 rfl (Z53 ⟨by omega, by omega⟩)) ?_) | (refine Z29 ?_; refine Z13 (Z30 rfl (by rfl) (by simp only [Z84, List.set_cons_zero, List.set_cons_succ]; rfl)) ?_) | refine Z31 ?_) | (refine Z32 ?_; first | refine Z33 ?_ | refine Z34 ?_ | refine Z35 ?_ | refine Z36 ?_ | refine Z37 ?_ | refine Z38 rfl ?_ | refine Z39 ?_ | refine Z40 ?_ | refine Z41 ?_) | (refine Z42 ?_; first | refine Z43 ?_ | refine Z44 ?_ | refine Z45 ?_ | refine Z46 ?_ | refine Z47 ?_ | refine Z48 ?_ | refine Z49 rfl (by decide) ?_ | refine Z50 rfl (by decide) ?_))
  refine WO_call rfl (NewCell_ret _ l Fr val _ hcr hn) ?_
  rintro _ wd ⟨g0, rfl, hG⟩
  have ed := hG.2
  replace e0 := e0.trans ed
  try replace ha := Own.ext ha ed
  try replace hx := Own.ext hx ed
  try replace hg := Own.ext hg ed
  try replace hp := Blk.ext hp ed
  try replace hq := Blk.ext hq ed
  try replace hb := Blk.ext hb ed
  have := Ext.size_le ed
  have hg := hG.own
  repeat (first | (refine Z0 ?_; first | refine Z1 rfl ?_ | (refine Z2 ?_; first | refine Z3 rfl rfl (by decide) ?_ | refine Z4 rfl rfl (by decide) ?_ | refine Z5 rfl rfl ?_) | (refine Z6 ?_; first | refine Z7 rfl rfl ?_ | refine Z8 rfl rfl ?_) | (refine Z9 ?_; first | refine Z10 rfl (by assumption) (by rfl) ?_ | refine Z11 rfl (by assumption) ?_) | (refine Z12 ?_; first | refine Z13 (Z14 rfl (by decide) rfl) ?_ | refine Z13 (Z15 rfl (by decide) rfl) ?_) | (refine Z16 ?_; first | refine Z17 rfl ?_ | refine Z18 rfl ?_) | (refine Z19 ?_; first | refine Z20 rfl rfl (by omega) ?_ | refine Z21 rfl rfl (by omega) ?_ | refine Z22 rfl rfl (by omega) ?_ | refine Z23 rfl rfl (by omega) (by omega) ?_ | refine Z24 rfl rfl (by omega) (by omega) (by omega) ?_ | refine Z13 (Z25 rfl rfl) ?_ | refine Z13 (Z26 rfl rfl) ?_) | (refine Z27 ?_; refine Z13 (Z28 rfl (Z53 ⟨by omega, by omega⟩)) ?_) | (refine Z29 ?_; refine Z13 (Z30 rfl (by rfl) (by simp only [Z84, List.set_cons_zero, List.set_cons_succ]; rfl)) ?_) | refine Z31 ?_) | (refine Z32 ?_; first | refine Z33 ?_ | refine Z34 ?_ | refine Z35 ?_ | refine Z36 ?_ | refine Z37 ?_ | refine Z38 rfl ?_ | refine Z39 ?_ | refine Z40 ?_ | refine Z41 ?_) | (refine Z42 ?_; first | refine Z43 ?_ | refine Z44 ?_ | refine Z45 ?_ | refine Z46 ?_ | refine Z47 ?_ | refine Z48 ?_ | refine Z49 rfl (by decide) ?_ | refine Z50 rfl (by decide) ?_))
  refine WO_alloc fun we hq ee ze => ?_
  repeat (first | (refine Z0 ?_; first | refine Z1 rfl ?_ | (refine Z2 ?_; first | refine Z3 rfl rfl (by decide) ?_ | refine Z4 rfl rfl (by decide) ?_ | refine Z5 rfl rfl ?_) | (refine Z6 ?_; first | refine Z7 rfl rfl ?_ | refine Z8 rfl rfl ?_) | (refine Z9 ?_; first | refine Z10 rfl (by assumption) (by rfl) ?_ | refine Z11 rfl (by assumption) ?_) | (refine Z12 ?_; first | refine Z13 (Z14 rfl (by decide) rfl) ?_ | refine Z13 (Z15 rfl (by decide) rfl) ?_) | (refine Z16 ?_; first | refine Z17 rfl ?_ | refine Z18 rfl ?_) | (refine Z19 ?_; first | refine Z20 rfl rfl (by omega) ?_ | refine Z21 rfl rfl (by omega) ?_ | refine Z22 rfl rfl (by omega) ?_ | refine Z23 rfl rfl (by omega) (by omega) ?_ | refine Z24 rfl rfl (by omega) (by omega) (by omega) ?_ | refine Z13 (Z25 rfl rfl) ?_ | refine Z13 (Z26 rfl rfl) ?_) | (refine Z27 ?_; refine Z13 (Z28 rfl (Z53 ⟨by omega, by omega⟩)) ?_) | (refine Z29 ?_; refine Z13 (Z30 rfl (by rfl) (by simp only [Z84, List.set_cons_zero, List.set_cons_succ]; rfl)) ?_) | refine Z31 ?_) | (refine Z32 ?_; first | refine Z33 ?_ | refine Z34 ?_ | refine Z35 ?_ | refine Z36 ?_ | refine Z37 ?_ | refine Z38 rfl ?_ | refine Z39 ?_ | refine Z40 ?_ | refine Z41 ?_) | (refine Z42 ?_; first | refine Z43 ?_ | refine Z44 ?_ | refine Z45 ?_ | refine Z46 ?_ | refine Z47 ?_ | refine Z48 ?_ | refine Z49 rfl (by decide) ?_ | refine Z50 rfl (by decide) ?_))
  refine WO_storeS (k := 2) (vs := [.int .i64 (newP l val).cell, .int .i64 (newP l val).tag]) rfl rfl rfl (by intro v hv; simp at hv; rcases hv with rfl | rfl <;> rfl) hq (by decide) fun wf hqf of' => ?_
  clear hq
  have ef := ee.only of' (Nat.le_refl _)
  replace e0 := e0.trans ef
  try replace ha := Own.ext ha ef
  try replace hx := Own.ext hx ef
  try replace hg := Own.ext hg ef
  try replace hp := Blk.ext hp ef
  try replace hq := Blk.ext hq ef
  try replace hb := Blk.ext hb ef
  have := Ext.size_le ef
  have hq : Blk wf wd.heap.size [.int .i64 (newP l val).cell, .int .i64 (newP l val).tag] _ := hqf
  repeat (first | (refine Z0 ?_; first | refine Z1 rfl ?_ | (refine Z2 ?_; first | refine Z3 rfl rfl (by decide) ?_ | refine Z4 rfl rfl (by decide) ?_ | refine Z5 rfl rfl ?_) | (refine Z6 ?_; first | refine Z7 rfl rfl ?_ | refine Z8 rfl rfl ?_) | (refine Z9 ?_; first | refine Z10 rfl (by assumption) (by rfl) ?_ | refine Z11 rfl (by assumption) ?_) | (refine Z12 ?_; first | refine Z13 (Z14 rfl (by decide) rfl) ?_ | refine Z13 (Z15 rfl (by decide) rfl) ?_) | (refine Z16 ?_; first | refine Z17 rfl ?_ | refine Z18 rfl ?_) | (refine Z19 ?_; first | refine Z20 rfl rfl (by omega) ?_ | refine Z21 rfl rfl (by omega) ?_ | refine Z22 rfl rfl (by omega) ?_ | refine Z23 rfl rfl (by omega) (by omega) ?_ | refine Z24 rfl rfl (by omega) (by omega) (by omega) ?_ | refine Z13 (Z25 rfl rfl) ?_ | refine Z13 (Z26 rfl rfl) ?_) | (refine Z27 ?_; refine Z13 (Z28 rfl (Z53 ⟨by omega, by omega⟩)) ?_) | (refine Z29 ?_; refine Z13 (Z30 rfl (by rfl) (by simp only [Z84, List.set_cons_zero, List.set_cons_succ]; rfl)) ?_) | refine Z31 ?_) | (refine Z32 ?_; first | refine Z33 ?_ | refine Z34 ?_ | refine Z35 ?_ | refine Z36 ?_ | refine Z37 ?_ | refine Z38 rfl ?_ | refine Z39 ?_ | refine Z40 ?_ | refine Z41 ?_) | (refine Z42 ?_; first | refine Z43 ?_ | refine Z44 ?_ | refine Z45 ?_ | refine Z46 ?_ | refine Z47 ?_ | refine Z48 ?_ | refine Z49 rfl (by decide) ?_ | refine Z50 rfl (by decide) ?_))
  obtain ⟨F1, h1⟩ := hg.ces
  obtain ⟨F2, h2⟩ := ha.ces
  refine WO_call rfl (eqCellS_ret _ _ _ _ F1 F2 _ h1 h2) ?_
  rintro _ wq ⟨rfl, eq⟩
  rw [decide_eq_true rfl]
  clear h1 h2
  replace e0 := e0.trans eq
  try replace ha := Own.ext ha eq
  try replace hx := Own.ext hx eq
  try replace hg := Own.ext hg eq
  try replace hp := Blk.ext hp eq
  try replace hq := Blk.ext hq eq
  try replace hb := Blk.ext hb eq
  have := Ext.size_le eq
  repeat (first | (refine Z0 ?_; first | refine Z1 rfl ?_ | (refine Z2 ?_; first | refine Z3 rfl rfl (by decide) ?_ | refine Z4 rfl rfl (by decide) ?_ | refine Z5 rfl rfl ?_) | (refine Z6 ?_; first | refine Z7 rfl rfl ?_ | refine Z8 rfl rfl ?_) | (refine Z9 ?_; first | refine Z10 rfl (by assumption) (by rfl) ?_ | refine Z11 rfl (by assumption) ?_) | (refine Z12 ?_; first | refine Z13 (Z14 rfl (by decide) rfl) ?_ | refine Z13 (Z15 rfl (by decide) rfl) ?_) | (refine Z16 ?_; first | refine Z17 rfl ?_ | refine Z18 rfl ?_) | (refine Z19 ?_; first | refine Z20 rfl rfl (by omega) ?_ | refine Z21 rfl rfl (by omega) ?_ | refine Z22 rfl rfl (by omega) ?_ | refine Z23 rfl rfl (by omega) (by omega) ?_ | refine Z24 rfl rfl (by omega) (by omega) (by omega) ?_ | refine Z13 (Z25 rfl rfl) ?_ | refine Z13 (Z26 rfl rfl) ?_) | (refine Z27 ?_; refine Z13 (Z28 rfl (Z53 ⟨by omega, by omega⟩)) ?_) | (refine Z29 ?_; refine Z13 (Z30 rfl (by rfl) (by simp only [Z84, List.set_cons_zero, List.set_cons_succ]; rfl)) ?_) | refine Z31 ?_) | (refine Z32 ?_; first | refine Z33 ?_ | refine Z34 ?_ | refine Z35 ?_ | refine Z36 ?_ | refine Z37 ?_ | refine Z38 rfl ?_ | refine Z39 ?_ | refine Z40 ?_ | refine Z41 ?_) | (refine Z42 ?_; first | refine Z43 ?_ | refine Z44 ?_ | refine Z45 ?_ | refine Z46 ?_ | refine Z47 ?_ | refine Z48 ?_ | refine Z49 rfl (by decide) ?_ | refine Z50 rfl (by decide) ?_))
  refine WO_loadSB rfl hq rfl ?_
  repeat (first | (refine Z0 ?_; first | refine Z1 rfl ?_ | (refine Z2 ?_; first | refine Z3 rfl rfl (by decide) ?_ | refine Z4 rfl rfl (by decide) ?_ | refine Z5 rfl rfl ?_) | (refine Z6 ?_; first | refine Z7 rfl rfl ?_ | refine Z8 rfl rfl ?_) | (refine Z9 ?_; first | refine Z10 rfl (by assumption) (by rfl) ?_ | refine Z11 rfl (by assumption) ?_) | (refine Z12 ?_; first | refine Z13 (Z14 rfl (by decide) rfl) ?_ | refine Z13 (Z15 rfl (by decide) rfl) ?_) | (refine Z16 ?_; first | refine Z17 rfl ?_ | refine Z18 rfl ?_) | (refine Z19 ?_; first | refine Z20 rfl rfl (by omega) ?_ | refine Z21 rfl rfl (by omega) ?_ | refine Z22 rfl rfl (by omega) ?_ | refine Z23 rfl rfl (by omega) (by omega) ?_ | refine Z24 rfl rfl (by omega) (by omega) (by omega) ?_ | refine Z13 (Z25 rfl rfl) ?_ | refine Z13 (Z26 rfl rfl) ?_) | (refine Z27 ?_; refine Z13 (Z28 rfl (Z53 ⟨by omega, by omega⟩)) ?_) | (refine Z29 ?_; refine Z13 (Z30 rfl (by rfl) (by simp only [Z84, List.set_cons_zero, List.set_cons_succ]; rfl)) ?_) | refine Z31 ?_) | (refine Z32 ?_; first | refine Z33 ?_ | refine Z34 ?_ | refine Z35 ?_ | refine Z36 ?_ | refine Z37 ?_ | refine Z38 rfl ?_ | refine Z39 ?_ | refine Z40 ?_ | refine Z41 ?_) | (refine Z42 ?_; first | refine Z43 ?_ | refine Z44 ?_ | refine Z45 ?_ | refine Z46 ?_ | refine Z47 ?_ | refine Z48 ?_ | refine Z49 rfl (by decide) ?_ | refine Z50 rfl (by decide) ?_))
  refine WO_loadSB rfl hp rfl ?_
  repeat (first | (refine Z0 ?_; first | refine Z1 rfl ?_ | (refine Z2 ?_; first | refine Z3 rfl rfl (by decide) ?_ | refine Z4 rfl rfl (by decide) ?_ | refine Z5 rfl rfl ?_) | (refine Z6 ?_; first | refine Z7 rfl rfl ?_ | refine Z8 rfl rfl ?_) | (refine Z9 ?_; first | refine Z10 rfl (by assumption) (by rfl) ?_ | refine Z11 rfl (by assumption) ?_) | (refine Z12 ?_; first | refine Z13 (Z14 rfl (by decide) rfl) ?_ | refine Z13 (Z15 rfl (by decide) rfl) ?_) | (refine Z16 ?_; first | refine Z17 rfl ?_ | refine Z18 rfl ?_) | (refine Z19 ?_; first | refine Z20 rfl rfl (by omega) ?_ | refine Z21 rfl rfl (by omega) ?_ | refine Z22 rfl rfl (by omega) ?_ | refine Z23 rfl rfl (by omega) (by omega) ?_ | refine Z24 rfl rfl (by omega) (by omega) (by omega) ?_ | refine Z13 (Z25 rfl rfl) ?_ | refine Z13 (Z26 rfl rfl) ?_) | (refine Z27 ?_; refine Z13 (Z28 rfl (Z53 ⟨by omega, by omega⟩)) ?_) | (refine Z29 ?_; refine Z13 (Z30 rfl (by rfl) (by simp only [Z84, List.set_cons_zero, List.set_cons_succ]; rfl)) ?_) | refine Z31 ?_) | (refine Z32 ?_; first | refine Z33 ?_ | refine Z34 ?_ | refine Z35 ?_ | refine Z36 ?_ | refine Z37 ?_ | refine Z38 rfl ?_ | refine Z39 ?_ | refine Z40 ?_ | refine Z41 ?_) | (refine Z42 ?_; first | refine Z43 ?_ | refine Z44 ?_ | refine Z45 ?_ | refine Z46 ?_ | refine Z47 ?_ | refine Z48 ?_ | refine Z49 rfl (by decide) ?_ | refine Z50 rfl (by decide) ?_))
  refine WO_call rfl (eqPointer_ret _ _ _) ?_
  rintro _ wq ⟨rfl, eq⟩
  rw [decide_eq_true rfl]
  replace e0 := e0.trans eq
  try replace ha := Own.ext ha eq
  try replace hx := Own.ext hx eq
  try replace hg := Own.ext hg eq
  try replace hp := Blk.ext hp eq
  try replace hq := Blk.ext hq eq
  try replace hb := Blk.ext hb eq
  have := Ext.size_le eq
  repeat' (first | (refine Z0 ?_; first | refine Z1 rfl ?_ | (refine Z2 ?_; first | refine Z3 rfl rfl (by decide) ?_ | refine Z4 rfl rfl (by decide) ?_ | refine Z5 rfl rfl ?_ | ((refine Z51 rfl rfl (fun c' hc' => ?_)); cases c' <;> (try simp only [decide_eq_true_eq, decide_eq_false_iff_not, beq_iff_eq, beq_eq_false_iff_ne, bne_iff_ne, bne_eq_false_iff_eq, ne_eq, gt_iff_lt, ge_iff_le, Int.not_lt, Int.not_le, Bool.not_eq_true', Bool.not_eq_false', Bool.not_true, Bool.not_false, reduceCtorEq, Decidable.not_not, not_true_eq_false, Bool.true_eq_false, Bool.false_eq_true] at hc') <;> (try (exfalso; omega)))) | (refine Z6 ?_; first | refine Z7 rfl rfl ?_ | refine Z8 rfl rfl ?_) | (refine Z9 ?_; first | refine Z10 rfl (by assumption) (by rfl) ?_ | refine Z11 rfl (by assumption) ?_) | (refine Z12 ?_; first | refine Z13 (Z14 rfl (by decide) rfl) ?_ | refine Z13 (Z15 rfl (by decide) rfl) ?_) | (refine Z16 ?_; first | refine Z17 rfl ?_ | refine Z18 rfl ?_) | (refine Z19 ?_; first | refine Z20 rfl rfl (by omega) ?_ | refine Z21 rfl rfl (by omega) ?_ | refine Z22 rfl rfl (by omega) ?_ | refine Z23 rfl rfl (by omega) (by omega) ?_ | refine Z24 rfl rfl (by omega) (by omega) (by omega) ?_ | refine Z13 (Z25 rfl rfl) ?_ | refine Z13 (Z26 rfl rfl) ?_) | (refine Z27 ?_; refine Z13 (Z28 rfl (Z53 ⟨by omega, by omega⟩)) ?_) | (refine Z29 ?_; refine Z13 (Z30 rfl (by rfl) (by simp only [Z84, List.set_cons_zero, List.set_cons_succ]; rfl)) ?_) | refine Z31 ?_) | (refine Z32 ?_; first | refine Z33 ?_ | refine Z34 ?_ | refine Z35 ?_ | refine Z36 ?_ | refine Z37 ?_ | refine Z38 rfl ?_ | refine Z39 ?_ | refine Z40 ?_ | refine Z41 ?_) | (refine Z42 ?_; first | refine Z43 ?_ | refine Z44 ?_ | refine Z45 ?_ | refine Z46 ?_ | refine Z47 ?_ | refine Z48 ?_ | refine Z49 rfl (by decide) ?_ | refine Z50 rfl (by decide) ?_ | ((refine Z52 rfl (fun hc' => ?_) (fun hc' => ?_)) <;> (try simp only [decide_eq_true_eq, decide_eq_false_iff_not, beq_iff_eq, beq_eq_false_iff_ne, bne_iff_ne, bne_eq_false_iff_eq, ne_eq, gt_iff_lt, ge_iff_le, Int.not_lt, Int.not_le, Bool.not_eq_true', Bool.not_eq_false', Bool.not_true, Bool.not_false, reduceCtorEq, Decidable.not_not, not_true_eq_false, Bool.true_eq_false, Bool.false_eq_true] at hc') <;> (try (exfalso; omega)))))
  refine WO_call rfl (toCellS_ret v l F _ (h.ext e0) hn) ?_
  rintro xr wr hxr
  have er := hxr.2
  replace e0 := e0.trans er
  try replace ha := Own.ext ha er
  try replace hx := Own.ext hx er
  try replace hg := Own.ext hg er
  try replace hp := Blk.ext hp er
  try replace hq := Blk.ext hq er
  try replace hb := Blk.ext hb er
  have := Ext.size_le er
  repeat (first | (refine Z0 ?_; first | refine Z1 rfl ?_ | (refine Z2 ?_; first | refine Z3 rfl rfl (by decide) ?_ | refine Z4 rfl rfl (by decide) ?_ | refine Z5 rfl rfl ?_) | (refine Z6 ?_; first | refine Z7 rfl rfl ?_ | refine Z8 rfl rfl ?_) | (refine Z9 ?_; first | refine Z10 rfl (by assumption) (by rfl) ?_ | refine Z11 rfl (by assumption) ?_) | (refine Z12 ?_; first | refine Z13 (Z14 rfl (by decide) rfl) ?_ | refine Z13 (Z15 rfl (by decide) rfl) ?_) | (refine Z16 ?_; first | refine Z17 rfl ?_ | refine Z18 rfl ?_) | (refine Z19 ?_; first | refine Z20 rfl rfl (by omega) ?_ | refine Z21 rfl rfl (by omega) ?_ | refine Z22 rfl rfl (by omega) ?_ | refine Z23 rfl rfl (by omega) (by omega) ?_ | refine Z24 rfl rfl (by omega) (by omega) (by omega) ?_ | refine Z13 (Z25 rfl rfl) ?_ | refine Z13 (Z26 rfl rfl) ?_) | (refine Z27 ?_; refine Z13 (Z28 rfl (Z53 ⟨by omega, by omega⟩)) ?_) | (refine Z29 ?_; refine Z13 (Z30 rfl (by rfl) (by simp only [Z84, List.set_cons_zero, List.set_cons_succ]; rfl)) ?_) | refine Z31 ?_) | (refine Z32 ?_; first | refine Z33 ?_ | refine Z34 ?_ | refine Z35 ?_ | refine Z36 ?_ | refine Z37 ?_ | refine Z38 rfl ?_ | refine Z39 ?_ | refine Z40 ?_ | refine Z41 ?_) | (refine Z42 ?_; first | refine Z43 ?_ | refine Z44 ?_ | refine Z45 ?_ | refine Z46 ?_ | refine Z47 ?_ | refine Z48 ?_ | refine Z49 rfl (by decide) ?_ | refine Z50 rfl (by decide) ?_))
  obtain ⟨Fr, hcr, _⟩ := hxr.ces
  obtain ⟨F1, h1⟩ := hx.ces
  obtain ⟨F2, h2⟩ := (⟨Fr, hcr⟩ : ∃ F, CeS _ _ _ F)
  refine WO_call rfl (eqCellS_ret _ _ _ _ F1 F2 _ h1 h2) ?_
  rintro _ wq ⟨rfl, eq⟩
  rw [decide_eq_true rfl]
  clear h1 h2
  replace e0 := e0.trans eq
  try replace ha := Own.ext ha eq
  try replace hx := Own.ext hx eq
  try replace hg := Own.ext hg eq
  try replace hp := Blk.ext hp eq
  try replace hq := Blk.ext hq eq
  try replace hb := Blk.ext hb eq
  have := Ext.size_le eq
  repeat (first | (refine Z0 ?_; first | refine Z1 rfl ?_ | (refine Z2 ?_; first | refine Z3 rfl rfl (by decide) ?_ | refine Z4 rfl rfl (by decide) ?_ | refine Z5 rfl rfl ?_) | (refine Z6 ?_; first | refine Z7 rfl rfl ?_ | refine Z8 rfl rfl ?_) | (refine Z9 ?_; first | refine Z10 rfl (by assumption) (by rfl) ?_ | refine Z11 rfl (by assumption) ?_) | (refine Z12 ?_; first | refine Z13 (Z14 rfl (by decide) rfl) ?_ | refine Z13 (Z15 rfl (by decide) rfl) ?_) | (refine Z16 ?_; first | refine Z17 rfl ?_ | refine Z18 rfl ?_) | (refine Z19 ?_; first | refine Z20 rfl rfl (by omega) ?_ | refine Z21 rfl rfl (by omega) ?_ | refine Z22 rfl rfl (by omega) ?_ | refine Z23 rfl rfl (by omega) (by omega) ?_ | refine Z24 rfl rfl (by omega) (by omega) (by omega) ?_ | refine Z13 (Z25 rfl rfl) ?_ | refine Z13 (Z26 rfl rfl) ?_) | (refine Z27 ?_; refine Z13 (Z28 rfl (Z53 ⟨by omega, by omega⟩)) ?_) | (refine Z29 ?_; refine Z13 (Z30 rfl (by rfl) (by simp only [Z84, List.set_cons_zero, List.set_cons_succ]; rfl)) ?_) | refine Z31 ?_) | (refine Z32 ?_; first | refine Z33 ?_ | refine Z34 ?_ | refine Z35 ?_ | refine Z36 ?_ | refine Z37 ?_ | refine Z38 rfl ?_ | refine Z39 ?_ | refine Z40 ?_ | refine Z41 ?_) | (refine Z42 ?_; first | refine Z43 ?_ | refine Z44 ?_ | refine Z45 ?_ | refine Z46 ?_ | refine Z47 ?_ | refine Z48 ?_ | refine Z49 rfl (by decide) ?_ | refine Z50 rfl (by decide) ?_))
  obtain ⟨Fx, hxr, hxn, hxb⟩ := hx
  refine WO_call rfl (markCellS_ret _ _ _ l Fx 1 _ hxr hxn (by decide) (kAt_all l hn).2) ?_
  rintro _ wm ⟨rfl, _, cm⟩
  replace cm := cm.toI hxb
  have hk1 := (kAt_all l hn).1
  replace e0 := e0.chgI cm (by omega)
  try replace ha := Own.chgI ha cm (by omega)
  try replace hx := Own.chgI hx cm (by omega)
  try replace hg := Own.chgI hg cm (by omega)
  try replace hp := Blk.chgI hp cm (by omega)
  try replace hq := Blk.chgI hq cm (by omega)
  try replace hb := Blk.chgI hb cm (by omega)
  have := ChgI.size cm
  repeat' (first | (refine Z0 ?_; first | refine Z1 rfl ?_ | (refine Z2 ?_; first | refine Z3 rfl rfl (by decide) ?_ | refine Z4 rfl rfl (by decide) ?_ | refine Z5 rfl rfl ?_ | ((refine Z51 rfl rfl (fun c' hc' => ?_)); cases c' <;> (try simp only [decide_eq_true_eq, decide_eq_false_iff_not, beq_iff_eq, beq_eq_false_iff_ne, bne_iff_ne, bne_eq_false_iff_eq, ne_eq, gt_iff_lt, ge_iff_le, Int.not_lt, Int.not_le, Bool.not_eq_true', Bool.not_eq_false', Bool.not_true, Bool.not_false, reduceCtorEq, Decidable.not_not, not_true_eq_false, Bool.true_eq_false, Bool.false_eq_true] at hc') <;> (try (exfalso; omega)))) | (refine Z6 ?_; first | refine Z7 rfl rfl ?_ | refine Z8 rfl rfl ?_) | (refine Z9 ?_; first | refine Z10 rfl (by assumption) (by rfl) ?_ | refine Z11 rfl (by assumption) ?_) | (refine Z12 ?_; first | refine Z13 (Z14 rfl (by decide) rfl) ?_ | refine Z13 (Z15 rfl (by decide) rfl) ?_) | (refine Z16 ?_; first | refine Z17 rfl ?_ | refine Z18 rfl ?_) | (refine Z19 ?_; first | refine Z20 rfl rfl (by omega) ?_ | refine Z21 rfl rfl (by omega) ?_ | refine Z22 rfl rfl (by omega) ?_ | refine Z23 rfl rfl (by omega) (by omega) ?_ | refine Z24 rfl rfl (by omega) (by omega) (by omega) ?_ | refine Z13 (Z25 rfl rfl) ?_ | refine Z13 (Z26 rfl rfl) ?_) | (refine Z27 ?_; refine Z13 (Z28 rfl (Z53 ⟨by omega, by omega⟩)) ?_) | (refine Z29 ?_; refine Z13 (Z30 rfl (by rfl) (by simp only [Z84, List.set_cons_zero, List.set_cons_succ]; rfl)) ?_) | refine Z31 ?_) | (refine Z32 ?_; first | refine Z33 ?_ | refine Z34 ?_ | refine Z35 ?_ | refine Z36 ?_ | refine Z37 ?_ | refine Z38 rfl ?_ | refine Z39 ?_ | refine Z40 ?_ | refine Z41 ?_) | (refine Z42 ?_; first | refine Z43 ?_ | refine Z44 ?_ | refine Z45 ?_ | refine Z46 ?_ | refine Z47 ?_ | refine Z48 ?_ | refine Z49 rfl (by decide) ?_ | refine Z50 rfl (by decide) ?_ | ((refine Z52 rfl (fun hc' => ?_) (fun hc' => ?_)) <;> (try simp only [decide_eq_true_eq, decide_eq_false_iff_not, beq_iff_eq, beq_eq_false_iff_ne, bne_iff_ne, bne_eq_false_iff_eq, ne_eq, gt_iff_lt, ge_iff_le, Int.not_lt, Int.not_le, Bool.not_eq_true', Bool.not_eq_false', Bool.not_true, Bool.not_false, reduceCtorEq, Decidable.not_not, not_true_eq_false, Bool.true_eq_false, Bool.false_eq_true] at hc') <;> (try (exfalso; omega)))))
  obtain ⟨F1, h1⟩ := hg.ces
  obtain ⟨F2, h2⟩ := ha.ces
  refine WO_call rfl (eqCellS_ret _ _ _ _ F1 F2 _ h1 h2) ?_
  rintro _ wq ⟨rfl, eq⟩
  rw [decide_eq_true rfl]
  clear h1 h2
  replace e0 := e0.trans eq
  try replace ha := Own.ext ha eq
  try replace hx := Own.ext hx eq
  try replace hg := Own.ext hg eq
  try replace hp := Blk.ext hp eq
  try replace hq := Blk.ext hq eq
  try replace hb := Blk.ext hb eq
  have := Ext.size_le eq
  repeat (first | (refine Z0 ?_; first | refine Z1 rfl ?_ | (refine Z2 ?_; first | refine Z3 rfl rfl (by decide) ?_ | refine Z4 rfl rfl (by decide) ?_ | refine Z5 rfl rfl ?_) | (refine Z6 ?_; first | refine Z7 rfl rfl ?_ | refine Z8 rfl rfl ?_) | (refine Z9 ?_; first | refine Z10 rfl (by assumption) (by rfl) ?_ | refine Z11 rfl (by assumption) ?_) | (refine Z12 ?_; first | refine Z13 (Z14 rfl (by decide) rfl) ?_ | refine Z13 (Z15 rfl (by decide) rfl) ?_) | (refine Z16 ?_; first | refine Z17 rfl ?_ | refine Z18 rfl ?_) | (refine Z19 ?_; first | refine Z20 rfl rfl (by omega) ?_ | refine Z21 rfl rfl (by omega) ?_ | refine Z22 rfl rfl (by omega) ?_ | refine Z23 rfl rfl (by omega) (by omega) ?_ | refine Z24 rfl rfl (by omega) (by omega) (by omega) ?_ | refine Z13 (Z25 rfl rfl) ?_ | refine Z13 (Z26 rfl rfl) ?_) | (refine Z27 ?_; refine Z13 (Z28 rfl (Z53 ⟨by omega, by omega⟩)) ?_) | (refine Z29 ?_; refine Z13 (Z30 rfl (by rfl) (by simp only [Z84, List.set_cons_zero, List.set_cons_succ]; rfl)) ?_) | refine Z31 ?_) | (refine Z32 ?_; first | refine Z33 ?_ | refine Z34 ?_ | refine Z35 ?_ | refine Z36 ?_ | refine Z37 ?_ | refine Z38 rfl ?_ | refine Z39 ?_ | refine Z40 ?_ | refine Z41 ?_) | (refine Z42 ?_; first | refine Z43 ?_ | refine Z44 ?_ | refine Z45 ?_ | refine Z46 ?_ | refine Z47 ?_ | refine Z48 ?_ | refine Z49 rfl (by decide) ?_ | refine Z50 rfl (by decide) ?_))
  refine WO_loadSB rfl hq rfl ?_
  repeat (first | (refine Z0 ?_; first | refine Z1 rfl ?_ | (refine Z2 ?_; first | refine Z3 rfl rfl (by decide) ?_ | refine Z4 rfl rfl (by decide) ?_ | refine Z5 rfl rfl ?_) | (refine Z6 ?_; first | refine Z7 rfl rfl ?_ | refine Z8 rfl rfl ?_) | (refine Z9 ?_; first | refine Z10 rfl (by assumption) (by rfl) ?_ | refine Z11 rfl (by assumption) ?_) | (refine Z12 ?_; first | refine Z13 (Z14 rfl (by decide) rfl) ?_ | refine Z13 (Z15 rfl (by decide) rfl) ?_) | (refine Z16 ?_; first | refine Z17 rfl ?_ | refine Z18 rfl ?_) | (refine Z19 ?_; first | refine Z20 rfl rfl (by omega) ?_ | refine Z21 rfl rfl (by omega) ?_ | refine Z22 rfl rfl (by omega) ?_ | refine Z23 rfl rfl (by omega) (by omega) ?_ | refine Z24 rfl rfl (by omega) (by omega) (by omega) ?_ | refine Z13 (Z25 rfl rfl) ?_ | refine Z13 (Z26 rfl rfl) ?_) | (refine Z27 ?_; refine Z13 (Z28 rfl (Z53 ⟨by omega, by omega⟩)) ?_) | (refine Z29 ?_; refine Z13 (Z30 rfl (by rfl) (by simp only [Z84, List.set_cons_zero, List.set_cons_succ]; rfl)) ?_) | refine Z31 ?_) | (refine Z32 ?_; first | refine Z33 ?_ | refine Z34 ?_ | refine Z35 ?_ | refine Z36 ?_ | refine Z37 ?_ | refine Z38 rfl ?_ | refine Z39 ?_ | refine Z40 ?_ | refine Z41 ?_) | (refine Z42 ?_; first | refine Z43 ?_ | refine Z44 ?_ | refine Z45 ?_ | refine Z46 ?_ | refine Z47 ?_ | refine Z48 ?_ | refine Z49 rfl (by decide) ?_ | refine Z50 rfl (by decide) ?_))
  refine WO_loadSB rfl hp rfl ?_
  repeat (first | (refine Z0 ?_; first | refine Z1 rfl ?_ | (refine Z2 ?_; first | refine Z3 rfl rfl (by decide) ?_ | refine Z4 rfl rfl (by decide) ?_ | refine Z5 rfl rfl ?_) | (refine Z6 ?_; first | refine Z7 rfl rfl ?_ | refine Z8 rfl rfl ?_) | (refine Z9 ?_; first | refine Z10 rfl (by assumption) (by rfl) ?_ | refine Z11 rfl (by assumption) ?_) | (refine Z12 ?_; first | refine Z13 (Z14 rfl (by decide) rfl) ?_ | refine Z13 (Z15 rfl (by decide) rfl) ?_) | (refine Z16 ?_; first | refine Z17 rfl ?_ | refine Z18 rfl ?_) | (refine Z19 ?_; first | refine Z20 rfl rfl (by omega) ?_ | refine Z21 rfl rfl (by omega) ?_ | refine Z22 rfl rfl (by omega) ?_ | refine Z23 rfl rfl (by omega) (by omega) ?_ | refine Z24 rfl rfl (by omega) (by omega) (by omega) ?_ | refine Z13 (Z25 rfl rfl) ?_ | refine Z13 (Z26 rfl rfl) ?_) | (refine Z27 ?_; refine Z13 (Z28 rfl (Z53 ⟨by omega, by omega⟩)) ?_) | (refine Z29 ?_; refine Z13 (Z30 rfl (by rfl) (by simp only [Z84, List.set_cons_zero, List.set_cons_succ]; rfl)) ?_) | refine Z31 ?_) | (refine Z32 ?_; first | refine Z33 ?_ | refine Z34 ?_ | refine Z35 ?_ | refine Z36 ?_ | refine Z37 ?_ | refine Z38 rfl ?_ | refine Z39 ?_ | refine Z40 ?_ | refine Z41 ?_) | (refine Z42 ?_; first | refine Z43 ?_ | refine Z44 ?_ | refine Z45 ?_ | refine Z46 ?_ | refine Z47 ?_ | refine Z48 ?_ | refine Z49 rfl (by decide) ?_ | refine Z50 rfl (by decide) ?_))
  refine WO_call rfl (eqPointer_ret _ _ _) ?_
  rintro _ wq ⟨rfl, eq⟩
  rw [decide_eq_true rfl]
  replace e0 := e0.trans eq
  try replace ha := Own.ext ha eq
  try replace hx := Own.ext hx eq
  try replace hg := Own.ext hg eq
  try replace hp := Blk.ext hp eq
  try replace hq := Blk.ext hq eq
  try replace hb := Blk.ext hb eq
  have := Ext.size_le eq
  repeat' (first | (refine Z0 ?_; first | refine Z1 rfl ?_ | (refine Z2 ?_; first | refine Z3 rfl rfl (by decide) ?_ | refine Z4 rfl rfl (by decide) ?_ | refine Z5 rfl rfl ?_ | ((refine Z51 rfl rfl (fun c' hc' => ?_)); cases c' <;> (try simp only [decide_eq_true_eq, decide_eq_false_iff_not, beq_iff_eq, beq_eq_false_iff_ne, bne_iff_ne, bne_eq_false_iff_eq, ne_eq, gt_iff_lt, ge_iff_le, Int.not_lt, Int.not_le, Bool.not_eq_true', Bool.not_eq_false', Bool.not_true, Bool.not_false, reduceCtorEq, Decidable.not_not, not_true_eq_false, Bool.true_eq_false, Bool.false_eq_true] at hc') <;> (try (exfalso; omega)))) | (refine Z6 ?_; first | refine Z7 rfl rfl ?_ | refine Z8 rfl rfl ?_) | (refine Z9 ?_; first | refine Z10 rfl (by assumption) (by rfl) ?_ | refine Z11 rfl (by assumption) ?_) | (refine Z12 ?_; first | refine Z13 (Z14 rfl (by decide) rfl) ?_ | refine Z13 (Z15 rfl (by decide) rfl) ?_) | (refine Z16 ?_; first | refine Z17 rfl ?_ | refine Z18 rfl ?_) | (refine Z19 ?_; first | refine Z20 rfl rfl (by omega) ?_ | refine Z21 rfl rfl (by omega) ?_ | refine Z22 rfl rfl (by omega) ?_ | refine Z23 rfl rfl (by omega) (by omega) ?_ | refine Z24 rfl rfl (by omega) (by omega) (by omega) ?_ | refine Z13 (Z25 rfl rfl) ?_ | refine Z13 (Z26 rfl rfl) ?_) | (refine Z27 ?_; refine Z13 (Z28 rfl (Z53 ⟨by omega, by omega⟩)) ?_) | (refine Z29 ?_; refine Z13 (Z30 rfl (by rfl) (by simp only [Z84, List.set_cons_zero, List.set_cons_succ]; rfl)) ?_) | refine Z31 ?_) | (refine Z32 ?_; first | refine Z33 ?_ | refine Z34 ?_ | refine Z35 ?_ | refine Z36 ?_ | refine Z37 ?_ | refine Z38 rfl ?_ | refine Z39 ?_ | refine Z40 ?_ | refine Z41 ?_) | (refine Z42 ?_; first | refine Z43 ?_ | refine Z44 ?_ | refine Z45 ?_ | refine Z46 ?_ | refine Z47 ?_ | refine Z48 ?_ | refine Z49 rfl (by decide) ?_ | refine Z50 rfl (by decide) ?_ | ((refine Z52 rfl (fun hc' => ?_) (fun hc' => ?_)) <;> (try simp only [decide_eq_true_eq, decide_eq_false_iff_not, beq_iff_eq, beq_eq_false_iff_ne, bne_iff_ne, bne_eq_false_iff_eq, ne_eq, gt_iff_lt, ge_iff_le, Int.not_lt, Int.not_le, Bool.not_eq_true', Bool.not_eq_false', Bool.not_true, Bool.not_false, reduceCtorEq, Decidable.not_not, not_true_eq_false, Bool.true_eq_false, Bool.false_eq_true] at hc') <;> (try (exfalso; omega)))))
  obtain ⟨Fg, hgr, hgn, hgb⟩ := hg
  refine WO_call rfl (markCellS_ret _ _ _ (newL l val) Fg 1 _ hgr hgn (by decide) (kAt_all (newL l val) hm).2) ?_
  rintro _ wm ⟨rfl, hgr2, cm⟩
  replace cm := cm.toI hgb
  have hg : Own _ _ _ _ (markC 1 (newL l val)) wm _ := ⟨Fg, hgr2, hgn, hgb⟩
  replace e0 := e0.chgI cm (by omega)
  replace ha := Own.chgI ha cm (by omega)
  try replace hp := Blk.chgI hp cm (by omega)
  try replace hb := Blk.chgI hb cm (by omega)
  have := ChgI.size cm
  repeat (first | (refine Z0 ?_; first | refine Z1 rfl ?_ | (refine Z2 ?_; first | refine Z3 rfl rfl (by decide) ?_ | refine Z4 rfl rfl (by decide) ?_ | refine Z5 rfl rfl ?_) | (refine Z6 ?_; first | refine Z7 rfl rfl ?_ | refine Z8 rfl rfl ?_) | (refine Z9 ?_; first | refine Z10 rfl (by assumption) (by rfl) ?_ | refine Z11 rfl (by assumption) ?_) | (refine Z12 ?_; first | refine Z13 (Z14 rfl (by decide) rfl) ?_ | refine Z13 (Z15 rfl (by decide) rfl) ?_) | (refine Z16 ?_; first | refine Z17 rfl ?_ | refine Z18 rfl ?_) | (refine Z19 ?_; first | refine Z20 rfl rfl (by omega) ?_ | refine Z21 rfl rfl (by omega) ?_ | refine Z22 rfl rfl (by omega) ?_ | refine Z23 rfl rfl (by omega) (by omega) ?_ | refine Z24 rfl rfl (by omega) (by omega) (by omega) ?_ | refine Z13 (Z25 rfl rfl) ?_ | refine Z13 (Z26 rfl rfl) ?_) | (refine Z27 ?_; refine Z13 (Z28 rfl (Z53 ⟨by omega, by omega⟩)) ?_) | (refine Z29 ?_; refine Z13 (Z30 rfl (by rfl) (by simp only [Z84, List.set_cons_zero, List.set_cons_succ]; rfl)) ?_) | refine Z31 ?_) | (refine Z32 ?_; first | refine Z33 ?_ | refine Z34 ?_ | refine Z35 ?_ | refine Z36 ?_ | refine Z37 ?_ | refine Z38 rfl ?_ | refine Z39 ?_ | refine Z40 ?_ | refine Z41 ?_) | (refine Z42 ?_; first | refine Z43 ?_ | refine Z44 ?_ | refine Z45 ?_ | refine Z46 ?_ | refine Z47 ?_ | refine Z48 ?_ | refine Z49 rfl (by decide) ?_ | refine Z50 rfl (by decide) ?_))
  obtain ⟨F1, h1⟩ := hg.ces
  refine WO_call rfl (heldCellS_ret _ (newL l val) F1 1 _ h1 (by decide) (kAt_all (newL l val) hm).2) ?_
  rintro _ wh ⟨rfl, rfl⟩
  clear h1
  have hk2 := (kAt_all (newL l val) hm).1
  repeat' (first | (refine Z0 ?_; first | refine Z1 rfl ?_ | (refine Z2 ?_; first | refine Z3 rfl rfl (by decide) ?_ | refine Z4 rfl rfl (by decide) ?_ | refine Z5 rfl rfl ?_ | ((refine Z51 rfl rfl (fun c' hc' => ?_)); cases c' <;> (try simp only [decide_eq_true_eq, decide_eq_false_iff_not, beq_iff_eq, beq_eq_false_iff_ne, bne_iff_ne, bne_eq_false_iff_eq, ne_eq, gt_iff_lt, ge_iff_le, Int.not_lt, Int.not_le, Bool.not_eq_true', Bool.not_eq_false', Bool.not_true, Bool.not_false, reduceCtorEq, Decidable.not_not, not_true_eq_false, Bool.true_eq_false, Bool.false_eq_true] at hc') <;> (try (exfalso; omega)))) | (refine Z6 ?_; first | refine Z7 rfl rfl ?_ | refine Z8 rfl rfl ?_) | (refine Z9 ?_; first | refine Z10 rfl (by assumption) (by rfl) ?_ | refine Z11 rfl (by assumption) ?_) | (refine Z12 ?_; first | refine Z13 (Z14 rfl (by decide) rfl) ?_ | refine Z13 (Z15 rfl (by decide) rfl) ?_) | (refine Z16 ?_; first | refine Z17 rfl ?_ | refine Z18 rfl ?_) | (refine Z19 ?_; first | refine Z20 rfl rfl (by omega) ?_ | refine Z21 rfl rfl (by omega) ?_ | refine Z22 rfl rfl (by omega) ?_ | refine Z23 rfl rfl (by omega) (by omega) ?_ | refine Z24 rfl rfl (by omega) (by omega) (by omega) ?_ | refine Z13 (Z25 rfl rfl) ?_ | refine Z13 (Z26 rfl rfl) ?_) | (refine Z27 ?_; refine Z13 (Z28 rfl (Z53 ⟨by omega, by omega⟩)) ?_) | (refine Z29 ?_; refine Z13 (Z30 rfl (by rfl) (by simp only [Z84, List.set_cons_zero, List.set_cons_succ]; rfl)) ?_) | refine Z31 ?_) | (refine Z32 ?_; first | refine Z33 ?_ | refine Z34 ?_ | refine Z35 ?_ | refine Z36 ?_ | refine Z37 ?_ | refine Z38 rfl ?_ | refine Z39 ?_ | refine Z40 ?_ | refine Z41 ?_) | (refine Z42 ?_; first | refine Z43 ?_ | refine Z44 ?_ | refine Z45 ?_ | refine Z46 ?_ | refine Z47 ?_ | refine Z48 ?_ | refine Z49 rfl (by decide) ?_ | refine Z50 rfl (by decide) ?_ | ((refine Z52 rfl (fun hc' => ?_) (fun hc' => ?_)) <;> (try simp only [decide_eq_true_eq, decide_eq_false_iff_not, beq_iff_eq, beq_eq_false_iff_ne, bne_iff_ne, bne_eq_false_iff_eq, ne_eq, gt_iff_lt, ge_iff_le, Int.not_lt, Int.not_le, Bool.not_eq_true', Bool.not_eq_false', Bool.not_true, Bool.not_false, reduceCtorEq, Decidable.not_not, not_true_eq_false, Bool.true_eq_false, Bool.false_eq_true] at hc') <;> (try (exfalso; omega)))))
  refine WO_call rfl (toCellS_ret v l F _ (h.ext e0) hn) ?_
  rintro xr wr hxr
  have er := hxr.2
  replace e0 := e0.trans er
  try replace ha := Own.ext ha er
  try replace hx := Own.ext hx er
  try replace hg := Own.ext hg er
  try replace hp := Blk.ext hp er
  try replace hq := Blk.ext hq er
  try replace hb := Blk.ext hb er
  have := Ext.size_le er
  obtain ⟨Fr, hcr, _⟩ := hxr.ces
  repeat (first | (refine Z0 ?_; first | refine Z1 rfl ?_ | (refine Z2 ?_; first | refine Z3 rfl rfl (by decide) ?_ | refine Z4 rfl rfl (by decide) ?_ | refine Z5 rfl rfl ?_) | (refine Z6 ?_; first | refine Z7 rfl rfl ?_ | refine Z8 rfl rfl ?_) | (refine Z9 ?_; first | refine Z10 rfl (by assumption) (by rfl) ?_ | refine Z11 rfl (by assumption) ?_) | (refine Z12 ?_; first | refine Z13 (Z14 rfl (by decide) rfl) ?_ | refine Z13 (Z15 rfl (by decide) rfl) ?_) | (refine Z16 ?_; first | refine Z17 rfl ?_ | refine Z18 rfl ?_) | (refine Z19 ?_; first | refine Z20 rfl rfl (by omega) ?_ | refine Z21 rfl rfl (by omega) ?_ | refine Z22 rfl rfl (by omega) ?_ | refine Z23 rfl rfl (by omega) (by omega) ?_ | refine Z24 rfl rfl (by omega) (by omega) (by omega) ?_ | refine Z13 (Z25 rfl rfl) ?_ | refine Z13 (Z26 rfl rfl) ?_) | (refine Z27 ?_; refine Z13 (Z28 rfl (Z53 ⟨by omega, by omega⟩)) ?_) | (refine Z29 ?_; refine Z13 (Z30 rfl (by rfl) (by simp only [Z84, List.set_cons_zero, List.set_cons_succ]; rfl)) ?_) | refine Z31 ?_) | (refine Z32 ?_; first | refine Z33 ?_ | refine Z34 ?_ | refine Z35 ?_ | refine Z36 ?_ | refine Z37 ?_ | refine Z38 rfl ?_ | refine Z39 ?_ | refine Z40 ?_ | refine Z41 ?_) | (refine Z42 ?_; first | refine Z43 ?_ | refine Z44 ?_ | refine Z45 ?_ | refine Z46 ?_ | refine Z47 ?_ | refine Z48 ?_ | refine Z49 rfl (by decide) ?_ | refine Z50 rfl (by decide) ?_))
  refine WO_call rfl (NewCell_ret _ l Fr val _ hcr hn) ?_
  rintro _ wd ⟨h0, rfl, hH⟩
  have ed := hH.2
  replace e0 := e0.trans ed
  try replace ha := Own.ext ha ed
  try replace hx := Own.ext hx ed
  try replace hg := Own.ext hg ed
  try replace hp := Blk.ext hp ed
  try replace hq := Blk.ext hq ed
  try replace hb := Blk.ext hb ed
  have := Ext.size_le ed
  have hh := hH.own
  repeat (first | (refine Z0 ?_; first | refine Z1 rfl ?_ | (refine Z2 ?_; first | refine Z3 rfl rfl (by decide) ?_ | refine Z4 rfl rfl (by decide) ?_ | refine Z5 rfl rfl ?_) | (refine Z6 ?_; first | refine Z7 rfl rfl ?_ | refine Z8 rfl rfl ?_) | (refine Z9 ?_; first | refine Z10 rfl (by assumption) (by rfl) ?_ | refine Z11 rfl (by assumption) ?_) | (refine Z12 ?_; first | refine Z13 (Z14 rfl (by decide) rfl) ?_ | refine Z13 (Z15 rfl (by decide) rfl) ?_) | (refine Z16 ?_; first | refine Z17 rfl ?_ | refine Z18 rfl ?_) | (refine Z19 ?_; first | refine Z20 rfl rfl (by omega) ?_ | refine Z21 rfl rfl (by omega) ?_ | refine Z22 rfl rfl (by omega) ?_ | refine Z23 rfl rfl (by omega) (by omega) ?_ | refine Z24 rfl rfl (by omega) (by omega) (by omega) ?_ | refine Z13 (Z25 rfl rfl) ?_ | refine Z13 (Z26 rfl rfl) ?_) | (refine Z27 ?_; refine Z13 (Z28 rfl (Z53 ⟨by omega, by omega⟩)) ?_) | (refine Z29 ?_; refine Z13 (Z30 rfl (by rfl) (by simp only [Z84, List.set_cons_zero, List.set_cons_succ]; rfl)) ?_) | refine Z31 ?_) | (refine Z32 ?_; first | refine Z33 ?_ | refine Z34 ?_ | refine Z35 ?_ | refine Z36 ?_ | refine Z37 ?_ | refine Z38 rfl ?_ | refine Z39 ?_ | refine Z40 ?_ | refine Z41 ?_) | (refine Z42 ?_; first | refine Z43 ?_ | refine Z44 ?_ | refine Z45 ?_ | refine Z46 ?_ | refine Z47 ?_ | refine Z48 ?_ | refine Z49 rfl (by decide) ?_ | refine Z50 rfl (by decide) ?_))
  refine WO_alloc fun we hq ee ze => ?_
  repeat (first | (refine Z0 ?_; first | refine Z1 rfl ?_ | (refine Z2 ?_; first | refine Z3 rfl rfl (by decide) ?_ | refine Z4 rfl rfl (by decide) ?_ | refine Z5 rfl rfl ?_) | (refine Z6 ?_; first | refine Z7 rfl rfl ?_ | refine Z8 rfl rfl ?_) | (refine Z9 ?_; first | refine Z10 rfl (by assumption) (by rfl) ?_ | refine Z11 rfl (by assumption) ?_) | (refine Z12 ?_; first | refine Z13 (Z14 rfl (by decide) rfl) ?_ | refine Z13 (Z15 rfl (by decide) rfl) ?_) | (refine Z16 ?_; first | refine Z17 rfl ?_ | refine Z18 rfl ?_) | (refine Z19 ?_; first | refine Z20 rfl rfl (by omega) ?_ | refine Z21 rfl rfl (by omega) ?_ | refine Z22 rfl rfl (by omega) ?_ | refine Z23 rfl rfl (by omega) (by omega) ?_ | refine Z24 rfl rfl (by omega) (by omega) (by omega) ?_ | refine Z13 (Z25 rfl rfl) ?_ | refine Z13 (Z26 rfl rfl) ?_) | (refine Z27 ?_; refine Z13 (Z28 rfl (Z53 ⟨by omega, by omega⟩)) ?_) | (refine Z29 ?_; refine Z13 (Z30 rfl (by rfl) (by simp only [Z84, List.set_cons_zero, List.set_cons_succ]; rfl)) ?_) | refine Z31 ?_) | (refine Z32 ?_; first | refine Z33 ?_ | refine Z34 ?_ | refine Z35 ?_ | refine Z36 ?_ | refine Z37 ?_ | refine Z38 rfl ?_ | refine Z39 ?_ | refine Z40 ?_ | refine Z41 ?_) | (refine Z42 ?_; first | refine Z43 ?_ | refine Z44 ?_ | refine Z45 ?_ | refine Z46 ?_ | refine Z47 ?_ | refine Z48 ?_ | refine Z49 rfl (by decide) ?_ | refine Z50 rfl (by decide) ?_))
  refine WO_storeS (k := 2) (vs := [.int .i64 (newP l val).cell, .int .i64 (newP l val).tag]) rfl rfl rfl (by intro v hv; simp at hv; rcases hv with rfl | rfl <;> rfl) hq (by decide) fun wf hqf of' => ?_
  clear hq
  have ef := ee.only of' (Nat.le_refl _)
  replace e0 := e0.trans ef
  try replace ha := Own.ext ha ef
  try replace hx := Own.ext hx ef
  try replace hg := Own.ext hg ef
  try replace hp := Blk.ext hp ef
  try replace hq := Blk.ext hq ef
  try replace hb := Blk.ext hb ef
  have := Ext.size_le ef
  have hq : Blk wf wd.heap.size [.int .i64 (newP l val).cell, .int .i64 (newP l val).tag] _ := hqf
  repeat (first | (refine Z0 ?_; first | refine Z1 rfl ?_ | (refine Z2 ?_; first | refine Z3 rfl rfl (by decide) ?_ | refine Z4 rfl rfl (by decide) ?_ | refine Z5 rfl rfl ?_) | (refine Z6 ?_; first | refine Z7 rfl rfl ?_ | refine Z8 rfl rfl ?_) | (refine Z9 ?_; first | refine Z10 rfl (by assumption) (by rfl) ?_ | refine Z11 rfl (by assumption) ?_) | (refine Z12 ?_; first | refine Z13 (Z14 rfl (by decide) rfl) ?_ | refine Z13 (Z15 rfl (by decide) rfl) ?_) | (refine Z16 ?_; first | refine Z17 rfl ?_ | refine Z18 rfl ?_) | (refine Z19 ?_; first | refine Z20 rfl rfl (by omega) ?_ | refine Z21 rfl rfl (by omega) ?_ | refine Z22 rfl rfl (by omega) ?_ | refine Z23 rfl rfl (by omega) (by omega) ?_ | refine Z24 rfl rfl (by omega) (by omega) (by omega) ?_ | refine Z13 (Z25 rfl rfl) ?_ | refine Z13 (Z26 rfl rfl) ?_) | (refine Z27 ?_; refine Z13 (Z28 rfl (Z53 ⟨by omega, by omega⟩)) ?_) | (refine Z29 ?_; refine Z13 (Z30 rfl (by rfl) (by simp only [Z84, List.set_cons_zero, List.set_cons_succ]; rfl)) ?_) | refine Z31 ?_) | (refine Z32 ?_; first | refine Z33 ?_ | refine Z34 ?_ | refine Z35 ?_ | refine Z36 ?_ | refine Z37 ?_ | refine Z38 rfl ?_ | refine Z39 ?_ | refine Z40 ?_ | refine Z41 ?_) | (refine Z42 ?_; first | refine Z43 ?_ | refine Z44 ?_ | refine Z45 ?_ | refine Z46 ?_ | refine Z47 ?_ | refine Z48 ?_ | refine Z49 rfl (by decide) ?_ | refine Z50 rfl (by decide) ?_))
  obtain ⟨F1, h1⟩ := (hh.ext ef).ces
  obtain ⟨F2, h2⟩ := ha.ces
  refine WO_call rfl (eqCellS_ret _ _ _ _ F1 F2 _ h1 h2) ?_
  rintro _ wq ⟨rfl, eq⟩
  rw [decide_eq_true rfl]
  clear h1 h2
  replace e0 := e0.trans eq
  try replace ha := Own.ext ha eq
  try replace hx := Own.ext hx eq
  try replace hg := Own.ext hg eq
  try replace hp := Blk.ext hp eq
  try replace hq := Blk.ext hq eq
  try replace hb := Blk.ext hb eq
  have := Ext.size_le eq
  repeat (first | (refine Z0 ?_; first | refine Z1 rfl ?_ | (refine Z2 ?_; first | refine Z3 rfl rfl (by decide) ?_ | refine Z4 rfl rfl (by decide) ?_ | refine Z5 rfl rfl ?_) | (refine Z6 ?_; first | refine Z7 rfl rfl ?_ | refine Z8 rfl rfl ?_) | (refine Z9 ?_; first | refine Z10 rfl (by assumption) (by rfl) ?_ | refine Z11 rfl (by assumption) ?_) | (refine Z12 ?_; first | refine Z13 (Z14 rfl (by decide) rfl) ?_ | refine Z13 (Z15 rfl (by decide) rfl) ?_) | (refine Z16 ?_; first | refine Z17 rfl ?_ | refine Z18 rfl ?_) | (refine Z19 ?_; first | refine Z20 rfl rfl (by omega) ?_ | refine Z21 rfl rfl (by omega) ?_ | refine Z22 rfl rfl (by omega) ?_ | refine Z23 rfl rfl (by omega) (by omega) ?_ | refine Z24 rfl rfl (by omega) (by omega) (by omega) ?_ | refine Z13 (Z25 rfl rfl) ?_ | refine Z13 (Z26 rfl rfl) ?_) | (refine Z27 ?_; refine Z13 (Z28 rfl (Z53 ⟨by omega, by omega⟩)) ?_) | (refine Z29 ?_; refine Z13 (Z30 rfl (by rfl) (by simp only [Z84, List.set_cons_zero, List.set_cons_succ]; rfl)) ?_) | refine Z31 ?_) | (refine Z32 ?_; first | refine Z33 ?_ | refine Z34 ?_ | refine Z35 ?_ | refine Z36 ?_ | refine Z37 ?_ | refine Z38 rfl ?_ | refine Z39 ?_ | refine Z40 ?_ | refine Z41 ?_) | (refine Z42 ?_; first | refine Z43 ?_ | refine Z44 ?_ | refine Z45 ?_ | refine Z46 ?_ | refine Z47 ?_ | refine Z48 ?_ | refine Z49 rfl (by decide) ?_ | refine Z50 rfl (by decide) ?_))
  refine WO_loadSB rfl hq rfl ?_
  repeat (first | (refine Z0 ?_; first | refine Z1 rfl ?_ | (refine Z2 ?_; first | refine Z3 rfl rfl (by decide) ?_ | refine Z4 rfl rfl (by decide) ?_ | refine Z5 rfl rfl ?_) | (refine Z6 ?_; first | refine Z7 rfl rfl ?_ | refine Z8 rfl rfl ?_) | (refine Z9 ?_; first | refine Z10 rfl (by assumption) (by rfl) ?_ | refine Z11 rfl (by assumption) ?_) | (refine Z12 ?_; first | refine Z13 (Z14 rfl (by decide) rfl) ?_ | refine Z13 (Z15 rfl (by decide) rfl) ?_) | (refine Z16 ?_; first | refine Z17 rfl ?_ | refine Z18 rfl ?_) | (refine Z19 ?_; first | refine Z20 rfl rfl (by omega) ?_ | refine Z21 rfl rfl (by omega) ?_ | refine Z22 rfl rfl (by omega) ?_ | refine Z23 rfl rfl (by omega) (by omega) ?_ | refine Z24 rfl rfl (by omega) (by omega) (by omega) ?_ | refine Z13 (Z25 rfl rfl) ?_ | refine Z13 (Z26 rfl rfl) ?_) | (refine Z27 ?_; refine Z13 (Z28 rfl (Z53 ⟨by omega, by omega⟩)) ?_) | (refine Z29 ?_; refine Z13 (Z30 rfl (by rfl) (by simp only [Z84, List.set_cons_zero, List.set_cons_succ]; rfl)) ?_) | refine Z31 ?_) | (refine Z32 ?_; first | refine Z33 ?_ | refine Z34 ?_ | refine Z35 ?_ | refine Z36 ?_ | refine Z37 ?_ | refine Z38 rfl ?_ | refine Z39 ?_ | refine Z40 ?_ | refine Z41 ?_) | (refine Z42 ?_; first | refine Z43 ?_ | refine Z44 ?_ | refine Z45 ?_ | refine Z46 ?_ | refine Z47 ?_ | refine Z48 ?_ | refine Z49 rfl (by decide) ?_ | refine Z50 rfl (by decide) ?_))
  refine WO_loadSB rfl hp rfl ?_
  repeat (first | (refine Z0 ?_; first | refine Z1 rfl ?_ | (refine Z2 ?_; first | refine Z3 rfl rfl (by decide) ?_ | refine Z4 rfl rfl (by decide) ?_ | refine Z5 rfl rfl ?_) | (refine Z6 ?_; first | refine Z7 rfl rfl ?_ | refine Z8 rfl rfl ?_) | (refine Z9 ?_; first | refine Z10 rfl (by assumption) (by rfl) ?_ | refine Z11 rfl (by assumption) ?_) | (refine Z12 ?_; first | refine Z13 (Z14 rfl (by decide) rfl) ?_ | refine Z13 (Z15 rfl (by decide) rfl) ?_) | (refine Z16 ?_; first | refine Z17 rfl ?_ | refine Z18 rfl ?_) | (refine Z19 ?_; first | refine Z20 rfl rfl (by omega) ?_ | refine Z21 rfl rfl (by omega) ?_ | refine Z22 rfl rfl (by omega) ?_ | refine Z23 rfl rfl (by omega) (by omega) ?_ | refine Z24 rfl rfl (by omega) (by omega) (by omega) ?_ | refine Z13 (Z25 rfl rfl) ?_ | refine Z13 (Z26 rfl rfl) ?_) | (refine Z27 ?_; refine Z13 (Z28 rfl (Z53 ⟨by omega, by omega⟩)) ?_) | (refine Z29 ?_; refine Z13 (Z30 rfl (by rfl) (by simp only [Z84, List.set_cons_zero, List.set_cons_succ]; rfl)) ?_) | refine Z31 ?_) | (refine Z32 ?_; first | refine Z33 ?_ | refine Z34 ?_ | refine Z35 ?_ | refine Z36 ?_ | refine Z37 ?_ | refine Z38 rfl ?_ | refine Z39 ?_ | refine Z40 ?_ | refine Z41 ?_) | (refine Z42 ?_; first | refine Z43 ?_ | refine Z44 ?_ | refine Z45 ?_ | refine Z46 ?_ | refine Z47 ?_ | refine Z48 ?_ | refine Z49 rfl (by decide) ?_ | refine Z50 rfl (by decide) ?_))
  refine WO_call rfl (eqPointer_ret _ _ _) ?_
  rintro _ wq ⟨rfl, eq⟩
  rw [decide_eq_true rfl]
  replace e0 := e0.trans eq
  try replace ha := Own.ext ha eq
  try replace hx := Own.ext hx eq
  try replace hg := Own.ext hg eq
  try replace hp := Blk.ext hp eq
  try replace hq := Blk.ext hq eq
  try replace hb := Blk.ext hb eq
  have := Ext.size_le eq
  repeat' (first | (refine Z0 ?_; first | refine Z1 rfl ?_ | (refine Z2 ?_; first | refine Z3 rfl rfl (by decide) ?_ | refine Z4 rfl rfl (by decide) ?_ | refine Z5 rfl rfl ?_ | ((refine Z51 rfl rfl (fun c' hc' => ?_)); cases c' <;> (try simp only [decide_eq_true_eq, decide_eq_false_iff_not, beq_iff_eq, beq_eq_false_iff_ne, bne_iff_ne, bne_eq_false_iff_eq, ne_eq, gt_iff_lt, ge_iff_le, Int.not_lt, Int.not_le, Bool.not_eq_true', Bool.not_eq_false', Bool.not_true, Bool.not_false, reduceCtorEq, Decidable.not_not, not_true_eq_false, Bool.true_eq_false, Bool.false_eq_true] at hc') <;> (try (exfalso; omega)))) | (refine Z6 ?_; first | refine Z7 rfl rfl ?_ | refine Z8 rfl rfl ?_) | (refine Z9 ?_; first | refine Z10 rfl (by assumption) (by rfl) ?_ | refine Z11 rfl (by assumption) ?_) | (refine Z12 ?_; first | refine Z13 (Z14 rfl (by decide) rfl) ?_ | refine Z13 (Z15 rfl (by decide) rfl) ?_) | (refine Z16 ?_; first | refine Z17 rfl ?_ | refine Z18 rfl ?_) | (refine Z19 ?_; first | refine Z20 rfl rfl (by omega) ?_ | refine Z21 rfl rfl (by omega) ?_ | refine Z22 rfl rfl (by omega) ?_ | refine Z23 rfl rfl (by omega) (by omega) ?_ | refine Z24 rfl rfl (by omega) (by omega) (by omega) ?_ | refine Z13 (Z25 rfl rfl) ?_ | refine Z13 (Z26 rfl rfl) ?_) | (refine Z27 ?_; refine Z13 (Z28 rfl (Z53 ⟨by omega, by omega⟩)) ?_) | (refine Z29 ?_; refine Z13 (Z30 rfl (by rfl) (by simp only [Z84, List.set_cons_zero, List.set_cons_succ]; rfl)) ?_) | refine Z31 ?_) | (refine Z32 ?_; first | refine Z33 ?_ | refine Z34 ?_ | refine Z35 ?_ | refine Z36 ?_ | refine Z37 ?_ | refine Z38 rfl ?_ | refine Z39 ?_ | refine Z40 ?_ | refine Z41 ?_) | (refine Z42 ?_; first | refine Z43 ?_ | refine Z44 ?_ | refine Z45 ?_ | refine Z46 ?_ | refine Z47 ?_ | refine Z48 ?_ | refine Z49 rfl (by decide) ?_ | refine Z50 rfl (by decide) ?_ | ((refine Z52 rfl (fun hc' => ?_) (fun hc' => ?_)) <;> (try simp only [decide_eq_true_eq, decide_eq_false_iff_not, beq_iff_eq, beq_eq_false_iff_ne, bne_iff_ne, bne_eq_false_iff_eq, ne_eq, gt_iff_lt, ge_iff_le, Int.not_lt, Int.not_le, Bool.not_eq_true', Bool.not_eq_false', Bool.not_true, Bool.not_false, reduceCtorEq, Decidable.not_not, not_true_eq_false, Bool.true_eq_false, Bool.false_eq_true] at hc') <;> (try (exfalso; omega)))))
  obtain ⟨F1, h1⟩ := hg.ces
  refine WO_call rfl (heldCellS_ret _ (newL l val) F1 1 _ h1 (by decide) (kAt_all (newL l val) hm).2) ?_
  rintro _ wh ⟨rfl, rfl⟩
  clear h1
  repeat' (first | (refine Z0 ?_; first | refine Z1 rfl ?_ | (refine Z2 ?_; first | refine Z3 rfl rfl (by decide) ?_ | refine Z4 rfl rfl (by decide) ?_ | refine Z5 rfl rfl ?_ | ((refine Z51 rfl rfl (fun c' hc' => ?_)); cases c' <;> (try simp only [decide_eq_true_eq, decide_eq_false_iff_not, beq_iff_eq, beq_eq_false_iff_ne, bne_iff_ne, bne_eq_false_iff_eq, ne_eq, gt_iff_lt, ge_iff_le, Int.not_lt, Int.not_le, Bool.not_eq_true', Bool.not_eq_false', Bool.not_true, Bool.not_false, reduceCtorEq, Decidable.not_not, not_true_eq_false, Bool.true_eq_false, Bool.false_eq_true] at hc') <;> (try (exfalso; omega)))) | (refine Z6 ?_; first | refine Z7 rfl rfl ?_ | refine Z8 rfl rfl ?_) | (refine Z9 ?_; first | refine Z10 rfl (by assumption) (by rfl) ?_ | refine Z11 rfl (by assumption) ?_) | (refine Z12 ?_; first | refine Z13 (Z14 rfl (by decide) rfl) ?_ | refine Z13 (Z15 rfl (by decide) rfl) ?_) | (refine Z16 ?_; first | refine Z17 rfl ?_ | refine Z18 rfl ?_) | (refine Z19 ?_; first | refine Z20 rfl rfl (by omega) ?_ | refine Z21 rfl rfl (by omega) ?_ | refine Z22 rfl rfl (by omega) ?_ | refine Z23 rfl rfl (by omega) (by omega) ?_ | refine Z24 rfl rfl (by omega) (by omega) (by omega) ?_ | refine Z13 (Z25 rfl rfl) ?_ | refine Z13 (Z26 rfl rfl) ?_) | (refine Z27 ?_; refine Z13 (Z28 rfl (Z53 ⟨by omega, by omega⟩)) ?_) | (refine Z29 ?_; refine Z13 (Z30 rfl (by rfl) (by simp only [Z84, List.set_cons_zero, List.set_cons_succ]; rfl)) ?_) | refine Z31 ?_) | (refine Z32 ?_; first | refine Z33 ?_ | refine Z34 ?_ | refine Z35 ?_ | refine Z36 ?_ | refine Z37 ?_ | refine Z38 rfl ?_ | refine Z39 ?_ | refine Z40 ?_ | refine Z41 ?_) | (refine Z42 ?_; first | refine Z43 ?_ | refine Z44 ?_ | refine Z45 ?_ | refine Z46 ?_ | refine Z47 ?_ | refine Z48 ?_ | refine Z49 rfl (by decide) ?_ | refine Z50 rfl (by decide) ?_ | ((refine Z52 rfl (fun hc' => ?_) (fun hc' => ?_)) <;> (try simp only [decide_eq_true_eq, decide_eq_false_iff_not, beq_iff_eq, beq_eq_false_iff_ne, bne_iff_ne, bne_eq_false_iff_eq, ne_eq, gt_iff_lt, ge_iff_le, Int.not_lt, Int.not_le, Bool.not_eq_true', Bool.not_eq_false', Bool.not_true, Bool.not_false, reduceCtorEq, Decidable.not_not, not_true_eq_false, Bool.true_eq_false, Bool.false_eq_true] at hc') <;> (try (exfalso; omega)))))
  exact at_ret1 rfl rfl ⟨rfl, e0⟩
/-! ### Laws printed by gen_claws.py -/
theorem FnExactReadCell_ret {w : World} {v : Value} {y : List Ce × List Nat} {pv : Value} (h : CeS w v y.1 y.2) {x : Pt} (hpv : pv = ptV x) :
    Ret Try.prog 6 [v, pv] w fun r w' => r = .bool true ∧ Ext w w' := by
  obtain ⟨l, F⟩ := y
  subst hpv
  simp only at h
  have e0 := Ext.refl w
  refine enter Try.func6 rfl Try.ntmps6 rfl rfl ?_
  refine Z43 (Z44 (WO_box rfl fun w0 hb eb zb => ?_))
  replace hb : Blk w0 w.heap.size [.int .i64 x.cell, .int .i64 x.tag] _ := hb
  replace e0 := e0.trans eb
  repeat (first | (refine Z0 ?_; first | refine Z1 rfl ?_ | (refine Z2 ?_; first | refine Z3 rfl rfl (by decide) ?_ | refine Z4 rfl rfl (by decide) ?_ | refine Z5 rfl rfl ?_) | (refine Z6 ?_; first | refine Z7 rfl rfl ?_ | refine Z8 rfl rfl ?_) | (refine Z9 ?_; first | refine Z10 rfl (by assumption) (by rfl) ?_ | refine Z11 rfl (by assumption) ?_) | (refine Z12 ?_; first | refine Z13 (Z14 rfl (by decide) rfl) ?_ | refine Z13 (Z15 rfl (by decide) rfl) ?_) | (refine Z16 ?_; first | refine Z17 rfl ?_ | refine Z18 rfl ?_) | (refine Z19 ?_; first | refine Z20 rfl rfl (by omega) ?_ | refine Z21 rfl rfl (by omega) ?_ | refine Z22 rfl rfl (by omega) ?_ | refine Z23 rfl rfl (by omega) (by omega) ?_ | refine Z24 rfl rfl (by omega) (by omega) (by omega) ?_ | refine Z13 (Z25 rfl rfl) ?_ | refine Z13 (Z26 rfl rfl) ?_) | (refine Z27 ?_; refine Z13 (Z28 rfl (Z53 ⟨by omega, by omega⟩)) ?_) | (refine Z29 ?_; refine Z13 (Z30 rfl (by rfl) (by simp only [Z84, List.set_cons_zero, List.set_cons_succ]; rfl)) ?_) | refine Z31 ?_) | (refine Z32 ?_; first | refine Z33 ?_ | refine Z34 ?_ | refine Z35 ?_ | refine Z36 ?_ | refine Z37 ?_ | refine Z38 rfl ?_ | refine Z39 ?_ | refine Z40 ?_ | refine Z41 ?_) | (refine Z42 ?_; first | refine Z43 ?_ | refine Z44 ?_ | refine Z45 ?_ | refine Z46 ?_ | refine Z47 ?_ | refine Z48 ?_ | refine Z49 rfl (by decide) ?_ | refine Z50 rfl (by decide) ?_))
  refine WO_call rfl (szCellS_ret v l F 1048576 _ (h.ext e0) (by decide) (by decide)) ?_
  rintro r w1 ⟨⟨left, rfl, hle, hsz⟩, e1⟩
  replace e0 := e0.trans e1
  try replace ha := Own.ext ha e1
  try replace hx := Own.ext hx e1
  try replace hg := Own.ext hg e1
  try replace hp := Blk.ext hp e1
  try replace hq := Blk.ext hq e1
  try replace hb := Blk.ext hb e1
  have := Ext.size_le e1
  repeat' (first | (refine Z0 ?_; first | refine Z1 rfl ?_ | (refine Z2 ?_; first | refine Z3 rfl rfl (by decide) ?_ | refine Z4 rfl rfl (by decide) ?_ | refine Z5 rfl rfl ?_ | ((refine Z51 rfl rfl (fun c' hc' => ?_)); cases c' <;> (try simp only [decide_eq_true_eq, decide_eq_false_iff_not, beq_iff_eq, beq_eq_false_iff_ne, bne_iff_ne, bne_eq_false_iff_eq, ne_eq, gt_iff_lt, ge_iff_le, Int.not_lt, Int.not_le, Bool.not_eq_true', Bool.not_eq_false', Bool.not_true, Bool.not_false, reduceCtorEq, Decidable.not_not, not_true_eq_false, Bool.true_eq_false, Bool.false_eq_true] at hc') <;> (try (exfalso; omega)))) | (refine Z6 ?_; first | refine Z7 rfl rfl ?_ | refine Z8 rfl rfl ?_) | (refine Z9 ?_; first | refine Z10 rfl (by assumption) (by rfl) ?_ | refine Z11 rfl (by assumption) ?_) | (refine Z12 ?_; first | refine Z13 (Z14 rfl (by decide) rfl) ?_ | refine Z13 (Z15 rfl (by decide) rfl) ?_) | (refine Z16 ?_; first | refine Z17 rfl ?_ | refine Z18 rfl ?_) | (refine Z19 ?_; first | refine Z20 rfl rfl (by omega) ?_ | refine Z21 rfl rfl (by omega) ?_ | refine Z22 rfl rfl (by omega) ?_ | refine Z23 rfl rfl (by omega) (by omega) ?_ | refine Z24 rfl rfl (by omega) (by omega) (by omega) ?_ | refine Z13 (Z25 rfl rfl) ?_ | refine Z13 (Z26 rfl rfl) ?_) | (refine Z27 ?_; refine Z13 (Z28 rfl (Z53 ⟨by omega, by omega⟩)) ?_) | (refine Z29 ?_; refine Z13 (Z30 rfl (by rfl) (by simp only [Z84, List.set_cons_zero, List.set_cons_succ]; rfl)) ?_) | refine Z31 ?_) | (refine Z32 ?_; first | refine Z33 ?_ | refine Z34 ?_ | refine Z35 ?_ | refine Z36 ?_ | refine Z37 ?_ | refine Z38 rfl ?_ | refine Z39 ?_ | refine Z40 ?_ | refine Z41 ?_) | (refine Z42 ?_; first | refine Z43 ?_ | refine Z44 ?_ | refine Z45 ?_ | refine Z46 ?_ | refine Z47 ?_ | refine Z48 ?_ | refine Z49 rfl (by decide) ?_ | refine Z50 rfl (by decide) ?_ | ((refine Z52 rfl (fun hc' => ?_) (fun hc' => ?_)) <;> (try simp only [decide_eq_true_eq, decide_eq_false_iff_not, beq_iff_eq, beq_eq_false_iff_ne, bne_iff_ne, bne_eq_false_iff_eq, ne_eq, gt_iff_lt, ge_iff_le, Int.not_lt, Int.not_le, Bool.not_eq_true', Bool.not_eq_false', Bool.not_true, Bool.not_false, reduceCtorEq, Decidable.not_not, not_true_eq_false, Bool.true_eq_false, Bool.false_eq_true] at hc') <;> (try (exfalso; omega)))))
  · exact at_ret1 rfl rfl ⟨rfl, e0⟩
  have hn : cSize l ≤ 1048576 := by have := hsz (by omega); omega
  clear hsz
  have hm := readL_size (x := x) hn
  refine W_held0E [] (fun τ w' => ∃ z0, τ = [(0, v), (3, .pointer (some ⟨w.heap.size, 0, none⟩)), (6, z0), (7, .int .i64 (readV l x)), (8, .int .i64 (accC l x))] ∧ NewCells 58 62 (readL l x) w1 z0 w') (by kernel_rfl) (fun ws es hS => ?_) (fun τ wt hT => ?_)
  · first | refine Z82 0 rfl (by kernel_rfl) (by kernel_rfl) (by kernel_rfl) (by assumption) (fun w' hw' => Z56 rfl) ?_ | refine Z82 0 rfl (by kernel_rfl) (by kernel_rfl) (by kernel_rfl) (by assumption) (fun w' hw' => Z63 rfl rfl) ?_ | refine Z82 0 rfl (by kernel_rfl) (by kernel_rfl) (by kernel_rfl) (by assumption) (fun w' hw' => Z64 rfl rfl) ?_ | refine Z82 0 rfl (by kernel_rfl) (by kernel_rfl) (by kernel_rfl) (by assumption) (fun w' hw' => Z75 rfl rfl (by omega)) ?_ | refine Z82 0 rfl (by kernel_rfl) (by kernel_rfl) (by kernel_rfl) (by assumption) (fun w' hw' => Z72 rfl) ?_ | refine Z82 0 rfl (by kernel_rfl) (by kernel_rfl) (by kernel_rfl) (by assumption) (fun w' hw' => Z69 rfl rfl rfl (by omega)) ?_ | refine Z82 0 rfl (by kernel_rfl) (by kernel_rfl) (by kernel_rfl) (by assumption) (fun w' hw' => Z30 rfl (by rfl) (by simp only [Z84, List.set_cons_zero, List.set_cons_succ]; rfl)) ?_
    refine Z82 2 rfl (by kernel_rfl) (by kernel_rfl) (by kernel_rfl) (by assumption) (fun w' hw' => q_loadS (cs := [.int .i64 x.cell, .int .i64 x.tag]) rfl rfl (fun j u hu => by rw [Nat.zero_add]; exact ((hb.ext es).ext hw'.ext).cell hu)) ?_
    refine WX_call 1 rfl (by kernel_rfl) rfl (toCellS_ret v l F _ (h.ext (e0.trans es)) hn) ?_
    rintro xr wr hxr
    have hS1 := hxr.2.chg []
    refine ⟨hS1, ?_⟩
    refine WX_call 3 rfl (by kernel_rfl) rfl (toPointer_ret x wr) ?_
    rintro _ wp ⟨rfl, ep⟩
    have hS2 := (hxr.2.trans ep).chg []
    refine ⟨hS2, ?_⟩
    obtain ⟨Fr, hcr, _⟩ := hxr.ces
    refine WX_call 4 rfl (by kernel_rfl) rfl (sReadCell_ret xr l Fr x wp (hcr.ext ep) hn) ?_
    rintro _ wc ⟨z0, rfl, hA⟩
    have hS3 := ((hxr.2.trans ep).trans hA.2).chg []
    refine ⟨hS3, ?_⟩
    first | refine Z82 5 rfl (by kernel_rfl) (by kernel_rfl) (by kernel_rfl) (by assumption) (fun w' hw' => Z56 rfl) ?_ | refine Z82 5 rfl (by kernel_rfl) (by kernel_rfl) (by kernel_rfl) (by assumption) (fun w' hw' => Z63 rfl rfl) ?_ | refine Z82 5 rfl (by kernel_rfl) (by kernel_rfl) (by kernel_rfl) (by assumption) (fun w' hw' => Z64 rfl rfl) ?_ | refine Z82 5 rfl (by kernel_rfl) (by kernel_rfl) (by kernel_rfl) (by assumption) (fun w' hw' => Z75 rfl rfl (by omega)) ?_ | refine Z82 5 rfl (by kernel_rfl) (by kernel_rfl) (by kernel_rfl) (by assumption) (fun w' hw' => Z72 rfl) ?_ | refine Z82 5 rfl (by kernel_rfl) (by kernel_rfl) (by kernel_rfl) (by assumption) (fun w' hw' => Z69 rfl rfl rfl (by omega)) ?_ | refine Z82 5 rfl (by kernel_rfl) (by kernel_rfl) (by kernel_rfl) (by assumption) (fun w' hw' => Z30 rfl (by rfl) (by simp only [Z84, List.set_cons_zero, List.set_cons_succ]; rfl)) ?_
    first | refine Z82 6 rfl (by kernel_rfl) (by kernel_rfl) (by kernel_rfl) (by assumption) (fun w' hw' => Z56 rfl) ?_ | refine Z82 6 rfl (by kernel_rfl) (by kernel_rfl) (by kernel_rfl) (by assumption) (fun w' hw' => Z63 rfl rfl) ?_ | refine Z82 6 rfl (by kernel_rfl) (by kernel_rfl) (by kernel_rfl) (by assumption) (fun w' hw' => Z64 rfl rfl) ?_ | refine Z82 6 rfl (by kernel_rfl) (by kernel_rfl) (by kernel_rfl) (by assumption) (fun w' hw' => Z75 rfl rfl (by omega)) ?_ | refine Z82 6 rfl (by kernel_rfl) (by kernel_rfl) (by kernel_rfl) (by assumption) (fun w' hw' => Z72 rfl) ?_ | refine Z82 6 rfl (by kernel_rfl) (by kernel_rfl) (by kernel_rfl) (by assumption) (fun w' hw' => Z69 rfl rfl rfl (by omega)) ?_ | refine Z82 6 rfl (by kernel_rfl) (by kernel_rfl) (by kernel_rfl) (by assumption) (fun w' hw' => Z30 rfl (by rfl) (by simp only [Z84, List.set_cons_zero, List.set_cons_succ]; rfl)) ?_
    first | refine Z82 7 rfl (by kernel_rfl) (by kernel_rfl) (by kernel_rfl) (by assumption) (fun w' hw' => Z56 rfl) ?_ | refine Z82 7 rfl (by kernel_rfl) (by kernel_rfl) (by kernel_rfl) (by assumption) (fun w' hw' => Z63 rfl rfl) ?_ | refine Z82 7 rfl (by kernel_rfl) (by kernel_rfl) (by kernel_rfl) (by assumption) (fun w' hw' => Z64 rfl rfl) ?_ | refine Z82 7 rfl (by kernel_rfl) (by kernel_rfl) (by kernel_rfl) (by assumption) (fun w' hw' => Z75 rfl rfl (by omega)) ?_ | refine Z82 7 rfl (by kernel_rfl) (by kernel_rfl) (by kernel_rfl) (by assumption) (fun w' hw' => Z72 rfl) ?_ | refine Z82 7 rfl (by kernel_rfl) (by kernel_rfl) (by kernel_rfl) (by assumption) (fun w' hw' => Z69 rfl rfl rfl (by omega)) ?_ | refine Z82 7 rfl (by kernel_rfl) (by kernel_rfl) (by kernel_rfl) (by assumption) (fun w' hw' => Z30 rfl (by rfl) (by simp only [Z84, List.set_cons_zero, List.set_cons_succ]; rfl)) ?_
    first | refine Z82 8 rfl (by kernel_rfl) (by kernel_rfl) (by kernel_rfl) (by assumption) (fun w' hw' => Z56 rfl) ?_ | refine Z82 8 rfl (by kernel_rfl) (by kernel_rfl) (by kernel_rfl) (by assumption) (fun w' hw' => Z63 rfl rfl) ?_ | refine Z82 8 rfl (by kernel_rfl) (by kernel_rfl) (by kernel_rfl) (by assumption) (fun w' hw' => Z64 rfl rfl) ?_ | refine Z82 8 rfl (by kernel_rfl) (by kernel_rfl) (by kernel_rfl) (by assumption) (fun w' hw' => Z75 rfl rfl (by omega)) ?_ | refine Z82 8 rfl (by kernel_rfl) (by kernel_rfl) (by kernel_rfl) (by assumption) (fun w' hw' => Z72 rfl) ?_ | refine Z82 8 rfl (by kernel_rfl) (by kernel_rfl) (by kernel_rfl) (by assumption) (fun w' hw' => Z69 rfl rfl rfl (by omega)) ?_ | refine Z82 8 rfl (by kernel_rfl) (by kernel_rfl) (by kernel_rfl) (by assumption) (fun w' hw' => Z30 rfl (by rfl) (by simp only [Z84, List.set_cons_zero, List.set_cons_succ]; rfl)) ?_
    first | refine Z82 9 rfl (by kernel_rfl) (by kernel_rfl) (by kernel_rfl) (by assumption) (fun w' hw' => Z56 rfl) ?_ | refine Z82 9 rfl (by kernel_rfl) (by kernel_rfl) (by kernel_rfl) (by assumption) (fun w' hw' => Z63 rfl rfl) ?_ | refine Z82 9 rfl (by kernel_rfl) (by kernel_rfl) (by kernel_rfl) (by assumption) (fun w' hw' => Z64 rfl rfl) ?_ | refine Z82 9 rfl (by kernel_rfl) (by kernel_rfl) (by kernel_rfl) (by assumption) (fun w' hw' => Z75 rfl rfl (by omega)) ?_ | refine Z82 9 rfl (by kernel_rfl) (by kernel_rfl) (by kernel_rfl) (by assumption) (fun w' hw' => Z72 rfl) ?_ | refine Z82 9 rfl (by kernel_rfl) (by kernel_rfl) (by kernel_rfl) (by assumption) (fun w' hw' => Z69 rfl rfl rfl (by omega)) ?_ | refine Z82 9 rfl (by kernel_rfl) (by kernel_rfl) (by kernel_rfl) (by assumption) (fun w' hw' => Z30 rfl (by rfl) (by simp only [Z84, List.set_cons_zero, List.set_cons_succ]; rfl)) ?_
    first | refine Z82 10 rfl (by kernel_rfl) (by kernel_rfl) (by kernel_rfl) (by assumption) (fun w' hw' => Z56 rfl) ?_ | refine Z82 10 rfl (by kernel_rfl) (by kernel_rfl) (by kernel_rfl) (by assumption) (fun w' hw' => Z63 rfl rfl) ?_ | refine Z82 10 rfl (by kernel_rfl) (by kernel_rfl) (by kernel_rfl) (by assumption) (fun w' hw' => Z64 rfl rfl) ?_ | refine Z82 10 rfl (by kernel_rfl) (by kernel_rfl) (by kernel_rfl) (by assumption) (fun w' hw' => Z75 rfl rfl (by omega)) ?_ | refine Z82 10 rfl (by kernel_rfl) (by kernel_rfl) (by kernel_rfl) (by assumption) (fun w' hw' => Z72 rfl) ?_ | refine Z82 10 rfl (by kernel_rfl) (by kernel_rfl) (by kernel_rfl) (by assumption) (fun w' hw' => Z69 rfl rfl rfl (by omega)) ?_ | refine Z82 10 rfl (by kernel_rfl) (by kernel_rfl) (by kernel_rfl) (by assumption) (fun w' hw' => Z30 rfl (by rfl) (by simp only [Z84, List.set_cons_zero, List.set_cons_succ]; rfl)) ?_
    first | refine Z82 11 rfl (by kernel_rfl) (by kernel_rfl) (by kernel_rfl) (by assumption) (fun w' hw' => Z56 rfl) ?_ | refine Z82 11 rfl (by kernel_rfl) (by kernel_rfl) (by kernel_rfl) (by assumption) (fun w' hw' => Z63 rfl rfl) ?_ | refine Z82 11 rfl (by kernel_rfl) (by kernel_rfl) (by kernel_rfl) (by assumption) (fun w' hw' => Z64 rfl rfl) ?_ | refine Z82 11 rfl (by kernel_rfl) (by kernel_rfl) (by kernel_rfl) (by assumption) (fun w' hw' => Z75 rfl rfl (by omega)) ?_ | refine Z82 11 rfl (by kernel_rfl) (by kernel_rfl) (by kernel_rfl) (by assumption) (fun w' hw' => Z72 rfl) ?_ | refine Z82 11 rfl (by kernel_rfl) (by kernel_rfl) (by kernel_rfl) (by assumption) (fun w' hw' => Z69 rfl rfl rfl (by omega)) ?_ | refine Z82 11 rfl (by kernel_rfl) (by kernel_rfl) (by kernel_rfl) (by assumption) (fun w' hw' => Z30 rfl (by rfl) (by simp only [Z84, List.set_cons_zero, List.set_cons_succ]; rfl)) ?_
    exact WH_doneE (τ := [(0, v), (3, .pointer (some ⟨w.heap.size, 0, none⟩)), (6, z0), (7, .int .i64 (readV l x)), (8, .int .i64 (accC l x))]) (by kernel_rfl) (by repeat (first | exact True.intro | refine And.intro rfl ?_)) ⟨z0, rfl, hA.mono ((es.trans hxr.2).trans ep)⟩
  obtain ⟨a0, rfl, hA⟩ := hT
  have ea := hA.2
  replace e0 := e0.trans ea
  try replace ha := Own.ext ha ea
  try replace hx := Own.ext hx ea
  try replace hg := Own.ext hg ea
  try replace hp := Blk.ext hp ea
  try replace hq := Blk.ext hq ea
  try replace hb := Blk.ext hb ea
  have := Ext.size_le ea
  have ha := hA.own
  repeat (first | (refine Z0 ?_; first | refine Z1 rfl ?_ | (refine Z2 ?_; first | refine Z3 rfl rfl (by decide) ?_ | refine Z4 rfl rfl (by decide) ?_ | refine Z5 rfl rfl ?_) | (refine Z6 ?_; first | refine Z7 rfl rfl ?_ | refine Z8 rfl rfl ?_) | (refine Z9 ?_; first | refine Z10 rfl (by assumption) (by rfl) ?_ | refine Z11 rfl (by assumption) ?_) | (refine Z12 ?_; first | refine Z13 (Z14 rfl (by decide) rfl) ?_ | refine Z13 (Z15 rfl (by decide) rfl) ?_) | (refine Z16 ?_; first | refine Z17 rfl ?_ | refine Z18 rfl ?_) | (refine Z19 ?_; first | refine Z20 rfl rfl (by omega) ?_ | refine Z21 rfl rfl (by omega) ?_ | refine Z22 rfl rfl (by omega) ?_ | refine Z23 rfl rfl (by omega) (by omega) ?_ | refine Z24 rfl rfl (by omega) (by omega) (by omega) ?_ | refine Z13 (Z25 rfl rfl) ?_ | refine Z13 (Z26 rfl rfl) ?_) | (refine Z27 ?_; refine Z13 (Z28 rfl (Z53 ⟨by omega, by omega⟩)) ?_) | (refine Z29 ?_; refine Z13 (Z30 rfl (by rfl) (by simp only [Z84, List.set_cons_zero, List.set_cons_succ]; rfl)) ?_) | refine Z31 ?_) | (refine Z32 ?_; first | refine Z33 ?_ | refine Z34 ?_ | refine Z35 ?_ | refine Z36 ?_ | refine Z37 ?_ | refine Z38 rfl ?_ | refine Z39 ?_ | refine Z40 ?_ | refine Z41 ?_) | (refine Z42 ?_; first | refine Z43 ?_ | refine Z44 ?_ | refine Z45 ?_ | refine Z46 ?_ | refine Z47 ?_ | refine Z48 ?_ | refine Z49 rfl (by decide) ?_ | refine Z50 rfl (by decide) ?_))
  refine WO_call rfl (toCellS_ret v l F _ (h.ext e0) hn) ?_
  rintro xr wr hxr
  have er := hxr.2
  replace e0 := e0.trans er
  try replace ha := Own.ext ha er
  try replace hx := Own.ext hx er
  try replace hg := Own.ext hg er
  try replace hp := Blk.ext hp er
  try replace hq := Blk.ext hq er
  try replace hb := Blk.ext hb er
  have := Ext.size_le er
  have hx := hxr.own
  obtain ⟨Fr, hcr, _⟩ := hxr.ces
  repeat (first | (refine Z0 ?_; first | refine Z1 rfl ?_ | (refine Z2 ?_; first | refine Z3 rfl rfl (by decide) ?_ | refine Z4 rfl rfl (by decide) ?_ | refine Z5 rfl rfl ?_) | (refine Z6 ?_; first | refine Z7 rfl rfl ?_ | refine Z8 rfl rfl ?_) | (refine Z9 ?_; first | refine Z10 rfl (by assumption) (by rfl) ?_ | refine Z11 rfl (by assumption) ?_) | (refine Z12 ?_; first | refine Z13 (Z14 rfl (by decide) rfl) ?_ | refine Z13 (Z15 rfl (by decide) rfl) ?_) | (refine Z16 ?_; first | refine Z17 rfl ?_ | refine Z18 rfl ?_) | (refine Z19 ?_; first | refine Z20 rfl rfl (by omega) ?_ | refine Z21 rfl rfl (by omega) ?_ | refine Z22 rfl rfl (by omega) ?_ | refine Z23 rfl rfl (by omega) (by omega) ?_ | refine Z24 rfl rfl (by omega) (by omega) (by omega) ?_ | refine Z13 (Z25 rfl rfl) ?_ | refine Z13 (Z26 rfl rfl) ?_) | (refine Z27 ?_; refine Z13 (Z28 rfl (Z53 ⟨by omega, by omega⟩)) ?_) | (refine Z29 ?_; refine Z13 (Z30 rfl (by rfl) (by simp only [Z84, List.set_cons_zero, List.set_cons_succ]; rfl)) ?_) | refine Z31 ?_) | (refine Z32 ?_; first | refine Z33 ?_ | refine Z34 ?_ | refine Z35 ?_ | refine Z36 ?_ | refine Z37 ?_ | refine Z38 rfl ?_ | refine Z39 ?_ | refine Z40 ?_ | refine Z41 ?_) | (refine Z42 ?_; first | refine Z43 ?_ | refine Z44 ?_ | refine Z45 ?_ | refine Z46 ?_ | refine Z47 ?_ | refine Z48 ?_ | refine Z49 rfl (by decide) ?_ | refine Z50 rfl (by decide) ?_))
  refine WO_loadSB rfl hb rfl ?_
  refine WO_call rfl (toPointer_ret x _) ?_
  rintro _ wp ⟨rfl, ep⟩
  replace e0 := e0.trans ep
  try replace ha := Own.ext ha ep
  try replace hx := Own.ext hx ep
  try replace hg := Own.ext hg ep
  try replace hp := Blk.ext hp ep
  try replace hq := Blk.ext hq ep
  try replace hb := Blk.ext hb ep
  have := Ext.size_le ep
  repeat (first | (refine Z0 ?_; first | refine Z1 rfl ?_ | (refine Z2 ?_; first | refine Z3 rfl rfl (by decide) ?_ | refine Z4 rfl rfl (by decide) ?_ | refine Z5 rfl rfl ?_) | (refine Z6 ?_; first | refine Z7 rfl rfl ?_ | refine Z8 rfl rfl ?_) | (refine Z9 ?_; first | refine Z10 rfl (by assumption) (by rfl) ?_ | refine Z11 rfl (by assumption) ?_) | (refine Z12 ?_; first | refine Z13 (Z14 rfl (by decide) rfl) ?_ | refine Z13 (Z15 rfl (by decide) rfl) ?_) | (refine Z16 ?_; first | refine Z17 rfl ?_ | refine Z18 rfl ?_) | (refine Z19 ?_; first | refine Z20 rfl rfl (by omega) ?_ | refine Z21 rfl rfl (by omega) ?_ | refine Z22 rfl rfl (by omega) ?_ | refine Z23 rfl rfl (by omega) (by omega) ?_ | refine Z24 rfl rfl (by omega) (by omega) (by omega) ?_ | refine Z13 (Z25 rfl rfl) ?_ | refine Z13 (Z26 rfl rfl) ?_) | (refine Z27 ?_; refine Z13 (Z28 rfl (Z53 ⟨by omega, by omega⟩)) ?_) | (refine Z29 ?_; refine Z13 (Z30 rfl (by rfl) (by simp only [Z84, List.set_cons_zero, List.set_cons_succ]; rfl)) ?_) | refine Z31 ?_) | (refine Z32 ?_; first | refine Z33 ?_ | refine Z34 ?_ | refine Z35 ?_ | refine Z36 ?_ | refine Z37 ?_ | refine Z38 rfl ?_ | refine Z39 ?_ | refine Z40 ?_ | refine Z41 ?_) | (refine Z42 ?_; first | refine Z43 ?_ | refine Z44 ?_ | refine Z45 ?_ | refine Z46 ?_ | refine Z47 ?_ | refine Z48 ?_ | refine Z49 rfl (by decide) ?_ | refine Z50 rfl (by decide) ?_))
  refine WO_call rfl (ReadCell_ret xr l Fr x wp (hcr.ext ep) hn) ?_
  rintro _ wd ⟨g0, rfl, hG⟩
  have ed := hG.2
  replace e0 := e0.trans ed
  try replace ha := Own.ext ha ed
  try replace hx := Own.ext hx ed
  try replace hg := Own.ext hg ed
  try replace hp := Blk.ext hp ed
  try replace hq := Blk.ext hq ed
  try replace hb := Blk.ext hb ed
  have := Ext.size_le ed
  have hg := hG.own
  repeat (first | (refine Z0 ?_; first | refine Z1 rfl ?_ | (refine Z2 ?_; first | refine Z3 rfl rfl (by decide) ?_ | refine Z4 rfl rfl (by decide) ?_ | refine Z5 rfl rfl ?_) | (refine Z6 ?_; first | refine Z7 rfl rfl ?_ | refine Z8 rfl rfl ?_) | (refine Z9 ?_; first | refine Z10 rfl (by assumption) (by rfl) ?_ | refine Z11 rfl (by assumption) ?_) | (refine Z12 ?_; first | refine Z13 (Z14 rfl (by decide) rfl) ?_ | refine Z13 (Z15 rfl (by decide) rfl) ?_) | (refine Z16 ?_; first | refine Z17 rfl ?_ | refine Z18 rfl ?_) | (refine Z19 ?_; first | refine Z20 rfl rfl (by omega) ?_ | refine Z21 rfl rfl (by omega) ?_ | refine Z22 rfl rfl (by omega) ?_ | refine Z23 rfl rfl (by omega) (by omega) ?_ | refine Z24 rfl rfl (by omega) (by omega) (by omega) ?_ | refine Z13 (Z25 rfl rfl) ?_ | refine Z13 (Z26 rfl rfl) ?_) | (refine Z27 ?_; refine Z13 (Z28 rfl (Z53 ⟨by omega, by omega⟩)) ?_) | (refine Z29 ?_; refine Z13 (Z30 rfl (by rfl) (by simp only [Z84, List.set_cons_zero, List.set_cons_succ]; rfl)) ?_) | refine Z31 ?_) | (refine Z32 ?_; first | refine Z33 ?_ | refine Z34 ?_ | refine Z35 ?_ | refine Z36 ?_ | refine Z37 ?_ | refine Z38 rfl ?_ | refine Z39 ?_ | refine Z40 ?_ | refine Z41 ?_) | (refine Z42 ?_; first | refine Z43 ?_ | refine Z44 ?_ | refine Z45 ?_ | refine Z46 ?_ | refine Z47 ?_ | refine Z48 ?_ | refine Z49 rfl (by decide) ?_ | refine Z50 rfl (by decide) ?_))
  obtain ⟨F1, h1⟩ := hg.ces
  obtain ⟨F2, h2⟩ := ha.ces
  refine WO_call rfl (eqCellS_ret _ _ _ _ F1 F2 _ h1 h2) ?_
  rintro _ wq ⟨rfl, eq⟩
  rw [decide_eq_true rfl]
  clear h1 h2
  replace e0 := e0.trans eq
  try replace ha := Own.ext ha eq
  try replace hx := Own.ext hx eq
  try replace hg := Own.ext hg eq
  try replace hp := Blk.ext hp eq
  try replace hq := Blk.ext hq eq
  try replace hb := Blk.ext hb eq
  have := Ext.size_le eq
  repeat' (first | (refine Z0 ?_; first | refine Z1 rfl ?_ | (refine Z2 ?_; first | refine Z3 rfl rfl (by decide) ?_ | refine Z4 rfl rfl (by decide) ?_ | refine Z5 rfl rfl ?_ | ((refine Z51 rfl rfl (fun c' hc' => ?_)); cases c' <;> (try simp only [decide_eq_true_eq, decide_eq_false_iff_not, beq_iff_eq, beq_eq_false_iff_ne, bne_iff_ne, bne_eq_false_iff_eq, ne_eq, gt_iff_lt, ge_iff_le, Int.not_lt, Int.not_le, Bool.not_eq_true', Bool.not_eq_false', Bool.not_true, Bool.not_false, reduceCtorEq, Decidable.not_not, not_true_eq_false, Bool.true_eq_false, Bool.false_eq_true] at hc') <;> (try (exfalso; omega)))) | (refine Z6 ?_; first | refine Z7 rfl rfl ?_ | refine Z8 rfl rfl ?_) | (refine Z9 ?_; first | refine Z10 rfl (by assumption) (by rfl) ?_ | refine Z11 rfl (by assumption) ?_) | (refine Z12 ?_; first | refine Z13 (Z14 rfl (by decide) rfl) ?_ | refine Z13 (Z15 rfl (by decide) rfl) ?_) | (refine Z16 ?_; first | refine Z17 rfl ?_ | refine Z18 rfl ?_) | (refine Z19 ?_; first | refine Z20 rfl rfl (by omega) ?_ | refine Z21 rfl rfl (by omega) ?_ | refine Z22 rfl rfl (by omega) ?_ | refine Z23 rfl rfl (by omega) (by omega) ?_ | refine Z24 rfl rfl (by omega) (by omega) (by omega) ?_ | refine Z13 (Z25 rfl rfl) ?_ | refine Z13 (Z26 rfl rfl) ?_) | (refine Z27 ?_; refine Z13 (Z28 rfl (Z53 ⟨by omega, by omega⟩)) ?_) | (refine Z29 ?_; refine Z13 (Z30 rfl (by rfl) (by simp only [Z84, List.set_cons_zero, List.set_cons_succ]; rfl)) ?_) | refine Z31 ?_) | (refine Z32 ?_; first | refine Z33 ?_ | refine Z34 ?_ | refine Z35 ?_ | refine Z36 ?_ | refine Z37 ?_ | refine Z38 rfl ?_ | refine Z39 ?_ | refine Z40 ?_ | refine Z41 ?_) | (refine Z42 ?_; first | refine Z43 ?_ | refine Z44 ?_ | refine Z45 ?_ | refine Z46 ?_ | refine Z47 ?_ | refine Z48 ?_ | refine Z49 rfl (by decide) ?_ | refine Z50 rfl (by decide) ?_ | ((refine Z52 rfl (fun hc' => ?_) (fun hc' => ?_)) <;> (try simp only [decide_eq_true_eq, decide_eq_false_iff_not, beq_iff_eq, beq_eq_false_iff_ne, bne_iff_ne, bne_eq_false_iff_eq, ne_eq, gt_iff_lt, ge_iff_le, Int.not_lt, Int.not_le, Bool.not_eq_true', Bool.not_eq_false', Bool.not_true, Bool.not_false, reduceCtorEq, Decidable.not_not, not_true_eq_false, Bool.true_eq_false, Bool.false_eq_true] at hc') <;> (try (exfalso; omega)))))
  refine WO_call rfl (toCellS_ret v l F _ (h.ext e0) hn) ?_
  rintro xr wr hxr
  have er := hxr.2
  replace e0 := e0.trans er
  try replace ha := Own.ext ha er
  try replace hx := Own.ext hx er
  try replace hg := Own.ext hg er
  try replace hp := Blk.ext hp er
  try replace hq := Blk.ext hq er
  try replace hb := Blk.ext hb er
  have := Ext.size_le er
  repeat (first | (refine Z0 ?_; first | refine Z1 rfl ?_ | (refine Z2 ?_; first | refine Z3 rfl rfl (by decide) ?_ | refine Z4 rfl rfl (by decide) ?_ | refine Z5 rfl rfl ?_) | (refine Z6 ?_; first | refine Z7 rfl rfl ?_ | refine Z8 rfl rfl ?_) | (refine Z9 ?_; first | refine Z10 rfl (by assumption) (by rfl) ?_ | refine Z11 rfl (by assumption) ?_) | (refine Z12 ?_; first | refine Z13 (Z14 rfl (by decide) rfl) ?_ | refine Z13 (Z15 rfl (by decide) rfl) ?_) | (refine Z16 ?_; first | refine Z17 rfl ?_ | refine Z18 rfl ?_) | (refine Z19 ?_; first | refine Z20 rfl rfl (by omega) ?_ | refine Z21 rfl rfl (by omega) ?_ | refine Z22 rfl rfl (by omega) ?_ | refine Z23 rfl rfl (by omega) (by omega) ?_ | refine Z24 rfl rfl (by omega) (by omega) (by omega) ?_ | refine Z13 (Z25 rfl rfl) ?_ | refine Z13 (Z26 rfl rfl) ?_) | (refine Z27 ?_; refine Z13 (Z28 rfl (Z53 ⟨by omega, by omega⟩)) ?_) | (refine Z29 ?_; refine Z13 (Z30 rfl (by rfl) (by simp only [Z84, List.set_cons_zero, List.set_cons_succ]; rfl)) ?_) | refine Z31 ?_) | (refine Z32 ?_; first | refine Z33 ?_ | refine Z34 ?_ | refine Z35 ?_ | refine Z36 ?_ | refine Z37 ?_ | refine Z38 rfl ?_ | refine Z39 ?_ | refine Z40 ?_ | refine Z41 ?_) | (refine Z42 ?_; first | refine Z43 ?_ | refine Z44 ?_ | refine Z45 ?_ | refine Z46 ?_ | refine Z47 ?_ | refine Z48 ?_ | refine Z49 rfl (by decide) ?_ | refine Z50 rfl (by decide) ?_))
  obtain ⟨Fr, hcr, _⟩ := hxr.ces
  obtain ⟨F1, h1⟩ := hx.ces
  obtain ⟨F2, h2⟩ := (⟨Fr, hcr⟩ : ∃ F, CeS _ _ _ F)
  refine WO_call rfl (eqCellS_ret _ _ _ _ F1 F2 _ h1 h2) ?_
  rintro _ wq ⟨rfl, eq⟩
  rw [decide_eq_true rfl]
  clear h1 h2
  replace e0 := e0.trans eq
  try replace ha := Own.ext ha eq
  try replace hx := Own.ext hx eq
  try replace hg := Own.ext hg eq
  try replace hp := Blk.ext hp eq
  try replace hq := Blk.ext hq eq
  try replace hb := Blk.ext hb eq
  have := Ext.size_le eq
  repeat (first | (refine Z0 ?_; first | refine Z1 rfl ?_ | (refine Z2 ?_; first | refine Z3 rfl rfl (by decide) ?_ | refine Z4 rfl rfl (by decide) ?_ | refine Z5 rfl rfl ?_) | (refine Z6 ?_; first | refine Z7 rfl rfl ?_ | refine Z8 rfl rfl ?_) | (refine Z9 ?_; first | refine Z10 rfl (by assumption) (by rfl) ?_ | refine Z11 rfl (by assumption) ?_) | (refine Z12 ?_; first | refine Z13 (Z14 rfl (by decide) rfl) ?_ | refine Z13 (Z15 rfl (by decide) rfl) ?_) | (refine Z16 ?_; first | refine Z17 rfl ?_ | refine Z18 rfl ?_) | (refine Z19 ?_; first | refine Z20 rfl rfl (by omega) ?_ | refine Z21 rfl rfl (by omega) ?_ | refine Z22 rfl rfl (by omega) ?_ | refine Z23 rfl rfl (by omega) (by omega) ?_ | refine Z24 rfl rfl (by omega) (by omega) (by omega) ?_ | refine Z13 (Z25 rfl rfl) ?_ | refine Z13 (Z26 rfl rfl) ?_) | (refine Z27 ?_; refine Z13 (Z28 rfl (Z53 ⟨by omega, by omega⟩)) ?_) | (refine Z29 ?_; refine Z13 (Z30 rfl (by rfl) (by simp only [Z84, List.set_cons_zero, List.set_cons_succ]; rfl)) ?_) | refine Z31 ?_) | (refine Z32 ?_; first | refine Z33 ?_ | refine Z34 ?_ | refine Z35 ?_ | refine Z36 ?_ | refine Z37 ?_ | refine Z38 rfl ?_ | refine Z39 ?_ | refine Z40 ?_ | refine Z41 ?_) | (refine Z42 ?_; first | refine Z43 ?_ | refine Z44 ?_ | refine Z45 ?_ | refine Z46 ?_ | refine Z47 ?_ | refine Z48 ?_ | refine Z49 rfl (by decide) ?_ | refine Z50 rfl (by decide) ?_))
  obtain ⟨Fx, hxr, hxn, hxb⟩ := hx
  refine WO_call rfl (markCellS_ret _ _ _ l Fx 1 _ hxr hxn (by decide) (kAt_all l hn).2) ?_
  rintro _ wm ⟨rfl, _, cm⟩
  replace cm := cm.toI hxb
  have hk1 := (kAt_all l hn).1
  replace e0 := e0.chgI cm (by omega)
  try replace ha := Own.chgI ha cm (by omega)
  try replace hx := Own.chgI hx cm (by omega)
  try replace hg := Own.chgI hg cm (by omega)
  try replace hp := Blk.chgI hp cm (by omega)
  try replace hq := Blk.chgI hq cm (by omega)
  try replace hb := Blk.chgI hb cm (by omega)
  have := ChgI.size cm
  repeat' (first | (refine Z0 ?_; first | refine Z1 rfl ?_ | (refine Z2 ?_; first | refine Z3 rfl rfl (by decide) ?_ | refine Z4 rfl rfl (by decide) ?_ | refine Z5 rfl rfl ?_ | ((refine Z51 rfl rfl (fun c' hc' => ?_)); cases c' <;> (try simp only [decide_eq_true_eq, decide_eq_false_iff_not, beq_iff_eq, beq_eq_false_iff_ne, bne_iff_ne, bne_eq_false_iff_eq, ne_eq, gt_iff_lt, ge_iff_le, Int.not_lt, Int.not_le, Bool.not_eq_true', Bool.not_eq_false', Bool.not_true, Bool.not_false, reduceCtorEq, Decidable.not_not, not_true_eq_false, Bool.true_eq_false, Bool.false_eq_true] at hc') <;> (try (exfalso; omega)))) | (refine Z6 ?_; first | refine Z7 rfl rfl ?_ | refine Z8 rfl rfl ?_) | (refine Z9 ?_; first | refine Z10 rfl (by assumption) (by rfl) ?_ | refine Z11 rfl (by assumption) ?_) | (refine Z12 ?_; first | refine Z13 (Z14 rfl (by decide) rfl) ?_ | refine Z13 (Z15 rfl (by decide) rfl) ?_) | (refine Z16 ?_; first | refine Z17 rfl ?_ | refine Z18 rfl ?_) | (refine Z19 ?_; first | refine Z20 rfl rfl (by omega) ?_ | refine Z21 rfl rfl (by omega) ?_ | refine Z22 rfl rfl (by omega) ?_ | refine Z23 rfl rfl (by omega) (by omega) ?_ | refine Z24 rfl rfl (by omega) (by omega) (by omega) ?_ | refine Z13 (Z25 rfl rfl) ?_ | refine Z13 (Z26 rfl rfl) ?_) | (refine Z27 ?_; refine Z13 (Z28 rfl (Z53 ⟨by omega, by omega⟩)) ?_) | (refine Z29 ?_; refine Z13 (Z30 rfl (by rfl) (by simp only [Z84, List.set_cons_zero, List.set_cons_succ]; rfl)) ?_) | refine Z31 ?_) | (refine Z32 ?_; first | refine Z33 ?_ | refine Z34 ?_ | refine Z35 ?_ | refine Z36 ?_ | refine Z37 ?_ | refine Z38 rfl ?_ | refine Z39 ?_ | refine Z40 ?_ | refine Z41 ?_) | (refine Z42 ?_; first | refine Z43 ?_ | refine Z44 ?_ | refine Z45 ?_ | refine Z46 ?_ | refine Z47 ?_ | refine Z48 ?_ | refine Z49 rfl (by decide) ?_ | refine Z50 rfl (by decide) ?_ | ((refine Z52 rfl (fun hc' => ?_) (fun hc' => ?_)) <;> (try simp only [decide_eq_true_eq, decide_eq_false_iff_not, beq_iff_eq, beq_eq_false_iff_ne, bne_iff_ne, bne_eq_false_iff_eq, ne_eq, gt_iff_lt, ge_iff_le, Int.not_lt, Int.not_le, Bool.not_eq_true', Bool.not_eq_false', Bool.not_true, Bool.not_false, reduceCtorEq, Decidable.not_not, not_true_eq_false, Bool.true_eq_false, Bool.false_eq_true] at hc') <;> (try (exfalso; omega)))))
  obtain ⟨F1, h1⟩ := hg.ces
  obtain ⟨F2, h2⟩ := ha.ces
  refine WO_call rfl (eqCellS_ret _ _ _ _ F1 F2 _ h1 h2) ?_
  rintro _ wq ⟨rfl, eq⟩
  rw [decide_eq_true rfl]
  clear h1 h2
  replace e0 := e0.trans eq
  try replace ha := Own.ext ha eq
  try replace hx := Own.ext hx eq
  try replace hg := Own.ext hg eq
  try replace hp := Blk.ext hp eq
  try replace hq := Blk.ext hq eq
  try replace hb := Blk.ext hb eq
  have := Ext.size_le eq
  repeat' (first | (refine Z0 ?_; first | refine Z1 rfl ?_ | (refine Z2 ?_; first | refine Z3 rfl rfl (by decide) ?_ | refine Z4 rfl rfl (by decide) ?_ | refine Z5 rfl rfl ?_ | ((refine Z51 rfl rfl (fun c' hc' => ?_)); cases c' <;> (try simp only [decide_eq_true_eq, decide_eq_false_iff_not, beq_iff_eq, beq_eq_false_iff_ne, bne_iff_ne, bne_eq_false_iff_eq, ne_eq, gt_iff_lt, ge_iff_le, Int.not_lt, Int.not_le, Bool.not_eq_true', Bool.not_eq_false', Bool.not_true, Bool.not_false, reduceCtorEq, Decidable.not_not, not_true_eq_false, Bool.true_eq_false, Bool.false_eq_true] at hc') <;> (try (exfalso; omega)))) | (refine Z6 ?_; first | refine Z7 rfl rfl ?_ | refine Z8 rfl rfl ?_) | (refine Z9 ?_; first | refine Z10 rfl (by assumption) (by rfl) ?_ | refine Z11 rfl (by assumption) ?_) | (refine Z12 ?_; first | refine Z13 (Z14 rfl (by decide) rfl) ?_ | refine Z13 (Z15 rfl (by decide) rfl) ?_) | (refine Z16 ?_; first | refine Z17 rfl ?_ | refine Z18 rfl ?_) | (refine Z19 ?_; first | refine Z20 rfl rfl (by omega) ?_ | refine Z21 rfl rfl (by omega) ?_ | refine Z22 rfl rfl (by omega) ?_ | refine Z23 rfl rfl (by omega) (by omega) ?_ | refine Z24 rfl rfl (by omega) (by omega) (by omega) ?_ | refine Z13 (Z25 rfl rfl) ?_ | refine Z13 (Z26 rfl rfl) ?_) | (refine Z27 ?_; refine Z13 (Z28 rfl (Z53 ⟨by omega, by omega⟩)) ?_) | (refine Z29 ?_; refine Z13 (Z30 rfl (by rfl) (by simp only [Z84, List.set_cons_zero, List.set_cons_succ]; rfl)) ?_) | refine Z31 ?_) | (refine Z32 ?_; first | refine Z33 ?_ | refine Z34 ?_ | refine Z35 ?_ | refine Z36 ?_ | refine Z37 ?_ | refine Z38 rfl ?_ | refine Z39 ?_ | refine Z40 ?_ | refine Z41 ?_) | (refine Z42 ?_; first | refine Z43 ?_ | refine Z44 ?_ | refine Z45 ?_ | refine Z46 ?_ | refine Z47 ?_ | refine Z48 ?_ | refine Z49 rfl (by decide) ?_ | refine Z50 rfl (by decide) ?_ | ((refine Z52 rfl (fun hc' => ?_) (fun hc' => ?_)) <;> (try simp only [decide_eq_true_eq, decide_eq_false_iff_not, beq_iff_eq, beq_eq_false_iff_ne, bne_iff_ne, bne_eq_false_iff_eq, ne_eq, gt_iff_lt, ge_iff_le, Int.not_lt, Int.not_le, Bool.not_eq_true', Bool.not_eq_false', Bool.not_true, Bool.not_false, reduceCtorEq, Decidable.not_not, not_true_eq_false, Bool.true_eq_false, Bool.false_eq_true] at hc') <;> (try (exfalso; omega)))))
  obtain ⟨Fg, hgr, hgn, hgb⟩ := hg
  refine WO_call rfl (markCellS_ret _ _ _ (readL l x) Fg 1 _ hgr hgn (by decide) (kAt_all (readL l x) hm).2) ?_
  rintro _ wm ⟨rfl, hgr2, cm⟩
  replace cm := cm.toI hgb
  have hg : Own _ _ _ _ (markC 1 (readL l x)) wm _ := ⟨Fg, hgr2, hgn, hgb⟩
  replace e0 := e0.chgI cm (by omega)
  replace ha := Own.chgI ha cm (by omega)
  try replace hp := Blk.chgI hp cm (by omega)
  try replace hb := Blk.chgI hb cm (by omega)
  have := ChgI.size cm
  repeat (first | (refine Z0 ?_; first | refine Z1 rfl ?_ | (refine Z2 ?_; first | refine Z3 rfl rfl (by decide) ?_ | refine Z4 rfl rfl (by decide) ?_ | refine Z5 rfl rfl ?_) | (refine Z6 ?_; first | refine Z7 rfl rfl ?_ | refine Z8 rfl rfl ?_) | (refine Z9 ?_; first | refine Z10 rfl (by assumption) (by rfl) ?_ | refine Z11 rfl (by assumption) ?_) | (refine Z12 ?_; first | refine Z13 (Z14 rfl (by decide) rfl) ?_ | refine Z13 (Z15 rfl (by decide) rfl) ?_) | (refine Z16 ?_; first | refine Z17 rfl ?_ | refine Z18 rfl ?_) | (refine Z19 ?_; first | refine Z20 rfl rfl (by omega) ?_ | refine Z21 rfl rfl (by omega) ?_ | refine Z22 rfl rfl (by omega) ?_ | refine Z23 rfl rfl (by omega) (by omega) ?_ | refine Z24 rfl rfl (by omega) (by omega) (by omega) ?_ | refine Z13 (Z25 rfl rfl) ?_ | refine Z13 (Z26 rfl rfl) ?_) | (refine Z27 ?_; refine Z13 (Z28 rfl (Z53 ⟨by omega, by omega⟩)) ?_) | (refine Z29 ?_; refine Z13 (Z30 rfl (by rfl) (by simp only [Z84, List.set_cons_zero, List.set_cons_succ]; rfl)) ?_) | refine Z31 ?_) | (refine Z32 ?_; first | refine Z33 ?_ | refine Z34 ?_ | refine Z35 ?_ | refine Z36 ?_ | refine Z37 ?_ | refine Z38 rfl ?_ | refine Z39 ?_ | refine Z40 ?_ | refine Z41 ?_) | (refine Z42 ?_; first | refine Z43 ?_ | refine Z44 ?_ | refine Z45 ?_ | refine Z46 ?_ | refine Z47 ?_ | refine Z48 ?_ | refine Z49 rfl (by decide) ?_ | refine Z50 rfl (by decide) ?_))
  obtain ⟨F1, h1⟩ := hg.ces
  refine WO_call rfl (heldCellS_ret _ ((readL l x)) F1 1 _ h1 (by decide) (kAt_all ((readL l x)) hm).2) ?_
  rintro _ wh ⟨rfl, rfl⟩
  clear h1
  have hk2 := (kAt_all (readL l x) hm).1
  repeat' (first | (refine Z0 ?_; first | refine Z1 rfl ?_ | (refine Z2 ?_; first | refine Z3 rfl rfl (by decide) ?_ | refine Z4 rfl rfl (by decide) ?_ | refine Z5 rfl rfl ?_ | ((refine Z51 rfl rfl (fun c' hc' => ?_)); cases c' <;> (try simp only [decide_eq_true_eq, decide_eq_false_iff_not, beq_iff_eq, beq_eq_false_iff_ne, bne_iff_ne, bne_eq_false_iff_eq, ne_eq, gt_iff_lt, ge_iff_le, Int.not_lt, Int.not_le, Bool.not_eq_true', Bool.not_eq_false', Bool.not_true, Bool.not_false, reduceCtorEq, Decidable.not_not, not_true_eq_false, Bool.true_eq_false, Bool.false_eq_true] at hc') <;> (try (exfalso; omega)))) | (refine Z6 ?_; first | refine Z7 rfl rfl ?_ | refine Z8 rfl rfl ?_) | (refine Z9 ?_; first | refine Z10 rfl (by assumption) (by rfl) ?_ | refine Z11 rfl (by assumption) ?_) | (refine Z12 ?_; first | refine Z13 (Z14 rfl (by decide) rfl) ?_ | refine Z13 (Z15 rfl (by decide) rfl) ?_) | (refine Z16 ?_; first | refine Z17 rfl ?_ | refine Z18 rfl ?_) | (refine Z19 ?_; first | refine Z20 rfl rfl (by omega) ?_ | refine Z21 rfl rfl (by omega) ?_ | refine Z22 rfl rfl (by omega) ?_ | refine Z23 rfl rfl (by omega) (by omega) ?_ | refine Z24 rfl rfl (by omega) (by omega) (by omega) ?_ | refine Z13 (Z25 rfl rfl) ?_ | refine Z13 (Z26 rfl rfl) ?_) | (refine Z27 ?_; refine Z13 (Z28 rfl (Z53 ⟨by omega, by omega⟩)) ?_) | (refine Z29 ?_; refine Z13 (Z30 rfl (by rfl) (by simp only [Z84, List.set_cons_zero, List.set_cons_succ]; rfl)) ?_) | refine Z31 ?_) | (refine Z32 ?_; first | refine Z33 ?_ | refine Z34 ?_ | refine Z35 ?_ | refine Z36 ?_ | refine Z37 ?_ | refine Z38 rfl ?_ | refine Z39 ?_ | refine Z40 ?_ | refine Z41 ?_) | (refine Z42 ?_; first | refine Z43 ?_ | refine Z44 ?_ | refine Z45 ?_ | refine Z46 ?_ | refine Z47 ?_ | refine Z48 ?_ | refine Z49 rfl (by decide) ?_ | refine Z50 rfl (by decide) ?_ | ((refine Z52 rfl (fun hc' => ?_) (fun hc' => ?_)) <;> (try simp only [decide_eq_true_eq, decide_eq_false_iff_not, beq_iff_eq, beq_eq_false_iff_ne, bne_iff_ne, bne_eq_false_iff_eq, ne_eq, gt_iff_lt, ge_iff_le, Int.not_lt, Int.not_le, Bool.not_eq_true', Bool.not_eq_false', Bool.not_true, Bool.not_false, reduceCtorEq, Decidable.not_not, not_true_eq_false, Bool.true_eq_false, Bool.false_eq_true] at hc') <;> (try (exfalso; omega)))))
  refine W_held0E [] (fun τ w' => ∃ z0, τ = [(6, a0), (7, .int .i64 (readV l x)), (8, .int .i64 (accC l x)), (10, g0), (14, .int .i64 (kAt 1 (readL l x) (readL l x).length)), (16, z0), (17, .int .i64 (readV l x)), (18, .int .i64 (accC l x))] ∧ NewCells 58 62 (readL l x) wh z0 w') (by kernel_rfl) (fun ws es hS => ?_) (fun τ wt hT => ?_)
  · first | refine Z82 0 rfl (by kernel_rfl) (by kernel_rfl) (by kernel_rfl) (by assumption) (fun w' hw' => Z56 rfl) ?_ | refine Z82 0 rfl (by kernel_rfl) (by kernel_rfl) (by kernel_rfl) (by assumption) (fun w' hw' => Z63 rfl rfl) ?_ | refine Z82 0 rfl (by kernel_rfl) (by kernel_rfl) (by kernel_rfl) (by assumption) (fun w' hw' => Z64 rfl rfl) ?_ | refine Z82 0 rfl (by kernel_rfl) (by kernel_rfl) (by kernel_rfl) (by assumption) (fun w' hw' => Z75 rfl rfl (by omega)) ?_ | refine Z82 0 rfl (by kernel_rfl) (by kernel_rfl) (by kernel_rfl) (by assumption) (fun w' hw' => Z72 rfl) ?_ | refine Z82 0 rfl (by kernel_rfl) (by kernel_rfl) (by kernel_rfl) (by assumption) (fun w' hw' => Z69 rfl rfl rfl (by omega)) ?_ | refine Z82 0 rfl (by kernel_rfl) (by kernel_rfl) (by kernel_rfl) (by assumption) (fun w' hw' => Z30 rfl (by rfl) (by simp only [Z84, List.set_cons_zero, List.set_cons_succ]; rfl)) ?_
    refine Z82 2 rfl (by kernel_rfl) (by kernel_rfl) (by kernel_rfl) (by assumption) (fun w' hw' => q_loadS (cs := [.int .i64 x.cell, .int .i64 x.tag]) rfl rfl (fun j u hu => by rw [Nat.zero_add]; exact ((hb.ext es).ext hw'.ext).cell hu)) ?_
    refine WX_call 1 rfl (by kernel_rfl) rfl (toCellS_ret v l F _ (h.ext (e0.trans es)) hn) ?_
    rintro xr wr hxr
    have hS1 := hxr.2.chg []
    refine ⟨hS1, ?_⟩
    refine WX_call 3 rfl (by kernel_rfl) rfl (toPointer_ret x wr) ?_
    rintro _ wp ⟨rfl, ep⟩
    have hS2 := (hxr.2.trans ep).chg []
    refine ⟨hS2, ?_⟩
    obtain ⟨Fr, hcr, _⟩ := hxr.ces
    refine WX_call 4 rfl (by kernel_rfl) rfl (ReadCell_ret xr l Fr x wp (hcr.ext ep) hn) ?_
    rintro _ wc ⟨z0, rfl, hA⟩
    have hS3 := ((hxr.2.trans ep).trans hA.2).chg []
    refine ⟨hS3, ?_⟩
    first | refine Z82 5 rfl (by kernel_rfl) (by kernel_rfl) (by kernel_rfl) (by assumption) (fun w' hw' => Z56 rfl) ?_ | refine Z82 5 rfl (by kernel_rfl) (by kernel_rfl) (by kernel_rfl) (by assumption) (fun w' hw' => Z63 rfl rfl) ?_ | refine Z82 5 rfl (by kernel_rfl) (by kernel_rfl) (by kernel_rfl) (by assumption) (fun w' hw' => Z64 rfl rfl) ?_ | refine Z82 5 rfl (by kernel_rfl) (by kernel_rfl) (by kernel_rfl) (by assumption) (fun w' hw' => Z75 rfl rfl (by omega)) ?_ | refine Z82 5 rfl (by kernel_rfl) (by kernel_rfl) (by kernel_rfl) (by assumption) (fun w' hw' => Z72 rfl) ?_ | refine Z82 5 rfl (by kernel_rfl) (by kernel_rfl) (by kernel_rfl) (by assumption) (fun w' hw' => Z69 rfl rfl rfl (by omega)) ?_ | refine Z82 5 rfl (by kernel_rfl) (by kernel_rfl) (by kernel_rfl) (by assumption) (fun w' hw' => Z30 rfl (by rfl) (by simp only [Z84, List.set_cons_zero, List.set_cons_succ]; rfl)) ?_
    first | refine Z82 6 rfl (by kernel_rfl) (by kernel_rfl) (by kernel_rfl) (by assumption) (fun w' hw' => Z56 rfl) ?_ | refine Z82 6 rfl (by kernel_rfl) (by kernel_rfl) (by kernel_rfl) (by assumption) (fun w' hw' => Z63 rfl rfl) ?_ | refine Z82 6 rfl (by kernel_rfl) (by kernel_rfl) (by kernel_rfl) (by assumption) (fun w' hw' => Z64 rfl rfl) ?_ | refine Z82 6 rfl (by kernel_rfl) (by kernel_rfl) (by kernel_rfl) (by assumption) (fun w' hw' => Z75 rfl rfl (by omega)) ?_ | refine Z82 6 rfl (by kernel_rfl) (by kernel_rfl) (by kernel_rfl) (by assumption) (fun w' hw' => Z72 rfl) ?_ | refine Z82 6 rfl (by kernel_rfl) (by kernel_rfl) (by kernel_rfl) (by assumption) (fun w' hw' => Z69 rfl rfl rfl (by omega)) ?_ | refine Z82 6 rfl (by kernel_rfl) (by kernel_rfl) (by kernel_rfl) (by assumption) (fun w' hw' => Z30 rfl (by rfl) (by simp only [Z84, List.set_cons_zero, List.set_cons_succ]; rfl)) ?_
    first | refine Z82 7 rfl (by kernel_rfl) (by kernel_rfl) (by kernel_rfl) (by assumption) (fun w' hw' => Z56 rfl) ?_ | refine Z82 7 rfl (by kernel_rfl) (by kernel_rfl) (by kernel_rfl) (by assumption) (fun w' hw' => Z63 rfl rfl) ?_ | refine Z82 7 rfl (by kernel_rfl) (by kernel_rfl) (by kernel_rfl) (by assumption) (fun w' hw' => Z64 rfl rfl) ?_ | refine Z82 7 rfl (by kernel_rfl) (by kernel_rfl) (by kernel_rfl) (by assumption) (fun w' hw' => Z75 rfl rfl (by omega)) ?_ | refine Z82 7 rfl (by kernel_rfl) (by kernel_rfl) (by kernel_rfl) (by assumption) (fun w' hw' => Z72 rfl) ?_ | refine Z82 7 rfl (by kernel_rfl) (by kernel_rfl) (by kernel_rfl) (by assumption) (fun w' hw' => Z69 rfl rfl rfl (by omega)) ?_ | refine Z82 7 rfl (by kernel_rfl) (by kernel_rfl) (by kernel_rfl) (by assumption) (fun w' hw' => Z30 rfl (by rfl) (by simp only [Z84, List.set_cons_zero, List.set_cons_succ]; rfl)) ?_
    first | refine Z82 8 rfl (by kernel_rfl) (by kernel_rfl) (by kernel_rfl) (by assumption) (fun w' hw' => Z56 rfl) ?_ | refine Z82 8 rfl (by kernel_rfl) (by kernel_rfl) (by kernel_rfl) (by assumption) (fun w' hw' => Z63 rfl rfl) ?_ | refine Z82 8 rfl (by kernel_rfl) (by kernel_rfl) (by kernel_rfl) (by assumption) (fun w' hw' => Z64 rfl rfl) ?_ | refine Z82 8 rfl (by kernel_rfl) (by kernel_rfl) (by kernel_rfl) (by assumption) (fun w' hw' => Z75 rfl rfl (by omega)) ?_ | refine Z82 8 rfl (by kernel_rfl) (by kernel_rfl) (by kernel_rfl) (by assumption) (fun w' hw' => Z72 rfl) ?_ | refine Z82 8 rfl (by kernel_rfl) (by kernel_rfl) (by kernel_rfl) (by assumption) (fun w' hw' => Z69 rfl rfl rfl (by omega)) ?_ | refine Z82 8 rfl (by kernel_rfl) (by kernel_rfl) (by kernel_rfl) (by assumption) (fun w' hw' => Z30 rfl (by rfl) (by simp only [Z84, List.set_cons_zero, List.set_cons_succ]; rfl)) ?_
    first | refine Z82 9 rfl (by kernel_rfl) (by kernel_rfl) (by kernel_rfl) (by assumption) (fun w' hw' => Z56 rfl) ?_ | refine Z82 9 rfl (by kernel_rfl) (by kernel_rfl) (by kernel_rfl) (by assumption) (fun w' hw' => Z63 rfl rfl) ?_ | refine Z82 9 rfl (by kernel_rfl) (by kernel_rfl) (by kernel_rfl) (by assumption) (fun w' hw' => Z64 rfl rfl) ?_ | refine Z82 9 rfl (by kernel_rfl) (by kernel_rfl) (by kernel_rfl) (by assumption) (fun w' hw' => Z75 rfl rfl (by omega)) ?_ | refine Z82 9 rfl (by kernel_rfl) (by kernel_rfl) (by kernel_rfl) (by assumption) (fun w' hw' => Z72 rfl) ?_ | refine Z82 9 rfl (by kernel_rfl) (by kernel_rfl) (by kernel_rfl) (by assumption) (fun w' hw' => Z69 rfl rfl rfl (by omega)) ?_ | refine Z82 9 rfl (by kernel_rfl) (by kernel_rfl) (by kernel_rfl) (by assumption) (fun w' hw' => Z30 rfl (by rfl) (by simp only [Z84, List.set_cons_zero, List.set_cons_succ]; rfl)) ?_
    first | refine Z82 10 rfl (by kernel_rfl) (by kernel_rfl) (by kernel_rfl) (by assumption) (fun w' hw' => Z56 rfl) ?_ | refine Z82 10 rfl (by kernel_rfl) (by kernel_rfl) (by kernel_rfl) (by assumption) (fun w' hw' => Z63 rfl rfl) ?_ | refine Z82 10 rfl (by kernel_rfl) (by kernel_rfl) (by kernel_rfl) (by assumption) (fun w' hw' => Z64 rfl rfl) ?_ | refine Z82 10 rfl (by kernel_rfl) (by kernel_rfl) (by kernel_rfl) (by assumption) (fun w' hw' => Z75 rfl rfl (by omega)) ?_ | refine Z82 10 rfl (by kernel_rfl) (by kernel_rfl) (by kernel_rfl) (by assumption) (fun w' hw' => Z72 rfl) ?_ | refine Z82 10 rfl (by kernel_rfl) (by kernel_rfl) (by kernel_rfl) (by assumption) (fun w' hw' => Z69 rfl rfl rfl (by omega)) ?_ | refine Z82 10 rfl (by kernel_rfl) (by kernel_rfl) (by kernel_rfl) (by assumption) (fun w' hw' => Z30 rfl (by rfl) (by simp only [Z84, List.set_cons_zero, List.set_cons_succ]; rfl)) ?_
    first | refine Z82 11 rfl (by kernel_rfl) (by kernel_rfl) (by kernel_rfl) (by assumption) (fun w' hw' => Z56 rfl) ?_ | refine Z82 11 rfl (by kernel_rfl) (by kernel_rfl) (by kernel_rfl) (by assumption) (fun w' hw' => Z63 rfl rfl) ?_ | refine Z82 11 rfl (by kernel_rfl) (by kernel_rfl) (by kernel_rfl) (by assumption) (fun w' hw' => Z64 rfl rfl) ?_ | refine Z82 11 rfl (by kernel_rfl) (by kernel_rfl) (by kernel_rfl) (by assumption) (fun w' hw' => Z75 rfl rfl (by omega)) ?_ | refine Z82 11 rfl (by kernel_rfl) (by kernel_rfl) (by kernel_rfl) (by assumption) (fun w' hw' => Z72 rfl) ?_ | refine Z82 11 rfl (by kernel_rfl) (by kernel_rfl) (by kernel_rfl) (by assumption) (fun w' hw' => Z69 rfl rfl rfl (by omega)) ?_ | refine Z82 11 rfl (by kernel_rfl) (by kernel_rfl) (by kernel_rfl) (by assumption) (fun w' hw' => Z30 rfl (by rfl) (by simp only [Z84, List.set_cons_zero, List.set_cons_succ]; rfl)) ?_
    exact WH_doneE (τ := [(6, a0), (7, .int .i64 (readV l x)), (8, .int .i64 (accC l x)), (10, g0), (14, .int .i64 (kAt 1 (readL l x) (readL l x).length)), (16, z0), (17, .int .i64 (readV l x)), (18, .int .i64 (accC l x))]) (by kernel_rfl) (by repeat (first | exact True.intro | refine And.intro rfl ?_)) ⟨z0, rfl, hA.mono ((es.trans hxr.2).trans ep)⟩
  obtain ⟨h0, rfl, hA⟩ := hT
  have ea := hA.2
  replace e0 := e0.trans ea
  try replace ha := Own.ext ha ea
  try replace hx := Own.ext hx ea
  try replace hg := Own.ext hg ea
  try replace hp := Blk.ext hp ea
  try replace hq := Blk.ext hq ea
  try replace hb := Blk.ext hb ea
  have := Ext.size_le ea
  have hh := hA.own
  repeat (first | (refine Z0 ?_; first | refine Z1 rfl ?_ | (refine Z2 ?_; first | refine Z3 rfl rfl (by decide) ?_ | refine Z4 rfl rfl (by decide) ?_ | refine Z5 rfl rfl ?_) | (refine Z6 ?_; first | refine Z7 rfl rfl ?_ | refine Z8 rfl rfl ?_) | (refine Z9 ?_; first | refine Z10 rfl (by assumption) (by rfl) ?_ | refine Z11 rfl (by assumption) ?_) | (refine Z12 ?_; first | refine Z13 (Z14 rfl (by decide) rfl) ?_ | refine Z13 (Z15 rfl (by decide) rfl) ?_) | (refine Z16 ?_; first | refine Z17 rfl ?_ | refine Z18 rfl ?_) | (refine Z19 ?_; first | refine Z20 rfl rfl (by omega) ?_ | refine Z21 rfl rfl (by omega) ?_ | refine Z22 rfl rfl (by omega) ?_ | refine Z23 rfl rfl (by omega) (by omega) ?_ | refine Z24 rfl rfl (by omega) (by omega) (by omega) ?_ | refine Z13 (Z25 rfl rfl) ?_ | refine Z13 (Z26 rfl rfl) ?_) | (refine Z27 ?_; refine Z13 (Z28 rfl (Z53 ⟨by omega, by omega⟩)) ?_) | (refine Z29 ?_; refine Z13 (Z30 rfl (by rfl) (by simp only [Z84, List.set_cons_zero, List.set_cons_succ]; rfl)) ?_) | refine Z31 ?_) | (refine Z32 ?_; first | refine Z33 ?_ | refine Z34 ?_ | refine Z35 ?_ | refine Z36 ?_ | refine Z37 ?_ | refine Z38 rfl ?_ | refine Z39 ?_ | refine Z40 ?_ | refine Z41 ?_) | (refine Z42 ?_; first | refine Z43 ?_ | refine Z44 ?_ | refine Z45 ?_ | refine Z46 ?_ | refine Z47 ?_ | refine Z48 ?_ | refine Z49 rfl (by decide) ?_ | refine Z50 rfl (by decide) ?_))
  obtain ⟨F1, h1⟩ := hh.ces
  obtain ⟨F2, h2⟩ := ha.ces
  refine WO_call rfl (eqCellS_ret _ _ _ _ F1 F2 _ h1 h2) ?_
  rintro _ wq ⟨rfl, eq⟩
  rw [decide_eq_true rfl]
  clear h1 h2
  replace e0 := e0.trans eq
  try replace ha := Own.ext ha eq
  try replace hx := Own.ext hx eq
  try replace hg := Own.ext hg eq
  try replace hp := Blk.ext hp eq
  try replace hq := Blk.ext hq eq
  try replace hb := Blk.ext hb eq
  have := Ext.size_le eq
  repeat' (first | (refine Z0 ?_; first | refine Z1 rfl ?_ | (refine Z2 ?_; first | refine Z3 rfl rfl (by decide) ?_ | refine Z4 rfl rfl (by decide) ?_ | refine Z5 rfl rfl ?_ | ((refine Z51 rfl rfl (fun c' hc' => ?_)); cases c' <;> (try simp only [decide_eq_true_eq, decide_eq_false_iff_not, beq_iff_eq, beq_eq_false_iff_ne, bne_iff_ne, bne_eq_false_iff_eq, ne_eq, gt_iff_lt, ge_iff_le, Int.not_lt, Int.not_le, Bool.not_eq_true', Bool.not_eq_false', Bool.not_true, Bool.not_false, reduceCtorEq, Decidable.not_not, not_true_eq_false, Bool.true_eq_false, Bool.false_eq_true] at hc') <;> (try (exfalso; omega)))) | (refine Z6 ?_; first | refine Z7 rfl rfl ?_ | refine Z8 rfl rfl ?_) | (refine Z9 ?_; first | refine Z10 rfl (by assumption) (by rfl) ?_ | refine Z11 rfl (by assumption) ?_) | (refine Z12 ?_; first | refine Z13 (Z14 rfl (by decide) rfl) ?_ | refine Z13 (Z15 rfl (by decide) rfl) ?_) | (refine Z16 ?_; first | refine Z17 rfl ?_ | refine Z18 rfl ?_) | (refine Z19 ?_; first | refine Z20 rfl rfl (by omega) ?_ | refine Z21 rfl rfl (by omega) ?_ | refine Z22 rfl rfl (by omega) ?_ | refine Z23 rfl rfl (by omega) (by omega) ?_ | refine Z24 rfl rfl (by omega) (by omega) (by omega) ?_ | refine Z13 (Z25 rfl rfl) ?_ | refine Z13 (Z26 rfl rfl) ?_) | (refine Z27 ?_; refine Z13 (Z28 rfl (Z53 ⟨by omega, by omega⟩)) ?_) | (refine Z29 ?_; refine Z13 (Z30 rfl (by rfl) (by simp only [Z84, List.set_cons_zero, List.set_cons_succ]; rfl)) ?_) | refine Z31 ?_) | (refine Z32 ?_; first | refine Z33 ?_ | refine Z34 ?_ | refine Z35 ?_ | refine Z36 ?_ | refine Z37 ?_ | refine Z38 rfl ?_ | refine Z39 ?_ | refine Z40 ?_ | refine Z41 ?_) | (refine Z42 ?_; first | refine Z43 ?_ | refine Z44 ?_ | refine Z45 ?_ | refine Z46 ?_ | refine Z47 ?_ | refine Z48 ?_ | refine Z49 rfl (by decide) ?_ | refine Z50 rfl (by decide) ?_ | ((refine Z52 rfl (fun hc' => ?_) (fun hc' => ?_)) <;> (try simp only [decide_eq_true_eq, decide_eq_false_iff_not, beq_iff_eq, beq_eq_false_iff_ne, bne_iff_ne, bne_eq_false_iff_eq, ne_eq, gt_iff_lt, ge_iff_le, Int.not_lt, Int.not_le, Bool.not_eq_true', Bool.not_eq_false', Bool.not_true, Bool.not_false, reduceCtorEq, Decidable.not_not, not_true_eq_false, Bool.true_eq_false, Bool.false_eq_true] at hc') <;> (try (exfalso; omega)))))
  obtain ⟨F1, h1⟩ := hg.ces
  refine WO_call rfl (heldCellS_ret _ ((readL l x)) F1 1 _ h1 (by decide) (kAt_all ((readL l x)) hm).2) ?_
  rintro _ wh ⟨rfl, rfl⟩
  clear h1
  repeat' (first | (refine Z0 ?_; first | refine Z1 rfl ?_ | (refine Z2 ?_; first | refine Z3 rfl rfl (by decide) ?_ | refine Z4 rfl rfl (by decide) ?_ | refine Z5 rfl rfl ?_ | ((refine Z51 rfl rfl (fun c' hc' => ?_)); cases c' <;> (try simp only [decide_eq_true_eq, decide_eq_false_iff_not, beq_iff_eq, beq_eq_false_iff_ne, bne_iff_ne, bne_eq_false_iff_eq, ne_eq, gt_iff_lt, ge_iff_le, Int.not_lt, Int.not_le, Bool.not_eq_true', Bool.not_eq_false', Bool.not_true, Bool.not_false, reduceCtorEq, Decidable.not_not, not_true_eq_false, Bool.true_eq_false, Bool.false_eq_true] at hc') <;> (try (exfalso; omega)))) | (refine Z6 ?_; first | refine Z7 rfl rfl ?_ | refine Z8 rfl rfl ?_) | (refine Z9 ?_; first | refine Z10 rfl (by assumption) (by rfl) ?_ | refine Z11 rfl (by assumption) ?_) | (refine Z12 ?_; first | refine Z13 (Z14 rfl (by decide) rfl) ?_ | refine Z13 (Z15 rfl (by decide) rfl) ?_) | (refine Z16 ?_; first | refine Z17 rfl ?_ | refine Z18 rfl ?_) | (refine Z19 ?_; first | refine Z20 rfl rfl (by omega) ?_ | refine Z21 rfl rfl (by omega) ?_ | refine Z22 rfl rfl (by omega) ?_ | refine Z23 rfl rfl (by omega) (by omega) ?_ | refine Z24 rfl rfl (by omega) (by omega) (by omega) ?_ | refine Z13 (Z25 rfl rfl) ?_ | refine Z13 (Z26 rfl rfl) ?_) | (refine Z27 ?_; refine Z13 (Z28 rfl (Z53 ⟨by omega, by omega⟩)) ?_) | (refine Z29 ?_; refine Z13 (Z30 rfl (by rfl) (by simp only [Z84, List.set_cons_zero, List.set_cons_succ]; rfl)) ?_) | refine Z31 ?_) | (refine Z32 ?_; first | refine Z33 ?_ | refine Z34 ?_ | refine Z35 ?_ | refine Z36 ?_ | refine Z37 ?_ | refine Z38 rfl ?_ | refine Z39 ?_ | refine Z40 ?_ | refine Z41 ?_) | (refine Z42 ?_; first | refine Z43 ?_ | refine Z44 ?_ | refine Z45 ?_ | refine Z46 ?_ | refine Z47 ?_ | refine Z48 ?_ | refine Z49 rfl (by decide) ?_ | refine Z50 rfl (by decide) ?_ | ((refine Z52 rfl (fun hc' => ?_) (fun hc' => ?_)) <;> (try simp only [decide_eq_true_eq, decide_eq_false_iff_not, beq_iff_eq, beq_eq_false_iff_ne, bne_iff_ne, bne_eq_false_iff_eq, ne_eq, gt_iff_lt, ge_iff_le, Int.not_lt, Int.not_le, Bool.not_eq_true', Bool.not_eq_false', Bool.not_true, Bool.not_false, reduceCtorEq, Decidable.not_not, not_true_eq_false, Bool.true_eq_false, Bool.false_eq_true] at hc') <;> (try (exfalso; omega)))))
  exact at_ret1 rfl rfl ⟨rfl, e0⟩
theorem FnExactFreeCell_ret {w : World} {v : Value} {y : List Ce × List Nat} {pv : Value} (h : CeS w v y.1 y.2) {x : Pt} (hpv : pv = ptV x) :
    Ret Try.prog 7 [v, pv] w fun r w' => r = .bool true ∧ Ext w w' := by
  obtain ⟨l, F⟩ := y
  subst hpv
  simp only at h
  have e0 := Ext.refl w
  refine enter Try.func7 rfl Try.ntmps7 rfl rfl ?_
  refine Z43 (Z44 (WO_box rfl fun w0 hb eb zb => ?_))
  replace hb : Blk w0 w.heap.size [.int .i64 x.cell, .int .i64 x.tag] _ := hb
  replace e0 := e0.trans eb
  repeat (first | (refine Z0 ?_; first | refine Z1 rfl ?_ | (refine Z2 ?_; first | refine Z3 rfl rfl (by decide) ?_ | refine Z4 rfl rfl (by decide) ?_ | refine Z5 rfl rfl ?_) | (refine Z6 ?_; first | refine Z7 rfl rfl ?_ | refine Z8 rfl rfl ?_) | (refine Z9 ?_; first | refine Z10 rfl (by assumption) (by rfl) ?_ | refine Z11 rfl (by assumption) ?_) | (refine Z12 ?_; first | refine Z13 (Z14 rfl (by decide) rfl) ?_ | refine Z13 (Z15 rfl (by decide) rfl) ?_) | (refine Z16 ?_; first | refine Z17 rfl ?_ | refine Z18 rfl ?_) | (refine Z19 ?_; first | refine Z20 rfl rfl (by omega) ?_ | refine Z21 rfl rfl (by omega) ?_ | refine Z22 rfl rfl (by omega) ?_ | refine Z23 rfl rfl (by omega) (by omega) ?_ | refine Z24 rfl rfl (by omega) (by omega) (by omega) ?_ | refine Z13 (Z25 rfl rfl) ?_ | refine Z13 (Z26 rfl rfl) ?_) | (refine Z27 ?_; refine Z13 (Z28 rfl (Z53 ⟨by omega, by omega⟩)) ?_) | (refine Z29 ?_; refine Z13 (Z30 rfl (by rfl) (by simp only [Z84, List.set_cons_zero, List.set_cons_succ]; rfl)) ?_) | refine Z31 ?_) | (refine Z32 ?_; first | refine Z33 ?_ | refine Z34 ?_ | refine Z35 ?_ | refine Z36 ?_ | refine Z37 ?_ | refine Z38 rfl ?_ | refine Z39 ?_ | refine Z40 ?_ | refine Z41 ?_) | (refine Z42 ?_; first | refine Z43 ?_ | refine Z44 ?_ | refine Z45 ?_ | refine Z46 ?_ | refine Z47 ?_ | refine Z48 ?_ | refine Z49 rfl (by decide) ?_ | refine Z50 rfl (by decide) ?_))
  refine WO_call rfl (szCellS_ret v l F 1048576 _ (h.ext e0) (by decide) (by decide)) ?_
  rintro r w1 ⟨⟨left, rfl, hle, hsz⟩, e1⟩
  replace e0 := e0.trans e1
  try replace ha := Own.ext ha e1
  try replace hx := Own.ext hx e1
  try replace hg := Own.ext hg e1
  try replace hp := Blk.ext hp e1
  try replace hq := Blk.ext hq e1
  try replace hb := Blk.ext hb e1
  have := Ext.size_le e1
  repeat' (first | (refine Z0 ?_; first | refine Z1 rfl ?_ | (refine Z2 ?_; first | refine Z3 rfl rfl (by decide) ?_ | refine Z4 rfl rfl (by decide) ?_ | refine Z5 rfl rfl ?_ | ((refine Z51 rfl rfl (fun c' hc' => ?_)); cases c' <;> (try simp only [decide_eq_true_eq, decide_eq_false_iff_not, beq_iff_eq, beq_eq_false_iff_ne, bne_iff_ne, bne_eq_false_iff_eq, ne_eq, gt_iff_lt, ge_iff_le, Int.not_lt, Int.not_le, Bool.not_eq_true', Bool.not_eq_false', Bool.not_true, Bool.not_false, reduceCtorEq, Decidable.not_not, not_true_eq_false, Bool.true_eq_false, Bool.false_eq_true] at hc') <;> (try (exfalso; omega)))) | (refine Z6 ?_; first | refine Z7 rfl rfl ?_ | refine Z8 rfl rfl ?_) | (refine Z9 ?_; first | refine Z10 rfl (by assumption) (by rfl) ?_ | refine Z11 rfl (by assumption) ?_) | (refine Z12 ?_; first | refine Z13 (Z14 rfl (by decide) rfl) ?_ | refine Z13 (Z15 rfl (by decide) rfl) ?_) | (refine Z16 ?_; first | refine Z17 rfl ?_ | refine Z18 rfl ?_) | (refine Z19 ?_; first | refine Z20 rfl rfl (by omega) ?_ | refine Z21 rfl rfl (by omega) ?_ | refine Z22 rfl rfl (by omega) ?_ | refine Z23 rfl rfl (by omega) (by omega) ?_ | refine Z24 rfl rfl (by omega) (by omega) (by omega) ?_ | refine Z13 (Z25 rfl rfl) ?_ | refine Z13 (Z26 rfl rfl) ?_) | (refine Z27 ?_; refine Z13 (Z28 rfl (Z53 ⟨by omega, by omega⟩)) ?_) | (refine Z29 ?_; refine Z13 (Z30 rfl (by rfl) (by simp only [Z84, List.set_cons_zero, List.set_cons_succ]; rfl)) ?_) | refine Z31 ?_) | (refine Z32 ?_; first | refine Z33 ?_ | refine Z34 ?_ | refine Z35 ?_ | refine Z36 ?_ | refine Z37 ?_ | refine Z38 rfl ?_ | refine Z39 ?_ | refine Z40 ?_ | refine Z41 ?_) | (refine Z42 ?_; first | refine Z43 ?_ | refine Z44 ?_ | refine Z45 ?_ | refine Z46 ?_ | refine Z47 ?_ | refine Z48 ?_ | refine Z49 rfl (by decide) ?_ | refine Z50 rfl (by decide) ?_ | ((refine Z52 rfl (fun hc' => ?_) (fun hc' => ?_)) <;> (try simp only [decide_eq_true_eq, decide_eq_false_iff_not, beq_iff_eq, beq_eq_false_iff_ne, bne_iff_ne, bne_eq_false_iff_eq, ne_eq, gt_iff_lt, ge_iff_le, Int.not_lt, Int.not_le, Bool.not_eq_true', Bool.not_eq_false', Bool.not_true, Bool.not_false, reduceCtorEq, Decidable.not_not, not_true_eq_false, Bool.true_eq_false, Bool.false_eq_true] at hc') <;> (try (exfalso; omega)))))
  · exact at_ret1 rfl rfl ⟨rfl, e0⟩
  have hn : cSize l ≤ 1048576 := by have := hsz (by omega); omega
  clear hsz
  have hm := frL_size (x := x) hn
  refine W_held0E [] (fun τ w' => ∃ z0, τ = [(0, v), (3, .pointer (some ⟨w.heap.size, 0, none⟩)), (6, z0), (7, .int .i64 (wrC l x))] ∧ NewCells 58 62 (frL l x) w1 z0 w') (by kernel_rfl) (fun ws es hS => ?_) (fun τ wt hT => ?_)
  · first | refine Z82 0 rfl (by kernel_rfl) (by kernel_rfl) (by kernel_rfl) (by assumption) (fun w' hw' => Z56 rfl) ?_ | refine Z82 0 rfl (by kernel_rfl) (by kernel_rfl) (by kernel_rfl) (by assumption) (fun w' hw' => Z63 rfl rfl) ?_ | refine Z82 0 rfl (by kernel_rfl) (by kernel_rfl) (by kernel_rfl) (by assumption) (fun w' hw' => Z64 rfl rfl) ?_ | refine Z82 0 rfl (by kernel_rfl) (by kernel_rfl) (by kernel_rfl) (by assumption) (fun w' hw' => Z75 rfl rfl (by omega)) ?_ | refine Z82 0 rfl (by kernel_rfl) (by kernel_rfl) (by kernel_rfl) (by assumption) (fun w' hw' => Z72 rfl) ?_ | refine Z82 0 rfl (by kernel_rfl) (by kernel_rfl) (by kernel_rfl) (by assumption) (fun w' hw' => Z69 rfl rfl rfl (by omega)) ?_ | refine Z82 0 rfl (by kernel_rfl) (by kernel_rfl) (by kernel_rfl) (by assumption) (fun w' hw' => Z30 rfl (by rfl) (by simp only [Z84, List.set_cons_zero, List.set_cons_succ]; rfl)) ?_
    refine Z82 2 rfl (by kernel_rfl) (by kernel_rfl) (by kernel_rfl) (by assumption) (fun w' hw' => q_loadS (cs := [.int .i64 x.cell, .int .i64 x.tag]) rfl rfl (fun j u hu => by rw [Nat.zero_add]; exact ((hb.ext es).ext hw'.ext).cell hu)) ?_
    refine WX_call 1 rfl (by kernel_rfl) rfl (toCellS_ret v l F _ (h.ext (e0.trans es)) hn) ?_
    rintro xr wr hxr
    have hS1 := hxr.2.chg []
    refine ⟨hS1, ?_⟩
    refine WX_call 3 rfl (by kernel_rfl) rfl (toPointer_ret x wr) ?_
    rintro _ wp ⟨rfl, ep⟩
    have hS2 := (hxr.2.trans ep).chg []
    refine ⟨hS2, ?_⟩
    obtain ⟨Fr, hcr, _⟩ := hxr.ces
    refine WX_call 4 rfl (by kernel_rfl) rfl (sFreeCell_ret xr l Fr x wp (hcr.ext ep) hn) ?_
    rintro _ wc ⟨z0, rfl, hA⟩
    have hS3 := ((hxr.2.trans ep).trans hA.2).chg []
    refine ⟨hS3, ?_⟩
    first | refine Z82 5 rfl (by kernel_rfl) (by kernel_rfl) (by kernel_rfl) (by assumption) (fun w' hw' => Z56 rfl) ?_ | refine Z82 5 rfl (by kernel_rfl) (by kernel_rfl) (by kernel_rfl) (by assumption) (fun w' hw' => Z63 rfl rfl) ?_ | refine Z82 5 rfl (by kernel_rfl) (by kernel_rfl) (by kernel_rfl) (by assumption) (fun w' hw' => Z64 rfl rfl) ?_ | refine Z82 5 rfl (by kernel_rfl) (by kernel_rfl) (by kernel_rfl) (by assumption) (fun w' hw' => Z75 rfl rfl (by omega)) ?_ | refine Z82 5 rfl (by kernel_rfl) (by kernel_rfl) (by kernel_rfl) (by assumption) (fun w' hw' => Z72 rfl) ?_ | refine Z82 5 rfl (by kernel_rfl) (by kernel_rfl) (by kernel_rfl) (by assumption) (fun w' hw' => Z69 rfl rfl rfl (by omega)) ?_ | refine Z82 5 rfl (by kernel_rfl) (by kernel_rfl) (by kernel_rfl) (by assumption) (fun w' hw' => Z30 rfl (by rfl) (by simp only [Z84, List.set_cons_zero, List.set_cons_succ]; rfl)) ?_
    first | refine Z82 6 rfl (by kernel_rfl) (by kernel_rfl) (by kernel_rfl) (by assumption) (fun w' hw' => Z56 rfl) ?_ | refine Z82 6 rfl (by kernel_rfl) (by kernel_rfl) (by kernel_rfl) (by assumption) (fun w' hw' => Z63 rfl rfl) ?_ | refine Z82 6 rfl (by kernel_rfl) (by kernel_rfl) (by kernel_rfl) (by assumption) (fun w' hw' => Z64 rfl rfl) ?_ | refine Z82 6 rfl (by kernel_rfl) (by kernel_rfl) (by kernel_rfl) (by assumption) (fun w' hw' => Z75 rfl rfl (by omega)) ?_ | refine Z82 6 rfl (by kernel_rfl) (by kernel_rfl) (by kernel_rfl) (by assumption) (fun w' hw' => Z72 rfl) ?_ | refine Z82 6 rfl (by kernel_rfl) (by kernel_rfl) (by kernel_rfl) (by assumption) (fun w' hw' => Z69 rfl rfl rfl (by omega)) ?_ | refine Z82 6 rfl (by kernel_rfl) (by kernel_rfl) (by kernel_rfl) (by assumption) (fun w' hw' => Z30 rfl (by rfl) (by simp only [Z84, List.set_cons_zero, List.set_cons_succ]; rfl)) ?_
    first | refine Z82 7 rfl (by kernel_rfl) (by kernel_rfl) (by kernel_rfl) (by assumption) (fun w' hw' => Z56 rfl) ?_ | refine Z82 7 rfl (by kernel_rfl) (by kernel_rfl) (by kernel_rfl) (by assumption) (fun w' hw' => Z63 rfl rfl) ?_ | refine Z82 7 rfl (by kernel_rfl) (by kernel_rfl) (by kernel_rfl) (by assumption) (fun w' hw' => Z64 rfl rfl) ?_ | refine Z82 7 rfl (by kernel_rfl) (by kernel_rfl) (by kernel_rfl) (by assumption) (fun w' hw' => Z75 rfl rfl (by omega)) ?_ | refine Z82 7 rfl (by kernel_rfl) (by kernel_rfl) (by kernel_rfl) (by assumption) (fun w' hw' => Z72 rfl) ?_ | refine Z82 7 rfl (by kernel_rfl) (by kernel_rfl) (by kernel_rfl) (by assumption) (fun w' hw' => Z69 rfl rfl rfl (by omega)) ?_ | refine Z82 7 rfl (by kernel_rfl) (by kernel_rfl) (by kernel_rfl) (by assumption) (fun w' hw' => Z30 rfl (by rfl) (by simp only [Z84, List.set_cons_zero, List.set_cons_succ]; rfl)) ?_
    first | refine Z82 8 rfl (by kernel_rfl) (by kernel_rfl) (by kernel_rfl) (by assumption) (fun w' hw' => Z56 rfl) ?_ | refine Z82 8 rfl (by kernel_rfl) (by kernel_rfl) (by kernel_rfl) (by assumption) (fun w' hw' => Z63 rfl rfl) ?_ | refine Z82 8 rfl (by kernel_rfl) (by kernel_rfl) (by kernel_rfl) (by assumption) (fun w' hw' => Z64 rfl rfl) ?_ | refine Z82 8 rfl (by kernel_rfl) (by kernel_rfl) (by kernel_rfl) (by assumption) (fun w' hw' => Z75 rfl rfl (by omega)) ?_ | refine Z82 8 rfl (by kernel_rfl) (by kernel_rfl) (by kernel_rfl) (by assumption) (fun w' hw' => Z72 rfl) ?_ | refine Z82 8 rfl (by kernel_rfl) (by kernel_rfl) (by kernel_rfl) (by assumption) (fun w' hw' => Z69 rfl rfl rfl (by omega)) ?_ | refine Z82 8 rfl (by kernel_rfl) (by kernel_rfl) (by kernel_rfl) (by assumption) (fun w' hw' => Z30 rfl (by rfl) (by simp only [Z84, List.set_cons_zero, List.set_cons_succ]; rfl)) ?_
    first | refine Z82 9 rfl (by kernel_rfl) (by kernel_rfl) (by kernel_rfl) (by assumption) (fun w' hw' => Z56 rfl) ?_ | refine Z82 9 rfl (by kernel_rfl) (by kernel_rfl) (by kernel_rfl) (by assumption) (fun w' hw' => Z63 rfl rfl) ?_ | refine Z82 9 rfl (by kernel_rfl) (by kernel_rfl) (by kernel_rfl) (by assumption) (fun w' hw' => Z64 rfl rfl) ?_ | refine Z82 9 rfl (by kernel_rfl) (by kernel_rfl) (by kernel_rfl) (by assumption) (fun w' hw' => Z75 rfl rfl (by omega)) ?_ | refine Z82 9 rfl (by kernel_rfl) (by kernel_rfl) (by kernel_rfl) (by assumption) (fun w' hw' => Z72 rfl) ?_ | refine Z82 9 rfl (by kernel_rfl) (by kernel_rfl) (by kernel_rfl) (by assumption) (fun w' hw' => Z69 rfl rfl rfl (by omega)) ?_ | refine Z82 9 rfl (by kernel_rfl) (by kernel_rfl) (by kernel_rfl) (by assumption) (fun w' hw' => Z30 rfl (by rfl) (by simp only [Z84, List.set_cons_zero, List.set_cons_succ]; rfl)) ?_
    exact WH_doneE (τ := [(0, v), (3, .pointer (some ⟨w.heap.size, 0, none⟩)), (6, z0), (7, .int .i64 (wrC l x))]) (by kernel_rfl) (by repeat (first | exact True.intro | refine And.intro rfl ?_)) ⟨z0, rfl, hA.mono ((es.trans hxr.2).trans ep)⟩
  obtain ⟨a0, rfl, hA⟩ := hT
  have ea := hA.2
  replace e0 := e0.trans ea
  try replace ha := Own.ext ha ea
  try replace hx := Own.ext hx ea
  try replace hg := Own.ext hg ea
  try replace hp := Blk.ext hp ea
  try replace hq := Blk.ext hq ea
  try replace hb := Blk.ext hb ea
  have := Ext.size_le ea
  have ha := hA.own
  repeat (first | (refine Z0 ?_; first | refine Z1 rfl ?_ | (refine Z2 ?_; first | refine Z3 rfl rfl (by decide) ?_ | refine Z4 rfl rfl (by decide) ?_ | refine Z5 rfl rfl ?_) | (refine Z6 ?_; first | refine Z7 rfl rfl ?_ | refine Z8 rfl rfl ?_) | (refine Z9 ?_; first | refine Z10 rfl (by assumption) (by rfl) ?_ | refine Z11 rfl (by assumption) ?_) | (refine Z12 ?_; first | refine Z13 (Z14 rfl (by decide) rfl) ?_ | refine Z13 (Z15 rfl (by decide) rfl) ?_) | (refine Z16 ?_; first | refine Z17 rfl ?_ | refine Z18 rfl ?_) | (refine Z19 ?_; first | refine Z20 rfl rfl (by omega) ?_ | refine Z21 rfl rfl (by omega) ?_ | refine Z22 rfl rfl (by omega) ?_ | refine Z23 rfl rfl (by omega) (by omega) ?_ | refine Z24 rfl rfl (by omega) (by omega) (by omega) ?_ | refine Z13 (Z25 rfl rfl) ?_ | refine Z13 (Z26 rfl rfl) ?_) | (refine Z27 ?_; refine Z13 (Z28 rfl (Z53 ⟨by omega, by omega⟩)) ?_) | (refine Z29 ?_; refine Z13 (Z30 rfl (by rfl) (by simp only [Z84, List.set_cons_zero, List.set_cons_succ]; rfl)) ?_) | refine Z31 ?_) | (refine Z32 ?_; first | refine Z33 ?_ | refine Z34 ?_ | refine Z35 ?_ | refine Z36 ?_ | refine Z37 ?_ | refine Z38 rfl ?_ | refine Z39 ?_ | refine Z40 ?_ | refine Z41 ?_) | (refine Z42 ?_; first | refine Z43 ?_ | refine Z44 ?_ | refine Z45 ?_ | refine Z46 ?_ | refine Z47 ?_ | refine Z48 ?_ | refine Z49 rfl (by decide) ?_ | refine Z50 rfl (by decide) ?_))
  refine WO_call rfl (toCellS_ret v l F _ (h.ext e0) hn) ?_
  rintro xr wr hxr
  have er := hxr.2
  replace e0 := e0.trans er
  try replace ha := Own.ext ha er
  try replace hx := Own.ext hx er
  try replace hg := Own.ext hg er
  try replace hp := Blk.ext hp er
  try replace hq := Blk.ext hq er
  try replace hb := Blk.ext hb er
  have := Ext.size_le er
  have hx := hxr.own
  obtain ⟨Fr, hcr, _⟩ := hxr.ces
  repeat (first | (refine Z0 ?_; first | refine Z1 rfl ?_ | (refine Z2 ?_; first | refine Z3 rfl rfl (by decide) ?_ | refine Z4 rfl rfl (by decide) ?_ | refine Z5 rfl rfl ?_) | (refine Z6 ?_; first | refine Z7 rfl rfl ?_ | refine Z8 rfl rfl ?_) | (refine Z9 ?_; first | refine Z10 rfl (by assumption) (by rfl) ?_ | refine Z11 rfl (by assumption) ?_) | (refine Z12 ?_; first | refine Z13 (Z14 rfl (by decide) rfl) ?_ | refine Z13 (Z15 rfl (by decide) rfl) ?_) | (refine Z16 ?_; first | refine Z17 rfl ?_ | refine Z18 rfl ?_) | (refine Z19 ?_; first | refine Z20 rfl rfl (by omega) ?_ | refine Z21 rfl rfl (by omega) ?_ | refine Z22 rfl rfl (by omega) ?_ | refine Z23 rfl rfl (by omega) (by omega) ?_ | refine Z24 rfl rfl (by omega) (by omega) (by omega) ?_ | refine Z13 (Z25 rfl rfl) ?_ | refine Z13 (Z26 rfl rfl) ?_) | (refine Z27 ?_; refine Z13 (Z28 rfl (Z53 ⟨by omega, by omega⟩)) ?_) | (refine Z29 ?_; refine Z13 (Z30 rfl (by rfl) (by simp only [Z84, List.set_cons_zero, List.set_cons_succ]; rfl)) ?_) | refine Z31 ?_) | (refine Z32 ?_; first | refine Z33 ?_ | refine Z34 ?_ | refine Z35 ?_ | refine Z36 ?_ | refine Z37 ?_ | refine Z38 rfl ?_ | refine Z39 ?_ | refine Z40 ?_ | refine Z41 ?_) | (refine Z42 ?_; first | refine Z43 ?_ | refine Z44 ?_ | refine Z45 ?_ | refine Z46 ?_ | refine Z47 ?_ | refine Z48 ?_ | refine Z49 rfl (by decide) ?_ | refine Z50 rfl (by decide) ?_))
  refine WO_loadSB rfl hb rfl ?_
  refine WO_call rfl (toPointer_ret x _) ?_
  rintro _ wp ⟨rfl, ep⟩
  replace e0 := e0.trans ep
  try replace ha := Own.ext ha ep
  try replace hx := Own.ext hx ep
  try replace hg := Own.ext hg ep
  try replace hp := Blk.ext hp ep
  try replace hq := Blk.ext hq ep
  try replace hb := Blk.ext hb ep
  have := Ext.size_le ep
  repeat (first | (refine Z0 ?_; first | refine Z1 rfl ?_ | (refine Z2 ?_; first | refine Z3 rfl rfl (by decide) ?_ | refine Z4 rfl rfl (by decide) ?_ | refine Z5 rfl rfl ?_) | (refine Z6 ?_; first | refine Z7 rfl rfl ?_ | refine Z8 rfl rfl ?_) | (refine Z9 ?_; first | refine Z10 rfl (by assumption) (by rfl) ?_ | refine Z11 rfl (by assumption) ?_) | (refine Z12 ?_; first | refine Z13 (Z14 rfl (by decide) rfl) ?_ | refine Z13 (Z15 rfl (by decide) rfl) ?_) | (refine Z16 ?_; first | refine Z17 rfl ?_ | refine Z18 rfl ?_) | (refine Z19 ?_; first | refine Z20 rfl rfl (by omega) ?_ | refine Z21 rfl rfl (by omega) ?_ | refine Z22 rfl rfl (by omega) ?_ | refine Z23 rfl rfl (by omega) (by omega) ?_ | refine Z24 rfl rfl (by omega) (by omega) (by omega) ?_ | refine Z13 (Z25 rfl rfl) ?_ | refine Z13 (Z26 rfl rfl) ?_) | (refine Z27 ?_; refine Z13 (Z28 rfl (Z53 ⟨by omega, by omega⟩)) ?_) | (refine Z29 ?_; refine Z13 (Z30 rfl (by rfl) (by simp only [Z84, List.set_cons_zero, List.set_cons_succ]; rfl)) ?_) | refine Z31 ?_) | (refine Z32 ?_; first | refine Z33 ?_ | refine Z34 ?_ | refine Z35 ?_ | refine Z36 ?_ | refine Z37 ?_ | refine Z38 rfl ?_ | refine Z39 ?_ | refine Z40 ?_ | refine Z41 ?_) | (refine Z42 ?_; first | refine Z43 ?_ | refine Z44 ?_ | refine Z45 ?_ | refine Z46 ?_ | refine Z47 ?_ | refine Z48 ?_ | refine Z49 rfl (by decide) ?_ | refine Z50 rfl (by decide) ?_))
  refine WO_call rfl (FreeCell_ret xr l Fr x wp (hcr.ext ep) hn) ?_
  rintro _ wd ⟨g0, rfl, hG⟩
  have ed := hG.2
  replace e0 := e0.trans ed
  try replace ha := Own.ext ha ed
  try replace hx := Own.ext hx ed
  try replace hg := Own.ext hg ed
  try replace hp := Blk.ext hp ed
  try replace hq := Blk.ext hq ed
  try replace hb := Blk.ext hb ed
  have := Ext.size_le ed
  have hg := hG.own
  repeat (first | (refine Z0 ?_; first | refine Z1 rfl ?_ | (refine Z2 ?_; first | refine Z3 rfl rfl (by decide) ?_ | refine Z4 rfl rfl (by decide) ?_ | refine Z5 rfl rfl ?_) | (refine Z6 ?_; first | refine Z7 rfl rfl ?_ | refine Z8 rfl rfl ?_) | (refine Z9 ?_; first | refine Z10 rfl (by assumption) (by rfl) ?_ | refine Z11 rfl (by assumption) ?_) | (refine Z12 ?_; first | refine Z13 (Z14 rfl (by decide) rfl) ?_ | refine Z13 (Z15 rfl (by decide) rfl) ?_) | (refine Z16 ?_; first | refine Z17 rfl ?_ | refine Z18 rfl ?_) | (refine Z19 ?_; first | refine Z20 rfl rfl (by omega) ?_ | refine Z21 rfl rfl (by omega) ?_ | refine Z22 rfl rfl (by omega) ?_ | refine Z23 rfl rfl (by omega) (by omega) ?_ | refine Z24 rfl rfl (by omega) (by omega) (by omega) ?_ | refine Z13 (Z25 rfl rfl) ?_ | refine Z13 (Z26 rfl rfl) ?_) | (refine Z27 ?_; refine Z13 (Z28 rfl (Z53 ⟨by omega, by omega⟩)) ?_) | (refine Z29 ?_; refine Z13 (Z30 rfl (by rfl) (by simp only [Z84, List.set_cons_zero, List.set_cons_succ]; rfl)) ?_) | refine Z31 ?_) | (refine Z32 ?_; first | refine Z33 ?_ | refine Z34 ?_ | refine Z35 ?_ | refine Z36 ?_ | refine Z37 ?_ | refine Z38 rfl ?_ | refine Z39 ?_ | refine Z40 ?_ | refine Z41 ?_) | (refine Z42 ?_; first | refine Z43 ?_ | refine Z44 ?_ | refine Z45 ?_ | refine Z46 ?_ | refine Z47 ?_ | refine Z48 ?_ | refine Z49 rfl (by decide) ?_ | refine Z50 rfl (by decide) ?_))
  obtain ⟨F1, h1⟩ := hg.ces
  obtain ⟨F2, h2⟩ := ha.ces
  refine WO_call rfl (eqCellS_ret _ _ _ _ F1 F2 _ h1 h2) ?_
  rintro _ wq ⟨rfl, eq⟩
  rw [decide_eq_true rfl]
  clear h1 h2
  replace e0 := e0.trans eq
  try replace ha := Own.ext ha eq
  try replace hx := Own.ext hx eq
  try replace hg := Own.ext hg eq
  try replace hp := Blk.ext hp eq
  try replace hq := Blk.ext hq eq
  try replace hb := Blk.ext hb eq
  have := Ext.size_le eq
  repeat' (first | (refine Z0 ?_; first | refine Z1 rfl ?_ | (refine Z2 ?_; first | refine Z3 rfl rfl (by decide) ?_ | refine Z4 rfl rfl (by decide) ?_ | refine Z5 rfl rfl ?_ | ((refine Z51 rfl rfl (fun c' hc' => ?_)); cases c' <;> (try simp only [decide_eq_true_eq, decide_eq_false_iff_not, beq_iff_eq, beq_eq_false_iff_ne, bne_iff_ne, bne_eq_false_iff_eq, ne_eq, gt_iff_lt, ge_iff_le, Int.not_lt, Int.not_le, Bool.not_eq_true', Bool.not_eq_false', Bool.not_true, Bool.not_false, reduceCtorEq, Decidable.not_not, not_true_eq_false, Bool.true_eq_false, Bool.false_eq_true] at hc') <;> (try (exfalso; omega)))) | (refine Z6 ?_; first | refine Z7 rfl rfl ?_ | refine Z8 rfl rfl ?_) | (refine Z9 ?_; first | refine Z10 rfl (by assumption) (by rfl) ?_ | refine Z11 rfl (by assumption) ?_) | (refine Z12 ?_; first | refine Z13 (Z14 rfl (by decide) rfl) ?_ | refine Z13 (Z15 rfl (by decide) rfl) ?_) | (refine Z16 ?_; first | refine Z17 rfl ?_ | refine Z18 rfl ?_) | (refine Z19 ?_; first | refine Z20 rfl rfl (by omega) ?_ | refine Z21 rfl rfl (by omega) ?_ | refine Z22 rfl rfl (by omega) ?_ | refine Z23 rfl rfl (by omega) (by omega) ?_ | refine Z24 rfl rfl (by omega) (by omega) (by omega) ?_ | refine Z13 (Z25 rfl rfl) ?_ | refine Z13 (Z26 rfl rfl) ?_) | (refine Z27 ?_; refine Z13 (Z28 rfl (Z53 ⟨by omega, by omega⟩)) ?_) | (refine Z29 ?_; refine Z13 (Z30 rfl (by rfl) (by simp only [Z84, List.set_cons_zero, List.set_cons_succ]; rfl)) ?_) | refine Z31 ?_) | (refine Z32 ?_; first | refine Z33 ?_ | refine Z34 ?_ | refine Z35 ?_ | refine Z36 ?_ | refine Z37 ?_ | refine Z38 rfl ?_ | refine Z39 ?_ | refine Z40 ?_ | refine Z41 ?_) | (refine Z42 ?_; first | refine Z43 ?_ | refine Z44 ?_ | refine Z45 ?_ | refine Z46 ?_ | refine Z47 ?_ | refine Z48 ?_ | refine Z49 rfl (by decide) ?_ | refine Z50 rfl (by decide) ?_ | ((refine Z52 rfl (fun hc' => ?_) (fun hc' => ?_)) <;> (try simp only [decide_eq_true_eq, decide_eq_false_iff_not, beq_iff_eq, beq_eq_false_iff_ne, bne_iff_ne, bne_eq_false_iff_eq, ne_eq, gt_iff_lt, ge_iff_le, Int.not_lt, Int.not_le, Bool.not_eq_true', Bool.not_eq_false', Bool.not_true, Bool.not_false, reduceCtorEq, Decidable.not_not, not_true_eq_false, Bool.true_eq_false, Bool.false_eq_true] at hc') <;> (try (exfalso; omega)))))
  refine WO_call rfl (toCellS_ret v l F _ (h.ext e0) hn) ?_
  rintro xr wr hxr
  have er := hxr.2
  replace e0 := e0.trans er
  try replace ha := Own.ext ha er
  try replace hx := Own.ext hx er
  try replace hg := Own.ext hg er
  try replace hp := Blk.ext hp er
  try replace hq := Blk.ext hq er
  try replace hb := Blk.ext hb er
  have := Ext.size_le er
  repeat (first | (refine Z0 ?_; first | refine Z1 rfl ?_ | (refine Z2 ?_; first | refine Z3 rfl rfl (by decide) ?_ | refine Z4 rfl rfl (by decide) ?_ | refine Z5 rfl rfl ?_) | (refine Z6 ?_; first | refine Z7 rfl rfl ?_ | refine Z8 rfl rfl ?_) | (refine Z9 ?_; first | refine Z10 rfl (by assumption) (by rfl) ?_ | refine Z11 rfl (by assumption) ?_) | (refine Z12 ?_; first | refine Z13 (Z14 rfl (by decide) rfl) ?_ | refine Z13 (Z15 rfl (by decide) rfl) ?_) | (refine Z16 ?_; first | refine Z17 rfl ?_ | refine Z18 rfl ?_) | (refine Z19 ?_; first | refine Z20 rfl rfl (by omega) ?_ | refine Z21 rfl rfl (by omega) ?_ | refine Z22 rfl rfl (by omega) ?_ | refine Z23 rfl rfl (by omega) (by omega) ?_ | refine Z24 rfl rfl (by omega) (by omega) (by omega) ?_ | refine Z13 (Z25 rfl rfl) ?_ | refine Z13 (Z26 rfl rfl) ?_) | (refine Z27 ?_; refine Z13 (Z28 rfl (Z53 ⟨by omega, by omega⟩)) ?_) | (refine Z29 ?_; refine Z13 (Z30 rfl (by rfl) (by simp only [Z84, List.set_cons_zero, List.set_cons_succ]; rfl)) ?_) | refine Z31 ?_) | (refine Z32 ?_; first | refine Z33 ?_ | refine Z34 ?_ | refine Z35 ?_ | refine Z36 ?_ | refine Z37 ?_ | refine Z38 rfl ?_ | refine Z39 ?_ | refine Z40 ?_ | refine Z41 ?_) | (refine Z42 ?_; first | refine Z43 ?_ | refine Z44 ?_ | refine Z45 ?_ | refine Z46 ?_ | refine Z47 ?_ | refine Z48 ?_ | refine Z49 rfl (by decide) ?_ | refine Z50 rfl (by decide) ?_))
  obtain ⟨Fr, hcr, _⟩ := hxr.ces
  obtain ⟨F1, h1⟩ := hx.ces
  obtain ⟨F2, h2⟩ := (⟨Fr, hcr⟩ : ∃ F, CeS _ _ _ F)
  refine WO_call rfl (eqCellS_ret _ _ _ _ F1 F2 _ h1 h2) ?_
  rintro _ wq ⟨rfl, eq⟩
  rw [decide_eq_true rfl]
  clear h1 h2
  replace e0 := e0.trans eq
  try replace ha := Own.ext ha eq
  try replace hx := Own.ext hx eq
  try replace hg := Own.ext hg eq
  try replace hp := Blk.ext hp eq
  try replace hq := Blk.ext hq eq
  try replace hb := Blk.ext hb eq
  have := Ext.size_le eq
  repeat (first | (refine Z0 ?_; first | refine Z1 rfl ?_ | (refine Z2 ?_; first | refine Z3 rfl rfl (by decide) ?_ | refine Z4 rfl rfl (by decide) ?_ | refine Z5 rfl rfl ?_) | (refine Z6 ?_; first | refine Z7 rfl rfl ?_ | refine Z8 rfl rfl ?_) | (refine Z9 ?_; first | refine Z10 rfl (by assumption) (by rfl) ?_ | refine Z11 rfl (by assumption) ?_) | (refine Z12 ?_; first | refine Z13 (Z14 rfl (by decide) rfl) ?_ | refine Z13 (Z15 rfl (by decide) rfl) ?_) | (refine Z16 ?_; first | refine Z17 rfl ?_ | refine Z18 rfl ?_) | (refine Z19 ?_; first | refine Z20 rfl rfl (by omega) ?_ | refine Z21 rfl rfl (by omega) ?_ | refine Z22 rfl rfl (by omega) ?_ | refine Z23 rfl rfl (by omega) (by omega) ?_ | refine Z24 rfl rfl (by omega) (by omega) (by omega) ?_ | refine Z13 (Z25 rfl rfl) ?_ | refine Z13 (Z26 rfl rfl) ?_) | (refine Z27 ?_; refine Z13 (Z28 rfl (Z53 ⟨by omega, by omega⟩)) ?_) | (refine Z29 ?_; refine Z13 (Z30 rfl (by rfl) (by simp only [Z84, List.set_cons_zero, List.set_cons_succ]; rfl)) ?_) | refine Z31 ?_) | (refine Z32 ?_; first | refine Z33 ?_ | refine Z34 ?_ | refine Z35 ?_ | refine Z36 ?_ | refine Z37 ?_ | refine Z38 rfl ?_ | refine Z39 ?_ | refine Z40 ?_ | refine Z41 ?_) | (refine Z42 ?_; first | refine Z43 ?_ | refine Z44 ?_ | refine Z45 ?_ | refine Z46 ?_ | refine Z47 ?_ | refine Z48 ?_ | refine Z49 rfl (by decide) ?_ | refine Z50 rfl (by decide) ?_))
  obtain ⟨Fx, hxr, hxn, hxb⟩ := hx
  refine WO_call rfl (markCellS_ret _ _ _ l Fx 1 _ hxr hxn (by decide) (kAt_all l hn).2) ?_
  rintro _ wm ⟨rfl, _, cm⟩
  replace cm := cm.toI hxb
  have hk1 := (kAt_all l hn).1
  replace e0 := e0.chgI cm (by omega)
  try replace ha := Own.chgI ha cm (by omega)
  try replace hx := Own.chgI hx cm (by omega)
  try replace hg := Own.chgI hg cm (by omega)
  try replace hp := Blk.chgI hp cm (by omega)
  try replace hq := Blk.chgI hq cm (by omega)
  try replace hb := Blk.chgI hb cm (by omega)
  have := ChgI.size cm
  repeat' (first | (refine Z0 ?_; first | refine Z1 rfl ?_ | (refine Z2 ?_; first | refine Z3 rfl rfl (by decide) ?_ | refine Z4 rfl rfl (by decide) ?_ | refine Z5 rfl rfl ?_ | ((refine Z51 rfl rfl (fun c' hc' => ?_)); cases c' <;> (try simp only [decide_eq_true_eq, decide_eq_false_iff_not, beq_iff_eq, beq_eq_false_iff_ne, bne_iff_ne, bne_eq_false_iff_eq, ne_eq, gt_iff_lt, ge_iff_le, Int.not_lt, Int.not_le, Bool.not_eq_true', Bool.not_eq_false', Bool.not_true, Bool.not_false, reduceCtorEq, Decidable.not_not, not_true_eq_false, Bool.true_eq_false, Bool.false_eq_true] at hc') <;> (try (exfalso; omega)))) | (refine Z6 ?_; first | refine Z7 rfl rfl ?_ | refine Z8 rfl rfl ?_) | (refine Z9 ?_; first | refine Z10 rfl (by assumption) (by rfl) ?_ | refine Z11 rfl (by assumption) ?_) | (refine Z12 ?_; first | refine Z13 (Z14 rfl (by decide) rfl) ?_ | refine Z13 (Z15 rfl (by decide) rfl) ?_) | (refine Z16 ?_; first | refine Z17 rfl ?_ | refine Z18 rfl ?_) | (refine Z19 ?_; first | refine Z20 rfl rfl (by omega) ?_ | refine Z21 rfl rfl (by omega) ?_ | refine Z22 rfl rfl (by omega) ?_ | refine Z23 rfl rfl (by omega) (by omega) ?_ | refine Z24 rfl rfl (by omega) (by omega) (by omega) ?_ | refine Z13 (Z25 rfl rfl) ?_ | refine Z13 (Z26 rfl rfl) ?_) | (refine Z27 ?_; refine Z13 (Z28 rfl (Z53 ⟨by omega, by omega⟩)) ?_) | (refine Z29 ?_; refine Z13 (Z30 rfl (by rfl) (by simp only [Z84, List.set_cons_zero, List.set_cons_succ]; rfl)) ?_) | refine Z31 ?_) | (refine Z32 ?_; first | refine Z33 ?_ | refine Z34 ?_ | refine Z35 ?_ | refine Z36 ?_ | refine Z37 ?_ | refine Z38 rfl ?_ | refine Z39 ?_ | refine Z40 ?_ | refine Z41 ?_) | (refine Z42 ?_; first | refine Z43 ?_ | refine Z44 ?_ | refine Z45 ?_ | refine Z46 ?_ | refine Z47 ?_ | refine Z48 ?_ | refine Z49 rfl (by decide) ?_ | refine Z50 rfl (by decide) ?_ | ((refine Z52 rfl (fun hc' => ?_) (fun hc' => ?_)) <;> (try simp only [decide_eq_true_eq, decide_eq_false_iff_not, beq_iff_eq, beq_eq_false_iff_ne, bne_iff_ne, bne_eq_false_iff_eq, ne_eq, gt_iff_lt, ge_iff_le, Int.not_lt, Int.not_le, Bool.not_eq_true', Bool.not_eq_false', Bool.not_true, Bool.not_false, reduceCtorEq, Decidable.not_not, not_true_eq_false, Bool.true_eq_false, Bool.false_eq_true] at hc') <;> (try (exfalso; omega)))))
  obtain ⟨F1, h1⟩ := hg.ces
  obtain ⟨F2, h2⟩ := ha.ces
  refine WO_call rfl (eqCellS_ret _ _ _ _ F1 F2 _ h1 h2) ?_
  rintro _ wq ⟨rfl, eq⟩
  rw [decide_eq_true rfl]
  clear h1 h2
  replace e0 := e0.trans eq
  try replace ha := Own.ext ha eq
  try replace hx := Own.ext hx eq
  try replace hg := Own.ext hg eq
  try replace hp := Blk.ext hp eq
  try replace hq := Blk.ext hq eq
  try replace hb := Blk.ext hb eq
  have := Ext.size_le eq
  repeat' (first | (refine Z0 ?_; first | refine Z1 rfl ?_ | (refine Z2 ?_; first | refine Z3 rfl rfl (by decide) ?_ | refine Z4 rfl rfl (by decide) ?_ | refine Z5 rfl rfl ?_ | ((refine Z51 rfl rfl (fun c' hc' => ?_)); cases c' <;> (try simp only [decide_eq_true_eq, decide_eq_false_iff_not, beq_iff_eq, beq_eq_false_iff_ne, bne_iff_ne, bne_eq_false_iff_eq, ne_eq, gt_iff_lt, ge_iff_le, Int.not_lt, Int.not_le, Bool.not_eq_true', Bool.not_eq_false', Bool.not_true, Bool.not_false, reduceCtorEq, Decidable.not_not, not_true_eq_false, Bool.true_eq_false, Bool.false_eq_true] at hc') <;> (try (exfalso; omega)))) | (refine Z6 ?_; first | refine Z7 rfl rfl ?_ | refine Z8 rfl rfl ?_) | (refine Z9 ?_; first | refine Z10 rfl (by assumption) (by rfl) ?_ | refine Z11 rfl (by assumption) ?_) | (refine Z12 ?_; first | refine Z13 (Z14 rfl (by decide) rfl) ?_ | refine Z13 (Z15 rfl (by decide) rfl) ?_) | (refine Z16 ?_; first | refine Z17 rfl ?_ | refine Z18 rfl ?_) | (refine Z19 ?_; first | refine Z20 rfl rfl (by omega) ?_ | refine Z21 rfl rfl (by omega) ?_ | refine Z22 rfl rfl (by omega) ?_ | refine Z23 rfl rfl (by omega) (by omega) ?_ | refine Z24 rfl rfl (by omega) (by omega) (by omega) ?_ | refine Z13 (Z25 rfl rfl) ?_ | refine Z13 (Z26 rfl rfl) ?_) | (refine Z27 ?_; refine Z13 (Z28 rfl (Z53 ⟨by omega, by omega⟩)) ?_) | (refine Z29 ?_; refine Z13 (Z30 rfl (by rfl) (by simp only [Z84, List.set_cons_zero, List.set_cons_succ]; rfl)) ?_) | refine Z31 ?_) | (refine Z32 ?_; first | refine Z33 ?_ | refine Z34 ?_ | refine Z35 ?_ | refine Z36 ?_ | refine Z37 ?_ | refine Z38 rfl ?_ | refine Z39 ?_ | refine Z40 ?_ | refine Z41 ?_) | (refine Z42 ?_; first | refine Z43 ?_ | refine Z44 ?_ | refine Z45 ?_ | refine Z46 ?_ | refine Z47 ?_ | refine Z48 ?_ | refine Z49 rfl (by decide) ?_ | refine Z50 rfl (by decide) ?_ | ((refine Z52 rfl (fun hc' => ?_) (fun hc' => ?_)) <;> (try simp only [decide_eq_true_eq, decide_eq_false_iff_not, beq_iff_eq, beq_eq_false_iff_ne, bne_iff_ne, bne_eq_false_iff_eq, ne_eq, gt_iff_lt, ge_iff_le, Int.not_lt, Int.not_le, Bool.not_eq_true', Bool.not_eq_false', Bool.not_true, Bool.not_false, reduceCtorEq, Decidable.not_not, not_true_eq_false, Bool.true_eq_false, Bool.false_eq_true] at hc') <;> (try (exfalso; omega)))))
  obtain ⟨Fg, hgr, hgn, hgb⟩ := hg
  refine WO_call rfl (markCellS_ret _ _ _ (frL l x) Fg 1 _ hgr hgn (by decide) (kAt_all (frL l x) hm).2) ?_
  rintro _ wm ⟨rfl, hgr2, cm⟩
  replace cm := cm.toI hgb
  have hg : Own _ _ _ _ (markC 1 (frL l x)) wm _ := ⟨Fg, hgr2, hgn, hgb⟩
  replace e0 := e0.chgI cm (by omega)
  replace ha := Own.chgI ha cm (by omega)
  try replace hp := Blk.chgI hp cm (by omega)
  try replace hb := Blk.chgI hb cm (by omega)
  have := ChgI.size cm
  repeat (first | (refine Z0 ?_; first | refine Z1 rfl ?_ | (refine Z2 ?_; first | refine Z3 rfl rfl (by decide) ?_ | refine Z4 rfl rfl (by decide) ?_ | refine Z5 rfl rfl ?_) | (refine Z6 ?_; first | refine Z7 rfl rfl ?_ | refine Z8 rfl rfl ?_) | (refine Z9 ?_; first | refine Z10 rfl (by assumption) (by rfl) ?_ | refine Z11 rfl (by assumption) ?_) | (refine Z12 ?_; first | refine Z13 (Z14 rfl (by decide) rfl) ?_ | refine Z13 (Z15 rfl (by decide) rfl) ?_) | (refine Z16 ?_; first | refine Z17 rfl ?_ | refine Z18 rfl ?_) | (refine Z19 ?_; first | refine Z20 rfl rfl (by omega) ?_ | refine Z21 rfl rfl (by omega) ?_ | refine Z22 rfl rfl (by omega) ?_ | refine Z23 rfl rfl (by omega) (by omega) ?_ | refine Z24 rfl rfl (by omega) (by omega) (by omega) ?_ | refine Z13 (Z25 rfl rfl) ?_ | refine Z13 (Z26 rfl rfl) ?_) | (refine Z27 ?_; refine Z13 (Z28 rfl (Z53 ⟨by omega, by omega⟩)) ?_) | (refine Z29 ?_; refine Z13 (Z30 rfl (by rfl) (by simp only [Z84, List.set_cons_zero, List.set_cons_succ]; rfl)) ?_) | refine Z31 ?_) | (refine Z32 ?_; first | refine Z33 ?_ | refine Z34 ?_ | refine Z35 ?_ | refine Z36 ?_ | refine Z37 ?_ | refine Z38 rfl ?_ | refine Z39 ?_ | refine Z40 ?_ | refine Z41 ?_) | (refine Z42 ?_; first | refine Z43 ?_ | refine Z44 ?_ | refine Z45 ?_ | refine Z46 ?_ | refine Z47 ?_ | refine Z48 ?_ | refine Z49 rfl (by decide) ?_ | refine Z50 rfl (by decide) ?_))
  obtain ⟨F1, h1⟩ := hg.ces
  refine WO_call rfl (heldCellS_ret _ ((frL l x)) F1 1 _ h1 (by decide) (kAt_all ((frL l x)) hm).2) ?_
  rintro _ wh ⟨rfl, rfl⟩
  clear h1
  have hk2 := (kAt_all (frL l x) hm).1
  repeat' (first | (refine Z0 ?_; first | refine Z1 rfl ?_ | (refine Z2 ?_; first | refine Z3 rfl rfl (by decide) ?_ | refine Z4 rfl rfl (by decide) ?_ | refine Z5 rfl rfl ?_ | ((refine Z51 rfl rfl (fun c' hc' => ?_)); cases c' <;> (try simp only [decide_eq_true_eq, decide_eq_false_iff_not, beq_iff_eq, beq_eq_false_iff_ne, bne_iff_ne, bne_eq_false_iff_eq, ne_eq, gt_iff_lt, ge_iff_le, Int.not_lt, Int.not_le, Bool.not_eq_true', Bool.not_eq_false', Bool.not_true, Bool.not_false, reduceCtorEq, Decidable.not_not, not_true_eq_false, Bool.true_eq_false, Bool.false_eq_true] at hc') <;> (try (exfalso; omega)))) | (refine Z6 ?_; first | refine Z7 rfl rfl ?_ | refine Z8 rfl rfl ?_) | (refine Z9 ?_; first | refine Z10 rfl (by assumption) (by rfl) ?_ | refine Z11 rfl (by assumption) ?_) | (refine Z12 ?_; first | refine Z13 (Z14 rfl (by decide) rfl) ?_ | refine Z13 (Z15 rfl (by decide) rfl) ?_) | (refine Z16 ?_; first | refine Z17 rfl ?_ | refine Z18 rfl ?_) | (refine Z19 ?_; first | refine Z20 rfl rfl (by omega) ?_ | refine Z21 rfl rfl (by omega) ?_ | refine Z22 rfl rfl (by omega) ?_ | refine Z23 rfl rfl (by omega) (by omega) ?_ | refine Z24 rfl rfl (by omega) (by omega) (by omega) ?_ | refine Z13 (Z25 rfl rfl) ?_ | refine Z13 (Z26 rfl rfl) ?_) | (refine Z27 ?_; refine Z13 (Z28 rfl (Z53 ⟨by omega, by omega⟩)) ?_) | (refine Z29 ?_; refine Z13 (Z30 rfl (by rfl) (by simp only [Z84, List.set_cons_zero, List.set_cons_succ]; rfl)) ?_) | refine Z31 ?_) | (refine Z32 ?_; first | refine Z33 ?_ | refine Z34 ?_ | refine Z35 ?_ | refine Z36 ?_ | refine Z37 ?_ | refine Z38 rfl ?_ | refine Z39 ?_ | refine Z40 ?_ | refine Z41 ?_) | (refine Z42 ?_; first | refine Z43 ?_ | refine Z44 ?_ | refine Z45 ?_ | refine Z46 ?_ | refine Z47 ?_ | refine Z48 ?_ | refine Z49 rfl (by decide) ?_ | refine Z50 rfl (by decide) ?_ | ((refine Z52 rfl (fun hc' => ?_) (fun hc' => ?_)) <;> (try simp only [decide_eq_true_eq, decide_eq_false_iff_not, beq_iff_eq, beq_eq_false_iff_ne, bne_iff_ne, bne_eq_false_iff_eq, ne_eq, gt_iff_lt, ge_iff_le, Int.not_lt, Int.not_le, Bool.not_eq_true', Bool.not_eq_false', Bool.not_true, Bool.not_false, reduceCtorEq, Decidable.not_not, not_true_eq_false, Bool.true_eq_false, Bool.false_eq_true] at hc') <;> (try (exfalso; omega)))))
  refine W_held0E [] (fun τ w' => ∃ z0, τ = [(6, a0), (7, .int .i64 (wrC l x)), (9, g0), (12, .int .i64 (kAt 1 (frL l x) (frL l x).length)), (14, z0), (15, .int .i64 (wrC l x))] ∧ NewCells 58 62 (frL l x) wh z0 w') (by kernel_rfl) (fun ws es hS => ?_) (fun τ wt hT => ?_)
  · first | refine Z82 0 rfl (by kernel_rfl) (by kernel_rfl) (by kernel_rfl) (by assumption) (fun w' hw' => Z56 rfl) ?_ | refine Z82 0 rfl (by kernel_rfl) (by kernel_rfl) (by kernel_rfl) (by assumption) (fun w' hw' => Z63 rfl rfl) ?_ | refine Z82 0 rfl (by kernel_rfl) (by kernel_rfl) (by kernel_rfl) (by assumption) (fun w' hw' => Z64 rfl rfl) ?_ | refine Z82 0 rfl (by kernel_rfl) (by kernel_rfl) (by kernel_rfl) (by assumption) (fun w' hw' => Z75 rfl rfl (by omega)) ?_ | refine Z82 0 rfl (by kernel_rfl) (by kernel_rfl) (by kernel_rfl) (by assumption) (fun w' hw' => Z72 rfl) ?_ | refine Z82 0 rfl (by kernel_rfl) (by kernel_rfl) (by kernel_rfl) (by assumption) (fun w' hw' => Z69 rfl rfl rfl (by omega)) ?_ | refine Z82 0 rfl (by kernel_rfl) (by kernel_rfl) (by kernel_rfl) (by assumption) (fun w' hw' => Z30 rfl (by rfl) (by simp only [Z84, List.set_cons_zero, List.set_cons_succ]; rfl)) ?_
    refine Z82 2 rfl (by kernel_rfl) (by kernel_rfl) (by kernel_rfl) (by assumption) (fun w' hw' => q_loadS (cs := [.int .i64 x.cell, .int .i64 x.tag]) rfl rfl (fun j u hu => by rw [Nat.zero_add]; exact ((hb.ext es).ext hw'.ext).cell hu)) ?_
    refine WX_call 1 rfl (by kernel_rfl) rfl (toCellS_ret v l F _ (h.ext (e0.trans es)) hn) ?_
    rintro xr wr hxr
    have hS1 := hxr.2.chg []
    refine ⟨hS1, ?_⟩
    refine WX_call 3 rfl (by kernel_rfl) rfl (toPointer_ret x wr) ?_
    rintro _ wp ⟨rfl, ep⟩
    have hS2 := (hxr.2.trans ep).chg []
    refine ⟨hS2, ?_⟩
    obtain ⟨Fr, hcr, _⟩ := hxr.ces
    refine WX_call 4 rfl (by kernel_rfl) rfl (FreeCell_ret xr l Fr x wp (hcr.ext ep) hn) ?_
    rintro _ wc ⟨z0, rfl, hA⟩
    have hS3 := ((hxr.2.trans ep).trans hA.2).chg []
    refine ⟨hS3, ?_⟩
    first | refine Z82 5 rfl (by kernel_rfl) (by kernel_rfl) (by kernel_rfl) (by assumption) (fun w' hw' => Z56 rfl) ?_ | refine Z82 5 rfl (by kernel_rfl) (by kernel_rfl) (by kernel_rfl) (by assumption) (fun w' hw' => Z63 rfl rfl) ?_ | refine Z82 5 rfl (by kernel_rfl) (by kernel_rfl) (by kernel_rfl) (by assumption) (fun w' hw' => Z64 rfl rfl) ?_ | refine Z82 5 rfl (by kernel_rfl) (by kernel_rfl) (by kernel_rfl) (by assumption) (fun w' hw' => Z75 rfl rfl (by omega)) ?_ | refine Z82 5 rfl (by kernel_rfl) (by kernel_rfl) (by kernel_rfl) (by assumption) (fun w' hw' => Z72 rfl) ?_ | refine Z82 5 rfl (by kernel_rfl) (by kernel_rfl) (by kernel_rfl) (by assumption) (fun w' hw' => Z69 rfl rfl rfl (by omega)) ?_ | refine Z82 5 rfl (by kernel_rfl) (by kernel_rfl) (by kernel_rfl) (by assumption) (fun w' hw' => Z30 rfl (by rfl) (by simp only [Z84, List.set_cons_zero, List.set_cons_succ]; rfl)) ?_
    first | refine Z82 6 rfl (by kernel_rfl) (by kernel_rfl) (by kernel_rfl) (by assumption) (fun w' hw' => Z56 rfl) ?_ | refine Z82 6 rfl (by kernel_rfl) (by kernel_rfl) (by kernel_rfl) (by assumption) (fun w' hw' => Z63 rfl rfl) ?_ | refine Z82 6 rfl (by kernel_rfl) (by kernel_rfl) (by kernel_rfl) (by assumption) (fun w' hw' => Z64 rfl rfl) ?_ | refine Z82 6 rfl (by kernel_rfl) (by kernel_rfl) (by kernel_rfl) (by assumption) (fun w' hw' => Z75 rfl rfl (by omega)) ?_ | refine Z82 6 rfl (by kernel_rfl) (by kernel_rfl) (by kernel_rfl) (by assumption) (fun w' hw' => Z72 rfl) ?_ | refine Z82 6 rfl (by kernel_rfl) (by kernel_rfl) (by kernel_rfl) (by assumption) (fun w' hw' => Z69 rfl rfl rfl (by omega)) ?_ | refine Z82 6 rfl (by kernel_rfl) (by kernel_rfl) (by kernel_rfl) (by assumption) (fun w' hw' => Z30 rfl (by rfl) (by simp only [Z84, List.set_cons_zero, List.set_cons_succ]; rfl)) ?_
    first | refine Z82 7 rfl (by kernel_rfl) (by kernel_rfl) (by kernel_rfl) (by assumption) (fun w' hw' => Z56 rfl) ?_ | refine Z82 7 rfl (by kernel_rfl) (by kernel_rfl) (by kernel_rfl) (by assumption) (fun w' hw' => Z63 rfl rfl) ?_ | refine Z82 7 rfl (by kernel_rfl) (by kernel_rfl) (by kernel_rfl) (by assumption) (fun w' hw' => Z64 rfl rfl) ?_ | refine Z82 7 rfl (by kernel_rfl) (by kernel_rfl) (by kernel_rfl) (by assumption) (fun w' hw' => Z75 rfl rfl (by omega)) ?_ | refine Z82 7 rfl (by kernel_rfl) (by kernel_rfl) (by kernel_rfl) (by assumption) (fun w' hw' => Z72 rfl) ?_ | refine Z82 7 rfl (by kernel_rfl) (by kernel_rfl) (by kernel_rfl) (by assumption) (fun w' hw' => Z69 rfl rfl rfl (by omega)) ?_ | refine Z82 7 rfl (by kernel_rfl) (by kernel_rfl) (by kernel_rfl) (by assumption) (fun w' hw' => Z30 rfl (by rfl) (by simp only [Z84, List.set_cons_zero, List.set_cons_succ]; rfl)) ?_
    first | refine Z82 8 rfl (by kernel_rfl) (by kernel_rfl) (by kernel_rfl) (by assumption) (fun w' hw' => Z56 rfl) ?_ | refine Z82 8 rfl (by kernel_rfl) (by kernel_rfl) (by kernel_rfl) (by assumption) (fun w' hw' => Z63 rfl rfl) ?_ | refine Z82 8 rfl (by kernel_rfl) (by kernel_rfl) (by kernel_rfl) (by assumption) (fun w' hw' => Z64 rfl rfl) ?_ | refine Z82 8 rfl (by kernel_rfl) (by kernel_rfl) (by kernel_rfl) (by assumption) (fun w' hw' => Z75 rfl rfl (by omega)) ?_ | refine Z82 8 rfl (by kernel_rfl) (by kernel_rfl) (by kernel_rfl) (by assumption) (fun w' hw' => Z72 rfl) ?_ | refine Z82 8 rfl (by kernel_rfl) (by kernel_rfl) (by kernel_rfl) (by assumption) (fun w' hw' => Z69 rfl rfl rfl (by omega)) ?_ | refine Z82 8 rfl (by kernel_rfl) (by kernel_rfl) (by kernel_rfl) (by assumption) (fun w' hw' => Z30 rfl (by rfl) (by simp only [Z84, List.set_cons_zero, List.set_cons_succ]; rfl)) ?_
    first | refine Z82 9 rfl (by kernel_rfl) (by kernel_rfl) (by kernel_rfl) (by assumption) (fun w' hw' => Z56 rfl) ?_ | refine Z82 9 rfl (by kernel_rfl) (by kernel_rfl) (by kernel_rfl) (by assumption) (fun w' hw' => Z63 rfl rfl) ?_ | refine Z82 9 rfl (by kernel_rfl) (by kernel_rfl) (by kernel_rfl) (by assumption) (fun w' hw' => Z64 rfl rfl) ?_ | refine Z82 9 rfl (by kernel_rfl) (by kernel_rfl) (by kernel_rfl) (by assumption) (fun w' hw' => Z75 rfl rfl (by omega)) ?_ | refine Z82 9 rfl (by kernel_rfl) (by kernel_rfl) (by kernel_rfl) (by assumption) (fun w' hw' => Z72 rfl) ?_ | refine Z82 9 rfl (by kernel_rfl) (by kernel_rfl) (by kernel_rfl) (by assumption) (fun w' hw' => Z69 rfl rfl rfl (by omega)) ?_ | refine Z82 9 rfl (by kernel_rfl) (by kernel_rfl) (by kernel_rfl) (by assumption) (fun w' hw' => Z30 rfl (by rfl) (by simp only [Z84, List.set_cons_zero, List.set_cons_succ]; rfl)) ?_
    exact WH_doneE (τ := [(6, a0), (7, .int .i64 (wrC l x)), (9, g0), (12, .int .i64 (kAt 1 (frL l x) (frL l x).length)), (14, z0), (15, .int .i64 (wrC l x))]) (by kernel_rfl) (by repeat (first | exact True.intro | refine And.intro rfl ?_)) ⟨z0, rfl, hA.mono ((es.trans hxr.2).trans ep)⟩
  obtain ⟨h0, rfl, hA⟩ := hT
  have ea := hA.2
  replace e0 := e0.trans ea
  try replace ha := Own.ext ha ea
  try replace hx := Own.ext hx ea
  try replace hg := Own.ext hg ea
  try replace hp := Blk.ext hp ea
  try replace hq := Blk.ext hq ea
  try replace hb := Blk.ext hb ea
  have := Ext.size_le ea
  have hh := hA.own
  repeat (first | (refine Z0 ?_; first | refine Z1 rfl ?_ | (refine Z2 ?_; first | refine Z3 rfl rfl (by decide) ?_ | refine Z4 rfl rfl (by decide) ?_ | refine Z5 rfl rfl ?_) | (refine Z6 ?_; first | refine Z7 rfl rfl ?_ | refine Z8 rfl rfl ?_) | (refine Z9 ?_; first | refine Z10 rfl (by assumption) (by rfl) ?_ | refine Z11 rfl (by assumption) ?_) | (refine Z12 ?_; first | refine Z13 (Z14 rfl (by decide) rfl) ?_ | refine Z13 (Z15 rfl (by decide) rfl) ?_) | (refine Z16 ?_; first | refine Z17 rfl ?_ | refine Z18 rfl ?_) | (refine Z19 ?_; first | refine Z20 rfl rfl (by omega) ?_ | refine Z21 rfl rfl (by omega) ?_ | refine Z22 rfl rfl (by omega) ?_ | refine Z23 rfl rfl (by omega) (by omega) ?_ | refine Z24 rfl rfl (by omega) (by omega) (by omega) ?_ | refine Z13 (Z25 rfl rfl) ?_ | refine Z13 (Z26 rfl rfl) ?_) | (refine Z27 ?_; refine Z13 (Z28 rfl (Z53 ⟨by omega, by omega⟩)) ?_) | (refine Z29 ?_; refine Z13 (Z30 rfl (by rfl) (by simp only [Z84, List.set_cons_zero, List.set_cons_succ]; rfl)) ?_) | refine Z31 ?_) | (refine Z32 ?_; first | refine Z33 ?_ | refine Z34 ?_ | refine Z35 ?_ | refine Z36 ?_ | refine Z37 ?_ | refine Z38 rfl ?_ | refine Z39 ?_ | refine Z40 ?_ | refine Z41 ?_) | (refine Z42 ?_; first | refine Z43 ?_ | refine Z44 ?_ | refine Z45 ?_ | refine Z46 ?_ | refine Z47 ?_ | refine Z48 ?_ | refine Z49 rfl (by decide) ?_ | refine Z50 rfl (by decide) ?_))
  obtain ⟨F1, h1⟩ := hh.ces
  obtain ⟨F2, h2⟩ := ha.ces
  refine WO_call rfl (eqCellS_ret _ _ _ _ F1 F2 _ h1 h2) ?_
  rintro _ wq ⟨rfl, eq⟩
  rw [decide_eq_true rfl]
  clear h1 h2
  replace e0 := e0.trans eq
  try replace ha := Own.ext ha eq
  try replace hx := Own.ext hx eq
  try replace hg := Own.ext hg eq
  try replace hp := Blk.ext hp eq
  try replace hq := Blk.ext hq eq
  try replace hb := Blk.ext hb eq
  have := Ext.size_le eq
  repeat' (first | (refine Z0 ?_; first | refine Z1 rfl ?_ | (refine Z2 ?_; first | refine Z3 rfl rfl (by decide) ?_ | refine Z4 rfl rfl (by decide) ?_ | refine Z5 rfl rfl ?_ | ((refine Z51 rfl rfl (fun c' hc' => ?_)); cases c' <;> (try simp only [decide_eq_true_eq, decide_eq_false_iff_not, beq_iff_eq, beq_eq_false_iff_ne, bne_iff_ne, bne_eq_false_iff_eq, ne_eq, gt_iff_lt, ge_iff_le, Int.not_lt, Int.not_le, Bool.not_eq_true', Bool.not_eq_false', Bool.not_true, Bool.not_false, reduceCtorEq, Decidable.not_not, not_true_eq_false, Bool.true_eq_false, Bool.false_eq_true] at hc') <;> (try (exfalso; omega)))) | (refine Z6 ?_; first | refine Z7 rfl rfl ?_ | refine Z8 rfl rfl ?_) | (refine Z9 ?_; first | refine Z10 rfl (by assumption) (by rfl) ?_ | refine Z11 rfl (by assumption) ?_) | (refine Z12 ?_; first | refine Z13 (Z14 rfl (by decide) rfl) ?_ | refine Z13 (Z15 rfl (by decide) rfl) ?_) | (refine Z16 ?_; first | refine Z17 rfl ?_ | refine Z18 rfl ?_) | (refine Z19 ?_; first | refine Z20 rfl rfl (by omega) ?_ | refine Z21 rfl rfl (by omega) ?_ | refine Z22 rfl rfl (by omega) ?_ | refine Z23 rfl rfl (by omega) (by omega) ?_ | refine Z24 rfl rfl (by omega) (by omega) (by omega) ?_ | refine Z13 (Z25 rfl rfl) ?_ | refine Z13 (Z26 rfl rfl) ?_) | (refine Z27 ?_; refine Z13 (Z28 rfl (Z53 ⟨by omega, by omega⟩)) ?_) | (refine Z29 ?_; refine Z13 (Z30 rfl (by rfl) (by simp only [Z84, List.set_cons_zero, List.set_cons_succ]; rfl)) ?_) | refine Z31 ?_) | (refine Z32 ?_; first | refine Z33 ?_ | refine Z34 ?_ | refine Z35 ?_ | refine Z36 ?_ | refine Z37 ?_ | refine Z38 rfl ?_ | refine Z39 ?_ | refine Z40 ?_ | refine Z41 ?_) | (refine Z42 ?_; first | refine Z43 ?_ | refine Z44 ?_ | refine Z45 ?_ | refine Z46 ?_ | refine Z47 ?_ | refine Z48 ?_ | refine Z49 rfl (by decide) ?_ | refine Z50 rfl (by decide) ?_ | ((refine Z52 rfl (fun hc' => ?_) (fun hc' => ?_)) <;> (try simp only [decide_eq_true_eq, decide_eq_false_iff_not, beq_iff_eq, beq_eq_false_iff_ne, bne_iff_ne, bne_eq_false_iff_eq, ne_eq, gt_iff_lt, ge_iff_le, Int.not_lt, Int.not_le, Bool.not_eq_true', Bool.not_eq_false', Bool.not_true, Bool.not_false, reduceCtorEq, Decidable.not_not, not_true_eq_false, Bool.true_eq_false, Bool.false_eq_true] at hc') <;> (try (exfalso; omega)))))
  obtain ⟨F1, h1⟩ := hg.ces
  refine WO_call rfl (heldCellS_ret _ ((frL l x)) F1 1 _ h1 (by decide) (kAt_all ((frL l x)) hm).2) ?_
  rintro _ wh ⟨rfl, rfl⟩
  clear h1
  repeat' (first | (refine Z0 ?_; first | refine Z1 rfl ?_ | (refine Z2 ?_; first | refine Z3 rfl rfl (by decide) ?_ | refine Z4 rfl rfl (by decide) ?_ | refine Z5 rfl rfl ?_ | ((refine Z51 rfl rfl (fun c' hc' => ?_)); cases c' <;> (try simp only [decide_eq_true_eq, decide_eq_false_iff_not, beq_iff_eq, beq_eq_false_iff_ne, bne_iff_ne, bne_eq_false_iff_eq, ne_eq, gt_iff_lt, ge_iff_le, Int.not_lt, Int.not_le, Bool.not_eq_true', Bool.not_eq_false', Bool.not_true, Bool.not_false, reduceCtorEq, Decidable.not_not, not_true_eq_false, Bool.true_eq_false, Bool.false_eq_true] at hc') <;> (try (exfalso; omega)))) | (refine Z6 ?_; first | refine Z7 rfl rfl ?_ | refine Z8 rfl rfl ?_) | (refine Z9 ?_; first | refine Z10 rfl (by assumption) (by rfl) ?_ | refine Z11 rfl (by assumption) ?_) | (refine Z12 ?_; first | refine Z13 (Z14 rfl (by decide) rfl) ?_ | refine Z13 (Z15 rfl (by decide) rfl) ?_) | (refine Z16 ?_; first | refine Z17 rfl ?_ | refine Z18 rfl ?_) | (refine Z19 ?_; first | refine Z20 rfl rfl (by omega) ?_ | refine Z21 rfl rfl (by omega) ?_ | refine Z22 rfl rfl (by omega) ?_ | refine Z23 rfl rfl (by omega) (by omega) ?_ | refine Z24 rfl rfl (by omega) (by omega) (by omega) ?_ | refine Z13 (Z25 rfl rfl) ?_ | refine Z13 (Z26 rfl rfl) ?_) | (refine Z27 ?_; refine Z13 (Z28 rfl (Z53 ⟨by omega, by omega⟩)) ?_) | (refine Z29 ?_; refine Z13 (Z30 rfl (by rfl) (by simp only [Z84, List.set_cons_zero, List.set_cons_succ]; rfl)) ?_) | refine Z31 ?_) | (refine Z32 ?_; first | refine Z33 ?_ | refine Z34 ?_ | refine Z35 ?_ | refine Z36 ?_ | refine Z37 ?_ | refine Z38 rfl ?_ | refine Z39 ?_ | refine Z40 ?_ | refine Z41 ?_) | (refine Z42 ?_; first | refine Z43 ?_ | refine Z44 ?_ | refine Z45 ?_ | refine Z46 ?_ | refine Z47 ?_ | refine Z48 ?_ | refine Z49 rfl (by decide) ?_ | refine Z50 rfl (by decide) ?_ | ((refine Z52 rfl (fun hc' => ?_) (fun hc' => ?_)) <;> (try simp only [decide_eq_true_eq, decide_eq_false_iff_not, beq_iff_eq, beq_eq_false_iff_ne, bne_iff_ne, bne_eq_false_iff_eq, ne_eq, gt_iff_lt, ge_iff_le, Int.not_lt, Int.not_le, Bool.not_eq_true', Bool.not_eq_false', Bool.not_true, Bool.not_false, reduceCtorEq, Decidable.not_not, not_true_eq_false, Bool.true_eq_false, Bool.false_eq_true] at hc') <;> (try (exfalso; omega)))))
  exact at_ret1 rfl rfl ⟨rfl, e0⟩
theorem FnExactWriteCell_ret {w : World} {v : Value} {y : List Ce × List Nat} {pv : Value} (h : CeS w v y.1 y.2) {x : Pt} (hpv : pv = ptV x) (val : Int) (hval : -9223372036854775808 ≤ val ∧ val ≤ 9223372036854775807) :
    Ret Try.prog 8 [v, pv, .int .i64 val] w fun r w' => r = .bool true ∧ Ext w w' := by
  obtain ⟨l, F⟩ := y
  subst hpv
  simp only at h
  have e0 := Ext.refl w
  refine enter Try.func8 rfl Try.ntmps8 rfl rfl ?_
  refine Z43 (Z44 (WO_box rfl fun w0 hb eb zb => ?_))
  replace hb : Blk w0 w.heap.size [.int .i64 x.cell, .int .i64 x.tag] _ := hb
  replace e0 := e0.trans eb
  repeat (first | (refine Z0 ?_; first | refine Z1 rfl ?_ | (refine Z2 ?_; first | refine Z3 rfl rfl (by decide) ?_ | refine Z4 rfl rfl (by decide) ?_ | refine Z5 rfl rfl ?_) | (refine Z6 ?_; first | refine Z7 rfl rfl ?_ | refine Z8 rfl rfl ?_) | (refine Z9 ?_; first | refine Z10 rfl (by assumption) (by rfl) ?_ | refine Z11 rfl (by assumption) ?_) | (refine Z12 ?_; first | refine Z13 (Z14 rfl (by decide) rfl) ?_ | refine Z13 (Z15 rfl (by decide) rfl) ?_) | (refine Z16 ?_; first | refine Z17 rfl ?_ | refine Z18 rfl ?_) | (refine Z19 ?_; first | refine Z20 rfl rfl (by omega) ?_ | refine Z21 rfl rfl (by omega) ?_ | refine Z22 rfl rfl (by omega) ?_ | refine Z23 rfl rfl (by omega) (by omega) ?_ | refine Z24 rfl rfl (by omega) (by omega) (by omega) ?_ | refine Z13 (Z25 rfl rfl) ?_ | refine Z13 (Z26 rfl rfl) ?_) | (refine Z27 ?_; refine Z13 (Z28 rfl (Z53 ⟨by omega, by omega⟩)) ?_) | (refine Z29 ?_; refine Z13 (Z30 rfl (by rfl) (by simp only [Z84, List.set_cons_zero, List.set_cons_succ]; rfl)) ?_) | refine Z31 ?_) | (refine Z32 ?_; first | refine Z33 ?_ | refine Z34 ?_ | refine Z35 ?_ | refine Z36 ?_ | refine Z37 ?_ | refine Z38 rfl ?_ | refine Z39 ?_ | refine Z40 ?_ | refine Z41 ?_) | (refine Z42 ?_; first | refine Z43 ?_ | refine Z44 ?_ | refine Z45 ?_ | refine Z46 ?_ | refine Z47 ?_ | refine Z48 ?_ | refine Z49 rfl (by decide) ?_ | refine Z50 rfl (by decide) ?_))
  refine WO_call rfl (szCellS_ret v l F 1048576 _ (h.ext e0) (by decide) (by decide)) ?_
  rintro r w1 ⟨⟨left, rfl, hle, hsz⟩, e1⟩
  replace e0 := e0.trans e1
  try replace ha := Own.ext ha e1
  try replace hx := Own.ext hx e1
  try replace hg := Own.ext hg e1
  try replace hp := Blk.ext hp e1
  try replace hq := Blk.ext hq e1
  try replace hb := Blk.ext hb e1
  have := Ext.size_le e1
  repeat' (first | (refine Z0 ?_; first | refine Z1 rfl ?_ | (refine Z2 ?_; first | refine Z3 rfl rfl (by decide) ?_ | refine Z4 rfl rfl (by decide) ?_ | refine Z5 rfl rfl ?_ | ((refine Z51 rfl rfl (fun c' hc' => ?_)); cases c' <;> (try simp only [decide_eq_true_eq, decide_eq_false_iff_not, beq_iff_eq, beq_eq_false_iff_ne, bne_iff_ne, bne_eq_false_iff_eq, ne_eq, gt_iff_lt, ge_iff_le, Int.not_lt, Int.not_le, Bool.not_eq_true', Bool.not_eq_false', Bool.not_true, Bool.not_false, reduceCtorEq, Decidable.not_not, not_true_eq_false, Bool.true_eq_false, Bool.false_eq_true] at hc') <;> (try (exfalso; omega)))) | (refine Z6 ?_; first | refine Z7 rfl rfl ?_ | refine Z8 rfl rfl ?_) | (refine Z9 ?_; first | refine Z10 rfl (by assumption) (by rfl) ?_ | refine Z11 rfl (by assumption) ?_) | (refine Z12 ?_; first | refine Z13 (Z14 rfl (by decide) rfl) ?_ | refine Z13 (Z15 rfl (by decide) rfl) ?_) | (refine Z16 ?_; first | refine Z17 rfl ?_ | refine Z18 rfl ?_) | (refine Z19 ?_; first | refine Z20 rfl rfl (by omega) ?_ | refine Z21 rfl rfl (by omega) ?_ | refine Z22 rfl rfl (by omega) ?_ | refine Z23 rfl rfl (by omega) (by omega) ?_ | refine Z24 rfl rfl (by omega) (by omega) (by omega) ?_ | refine Z13 (Z25 rfl rfl) ?_ | refine Z13 (Z26 rfl rfl) ?_) | (refine Z27 ?_; refine Z13 (Z28 rfl (Z53 ⟨by omega, by omega⟩)) ?_) | (refine Z29 ?_; refine Z13 (Z30 rfl (by rfl) (by simp only [Z84, List.set_cons_zero, List.set_cons_succ]; rfl)) ?_) | refine Z31 ?_) | (refine Z32 ?_; first | refine Z33 ?_ | refine Z34 ?_ | refine Z35 ?_ | refine Z36 ?_ | refine Z37 ?_ | refine Z38 rfl ?_ | refine Z39 ?_ | refine Z40 ?_ | refine Z41 ?_) | (refine Z42 ?_; first | refine Z43 ?_ | refine Z44 ?_ | refine Z45 ?_ | refine Z46 ?_ | refine Z47 ?_ | refine Z48 ?_ | refine Z49 rfl (by decide) ?_ | refine Z50 rfl (by decide) ?_ | ((refine Z52 rfl (fun hc' => ?_) (fun hc' => ?_)) <;> (try simp only [decide_eq_true_eq, decide_eq_false_iff_not, beq_iff_eq, beq_eq_false_iff_ne, bne_iff_ne, bne_eq_false_iff_eq, ne_eq, gt_iff_lt, ge_iff_le, Int.not_lt, Int.not_le, Bool.not_eq_true', Bool.not_eq_false', Bool.not_true, Bool.not_false, reduceCtorEq, Decidable.not_not, not_true_eq_false, Bool.true_eq_false, Bool.false_eq_true] at hc') <;> (try (exfalso; omega)))))
  · exact at_ret1 rfl rfl ⟨rfl, e0⟩
  have hn : cSize l ≤ 1048576 := by have := hsz (by omega); omega
  clear hsz
  have hm := wrvL_size (x := x) (val := val) hn
  refine W_held0E [] (fun τ w' => ∃ z0, τ = [(0, v), (4, .pointer (some ⟨w.heap.size, 0, none⟩)), (2, .int .i64 val), (8, z0), (9, .int .i64 (wrvC l x val))] ∧ NewCells 58 62 (wrvL l x val) w1 z0 w') (by kernel_rfl) (fun ws es hS => ?_) (fun τ wt hT => ?_)
  · first | refine Z82 0 rfl (by kernel_rfl) (by kernel_rfl) (by kernel_rfl) (by assumption) (fun w' hw' => Z56 rfl) ?_ | refine Z82 0 rfl (by kernel_rfl) (by kernel_rfl) (by kernel_rfl) (by assumption) (fun w' hw' => Z63 rfl rfl) ?_ | refine Z82 0 rfl (by kernel_rfl) (by kernel_rfl) (by kernel_rfl) (by assumption) (fun w' hw' => Z64 rfl rfl) ?_ | refine Z82 0 rfl (by kernel_rfl) (by kernel_rfl) (by kernel_rfl) (by assumption) (fun w' hw' => Z75 rfl rfl (by omega)) ?_ | refine Z82 0 rfl (by kernel_rfl) (by kernel_rfl) (by kernel_rfl) (by assumption) (fun w' hw' => Z72 rfl) ?_ | refine Z82 0 rfl (by kernel_rfl) (by kernel_rfl) (by kernel_rfl) (by assumption) (fun w' hw' => Z69 rfl rfl rfl (by omega)) ?_ | refine Z82 0 rfl (by kernel_rfl) (by kernel_rfl) (by kernel_rfl) (by assumption) (fun w' hw' => Z30 rfl (by rfl) (by simp only [Z84, List.set_cons_zero, List.set_cons_succ]; rfl)) ?_
    refine Z82 2 rfl (by kernel_rfl) (by kernel_rfl) (by kernel_rfl) (by assumption) (fun w' hw' => q_loadS (cs := [.int .i64 x.cell, .int .i64 x.tag]) rfl rfl (fun j u hu => by rw [Nat.zero_add]; exact ((hb.ext es).ext hw'.ext).cell hu)) ?_
    first | refine Z82 4 rfl (by kernel_rfl) (by kernel_rfl) (by kernel_rfl) (by assumption) (fun w' hw' => Z56 rfl) ?_ | refine Z82 4 rfl (by kernel_rfl) (by kernel_rfl) (by kernel_rfl) (by assumption) (fun w' hw' => Z63 rfl rfl) ?_ | refine Z82 4 rfl (by kernel_rfl) (by kernel_rfl) (by kernel_rfl) (by assumption) (fun w' hw' => Z64 rfl rfl) ?_ | refine Z82 4 rfl (by kernel_rfl) (by kernel_rfl) (by kernel_rfl) (by assumption) (fun w' hw' => Z75 rfl rfl (by omega)) ?_ | refine Z82 4 rfl (by kernel_rfl) (by kernel_rfl) (by kernel_rfl) (by assumption) (fun w' hw' => Z72 rfl) ?_ | refine Z82 4 rfl (by kernel_rfl) (by kernel_rfl) (by kernel_rfl) (by assumption) (fun w' hw' => Z69 rfl rfl rfl (by omega)) ?_ | refine Z82 4 rfl (by kernel_rfl) (by kernel_rfl) (by kernel_rfl) (by assumption) (fun w' hw' => Z30 rfl (by rfl) (by simp only [Z84, List.set_cons_zero, List.set_cons_succ]; rfl)) ?_
    refine WX_call 1 rfl (by kernel_rfl) rfl (toCellS_ret v l F _ (h.ext (e0.trans es)) hn) ?_
    rintro xr wr hxr
    have hS1 := hxr.2.chg []
    refine ⟨hS1, ?_⟩
    refine WX_call 3 rfl (by kernel_rfl) rfl (toPointer_ret x wr) ?_
    rintro _ wp ⟨rfl, ep⟩
    have hS2 := (hxr.2.trans ep).chg []
    refine ⟨hS2, ?_⟩
    obtain ⟨Fr, hcr, _⟩ := hxr.ces
    refine WX_call 5 rfl (by kernel_rfl) rfl (sWriteCell_ret xr l Fr x val wp (hcr.ext ep) hn) ?_
    rintro _ wc ⟨z0, rfl, hA⟩
    have hS3 := ((hxr.2.trans ep).trans hA.2).chg []
    refine ⟨hS3, ?_⟩
    first | refine Z82 6 rfl (by kernel_rfl) (by kernel_rfl) (by kernel_rfl) (by assumption) (fun w' hw' => Z56 rfl) ?_ | refine Z82 6 rfl (by kernel_rfl) (by kernel_rfl) (by kernel_rfl) (by assumption) (fun w' hw' => Z63 rfl rfl) ?_ | refine Z82 6 rfl (by kernel_rfl) (by kernel_rfl) (by kernel_rfl) (by assumption) (fun w' hw' => Z64 rfl rfl) ?_ | refine Z82 6 rfl (by kernel_rfl) (by kernel_rfl) (by kernel_rfl) (by assumption) (fun w' hw' => Z75 rfl rfl (by omega)) ?_ | refine Z82 6 rfl (by kernel_rfl) (by kernel_rfl) (by kernel_rfl) (by assumption) (fun w' hw' => Z72 rfl) ?_ | refine Z82 6 rfl (by kernel_rfl) (by kernel_rfl) (by kernel_rfl) (by assumption) (fun w' hw' => Z69 rfl rfl rfl (by omega)) ?_ | refine Z82 6 rfl (by kernel_rfl) (by kernel_rfl) (by kernel_rfl) (by assumption) (fun w' hw' => Z30 rfl (by rfl) (by simp only [Z84, List.set_cons_zero, List.set_cons_succ]; rfl)) ?_
    first | refine Z82 7 rfl (by kernel_rfl) (by kernel_rfl) (by kernel_rfl) (by assumption) (fun w' hw' => Z56 rfl) ?_ | refine Z82 7 rfl (by kernel_rfl) (by kernel_rfl) (by kernel_rfl) (by assumption) (fun w' hw' => Z63 rfl rfl) ?_ | refine Z82 7 rfl (by kernel_rfl) (by kernel_rfl) (by kernel_rfl) (by assumption) (fun w' hw' => Z64 rfl rfl) ?_ | refine Z82 7 rfl (by kernel_rfl) (by kernel_rfl) (by kernel_rfl) (by assumption) (fun w' hw' => Z75 rfl rfl (by omega)) ?_ | refine Z82 7 rfl (by kernel_rfl) (by kernel_rfl) (by kernel_rfl) (by assumption) (fun w' hw' => Z72 rfl) ?_ | refine Z82 7 rfl (by kernel_rfl) (by kernel_rfl) (by kernel_rfl) (by assumption) (fun w' hw' => Z69 rfl rfl rfl (by omega)) ?_ | refine Z82 7 rfl (by kernel_rfl) (by kernel_rfl) (by kernel_rfl) (by assumption) (fun w' hw' => Z30 rfl (by rfl) (by simp only [Z84, List.set_cons_zero, List.set_cons_succ]; rfl)) ?_
    first | refine Z82 8 rfl (by kernel_rfl) (by kernel_rfl) (by kernel_rfl) (by assumption) (fun w' hw' => Z56 rfl) ?_ | refine Z82 8 rfl (by kernel_rfl) (by kernel_rfl) (by kernel_rfl) (by assumption) (fun w' hw' => Z63 rfl rfl) ?_ | refine Z82 8 rfl (by kernel_rfl) (by kernel_rfl) (by kernel_rfl) (by assumption) (fun w' hw' => Z64 rfl rfl) ?_ | refine Z82 8 rfl (by kernel_rfl) (by kernel_rfl) (by kernel_rfl) (by assumption) (fun w' hw' => Z75 rfl rfl (by omega)) ?_ | refine Z82 8 rfl (by kernel_rfl) (by kernel_rfl) (by kernel_rfl) (by assumption) (fun w' hw' => Z72 rfl) ?_ | refine Z82 8 rfl (by kernel_rfl) (by kernel_rfl) (by kernel_rfl) (by assumption) (fun w' hw' => Z69 rfl rfl rfl (by omega)) ?_ | refine Z82 8 rfl (by kernel_rfl) (by kernel_rfl) (by kernel_rfl) (by assumption) (fun w' hw' => Z30 rfl (by rfl) (by simp only [Z84, List.set_cons_zero, List.set_cons_succ]; rfl)) ?_
    first | refine Z82 9 rfl (by kernel_rfl) (by kernel_rfl) (by kernel_rfl) (by assumption) (fun w' hw' => Z56 rfl) ?_ | refine Z82 9 rfl (by kernel_rfl) (by kernel_rfl) (by kernel_rfl) (by assumption) (fun w' hw' => Z63 rfl rfl) ?_ | refine Z82 9 rfl (by kernel_rfl) (by kernel_rfl) (by kernel_rfl) (by assumption) (fun w' hw' => Z64 rfl rfl) ?_ | refine Z82 9 rfl (by kernel_rfl) (by kernel_rfl) (by kernel_rfl) (by assumption) (fun w' hw' => Z75 rfl rfl (by omega)) ?_ | refine Z82 9 rfl (by kernel_rfl) (by kernel_rfl) (by kernel_rfl) (by assumption) (fun w' hw' => Z72 rfl) ?_ | refine Z82 9 rfl (by kernel_rfl) (by kernel_rfl) (by kernel_rfl) (by assumption) (fun w' hw' => Z69 rfl rfl rfl (by omega)) ?_ | refine Z82 9 rfl (by kernel_rfl) (by kernel_rfl) (by kernel_rfl) (by assumption) (fun w' hw' => Z30 rfl (by rfl) (by simp only [Z84, List.set_cons_zero, List.set_cons_succ]; rfl)) ?_
    first | refine Z82 10 rfl (by kernel_rfl) (by kernel_rfl) (by kernel_rfl) (by assumption) (fun w' hw' => Z56 rfl) ?_ | refine Z82 10 rfl (by kernel_rfl) (by kernel_rfl) (by kernel_rfl) (by assumption) (fun w' hw' => Z63 rfl rfl) ?_ | refine Z82 10 rfl (by kernel_rfl) (by kernel_rfl) (by kernel_rfl) (by assumption) (fun w' hw' => Z64 rfl rfl) ?_ | refine Z82 10 rfl (by kernel_rfl) (by kernel_rfl) (by kernel_rfl) (by assumption) (fun w' hw' => Z75 rfl rfl (by omega)) ?_ | refine Z82 10 rfl (by kernel_rfl) (by kernel_rfl) (by kernel_rfl) (by assumption) (fun w' hw' => Z72 rfl) ?_ | refine Z82 10 rfl (by kernel_rfl) (by kernel_rfl) (by kernel_rfl) (by assumption) (fun w' hw' => Z69 rfl rfl rfl (by omega)) ?_ | refine Z82 10 rfl (by kernel_rfl) (by kernel_rfl) (by kernel_rfl) (by assumption) (fun w' hw' => Z30 rfl (by rfl) (by simp only [Z84, List.set_cons_zero, List.set_cons_succ]; rfl)) ?_
    exact WH_doneE (τ := [(0, v), (4, .pointer (some ⟨w.heap.size, 0, none⟩)), (2, .int .i64 val), (8, z0), (9, .int .i64 (wrvC l x val))]) (by kernel_rfl) (by repeat (first | exact True.intro | refine And.intro rfl ?_)) ⟨z0, rfl, hA.mono ((es.trans hxr.2).trans ep)⟩
  obtain ⟨a0, rfl, hA⟩ := hT
  have ea := hA.2
  replace e0 := e0.trans ea
  try replace ha := Own.ext ha ea
  try replace hx := Own.ext hx ea
  try replace hg := Own.ext hg ea
  try replace hp := Blk.ext hp ea
  try replace hq := Blk.ext hq ea
  try replace hb := Blk.ext hb ea
  have := Ext.size_le ea
  have ha := hA.own
  repeat (first | (refine Z0 ?_; first | refine Z1 rfl ?_ | (refine Z2 ?_; first | refine Z3 rfl rfl (by decide) ?_ | refine Z4 rfl rfl (by decide) ?_ | refine Z5 rfl rfl ?_) | (refine Z6 ?_; first | refine Z7 rfl rfl ?_ | refine Z8 rfl rfl ?_) | (refine Z9 ?_; first | refine Z10 rfl (by assumption) (by rfl) ?_ | refine Z11 rfl (by assumption) ?_) | (refine Z12 ?_; first | refine Z13 (Z14 rfl (by decide) rfl) ?_ | refine Z13 (Z15 rfl (by decide) rfl) ?_) | (refine Z16 ?_; first | refine Z17 rfl ?_ | refine Z18 rfl ?_) | (refine Z19 ?_; first | refine Z20 rfl rfl (by omega) ?_ | refine Z21 rfl rfl (by omega) ?_ | refine Z22 rfl rfl (by omega) ?_ | refine Z23 rfl rfl (by omega) (by omega) ?_ | refine Z24 rfl rfl (by omega) (by omega) (by omega) ?_ | refine Z13 (Z25 rfl rfl) ?_ | refine Z13 (Z26 rfl rfl) ?_) | (refine Z27 ?_; refine Z13 (Z28 rfl (Z53 ⟨by omega, by omega⟩)) ?_) | (refine Z29 ?_; refine Z13 (Z30 rfl (by rfl) (by simp only [Z84, List.set_cons_zero, List.set_cons_succ]; rfl)) ?_) | refine Z31 ?_) | (refine Z32 ?_; first | refine Z33 ?_ | refine Z34 ?_ | refine Z35 ?_ | refine Z36 ?_ | refine Z37 ?_ | refine Z38 rfl ?_ | refine Z39 ?_ | refine Z40 ?_ | refine Z41 ?_) | (refine Z42 ?_; first | refine Z43 ?_ | refine Z44 ?_ | refine Z45 ?_ | refine Z46 ?_ | refine Z47 ?_ | refine Z48 ?_ | refine Z49 rfl (by decide) ?_ | refine Z50 rfl (by decide) ?_))
  refine WO_call rfl (toCellS_ret v l F _ (h.ext e0) hn) ?_
  rintro xr wr hxr
  have er := hxr.2
  replace e0 := e0.trans er
  try replace ha := Own.ext ha er
  try replace hx := Own.ext hx er
  try replace hg := Own.ext hg er
  try replace hp := Blk.ext hp er
  try replace hq := Blk.ext hq er
  try replace hb := Blk.ext hb er
  have := Ext.size_le er
  have hx := hxr.own
  obtain ⟨Fr, hcr, _⟩ := hxr.ces
  repeat (first | (refine Z0 ?_; first | refine Z1 rfl ?_ | (refine Z2 ?_; first | refine Z3 rfl rfl (by decide) ?_ | refine Z4 rfl rfl (by decide) ?_ | refine Z5 rfl rfl ?_) | (refine Z6 ?_; first | refine Z7 rfl rfl ?_ | refine Z8 rfl rfl ?_) | (refine Z9 ?_; first | refine Z10 rfl (by assumption) (by rfl) ?_ | refine Z11 rfl (by assumption) ?_) | (refine Z12 ?_; first | refine Z13 (Z14 rfl (by decide) rfl) ?_ | refine Z13 (Z15 rfl (by decide) rfl) ?_) | (refine Z16 ?_; first | refine Z17 rfl ?_ | refine Z18 rfl ?_) | (refine Z19 ?_; first | refine Z20 rfl rfl (by omega) ?_ | refine Z21 rfl rfl (by omega) ?_ | refine Z22 rfl rfl (by omega) ?_ | refine Z23 rfl rfl (by omega) (by omega) ?_ | refine Z24 rfl rfl (by omega) (by omega) (by omega) ?_ | refine Z13 (Z25 rfl rfl) ?_ | refine Z13 (Z26 rfl rfl) ?_) | (refine Z27 ?_; refine Z13 (Z28 rfl (Z53 ⟨by omega, by omega⟩)) ?_) | (refine Z29 ?_; refine Z13 (Z30 rfl (by rfl) (by simp only [Z84, List.set_cons_zero, List.set_cons_succ]; rfl)) ?_) | refine Z31 ?_) | (refine Z32 ?_; first | refine Z33 ?_ | refine Z34 ?_ | refine Z35 ?_ | refine Z36 ?_ | refine Z37 ?_ | refine Z38 rfl ?_ | refine Z39 ?_ | refine Z40 ?_ | refine Z41 ?_) | (refine Z42 ?_; first | refine Z43 ?_ | refine Z44 ?_ | refine Z45 ?_ | refine Z46 ?_ | refine Z47 ?_ | refine Z48 ?_ | refine Z49 rfl (by decide) ?_ | refine Z50 rfl (by decide) ?_))
  refine WO_loadSB rfl hb rfl ?_
  refine WO_call rfl (toPointer_ret x _) ?_
  rintro _ wp ⟨rfl, ep⟩
  replace e0 := e0.trans ep
  try replace ha := Own.ext ha ep
  try replace hx := Own.ext hx ep
  try replace hg := Own.ext hg ep
  try replace hp := Blk.ext hp ep
  try replace hq := Blk.ext hq ep
  try replace hb := Blk.ext hb ep
  have := Ext.size_le ep
  repeat (first | (refine Z0 ?_; first | refine Z1 rfl ?_ | (refine Z2 ?_; first | refine Z3 rfl rfl (by decide) ?_ | refine Z4 rfl rfl (by decide) ?_ | refine Z5 rfl rfl ?_) | (refine Z6 ?_; first | refine Z7 rfl rfl ?_ | refine Z8 rfl rfl ?_) | (refine Z9 ?_; first | refine Z10 rfl (by assumption) (by rfl) ?_ | refine Z11 rfl (by assumption) ?_) | (refine Z12 ?_; first | refine Z13 (Z14 rfl (by decide) rfl) ?_ | refine Z13 (Z15 rfl (by decide) rfl) ?_) | (refine Z16 ?_; first | refine Z17 rfl ?_ | refine Z18 rfl ?_) | (refine Z19 ?_; first | refine Z20 rfl rfl (by omega) ?_ | refine Z21 rfl rfl (by omega) ?_ | refine Z22 rfl rfl (by omega) ?_ | refine Z23 rfl rfl (by omega) (by omega) ?_ | refine Z24 rfl rfl (by omega) (by omega) (by omega) ?_ | refine Z13 (Z25 rfl rfl) ?_ | refine Z13 (Z26 rfl rfl) ?_) | (refine Z27 ?_; refine Z13 (Z28 rfl (Z53 ⟨by omega, by omega⟩)) ?_) | (refine Z29 ?_; refine Z13 (Z30 rfl (by rfl) (by simp only [Z84, List.set_cons_zero, List.set_cons_succ]; rfl)) ?_) | refine Z31 ?_) | (refine Z32 ?_; first | refine Z33 ?_ | refine Z34 ?_ | refine Z35 ?_ | refine Z36 ?_ | refine Z37 ?_ | refine Z38 rfl ?_ | refine Z39 ?_ | refine Z40 ?_ | refine Z41 ?_) | (refine Z42 ?_; first | refine Z43 ?_ | refine Z44 ?_ | refine Z45 ?_ | refine Z46 ?_ | refine Z47 ?_ | refine Z48 ?_ | refine Z49 rfl (by decide) ?_ | refine Z50 rfl (by decide) ?_))
  refine WO_call rfl (WriteCell_ret xr l Fr x val wp (hcr.ext ep) hn) ?_
  rintro _ wd ⟨g0, rfl, hG⟩
  have ed := hG.2
  replace e0 := e0.trans ed
  try replace ha := Own.ext ha ed
  try replace hx := Own.ext hx ed
  try replace hg := Own.ext hg ed
  try replace hp := Blk.ext hp ed
  try replace hq := Blk.ext hq ed
  try replace hb := Blk.ext hb ed
  have := Ext.size_le ed
  have hg := hG.own
  repeat (first | (refine Z0 ?_; first | refine Z1 rfl ?_ | (refine Z2 ?_; first | refine Z3 rfl rfl (by decide) ?_ | refine Z4 rfl rfl (by decide) ?_ | refine Z5 rfl rfl ?_) | (refine Z6 ?_; first | refine Z7 rfl rfl ?_ | refine Z8 rfl rfl ?_) | (refine Z9 ?_; first | refine Z10 rfl (by assumption) (by rfl) ?_ | refine Z11 rfl (by assumption) ?_) | (refine Z12 ?_; first | refine Z13 (Z14 rfl (by decide) rfl) ?_ | refine Z13 (Z15 rfl (by decide) rfl) ?_) | (refine Z16 ?_; first | refine Z17 rfl ?_ | refine Z18 rfl ?_) | (refine Z19 ?_; first | refine Z20 rfl rfl (by omega) ?_ | refine Z21 rfl rfl (by omega) ?_ | refine Z22 rfl rfl (by omega) ?_ | refine Z23 rfl rfl (by omega) (by omega) ?_ | refine Z24 rfl rfl (by omega) (by omega) (by omega) ?_ | refine Z13 (Z25 rfl rfl) ?_ | refine Z13 (Z26 rfl rfl) ?_) | (refine Z27 ?_; refine Z13 (Z28 rfl (Z53 ⟨by omega, by omega⟩)) ?_) | (refine Z29 ?_; refine Z13 (Z30 rfl (by rfl) (by simp only [Z84, List.set_cons_zero, List.set_cons_succ]; rfl)) ?_) | refine Z31 ?_) | (refine Z32 ?_; first | refine Z33 ?_ | refine Z34 ?_ | refine Z35 ?_ | refine Z36 ?_ | refine Z37 ?_ | refine Z38 rfl ?_ | refine Z39 ?_ | refine Z40 ?_ | refine Z41 ?_) | (refine Z42 ?_; first | refine Z43 ?_ | refine Z44 ?_ | refine Z45 ?_ | refine Z46 ?_ | refine Z47 ?_ | refine Z48 ?_ | refine Z49 rfl (by decide) ?_ | refine Z50 rfl (by decide) ?_))
  obtain ⟨F1, h1⟩ := hg.ces
  obtain ⟨F2, h2⟩ := ha.ces
  refine WO_call rfl (eqCellS_ret _ _ _ _ F1 F2 _ h1 h2) ?_
  rintro _ wq ⟨rfl, eq⟩
  rw [decide_eq_true rfl]
  clear h1 h2
  replace e0 := e0.trans eq
  try replace ha := Own.ext ha eq
  try replace hx := Own.ext hx eq
  try replace hg := Own.ext hg eq
  try replace hp := Blk.ext hp eq
  try replace hq := Blk.ext hq eq
  try replace hb := Blk.ext hb eq
  have := Ext.size_le eq
  repeat' (first | (refine Z0 ?_; first | refine Z1 rfl ?_ | (refine Z2 ?_; first | refine Z3 rfl rfl (by decide) ?_ | refine Z4 rfl rfl (by decide) ?_ | refine Z5 rfl rfl ?_ | ((refine Z51 rfl rfl (fun c' hc' => ?_)); cases c' <;> (try simp only [decide_eq_true_eq, decide_eq_false_iff_not, beq_iff_eq, beq_eq_false_iff_ne, bne_iff_ne, bne_eq_false_iff_eq, ne_eq, gt_iff_lt, ge_iff_le, Int.not_lt, Int.not_le, Bool.not_eq_true', Bool.not_eq_false', Bool.not_true, Bool.not_false, reduceCtorEq, Decidable.not_not, not_true_eq_false, Bool.true_eq_false, Bool.false_eq_true] at hc') <;> (try (exfalso; omega)))) | (refine Z6 ?_; first | refine Z7 rfl rfl ?_ | refine Z8 rfl rfl ?_) | (refine Z9 ?_; first | refine Z10 rfl (by assumption) (by rfl) ?_ | refine Z11 rfl (by assumption) ?_) | (refine Z12 ?_; first | refine Z13 (Z14 rfl (by decide) rfl) ?_ | refine Z13 (Z15 rfl (by decide) rfl) ?_) | (refine Z16 ?_; first | refine Z17 rfl ?_ | refine Z18 rfl ?_) | (refine Z19 ?_; first | refine Z20 rfl rfl (by omega) ?_ | refine Z21 rfl rfl (by omega) ?_ | refine Z22 rfl rfl (by omega) ?_ | refine Z23 rfl rfl (by omega) (by omega) ?_ | refine Z24 rfl rfl (by omega) (by omega) (by omega) ?_ | refine Z13 (Z25 rfl rfl) ?_ | refine Z13 (Z26 rfl rfl) ?_) | (refine Z27 ?_; refine Z13 (Z28 rfl (Z53 ⟨by omega, by omega⟩)) ?_) | (refine Z29 ?_; refine Z13 (Z30 rfl (by rfl) (by simp only [Z84, List.set_cons_zero, List.set_cons_succ]; rfl)) ?_) | refine Z31 ?_) | (refine Z32 ?_; first | refine Z33 ?_ | refine Z34 ?_ | refine Z35 ?_ | refine Z36 ?_ | refine Z37 ?_ | refine Z38 rfl ?_ | refine Z39 ?_ | refine Z40 ?_ | refine Z41 ?_) | (refine Z42 ?_; first | refine Z43 ?_ | refine Z44 ?_ | refine Z45 ?_ | refine Z46 ?_ | refine Z47 ?_ | refine Z48 ?_ | refine Z49 rfl (by decide) ?_ | refine Z50 rfl (by decide) ?_ | ((refine Z52 rfl (fun hc' => ?_) (fun hc' => ?_)) <;> (try simp only [decide_eq_true_eq, decide_eq_false_iff_not, beq_iff_eq, beq_eq_false_iff_ne, bne_iff_ne, bne_eq_false_iff_eq, ne_eq, gt_iff_lt, ge_iff_le, Int.not_lt, Int.not_le, Bool.not_eq_true', Bool.not_eq_false', Bool.not_true, Bool.not_false, reduceCtorEq, Decidable.not_not, not_true_eq_false, Bool.true_eq_false, Bool.false_eq_true] at hc') <;> (try (exfalso; omega)))))
  refine WO_call rfl (toCellS_ret v l F _ (h.ext e0) hn) ?_
  rintro xr wr hxr
  have er := hxr.2
  replace e0 := e0.trans er
  try replace ha := Own.ext ha er
  try replace hx := Own.ext hx er
  try replace hg := Own.ext hg er
  try replace hp := Blk.ext hp er
  try replace hq := Blk.ext hq er
  try replace hb := Blk.ext hb er
  have := Ext.size_le er
  repeat (first | (refine Z0 ?_; first | refine Z1 rfl ?_ | (refine Z2 ?_; first | refine Z3 rfl rfl (by decide) ?_ | refine Z4 rfl rfl (by decide) ?_ | refine Z5 rfl rfl ?_) | (refine Z6 ?_; first | refine Z7 rfl rfl ?_ | refine Z8 rfl rfl ?_) | (refine Z9 ?_; first | refine Z10 rfl (by assumption) (by rfl) ?_ | refine Z11 rfl (by assumption) ?_) | (refine Z12 ?_; first | refine Z13 (Z14 rfl (by decide) rfl) ?_ | refine Z13 (Z15 rfl (by decide) rfl) ?_) | (refine Z16 ?_; first | refine Z17 rfl ?_ | refine Z18 rfl ?_) | (refine Z19 ?_; first | refine Z20 rfl rfl (by omega) ?_ | refine Z21 rfl rfl (by omega) ?_ | refine Z22 rfl rfl (by omega) ?_ | refine Z23 rfl rfl (by omega) (by omega) ?_ | refine Z24 rfl rfl (by omega) (by omega) (by omega) ?_ | refine Z13 (Z25 rfl rfl) ?_ | refine Z13 (Z26 rfl rfl) ?_) | (refine Z27 ?_; refine Z13 (Z28 rfl (Z53 ⟨by omega, by omega⟩)) ?_) | (refine Z29 ?_; refine Z13 (Z30 rfl (by rfl) (by simp only [Z84, List.set_cons_zero, List.set_cons_succ]; rfl)) ?_) | refine Z31 ?_) | (refine Z32 ?_; first | refine Z33 ?_ | refine Z34 ?_ | refine Z35 ?_ | refine Z36 ?_ | refine Z37 ?_ | refine Z38 rfl ?_ | refine Z39 ?_ | refine Z40 ?_ | refine Z41 ?_) | (refine Z42 ?_; first | refine Z43 ?_ | refine Z44 ?_ | refine Z45 ?_ | refine Z46 ?_ | refine Z47 ?_ | refine Z48 ?_ | refine Z49 rfl (by decide) ?_ | refine Z50 rfl (by decide) ?_))
  obtain ⟨Fr, hcr, _⟩ := hxr.ces
  obtain ⟨F1, h1⟩ := hx.ces
  obtain ⟨F2, h2⟩ := (⟨Fr, hcr⟩ : ∃ F, CeS _ _ _ F)
  refine WO_call rfl (eqCellS_ret _ _ _ _ F1 F2 _ h1 h2) ?_
  rintro _ wq ⟨rfl, eq⟩
  rw [decide_eq_true rfl]
  clear h1 h2
  replace e0 := e0.trans eq
  try replace ha := Own.ext ha eq
  try replace hx := Own.ext hx eq
  try replace hg := Own.ext hg eq
  try replace hp := Blk.ext hp eq
  try replace hq := Blk.ext hq eq
  try replace hb := Blk.ext hb eq
  have := Ext.size_le eq
  repeat (first | (refine Z0 ?_; first | refine Z1 rfl ?_ | (refine Z2 ?_; first | refine Z3 rfl rfl (by decide) ?_ | refine Z4 rfl rfl (by decide) ?_ | refine Z5 rfl rfl ?_) | (refine Z6 ?_; first | refine Z7 rfl rfl ?_ | refine Z8 rfl rfl ?_) | (refine Z9 ?_; first | refine Z10 rfl (by assumption) (by rfl) ?_ | refine Z11 rfl (by assumption) ?_) | (refine Z12 ?_; first | refine Z13 (Z14 rfl (by decide) rfl) ?_ | refine Z13 (Z15 rfl (by decide) rfl) ?_) | (refine Z16 ?_; first | refine Z17 rfl ?_ | refine Z18 rfl ?_) | (refine Z19 ?_; first | refine Z20 rfl rfl (by omega) ?_ | refine Z21 rfl rfl (by omega) ?_ | refine Z22 rfl rfl (by omega) ?_ | refine Z23 rfl rfl (by omega) (by omega) ?_ | refine Z24 rfl rfl (by omega) (by omega) (by omega) ?_ | refine Z13 (Z25 rfl rfl) ?_ | refine Z13 (Z26 rfl rfl) ?_) | (refine Z27 ?_; refine Z13 (Z28 rfl (Z53 ⟨by omega, by omega⟩)) ?_) | (refine Z29 ?_; refine Z13 (Z30 rfl (by rfl) (by simp only [Z84, List.set_cons_zero, List.set_cons_succ]; rfl)) ?_) | refine Z31 ?_) | (refine Z32 ?_; first | refine Z33 ?_ | refine Z34 ?_ | refine Z35 ?_ | refine Z36 ?_ | refine Z37 ?_ | refine Z38 rfl ?_ | refine Z39 ?_ | refine Z40 ?_ | refine Z41 ?_) | (refine Z42 ?_; first | refine Z43 ?_ | refine Z44 ?_ | refine Z45 ?_ | refine Z46 ?_ | refine Z47 ?_ | refine Z48 ?_ | refine Z49 rfl (by decide) ?_ | refine Z50 rfl (by decide) ?_))
  obtain ⟨Fx, hxr, hxn, hxb⟩ := hx
  refine WO_call rfl (markCellS_ret _ _ _ l Fx 1 _ hxr hxn (by decide) (kAt_all l hn).2) ?_
  rintro _ wm ⟨rfl, _, cm⟩
  replace cm := cm.toI hxb
  have hk1 := (kAt_all l hn).1
  replace e0 := e0.chgI cm (by omega)
  try replace ha := Own.chgI ha cm (by omega)
  try replace hx := Own.chgI hx cm (by omega)
  try replace hg := Own.chgI hg cm (by omega)
  try replace hp := Blk.chgI hp cm (by omega)
  try replace hq := Blk.chgI hq cm (by omega)
  try replace hb := Blk.chgI hb cm (by omega)
  have := ChgI.size cm
  repeat' (first | (refine Z0 ?_; first | refine Z1 rfl ?_ | (refine Z2 ?_; first | refine Z3 rfl rfl (by decide) ?_ | refine Z4 rfl rfl (by decide) ?_ | refine Z5 rfl rfl ?_ | ((refine Z51 rfl rfl (fun c' hc' => ?_)); cases c' <;> (try simp only [decide_eq_true_eq, decide_eq_false_iff_not, beq_iff_eq, beq_eq_false_iff_ne, bne_iff_ne, bne_eq_false_iff_eq, ne_eq, gt_iff_lt, ge_iff_le, Int.not_lt, Int.not_le, Bool.not_eq_true', Bool.not_eq_false', Bool.not_true, Bool.not_false, reduceCtorEq, Decidable.not_not, not_true_eq_false, Bool.true_eq_false, Bool.false_eq_true] at hc') <;> (try (exfalso; omega)))) | (refine Z6 ?_; first | refine Z7 rfl rfl ?_ | refine Z8 rfl rfl ?_) | (refine Z9 ?_; first | refine Z10 rfl (by assumption) (by rfl) ?_ | refine Z11 rfl (by assumption) ?_) | (refine Z12 ?_; first | refine Z13 (Z14 rfl (by decide) rfl) ?_ | refine Z13 (Z15 rfl (by decide) rfl) ?_) | (refine Z16 ?_; first | refine Z17 rfl ?_ | refine Z18 rfl ?_) | (refine Z19 ?_; first | refine Z20 rfl rfl (by omega) ?_ | refine Z21 rfl rfl (by omega) ?_ | refine Z22 rfl rfl (by omega) ?_ | refine Z23 rfl rfl (by omega) (by omega) ?_ | refine Z24 rfl rfl (by omega) (by omega) (by omega) ?_ | refine Z13 (Z25 rfl rfl) ?_ | refine Z13 (Z26 rfl rfl) ?_) | (refine Z27 ?_; refine Z13 (Z28 rfl (Z53 ⟨by omega, by omega⟩)) ?_) | (refine Z29 ?_; refine Z13 (Z30 rfl (by rfl) (by simp only [Z84, List.set_cons_zero, List.set_cons_succ]; rfl)) ?_) | refine Z31 ?_) | (refine Z32 ?_; first | refine Z33 ?_ | refine Z34 ?_ | refine Z35 ?_ | refine Z36 ?_ | refine Z37 ?_ | refine Z38 rfl ?_ | refine Z39 ?_ | refine Z40 ?_ | refine Z41 ?_) | (refine Z42 ?_; first | refine Z43 ?_ | refine Z44 ?_ | refine Z45 ?_ | refine Z46 ?_ | refine Z47 ?_ | refine Z48 ?_ | refine Z49 rfl (by decide) ?_ | refine Z50 rfl (by decide) ?_ | ((refine Z52 rfl (fun hc' => ?_) (fun hc' => ?_)) <;> (try simp only [decide_eq_true_eq, decide_eq_false_iff_not, beq_iff_eq, beq_eq_false_iff_ne, bne_iff_ne, bne_eq_false_iff_eq, ne_eq, gt_iff_lt, ge_iff_le, Int.not_lt, Int.not_le, Bool.not_eq_true', Bool.not_eq_false', Bool.not_true, Bool.not_false, reduceCtorEq, Decidable.not_not, not_true_eq_false, Bool.true_eq_false, Bool.false_eq_true] at hc') <;> (try (exfalso; omega)))))
  obtain ⟨F1, h1⟩ := hg.ces
  obtain ⟨F2, h2⟩ := ha.ces
  refine WO_call rfl (eqCellS_ret _ _ _ _ F1 F2 _ h1 h2) ?_
  rintro _ wq ⟨rfl, eq⟩
  rw [decide_eq_true rfl]
  clear h1 h2
  replace e0 := e0.trans eq
  try replace ha := Own.ext ha eq
  try replace hx := Own.ext hx eq
  try replace hg := Own.ext hg eq
  try replace hp := Blk.ext hp eq
  try replace hq := Blk.ext hq eq
  try replace hb := Blk.ext hb eq
  have := Ext.size_le eq
  repeat' (first | (refine Z0 ?_; first | refine Z1 rfl ?_ | (refine Z2 ?_; first | refine Z3 rfl rfl (by decide) ?_ | refine Z4 rfl rfl (by decide) ?_ | refine Z5 rfl rfl ?_ | ((refine Z51 rfl rfl (fun c' hc' => ?_)); cases c' <;> (try simp only [decide_eq_true_eq, decide_eq_false_iff_not, beq_iff_eq, beq_eq_false_iff_ne, bne_iff_ne, bne_eq_false_iff_eq, ne_eq, gt_iff_lt, ge_iff_le, Int.not_lt, Int.not_le, Bool.not_eq_true', Bool.not_eq_false', Bool.not_true, Bool.not_false, reduceCtorEq, Decidable.not_not, not_true_eq_false, Bool.true_eq_false, Bool.false_eq_true] at hc') <;> (try (exfalso; omega)))) | (refine Z6 ?_; first | refine Z7 rfl rfl ?_ | refine Z8 rfl rfl ?_) | (refine Z9 ?_; first | refine Z10 rfl (by assumption) (by rfl) ?_ | refine Z11 rfl (by assumption) ?_) | (refine Z12 ?_; first | refine Z13 (Z14 rfl (by decide) rfl) ?_ | refine Z13 (Z15 rfl (by decide) rfl) ?_) | (refine Z16 ?_; first | refine Z17 rfl ?_ | refine Z18 rfl ?_) | (refine Z19 ?_; first | refine Z20 rfl rfl (by omega) ?_ | refine Z21 rfl rfl (by omega) ?_ | refine Z22 rfl rfl (by omega) ?_ | refine Z23 rfl rfl (by omega) (by omega) ?_ | refine Z24 rfl rfl (by omega) (by omega) (by omega) ?_ | refine Z13 (Z25 rfl rfl) ?_ | refine Z13 (Z26 rfl rfl) ?_) | (refine Z27 ?_; refine Z13 (Z28 rfl (Z53 ⟨by omega, by omega⟩)) ?_) | (refine Z29 ?_; refine Z13 (Z30 rfl (by rfl) (by simp only [Z84, List.set_cons_zero, List.set_cons_succ]; rfl)) ?_) | refine Z31 ?_) | (refine Z32 ?_; first | refine Z33 ?_ | refine Z34 ?_ | refine Z35 ?_ | refine Z36 ?_ | refine Z37 ?_ | refine Z38 rfl ?_ | refine Z39 ?_ | refine Z40 ?_ | refine Z41 ?_) | (refine Z42 ?_; first | refine Z43 ?_ | refine Z44 ?_ | refine Z45 ?_ | refine Z46 ?_ | refine Z47 ?_ | refine Z48 ?_ | refine Z49 rfl (by decide) ?_ | refine Z50 rfl (by decide) ?_ | ((refine Z52 rfl (fun hc' => ?_) (fun hc' => ?_)) <;> (try simp only [decide_eq_true_eq, decide_eq_false_iff_not, beq_iff_eq, beq_eq_false_iff_ne, bne_iff_ne, bne_eq_false_iff_eq, ne_eq, gt_iff_lt, ge_iff_le, Int.not_lt, Int.not_le, Bool.not_eq_true', Bool.not_eq_false', Bool.not_true, Bool.not_false, reduceCtorEq, Decidable.not_not, not_true_eq_false, Bool.true_eq_false, Bool.false_eq_true] at hc') <;> (try (exfalso; omega)))))
  obtain ⟨Fg, hgr, hgn, hgb⟩ := hg
  refine WO_call rfl (markCellS_ret _ _ _ (wrvL l x val) Fg 1 _ hgr hgn (by decide) (kAt_all (wrvL l x val) hm).2) ?_
  rintro _ wm ⟨rfl, hgr2, cm⟩
  replace cm := cm.toI hgb
  have hg : Own _ _ _ _ (markC 1 (wrvL l x val)) wm _ := ⟨Fg, hgr2, hgn, hgb⟩
  replace e0 := e0.chgI cm (by omega)
  replace ha := Own.chgI ha cm (by omega)
  try replace hp := Blk.chgI hp cm (by omega)
  try replace hb := Blk.chgI hb cm (by omega)
  have := ChgI.size cm
  repeat (first | (refine Z0 ?_; first | refine Z1 rfl ?_ | (refine Z2 ?_; first | refine Z3 rfl rfl (by decide) ?_ | refine Z4 rfl rfl (by decide) ?_ | refine Z5 rfl rfl ?_) | (refine Z6 ?_; first | refine Z7 rfl rfl ?_ | refine Z8 rfl rfl ?_) | (refine Z9 ?_; first | refine Z10 rfl (by assumption) (by rfl) ?_ | refine Z11 rfl (by assumption) ?_) | (refine Z12 ?_; first | refine Z13 (Z14 rfl (by decide) rfl) ?_ | refine Z13 (Z15 rfl (by decide) rfl) ?_) | (refine Z16 ?_; first | refine Z17 rfl ?_ | refine Z18 rfl ?_) | (refine Z19 ?_; first | refine Z20 rfl rfl (by omega) ?_ | refine Z21 rfl rfl (by omega) ?_ | refine Z22 rfl rfl (by omega) ?_ | refine Z23 rfl rfl (by omega) (by omega) ?_ | refine Z24 rfl rfl (by omega) (by omega) (by omega) ?_ | refine Z13 (Z25 rfl rfl) ?_ | refine Z13 (Z26 rfl rfl) ?_) | (refine Z27 ?_; refine Z13 (Z28 rfl (Z53 ⟨by omega, by omega⟩)) ?_) | (refine Z29 ?_; refine Z13 (Z30 rfl (by rfl) (by simp only [Z84, List.set_cons_zero, List.set_cons_succ]; rfl)) ?_) | refine Z31 ?_) | (refine Z32 ?_; first | refine Z33 ?_ | refine Z34 ?_ | refine Z35 ?_ | refine Z36 ?_ | refine Z37 ?_ | refine Z38 rfl ?_ | refine Z39 ?_ | refine Z40 ?_ | refine Z41 ?_) | (refine Z42 ?_; first | refine Z43 ?_ | refine Z44 ?_ | refine Z45 ?_ | refine Z46 ?_ | refine Z47 ?_ | refine Z48 ?_ | refine Z49 rfl (by decide) ?_ | refine Z50 rfl (by decide) ?_))
  obtain ⟨F1, h1⟩ := hg.ces
  refine WO_call rfl (heldCellS_ret _ ((wrvL l x val)) F1 1 _ h1 (by decide) (kAt_all ((wrvL l x val)) hm).2) ?_
  rintro _ wh ⟨rfl, rfl⟩
  clear h1
  have hk2 := (kAt_all (wrvL l x val) hm).1
  repeat' (first | (refine Z0 ?_; first | refine Z1 rfl ?_ | (refine Z2 ?_; first | refine Z3 rfl rfl (by decide) ?_ | refine Z4 rfl rfl (by decide) ?_ | refine Z5 rfl rfl ?_ | ((refine Z51 rfl rfl (fun c' hc' => ?_)); cases c' <;> (try simp only [decide_eq_true_eq, decide_eq_false_iff_not, beq_iff_eq, beq_eq_false_iff_ne, bne_iff_ne, bne_eq_false_iff_eq, ne_eq, gt_iff_lt, ge_iff_le, Int.not_lt, Int.not_le, Bool.not_eq_true', Bool.not_eq_false', Bool.not_true, Bool.not_false, reduceCtorEq, Decidable.not_not, not_true_eq_false, Bool.true_eq_false, Bool.false_eq_true] at hc') <;> (try (exfalso; omega)))) | (refine Z6 ?_; first | refine Z7 rfl rfl ?_ | refine Z8 rfl rfl ?_) | (refine Z9 ?_; first | refine Z10 rfl (by assumption) (by rfl) ?_ | refine Z11 rfl (by assumption) ?_) | (refine Z12 ?_; first | refine Z13 (Z14 rfl (by decide) rfl) ?_ | refine Z13 (Z15 rfl (by decide) rfl) ?_) | (refine Z16 ?_; first | refine Z17 rfl ?_ | refine Z18 rfl ?_) | (refine Z19 ?_; first | refine Z20 rfl rfl (by omega) ?_ | refine Z21 rfl rfl (by omega) ?_ | refine Z22 rfl rfl (by omega) ?_ | refine Z23 rfl rfl (by omega) (by omega) ?_ | refine Z24 rfl rfl (by omega) (by omega) (by omega) ?_ | refine Z13 (Z25 rfl rfl) ?_ | refine Z13 (Z26 rfl rfl) ?_) | (refine Z27 ?_; refine Z13 (Z28 rfl (Z53 ⟨by omega, by omega⟩)) ?_) | (refine Z29 ?_; refine Z13 (Z30 rfl (by rfl) (by simp only [Z84, List.set_cons_zero, List.set_cons_succ]; rfl)) ?_) | refine Z31 ?_) | (refine Z32 ?_; first | refine Z33 ?_ | refine Z34 ?_ | refine Z35 ?_ | refine Z36 ?_ | refine Z37 ?_ | refine Z38 rfl ?_ | refine Z39 ?_ | refine Z40 ?_ | refine Z41 ?_) | (refine Z42 ?_; first | refine Z43 ?_ | refine Z44 ?_ | refine Z45 ?_ | refine Z46 ?_ | refine Z47 ?_ | refine Z48 ?_ | refine Z49 rfl (by decide) ?_ | refine Z50 rfl (by decide) ?_ | ((refine Z52 rfl (fun hc' => ?_) (fun hc' => ?_)) <;> (try simp only [decide_eq_true_eq, decide_eq_false_iff_not, beq_iff_eq, beq_eq_false_iff_ne, bne_iff_ne, bne_eq_false_iff_eq, ne_eq, gt_iff_lt, ge_iff_le, Int.not_lt, Int.not_le, Bool.not_eq_true', Bool.not_eq_false', Bool.not_true, Bool.not_false, reduceCtorEq, Decidable.not_not, not_true_eq_false, Bool.true_eq_false, Bool.false_eq_true] at hc') <;> (try (exfalso; omega)))))
  refine W_held0E [] (fun τ w' => ∃ z0, τ = [(8, a0), (9, .int .i64 (wrvC l x val)), (11, g0), (14, .int .i64 (kAt 1 (wrvL l x val) (wrvL l x val).length)), (16, z0), (17, .int .i64 (wrvC l x val))] ∧ NewCells 58 62 (wrvL l x val) wh z0 w') (by kernel_rfl) (fun ws es hS => ?_) (fun τ wt hT => ?_)
  · first | refine Z82 0 rfl (by kernel_rfl) (by kernel_rfl) (by kernel_rfl) (by assumption) (fun w' hw' => Z56 rfl) ?_ | refine Z82 0 rfl (by kernel_rfl) (by kernel_rfl) (by kernel_rfl) (by assumption) (fun w' hw' => Z63 rfl rfl) ?_ | refine Z82 0 rfl (by kernel_rfl) (by kernel_rfl) (by kernel_rfl) (by assumption) (fun w' hw' => Z64 rfl rfl) ?_ | refine Z82 0 rfl (by kernel_rfl) (by kernel_rfl) (by kernel_rfl) (by assumption) (fun w' hw' => Z75 rfl rfl (by omega)) ?_ | refine Z82 0 rfl (by kernel_rfl) (by kernel_rfl) (by kernel_rfl) (by assumption) (fun w' hw' => Z72 rfl) ?_ | refine Z82 0 rfl (by kernel_rfl) (by kernel_rfl) (by kernel_rfl) (by assumption) (fun w' hw' => Z69 rfl rfl rfl (by omega)) ?_ | refine Z82 0 rfl (by kernel_rfl) (by kernel_rfl) (by kernel_rfl) (by assumption) (fun w' hw' => Z30 rfl (by rfl) (by simp only [Z84, List.set_cons_zero, List.set_cons_succ]; rfl)) ?_
    refine Z82 2 rfl (by kernel_rfl) (by kernel_rfl) (by kernel_rfl) (by assumption) (fun w' hw' => q_loadS (cs := [.int .i64 x.cell, .int .i64 x.tag]) rfl rfl (fun j u hu => by rw [Nat.zero_add]; exact ((hb.ext es).ext hw'.ext).cell hu)) ?_
    first | refine Z82 4 rfl (by kernel_rfl) (by kernel_rfl) (by kernel_rfl) (by assumption) (fun w' hw' => Z56 rfl) ?_ | refine Z82 4 rfl (by kernel_rfl) (by kernel_rfl) (by kernel_rfl) (by assumption) (fun w' hw' => Z63 rfl rfl) ?_ | refine Z82 4 rfl (by kernel_rfl) (by kernel_rfl) (by kernel_rfl) (by assumption) (fun w' hw' => Z64 rfl rfl) ?_ | refine Z82 4 rfl (by kernel_rfl) (by kernel_rfl) (by kernel_rfl) (by assumption) (fun w' hw' => Z75 rfl rfl (by omega)) ?_ | refine Z82 4 rfl (by kernel_rfl) (by kernel_rfl) (by kernel_rfl) (by assumption) (fun w' hw' => Z72 rfl) ?_ | refine Z82 4 rfl (by kernel_rfl) (by kernel_rfl) (by kernel_rfl) (by assumption) (fun w' hw' => Z69 rfl rfl rfl (by omega)) ?_ | refine Z82 4 rfl (by kernel_rfl) (by kernel_rfl) (by kernel_rfl) (by assumption) (fun w' hw' => Z30 rfl (by rfl) (by simp only [Z84, List.set_cons_zero, List.set_cons_succ]; rfl)) ?_
    refine WX_call 1 rfl (by kernel_rfl) rfl (toCellS_ret v l F _ (h.ext (e0.trans es)) hn) ?_
    rintro xr wr hxr
    have hS1 := hxr.2.chg []
    refine ⟨hS1, ?_⟩
    refine WX_call 3 rfl (by kernel_rfl) rfl (toPointer_ret x wr) ?_
    rintro _ wp ⟨rfl, ep⟩
    have hS2 := (hxr.2.trans ep).chg []
    refine ⟨hS2, ?_⟩
    obtain ⟨Fr, hcr, _⟩ := hxr.ces
    refine WX_call 5 rfl (by kernel_rfl) rfl (WriteCell_ret xr l Fr x val wp (hcr.ext ep) hn) ?_
    rintro _ wc ⟨z0, rfl, hA⟩
    have hS3 := ((hxr.2.trans ep).trans hA.2).chg []
    refine ⟨hS3, ?_⟩
    first | refine Z82 6 rfl (by kernel_rfl) (by kernel_rfl) (by kernel_rfl) (by assumption) (fun w' hw' => Z56 rfl) ?_ | refine Z82 6 rfl (by kernel_rfl) (by kernel_rfl) (by kernel_rfl) (by assumption) (fun w' hw' => Z63 rfl rfl) ?_ | refine Z82 6 rfl (by kernel_rfl) (by kernel_rfl) (by kernel_rfl) (by assumption) (fun w' hw' => Z64 rfl rfl) ?_ | refine Z82 6 rfl (by kernel_rfl) (by kernel_rfl) (by kernel_rfl) (by assumption) (fun w' hw' => Z75 rfl rfl (by omega)) ?_ | refine Z82 6 rfl (by kernel_rfl) (by kernel_rfl) (by kernel_rfl) (by assumption) (fun w' hw' => Z72 rfl) ?_ | refine Z82 6 rfl (by kernel_rfl) (by kernel_rfl) (by kernel_rfl) (by assumption) (fun w' hw' => Z69 rfl rfl rfl (by omega)) ?_ | refine Z82 6 rfl (by kernel_rfl) (by kernel_rfl) (by kernel_rfl) (by assumption) (fun w' hw' => Z30 rfl (by rfl) (by simp only [Z84, List.set_cons_zero, List.set_cons_succ]; rfl)) ?_
    first | refine Z82 7 rfl (by kernel_rfl) (by kernel_rfl) (by kernel_rfl) (by assumption) (fun w' hw' => Z56 rfl) ?_ | refine Z82 7 rfl (by kernel_rfl) (by kernel_rfl) (by kernel_rfl) (by assumption) (fun w' hw' => Z63 rfl rfl) ?_ | refine Z82 7 rfl (by kernel_rfl) (by kernel_rfl) (by kernel_rfl) (by assumption) (fun w' hw' => Z64 rfl rfl) ?_ | refine Z82 7 rfl (by kernel_rfl) (by kernel_rfl) (by kernel_rfl) (by assumption) (fun w' hw' => Z75 rfl rfl (by omega)) ?_ | refine Z82 7 rfl (by kernel_rfl) (by kernel_rfl) (by kernel_rfl) (by assumption) (fun w' hw' => Z72 rfl) ?_ | refine Z82 7 rfl (by kernel_rfl) (by kernel_rfl) (by kernel_rfl) (by assumption) (fun w' hw' => Z69 rfl rfl rfl (by omega)) ?_ | refine Z82 7 rfl (by kernel_rfl) (by kernel_rfl) (by kernel_rfl) (by assumption) (fun w' hw' => Z30 rfl (by rfl) (by simp only [Z84, List.set_cons_zero, List.set_cons_succ]; rfl)) ?_
    first | refine Z82 8 rfl (by kernel_rfl) (by kernel_rfl) (by kernel_rfl) (by assumption) (fun w' hw' => Z56 rfl) ?_ | refine Z82 8 rfl (by kernel_rfl) (by kernel_rfl) (by kernel_rfl) (by assumption) (fun w' hw' => Z63 rfl rfl) ?_ | refine Z82 8 rfl (by kernel_rfl) (by kernel_rfl) (by kernel_rfl) (by assumption) (fun w' hw' => Z64 rfl rfl) ?_ | refine Z82 8 rfl (by kernel_rfl) (by kernel_rfl) (by kernel_rfl) (by assumption) (fun w' hw' => Z75 rfl rfl (by omega)) ?_ | refine Z82 8 rfl (by kernel_rfl) (by kernel_rfl) (by kernel_rfl) (by assumption) (fun w' hw' => Z72 rfl) ?_ | refine Z82 8 rfl (by kernel_rfl) (by kernel_rfl) (by kernel_rfl) (by assumption) (fun w' hw' => Z69 rfl rfl rfl (by omega)) ?_ | refine Z82 8 rfl (by kernel_rfl) (by kernel_rfl) (by kernel_rfl) (by assumption) (fun w' hw' => Z30 rfl (by rfl) (by simp only [Z84, List.set_cons_zero, List.set_cons_succ]; rfl)) ?_
    first | refine Z82 9 rfl (by kernel_rfl) (by kernel_rfl) (by kernel_rfl) (by assumption) (fun w' hw' => Z56 rfl) ?_ | refine Z82 9 rfl (by kernel_rfl) (by kernel_rfl) (by kernel_rfl) (by assumption) (fun w' hw' => Z63 rfl rfl) ?_ | refine Z82 9 rfl (by kernel_rfl) (by kernel_rfl) (by kernel_rfl) (by assumption) (fun w' hw' => Z64 rfl rfl) ?_ | refine Z82 9 rfl (by kernel_rfl) (by kernel_rfl) (by kernel_rfl) (by assumption) (fun w' hw' => Z75 rfl rfl (by omega)) ?_ | refine Z82 9 rfl (by kernel_rfl) (by kernel_rfl) (by kernel_rfl) (by assumption) (fun w' hw' => Z72 rfl) ?_ | refine Z82 9 rfl (by kernel_rfl) (by kernel_rfl) (by kernel_rfl) (by assumption) (fun w' hw' => Z69 rfl rfl rfl (by omega)) ?_ | refine Z82 9 rfl (by kernel_rfl) (by kernel_rfl) (by kernel_rfl) (by assumption) (fun w' hw' => Z30 rfl (by rfl) (by simp only [Z84, List.set_cons_zero, List.set_cons_succ]; rfl)) ?_
    first | refine Z82 10 rfl (by kernel_rfl) (by kernel_rfl) (by kernel_rfl) (by assumption) (fun w' hw' => Z56 rfl) ?_ | refine Z82 10 rfl (by kernel_rfl) (by kernel_rfl) (by kernel_rfl) (by assumption) (fun w' hw' => Z63 rfl rfl) ?_ | refine Z82 10 rfl (by kernel_rfl) (by kernel_rfl) (by kernel_rfl) (by assumption) (fun w' hw' => Z64 rfl rfl) ?_ | refine Z82 10 rfl (by kernel_rfl) (by kernel_rfl) (by kernel_rfl) (by assumption) (fun w' hw' => Z75 rfl rfl (by omega)) ?_ | refine Z82 10 rfl (by kernel_rfl) (by kernel_rfl) (by kernel_rfl) (by assumption) (fun w' hw' => Z72 rfl) ?_ | refine Z82 10 rfl (by kernel_rfl) (by kernel_rfl) (by kernel_rfl) (by assumption) (fun w' hw' => Z69 rfl rfl rfl (by omega)) ?_ | refine Z82 10 rfl (by kernel_rfl) (by kernel_rfl) (by kernel_rfl) (by assumption) (fun w' hw' => Z30 rfl (by rfl) (by simp only [Z84, List.set_cons_zero, List.set_cons_succ]; rfl)) ?_
    exact WH_doneE (τ := [(8, a0), (9, .int .i64 (wrvC l x val)), (11, g0), (14, .int .i64 (kAt 1 (wrvL l x val) (wrvL l x val).length)), (16, z0), (17, .int .i64 (wrvC l x val))]) (by kernel_rfl) (by repeat (first | exact True.intro | refine And.intro rfl ?_)) ⟨z0, rfl, hA.mono ((es.trans hxr.2).trans ep)⟩
  obtain ⟨h0, rfl, hA⟩ := hT
  have ea := hA.2
  replace e0 := e0.trans ea
  try replace ha := Own.ext ha ea
  try replace hx := Own.ext hx ea
  try replace hg := Own.ext hg ea
  try replace hp := Blk.ext hp ea
  try replace hq := Blk.ext hq ea
  try replace hb := Blk.ext hb ea
  have := Ext.size_le ea
  have hh := hA.own
  repeat (first | (refine Z0 ?_; first | refine Z1 rfl ?_ | (refine Z2 ?_; first | refine Z3 rfl rfl (by decide) ?_ | refine Z4 rfl rfl (by decide) ?_ | refine Z5 rfl rfl ?_) | (refine Z6 ?_; first | refine Z7 rfl rfl ?_ | refine Z8 rfl rfl ?_) | (refine Z9 ?_; first | refine Z10 rfl (by assumption) (by rfl) ?_ | refine Z11 rfl (by assumption) ?_) | (refine Z12 ?_; first | refine Z13 (Z14 rfl (by decide) rfl) ?_ | refine Z13 (Z15 rfl (by decide) rfl) ?_) | (refine Z16 ?_; first | refine Z17 rfl ?_ | refine Z18 rfl ?_) | (refine Z19 ?_; first | refine Z20 rfl rfl (by omega) ?_ | refine Z21 rfl rfl (by omega) ?_ | refine Z22 rfl rfl (by omega) ?_ | refine Z23 rfl rfl (by omega) (by omega) ?_ | refine Z24 rfl rfl (by omega) (by omega) (by omega) ?_ | refine Z13 (Z25 rfl rfl) ?_ | refine Z13 (Z26 rfl rfl) ?_) | (refine Z27 ?_; refine Z13 (Z28 rfl (Z53 ⟨by omega, by omega⟩)) ?_) | (refine Z29 ?_; refine Z13 (Z30 rfl (by rfl) (by simp only [Z84, List.set_cons_zero, List.set_cons_succ]; rfl)) ?_) | refine Z31 ?_) | (refine Z32 ?_; first | refine Z33 ?_ | refine Z34 ?_ | refine Z35 ?_ | refine Z36 ?_ | refine Z37 ?_ | refine Z38 rfl ?_ | refine Z39 ?_ | refine Z40 ?_ | refine Z41 ?_) | (refine Z42 ?_; first | refine Z43 ?_ | refine Z44 ?_ | refine Z45 ?_ | refine Z46 ?_ | refine Z47 ?_ | refine Z48 ?_ | refine Z49 rfl (by decide) ?_ | refine Z50 rfl (by decide) ?_))
  obtain ⟨F1, h1⟩ := hh.ces
  obtain ⟨F2, h2⟩ := ha.ces
  refine WO_call rfl (eqCellS_ret _ _ _ _ F1 F2 _ h1 h2) ?_
  rintro _ wq ⟨rfl, eq⟩
  rw [decide_eq_true rfl]
  clear h1 h2
  replace e0 := e0.trans eq
  try replace ha := Own.ext ha eq
  try replace hx := Own.ext hx eq
  try replace hg := Own.ext hg eq
  try replace hp := Blk.ext hp eq
  try replace hq := Blk.ext hq eq
  try replace hb := Blk.ext hb eq
  have := Ext.size_le eq
  repeat' (first | (refine Z0 ?_; first | refine Z1 rfl ?_ | (refine Z2 ?_; first | refine Z3 rfl rfl (by decide) ?_ | refine Z4 rfl rfl (by decide) ?_ | refine Z5 rfl rfl ?_ | ((refine Z51 rfl rfl (fun c' hc' => ?_)); cases c' <;> (try simp only [decide_eq_true_eq, decide_eq_false_iff_not, beq_iff_eq, beq_eq_false_iff_ne, bne_iff_ne, bne_eq_false_iff_eq, ne_eq, gt_iff_lt, ge_iff_le, Int.not_lt, Int.not_le, Bool.not_eq_true', Bool.not_eq_false', Bool.not_true, Bool.not_false, reduceCtorEq, Decidable.not_not, not_true_eq_false, Bool.true_eq_false, Bool.false_eq_true] at hc') <;> (try (exfalso; omega)))) | (refine Z6 ?_; first | refine Z7 rfl rfl ?_ | refine Z8 rfl rfl ?_) | (refine Z9 ?_; first | refine Z10 rfl (by assumption) (by rfl) ?_ | refine Z11 rfl (by assumption) ?_) | (refine Z12 ?_; first | refine Z13 (Z14 rfl (by decide) rfl) ?_ | refine Z13 (Z15 rfl (by decide) rfl) ?_) | (refine Z16 ?_; first | refine Z17 rfl ?_ | refine Z18 rfl ?_) | (refine Z19 ?_; first | refine Z20 rfl rfl (by omega) ?_ | refine Z21 rfl rfl (by omega) ?_ | refine Z22 rfl rfl (by omega) ?_ | refine Z23 rfl rfl (by omega) (by omega) ?_ | refine Z24 rfl rfl (by omega) (by omega) (by omega) ?_ | refine Z13 (Z25 rfl rfl) ?_ | refine Z13 (Z26 rfl rfl) ?_) | (refine Z27 ?_; refine Z13 (Z28 rfl (Z53 ⟨by omega, by omega⟩)) ?_) | (refine Z29 ?_; refine Z13 (Z30 rfl (by rfl) (by simp only [Z84, List.set_cons_zero, List.set_cons_succ]; rfl)) ?_) | refine Z31 ?_) | (refine Z32 ?_; first | refine Z33 ?_ | refine Z34 ?_ | refine Z35 ?_ | refine Z36 ?_ | refine Z37 ?_ | refine Z38 rfl ?_ | refine Z39 ?_ | refine Z40 ?_ | refine Z41 ?_) | (refine Z42 ?_; first | refine Z43 ?_ | refine Z44 ?_ | refine Z45 ?_ | refine Z46 ?_ | refine Z47 ?_ | refine Z48 ?_ | refine Z49 rfl (by decide) ?_ | refine Z50 rfl (by decide) ?_ | ((refine Z52 rfl (fun hc' => ?_) (fun hc' => ?_)) <;> (try simp only [decide_eq_true_eq, decide_eq_false_iff_not, beq_iff_eq, beq_eq_false_iff_ne, bne_iff_ne, bne_eq_false_iff_eq, ne_eq, gt_iff_lt, ge_iff_le, Int.not_lt, Int.not_le, Bool.not_eq_true', Bool.not_eq_false', Bool.not_true, Bool.not_false, reduceCtorEq, Decidable.not_not, not_true_eq_false, Bool.true_eq_false, Bool.false_eq_true] at hc') <;> (try (exfalso; omega)))))
  obtain ⟨F1, h1⟩ := hg.ces
  refine WO_call rfl (heldCellS_ret _ ((wrvL l x val)) F1 1 _ h1 (by decide) (kAt_all ((wrvL l x val)) hm).2) ?_
  rintro _ wh ⟨rfl, rfl⟩
  clear h1
  repeat' (first | (refine Z0 ?_; first | refine Z1 rfl ?_ | (refine Z2 ?_; first | refine Z3 rfl rfl (by decide) ?_ | refine Z4 rfl rfl (by decide) ?_ | refine Z5 rfl rfl ?_ | ((refine Z51 rfl rfl (fun c' hc' => ?_)); cases c' <;> (try simp only [decide_eq_true_eq, decide_eq_false_iff_not, beq_iff_eq, beq_eq_false_iff_ne, bne_iff_ne, bne_eq_false_iff_eq, ne_eq, gt_iff_lt, ge_iff_le, Int.not_lt, Int.not_le, Bool.not_eq_true', Bool.not_eq_false', Bool.not_true, Bool.not_false, reduceCtorEq, Decidable.not_not, not_true_eq_false, Bool.true_eq_false, Bool.false_eq_true] at hc') <;> (try (exfalso; omega)))) | (refine Z6 ?_; first | refine Z7 rfl rfl ?_ | refine Z8 rfl rfl ?_) | (refine Z9 ?_; first | refine Z10 rfl (by assumption) (by rfl) ?_ | refine Z11 rfl (by assumption) ?_) | (refine Z12 ?_; first | refine Z13 (Z14 rfl (by decide) rfl) ?_ | refine Z13 (Z15 rfl (by decide) rfl) ?_) | (refine Z16 ?_; first | refine Z17 rfl ?_ | refine Z18 rfl ?_) | (refine Z19 ?_; first | refine Z20 rfl rfl (by omega) ?_ | refine Z21 rfl rfl (by omega) ?_ | refine Z22 rfl rfl (by omega) ?_ | refine Z23 rfl rfl (by omega) (by omega) ?_ | refine Z24 rfl rfl (by omega) (by omega) (by omega) ?_ | refine Z13 (Z25 rfl rfl) ?_ | refine Z13 (Z26 rfl rfl) ?_) | (refine Z27 ?_; refine Z13 (Z28 rfl (Z53 ⟨by omega, by omega⟩)) ?_) | (refine Z29 ?_; refine Z13 (Z30 rfl (by rfl) (by simp only [Z84, List.set_cons_zero, List.set_cons_succ]; rfl)) ?_) | refine Z31 ?_) | (refine Z32 ?_; first | refine Z33 ?_ | refine Z34 ?_ | refine Z35 ?_ | refine Z36 ?_ | refine Z37 ?_ | refine Z38 rfl ?_ | refine Z39 ?_ | refine Z40 ?_ | refine Z41 ?_) | (refine Z42 ?_; first | refine Z43 ?_ | refine Z44 ?_ | refine Z45 ?_ | refine Z46 ?_ | refine Z47 ?_ | refine Z48 ?_ | refine Z49 rfl (by decide) ?_ | refine Z50 rfl (by decide) ?_ | ((refine Z52 rfl (fun hc' => ?_) (fun hc' => ?_)) <;> (try simp only [decide_eq_true_eq, decide_eq_false_iff_not, beq_iff_eq, beq_eq_false_iff_ne, bne_iff_ne, bne_eq_false_iff_eq, ne_eq, gt_iff_lt, ge_iff_le, Int.not_lt, Int.not_le, Bool.not_eq_true', Bool.not_eq_false', Bool.not_true, Bool.not_false, reduceCtorEq, Decidable.not_not, not_true_eq_false, Bool.true_eq_false, Bool.false_eq_true] at hc') <;> (try (exfalso; omega)))))
  exact at_ret1 rfl rfl ⟨rfl, e0⟩
end Go.Proofs.Ytginfkgogickcaa
