/-
  What is proved here: the laws WriteCell and NewCell on cells; parts of lists of cells.
-/
import Derived.Test.YtmmhoihebbhakaaLawCA
namespace Go.Proofs.Ytmmhoihebbhakaa
set_option linter.unusedVariables false
set_option linter.unusedSimpArgs false
set_option linter.unnecessarySimpa false
open Go.RowKit

theorem csC_take {w : World} : ∀ (k : Nat) (l : List Ce) (b o : Nat) (F : List Nat), CsAt w (encC l) b o F → ∃ F', CsAt w (encC (l.take k)) b o F'
  | 0, _, _, _, _, _ => ⟨[], rfl⟩
  | _ + 1, [], _, _, _, _ => ⟨[], rfl⟩
  | k + 1, c :: r, b, o, F, ⟨h1, h2, h3, vs, F1, F2, e, h4, hs, hr⟩ => by
    obtain ⟨F', h⟩ := csC_take k r _ _ _ hr
    exact ⟨F1 ++ F', h1, h2, h3, vs, F1, F', rfl, h4, hs, h⟩
theorem csC_drop {w : World} : ∀ (k : Nat) (l : List Ce) (b o : Nat) (F : List Nat), k ≤ l.length → CsAt w (encC l) b o F → ∃ F', CsAt w (encC (l.drop k)) b (o + k * 4) F'
  | 0, _, _, _, F, _, h => ⟨F, by rw [Nat.zero_mul, Nat.add_zero]; exact h⟩
  | k + 1, [], _, _, _, hk, _ => by simp at hk
  | k + 1, c :: r, b, o, F, hk, ⟨h1, h2, h3, vs, F1, F2, e, h4, hs, hr⟩ => by
    obtain ⟨F', h'⟩ := csC_drop k r b _ F2 (by simpa using hk) hr
    exact ⟨F', by rw [show o + (k + 1) * 4 = o + 1 + 1 + 1 + 1 + k * 4 from by omega]; exact h'⟩
theorem CeS.take_ {w : World} {A : Option Addr} {m c : Nat} {l : List Ce} {F : List Nat} (h : CeS w (.slice A m c) l F) (k : Nat) (hk : k ≤ l.length) : ∃ F', CeS w (.slice A k c) (l.take k) F' := by
  obtain ⟨A', c', e, ⟨hm, hmc⟩, hs⟩ := h
  cases e
  have hl : (l.take k).length = k := by simp; omega
  rcases hs with ⟨h0, _⟩ | ⟨b, o, F', hA, hF, hs⟩
  · exact ⟨[], A, c, by rw [hl], ⟨by omega, by omega⟩, .inl ⟨by omega, rfl⟩⟩
  · obtain ⟨F2, h2⟩ := csC_take k l b o F' hs
    exact ⟨_, A, c, by rw [hl], ⟨by omega, by omega⟩, .inr ⟨b, o, F2, hA, rfl, h2⟩⟩
theorem CeS.drop_ {w : World} {A : Option Addr} {m c : Nat} {l : List Ce} {F : List Nat} (h : CeS w (.slice A m c) l F) (k : Nat) (hk : k < l.length) : ∃ F', CeS w (.slice (if c = k then A else A.map (·.add (k * 4))) (l.length - k) (c - k)) (l.drop k) F' := by
  obtain ⟨A', c', e, ⟨hm, hmc⟩, hs⟩ := h
  cases e
  have hl : (l.drop k).length = l.length - k := by simp
  rcases hs with ⟨h1, _⟩ | ⟨b, o, F', hA, hF, hs⟩
  · omega
  · obtain ⟨F2, h2⟩ := csC_drop k l b o F' (by omega) hs
    subst hA
    refine ⟨_, _, c - k, by rw [hl], ⟨by omega, by omega⟩, .inr ⟨b, o + k * 4, F2, ?_, rfl, h2⟩⟩
    rw [if_neg (by omega)]
    simp [add_some]
theorem CeS.mid_ {w : World} {A : Option Addr} {m c : Nat} {l : List Ce} {F : List Nat} (h : CeS w (.slice A m c) l F) {i : Nat} (hi : i < l.length) : ∃ F', CeS w (.slice (if c = i then A else A.map (·.add (i * 4))) (i + 1 - i) (c - i)) [l[i]] F' := by
  obtain ⟨F1, h1⟩ := h.drop_ i hi
  obtain ⟨F2, h2⟩ := h1.take_ 1 (by simp; omega)
  refine ⟨F2, ?_⟩
  rw [show i + 1 - i = 1 from by omega]
  have : (l.drop i).take 1 = [l[i]] := by rw [List.drop_eq_getElem_cons hi]; rfl
  rwa [this] at h2
section
variable {P : Program} {σ : Env} {w : World} {d : Nat} {ty : TypeId} {pos : String} {af : Array Edge} {x y z : Operand}
/-- s[l:h] of a slice. -/
theorem q_slMidC {g : Option (Nat × Bool)} {t e k len cap l h : Nat} {A : Option Addr} {i j : Int} [TSl P t e k] (hx : ev σ x = some (.slice A len cap)) (hy : ev σ y = some (.int .i64 i)) (hz : ev σ z = some (.int .i64 j)) (hi : i = (l : Int)) (hj : j = (h : Int)) (hl : l ≤ h) (hh : h ≤ cap) :
    DoesQ P ⟨some d, .slice t x (some y) (some z) none, ty, pos, af, g⟩ σ w (.slice (if cap = l then A else A.map (·.add (l * k))) (h - l) (cap - l)) := ⟨fun w2 he => ⟨fun m c hf => by
  subst hi; subst hj
  have h1 : (l : Int) ≤ (h : Int) := by omega
  have h2 : ¬ h < l := by omega
  have h3 : (h : Int) ≤ (cap : Int) := by omega
  have h4 : ¬ cap < h := by omega
  simp [execOp, fits_ev hf hx, fits_ev hf hy, fits_ev hf hz, Instr.sliceAt, Instr.slice, run_underlying (TSl.und (P := P) (t := t) (e := e) (k := k)), Instr.sliceBounds, Instr.sliceBound, asIntOf, h1, h2, h3, h4, hl, hh, TSl.run_sizeOf (P := P) (t := t) (e := e) (k := k) inferInstance]⟩⟩
end
theorem FnWriteCell_ret {v : Value} {w : World} (hd : ByD w v) : Ret Try.prog 10 [v] w fun r w' => r = .bool true ∧ Ext w w' := by
  have hd0 := hd
  obtain ⟨A0, n0, c0, rfl, _, hn0, _⟩ := hd0
  refine enter Try.func10 rfl Try.ntmps10 rfl rfl ?_
  repeat' (first | (refine Z0 ?_; first | refine Z1 rfl ?_ | (refine Z2 ?_; first | refine Z3 rfl rfl (by decide) ?_ | refine Z4 rfl rfl (by decide) ?_ | refine Z5 rfl rfl ?_ | ((refine Z51 rfl rfl (fun c' hc' => ?_)); cases c' <;> (try simp only [decide_eq_true_eq, decide_eq_false_iff_not, beq_iff_eq, beq_eq_false_iff_ne, bne_iff_ne, bne_eq_false_iff_eq, ne_eq, gt_iff_lt, ge_iff_le, Int.not_lt, Int.not_le, Bool.not_eq_true', Bool.not_eq_false', Bool.not_true, Bool.not_false, reduceCtorEq, Decidable.not_not, not_true_eq_false, Bool.true_eq_false, Bool.false_eq_true] at hc') <;> (try (exfalso; omega)))) | (refine Z6 ?_; first | refine Z7 rfl rfl ?_ | refine Z8 rfl rfl ?_) | (refine Z9 ?_; first | refine Z10 rfl (by assumption) (by rfl) ?_ | refine Z11 rfl (by assumption) ?_) | (refine Z12 ?_; first | refine Z13 (Z14 rfl (by decide) rfl) ?_ | refine Z13 (Z15 rfl (by decide) rfl) ?_) | (refine Z16 ?_; first | refine Z17 rfl ?_ | refine Z18 rfl ?_) | (refine Z19 ?_; first | refine Z20 rfl rfl (by omega) ?_ | refine Z21 rfl rfl (by omega) ?_ | refine Z22 rfl rfl (by omega) ?_ | refine Z23 rfl rfl (by omega) (by omega) ?_ | refine Z24 rfl rfl (by omega) (by omega) (by omega) ?_ | refine Z13 (Z25 rfl rfl) ?_ | refine Z13 (Z26 rfl rfl) ?_) | (refine Z27 ?_; refine Z13 (Z28 rfl (Z53 ⟨by omega, by omega⟩)) ?_) | (refine Z29 ?_; refine Z13 (Z30 rfl (by rfl) (by simp only [Z84, List.set_cons_zero, List.set_cons_succ]; rfl)) ?_) | refine Z31 ?_) | (refine Z32 ?_; first | refine Z33 ?_ | refine Z34 ?_ | refine Z35 ?_ | refine Z36 ?_ | refine Z37 ?_ | refine Z38 rfl ?_ | refine Z39 ?_ | refine Z40 ?_ | refine Z41 ?_) | (refine Z42 ?_; first | refine Z43 ?_ | refine Z44 ?_ | refine Z45 ?_ | refine Z46 ?_ | refine Z47 ?_ | refine Z48 ?_ | refine Z49 rfl (by decide) ?_ | refine Z50 rfl (by decide) ?_ | ((refine Z52 rfl (fun hc' => ?_) (fun hc' => ?_)) <;> (try simp only [decide_eq_true_eq, decide_eq_false_iff_not, beq_iff_eq, beq_eq_false_iff_ne, bne_iff_ne, bne_eq_false_iff_eq, ne_eq, gt_iff_lt, ge_iff_le, Int.not_lt, Int.not_le, Bool.not_eq_true', Bool.not_eq_false', Bool.not_true, Bool.not_false, reduceCtorEq, Decidable.not_not, not_true_eq_false, Bool.true_eq_false, Bool.false_eq_true] at hc') <;> (try (exfalso; omega)))))
  any_goals (exact at_ret1 rfl rfl ⟨rfl, Ext.refl _⟩)
  refine WO_call rfl (DrawWriteCell_ret _ w hd) ?_
  rintro _ w1 ⟨vm, x, val, rfl, hval, ⟨m, Fm, hm, hms, _⟩, e0⟩
  repeat (first | (refine Z0 ?_; first | refine Z1 rfl ?_ | (refine Z2 ?_; first | refine Z3 rfl rfl (by decide) ?_ | refine Z4 rfl rfl (by decide) ?_ | refine Z5 rfl rfl ?_) | (refine Z6 ?_; first | refine Z7 rfl rfl ?_ | refine Z8 rfl rfl ?_) | (refine Z9 ?_; first | refine Z10 rfl (by assumption) (by rfl) ?_ | refine Z11 rfl (by assumption) ?_) | (refine Z12 ?_; first | refine Z13 (Z14 rfl (by decide) rfl) ?_ | refine Z13 (Z15 rfl (by decide) rfl) ?_) | (refine Z16 ?_; first | refine Z17 rfl ?_ | refine Z18 rfl ?_) | (refine Z19 ?_; first | refine Z20 rfl rfl (by omega) ?_ | refine Z21 rfl rfl (by omega) ?_ | refine Z22 rfl rfl (by omega) ?_ | refine Z23 rfl rfl (by omega) (by omega) ?_ | refine Z24 rfl rfl (by omega) (by omega) (by omega) ?_ | refine Z13 (Z25 rfl rfl) ?_ | refine Z13 (Z26 rfl rfl) ?_) | (refine Z27 ?_; refine Z13 (Z28 rfl (Z53 ⟨by omega, by omega⟩)) ?_) | (refine Z29 ?_; refine Z13 (Z30 rfl (by rfl) (by simp only [Z84, List.set_cons_zero, List.set_cons_succ]; rfl)) ?_) | refine Z31 ?_) | (refine Z32 ?_; first | refine Z33 ?_ | refine Z34 ?_ | refine Z35 ?_ | refine Z36 ?_ | refine Z37 ?_ | refine Z38 rfl ?_ | refine Z39 ?_ | refine Z40 ?_ | refine Z41 ?_) | (refine Z42 ?_; first | refine Z43 ?_ | refine Z44 ?_ | refine Z45 ?_ | refine Z46 ?_ | refine Z47 ?_ | refine Z48 ?_ | refine Z49 rfl (by decide) ?_ | refine Z50 rfl (by decide) ?_))
  refine WO_alloc fun wa ha0 ea za => ?_
  repeat (first | (refine Z0 ?_; first | refine Z1 rfl ?_ | (refine Z2 ?_; first | refine Z3 rfl rfl (by decide) ?_ | refine Z4 rfl rfl (by decide) ?_ | refine Z5 rfl rfl ?_) | (refine Z6 ?_; first | refine Z7 rfl rfl ?_ | refine Z8 rfl rfl ?_) | (refine Z9 ?_; first | refine Z10 rfl (by assumption) (by rfl) ?_ | refine Z11 rfl (by assumption) ?_) | (refine Z12 ?_; first | refine Z13 (Z14 rfl (by decide) rfl) ?_ | refine Z13 (Z15 rfl (by decide) rfl) ?_) | (refine Z16 ?_; first | refine Z17 rfl ?_ | refine Z18 rfl ?_) | (refine Z19 ?_; first | refine Z20 rfl rfl (by omega) ?_ | refine Z21 rfl rfl (by omega) ?_ | refine Z22 rfl rfl (by omega) ?_ | refine Z23 rfl rfl (by omega) (by omega) ?_ | refine Z24 rfl rfl (by omega) (by omega) (by omega) ?_ | refine Z13 (Z25 rfl rfl) ?_ | refine Z13 (Z26 rfl rfl) ?_) | (refine Z27 ?_; refine Z13 (Z28 rfl (Z53 ⟨by omega, by omega⟩)) ?_) | (refine Z29 ?_; refine Z13 (Z30 rfl (by rfl) (by simp only [Z84, List.set_cons_zero, List.set_cons_succ]; rfl)) ?_) | refine Z31 ?_) | (refine Z32 ?_; first | refine Z33 ?_ | refine Z34 ?_ | refine Z35 ?_ | refine Z36 ?_ | refine Z37 ?_ | refine Z38 rfl ?_ | refine Z39 ?_ | refine Z40 ?_ | refine Z41 ?_) | (refine Z42 ?_; first | refine Z43 ?_ | refine Z44 ?_ | refine Z45 ?_ | refine Z46 ?_ | refine Z47 ?_ | refine Z48 ?_ | refine Z49 rfl (by decide) ?_ | refine Z50 rfl (by decide) ?_))
  refine WO_storeS (k := 2) (vs := [.int .i64 (x).cell, .int .i64 (x).tag]) rfl rfl rfl (by intro v hv; simp at hv; rcases hv with rfl | rfl <;> rfl) ha0 (by decide) fun wb hb0 ob => ?_
  replace hb0 : Blk wb _ [.int .i64 (x).cell, .int .i64 (x).tag] _ := hb0
  have eb := Ext.only ea ob (Nat.le_refl _)
  try replace hx := Blk.ext hx eb
  try replace hy := Blk.ext hy eb
  try replace hwy := Blk.ext hwy eb
  try replace hz := Blk.ext hz eb
  try replace hm := CeS.ext hm eb
  try replace hn := CeS.ext hn eb
  try replace hwn := CeS.ext hwn eb
  try replace hp := CeS.ext hp eb
  try replace ha := CeS.ext ha eb
  try replace hb := CeS.ext hb eb
  try replace e0 := Ext.trans e0 eb
  clear ha0 ea za ob
  have hx := hb0
  clear hb0
  repeat (first | (refine Z0 ?_; first | refine Z1 rfl ?_ | (refine Z2 ?_; first | refine Z3 rfl rfl (by decide) ?_ | refine Z4 rfl rfl (by decide) ?_ | refine Z5 rfl rfl ?_) | (refine Z6 ?_; first | refine Z7 rfl rfl ?_ | refine Z8 rfl rfl ?_) | (refine Z9 ?_; first | refine Z10 rfl (by assumption) (by rfl) ?_ | refine Z11 rfl (by assumption) ?_) | (refine Z12 ?_; first | refine Z13 (Z14 rfl (by decide) rfl) ?_ | refine Z13 (Z15 rfl (by decide) rfl) ?_) | (refine Z16 ?_; first | refine Z17 rfl ?_ | refine Z18 rfl ?_) | (refine Z19 ?_; first | refine Z20 rfl rfl (by omega) ?_ | refine Z21 rfl rfl (by omega) ?_ | refine Z22 rfl rfl (by omega) ?_ | refine Z23 rfl rfl (by omega) (by omega) ?_ | refine Z24 rfl rfl (by omega) (by omega) (by omega) ?_ | refine Z13 (Z25 rfl rfl) ?_ | refine Z13 (Z26 rfl rfl) ?_) | (refine Z27 ?_; refine Z13 (Z28 rfl (Z53 ⟨by omega, by omega⟩)) ?_) | (refine Z29 ?_; refine Z13 (Z30 rfl (by rfl) (by simp only [Z84, List.set_cons_zero, List.set_cons_succ]; rfl)) ?_) | refine Z31 ?_) | (refine Z32 ?_; first | refine Z33 ?_ | refine Z34 ?_ | refine Z35 ?_ | refine Z36 ?_ | refine Z37 ?_ | refine Z38 rfl ?_ | refine Z39 ?_ | refine Z40 ?_ | refine Z41 ?_) | (refine Z42 ?_; first | refine Z43 ?_ | refine Z44 ?_ | refine Z45 ?_ | refine Z46 ?_ | refine Z47 ?_ | refine Z48 ?_ | refine Z49 rfl (by decide) ?_ | refine Z50 rfl (by decide) ?_))
  refine WO_loadSB rfl hx rfl ?_
  repeat (first | (refine Z0 ?_; first | refine Z1 rfl ?_ | (refine Z2 ?_; first | refine Z3 rfl rfl (by decide) ?_ | refine Z4 rfl rfl (by decide) ?_ | refine Z5 rfl rfl ?_) | (refine Z6 ?_; first | refine Z7 rfl rfl ?_ | refine Z8 rfl rfl ?_) | (refine Z9 ?_; first | refine Z10 rfl (by assumption) (by rfl) ?_ | refine Z11 rfl (by assumption) ?_) | (refine Z12 ?_; first | refine Z13 (Z14 rfl (by decide) rfl) ?_ | refine Z13 (Z15 rfl (by decide) rfl) ?_) | (refine Z16 ?_; first | refine Z17 rfl ?_ | refine Z18 rfl ?_) | (refine Z19 ?_; first | refine Z20 rfl rfl (by omega) ?_ | refine Z21 rfl rfl (by omega) ?_ | refine Z22 rfl rfl (by omega) ?_ | refine Z23 rfl rfl (by omega) (by omega) ?_ | refine Z24 rfl rfl (by omega) (by omega) (by omega) ?_ | refine Z13 (Z25 rfl rfl) ?_ | refine Z13 (Z26 rfl rfl) ?_) | (refine Z27 ?_; refine Z13 (Z28 rfl (Z53 ⟨by omega, by omega⟩)) ?_) | (refine Z29 ?_; refine Z13 (Z30 rfl (by rfl) (by simp only [Z84, List.set_cons_zero, List.set_cons_succ]; rfl)) ?_) | refine Z31 ?_) | (refine Z32 ?_; first | refine Z33 ?_ | refine Z34 ?_ | refine Z35 ?_ | refine Z36 ?_ | refine Z37 ?_ | refine Z38 rfl ?_ | refine Z39 ?_ | refine Z40 ?_ | refine Z41 ?_) | (refine Z42 ?_; first | refine Z43 ?_ | refine Z44 ?_ | refine Z45 ?_ | refine Z46 ?_ | refine Z47 ?_ | refine Z48 ?_ | refine Z49 rfl (by decide) ?_ | refine Z50 rfl (by decide) ?_))
  refine WO_call rfl (WriteCell_ret vm m Fm x val _ hm hms) ?_
  rintro _ wn ⟨vo, rfl, hN⟩
  have eN := hN.2
  try replace hx := Blk.ext hx eN
  try replace hy := Blk.ext hy eN
  try replace hwy := Blk.ext hwy eN
  try replace hz := Blk.ext hz eN
  try replace hm := CeS.ext hm eN
  try replace hn := CeS.ext hn eN
  try replace hwn := CeS.ext hwn eN
  try replace hp := CeS.ext hp eN
  try replace ha := CeS.ext ha eN
  try replace hb := CeS.ext hb eN
  try replace e0 := Ext.trans e0 eN
  obtain ⟨FN, hn, _⟩ := hN.ces
  clear hN eN
  repeat (first | (refine Z0 ?_; first | refine Z1 rfl ?_ | (refine Z2 ?_; first | refine Z3 rfl rfl (by decide) ?_ | refine Z4 rfl rfl (by decide) ?_ | refine Z5 rfl rfl ?_) | (refine Z6 ?_; first | refine Z7 rfl rfl ?_ | refine Z8 rfl rfl ?_) | (refine Z9 ?_; first | refine Z10 rfl (by assumption) (by rfl) ?_ | refine Z11 rfl (by assumption) ?_) | (refine Z12 ?_; first | refine Z13 (Z14 rfl (by decide) rfl) ?_ | refine Z13 (Z15 rfl (by decide) rfl) ?_) | (refine Z16 ?_; first | refine Z17 rfl ?_ | refine Z18 rfl ?_) | (refine Z19 ?_; first | refine Z20 rfl rfl (by omega) ?_ | refine Z21 rfl rfl (by omega) ?_ | refine Z22 rfl rfl (by omega) ?_ | refine Z23 rfl rfl (by omega) (by omega) ?_ | refine Z24 rfl rfl (by omega) (by omega) (by omega) ?_ | refine Z13 (Z25 rfl rfl) ?_ | refine Z13 (Z26 rfl rfl) ?_) | (refine Z27 ?_; refine Z13 (Z28 rfl (Z53 ⟨by omega, by omega⟩)) ?_) | (refine Z29 ?_; refine Z13 (Z30 rfl (by rfl) (by simp only [Z84, List.set_cons_zero, List.set_cons_succ]; rfl)) ?_) | refine Z31 ?_) | (refine Z32 ?_; first | refine Z33 ?_ | refine Z34 ?_ | refine Z35 ?_ | refine Z36 ?_ | refine Z37 ?_ | refine Z38 rfl ?_ | refine Z39 ?_ | refine Z40 ?_ | refine Z41 ?_) | (refine Z42 ?_; first | refine Z43 ?_ | refine Z44 ?_ | refine Z45 ?_ | refine Z46 ?_ | refine Z47 ?_ | refine Z48 ?_ | refine Z49 rfl (by decide) ?_ | refine Z50 rfl (by decide) ?_))
  refine WO_loadSB rfl hx rfl ?_
  repeat (first | (refine Z0 ?_; first | refine Z1 rfl ?_ | (refine Z2 ?_; first | refine Z3 rfl rfl (by decide) ?_ | refine Z4 rfl rfl (by decide) ?_ | refine Z5 rfl rfl ?_) | (refine Z6 ?_; first | refine Z7 rfl rfl ?_ | refine Z8 rfl rfl ?_) | (refine Z9 ?_; first | refine Z10 rfl (by assumption) (by rfl) ?_ | refine Z11 rfl (by assumption) ?_) | (refine Z12 ?_; first | refine Z13 (Z14 rfl (by decide) rfl) ?_ | refine Z13 (Z15 rfl (by decide) rfl) ?_) | (refine Z16 ?_; first | refine Z17 rfl ?_ | refine Z18 rfl ?_) | (refine Z19 ?_; first | refine Z20 rfl rfl (by omega) ?_ | refine Z21 rfl rfl (by omega) ?_ | refine Z22 rfl rfl (by omega) ?_ | refine Z23 rfl rfl (by omega) (by omega) ?_ | refine Z24 rfl rfl (by omega) (by omega) (by omega) ?_ | refine Z13 (Z25 rfl rfl) ?_ | refine Z13 (Z26 rfl rfl) ?_) | (refine Z27 ?_; refine Z13 (Z28 rfl (Z53 ⟨by omega, by omega⟩)) ?_) | (refine Z29 ?_; refine Z13 (Z30 rfl (by rfl) (by simp only [Z84, List.set_cons_zero, List.set_cons_succ]; rfl)) ?_) | refine Z31 ?_) | (refine Z32 ?_; first | refine Z33 ?_ | refine Z34 ?_ | refine Z35 ?_ | refine Z36 ?_ | refine Z37 ?_ | refine Z38 rfl ?_ | refine Z39 ?_ | refine Z40 ?_ | refine Z41 ?_) | (refine Z42 ?_; first | refine Z43 ?_ | refine Z44 ?_ | refine Z45 ?_ | refine Z46 ?_ | refine Z47 ?_ | refine Z48 ?_ | refine Z49 rfl (by decide) ?_ | refine Z50 rfl (by decide) ?_))
  refine WO_call rfl (sWriteCell_ret vm m Fm x val _ hm hms) ?_
  rintro _ wn ⟨vo, rfl, hN⟩
  have eN := hN.2
  try replace hx := Blk.ext hx eN
  try replace hy := Blk.ext hy eN
  try replace hwy := Blk.ext hwy eN
  try replace hz := Blk.ext hz eN
  try replace hm := CeS.ext hm eN
  try replace hn := CeS.ext hn eN
  try replace hwn := CeS.ext hwn eN
  try replace hp := CeS.ext hp eN
  try replace ha := CeS.ext ha eN
  try replace hb := CeS.ext hb eN
  try replace e0 := Ext.trans e0 eN
  obtain ⟨FN, hwn, _⟩ := hN.ces
  clear hN eN
  repeat (first | (refine Z0 ?_; first | refine Z1 rfl ?_ | (refine Z2 ?_; first | refine Z3 rfl rfl (by decide) ?_ | refine Z4 rfl rfl (by decide) ?_ | refine Z5 rfl rfl ?_) | (refine Z6 ?_; first | refine Z7 rfl rfl ?_ | refine Z8 rfl rfl ?_) | (refine Z9 ?_; first | refine Z10 rfl (by assumption) (by rfl) ?_ | refine Z11 rfl (by assumption) ?_) | (refine Z12 ?_; first | refine Z13 (Z14 rfl (by decide) rfl) ?_ | refine Z13 (Z15 rfl (by decide) rfl) ?_) | (refine Z16 ?_; first | refine Z17 rfl ?_ | refine Z18 rfl ?_) | (refine Z19 ?_; first | refine Z20 rfl rfl (by omega) ?_ | refine Z21 rfl rfl (by omega) ?_ | refine Z22 rfl rfl (by omega) ?_ | refine Z23 rfl rfl (by omega) (by omega) ?_ | refine Z24 rfl rfl (by omega) (by omega) (by omega) ?_ | refine Z13 (Z25 rfl rfl) ?_ | refine Z13 (Z26 rfl rfl) ?_) | (refine Z27 ?_; refine Z13 (Z28 rfl (Z53 ⟨by omega, by omega⟩)) ?_) | (refine Z29 ?_; refine Z13 (Z30 rfl (by rfl) (by simp only [Z84, List.set_cons_zero, List.set_cons_succ]; rfl)) ?_) | refine Z31 ?_) | (refine Z32 ?_; first | refine Z33 ?_ | refine Z34 ?_ | refine Z35 ?_ | refine Z36 ?_ | refine Z37 ?_ | refine Z38 rfl ?_ | refine Z39 ?_ | refine Z40 ?_ | refine Z41 ?_) | (refine Z42 ?_; first | refine Z43 ?_ | refine Z44 ?_ | refine Z45 ?_ | refine Z46 ?_ | refine Z47 ?_ | refine Z48 ?_ | refine Z49 rfl (by decide) ?_ | refine Z50 rfl (by decide) ?_))
  refine WO_call rfl (bcSame_ret _ _ _ _ _ _ hn hwn) ?_
  rintro _ wn ⟨rfl, eN⟩
  try replace hx := Blk.ext hx eN
  try replace hy := Blk.ext hy eN
  try replace hwy := Blk.ext hwy eN
  try replace hz := Blk.ext hz eN
  try replace hm := CeS.ext hm eN
  try replace hn := CeS.ext hn eN
  try replace hwn := CeS.ext hwn eN
  try replace hp := CeS.ext hp eN
  try replace ha := CeS.ext ha eN
  try replace hb := CeS.ext hb eN
  try replace e0 := Ext.trans e0 eN
  clear eN
  repeat (first | (refine Z0 ?_; first | refine Z1 rfl ?_ | (refine Z2 ?_; first | refine Z3 rfl rfl (by decide) ?_ | refine Z4 rfl rfl (by decide) ?_ | refine Z5 rfl rfl ?_) | (refine Z6 ?_; first | refine Z7 rfl rfl ?_ | refine Z8 rfl rfl ?_) | (refine Z9 ?_; first | refine Z10 rfl (by assumption) (by rfl) ?_ | refine Z11 rfl (by assumption) ?_) | (refine Z12 ?_; first | refine Z13 (Z14 rfl (by decide) rfl) ?_ | refine Z13 (Z15 rfl (by decide) rfl) ?_) | (refine Z16 ?_; first | refine Z17 rfl ?_ | refine Z18 rfl ?_) | (refine Z19 ?_; first | refine Z20 rfl rfl (by omega) ?_ | refine Z21 rfl rfl (by omega) ?_ | refine Z22 rfl rfl (by omega) ?_ | refine Z23 rfl rfl (by omega) (by omega) ?_ | refine Z24 rfl rfl (by omega) (by omega) (by omega) ?_ | refine Z13 (Z25 rfl rfl) ?_ | refine Z13 (Z26 rfl rfl) ?_) | (refine Z27 ?_; refine Z13 (Z28 rfl (Z53 ⟨by omega, by omega⟩)) ?_) | (refine Z29 ?_; refine Z13 (Z30 rfl (by rfl) (by simp only [Z84, List.set_cons_zero, List.set_cons_succ]; rfl)) ?_) | refine Z31 ?_) | (refine Z32 ?_; first | refine Z33 ?_ | refine Z34 ?_ | refine Z35 ?_ | refine Z36 ?_ | refine Z37 ?_ | refine Z38 rfl ?_ | refine Z39 ?_ | refine Z40 ?_ | refine Z41 ?_) | (refine Z42 ?_; first | refine Z43 ?_ | refine Z44 ?_ | refine Z45 ?_ | refine Z46 ?_ | refine Z47 ?_ | refine Z48 ?_ | refine Z49 rfl (by decide) ?_ | refine Z50 rfl (by decide) ?_))
  by_cases hk : wrvC m x val = 0
  · rw [hk]
    obtain ⟨_, i, c, k, hL, _⟩ := wrv_leads hk
    obtain ⟨t1, t2, t3⟩ := write_read hk
    obtain ⟨st, t, u1, u2, u3⟩ := write_last hk
    have hi1 : i < (wrvL m x val).length := by rw [form_len wrv_form]; exact hL.lt
    rw [cellAt_eq hi1 hL.cell] at u1
    have hn' := hn
    obtain ⟨An, cn, rfl, _⟩ := hn'.slice
    obtain ⟨bn, on, vs, Fs, rfl, -, -, -, -, z3, zs, -⟩ := ces_at hn hi1
    rw [u1] at zs
    obtain ⟨As, cs, rfl, hsl, _⟩ := zs.slice
    unfold maxI at hsl
    obtain ⟨bs, os, rfl, -, v0, v1⟩ := tgs_at zs (i := st.length) (by simp)
    simp only [List.getElem_append_right (Nat.le_refl _), Nat.sub_self, List.getElem_cons_zero] at v0 v1
    have hxc := hL.cell
    obtain ⟨xc, xt⟩ := x
    simp only at hxc hx u2
    subst hxc
    repeat' (first | (refine Z0 ?_; first | refine Z1 rfl ?_ | (refine Z2 ?_; first | refine Z3 rfl rfl (by decide) ?_ | refine Z4 rfl rfl (by decide) ?_ | refine Z5 rfl rfl ?_ | ((refine Z51 rfl rfl (fun c' hc' => ?_)); cases c' <;> (try simp only [decide_eq_true_eq, decide_eq_false_iff_not, beq_iff_eq, beq_eq_false_iff_ne, bne_iff_ne, bne_eq_false_iff_eq, ne_eq, gt_iff_lt, ge_iff_le, Int.not_lt, Int.not_le, Bool.not_eq_true', Bool.not_eq_false', Bool.not_true, Bool.not_false, reduceCtorEq, Decidable.not_not, not_true_eq_false, Bool.true_eq_false, Bool.false_eq_true] at hc') <;> (try (exfalso; omega)))) | (refine Z6 ?_; first | refine Z7 rfl rfl ?_ | refine Z8 rfl rfl ?_) | (refine Z9 ?_; first | refine Z10 rfl (by assumption) (by rfl) ?_ | refine Z11 rfl (by assumption) ?_) | (refine Z12 ?_; first | refine Z13 (Z14 rfl (by decide) rfl) ?_ | refine Z13 (Z15 rfl (by decide) rfl) ?_) | (refine Z16 ?_; first | refine Z17 rfl ?_ | refine Z18 rfl ?_) | (refine Z19 ?_; first | refine Z20 rfl rfl (by omega) ?_ | refine Z21 rfl rfl (by omega) ?_ | refine Z22 rfl rfl (by omega) ?_ | refine Z23 rfl rfl (by omega) (by omega) ?_ | refine Z24 rfl rfl (by omega) (by omega) (by omega) ?_ | refine Z13 (Z25 rfl rfl) ?_ | refine Z13 (Z26 rfl rfl) ?_) | (refine Z27 ?_; refine Z13 (Z28 rfl (Z53 ⟨by omega, by omega⟩)) ?_) | (refine Z29 ?_; refine Z13 (Z30 rfl (by rfl) (by simp only [Z84, List.set_cons_zero, List.set_cons_succ]; rfl)) ?_) | refine Z31 ?_) | (refine Z32 ?_; first | refine Z33 ?_ | refine Z34 ?_ | refine Z35 ?_ | refine Z36 ?_ | refine Z37 ?_ | refine Z38 rfl ?_ | refine Z39 ?_ | refine Z40 ?_ | refine Z41 ?_) | (refine Z42 ?_; first | refine Z43 ?_ | refine Z44 ?_ | refine Z45 ?_ | refine Z46 ?_ | refine Z47 ?_ | refine Z48 ?_ | refine Z49 rfl (by decide) ?_ | refine Z50 rfl (by decide) ?_ | ((refine Z52 rfl (fun hc' => ?_) (fun hc' => ?_)) <;> (try simp only [decide_eq_true_eq, decide_eq_false_iff_not, beq_iff_eq, beq_eq_false_iff_ne, bne_iff_ne, bne_eq_false_iff_eq, ne_eq, gt_iff_lt, ge_iff_le, Int.not_lt, Int.not_le, Bool.not_eq_true', Bool.not_eq_false', Bool.not_true, Bool.not_false, reduceCtorEq, Decidable.not_not, not_true_eq_false, Bool.true_eq_false, Bool.false_eq_true] at hc') <;> (try (exfalso; omega)))))
    refine Z83 (j := i) rfl rfl rfl hi1 ?_
    repeat (first | (refine Z0 ?_; first | refine Z1 rfl ?_ | (refine Z2 ?_; first | refine Z3 rfl rfl (by decide) ?_ | refine Z4 rfl rfl (by decide) ?_ | refine Z5 rfl rfl ?_) | (refine Z6 ?_; first | refine Z7 rfl rfl ?_ | refine Z8 rfl rfl ?_) | (refine Z9 ?_; first | refine Z10 rfl (by assumption) (by rfl) ?_ | refine Z11 rfl (by assumption) ?_) | (refine Z12 ?_; first | refine Z13 (Z14 rfl (by decide) rfl) ?_ | refine Z13 (Z15 rfl (by decide) rfl) ?_) | (refine Z16 ?_; first | refine Z17 rfl ?_ | refine Z18 rfl ?_) | (refine Z19 ?_; first | refine Z20 rfl rfl (by omega) ?_ | refine Z21 rfl rfl (by omega) ?_ | refine Z22 rfl rfl (by omega) ?_ | refine Z23 rfl rfl (by omega) (by omega) ?_ | refine Z24 rfl rfl (by omega) (by omega) (by omega) ?_ | refine Z13 (Z25 rfl rfl) ?_ | refine Z13 (Z26 rfl rfl) ?_) | (refine Z27 ?_; refine Z13 (Z28 rfl (Z53 ⟨by omega, by omega⟩)) ?_) | (refine Z29 ?_; refine Z13 (Z30 rfl (by rfl) (by simp only [Z84, List.set_cons_zero, List.set_cons_succ]; rfl)) ?_) | refine Z31 ?_) | (refine Z32 ?_; first | refine Z33 ?_ | refine Z34 ?_ | refine Z35 ?_ | refine Z36 ?_ | refine Z37 ?_ | refine Z38 rfl ?_ | refine Z39 ?_ | refine Z40 ?_ | refine Z41 ?_) | (refine Z42 ?_; first | refine Z43 ?_ | refine Z44 ?_ | refine Z45 ?_ | refine Z46 ?_ | refine Z47 ?_ | refine Z48 ?_ | refine Z49 rfl (by decide) ?_ | refine Z50 rfl (by decide) ?_))
    refine WO_loadSB rfl hx rfl ?_
    have z30 := e0
    refine WO_call rfl (ReadCell_ret _ _ _ (⟨(i : Int), xt⟩ : Pt) _ hn (cells_size t1)) ?_
    rintro _ wq ⟨vo, rfl, hN⟩
    have eN := hN.2
    try replace hx := Blk.ext hx eN
    try replace hy := Blk.ext hy eN
    try replace hwy := Blk.ext hwy eN
    try replace hz := Blk.ext hz eN
    try replace hm := CeS.ext hm eN
    try replace hn := CeS.ext hn eN
    try replace hwn := CeS.ext hwn eN
    try replace hp := CeS.ext hp eN
    try replace ha := CeS.ext ha eN
    try replace hb := CeS.ext hb eN
    try replace e0 := Ext.trans e0 eN
    replace v0 := cell_ext v0 eN
    replace v1 := cell_ext v1 eN
    clear hN eN
    repeat (first | (refine Z0 ?_; first | refine Z1 rfl ?_ | (refine Z2 ?_; first | refine Z3 rfl rfl (by decide) ?_ | refine Z4 rfl rfl (by decide) ?_ | refine Z5 rfl rfl ?_) | (refine Z6 ?_; first | refine Z7 rfl rfl ?_ | refine Z8 rfl rfl ?_) | (refine Z9 ?_; first | refine Z10 rfl (by assumption) (by rfl) ?_ | refine Z11 rfl (by assumption) ?_) | (refine Z12 ?_; first | refine Z13 (Z14 rfl (by decide) rfl) ?_ | refine Z13 (Z15 rfl (by decide) rfl) ?_) | (refine Z16 ?_; first | refine Z17 rfl ?_ | refine Z18 rfl ?_) | (refine Z19 ?_; first | refine Z20 rfl rfl (by omega) ?_ | refine Z21 rfl rfl (by omega) ?_ | refine Z22 rfl rfl (by omega) ?_ | refine Z23 rfl rfl (by omega) (by omega) ?_ | refine Z24 rfl rfl (by omega) (by omega) (by omega) ?_ | refine Z13 (Z25 rfl rfl) ?_ | refine Z13 (Z26 rfl rfl) ?_) | (refine Z27 ?_; refine Z13 (Z28 rfl (Z53 ⟨by omega, by omega⟩)) ?_) | (refine Z29 ?_; refine Z13 (Z30 rfl (by rfl) (by simp only [Z84, List.set_cons_zero, List.set_cons_succ]; rfl)) ?_) | refine Z31 ?_) | (refine Z32 ?_; first | refine Z33 ?_ | refine Z34 ?_ | refine Z35 ?_ | refine Z36 ?_ | refine Z37 ?_ | refine Z38 rfl ?_ | refine Z39 ?_ | refine Z40 ?_ | refine Z41 ?_) | (refine Z42 ?_; first | refine Z43 ?_ | refine Z44 ?_ | refine Z45 ?_ | refine Z46 ?_ | refine Z47 ?_ | refine Z48 ?_ | refine Z49 rfl (by decide) ?_ | refine Z50 rfl (by decide) ?_))
    rw [t2, t3]
    refine Z54 (by kernel_rfl) (by kernel_rfl) ?_; repeat' (first | refine Z55 (Z56 rfl) ?_ | (refine Z57 ?_; first | refine Z58 rfl rfl (by decide) ?_ | refine Z59 rfl rfl (by decide) ?_ | refine Z60 rfl rfl ?_ | ((refine Z61 rfl rfl (fun c' hc' => ?_)); cases c' <;> (try simp only [decide_eq_true_eq, decide_eq_false_iff_not, beq_iff_eq, beq_eq_false_iff_ne, bne_iff_ne, bne_eq_false_iff_eq, ne_eq, gt_iff_lt, ge_iff_le, Int.not_lt, Int.not_le, Bool.not_eq_true', Bool.not_eq_false', Bool.not_true, Bool.not_false, reduceCtorEq, Decidable.not_not, not_true_eq_false, Bool.true_eq_false, Bool.false_eq_true] at hc') <;> (try (exfalso; omega)))) | (refine Z62 ?_; first | refine Z55 (Z63 rfl rfl) ?_ | refine Z55 (Z64 rfl rfl) ?_) | (refine Z65 ?_; first | refine Z55 (Z66 rfl (by assumption) (by rfl)) ?_ | refine Z55 (Z67 rfl (by assumption)) ?_) | (refine Z68 ?_; refine Z55 (Z69 rfl rfl rfl (by omega)) ?_) | (refine Z70 ?_; first | refine Z55 (Z14 rfl (by decide) rfl) ?_ | refine Z55 (Z15 rfl (by decide) rfl) ?_) | (refine Z71 ?_; first | refine Z55 (Z72 rfl) ?_ | refine Z55 (Z73 rfl) ?_) | (refine Z74 ?_; first | refine Z55 (Z75 rfl rfl (by omega)) ?_ | refine Z55 (Z76 rfl rfl (by omega)) ?_ | refine Z55 (Z77 rfl rfl (by omega)) ?_ | refine Z55 (Z78 rfl rfl (by omega) (by omega)) ?_ | refine Z55 (Z79 rfl rfl (by omega) (by omega) (by omega)) ?_ | refine Z55 (Z25 rfl rfl) ?_ | refine Z55 (Z26 rfl rfl) ?_) | (refine Z80 ?_; refine Z55 (Z28 rfl (Z53 ⟨by omega, by omega⟩)) ?_) | refine Z81 fun w' hw' => ?_)
    refine WQ_call rfl (fun w' ew => (CellsValid_ret _ _ _ w' (hn.ext ew)).mono (by rintro u w'' ⟨rfl, h⟩; exact ⟨rfl, h⟩)) ?_
    rw [decide_eq_true t1]
    rw [u2] at v0
    rw [u3] at v1
    repeat' (first | refine Z55 (Z56 rfl) ?_ | (refine Z57 ?_; first | refine Z58 rfl rfl (by decide) ?_ | refine Z59 rfl rfl (by decide) ?_ | refine Z60 rfl rfl ?_ | ((refine Z61 rfl rfl (fun c' hc' => ?_)); cases c' <;> (try simp only [decide_eq_true_eq, decide_eq_false_iff_not, beq_iff_eq, beq_eq_false_iff_ne, bne_iff_ne, bne_eq_false_iff_eq, ne_eq, gt_iff_lt, ge_iff_le, Int.not_lt, Int.not_le, Bool.not_eq_true', Bool.not_eq_false', Bool.not_true, Bool.not_false, reduceCtorEq, Decidable.not_not, not_true_eq_false, Bool.true_eq_false, Bool.false_eq_true] at hc') <;> (try (exfalso; omega)))) | (refine Z62 ?_; first | refine Z55 (Z63 rfl rfl) ?_ | refine Z55 (Z64 rfl rfl) ?_) | (refine Z65 ?_; first | refine Z55 (Z66 rfl (by assumption) (by rfl)) ?_ | refine Z55 (Z67 rfl (by assumption)) ?_) | (refine Z68 ?_; refine Z55 (Z69 rfl rfl rfl (by omega)) ?_) | (refine Z70 ?_; first | refine Z55 (Z14 rfl (by decide) rfl) ?_ | refine Z55 (Z15 rfl (by decide) rfl) ?_) | (refine Z71 ?_; first | refine Z55 (Z72 rfl) ?_ | refine Z55 (Z73 rfl) ?_) | (refine Z74 ?_; first | refine Z55 (Z75 rfl rfl (by omega)) ?_ | refine Z55 (Z76 rfl rfl (by omega)) ?_ | refine Z55 (Z77 rfl rfl (by omega)) ?_ | refine Z55 (Z78 rfl rfl (by omega) (by omega)) ?_ | refine Z55 (Z79 rfl rfl (by omega) (by omega) (by omega)) ?_ | refine Z55 (Z25 rfl rfl) ?_ | refine Z55 (Z26 rfl rfl) ?_) | (refine Z80 ?_; refine Z55 (Z28 rfl (Z53 ⟨by omega, by omega⟩)) ?_) | refine Z81 fun w' hw' => ?_)
    refine Z55 (Z69 (j := st.length) rfl rfl (by simp) (by simp)) ?_
    repeat' (first | refine Z55 (Z56 rfl) ?_ | (refine Z57 ?_; first | refine Z58 rfl rfl (by decide) ?_ | refine Z59 rfl rfl (by decide) ?_ | refine Z60 rfl rfl ?_ | ((refine Z61 rfl rfl (fun c' hc' => ?_)); cases c' <;> (try simp only [decide_eq_true_eq, decide_eq_false_iff_not, beq_iff_eq, beq_eq_false_iff_ne, bne_iff_ne, bne_eq_false_iff_eq, ne_eq, gt_iff_lt, ge_iff_le, Int.not_lt, Int.not_le, Bool.not_eq_true', Bool.not_eq_false', Bool.not_true, Bool.not_false, reduceCtorEq, Decidable.not_not, not_true_eq_false, Bool.true_eq_false, Bool.false_eq_true] at hc') <;> (try (exfalso; omega)))) | (refine Z62 ?_; first | refine Z55 (Z63 rfl rfl) ?_ | refine Z55 (Z64 rfl rfl) ?_) | (refine Z65 ?_; first | refine Z55 (Z66 rfl (by assumption) (by rfl)) ?_ | refine Z55 (Z67 rfl (by assumption)) ?_) | (refine Z68 ?_; refine Z55 (Z69 rfl rfl rfl (by omega)) ?_) | (refine Z70 ?_; first | refine Z55 (Z14 rfl (by decide) rfl) ?_ | refine Z55 (Z15 rfl (by decide) rfl) ?_) | (refine Z71 ?_; first | refine Z55 (Z72 rfl) ?_ | refine Z55 (Z73 rfl) ?_) | (refine Z74 ?_; first | refine Z55 (Z75 rfl rfl (by omega)) ?_ | refine Z55 (Z76 rfl rfl (by omega)) ?_ | refine Z55 (Z77 rfl rfl (by omega)) ?_ | refine Z55 (Z78 rfl rfl (by omega) (by omega)) ?_ | refine Z55 (Z79 rfl rfl (by omega) (by omega) (by omega)) ?_ | refine Z55 (Z25 rfl rfl) ?_ | refine Z55 (Z26 rfl rfl) ?_) | (refine Z80 ?_; refine Z55 (Z28 rfl (Z53 ⟨by omega, by omega⟩)) ?_) | refine Z81 fun w' hw' => ?_)
    refine Z55 (Z69 (j := st.length) rfl rfl (by simp) (by simp)) ?_
    repeat' (first | refine Z55 (Z56 rfl) ?_ | (refine Z57 ?_; first | refine Z58 rfl rfl (by decide) ?_ | refine Z59 rfl rfl (by decide) ?_ | refine Z60 rfl rfl ?_ | ((refine Z61 rfl rfl (fun c' hc' => ?_)); cases c' <;> (try simp only [decide_eq_true_eq, decide_eq_false_iff_not, beq_iff_eq, beq_eq_false_iff_ne, bne_iff_ne, bne_eq_false_iff_eq, ne_eq, gt_iff_lt, ge_iff_le, Int.not_lt, Int.not_le, Bool.not_eq_true', Bool.not_eq_false', Bool.not_true, Bool.not_false, reduceCtorEq, Decidable.not_not, not_true_eq_false, Bool.true_eq_false, Bool.false_eq_true] at hc') <;> (try (exfalso; omega)))) | (refine Z62 ?_; first | refine Z55 (Z63 rfl rfl) ?_ | refine Z55 (Z64 rfl rfl) ?_) | (refine Z65 ?_; first | refine Z55 (Z66 rfl (by assumption) (by rfl)) ?_ | refine Z55 (Z67 rfl (by assumption)) ?_) | (refine Z68 ?_; refine Z55 (Z69 rfl rfl rfl (by omega)) ?_) | (refine Z70 ?_; first | refine Z55 (Z14 rfl (by decide) rfl) ?_ | refine Z55 (Z15 rfl (by decide) rfl) ?_) | (refine Z71 ?_; first | refine Z55 (Z72 rfl) ?_ | refine Z55 (Z73 rfl) ?_) | (refine Z74 ?_; first | refine Z55 (Z75 rfl rfl (by omega)) ?_ | refine Z55 (Z76 rfl rfl (by omega)) ?_ | refine Z55 (Z77 rfl rfl (by omega)) ?_ | refine Z55 (Z78 rfl rfl (by omega) (by omega)) ?_ | refine Z55 (Z79 rfl rfl (by omega) (by omega) (by omega)) ?_ | refine Z55 (Z25 rfl rfl) ?_ | refine Z55 (Z26 rfl rfl) ?_) | (refine Z80 ?_; refine Z55 (Z28 rfl (Z53 ⟨by omega, by omega⟩)) ?_) | refine Z81 fun w' hw' => ?_)
    all_goals
      repeat (first | (refine Z0 ?_; first | refine Z1 rfl ?_ | (refine Z2 ?_; first | refine Z3 rfl rfl (by decide) ?_ | refine Z4 rfl rfl (by decide) ?_ | refine Z5 rfl rfl ?_) | (refine Z6 ?_; first | refine Z7 rfl rfl ?_ | refine Z8 rfl rfl ?_) | (refine Z9 ?_; first | refine Z10 rfl (by assumption) (by rfl) ?_ | refine Z11 rfl (by assumption) ?_) | (refine Z12 ?_; first | refine Z13 (Z14 rfl (by decide) rfl) ?_ | refine Z13 (Z15 rfl (by decide) rfl) ?_) | (refine Z16 ?_; first | refine Z17 rfl ?_ | refine Z18 rfl ?_) | (refine Z19 ?_; first | refine Z20 rfl rfl (by omega) ?_ | refine Z21 rfl rfl (by omega) ?_ | refine Z22 rfl rfl (by omega) ?_ | refine Z23 rfl rfl (by omega) (by omega) ?_ | refine Z24 rfl rfl (by omega) (by omega) (by omega) ?_ | refine Z13 (Z25 rfl rfl) ?_ | refine Z13 (Z26 rfl rfl) ?_) | (refine Z27 ?_; refine Z13 (Z28 rfl (Z53 ⟨by omega, by omega⟩)) ?_) | (refine Z29 ?_; refine Z13 (Z30 rfl (by rfl) (by simp only [Z84, List.set_cons_zero, List.set_cons_succ]; rfl)) ?_) | refine Z31 ?_) | (refine Z32 ?_; first | refine Z33 ?_ | refine Z34 ?_ | refine Z35 ?_ | refine Z36 ?_ | refine Z37 ?_ | refine Z38 rfl ?_ | refine Z39 ?_ | refine Z40 ?_ | refine Z41 ?_) | (refine Z42 ?_; first | refine Z43 ?_ | refine Z44 ?_ | refine Z45 ?_ | refine Z46 ?_ | refine Z47 ?_ | refine Z48 ?_ | refine Z49 rfl (by decide) ?_ | refine Z50 rfl (by decide) ?_))
      first
      | exact at_ret1 rfl rfl ⟨by simp, e0.trans hw'⟩
      | (exfalso; simp_all)
  · repeat' (first | (refine Z0 ?_; first | refine Z1 rfl ?_ | (refine Z2 ?_; first | refine Z3 rfl rfl (by decide) ?_ | refine Z4 rfl rfl (by decide) ?_ | refine Z5 rfl rfl ?_ | ((refine Z51 rfl rfl (fun c' hc' => ?_)); cases c' <;> (try simp only [decide_eq_true_eq, decide_eq_false_iff_not, beq_iff_eq, beq_eq_false_iff_ne, bne_iff_ne, bne_eq_false_iff_eq, ne_eq, gt_iff_lt, ge_iff_le, Int.not_lt, Int.not_le, Bool.not_eq_true', Bool.not_eq_false', Bool.not_true, Bool.not_false, reduceCtorEq, Decidable.not_not, not_true_eq_false, Bool.true_eq_false, Bool.false_eq_true] at hc') <;> (try (exfalso; omega)))) | (refine Z6 ?_; first | refine Z7 rfl rfl ?_ | refine Z8 rfl rfl ?_) | (refine Z9 ?_; first | refine Z10 rfl (by assumption) (by rfl) ?_ | refine Z11 rfl (by assumption) ?_) | (refine Z12 ?_; first | refine Z13 (Z14 rfl (by decide) rfl) ?_ | refine Z13 (Z15 rfl (by decide) rfl) ?_) | (refine Z16 ?_; first | refine Z17 rfl ?_ | refine Z18 rfl ?_) | (refine Z19 ?_; first | refine Z20 rfl rfl (by omega) ?_ | refine Z21 rfl rfl (by omega) ?_ | refine Z22 rfl rfl (by omega) ?_ | refine Z23 rfl rfl (by omega) (by omega) ?_ | refine Z24 rfl rfl (by omega) (by omega) (by omega) ?_ | refine Z13 (Z25 rfl rfl) ?_ | refine Z13 (Z26 rfl rfl) ?_) | (refine Z27 ?_; refine Z13 (Z28 rfl (Z53 ⟨by omega, by omega⟩)) ?_) | (refine Z29 ?_; refine Z13 (Z30 rfl (by rfl) (by simp only [Z84, List.set_cons_zero, List.set_cons_succ]; rfl)) ?_) | refine Z31 ?_) | (refine Z32 ?_; first | refine Z33 ?_ | refine Z34 ?_ | refine Z35 ?_ | refine Z36 ?_ | refine Z37 ?_ | refine Z38 rfl ?_ | refine Z39 ?_ | refine Z40 ?_ | refine Z41 ?_) | (refine Z42 ?_; first | refine Z43 ?_ | refine Z44 ?_ | refine Z45 ?_ | refine Z46 ?_ | refine Z47 ?_ | refine Z48 ?_ | refine Z49 rfl (by decide) ?_ | refine Z50 rfl (by decide) ?_ | ((refine Z52 rfl (fun hc' => ?_) (fun hc' => ?_)) <;> (try simp only [decide_eq_true_eq, decide_eq_false_iff_not, beq_iff_eq, beq_eq_false_iff_ne, bne_iff_ne, bne_eq_false_iff_eq, ne_eq, gt_iff_lt, ge_iff_le, Int.not_lt, Int.not_le, Bool.not_eq_true', Bool.not_eq_false', Bool.not_true, Bool.not_false, reduceCtorEq, Decidable.not_not, not_true_eq_false, Bool.true_eq_false, Bool.false_eq_true] at hc') <;> (try (exfalso; omega)))))
    refine WO_call rfl (bcSame_ret _ _ _ _ _ _ hn hwn) ?_
    rintro _ wn ⟨rfl, eN⟩
    try replace hx := Blk.ext hx eN
    try replace hy := Blk.ext hy eN
    try replace hwy := Blk.ext hwy eN
    try replace hz := Blk.ext hz eN
    try replace hm := CeS.ext hm eN
    try replace hn := CeS.ext hn eN
    try replace hwn := CeS.ext hwn eN
    try replace hp := CeS.ext hp eN
    try replace ha := CeS.ext ha eN
    try replace hb := CeS.ext hb eN
    try replace e0 := Ext.trans e0 eN
    clear eN
    repeat (first | (refine Z0 ?_; first | refine Z1 rfl ?_ | (refine Z2 ?_; first | refine Z3 rfl rfl (by decide) ?_ | refine Z4 rfl rfl (by decide) ?_ | refine Z5 rfl rfl ?_) | (refine Z6 ?_; first | refine Z7 rfl rfl ?_ | refine Z8 rfl rfl ?_) | (refine Z9 ?_; first | refine Z10 rfl (by assumption) (by rfl) ?_ | refine Z11 rfl (by assumption) ?_) | (refine Z12 ?_; first | refine Z13 (Z14 rfl (by decide) rfl) ?_ | refine Z13 (Z15 rfl (by decide) rfl) ?_) | (refine Z16 ?_; first | refine Z17 rfl ?_ | refine Z18 rfl ?_) | (refine Z19 ?_; first | refine Z20 rfl rfl (by omega) ?_ | refine Z21 rfl rfl (by omega) ?_ | refine Z22 rfl rfl (by omega) ?_ | refine Z23 rfl rfl (by omega) (by omega) ?_ | refine Z24 rfl rfl (by omega) (by omega) (by omega) ?_ | refine Z13 (Z25 rfl rfl) ?_ | refine Z13 (Z26 rfl rfl) ?_) | (refine Z27 ?_; refine Z13 (Z28 rfl (Z53 ⟨by omega, by omega⟩)) ?_) | (refine Z29 ?_; refine Z13 (Z30 rfl (by rfl) (by simp only [Z84, List.set_cons_zero, List.set_cons_succ]; rfl)) ?_) | refine Z31 ?_) | (refine Z32 ?_; first | refine Z33 ?_ | refine Z34 ?_ | refine Z35 ?_ | refine Z36 ?_ | refine Z37 ?_ | refine Z38 rfl ?_ | refine Z39 ?_ | refine Z40 ?_ | refine Z41 ?_) | (refine Z42 ?_; first | refine Z43 ?_ | refine Z44 ?_ | refine Z45 ?_ | refine Z46 ?_ | refine Z47 ?_ | refine Z48 ?_ | refine Z49 rfl (by decide) ?_ | refine Z50 rfl (by decide) ?_))
    repeat' (first | (refine Z0 ?_; first | refine Z1 rfl ?_ | (refine Z2 ?_; first | refine Z3 rfl rfl (by decide) ?_ | refine Z4 rfl rfl (by decide) ?_ | refine Z5 rfl rfl ?_ | ((refine Z51 rfl rfl (fun c' hc' => ?_)); cases c' <;> (try simp only [decide_eq_true_eq, decide_eq_false_iff_not, beq_iff_eq, beq_eq_false_iff_ne, bne_iff_ne, bne_eq_false_iff_eq, ne_eq, gt_iff_lt, ge_iff_le, Int.not_lt, Int.not_le, Bool.not_eq_true', Bool.not_eq_false', Bool.not_true, Bool.not_false, reduceCtorEq, Decidable.not_not, not_true_eq_false, Bool.true_eq_false, Bool.false_eq_true] at hc') <;> (try (exfalso; omega)))) | (refine Z6 ?_; first | refine Z7 rfl rfl ?_ | refine Z8 rfl rfl ?_) | (refine Z9 ?_; first | refine Z10 rfl (by assumption) (by rfl) ?_ | refine Z11 rfl (by assumption) ?_) | (refine Z12 ?_; first | refine Z13 (Z14 rfl (by decide) rfl) ?_ | refine Z13 (Z15 rfl (by decide) rfl) ?_) | (refine Z16 ?_; first | refine Z17 rfl ?_ | refine Z18 rfl ?_) | (refine Z19 ?_; first | refine Z20 rfl rfl (by omega) ?_ | refine Z21 rfl rfl (by omega) ?_ | refine Z22 rfl rfl (by omega) ?_ | refine Z23 rfl rfl (by omega) (by omega) ?_ | refine Z24 rfl rfl (by omega) (by omega) (by omega) ?_ | refine Z13 (Z25 rfl rfl) ?_ | refine Z13 (Z26 rfl rfl) ?_) | (refine Z27 ?_; refine Z13 (Z28 rfl (Z53 ⟨by omega, by omega⟩)) ?_) | (refine Z29 ?_; refine Z13 (Z30 rfl (by rfl) (by simp only [Z84, List.set_cons_zero, List.set_cons_succ]; rfl)) ?_) | refine Z31 ?_) | (refine Z32 ?_; first | refine Z33 ?_ | refine Z34 ?_ | refine Z35 ?_ | refine Z36 ?_ | refine Z37 ?_ | refine Z38 rfl ?_ | refine Z39 ?_ | refine Z40 ?_ | refine Z41 ?_) | (refine Z42 ?_; first | refine Z43 ?_ | refine Z44 ?_ | refine Z45 ?_ | refine Z46 ?_ | refine Z47 ?_ | refine Z48 ?_ | refine Z49 rfl (by decide) ?_ | refine Z50 rfl (by decide) ?_ | ((refine Z52 rfl (fun hc' => ?_) (fun hc' => ?_)) <;> (try simp only [decide_eq_true_eq, decide_eq_false_iff_not, beq_iff_eq, beq_eq_false_iff_ne, bne_iff_ne, bne_eq_false_iff_eq, ne_eq, gt_iff_lt, ge_iff_le, Int.not_lt, Int.not_le, Bool.not_eq_true', Bool.not_eq_false', Bool.not_true, Bool.not_false, reduceCtorEq, Decidable.not_not, not_true_eq_false, Bool.true_eq_false, Bool.false_eq_true] at hc') <;> (try (exfalso; omega)))))
    have hlm : wrvL m x val = m := by unfold wrvL; rw [if_neg hk]
    rw [hlm] at hn
    refine WO_call rfl (bcSame_ret _ _ _ _ _ _ hn hm) ?_
    rintro _ wn ⟨rfl, eN⟩
    try replace hx := Blk.ext hx eN
    try replace hy := Blk.ext hy eN
    try replace hwy := Blk.ext hwy eN
    try replace hz := Blk.ext hz eN
    try replace hm := CeS.ext hm eN
    try replace hn := CeS.ext hn eN
    try replace hwn := CeS.ext hwn eN
    try replace hp := CeS.ext hp eN
    try replace ha := CeS.ext ha eN
    try replace hb := CeS.ext hb eN
    try replace e0 := Ext.trans e0 eN
    clear eN
    repeat (first | (refine Z0 ?_; first | refine Z1 rfl ?_ | (refine Z2 ?_; first | refine Z3 rfl rfl (by decide) ?_ | refine Z4 rfl rfl (by decide) ?_ | refine Z5 rfl rfl ?_) | (refine Z6 ?_; first | refine Z7 rfl rfl ?_ | refine Z8 rfl rfl ?_) | (refine Z9 ?_; first | refine Z10 rfl (by assumption) (by rfl) ?_ | refine Z11 rfl (by assumption) ?_) | (refine Z12 ?_; first | refine Z13 (Z14 rfl (by decide) rfl) ?_ | refine Z13 (Z15 rfl (by decide) rfl) ?_) | (refine Z16 ?_; first | refine Z17 rfl ?_ | refine Z18 rfl ?_) | (refine Z19 ?_; first | refine Z20 rfl rfl (by omega) ?_ | refine Z21 rfl rfl (by omega) ?_ | refine Z22 rfl rfl (by omega) ?_ | refine Z23 rfl rfl (by omega) (by omega) ?_ | refine Z24 rfl rfl (by omega) (by omega) (by omega) ?_ | refine Z13 (Z25 rfl rfl) ?_ | refine Z13 (Z26 rfl rfl) ?_) | (refine Z27 ?_; refine Z13 (Z28 rfl (Z53 ⟨by omega, by omega⟩)) ?_) | (refine Z29 ?_; refine Z13 (Z30 rfl (by rfl) (by simp only [Z84, List.set_cons_zero, List.set_cons_succ]; rfl)) ?_) | refine Z31 ?_) | (refine Z32 ?_; first | refine Z33 ?_ | refine Z34 ?_ | refine Z35 ?_ | refine Z36 ?_ | refine Z37 ?_ | refine Z38 rfl ?_ | refine Z39 ?_ | refine Z40 ?_ | refine Z41 ?_) | (refine Z42 ?_; first | refine Z43 ?_ | refine Z44 ?_ | refine Z45 ?_ | refine Z46 ?_ | refine Z47 ?_ | refine Z48 ?_ | refine Z49 rfl (by decide) ?_ | refine Z50 rfl (by decide) ?_))
    exact at_ret1 rfl rfl ⟨by simp, e0⟩
theorem FnNewCell_ret {v : Value} {w : World} (hd : ByD w v) : Ret Try.prog 12 [v] w fun r w' => r = .bool true ∧ Ext w w' := by
  have hd0 := hd
  obtain ⟨A0, n0, c0, rfl, _, hn0, _⟩ := hd0
  refine enter Try.func12 rfl Try.ntmps12 rfl rfl ?_
  repeat' (first | (refine Z0 ?_; first | refine Z1 rfl ?_ | (refine Z2 ?_; first | refine Z3 rfl rfl (by decide) ?_ | refine Z4 rfl rfl (by decide) ?_ | refine Z5 rfl rfl ?_ | ((refine Z51 rfl rfl (fun c' hc' => ?_)); cases c' <;> (try simp only [decide_eq_true_eq, decide_eq_false_iff_not, beq_iff_eq, beq_eq_false_iff_ne, bne_iff_ne, bne_eq_false_iff_eq, ne_eq, gt_iff_lt, ge_iff_le, Int.not_lt, Int.not_le, Bool.not_eq_true', Bool.not_eq_false', Bool.not_true, Bool.not_false, reduceCtorEq, Decidable.not_not, not_true_eq_false, Bool.true_eq_false, Bool.false_eq_true] at hc') <;> (try (exfalso; omega)))) | (refine Z6 ?_; first | refine Z7 rfl rfl ?_ | refine Z8 rfl rfl ?_) | (refine Z9 ?_; first | refine Z10 rfl (by assumption) (by rfl) ?_ | refine Z11 rfl (by assumption) ?_) | (refine Z12 ?_; first | refine Z13 (Z14 rfl (by decide) rfl) ?_ | refine Z13 (Z15 rfl (by decide) rfl) ?_) | (refine Z16 ?_; first | refine Z17 rfl ?_ | refine Z18 rfl ?_) | (refine Z19 ?_; first | refine Z20 rfl rfl (by omega) ?_ | refine Z21 rfl rfl (by omega) ?_ | refine Z22 rfl rfl (by omega) ?_ | refine Z23 rfl rfl (by omega) (by omega) ?_ | refine Z24 rfl rfl (by omega) (by omega) (by omega) ?_ | refine Z13 (Z25 rfl rfl) ?_ | refine Z13 (Z26 rfl rfl) ?_) | (refine Z27 ?_; refine Z13 (Z28 rfl (Z53 ⟨by omega, by omega⟩)) ?_) | (refine Z29 ?_; refine Z13 (Z30 rfl (by rfl) (by simp only [Z84, List.set_cons_zero, List.set_cons_succ]; rfl)) ?_) | refine Z31 ?_) | (refine Z32 ?_; first | refine Z33 ?_ | refine Z34 ?_ | refine Z35 ?_ | refine Z36 ?_ | refine Z37 ?_ | refine Z38 rfl ?_ | refine Z39 ?_ | refine Z40 ?_ | refine Z41 ?_) | (refine Z42 ?_; first | refine Z43 ?_ | refine Z44 ?_ | refine Z45 ?_ | refine Z46 ?_ | refine Z47 ?_ | refine Z48 ?_ | refine Z49 rfl (by decide) ?_ | refine Z50 rfl (by decide) ?_ | ((refine Z52 rfl (fun hc' => ?_) (fun hc' => ?_)) <;> (try simp only [decide_eq_true_eq, decide_eq_false_iff_not, beq_iff_eq, beq_eq_false_iff_ne, bne_iff_ne, bne_eq_false_iff_eq, ne_eq, gt_iff_lt, ge_iff_le, Int.not_lt, Int.not_le, Bool.not_eq_true', Bool.not_eq_false', Bool.not_true, Bool.not_false, reduceCtorEq, Decidable.not_not, not_true_eq_false, Bool.true_eq_false, Bool.false_eq_true] at hc') <;> (try (exfalso; omega)))))
  any_goals (exact at_ret1 rfl rfl ⟨rfl, Ext.refl _⟩)
  refine WO_call rfl (DrawNewCell_ret _ w hd) ?_
  rintro _ w1 ⟨vm, val, rfl, hval, ⟨m, Fm, hm, hms, _⟩, e0⟩
  repeat (first | (refine Z0 ?_; first | refine Z1 rfl ?_ | (refine Z2 ?_; first | refine Z3 rfl rfl (by decide) ?_ | refine Z4 rfl rfl (by decide) ?_ | refine Z5 rfl rfl ?_) | (refine Z6 ?_; first | refine Z7 rfl rfl ?_ | refine Z8 rfl rfl ?_) | (refine Z9 ?_; first | refine Z10 rfl (by assumption) (by rfl) ?_ | refine Z11 rfl (by assumption) ?_) | (refine Z12 ?_; first | refine Z13 (Z14 rfl (by decide) rfl) ?_ | refine Z13 (Z15 rfl (by decide) rfl) ?_) | (refine Z16 ?_; first | refine Z17 rfl ?_ | refine Z18 rfl ?_) | (refine Z19 ?_; first | refine Z20 rfl rfl (by omega) ?_ | refine Z21 rfl rfl (by omega) ?_ | refine Z22 rfl rfl (by omega) ?_ | refine Z23 rfl rfl (by omega) (by omega) ?_ | refine Z24 rfl rfl (by omega) (by omega) (by omega) ?_ | refine Z13 (Z25 rfl rfl) ?_ | refine Z13 (Z26 rfl rfl) ?_) | (refine Z27 ?_; refine Z13 (Z28 rfl (Z53 ⟨by omega, by omega⟩)) ?_) | (refine Z29 ?_; refine Z13 (Z30 rfl (by rfl) (by simp only [Z84, List.set_cons_zero, List.set_cons_succ]; rfl)) ?_) | refine Z31 ?_) | (refine Z32 ?_; first | refine Z33 ?_ | refine Z34 ?_ | refine Z35 ?_ | refine Z36 ?_ | refine Z37 ?_ | refine Z38 rfl ?_ | refine Z39 ?_ | refine Z40 ?_ | refine Z41 ?_) | (refine Z42 ?_; first | refine Z43 ?_ | refine Z44 ?_ | refine Z45 ?_ | refine Z46 ?_ | refine Z47 ?_ | refine Z48 ?_ | refine Z49 rfl (by decide) ?_ | refine Z50 rfl (by decide) ?_))
  refine WO_call rfl (NewCell_ret vm m Fm val _ hm hms) ?_
  rintro _ wn ⟨vo, rfl, hN⟩
  have eN := hN.2
  try replace hx := Blk.ext hx eN
  try replace hy := Blk.ext hy eN
  try replace hwy := Blk.ext hwy eN
  try replace hz := Blk.ext hz eN
  try replace hm := CeS.ext hm eN
  try replace hn := CeS.ext hn eN
  try replace hwn := CeS.ext hwn eN
  try replace hp := CeS.ext hp eN
  try replace ha := CeS.ext ha eN
  try replace hb := CeS.ext hb eN
  try replace e0 := Ext.trans e0 eN
  obtain ⟨FN, hn, _⟩ := hN.ces
  clear hN eN
  repeat (first | (refine Z0 ?_; first | refine Z1 rfl ?_ | (refine Z2 ?_; first | refine Z3 rfl rfl (by decide) ?_ | refine Z4 rfl rfl (by decide) ?_ | refine Z5 rfl rfl ?_) | (refine Z6 ?_; first | refine Z7 rfl rfl ?_ | refine Z8 rfl rfl ?_) | (refine Z9 ?_; first | refine Z10 rfl (by assumption) (by rfl) ?_ | refine Z11 rfl (by assumption) ?_) | (refine Z12 ?_; first | refine Z13 (Z14 rfl (by decide) rfl) ?_ | refine Z13 (Z15 rfl (by decide) rfl) ?_) | (refine Z16 ?_; first | refine Z17 rfl ?_ | refine Z18 rfl ?_) | (refine Z19 ?_; first | refine Z20 rfl rfl (by omega) ?_ | refine Z21 rfl rfl (by omega) ?_ | refine Z22 rfl rfl (by omega) ?_ | refine Z23 rfl rfl (by omega) (by omega) ?_ | refine Z24 rfl rfl (by omega) (by omega) (by omega) ?_ | refine Z13 (Z25 rfl rfl) ?_ | refine Z13 (Z26 rfl rfl) ?_) | (refine Z27 ?_; refine Z13 (Z28 rfl (Z53 ⟨by omega, by omega⟩)) ?_) | (refine Z29 ?_; refine Z13 (Z30 rfl (by rfl) (by simp only [Z84, List.set_cons_zero, List.set_cons_succ]; rfl)) ?_) | refine Z31 ?_) | (refine Z32 ?_; first | refine Z33 ?_ | refine Z34 ?_ | refine Z35 ?_ | refine Z36 ?_ | refine Z37 ?_ | refine Z38 rfl ?_ | refine Z39 ?_ | refine Z40 ?_ | refine Z41 ?_) | (refine Z42 ?_; first | refine Z43 ?_ | refine Z44 ?_ | refine Z45 ?_ | refine Z46 ?_ | refine Z47 ?_ | refine Z48 ?_ | refine Z49 rfl (by decide) ?_ | refine Z50 rfl (by decide) ?_))
  refine WO_alloc fun wa ha0 ea za => ?_
  repeat (first | (refine Z0 ?_; first | refine Z1 rfl ?_ | (refine Z2 ?_; first | refine Z3 rfl rfl (by decide) ?_ | refine Z4 rfl rfl (by decide) ?_ | refine Z5 rfl rfl ?_) | (refine Z6 ?_; first | refine Z7 rfl rfl ?_ | refine Z8 rfl rfl ?_) | (refine Z9 ?_; first | refine Z10 rfl (by assumption) (by rfl) ?_ | refine Z11 rfl (by assumption) ?_) | (refine Z12 ?_; first | refine Z13 (Z14 rfl (by decide) rfl) ?_ | refine Z13 (Z15 rfl (by decide) rfl) ?_) | (refine Z16 ?_; first | refine Z17 rfl ?_ | refine Z18 rfl ?_) | (refine Z19 ?_; first | refine Z20 rfl rfl (by omega) ?_ | refine Z21 rfl rfl (by omega) ?_ | refine Z22 rfl rfl (by omega) ?_ | refine Z23 rfl rfl (by omega) (by omega) ?_ | refine Z24 rfl rfl (by omega) (by omega) (by omega) ?_ | refine Z13 (Z25 rfl rfl) ?_ | refine Z13 (Z26 rfl rfl) ?_) | (refine Z27 ?_; refine Z13 (Z28 rfl (Z53 ⟨by omega, by omega⟩)) ?_) | (refine Z29 ?_; refine Z13 (Z30 rfl (by rfl) (by simp only [Z84, List.set_cons_zero, List.set_cons_succ]; rfl)) ?_) | refine Z31 ?_) | (refine Z32 ?_; first | refine Z33 ?_ | refine Z34 ?_ | refine Z35 ?_ | refine Z36 ?_ | refine Z37 ?_ | refine Z38 rfl ?_ | refine Z39 ?_ | refine Z40 ?_ | refine Z41 ?_) | (refine Z42 ?_; first | refine Z43 ?_ | refine Z44 ?_ | refine Z45 ?_ | refine Z46 ?_ | refine Z47 ?_ | refine Z48 ?_ | refine Z49 rfl (by decide) ?_ | refine Z50 rfl (by decide) ?_))
  refine WO_storeS (k := 2) (vs := [.int .i64 (newP m val).cell, .int .i64 (newP m val).tag]) rfl rfl rfl (by intro v hv; simp at hv; rcases hv with rfl | rfl <;> rfl) ha0 (by decide) fun wb hb0 ob => ?_
  replace hb0 : Blk wb _ [.int .i64 (newP m val).cell, .int .i64 (newP m val).tag] _ := hb0
  have eb := Ext.only ea ob (Nat.le_refl _)
  try replace hx := Blk.ext hx eb
  try replace hy := Blk.ext hy eb
  try replace hwy := Blk.ext hwy eb
  try replace hz := Blk.ext hz eb
  try replace hm := CeS.ext hm eb
  try replace hn := CeS.ext hn eb
  try replace hwn := CeS.ext hwn eb
  try replace hp := CeS.ext hp eb
  try replace ha := CeS.ext ha eb
  try replace hb := CeS.ext hb eb
  try replace e0 := Ext.trans e0 eb
  clear ha0 ea za ob
  have hy := hb0
  clear hb0
  repeat (first | (refine Z0 ?_; first | refine Z1 rfl ?_ | (refine Z2 ?_; first | refine Z3 rfl rfl (by decide) ?_ | refine Z4 rfl rfl (by decide) ?_ | refine Z5 rfl rfl ?_) | (refine Z6 ?_; first | refine Z7 rfl rfl ?_ | refine Z8 rfl rfl ?_) | (refine Z9 ?_; first | refine Z10 rfl (by assumption) (by rfl) ?_ | refine Z11 rfl (by assumption) ?_) | (refine Z12 ?_; first | refine Z13 (Z14 rfl (by decide) rfl) ?_ | refine Z13 (Z15 rfl (by decide) rfl) ?_) | (refine Z16 ?_; first | refine Z17 rfl ?_ | refine Z18 rfl ?_) | (refine Z19 ?_; first | refine Z20 rfl rfl (by omega) ?_ | refine Z21 rfl rfl (by omega) ?_ | refine Z22 rfl rfl (by omega) ?_ | refine Z23 rfl rfl (by omega) (by omega) ?_ | refine Z24 rfl rfl (by omega) (by omega) (by omega) ?_ | refine Z13 (Z25 rfl rfl) ?_ | refine Z13 (Z26 rfl rfl) ?_) | (refine Z27 ?_; refine Z13 (Z28 rfl (Z53 ⟨by omega, by omega⟩)) ?_) | (refine Z29 ?_; refine Z13 (Z30 rfl (by rfl) (by simp only [Z84, List.set_cons_zero, List.set_cons_succ]; rfl)) ?_) | refine Z31 ?_) | (refine Z32 ?_; first | refine Z33 ?_ | refine Z34 ?_ | refine Z35 ?_ | refine Z36 ?_ | refine Z37 ?_ | refine Z38 rfl ?_ | refine Z39 ?_ | refine Z40 ?_ | refine Z41 ?_) | (refine Z42 ?_; first | refine Z43 ?_ | refine Z44 ?_ | refine Z45 ?_ | refine Z46 ?_ | refine Z47 ?_ | refine Z48 ?_ | refine Z49 rfl (by decide) ?_ | refine Z50 rfl (by decide) ?_))
  refine WO_call rfl (sNewCell_ret vm m Fm val _ hm hms) ?_
  rintro _ wn ⟨vo, rfl, hN⟩
  have eN := hN.2
  try replace hx := Blk.ext hx eN
  try replace hy := Blk.ext hy eN
  try replace hwy := Blk.ext hwy eN
  try replace hz := Blk.ext hz eN
  try replace hm := CeS.ext hm eN
  try replace hn := CeS.ext hn eN
  try replace hwn := CeS.ext hwn eN
  try replace hp := CeS.ext hp eN
  try replace ha := CeS.ext ha eN
  try replace hb := CeS.ext hb eN
  try replace e0 := Ext.trans e0 eN
  obtain ⟨FN, hwn, _⟩ := hN.ces
  clear hN eN
  repeat (first | (refine Z0 ?_; first | refine Z1 rfl ?_ | (refine Z2 ?_; first | refine Z3 rfl rfl (by decide) ?_ | refine Z4 rfl rfl (by decide) ?_ | refine Z5 rfl rfl ?_) | (refine Z6 ?_; first | refine Z7 rfl rfl ?_ | refine Z8 rfl rfl ?_) | (refine Z9 ?_; first | refine Z10 rfl (by assumption) (by rfl) ?_ | refine Z11 rfl (by assumption) ?_) | (refine Z12 ?_; first | refine Z13 (Z14 rfl (by decide) rfl) ?_ | refine Z13 (Z15 rfl (by decide) rfl) ?_) | (refine Z16 ?_; first | refine Z17 rfl ?_ | refine Z18 rfl ?_) | (refine Z19 ?_; first | refine Z20 rfl rfl (by omega) ?_ | refine Z21 rfl rfl (by omega) ?_ | refine Z22 rfl rfl (by omega) ?_ | refine Z23 rfl rfl (by omega) (by omega) ?_ | refine Z24 rfl rfl (by omega) (by omega) (by omega) ?_ | refine Z13 (Z25 rfl rfl) ?_ | refine Z13 (Z26 rfl rfl) ?_) | (refine Z27 ?_; refine Z13 (Z28 rfl (Z53 ⟨by omega, by omega⟩)) ?_) | (refine Z29 ?_; refine Z13 (Z30 rfl (by rfl) (by simp only [Z84, List.set_cons_zero, List.set_cons_succ]; rfl)) ?_) | refine Z31 ?_) | (refine Z32 ?_; first | refine Z33 ?_ | refine Z34 ?_ | refine Z35 ?_ | refine Z36 ?_ | refine Z37 ?_ | refine Z38 rfl ?_ | refine Z39 ?_ | refine Z40 ?_ | refine Z41 ?_) | (refine Z42 ?_; first | refine Z43 ?_ | refine Z44 ?_ | refine Z45 ?_ | refine Z46 ?_ | refine Z47 ?_ | refine Z48 ?_ | refine Z49 rfl (by decide) ?_ | refine Z50 rfl (by decide) ?_))
  refine WO_alloc fun wa ha0 ea za => ?_
  repeat (first | (refine Z0 ?_; first | refine Z1 rfl ?_ | (refine Z2 ?_; first | refine Z3 rfl rfl (by decide) ?_ | refine Z4 rfl rfl (by decide) ?_ | refine Z5 rfl rfl ?_) | (refine Z6 ?_; first | refine Z7 rfl rfl ?_ | refine Z8 rfl rfl ?_) | (refine Z9 ?_; first | refine Z10 rfl (by assumption) (by rfl) ?_ | refine Z11 rfl (by assumption) ?_) | (refine Z12 ?_; first | refine Z13 (Z14 rfl (by decide) rfl) ?_ | refine Z13 (Z15 rfl (by decide) rfl) ?_) | (refine Z16 ?_; first | refine Z17 rfl ?_ | refine Z18 rfl ?_) | (refine Z19 ?_; first | refine Z20 rfl rfl (by omega) ?_ | refine Z21 rfl rfl (by omega) ?_ | refine Z22 rfl rfl (by omega) ?_ | refine Z23 rfl rfl (by omega) (by omega) ?_ | refine Z24 rfl rfl (by omega) (by omega) (by omega) ?_ | refine Z13 (Z25 rfl rfl) ?_ | refine Z13 (Z26 rfl rfl) ?_) | (refine Z27 ?_; refine Z13 (Z28 rfl (Z53 ⟨by omega, by omega⟩)) ?_) | (refine Z29 ?_; refine Z13 (Z30 rfl (by rfl) (by simp only [Z84, List.set_cons_zero, List.set_cons_succ]; rfl)) ?_) | refine Z31 ?_) | (refine Z32 ?_; first | refine Z33 ?_ | refine Z34 ?_ | refine Z35 ?_ | refine Z36 ?_ | refine Z37 ?_ | refine Z38 rfl ?_ | refine Z39 ?_ | refine Z40 ?_ | refine Z41 ?_) | (refine Z42 ?_; first | refine Z43 ?_ | refine Z44 ?_ | refine Z45 ?_ | refine Z46 ?_ | refine Z47 ?_ | refine Z48 ?_ | refine Z49 rfl (by decide) ?_ | refine Z50 rfl (by decide) ?_))
  refine WO_storeS (k := 2) (vs := [.int .i64 (newP m val).cell, .int .i64 (newP m val).tag]) rfl rfl rfl (by intro v hv; simp at hv; rcases hv with rfl | rfl <;> rfl) ha0 (by decide) fun wb hb0 ob => ?_
  replace hb0 : Blk wb _ [.int .i64 (newP m val).cell, .int .i64 (newP m val).tag] _ := hb0
  have eb := Ext.only ea ob (Nat.le_refl _)
  try replace hx := Blk.ext hx eb
  try replace hy := Blk.ext hy eb
  try replace hwy := Blk.ext hwy eb
  try replace hz := Blk.ext hz eb
  try replace hm := CeS.ext hm eb
  try replace hn := CeS.ext hn eb
  try replace hwn := CeS.ext hwn eb
  try replace hp := CeS.ext hp eb
  try replace ha := CeS.ext ha eb
  try replace hb := CeS.ext hb eb
  try replace e0 := Ext.trans e0 eb
  clear ha0 ea za ob
  have hwy := hb0
  clear hb0
  repeat (first | (refine Z0 ?_; first | refine Z1 rfl ?_ | (refine Z2 ?_; first | refine Z3 rfl rfl (by decide) ?_ | refine Z4 rfl rfl (by decide) ?_ | refine Z5 rfl rfl ?_) | (refine Z6 ?_; first | refine Z7 rfl rfl ?_ | refine Z8 rfl rfl ?_) | (refine Z9 ?_; first | refine Z10 rfl (by assumption) (by rfl) ?_ | refine Z11 rfl (by assumption) ?_) | (refine Z12 ?_; first | refine Z13 (Z14 rfl (by decide) rfl) ?_ | refine Z13 (Z15 rfl (by decide) rfl) ?_) | (refine Z16 ?_; first | refine Z17 rfl ?_ | refine Z18 rfl ?_) | (refine Z19 ?_; first | refine Z20 rfl rfl (by omega) ?_ | refine Z21 rfl rfl (by omega) ?_ | refine Z22 rfl rfl (by omega) ?_ | refine Z23 rfl rfl (by omega) (by omega) ?_ | refine Z24 rfl rfl (by omega) (by omega) (by omega) ?_ | refine Z13 (Z25 rfl rfl) ?_ | refine Z13 (Z26 rfl rfl) ?_) | (refine Z27 ?_; refine Z13 (Z28 rfl (Z53 ⟨by omega, by omega⟩)) ?_) | (refine Z29 ?_; refine Z13 (Z30 rfl (by rfl) (by simp only [Z84, List.set_cons_zero, List.set_cons_succ]; rfl)) ?_) | refine Z31 ?_) | (refine Z32 ?_; first | refine Z33 ?_ | refine Z34 ?_ | refine Z35 ?_ | refine Z36 ?_ | refine Z37 ?_ | refine Z38 rfl ?_ | refine Z39 ?_ | refine Z40 ?_ | refine Z41 ?_) | (refine Z42 ?_; first | refine Z43 ?_ | refine Z44 ?_ | refine Z45 ?_ | refine Z46 ?_ | refine Z47 ?_ | refine Z48 ?_ | refine Z49 rfl (by decide) ?_ | refine Z50 rfl (by decide) ?_))
  refine WO_call rfl (bcSame_ret _ _ _ _ _ _ hn hwn) ?_
  rintro _ wn ⟨rfl, eN⟩
  try replace hx := Blk.ext hx eN
  try replace hy := Blk.ext hy eN
  try replace hwy := Blk.ext hwy eN
  try replace hz := Blk.ext hz eN
  try replace hm := CeS.ext hm eN
  try replace hn := CeS.ext hn eN
  try replace hwn := CeS.ext hwn eN
  try replace hp := CeS.ext hp eN
  try replace ha := CeS.ext ha eN
  try replace hb := CeS.ext hb eN
  try replace e0 := Ext.trans e0 eN
  clear eN
  repeat (first | (refine Z0 ?_; first | refine Z1 rfl ?_ | (refine Z2 ?_; first | refine Z3 rfl rfl (by decide) ?_ | refine Z4 rfl rfl (by decide) ?_ | refine Z5 rfl rfl ?_) | (refine Z6 ?_; first | refine Z7 rfl rfl ?_ | refine Z8 rfl rfl ?_) | (refine Z9 ?_; first | refine Z10 rfl (by assumption) (by rfl) ?_ | refine Z11 rfl (by assumption) ?_) | (refine Z12 ?_; first | refine Z13 (Z14 rfl (by decide) rfl) ?_ | refine Z13 (Z15 rfl (by decide) rfl) ?_) | (refine Z16 ?_; first | refine Z17 rfl ?_ | refine Z18 rfl ?_) | (refine Z19 ?_; first | refine Z20 rfl rfl (by omega) ?_ | refine Z21 rfl rfl (by omega) ?_ | refine Z22 rfl rfl (by omega) ?_ | refine Z23 rfl rfl (by omega) (by omega) ?_ | refine Z24 rfl rfl (by omega) (by omega) (by omega) ?_ | refine Z13 (Z25 rfl rfl) ?_ | refine Z13 (Z26 rfl rfl) ?_) | (refine Z27 ?_; refine Z13 (Z28 rfl (Z53 ⟨by omega, by omega⟩)) ?_) | (refine Z29 ?_; refine Z13 (Z30 rfl (by rfl) (by simp only [Z84, List.set_cons_zero, List.set_cons_succ]; rfl)) ?_) | refine Z31 ?_) | (refine Z32 ?_; first | refine Z33 ?_ | refine Z34 ?_ | refine Z35 ?_ | refine Z36 ?_ | refine Z37 ?_ | refine Z38 rfl ?_ | refine Z39 ?_ | refine Z40 ?_ | refine Z41 ?_) | (refine Z42 ?_; first | refine Z43 ?_ | refine Z44 ?_ | refine Z45 ?_ | refine Z46 ?_ | refine Z47 ?_ | refine Z48 ?_ | refine Z49 rfl (by decide) ?_ | refine Z50 rfl (by decide) ?_))
  refine WO_loadSB rfl hy rfl ?_
  repeat (first | (refine Z0 ?_; first | refine Z1 rfl ?_ | (refine Z2 ?_; first | refine Z3 rfl rfl (by decide) ?_ | refine Z4 rfl rfl (by decide) ?_ | refine Z5 rfl rfl ?_) | (refine Z6 ?_; first | refine Z7 rfl rfl ?_ | refine Z8 rfl rfl ?_) | (refine Z9 ?_; first | refine Z10 rfl (by assumption) (by rfl) ?_ | refine Z11 rfl (by assumption) ?_) | (refine Z12 ?_; first | refine Z13 (Z14 rfl (by decide) rfl) ?_ | refine Z13 (Z15 rfl (by decide) rfl) ?_) | (refine Z16 ?_; first | refine Z17 rfl ?_ | refine Z18 rfl ?_) | (refine Z19 ?_; first | refine Z20 rfl rfl (by omega) ?_ | refine Z21 rfl rfl (by omega) ?_ | refine Z22 rfl rfl (by omega) ?_ | refine Z23 rfl rfl (by omega) (by omega) ?_ | refine Z24 rfl rfl (by omega) (by omega) (by omega) ?_ | refine Z13 (Z25 rfl rfl) ?_ | refine Z13 (Z26 rfl rfl) ?_) | (refine Z27 ?_; refine Z13 (Z28 rfl (Z53 ⟨by omega, by omega⟩)) ?_) | (refine Z29 ?_; refine Z13 (Z30 rfl (by rfl) (by simp only [Z84, List.set_cons_zero, List.set_cons_succ]; rfl)) ?_) | refine Z31 ?_) | (refine Z32 ?_; first | refine Z33 ?_ | refine Z34 ?_ | refine Z35 ?_ | refine Z36 ?_ | refine Z37 ?_ | refine Z38 rfl ?_ | refine Z39 ?_ | refine Z40 ?_ | refine Z41 ?_) | (refine Z42 ?_; first | refine Z43 ?_ | refine Z44 ?_ | refine Z45 ?_ | refine Z46 ?_ | refine Z47 ?_ | refine Z48 ?_ | refine Z49 rfl (by decide) ?_ | refine Z50 rfl (by decide) ?_))
  refine WO_loadSB rfl hwy rfl ?_
  repeat (first | (refine Z0 ?_; first | refine Z1 rfl ?_ | (refine Z2 ?_; first | refine Z3 rfl rfl (by decide) ?_ | refine Z4 rfl rfl (by decide) ?_ | refine Z5 rfl rfl ?_) | (refine Z6 ?_; first | refine Z7 rfl rfl ?_ | refine Z8 rfl rfl ?_) | (refine Z9 ?_; first | refine Z10 rfl (by assumption) (by rfl) ?_ | refine Z11 rfl (by assumption) ?_) | (refine Z12 ?_; first | refine Z13 (Z14 rfl (by decide) rfl) ?_ | refine Z13 (Z15 rfl (by decide) rfl) ?_) | (refine Z16 ?_; first | refine Z17 rfl ?_ | refine Z18 rfl ?_) | (refine Z19 ?_; first | refine Z20 rfl rfl (by omega) ?_ | refine Z21 rfl rfl (by omega) ?_ | refine Z22 rfl rfl (by omega) ?_ | refine Z23 rfl rfl (by omega) (by omega) ?_ | refine Z24 rfl rfl (by omega) (by omega) (by omega) ?_ | refine Z13 (Z25 rfl rfl) ?_ | refine Z13 (Z26 rfl rfl) ?_) | (refine Z27 ?_; refine Z13 (Z28 rfl (Z53 ⟨by omega, by omega⟩)) ?_) | (refine Z29 ?_; refine Z13 (Z30 rfl (by rfl) (by simp only [Z84, List.set_cons_zero, List.set_cons_succ]; rfl)) ?_) | refine Z31 ?_) | (refine Z32 ?_; first | refine Z33 ?_ | refine Z34 ?_ | refine Z35 ?_ | refine Z36 ?_ | refine Z37 ?_ | refine Z38 rfl ?_ | refine Z39 ?_ | refine Z40 ?_ | refine Z41 ?_) | (refine Z42 ?_; first | refine Z43 ?_ | refine Z44 ?_ | refine Z45 ?_ | refine Z46 ?_ | refine Z47 ?_ | refine Z48 ?_ | refine Z49 rfl (by decide) ?_ | refine Z50 rfl (by decide) ?_))
  refine Z13 (q_nePtS (newP m val) rfl rfl) ?_
  by_cases hk : newOk m val
  · rw [decide_eq_true hk]
    obtain ⟨t1, t2, t3, t4, t5, t6⟩ := new_use hk
    have hml := hm.slice
    obtain ⟨Am, cm, rfl, hlm, _⟩ := hml
    have hnl := hn.slice
    obtain ⟨An, cn, rfl, hln, hlc⟩ := hnl
    unfold maxI at hlm hln
    have hm200 := hk.1.1
    obtain ⟨Ft, hT⟩ := hn.take_ m.length (by omega)
    rw [t3] at hT
    repeat' (first | (refine Z0 ?_; first | refine Z1 rfl ?_ | (refine Z2 ?_; first | refine Z3 rfl rfl (by decide) ?_ | refine Z4 rfl rfl (by decide) ?_ | refine Z5 rfl rfl ?_ | ((refine Z51 rfl rfl (fun c' hc' => ?_)); cases c' <;> (try simp only [decide_eq_true_eq, decide_eq_false_iff_not, beq_iff_eq, beq_eq_false_iff_ne, bne_iff_ne, bne_eq_false_iff_eq, ne_eq, gt_iff_lt, ge_iff_le, Int.not_lt, Int.not_le, Bool.not_eq_true', Bool.not_eq_false', Bool.not_true, Bool.not_false, reduceCtorEq, Decidable.not_not, not_true_eq_false, Bool.true_eq_false, Bool.false_eq_true] at hc') <;> (try (exfalso; omega)))) | (refine Z6 ?_; first | refine Z7 rfl rfl ?_ | refine Z8 rfl rfl ?_) | (refine Z9 ?_; first | refine Z10 rfl (by assumption) (by rfl) ?_ | refine Z11 rfl (by assumption) ?_) | (refine Z12 ?_; first | refine Z13 (Z14 rfl (by decide) rfl) ?_ | refine Z13 (Z15 rfl (by decide) rfl) ?_) | (refine Z16 ?_; first | refine Z17 rfl ?_ | refine Z18 rfl ?_) | (refine Z19 ?_; first | refine Z20 rfl rfl (by omega) ?_ | refine Z21 rfl rfl (by omega) ?_ | refine Z22 rfl rfl (by omega) ?_ | refine Z23 rfl rfl (by omega) (by omega) ?_ | refine Z24 rfl rfl (by omega) (by omega) (by omega) ?_ | refine Z13 (Z25 rfl rfl) ?_ | refine Z13 (Z26 rfl rfl) ?_) | (refine Z27 ?_; refine Z13 (Z28 rfl (Z53 ⟨by omega, by omega⟩)) ?_) | (refine Z29 ?_; refine Z13 (Z30 rfl (by rfl) (by simp only [Z84, List.set_cons_zero, List.set_cons_succ]; rfl)) ?_) | refine Z31 ?_) | (refine Z32 ?_; first | refine Z33 ?_ | refine Z34 ?_ | refine Z35 ?_ | refine Z36 ?_ | refine Z37 ?_ | refine Z38 rfl ?_ | refine Z39 ?_ | refine Z40 ?_ | refine Z41 ?_) | (refine Z42 ?_; first | refine Z43 ?_ | refine Z44 ?_ | refine Z45 ?_ | refine Z46 ?_ | refine Z47 ?_ | refine Z48 ?_ | refine Z49 rfl (by decide) ?_ | refine Z50 rfl (by decide) ?_ | ((refine Z52 rfl (fun hc' => ?_) (fun hc' => ?_)) <;> (try simp only [decide_eq_true_eq, decide_eq_false_iff_not, beq_iff_eq, beq_eq_false_iff_ne, bne_iff_ne, bne_eq_false_iff_eq, ne_eq, gt_iff_lt, ge_iff_le, Int.not_lt, Int.not_le, Bool.not_eq_true', Bool.not_eq_false', Bool.not_true, Bool.not_false, reduceCtorEq, Decidable.not_not, not_true_eq_false, Bool.true_eq_false, Bool.false_eq_true] at hc') <;> (try (exfalso; omega)))))
    refine WO_loadSB rfl hy rfl ?_
    refine WO_call rfl (ReadCell_ret _ _ _ (newP m val) _ hn (cells_size t1)) ?_
    rintro _ wq ⟨vo, rfl, hN⟩
    have eN := hN.2
    try replace hx := Blk.ext hx eN
    try replace hy := Blk.ext hy eN
    try replace hwy := Blk.ext hwy eN
    try replace hz := Blk.ext hz eN
    try replace hm := CeS.ext hm eN
    try replace hn := CeS.ext hn eN
    try replace hwn := CeS.ext hwn eN
    try replace hp := CeS.ext hp eN
    try replace ha := CeS.ext ha eN
    try replace hb := CeS.ext hb eN
    try replace e0 := Ext.trans e0 eN
    replace hT := CeS.ext hT eN
    clear hN eN
    repeat (first | (refine Z0 ?_; first | refine Z1 rfl ?_ | (refine Z2 ?_; first | refine Z3 rfl rfl (by decide) ?_ | refine Z4 rfl rfl (by decide) ?_ | refine Z5 rfl rfl ?_) | (refine Z6 ?_; first | refine Z7 rfl rfl ?_ | refine Z8 rfl rfl ?_) | (refine Z9 ?_; first | refine Z10 rfl (by assumption) (by rfl) ?_ | refine Z11 rfl (by assumption) ?_) | (refine Z12 ?_; first | refine Z13 (Z14 rfl (by decide) rfl) ?_ | refine Z13 (Z15 rfl (by decide) rfl) ?_) | (refine Z16 ?_; first | refine Z17 rfl ?_ | refine Z18 rfl ?_) | (refine Z19 ?_; first | refine Z20 rfl rfl (by omega) ?_ | refine Z21 rfl rfl (by omega) ?_ | refine Z22 rfl rfl (by omega) ?_ | refine Z23 rfl rfl (by omega) (by omega) ?_ | refine Z24 rfl rfl (by omega) (by omega) (by omega) ?_ | refine Z13 (Z25 rfl rfl) ?_ | refine Z13 (Z26 rfl rfl) ?_) | (refine Z27 ?_; refine Z13 (Z28 rfl (Z53 ⟨by omega, by omega⟩)) ?_) | (refine Z29 ?_; refine Z13 (Z30 rfl (by rfl) (by simp only [Z84, List.set_cons_zero, List.set_cons_succ]; rfl)) ?_) | refine Z31 ?_) | (refine Z32 ?_; first | refine Z33 ?_ | refine Z34 ?_ | refine Z35 ?_ | refine Z36 ?_ | refine Z37 ?_ | refine Z38 rfl ?_ | refine Z39 ?_ | refine Z40 ?_ | refine Z41 ?_) | (refine Z42 ?_; first | refine Z43 ?_ | refine Z44 ?_ | refine Z45 ?_ | refine Z46 ?_ | refine Z47 ?_ | refine Z48 ?_ | refine Z49 rfl (by decide) ?_ | refine Z50 rfl (by decide) ?_))
    refine WO_loadSB rfl hy rfl ?_
    repeat (first | (refine Z0 ?_; first | refine Z1 rfl ?_ | (refine Z2 ?_; first | refine Z3 rfl rfl (by decide) ?_ | refine Z4 rfl rfl (by decide) ?_ | refine Z5 rfl rfl ?_) | (refine Z6 ?_; first | refine Z7 rfl rfl ?_ | refine Z8 rfl rfl ?_) | (refine Z9 ?_; first | refine Z10 rfl (by assumption) (by rfl) ?_ | refine Z11 rfl (by assumption) ?_) | (refine Z12 ?_; first | refine Z13 (Z14 rfl (by decide) rfl) ?_ | refine Z13 (Z15 rfl (by decide) rfl) ?_) | (refine Z16 ?_; first | refine Z17 rfl ?_ | refine Z18 rfl ?_) | (refine Z19 ?_; first | refine Z20 rfl rfl (by omega) ?_ | refine Z21 rfl rfl (by omega) ?_ | refine Z22 rfl rfl (by omega) ?_ | refine Z23 rfl rfl (by omega) (by omega) ?_ | refine Z24 rfl rfl (by omega) (by omega) (by omega) ?_ | refine Z13 (Z25 rfl rfl) ?_ | refine Z13 (Z26 rfl rfl) ?_) | (refine Z27 ?_; refine Z13 (Z28 rfl (Z53 ⟨by omega, by omega⟩)) ?_) | (refine Z29 ?_; refine Z13 (Z30 rfl (by rfl) (by simp only [Z84, List.set_cons_zero, List.set_cons_succ]; rfl)) ?_) | refine Z31 ?_) | (refine Z32 ?_; first | refine Z33 ?_ | refine Z34 ?_ | refine Z35 ?_ | refine Z36 ?_ | refine Z37 ?_ | refine Z38 rfl ?_ | refine Z39 ?_ | refine Z40 ?_ | refine Z41 ?_) | (refine Z42 ?_; first | refine Z43 ?_ | refine Z44 ?_ | refine Z45 ?_ | refine Z46 ?_ | refine Z47 ?_ | refine Z48 ?_ | refine Z49 rfl (by decide) ?_ | refine Z50 rfl (by decide) ?_))
    refine WO_call rfl (WriteCell_ret _ _ _ (newP m val) (9 - val) _ hn (cells_size t1)) ?_
    rintro _ wq ⟨vo, rfl, hN⟩
    have eN := hN.2
    try replace hx := Blk.ext hx eN
    try replace hy := Blk.ext hy eN
    try replace hwy := Blk.ext hwy eN
    try replace hz := Blk.ext hz eN
    try replace hm := CeS.ext hm eN
    try replace hn := CeS.ext hn eN
    try replace hwn := CeS.ext hwn eN
    try replace hp := CeS.ext hp eN
    try replace ha := CeS.ext ha eN
    try replace hb := CeS.ext hb eN
    try replace e0 := Ext.trans e0 eN
    replace hT := CeS.ext hT eN
    clear hN eN
    repeat (first | (refine Z0 ?_; first | refine Z1 rfl ?_ | (refine Z2 ?_; first | refine Z3 rfl rfl (by decide) ?_ | refine Z4 rfl rfl (by decide) ?_ | refine Z5 rfl rfl ?_) | (refine Z6 ?_; first | refine Z7 rfl rfl ?_ | refine Z8 rfl rfl ?_) | (refine Z9 ?_; first | refine Z10 rfl (by assumption) (by rfl) ?_ | refine Z11 rfl (by assumption) ?_) | (refine Z12 ?_; first | refine Z13 (Z14 rfl (by decide) rfl) ?_ | refine Z13 (Z15 rfl (by decide) rfl) ?_) | (refine Z16 ?_; first | refine Z17 rfl ?_ | refine Z18 rfl ?_) | (refine Z19 ?_; first | refine Z20 rfl rfl (by omega) ?_ | refine Z21 rfl rfl (by omega) ?_ | refine Z22 rfl rfl (by omega) ?_ | refine Z23 rfl rfl (by omega) (by omega) ?_ | refine Z24 rfl rfl (by omega) (by omega) (by omega) ?_ | refine Z13 (Z25 rfl rfl) ?_ | refine Z13 (Z26 rfl rfl) ?_) | (refine Z27 ?_; refine Z13 (Z28 rfl (Z53 ⟨by omega, by omega⟩)) ?_) | (refine Z29 ?_; refine Z13 (Z30 rfl (by rfl) (by simp only [Z84, List.set_cons_zero, List.set_cons_succ]; rfl)) ?_) | refine Z31 ?_) | (refine Z32 ?_; first | refine Z33 ?_ | refine Z34 ?_ | refine Z35 ?_ | refine Z36 ?_ | refine Z37 ?_ | refine Z38 rfl ?_ | refine Z39 ?_ | refine Z40 ?_ | refine Z41 ?_) | (refine Z42 ?_; first | refine Z43 ?_ | refine Z44 ?_ | refine Z45 ?_ | refine Z46 ?_ | refine Z47 ?_ | refine Z48 ?_ | refine Z49 rfl (by decide) ?_ | refine Z50 rfl (by decide) ?_))
    rw [t4, t5, t6]
    repeat' (first | (refine Z0 ?_; first | refine Z1 rfl ?_ | (refine Z2 ?_; first | refine Z3 rfl rfl (by decide) ?_ | refine Z4 rfl rfl (by decide) ?_ | refine Z5 rfl rfl ?_ | ((refine Z51 rfl rfl (fun c' hc' => ?_)); cases c' <;> (try simp only [decide_eq_true_eq, decide_eq_false_iff_not, beq_iff_eq, beq_eq_false_iff_ne, bne_iff_ne, bne_eq_false_iff_eq, ne_eq, gt_iff_lt, ge_iff_le, Int.not_lt, Int.not_le, Bool.not_eq_true', Bool.not_eq_false', Bool.not_true, Bool.not_false, reduceCtorEq, Decidable.not_not, not_true_eq_false, Bool.true_eq_false, Bool.false_eq_true] at hc') <;> (try (exfalso; omega)))) | (refine Z6 ?_; first | refine Z7 rfl rfl ?_ | refine Z8 rfl rfl ?_) | (refine Z9 ?_; first | refine Z10 rfl (by assumption) (by rfl) ?_ | refine Z11 rfl (by assumption) ?_) | (refine Z12 ?_; first | refine Z13 (Z14 rfl (by decide) rfl) ?_ | refine Z13 (Z15 rfl (by decide) rfl) ?_) | (refine Z16 ?_; first | refine Z17 rfl ?_ | refine Z18 rfl ?_) | (refine Z19 ?_; first | refine Z20 rfl rfl (by omega) ?_ | refine Z21 rfl rfl (by omega) ?_ | refine Z22 rfl rfl (by omega) ?_ | refine Z23 rfl rfl (by omega) (by omega) ?_ | refine Z24 rfl rfl (by omega) (by omega) (by omega) ?_ | refine Z13 (Z25 rfl rfl) ?_ | refine Z13 (Z26 rfl rfl) ?_) | (refine Z27 ?_; refine Z13 (Z28 rfl (Z53 ⟨by omega, by omega⟩)) ?_) | (refine Z29 ?_; refine Z13 (Z30 rfl (by rfl) (by simp only [Z84, List.set_cons_zero, List.set_cons_succ]; rfl)) ?_) | refine Z31 ?_) | (refine Z32 ?_; first | refine Z33 ?_ | refine Z34 ?_ | refine Z35 ?_ | refine Z36 ?_ | refine Z37 ?_ | refine Z38 rfl ?_ | refine Z39 ?_ | refine Z40 ?_ | refine Z41 ?_) | (refine Z42 ?_; first | refine Z43 ?_ | refine Z44 ?_ | refine Z45 ?_ | refine Z46 ?_ | refine Z47 ?_ | refine Z48 ?_ | refine Z49 rfl (by decide) ?_ | refine Z50 rfl (by decide) ?_ | ((refine Z52 rfl (fun hc' => ?_) (fun hc' => ?_)) <;> (try simp only [decide_eq_true_eq, decide_eq_false_iff_not, beq_iff_eq, beq_eq_false_iff_ne, bne_iff_ne, bne_eq_false_iff_eq, ne_eq, gt_iff_lt, ge_iff_le, Int.not_lt, Int.not_le, Bool.not_eq_true', Bool.not_eq_false', Bool.not_true, Bool.not_false, reduceCtorEq, Decidable.not_not, not_true_eq_false, Bool.true_eq_false, Bool.false_eq_true] at hc') <;> (try (exfalso; omega)))))
    refine Z13 (q_slTo (h := m.length) rfl rfl rfl (by omega)) ?_
    repeat (first | (refine Z0 ?_; first | refine Z1 rfl ?_ | (refine Z2 ?_; first | refine Z3 rfl rfl (by decide) ?_ | refine Z4 rfl rfl (by decide) ?_ | refine Z5 rfl rfl ?_) | (refine Z6 ?_; first | refine Z7 rfl rfl ?_ | refine Z8 rfl rfl ?_) | (refine Z9 ?_; first | refine Z10 rfl (by assumption) (by rfl) ?_ | refine Z11 rfl (by assumption) ?_) | (refine Z12 ?_; first | refine Z13 (Z14 rfl (by decide) rfl) ?_ | refine Z13 (Z15 rfl (by decide) rfl) ?_) | (refine Z16 ?_; first | refine Z17 rfl ?_ | refine Z18 rfl ?_) | (refine Z19 ?_; first | refine Z20 rfl rfl (by omega) ?_ | refine Z21 rfl rfl (by omega) ?_ | refine Z22 rfl rfl (by omega) ?_ | refine Z23 rfl rfl (by omega) (by omega) ?_ | refine Z24 rfl rfl (by omega) (by omega) (by omega) ?_ | refine Z13 (Z25 rfl rfl) ?_ | refine Z13 (Z26 rfl rfl) ?_) | (refine Z27 ?_; refine Z13 (Z28 rfl (Z53 ⟨by omega, by omega⟩)) ?_) | (refine Z29 ?_; refine Z13 (Z30 rfl (by rfl) (by simp only [Z84, List.set_cons_zero, List.set_cons_succ]; rfl)) ?_) | refine Z31 ?_) | (refine Z32 ?_; first | refine Z33 ?_ | refine Z34 ?_ | refine Z35 ?_ | refine Z36 ?_ | refine Z37 ?_ | refine Z38 rfl ?_ | refine Z39 ?_ | refine Z40 ?_ | refine Z41 ?_) | (refine Z42 ?_; first | refine Z43 ?_ | refine Z44 ?_ | refine Z45 ?_ | refine Z46 ?_ | refine Z47 ?_ | refine Z48 ?_ | refine Z49 rfl (by decide) ?_ | refine Z50 rfl (by decide) ?_))
    refine WO_call rfl (bcSame_ret _ _ _ _ _ _ hT hm) ?_
    rintro _ wn ⟨rfl, eN⟩
    try replace hx := Blk.ext hx eN
    try replace hy := Blk.ext hy eN
    try replace hwy := Blk.ext hwy eN
    try replace hz := Blk.ext hz eN
    try replace hm := CeS.ext hm eN
    try replace hn := CeS.ext hn eN
    try replace hwn := CeS.ext hwn eN
    try replace hp := CeS.ext hp eN
    try replace ha := CeS.ext ha eN
    try replace hb := CeS.ext hb eN
    try replace e0 := Ext.trans e0 eN
    clear eN
    repeat (first | (refine Z0 ?_; first | refine Z1 rfl ?_ | (refine Z2 ?_; first | refine Z3 rfl rfl (by decide) ?_ | refine Z4 rfl rfl (by decide) ?_ | refine Z5 rfl rfl ?_) | (refine Z6 ?_; first | refine Z7 rfl rfl ?_ | refine Z8 rfl rfl ?_) | (refine Z9 ?_; first | refine Z10 rfl (by assumption) (by rfl) ?_ | refine Z11 rfl (by assumption) ?_) | (refine Z12 ?_; first | refine Z13 (Z14 rfl (by decide) rfl) ?_ | refine Z13 (Z15 rfl (by decide) rfl) ?_) | (refine Z16 ?_; first | refine Z17 rfl ?_ | refine Z18 rfl ?_) | (refine Z19 ?_; first | refine Z20 rfl rfl (by omega) ?_ | refine Z21 rfl rfl (by omega) ?_ | refine Z22 rfl rfl (by omega) ?_ | refine Z23 rfl rfl (by omega) (by omega) ?_ | refine Z24 rfl rfl (by omega) (by omega) (by omega) ?_ | refine Z13 (Z25 rfl rfl) ?_ | refine Z13 (Z26 rfl rfl) ?_) | (refine Z27 ?_; refine Z13 (Z28 rfl (Z53 ⟨by omega, by omega⟩)) ?_) | (refine Z29 ?_; refine Z13 (Z30 rfl (by rfl) (by simp only [Z84, List.set_cons_zero, List.set_cons_succ]; rfl)) ?_) | refine Z31 ?_) | (refine Z32 ?_; first | refine Z33 ?_ | refine Z34 ?_ | refine Z35 ?_ | refine Z36 ?_ | refine Z37 ?_ | refine Z38 rfl ?_ | refine Z39 ?_ | refine Z40 ?_ | refine Z41 ?_) | (refine Z42 ?_; first | refine Z43 ?_ | refine Z44 ?_ | refine Z45 ?_ | refine Z46 ?_ | refine Z47 ?_ | refine Z48 ?_ | refine Z49 rfl (by decide) ?_ | refine Z50 rfl (by decide) ?_))
    refine WO_call rfl (CellsValid_ret _ _ _ _ hn) ?_
    rintro _ wn ⟨rfl, eN⟩
    try replace hx := Blk.ext hx eN
    try replace hy := Blk.ext hy eN
    try replace hwy := Blk.ext hwy eN
    try replace hz := Blk.ext hz eN
    try replace hm := CeS.ext hm eN
    try replace hn := CeS.ext hn eN
    try replace hwn := CeS.ext hwn eN
    try replace hp := CeS.ext hp eN
    try replace ha := CeS.ext ha eN
    try replace hb := CeS.ext hb eN
    try replace e0 := Ext.trans e0 eN
    rw [decide_eq_true t1]
    repeat' (first | (refine Z0 ?_; first | refine Z1 rfl ?_ | (refine Z2 ?_; first | refine Z3 rfl rfl (by decide) ?_ | refine Z4 rfl rfl (by decide) ?_ | refine Z5 rfl rfl ?_ | ((refine Z51 rfl rfl (fun c' hc' => ?_)); cases c' <;> (try simp only [decide_eq_true_eq, decide_eq_false_iff_not, beq_iff_eq, beq_eq_false_iff_ne, bne_iff_ne, bne_eq_false_iff_eq, ne_eq, gt_iff_lt, ge_iff_le, Int.not_lt, Int.not_le, Bool.not_eq_true', Bool.not_eq_false', Bool.not_true, Bool.not_false, reduceCtorEq, Decidable.not_not, not_true_eq_false, Bool.true_eq_false, Bool.false_eq_true] at hc') <;> (try (exfalso; omega)))) | (refine Z6 ?_; first | refine Z7 rfl rfl ?_ | refine Z8 rfl rfl ?_) | (refine Z9 ?_; first | refine Z10 rfl (by assumption) (by rfl) ?_ | refine Z11 rfl (by assumption) ?_) | (refine Z12 ?_; first | refine Z13 (Z14 rfl (by decide) rfl) ?_ | refine Z13 (Z15 rfl (by decide) rfl) ?_) | (refine Z16 ?_; first | refine Z17 rfl ?_ | refine Z18 rfl ?_) | (refine Z19 ?_; first | refine Z20 rfl rfl (by omega) ?_ | refine Z21 rfl rfl (by omega) ?_ | refine Z22 rfl rfl (by omega) ?_ | refine Z23 rfl rfl (by omega) (by omega) ?_ | refine Z24 rfl rfl (by omega) (by omega) (by omega) ?_ | refine Z13 (Z25 rfl rfl) ?_ | refine Z13 (Z26 rfl rfl) ?_) | (refine Z27 ?_; refine Z13 (Z28 rfl (Z53 ⟨by omega, by omega⟩)) ?_) | (refine Z29 ?_; refine Z13 (Z30 rfl (by rfl) (by simp only [Z84, List.set_cons_zero, List.set_cons_succ]; rfl)) ?_) | refine Z31 ?_) | (refine Z32 ?_; first | refine Z33 ?_ | refine Z34 ?_ | refine Z35 ?_ | refine Z36 ?_ | refine Z37 ?_ | refine Z38 rfl ?_ | refine Z39 ?_ | refine Z40 ?_ | refine Z41 ?_) | (refine Z42 ?_; first | refine Z43 ?_ | refine Z44 ?_ | refine Z45 ?_ | refine Z46 ?_ | refine Z47 ?_ | refine Z48 ?_ | refine Z49 rfl (by decide) ?_ | refine Z50 rfl (by decide) ?_ | ((refine Z52 rfl (fun hc' => ?_) (fun hc' => ?_)) <;> (try simp only [decide_eq_true_eq, decide_eq_false_iff_not, beq_iff_eq, beq_eq_false_iff_ne, bne_iff_ne, bne_eq_false_iff_eq, ne_eq, gt_iff_lt, ge_iff_le, Int.not_lt, Int.not_le, Bool.not_eq_true', Bool.not_eq_false', Bool.not_true, Bool.not_false, reduceCtorEq, Decidable.not_not, not_true_eq_false, Bool.true_eq_false, Bool.false_eq_true] at hc') <;> (try (exfalso; omega)))))
    exact at_ret1 rfl rfl ⟨by simp, e0⟩
  · rw [decide_eq_false hk]
    repeat' (first | (refine Z0 ?_; first | refine Z1 rfl ?_ | (refine Z2 ?_; first | refine Z3 rfl rfl (by decide) ?_ | refine Z4 rfl rfl (by decide) ?_ | refine Z5 rfl rfl ?_ | ((refine Z51 rfl rfl (fun c' hc' => ?_)); cases c' <;> (try simp only [decide_eq_true_eq, decide_eq_false_iff_not, beq_iff_eq, beq_eq_false_iff_ne, bne_iff_ne, bne_eq_false_iff_eq, ne_eq, gt_iff_lt, ge_iff_le, Int.not_lt, Int.not_le, Bool.not_eq_true', Bool.not_eq_false', Bool.not_true, Bool.not_false, reduceCtorEq, Decidable.not_not, not_true_eq_false, Bool.true_eq_false, Bool.false_eq_true] at hc') <;> (try (exfalso; omega)))) | (refine Z6 ?_; first | refine Z7 rfl rfl ?_ | refine Z8 rfl rfl ?_) | (refine Z9 ?_; first | refine Z10 rfl (by assumption) (by rfl) ?_ | refine Z11 rfl (by assumption) ?_) | (refine Z12 ?_; first | refine Z13 (Z14 rfl (by decide) rfl) ?_ | refine Z13 (Z15 rfl (by decide) rfl) ?_) | (refine Z16 ?_; first | refine Z17 rfl ?_ | refine Z18 rfl ?_) | (refine Z19 ?_; first | refine Z20 rfl rfl (by omega) ?_ | refine Z21 rfl rfl (by omega) ?_ | refine Z22 rfl rfl (by omega) ?_ | refine Z23 rfl rfl (by omega) (by omega) ?_ | refine Z24 rfl rfl (by omega) (by omega) (by omega) ?_ | refine Z13 (Z25 rfl rfl) ?_ | refine Z13 (Z26 rfl rfl) ?_) | (refine Z27 ?_; refine Z13 (Z28 rfl (Z53 ⟨by omega, by omega⟩)) ?_) | (refine Z29 ?_; refine Z13 (Z30 rfl (by rfl) (by simp only [Z84, List.set_cons_zero, List.set_cons_succ]; rfl)) ?_) | refine Z31 ?_) | (refine Z32 ?_; first | refine Z33 ?_ | refine Z34 ?_ | refine Z35 ?_ | refine Z36 ?_ | refine Z37 ?_ | refine Z38 rfl ?_ | refine Z39 ?_ | refine Z40 ?_ | refine Z41 ?_) | (refine Z42 ?_; first | refine Z43 ?_ | refine Z44 ?_ | refine Z45 ?_ | refine Z46 ?_ | refine Z47 ?_ | refine Z48 ?_ | refine Z49 rfl (by decide) ?_ | refine Z50 rfl (by decide) ?_ | ((refine Z52 rfl (fun hc' => ?_) (fun hc' => ?_)) <;> (try simp only [decide_eq_true_eq, decide_eq_false_iff_not, beq_iff_eq, beq_eq_false_iff_ne, bne_iff_ne, bne_eq_false_iff_eq, ne_eq, gt_iff_lt, ge_iff_le, Int.not_lt, Int.not_le, Bool.not_eq_true', Bool.not_eq_false', Bool.not_true, Bool.not_false, reduceCtorEq, Decidable.not_not, not_true_eq_false, Bool.true_eq_false, Bool.false_eq_true] at hc') <;> (try (exfalso; omega)))))
    refine WO_call rfl (bcSame_ret _ _ _ _ _ _ hn hwn) ?_
    rintro _ wn ⟨rfl, eN⟩
    try replace hx := Blk.ext hx eN
    try replace hy := Blk.ext hy eN
    try replace hwy := Blk.ext hwy eN
    try replace hz := Blk.ext hz eN
    try replace hm := CeS.ext hm eN
    try replace hn := CeS.ext hn eN
    try replace hwn := CeS.ext hwn eN
    try replace hp := CeS.ext hp eN
    try replace ha := CeS.ext ha eN
    try replace hb := CeS.ext hb eN
    try replace e0 := Ext.trans e0 eN
    clear eN
    repeat (first | (refine Z0 ?_; first | refine Z1 rfl ?_ | (refine Z2 ?_; first | refine Z3 rfl rfl (by decide) ?_ | refine Z4 rfl rfl (by decide) ?_ | refine Z5 rfl rfl ?_) | (refine Z6 ?_; first | refine Z7 rfl rfl ?_ | refine Z8 rfl rfl ?_) | (refine Z9 ?_; first | refine Z10 rfl (by assumption) (by rfl) ?_ | refine Z11 rfl (by assumption) ?_) | (refine Z12 ?_; first | refine Z13 (Z14 rfl (by decide) rfl) ?_ | refine Z13 (Z15 rfl (by decide) rfl) ?_) | (refine Z16 ?_; first | refine Z17 rfl ?_ | refine Z18 rfl ?_) | (refine Z19 ?_; first | refine Z20 rfl rfl (by omega) ?_ | refine Z21 rfl rfl (by omega) ?_ | refine Z22 rfl rfl (by omega) ?_ | refine Z23 rfl rfl (by omega) (by omega) ?_ | refine Z24 rfl rfl (by omega) (by omega) (by omega) ?_ | refine Z13 (Z25 rfl rfl) ?_ | refine Z13 (Z26 rfl rfl) ?_) | (refine Z27 ?_; refine Z13 (Z28 rfl (Z53 ⟨by omega, by omega⟩)) ?_) | (refine Z29 ?_; refine Z13 (Z30 rfl (by rfl) (by simp only [Z84, List.set_cons_zero, List.set_cons_succ]; rfl)) ?_) | refine Z31 ?_) | (refine Z32 ?_; first | refine Z33 ?_ | refine Z34 ?_ | refine Z35 ?_ | refine Z36 ?_ | refine Z37 ?_ | refine Z38 rfl ?_ | refine Z39 ?_ | refine Z40 ?_ | refine Z41 ?_) | (refine Z42 ?_; first | refine Z43 ?_ | refine Z44 ?_ | refine Z45 ?_ | refine Z46 ?_ | refine Z47 ?_ | refine Z48 ?_ | refine Z49 rfl (by decide) ?_ | refine Z50 rfl (by decide) ?_))
    refine WO_loadSB rfl hy rfl ?_
    repeat (first | (refine Z0 ?_; first | refine Z1 rfl ?_ | (refine Z2 ?_; first | refine Z3 rfl rfl (by decide) ?_ | refine Z4 rfl rfl (by decide) ?_ | refine Z5 rfl rfl ?_) | (refine Z6 ?_; first | refine Z7 rfl rfl ?_ | refine Z8 rfl rfl ?_) | (refine Z9 ?_; first | refine Z10 rfl (by assumption) (by rfl) ?_ | refine Z11 rfl (by assumption) ?_) | (refine Z12 ?_; first | refine Z13 (Z14 rfl (by decide) rfl) ?_ | refine Z13 (Z15 rfl (by decide) rfl) ?_) | (refine Z16 ?_; first | refine Z17 rfl ?_ | refine Z18 rfl ?_) | (refine Z19 ?_; first | refine Z20 rfl rfl (by omega) ?_ | refine Z21 rfl rfl (by omega) ?_ | refine Z22 rfl rfl (by omega) ?_ | refine Z23 rfl rfl (by omega) (by omega) ?_ | refine Z24 rfl rfl (by omega) (by omega) (by omega) ?_ | refine Z13 (Z25 rfl rfl) ?_ | refine Z13 (Z26 rfl rfl) ?_) | (refine Z27 ?_; refine Z13 (Z28 rfl (Z53 ⟨by omega, by omega⟩)) ?_) | (refine Z29 ?_; refine Z13 (Z30 rfl (by rfl) (by simp only [Z84, List.set_cons_zero, List.set_cons_succ]; rfl)) ?_) | refine Z31 ?_) | (refine Z32 ?_; first | refine Z33 ?_ | refine Z34 ?_ | refine Z35 ?_ | refine Z36 ?_ | refine Z37 ?_ | refine Z38 rfl ?_ | refine Z39 ?_ | refine Z40 ?_ | refine Z41 ?_) | (refine Z42 ?_; first | refine Z43 ?_ | refine Z44 ?_ | refine Z45 ?_ | refine Z46 ?_ | refine Z47 ?_ | refine Z48 ?_ | refine Z49 rfl (by decide) ?_ | refine Z50 rfl (by decide) ?_))
    refine WO_loadSB rfl hwy rfl ?_
    repeat (first | (refine Z0 ?_; first | refine Z1 rfl ?_ | (refine Z2 ?_; first | refine Z3 rfl rfl (by decide) ?_ | refine Z4 rfl rfl (by decide) ?_ | refine Z5 rfl rfl ?_) | (refine Z6 ?_; first | refine Z7 rfl rfl ?_ | refine Z8 rfl rfl ?_) | (refine Z9 ?_; first | refine Z10 rfl (by assumption) (by rfl) ?_ | refine Z11 rfl (by assumption) ?_) | (refine Z12 ?_; first | refine Z13 (Z14 rfl (by decide) rfl) ?_ | refine Z13 (Z15 rfl (by decide) rfl) ?_) | (refine Z16 ?_; first | refine Z17 rfl ?_ | refine Z18 rfl ?_) | (refine Z19 ?_; first | refine Z20 rfl rfl (by omega) ?_ | refine Z21 rfl rfl (by omega) ?_ | refine Z22 rfl rfl (by omega) ?_ | refine Z23 rfl rfl (by omega) (by omega) ?_ | refine Z24 rfl rfl (by omega) (by omega) (by omega) ?_ | refine Z13 (Z25 rfl rfl) ?_ | refine Z13 (Z26 rfl rfl) ?_) | (refine Z27 ?_; refine Z13 (Z28 rfl (Z53 ⟨by omega, by omega⟩)) ?_) | (refine Z29 ?_; refine Z13 (Z30 rfl (by rfl) (by simp only [Z84, List.set_cons_zero, List.set_cons_succ]; rfl)) ?_) | refine Z31 ?_) | (refine Z32 ?_; first | refine Z33 ?_ | refine Z34 ?_ | refine Z35 ?_ | refine Z36 ?_ | refine Z37 ?_ | refine Z38 rfl ?_ | refine Z39 ?_ | refine Z40 ?_ | refine Z41 ?_) | (refine Z42 ?_; first | refine Z43 ?_ | refine Z44 ?_ | refine Z45 ?_ | refine Z46 ?_ | refine Z47 ?_ | refine Z48 ?_ | refine Z49 rfl (by decide) ?_ | refine Z50 rfl (by decide) ?_))
    refine Z13 (q_eqPtS (newP m val) rfl rfl) ?_
    repeat' (first | (refine Z0 ?_; first | refine Z1 rfl ?_ | (refine Z2 ?_; first | refine Z3 rfl rfl (by decide) ?_ | refine Z4 rfl rfl (by decide) ?_ | refine Z5 rfl rfl ?_ | ((refine Z51 rfl rfl (fun c' hc' => ?_)); cases c' <;> (try simp only [decide_eq_true_eq, decide_eq_false_iff_not, beq_iff_eq, beq_eq_false_iff_ne, bne_iff_ne, bne_eq_false_iff_eq, ne_eq, gt_iff_lt, ge_iff_le, Int.not_lt, Int.not_le, Bool.not_eq_true', Bool.not_eq_false', Bool.not_true, Bool.not_false, reduceCtorEq, Decidable.not_not, not_true_eq_false, Bool.true_eq_false, Bool.false_eq_true] at hc') <;> (try (exfalso; omega)))) | (refine Z6 ?_; first | refine Z7 rfl rfl ?_ | refine Z8 rfl rfl ?_) | (refine Z9 ?_; first | refine Z10 rfl (by assumption) (by rfl) ?_ | refine Z11 rfl (by assumption) ?_) | (refine Z12 ?_; first | refine Z13 (Z14 rfl (by decide) rfl) ?_ | refine Z13 (Z15 rfl (by decide) rfl) ?_) | (refine Z16 ?_; first | refine Z17 rfl ?_ | refine Z18 rfl ?_) | (refine Z19 ?_; first | refine Z20 rfl rfl (by omega) ?_ | refine Z21 rfl rfl (by omega) ?_ | refine Z22 rfl rfl (by omega) ?_ | refine Z23 rfl rfl (by omega) (by omega) ?_ | refine Z24 rfl rfl (by omega) (by omega) (by omega) ?_ | refine Z13 (Z25 rfl rfl) ?_ | refine Z13 (Z26 rfl rfl) ?_) | (refine Z27 ?_; refine Z13 (Z28 rfl (Z53 ⟨by omega, by omega⟩)) ?_) | (refine Z29 ?_; refine Z13 (Z30 rfl (by rfl) (by simp only [Z84, List.set_cons_zero, List.set_cons_succ]; rfl)) ?_) | refine Z31 ?_) | (refine Z32 ?_; first | refine Z33 ?_ | refine Z34 ?_ | refine Z35 ?_ | refine Z36 ?_ | refine Z37 ?_ | refine Z38 rfl ?_ | refine Z39 ?_ | refine Z40 ?_ | refine Z41 ?_) | (refine Z42 ?_; first | refine Z43 ?_ | refine Z44 ?_ | refine Z45 ?_ | refine Z46 ?_ | refine Z47 ?_ | refine Z48 ?_ | refine Z49 rfl (by decide) ?_ | refine Z50 rfl (by decide) ?_ | ((refine Z52 rfl (fun hc' => ?_) (fun hc' => ?_)) <;> (try simp only [decide_eq_true_eq, decide_eq_false_iff_not, beq_iff_eq, beq_eq_false_iff_ne, bne_iff_ne, bne_eq_false_iff_eq, ne_eq, gt_iff_lt, ge_iff_le, Int.not_lt, Int.not_le, Bool.not_eq_true', Bool.not_eq_false', Bool.not_true, Bool.not_false, reduceCtorEq, Decidable.not_not, not_true_eq_false, Bool.true_eq_false, Bool.false_eq_true] at hc') <;> (try (exfalso; omega)))))
    exact at_ret1 rfl rfl ⟨by simp, e0⟩
end Go.Proofs.Ytmmhoihebbhakaa
