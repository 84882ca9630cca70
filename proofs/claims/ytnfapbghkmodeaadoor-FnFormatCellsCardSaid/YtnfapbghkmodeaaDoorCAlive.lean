/-
  What is proved here: AliveCells of the program and of the reference compute the same; the law FnExactAliveCells.
-/
import Derived.Test.YtnfapbghkmodeaaDoorCVal
import Derived.Test.YtnfapbghkmodeaaDoorCMk
namespace Go.Proofs.YtnfapbghkmodeaaDoor
set_option linter.unusedVariables false
set_option linter.unusedSimpArgs false
set_option linter.unnecessarySimpa false
open Go.RowKit

def aliveTo (l : List Ce) : Nat → List Int
  | 0 => []
  | i + 1 => aliveTo l i ++ (if (l[i]?.map (·.al)) = some true then [(i : Int)] else [])
theorem aliveTo_length (l : List Ce) : ∀ i, (aliveTo l i).length ≤ i
  | 0 => Nat.le_refl _
  | i + 1 => by
    have := aliveTo_length l i
    unfold aliveTo
    split <;> simp <;> omega
def aliveL (l : List Ce) : List Int := if cellsOk l then aliveTo l l.length else []
theorem aliveL_length (l : List Ce) : (aliveL l).length ≤ l.length := by
  unfold aliveL
  split
  · exact aliveTo_length l _
  · simp
theorem sAliveCells_ret (v : Value) (l : List Ce) (F : List Nat) (w : World) (h : CeS w v l F) (hn : l.length ≤ 1048576) : Ret Tryd.prog 15 [v] w (NewInts (aliveL l) w) := by
  obtain ⟨A, c, rfl, hl⟩ := h.slice
  refine enter Tryd.func15 rfl Tryd.ntmps15 rfl rfl ?_
  refine goS ?_
  refine WO_build0 (e := 3) (k := 1) fun w0 hb0 e0 z0 => ?_
  have hown0 := owns_empty (B := w.heap.size) (k := 1) hb0 (Nat.le_refl _)
  refine goS ?_
  refine W_loop (α := Nat × Value) (fun p => [(0, .slice A l.length c), (3, p.2), (4, .int .i64 (p.1 : Int))])
    (fun p w' => p.1 ≤ l.length ∧ (p.1 = 0 ∨ cellsOk l) ∧ Ext w w' ∧ w'.ownsRow w.heap.size 3 1 p.2 (aliveTo l p.1).length ((aliveTo l p.1).map (.int .i64))) (fun p => l.length - p.1) (0, _) (by repeat (first | exact True.intro | refine And.intro rfl ?_)) ⟨Nat.zero_le _, .inl rfl, e0, hown0⟩ ?_
  rintro ⟨i, vo⟩ w1 ⟨hi, h0, he, hown⟩
  simp only at hi h0 he hown ⊢
  have done : ∀ w2, Ext w1 w2 → (i = l.length ∨ ¬ cellsOk l) → NewInts (aliveL l) w vo w2 := fun w2 e2 hd => by
    have hrow : w2.ownsRow w.heap.size 3 1 vo (aliveL l).length ((aliveL l).map (.int .i64)) := by
      have hk := ownsRow_ext hown e2
      have : aliveL l = aliveTo l i := by
        unfold aliveL
        by_cases hc : cellsOk l
        · rw [if_pos hc]
          rcases hd with hd | hd
          · rw [hd]
          · exact absurd hc hd
        · rw [if_neg hc]
          rcases h0 with h0 | h0
          · rw [h0]; rfl
          · exact absurd h0 hc
      rw [this]
      exact hk
    obtain ⟨F', hF, hB, _⟩ := OwnI.of_row hrow rfl (by have := aliveL_length l; unfold maxI; omega)
    exact ⟨⟨F', hF, hB⟩, he.trans e2⟩
  have hal := aliveTo_length l i
  clear h0
  (refine goS ?_; repeat' (first | ((refine Z51 rfl rfl (fun c' hc' => ?_)); cases c' <;> (try simp only [decide_eq_true_eq, decide_eq_false_iff_not, beq_iff_eq, beq_eq_false_iff_ne, bne_iff_ne, bne_eq_false_iff_eq, ne_eq, gt_iff_lt, ge_iff_le, Int.not_lt, Int.not_le, Bool.not_eq_true', Bool.not_eq_false', Bool.not_true, Bool.not_false, reduceCtorEq, Decidable.not_not, not_true_eq_false, Bool.true_eq_false, Bool.false_eq_true] at hc') <;> (try (exfalso; omega)) <;> refine goS ?_) | ((refine Z52 rfl (fun hc' => ?_) (fun hc' => ?_)) <;> (try simp only [decide_eq_true_eq, decide_eq_false_iff_not, beq_iff_eq, beq_eq_false_iff_ne, bne_iff_ne, bne_eq_false_iff_eq, ne_eq, gt_iff_lt, ge_iff_le, Int.not_lt, Int.not_le, Bool.not_eq_true', Bool.not_eq_false', Bool.not_true, Bool.not_false, reduceCtorEq, Decidable.not_not, not_true_eq_false, Bool.true_eq_false, Bool.false_eq_true] at hc') <;> (try (exfalso; omega)) <;> refine goS ?_)))
  · exact at_ret1 rfl rfl (done w1 (Ext.refl _) (.inl (by omega)))
  · have hlt : i < l.length := by omega
    refine WO_call rfl (sCellsValid_ret _ l F w1 (h.ext he)) ?_
    rintro r w2 ⟨rfl, e2⟩
    by_cases hok : cellsOk l
    · rw [decide_eq_true hok]
      obtain ⟨b, o, vs, Fs, rfl, _, c0, c1, c2, c3, hst, _⟩ := ces_at (h.ext (he.trans e2)) hlt
      clear hst c0 c2 c3
      refine goS ?_
      refine Z83 rfl rfl rfl hlt ?_
      have hstep : ∀ (bl : Bool), l[i].al = bl → aliveTo l (i + 1) = aliveTo l i ++ (if bl then [(i : Int)] else []) := fun bl hb => by
        simp only [aliveTo, List.getElem?_eq_getElem hlt, Option.map_some, hb]
        cases bl <;> rfl
      refine goS ?_
      cases hb : l[i].al
      · have hs := hstep _ hb
        refine goS ?_
        refine at_loop (i + 1, vo) (by repeat (first | exact True.intro | refine And.intro rfl ?_)) ⟨hlt, .inr hok, he.trans e2, ?_⟩ (by simp only; omega)
        simp only
        rw [hs]
        simpa using ownsRow_ext hown e2
      · have hs := hstep _ hb
        refine goS ?_
        have hown2 := ownsRow_ext hown e2
        refine WO_app1 (m := (aliveTo l i).length) rfl rfl one_int rfl hown2 (he.trans e2).size rfl (by omega) (by decide) fun v' w3 hown3 hg hat => ?_
        refine goS ?_
        refine at_loop (i + 1, v') (by repeat (first | exact True.intro | refine And.intro rfl ?_)) ⟨hlt, .inr hok, grown_below (he.trans e2) hown2 hg (Nat.le_refl _), ?_⟩ (by simp only; omega)
        simp only
        rw [hs, if_pos rfl, List.length_append, List.map_append]
        exact hown3
    · rw [decide_eq_false hok]
      refine goS ?_
      exact at_ret1 rfl rfl (done w2 e2 (.inr hok))
theorem AliveCells_ret (v : Value) (l : List Ce) (F : List Nat) (w : World) (h : CeS w v l F) (hn : l.length ≤ 1048576) : Ret Tryd.prog 12 [v] w (NewInts (aliveL l) w) := by
  obtain ⟨A, c, rfl, hl⟩ := h.slice
  refine enter Tryd.func12 rfl Tryd.ntmps12 rfl rfl ?_
  refine goS ?_
  refine WO_call rfl (CellsValid_ret _ l F w h) ?_
  rintro r w0 ⟨rfl, e0⟩
  by_cases hok : cellsOk l
  · rw [decide_eq_true hok]
    have hAL : aliveL l = aliveTo l l.length := by unfold aliveL; rw [if_pos hok]
    refine goS ?_
    refine W_loop (α := Nat × Value) (fun p => [(3, p.2), (9, .slice A l.length c), (10, .int .i64 (l.length : Int)), (11, .int .i64 (p.1 : Int))])
      (fun p w' => p.1 ≤ l.length ∧ Ext w w' ∧ w'.ownsRow w.heap.size 3 1 p.2 (aliveTo l p.1).length ((aliveTo l p.1).map (.int .i64))) (fun p => l.length - p.1) (0, _) (by repeat (first | exact True.intro | refine And.intro rfl ?_)) ⟨Nat.zero_le _, e0, World.ownsRow_nil _ _ _ _⟩ ?_
    rintro ⟨i, vo⟩ w1 ⟨hi, he, hown⟩
    simp only at hi he hown ⊢
    have hal := aliveTo_length l i
    refine goS ?_
    refine Z52 rfl (fun hc => ?_) (fun hc => ?_)
    · have hlt : i < l.length := by simpa using hc
      obtain ⟨b, o, vs, Fs, rfl, _, c0, c1, c2, c3, hst, _⟩ := ces_at (h.ext he) hlt
      have hone : vs.oneCell' = true := by obtain ⟨_, _, rfl, _⟩ := hst.slice; rfl
      have hstep : ∀ (bl : Bool), l[i].al = bl → aliveTo l (i + 1) = aliveTo l i ++ (if bl then [(i : Int)] else []) := fun bl hb => by
        simp only [aliveTo, List.getElem?_eq_getElem hlt, Option.map_some, hb]
        cases bl <;> rfl
      refine goS ?_
      refine Z83 rfl rfl rfl hlt ?_
      refine WO_loadS rfl rfl (four c0 c1 c2 c3) ?_
      refine WO_alloc fun w2 hs he2 hz2 => ?_
      refine goS ?_
      refine WO_storeS (k := 4) (vs := [.int .i64 l[i].val, .bool l[i].al, .int .i64 l[i].nx, vs]) rfl rfl rfl (by intro v hv; simp at hv; rcases hv with rfl | rfl | rfl | rfl <;> first | rfl | exact hone) hs (by decide) fun w3 hs3 o3 => ?_
      replace hs3 : Blk w3 w1.heap.size [.int .i64 l[i].val, .bool l[i].al, .int .i64 l[i].nx, vs] _ := hs3
      have he3 : Ext w1 w3 := he2.only o3 (Nat.le_refl _)
      have hown3 := ownsRow_ext hown he3
      have he03 := he.trans he3
      clear c0 c1 c2 c3 hst hs
      refine goS ?_
      cases hb : l[i].al
      · have hs := hstep _ hb
        refine goS ?_
        refine at_loop (i + 1, vo) (by repeat (first | exact True.intro | refine And.intro rfl ?_)) ⟨hlt, he03, ?_⟩ (by simp only; omega)
        simp only
        rw [hs]
        simpa using hown3
      · have hs := hstep _ hb
        refine goS ?_
        refine WO_app1 (m := (aliveTo l i).length) rfl rfl one_int rfl hown3 he03.size rfl (by omega) (by decide) fun v' w4 hown4 hg hat => ?_
        refine goS ?_
        refine at_loop (i + 1, v') (by repeat (first | exact True.intro | refine And.intro rfl ?_)) ⟨hlt, grown_below he03 hown3 hg (Nat.le_refl _), ?_⟩ (by simp only; omega)
        simp only
        rw [hs, if_pos rfl, List.length_append, List.map_append]
        exact hown4
    · have hge : i = l.length := by simp at hc; omega
      subst hge
      rw [← hAL] at hown
      obtain ⟨F', hF, hB, _⟩ := OwnI.of_row hown rfl (by have := aliveL_length l; unfold maxI; omega)
      refine goS ?_
      exact at_ret1 rfl rfl ⟨⟨F', hF, hB⟩, he⟩
  · rw [decide_eq_false hok]
    have hAL : aliveL l = [] := by unfold aliveL; rw [if_neg hok]
    refine goS ?_
    refine at_ret1 rfl rfl ⟨⟨[], ?_, by simp⟩, e0⟩
    rw [hAL]
    exact ⟨none, 0, rfl, by simp, .inl ⟨rfl, rfl⟩⟩
theorem kAt_all (l : List Ce) (hn : cSize l ≤ 1048576) : 1 ≤ kAt 1 l l.length ∧ kAt 1 l l.length ≤ 4611686018427387904 := by
  unfold cSize at hn
  unfold kAt
  rw [List.take_length]
  omega
end Go.Proofs.YtnfapbghkmodeaaDoor
