/-
  What is proved here: what is valid of parts of programs, of wider types and of single statements. No function of the program stands here.
-/
import Derived.Test.YtplcmbipeanjdaaLil
namespace Go.Proofs.Ytplcmbipeanjdaa
set_option linter.unusedVariables false
set_option linter.unusedSimpArgs false
set_option linter.unnecessarySimpa false
open Go.RowKit

theorem valid_one (tl : List Int) (op x y n : Int) (t e : Ss) : validP tl (Ss.one op x y n t e) = stmtValidB tl op x y n t e := by
  unfold validP stmtValidB Ss.one
  rw [okL_cons]
  show (okT tl && ((okS tl 4 op x y n t e && true) && decide (1 + cntL t + cntL e + 0 ≤ 30))) = _
  rw [Bool.and_true]
  rfl
theorem stS_mk1 {w : World} {b : Nat} {ty : TypeId} {op x y n : Int} {vt ve : Value} {t e : Ss} {F1 F2 : List Nat} (hb : Blk w b [.int .i64 op, .int .i64 x, .int .i64 y, .int .i64 n, vt, ve] ty) (hT : StS w vt t F1) (hE : StS w ve e F2) :
    StS w (.slice (some ⟨b, 0, none⟩) 1 1) (Ss.one op x y n t e) (b :: (F1 ++ (F2 ++ []))) :=
  ⟨_, 1, rfl, ⟨by unfold maxI; simp [Ss.one, Ss.len], by simp [Ss.one, Ss.len]⟩, .inr ⟨b, 0, _, rfl, rfl, ⟨hb.cell rfl, hb.cell rfl, hb.cell rfl, hb.cell rfl, vt, F1, _, rfl, hb.cell rfl, hT, ve, F2, [], rfl, hb.cell rfl, hE, rfl⟩⟩⟩
theorem typeOfL_wide {tl : List Int} {v k : Int} (h : typeOfL tl v ≠ 0) : typeOfL (tl ++ [k]) v = typeOfL tl v := by
  unfold typeOfL at h ⊢
  by_cases hv : 0 ≤ v ∧ v < tl.length
  · have h2 : 0 ≤ v ∧ v < ((tl ++ [k]).length : Int) := by simp; omega
    simp only [hv, h2, and_self, if_true] at h ⊢
    rw [List.getD_eq_getElem?_getD, List.getD_eq_getElem?_getD, List.getElem?_append_left (by omega)]
  · exfalso
    apply h
    simp only [hv, if_false]
theorem simple_wide {tl : List Int} {op x y n k : Int} {a b : Nat} (h : SimpleP tl op x y n a b) : SimpleP (tl ++ [k]) op x y n a b := by
  unfold SimpleP at h ⊢
  obtain ⟨h1, h2, h3, h4, h5⟩ := h
  have hx := typeOfL_wide (tl := tl) (v := x) (k := k)
  have hy := typeOfL_wide (tl := tl) (v := y) (k := k)
  refine ⟨h1, h2, h3, h4, ?_⟩
  have ex : typeOfL (tl ++ [k]) x = typeOfL tl x := hx (by rcases h5 with h | h | h | h | h | h | h <;> omega)
  rw [ex]
  rcases h5 with h | h | h | h | h | h | h
  · exact .inl h
  · exact .inr (.inl h)
  · exact .inr (.inr (.inl ⟨h.1, h.2.1, by rw [hy (by omega)]; exact h.2.2⟩))
  · exact .inr (.inr (.inr (.inl ⟨h.1, h.2.1, by rw [hy (by omega)]; exact h.2.2⟩)))
  · exact .inr (.inr (.inr (.inr (.inl ⟨h.1, h.2.1, by rw [hy (by omega)]; exact h.2.2⟩))))
  · exact .inr (.inr (.inr (.inr (.inr (.inl ⟨h.1, h.2.1, by rw [hy (by omega)]; exact h.2.2⟩)))))
  · exact .inr (.inr (.inr (.inr (.inr (.inr ⟨h.1, h.2.1, by rw [hy (by omega)]; exact h.2.2⟩)))))
theorem okL_wide {tl : List Int} {k : Int} : ∀ (l : Ss) (d : Nat), okL tl d l = true → okL (tl ++ [k]) d l = true
  | .nil, _, _ => rfl
  | .cons op x y n t e r, d, h => by
    rw [okL_cons, Bool.and_eq_true] at h ⊢
    refine ⟨?_, okL_wide r d h.2⟩
    have h1 := h.1
    unfold okS at h1 ⊢
    by_cases h9 : op = 9 ∨ op = 10
    · rw [if_pos h9, Bool.and_eq_true, Bool.and_eq_true] at h1 ⊢
      exact ⟨⟨h1.1.1, okL_wide t _ h1.1.2⟩, okL_wide e _ h1.2⟩
    · rw [if_neg h9, decide_eq_true_eq] at h1 ⊢
      exact simple_wide h1
theorem stmt_wide {tl : List Int} {op x y n : Int} {t e : Ss} (h : stmtValidB tl op x y n t e = true) (hl : tl.length ≠ 6) : stmtValidB (tl ++ [1]) op x y n t e = true := by
  rw [← valid_one] at h ⊢
  unfold validP at h ⊢
  rw [Bool.and_eq_true, Bool.and_eq_true] at h ⊢
  refine ⟨?_, okL_wide _ _ h.2.1, h.2.2⟩
  have h1 := h.1
  unfold okT at h1 ⊢
  rw [Bool.and_eq_true, decide_eq_true_eq] at h1 ⊢
  refine ⟨by simp; omega, ?_⟩
  rw [List.all_append, h1.2]
  rfl
theorem validP_iff {tl : List Int} {l : Ss} : validP tl l = true ↔ okT tl = true ∧ okL tl 4 l = true ∧ cntL l ≤ 30 := by
  unfold validP
  rw [Bool.and_eq_true, Bool.and_eq_true, decide_eq_true_eq]
theorem validP_parts {tl : List Int} {op x y n : Int} {t e r : Ss} (h : validP tl (.cons op x y n t e r) = true) : validP tl r = true ∧ validP tl (Ss.one op x y n t e) = true := by
  rw [validP_iff] at h ⊢
  rw [validP_iff]
  obtain ⟨h1, h2, h3⟩ := h
  rw [okL_cons, Bool.and_eq_true] at h2
  simp only [cntL] at h3
  refine ⟨⟨h1, h2.2, by omega⟩, h1, ?_, ?_⟩
  · unfold Ss.one
    rw [okL_cons, h2.1]
    rfl
  · simp only [Ss.one, cntL]
    omega
theorem countP_of {tl : List Int} {l : Ss} (h : validP tl l = true) : countP tl l = cntL l := by unfold countP; rw [if_pos h]
theorem okL_appC (tl : List Int) (d : Nat) : ∀ a b : Ss, okL tl d (a.app b) = (okL tl d a && okL tl d b)
  | .nil, b => by simp [Ss.app, okL]
  | .cons op x y n t e r, b => by
    show okL tl d (.cons op x y n t e (r.app b)) = _
    rw [okL_cons, okL_cons, okL_appC tl d r b, Bool.and_assoc]
theorem validP_mid {tl : List Int} {a r t e : Ss} {op x y n : Int} (h : validP tl (a.app (.cons op x y n t e r)) = true) : validP tl (Ss.one op x y n t e) = true := by
  have h2 : validP tl (.cons op x y n t e r) = true := by
    rw [validP_iff] at h ⊢
    rw [okL_appC, Bool.and_eq_true, cntL_app] at h
    exact ⟨h.1, h.2.1.2, by omega⟩
  exact (validP_parts h2).2
theorem Ss.take_full : ∀ l : Ss, l.take l.len = l
  | .nil => rfl
  | .cons op x y n t e r => by
    show Ss.cons op x y n t e (r.take r.len) = _
    rw [Ss.take_full r]
theorem cnt_snoc (d t e : Ss) (op x y n : Int) : cntL (d.snoc op x y n t e) = cntL d + (1 + cntL t + cntL e) := by
  simp only [Ss.snoc, cntL_app, Ss.one, cntL]
  omega
end Go.Proofs.Ytplcmbipeanjdaa
