/-
  What is proved here: what the variables of statements are, said of lists. No function of the program stands here.
-/
import Derived.Test.YtplcmbipeanjdaaVars
import Derived.Test.YtplcmbipeanjdaaLsP
import Derived.Test.YtplcmbipeanjdaaRenP
import Derived.Test.YtplcmbipeanjdaaTxt
namespace Go.Proofs.Ytplcmbipeanjdaa
set_option linter.unusedVariables false
set_option linter.unusedSimpArgs false
set_option linter.unnecessarySimpa false
open Go.RowKit

theorem truesTo_mem (fl : List Bool) : ∀ (k : Nat) (v : Int), v ∈ truesTo fl k ↔ ∃ i : Nat, i < k ∧ v = i ∧ fl[i]? = some true
  | 0, v => by simp [truesTo]
  | k + 1, v => by
    unfold truesTo
    rw [List.mem_append, truesTo_mem fl k v]
    constructor
    · rintro (⟨i, h1, h2, h3⟩ | h)
      · exact ⟨i, by omega, h2, h3⟩
      · by_cases hk : fl[k]? = some true
        · rw [if_pos hk] at h
          exact ⟨k, by omega, by simpa using h, hk⟩
        · rw [if_neg hk] at h
          simp at h
    · rintro ⟨i, h1, h2, h3⟩
      by_cases hik : i = k
      · subst hik
        rw [if_pos h3]
        exact .inr (by simp [h2])
      · exact .inl ⟨i, by omega, h2, h3⟩
theorem truesTo_sorted (fl : List Bool) : ∀ (k : Nat), (truesTo fl k).Pairwise (· < ·)
  | 0 => by simp [truesTo]
  | k + 1 => by
    unfold truesTo
    rw [List.pairwise_append]
    refine ⟨truesTo_sorted fl k, by split <;> simp, fun a ha b hb => ?_⟩
    obtain ⟨i, h1, h2, _⟩ := (truesTo_mem fl k a).1 ha
    split at hb
    · simp at hb
      omega
    · simp at hb
theorem varsL_mem {op x y : Int} {t e : Ss} {v : Int} : v ∈ varsL op x y t e ↔ ∃ i : Nat, i < 6 ∧ v = i ∧ (usesS noVars op x y t e)[i]? = some true := truesTo_mem _ _ _
theorem mark1_keep {fl : List Bool} {v : Int} {i : Nat} (h : fl[i]? = some true) : (mark1 fl v)[i]? = some true := by
  unfold mark1
  split
  · rw [List.getElem?_set]
    split
    · rename_i hi
      rw [if_pos (by have := (List.getElem?_eq_some_iff.1 h).1; omega)]
    · exact h
  · exact h
theorem mark1_at {fl : List Bool} {v : Int} (hl : fl.length = 6) (hv : 0 ≤ v ∧ v < 6) : (mark1 fl v)[v.toNat]? = some true := by
  unfold mark1
  rw [if_pos hv, List.getElem?_set, if_pos rfl, if_pos (by omega)]
theorem uses1_keep {fl : List Bool} {op x y : Int} {i : Nat} (h : fl[i]? = some true) : (uses1 fl op x y)[i]? = some true := by
  unfold uses1
  split
  · apply mark1_keep
    split
    · exact mark1_keep h
    · exact h
  · split
    · exact mark1_keep h
    · exact h
theorem usesL_keep : ∀ (l : Ss) {fl : List Bool} {i : Nat}, fl[i]? = some true → (usesL l fl)[i]? = some true
  | .nil, _, _, h => h
  | .cons op x y n t e r, _, _, h => by
    simp only [usesL]
    exact usesL_keep r (usesL_keep e (usesL_keep t (uses1_keep h)))
theorem typeOfL_take {tl : List Int} {v : Int} {m : Nat} (h : typeOfL tl v ≠ 0 → v < m) : typeOfL (tl.take m) v = typeOfL tl v := by
  by_cases hv : 0 ≤ v ∧ v < (tl.length : Int)
  · by_cases h0 : typeOfL tl v = 0
    · rw [h0]
      unfold typeOfL at h0 ⊢
      rw [if_pos hv] at h0
      split
      · rename_i h1
        rw [List.getD_eq_getElem?_getD, List.getElem?_take]
        simp only [List.length_take] at h1
        rw [if_pos (by omega), ← List.getD_eq_getElem?_getD]
        exact h0
      · rfl
    · have := h h0
      unfold typeOfL
      rw [if_pos hv, if_pos (by simp only [List.length_take]; omega), List.getD_eq_getElem?_getD, List.getElem?_take, if_pos (by omega), ← List.getD_eq_getElem?_getD]
  · unfold typeOfL
    rw [if_neg hv, if_neg (by simp only [List.length_take]; omega)]
theorem simple_take {tl : List Int} {op x y n : Int} {a b m : Nat} (h : SimpleP tl op x y n a b) (hx : typeOfL tl x ≠ 0 → x < m) (hy : 3 ≤ op ∧ op ≤ 7 → typeOfL tl y ≠ 0 → y < m) : SimpleP (tl.take m) op x y n a b := by
  unfold SimpleP at h ⊢
  rw [typeOfL_take hx]
  obtain ⟨h1, h2, h3, h4, h5⟩ := h
  refine ⟨h1, h2, h3, h4, ?_⟩
  by_cases h37 : 3 ≤ op ∧ op ≤ 7
  · rw [typeOfL_take (hy h37)]
    exact h5
  · rcases h5 with h | h | h | h | h | h | h
    · exact .inl h
    · exact .inr (.inl h)
    all_goals
      exfalso
      apply h37
      have hq := h.1
      clear h h1 h2 hx hy
      omega
def Below6 (m : Nat) (fl : List Bool) : Prop := ∀ i : Nat, fl[i]? = some true → i < m
theorem okS_narrow {tl : List Int} {d m : Nat} {op x y n : Int} {t e : Ss} {fl : List Bool} (hl6 : tl.length ≤ 6) (hf : fl.length = 6) (h : okS tl d op x y n t e = true) (hb : Below6 m (usesS fl op x y t e))
    (it : ∀ gl, gl.length = 6 → okL tl (d - 1) t = true → Below6 m (usesL t gl) → okL (tl.take m) (d - 1) t = true) (ie : ∀ gl, gl.length = 6 → okL tl (d - 1) e = true → Below6 m (usesL e gl) → okL (tl.take m) (d - 1) e = true) : okS (tl.take m) d op x y n t e = true := by
  unfold okS at h ⊢
  by_cases h9 : op = 9 ∨ op = 10
  · rw [if_pos h9, Bool.and_eq_true, Bool.and_eq_true] at h ⊢
    refine ⟨⟨h.1.1, ?_⟩, ?_⟩
    · exact it (uses1 fl op x y) (by rw [uses1_length]; exact hf) h.1.2 (fun i hi => hb i (usesL_keep e hi))
    · exact ie (usesL t (uses1 fl op x y)) (by rw [usesL_length, uses1_length]; exact hf) h.2 hb
  · rw [if_neg h9, decide_eq_true_eq] at h ⊢
    obtain ⟨a1, a2, a3, a4, _, _⟩ := simple_form h hl6
    refine simple_take h (fun hx => ?_) (fun h37 hy => ?_)
    · have hu : (uses1 fl op x y)[x.toNat]? = some true := by
        unfold uses1
        rw [if_pos (show op < 9 by omega)]
        split
        · exact mark1_keep (mark1_at hf a2)
        · exact mark1_at hf a2
      have := hb x.toNat (usesL_keep e (usesL_keep t hu))
      omega
    · have hyr : 0 ≤ y ∧ y < 6 := by omega
      have hu : (uses1 fl op x y)[y.toNat]? = some true := by
        unfold uses1
        rw [if_pos h37]
        refine mark1_at ?_ hyr
        split
        · rw [mark1_length]; exact hf
        · exact hf
      have := hb y.toNat (usesL_keep e (usesL_keep t hu))
      omega
theorem okL_narrow {tl : List Int} {m : Nat} (hl6 : tl.length ≤ 6) : ∀ (l : Ss) (d : Nat) (fl : List Bool), fl.length = 6 → okL tl d l = true → Below6 m (usesL l fl) → okL (tl.take m) d l = true
  | .nil, _, _, _, _, _ => rfl
  | .cons op x y n t e r, d, fl, hf, h, hb => by
    rw [okL_cons, Bool.and_eq_true] at h ⊢
    simp only [usesL] at hb
    refine ⟨okS_narrow (fl := fl) hl6 hf h.1 (fun i hi => hb i (usesL_keep r hi)) (fun gl hg ho hbl => okL_narrow hl6 t _ gl hg ho hbl) (fun gl hg ho hbl => okL_narrow hl6 e _ gl hg ho hbl), ?_⟩
    exact okL_narrow hl6 r d _ (by rw [usesL_length, usesL_length, uses1_length]; exact hf) h.2 hb
/-- Bits of variables that are no variables of the program are not set. -/
theorem usesL_out {tl : List Int} (hl6 : tl.length ≤ 6) : ∀ (l : Ss) (d : Nat) (fl : List Bool), okL tl d l = true → Below6 tl.length fl → Below6 tl.length (usesL l fl)
  | .nil, _, _, _, h => h
  | .cons op x y n t e r, d, fl, h, hb => by
    rw [okL_cons, Bool.and_eq_true] at h
    simp only [usesL]
    refine usesL_out hl6 r d _ h.2 ?_
    have h1 : Below6 tl.length (uses1 fl op x y) := by
      rcases okS_vars h.1 with ⟨h9, _, _⟩ | ⟨h18, hx, hy, _, _⟩
      · unfold uses1
        rw [if_neg (by omega), if_neg (by omega)]
        exact hb
      · have mk : ∀ (gl : List Bool) (v : Int), Below6 tl.length gl → (0 ≤ v ∧ v < (tl.length : Int)) → Below6 tl.length (mark1 gl v) := fun gl v hg hv i hi => by
          unfold mark1 at hi
          rw [if_pos (by omega), List.getElem?_set] at hi
          split at hi
          · omega
          · exact hg i hi
        unfold uses1
        rw [if_pos (show op < 9 by omega)]
        split
        · rename_i h37
          exact mk _ _ (mk _ _ hb hx) (hy h37)
        · exact mk _ _ hb hx
    rcases okS_vars h.1 with ⟨h9, hT, hE⟩ | ⟨h18, hx, hy, ht, he⟩
    · exact usesL_out hl6 e _ _ hE (usesL_out hl6 t _ _ hT h1)
    · subst ht; subst he
      exact h1
end Go.Proofs.Ytplcmbipeanjdaa
