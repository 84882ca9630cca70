/-
  What is proved here: renaming back undoes a renaming. No function of the program stands here.
-/
import Derived.Test.YtpmgfokcbgdegaaRenP
import Derived.Test.YtpmgfokcbgdegaaLsP
namespace Go.Proofs.Ytpmgfokcbgdegaa
set_option linter.unusedVariables false
set_option linter.unusedSimpArgs false
set_option linter.unnecessarySimpa false
open Go.RowKit

theorem getD_lt {l : List Int} {i : Nat} (h : i < l.length) : l.getD i 0 = l[i] := by
  rw [List.getD_eq_getElem?_getD, List.getElem?_eq_getElem h]
  rfl
theorem ren_in {ns : List Int} (h : renOk ns) {i : Nat} (hi : i < ns.length) : 0 ≤ ns.getD i 0 ∧ ns.getD i 0 < (ns.length : Int) := by
  rw [getD_lt hi]
  exact h.1 _ (List.getElem_mem hi)
theorem ren_inj {ns : List Int} (h : renOk ns) {i j : Nat} (hi : i < ns.length) (hj : j < ns.length) (he : ns.getD i 0 = ns.getD j 0) : i = j := by
  rw [getD_lt hi, getD_lt hj] at he
  exact (List.getElem_inj h.2).1 he
theorem getD_set {l : List Int} {i j : Nat} {x : Int} (hj : j < l.length) : (l.set i x).getD j 0 = if i = j then x else l.getD j 0 := by
  rw [List.getD_eq_getElem?_getD, List.getElem?_set]
  by_cases hij : i = j
  · subst hij
    rw [if_pos rfl, if_pos hj, if_pos rfl]
    rfl
  · rw [if_neg hij, if_neg hij, List.getD_eq_getElem?_getD]
theorem setTo_at {ns tl : List Int} (h : renOk ns) : ∀ (v : Nat), v ≤ ns.length → ∀ i, i < v → (setTo ns tl v).getD (ns.getD i 0).toNat 0 = tl.getD i 0
  | 0, _, _, hi => by omega
  | v + 1, hv, i, hi => by
    have hb := ren_in h (i := i) (by omega)
    have hbv := ren_in h (i := v) (by omega)
    simp only [setTo]
    rw [getD_set (by rw [setTo_length]; omega)]
    by_cases hiv : i = v
    · subst hiv
      rw [if_pos rfl]
    · rw [if_neg (fun he => hiv (ren_inj h (by omega) (by omega) (by omega))), setTo_at h v (by omega) i (by omega)]
theorem setTo_all {ns tl : List Int} (h : renOk ns) {i : Nat} (hi : i < ns.length) : (setTo ns tl ns.length).getD (ns.getD i 0).toNat 0 = tl.getD i 0 := setTo_at h _ (Nat.le_refl _) i hi
/-- The names the other way round. -/
def backL (ns : List Int) : List Int := setTo ns (upTo ns.length) ns.length
theorem backL_len (ns : List Int) : (backL ns).length = ns.length := setTo_length _ _ _
theorem upTo_getD {n i : Nat} (h : i < n) : (upTo n).getD i 0 = i := by
  rw [getD_lt (by rw [upTo_length]; exact h)]
  simp [upTo]
theorem backL_at {ns : List Int} (h : renOk ns) {i : Nat} (hi : i < ns.length) : (backL ns).getD (ns.getD i 0).toNat 0 = i := by
  unfold backL
  rw [setTo_all h hi, upTo_getD hi]
theorem backL_ok {ns : List Int} (h : renOk ns) : renOk (backL ns) := by
  rw [renOk_iff]
  intro i hi
  rw [backL_len] at hi
  have h1 := backL_at h hi
  have h2 := ren_in h hi
  have h3 : (ns.getD i 0).toNat < (backL ns).length := by rw [backL_len]; omega
  rw [getD_lt h3] at h1
  rw [← h1]
  exact List.getElem_mem h3
theorem nmL_back {ns : List Int} (h : renOk ns) {x : Int} (hx : 0 ≤ x ∧ x < (ns.length : Int)) : nmL (backL ns) (nmL ns x) = x := by
  unfold nmL
  rw [backL_at h (by omega)]
  omega
theorem nmL_in {ns : List Int} (h : renOk ns) {x : Int} (hx : 0 ≤ x ∧ x < (ns.length : Int)) : 0 ≤ nmL ns x ∧ nmL ns x < (ns.length : Int) := ren_in h (by omega)
theorem typ_ren {ns tl : List Int} (h : renOk ns) (hl : ns.length = tl.length) {x : Int} (hx : 0 ≤ x ∧ x < (tl.length : Int)) : typeOfL (setTo ns tl ns.length) (nmL ns x) = typeOfL tl x := by
  have h1 := nmL_in h (x := x) (by omega)
  unfold typeOfL
  rw [setTo_length, if_pos h1, if_pos hx]
  unfold nmL
  exact setTo_all h (by omega)
theorem simple_ren {ns tl : List Int} (h : renOk ns) (hl : ns.length = tl.length) {op x y n : Int} {a b : Nat} (hs : SimpleP tl op x y n a b) :
    SimpleP (setTo ns tl ns.length) op (if 1 ≤ op ∧ op ≤ 8 then nmL ns x else x) (if 3 ≤ op ∧ op ≤ 7 then nmL ns y else y) n a b := by
  unfold SimpleP at hs ⊢
  obtain ⟨h1, h2, h3, h4, h5⟩ := hs
  have hop : 1 ≤ op ∧ op ≤ 8 := by rcases h5 with h | h | h | h | h | h | h <;> omega
  have hx : 0 ≤ x ∧ x < (tl.length : Int) := typ_in (by rcases h5 with h | h | h | h | h | h | h <;> omega)
  rw [if_pos hop, typ_ren h hl hx]
  by_cases h37 : 3 ≤ op ∧ op ≤ 7
  · have hy : 0 ≤ y ∧ y < (tl.length : Int) := typ_in (by rcases h5 with h | h | h | h | h | h | h <;> omega)
    have hne : x ≠ y → nmL ns x ≠ nmL ns y := fun hn he => hn (by
      have := ren_inj h (i := x.toNat) (j := y.toNat) (by omega) (by omega) he
      omega)
    rw [if_pos h37, typ_ren h hl hy]
    refine ⟨h1, by omega, h3, h4, ?_⟩
    rcases h5 with h | h | h | h | h | h | h
    · omega
    · omega
    · exact .inr (.inr (.inl ⟨h.1, h.2.1, h.2.2.1, hne h.2.2.2⟩))
    · exact .inr (.inr (.inr (.inl ⟨h.1, h.2.1, h.2.2.1, hne h.2.2.2⟩)))
    · exact .inr (.inr (.inr (.inr (.inl ⟨h.1, h.2.1, h.2.2.1, hne h.2.2.2⟩))))
    · exact .inr (.inr (.inr (.inr (.inr (.inl h)))))
    · exact .inr (.inr (.inr (.inr (.inr (.inr h)))))
  · rw [if_neg h37]
    refine ⟨h1, h2, h3, h4, ?_⟩
    rcases h5 with h | h | h | h | h | h | h
    · exact .inl h
    · exact .inr (.inl h)
    all_goals
      exfalso
      apply h37
      have hq := h.1
      clear h1 h2 h hx hop
      omega
theorem okL_ren {ns tl : List Int} (h : renOk ns) (hl : ns.length = tl.length) : ∀ (l : Ss) (d : Nat), okL tl d l = true → okL (setTo ns tl ns.length) d (renL ns l) = true
  | .nil, _, _ => rfl
  | .cons op x y n t e r, d, ho => by
    rw [okL_cons, Bool.and_eq_true] at ho
    simp only [renL]
    rw [okL_cons, Bool.and_eq_true]
    refine ⟨?_, okL_ren h hl r d ho.2⟩
    have h1 := ho.1
    unfold okS at h1 ⊢
    by_cases h9 : op = 9 ∨ op = 10
    · rw [if_pos h9, Bool.and_eq_true, Bool.and_eq_true, decide_eq_true_eq] at h1 ⊢
      obtain ⟨⟨⟨a1, a2, a3, a4, a5⟩, a6⟩, a7⟩ := h1
      refine ⟨⟨⟨a1, by rw [if_neg (by omega)]; exact a2, by rw [if_neg (by omega)]; exact a3, a4, by rw [renL_len]; exact a5⟩, okL_ren h hl t _ a6⟩, okL_ren h hl e _ a7⟩
    · rw [if_neg h9, decide_eq_true_eq] at h1 ⊢
      rw [renL_len, renL_len]
      exact simple_ren h hl h1
theorem renL_back {ns tl : List Int} (h : renOk ns) (hl : ns.length = tl.length) : ∀ (l : Ss) (d : Nat), okL tl d l = true → renL (backL ns) (renL ns l) = l
  | .nil, _, _ => rfl
  | .cons op x y n t e r, d, ho => by
    rw [okL_cons, Bool.and_eq_true] at ho
    have hr := renL_back h hl r d ho.2
    simp only [renL]
    rcases okS_vars ho.1 with ⟨h9, hT, hE⟩ | ⟨h18, hx, hy, rfl, rfl⟩
    · rw [if_neg (by omega), if_neg (by omega), if_neg (by omega), if_neg (by omega), renL_back h hl t _ hT, renL_back h hl e _ hE, hr]
    · rw [if_pos h18, if_pos h18, nmL_back h (by omega), hr]
      by_cases h37 : 3 ≤ op ∧ op ≤ 7
      · have := hy h37
        rw [if_pos h37, if_pos h37, nmL_back h (by omega)]
        rfl
      · rw [if_neg h37, if_neg h37]
        rfl
/-- Renaming back can be done, and yields the program. -/
theorem ren_back {tl ns : List Int} {l : Ss} (h : rnOk tl l ns) : rnOk (setTo ns tl ns.length) (renL ns l) (backL ns) ∧ rnT (setTo ns tl ns.length) (renL ns l) (backL ns) = tl ∧ rnB (setTo ns tl ns.length) (renL ns l) (backL ns) = l := by
  obtain ⟨hv, hl, hok⟩ := h
  rw [validP_iff] at hv
  obtain ⟨v1, v2, v3⟩ := hv
  have hb := backL_ok hok
  have hT : okT (setTo ns tl ns.length) = true := by
    unfold okT at v1 ⊢
    rw [Bool.and_eq_true, decide_eq_true_eq, List.all_eq_true] at v1 ⊢
    refine ⟨by rw [setTo_length]; omega, fun t ht => ?_⟩
    obtain ⟨j, hj, rfl⟩ := List.getElem_of_mem ht
    rw [setTo_length] at hj
    have hjm := (renOk_iff ns).1 hok j hj
    obtain ⟨i, hi, he⟩ := List.getElem_of_mem hjm
    have h2 := setTo_all (tl := tl) hok hi
    rw [getD_lt hi, he, Int.toNat_natCast, getD_lt (by rw [setTo_length]; exact hj), getD_lt (by omega)] at h2
    rw [h2]
    exact v1.2 _ (List.getElem_mem _)
  have hr : rnOk (setTo ns tl ns.length) (renL ns l) (backL ns) := ⟨validP_iff.2 ⟨hT, okL_ren hok hl l 4 v2, by rw [renL_cnt]; exact v3⟩, by rw [backL_len, setTo_length], hb⟩
  refine ⟨hr, ?_, ?_⟩
  · unfold rnT
    rw [if_pos hr]
    apply List.ext_getElem
    · rw [setTo_length, backL_len, hl]
    · intro i h1 h2
      have hi : i < ns.length := by omega
      have hin := ren_in hok hi
      have h3 := setTo_all (tl := setTo ns tl ns.length) hb (i := (ns.getD i 0).toNat) (by rw [backL_len]; omega)
      rw [backL_at hok hi, Int.toNat_natCast, setTo_all hok hi, getD_lt h1, getD_lt h2] at h3
      exact h3
  · unfold rnB
    rw [if_pos hr]
    exact renL_back hok hl l 4 v2
end Go.Proofs.Ytpmgfokcbgdegaa
