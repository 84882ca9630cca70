/-
  What is proved here: the reference's parser reads a valid program back from its text, said of lists of bytes. No function of the program stands here.
-/
import Derived.Test.YteonnoijdnjpdaaDoorSP
namespace Go.Proofs.YteonnoijdnjpdaaDoor
set_option linter.unusedVariables false
set_option linter.unusedSimpArgs false
set_option linter.unnecessarySimpa false
open Go.RowKit

theorem byS_no {lo hi : Nat} {s q : Tx} {p : Int} (h0 : 0 ≤ p) (hs : s.drop p.toNat = q) (k : Nat) (hq : ∀ b r, q.drop k = b :: r → ¬ (lo ≤ b.toNat ∧ b.toNat ≤ hi)) : byS lo hi s (p + k) = -1 := by
  unfold byS
  rw [if_pos (by omega), show (p + k).toNat = p.toNat + k from by omega, ← List.drop_drop, hs]
  cases h : q.drop k with
  | nil => rfl
  | cons b r =>
    simp only
    rw [if_neg (hq b r h)]
theorem varS_at0 {s r : Tx} {p x : Int} (h0 : 0 ≤ p) (hs : s.drop p.toNat = chv x :: r) (hx : 0 ≤ x ∧ x < 6) : varS s p = x := by
  have := varS_at (x := x) h0 hs 0 r rfl hx
  simpa using this
theorem simpS_read (L : Option (Int → PR)) {s s1 : Tx} {p op x y n : Int} (h0 : 0 ≤ p) (hs : s.drop p.toNat = simT op x y n ++ s1) (hop : 1 ≤ op ∧ op ≤ 8) (hx : 0 ≤ x ∧ x < 6) (hy : (op = 1 ∨ op = 2 ∨ op = 8) ∧ y = 0 ∨ (3 ≤ op ∧ op ≤ 7) ∧ 0 ≤ y ∧ y < 6) (hn : (op = 1 ∨ op = 2) ∧ 0 ≤ n ∧ n ≤ 9 ∨ 3 ≤ op ∧ n = 0) (h1 : After s1) :
    parS s L p = ((op, x, y, n, .nil, .nil), p + (simT op x y n).length) := by
  have hop' : op = 1 ∨ op = 2 ∨ op = 3 ∨ op = 4 ∨ op = 5 ∨ op = 6 ∨ op = 7 ∨ op = 8 := by omega
  rcases hop' with rfl | rfl | rfl | rfl | rfl | rfl | rfl | rfl
  · have hn' : 0 ≤ n ∧ n ≤ 9 := by omega
    have hy' : y = 0 := by omega
    have hd : dgv n ≠ 98 ∧ dgv n ≠ 38 ∧ dgv n ≠ 42 := by
      have := dgv_nat hn'
      refine ⟨?_, ?_, ?_⟩ <;> (intro he; rw [he] at this; simp at this; omega)
    replace hs : s.drop p.toNat = chv x :: 61 :: dgv n :: s1 := hs
    have a1 : atB s p wDrop = false := by rw [atB_at0 h0 hs]; rcases var_cases hx with rfl | rfl | rfl | rfl | rfl | rfl <;> rfl
    have a2 : atB s p wLoop = false := by rw [atB_at0 h0 hs]; rcases var_cases hx with rfl | rfl | rfl | rfl | rfl | rfl <;> rfl
    have a3 : atB s p wIf = false := by rw [atB_at0 h0 hs]; rcases var_cases hx with rfl | rfl | rfl | rfl | rfl | rfl <;> rfl
    have a4 : atB s p [42] = false := by rw [atB_at0 h0 hs]; rcases var_cases hx with rfl | rfl | rfl | rfl | rfl | rfl <;> rfl
    have a5 : varS s p = x := varS_at0 h0 hs hx
    have a6 : atB s (p + 1) [61] = true := by rw [show p + 1 = p + ((1 : Nat) : Int) from rfl, atB_at h0 hs 1]; rfl
    have a7 : ¬ (varS s p < 0 ∨ atB s (p + 1) [61] = false) := by rw [a5, a6]; simp; omega
    unfold parS
    rw [a1, a2, a3, a4, if_neg a7, a5]
    simp only [Bool.false_eq_true, if_false]
    have b1 : atB s (p + 2) wBox = false := by rw [show p + 2 = p + ((2 : Nat) : Int) from rfl, atB_at h0 hs 2]; simp [wBox, List.isPrefixOf, hd.1.symm]
    have b2 : atB s (p + 2) wMut = false := by rw [show p + 2 = p + ((2 : Nat) : Int) from rfl, atB_at h0 hs 2]; simp [wMut, List.isPrefixOf, hd.2.1.symm]
    have b3 : atB s (p + 2) [38] = false := by rw [show p + 2 = p + ((2 : Nat) : Int) from rfl, atB_at h0 hs 2]; simp [List.isPrefixOf, hd.2.1.symm]
    have b4 : atB s (p + 2) [42] = false := by rw [show p + 2 = p + ((2 : Nat) : Int) from rfl, atB_at h0 hs 2]; simp [List.isPrefixOf, hd.2.2.symm]
    have b5 : digS s (p + 2) = n := digS_at h0 hs 2 s1 rfl hn'
    rw [b1, b2, b3, b4, b5, if_pos hn'.1, hy']
    simp only [Bool.false_eq_true, if_false]
    rfl
  · have hn' : 0 ≤ n ∧ n ≤ 9 := by omega
    have hy' : y = 0 := by omega
    replace hs : s.drop p.toNat = chv x :: 61 :: 98 :: 111 :: 120 :: 32 :: dgv n :: s1 := hs
    have a1 : atB s p wDrop = false := by rw [atB_at0 h0 hs]; rcases var_cases hx with rfl | rfl | rfl | rfl | rfl | rfl <;> rfl
    have a2 : atB s p wLoop = false := by rw [atB_at0 h0 hs]; rcases var_cases hx with rfl | rfl | rfl | rfl | rfl | rfl <;> rfl
    have a3 : atB s p wIf = false := by rw [atB_at0 h0 hs]; rcases var_cases hx with rfl | rfl | rfl | rfl | rfl | rfl <;> rfl
    have a4 : atB s p [42] = false := by rw [atB_at0 h0 hs]; rcases var_cases hx with rfl | rfl | rfl | rfl | rfl | rfl <;> rfl
    have a5 : varS s p = x := varS_at0 h0 hs hx
    have a6 : atB s (p + 1) [61] = true := by rw [show p + 1 = p + ((1 : Nat) : Int) from rfl, atB_at h0 hs 1]; rfl
    have a7 : ¬ (varS s p < 0 ∨ atB s (p + 1) [61] = false) := by rw [a5, a6]; simp; omega
    unfold parS
    rw [a1, a2, a3, a4, if_neg a7, a5]
    simp only [Bool.false_eq_true, if_false]
    have b1 : atB s (p + 2) wBox = true := by rw [show p + 2 = p + ((2 : Nat) : Int) from rfl, atB_at h0 hs 2]; rfl
    have b5 : digS s (p + 6) = n := digS_at h0 hs 6 s1 rfl hn'
    rw [b1, b5, hy']
    simp only [if_true]
    rfl
  · have hn' : n = 0 := by omega
    have hy' : 0 ≤ y ∧ y < 6 := by omega
    replace hs : s.drop p.toNat = chv x :: 61 :: chv y :: s1 := hs
    have a1 : atB s p wDrop = false := by rw [atB_at0 h0 hs]; rcases var_cases hx with rfl | rfl | rfl | rfl | rfl | rfl <;> rfl
    have a2 : atB s p wLoop = false := by rw [atB_at0 h0 hs]; rcases var_cases hx with rfl | rfl | rfl | rfl | rfl | rfl <;> rfl
    have a3 : atB s p wIf = false := by rw [atB_at0 h0 hs]; rcases var_cases hx with rfl | rfl | rfl | rfl | rfl | rfl <;> rfl
    have a4 : atB s p [42] = false := by rw [atB_at0 h0 hs]; rcases var_cases hx with rfl | rfl | rfl | rfl | rfl | rfl <;> rfl
    have a5 : varS s p = x := varS_at0 h0 hs hx
    have a6 : atB s (p + 1) [61] = true := by rw [show p + 1 = p + ((1 : Nat) : Int) from rfl, atB_at h0 hs 1]; rfl
    have a7 : ¬ (varS s p < 0 ∨ atB s (p + 1) [61] = false) := by rw [a5, a6]; simp; omega
    unfold parS
    rw [a1, a2, a3, a4, if_neg a7, a5]
    simp only [Bool.false_eq_true, if_false]
    have b1 : atB s (p + 2) wBox = false := by rw [show p + 2 = p + ((2 : Nat) : Int) from rfl, atB_at h0 hs 2]; rcases h1 with rfl | ⟨r, rfl | rfl⟩ <;> rcases var_cases hy' with rfl | rfl | rfl | rfl | rfl | rfl <;> rfl
    have b2 : atB s (p + 2) wMut = false := by rw [show p + 2 = p + ((2 : Nat) : Int) from rfl, atB_at h0 hs 2]; rcases var_cases hy' with rfl | rfl | rfl | rfl | rfl | rfl <;> rfl
    have b3 : atB s (p + 2) [38] = false := by rw [show p + 2 = p + ((2 : Nat) : Int) from rfl, atB_at h0 hs 2]; rcases var_cases hy' with rfl | rfl | rfl | rfl | rfl | rfl <;> rfl
    have b4 : atB s (p + 2) [42] = false := by rw [show p + 2 = p + ((2 : Nat) : Int) from rfl, atB_at h0 hs 2]; rcases var_cases hy' with rfl | rfl | rfl | rfl | rfl | rfl <;> rfl
    have b5 : digS s (p + 2) = -1 := byS_no h0 hs 2 (fun b r hq => by
      have e : chv y :: s1 = b :: r := hq
      injection e with e1 _
      have := chv_nat hy'
      rw [← e1]
      omega)
    have b6 : varS s (p + 2) = y := varS_at h0 hs 2 s1 rfl hy'
    rw [b1, b2, b3, b4, b5, b6, if_neg (by decide), hn']
    simp only [Bool.false_eq_true, if_false]
    rfl
  · have hn' : n = 0 := by omega
    have hy' : 0 ≤ y ∧ y < 6 := by omega
    replace hs : s.drop p.toNat = chv x :: 61 :: 38 :: chv y :: s1 := hs
    have a1 : atB s p wDrop = false := by rw [atB_at0 h0 hs]; rcases var_cases hx with rfl | rfl | rfl | rfl | rfl | rfl <;> rfl
    have a2 : atB s p wLoop = false := by rw [atB_at0 h0 hs]; rcases var_cases hx with rfl | rfl | rfl | rfl | rfl | rfl <;> rfl
    have a3 : atB s p wIf = false := by rw [atB_at0 h0 hs]; rcases var_cases hx with rfl | rfl | rfl | rfl | rfl | rfl <;> rfl
    have a4 : atB s p [42] = false := by rw [atB_at0 h0 hs]; rcases var_cases hx with rfl | rfl | rfl | rfl | rfl | rfl <;> rfl
    have a5 : varS s p = x := varS_at0 h0 hs hx
    have a6 : atB s (p + 1) [61] = true := by rw [show p + 1 = p + ((1 : Nat) : Int) from rfl, atB_at h0 hs 1]; rfl
    have a7 : ¬ (varS s p < 0 ∨ atB s (p + 1) [61] = false) := by rw [a5, a6]; simp; omega
    unfold parS
    rw [a1, a2, a3, a4, if_neg a7, a5]
    simp only [Bool.false_eq_true, if_false]
    have b1 : atB s (p + 2) wBox = false := by rw [show p + 2 = p + ((2 : Nat) : Int) from rfl, atB_at h0 hs 2]; rfl
    have b2 : atB s (p + 2) wMut = false := by rw [show p + 2 = p + ((2 : Nat) : Int) from rfl, atB_at h0 hs 2]; rcases var_cases hy' with rfl | rfl | rfl | rfl | rfl | rfl <;> rfl
    have b3 : atB s (p + 2) [38] = true := by rw [show p + 2 = p + ((2 : Nat) : Int) from rfl, atB_at h0 hs 2]; rfl
    have b6 : varS s (p + 3) = y := varS_at h0 hs 3 s1 rfl hy'
    rw [b1, b2, b3, b6, hn']
    simp only [Bool.false_eq_true, if_false, if_true]
    rfl
  · have hn' : n = 0 := by omega
    have hy' : 0 ≤ y ∧ y < 6 := by omega
    replace hs : s.drop p.toNat = chv x :: 61 :: 38 :: 109 :: 117 :: 116 :: 32 :: chv y :: s1 := hs
    have a1 : atB s p wDrop = false := by rw [atB_at0 h0 hs]; rcases var_cases hx with rfl | rfl | rfl | rfl | rfl | rfl <;> rfl
    have a2 : atB s p wLoop = false := by rw [atB_at0 h0 hs]; rcases var_cases hx with rfl | rfl | rfl | rfl | rfl | rfl <;> rfl
    have a3 : atB s p wIf = false := by rw [atB_at0 h0 hs]; rcases var_cases hx with rfl | rfl | rfl | rfl | rfl | rfl <;> rfl
    have a4 : atB s p [42] = false := by rw [atB_at0 h0 hs]; rcases var_cases hx with rfl | rfl | rfl | rfl | rfl | rfl <;> rfl
    have a5 : varS s p = x := varS_at0 h0 hs hx
    have a6 : atB s (p + 1) [61] = true := by rw [show p + 1 = p + ((1 : Nat) : Int) from rfl, atB_at h0 hs 1]; rfl
    have a7 : ¬ (varS s p < 0 ∨ atB s (p + 1) [61] = false) := by rw [a5, a6]; simp; omega
    unfold parS
    rw [a1, a2, a3, a4, if_neg a7, a5]
    simp only [Bool.false_eq_true, if_false]
    have b1 : atB s (p + 2) wBox = false := by rw [show p + 2 = p + ((2 : Nat) : Int) from rfl, atB_at h0 hs 2]; rfl
    have b2 : atB s (p + 2) wMut = true := by rw [show p + 2 = p + ((2 : Nat) : Int) from rfl, atB_at h0 hs 2]; rfl
    have b6 : varS s (p + 7) = y := varS_at h0 hs 7 s1 rfl hy'
    rw [b1, b2, b6, hn']
    simp only [Bool.false_eq_true, if_false, if_true]
    rfl
  · have hn' : n = 0 := by omega
    have hy' : 0 ≤ y ∧ y < 6 := by omega
    replace hs : s.drop p.toNat = chv x :: 61 :: 42 :: chv y :: s1 := hs
    have a1 : atB s p wDrop = false := by rw [atB_at0 h0 hs]; rcases var_cases hx with rfl | rfl | rfl | rfl | rfl | rfl <;> rfl
    have a2 : atB s p wLoop = false := by rw [atB_at0 h0 hs]; rcases var_cases hx with rfl | rfl | rfl | rfl | rfl | rfl <;> rfl
    have a3 : atB s p wIf = false := by rw [atB_at0 h0 hs]; rcases var_cases hx with rfl | rfl | rfl | rfl | rfl | rfl <;> rfl
    have a4 : atB s p [42] = false := by rw [atB_at0 h0 hs]; rcases var_cases hx with rfl | rfl | rfl | rfl | rfl | rfl <;> rfl
    have a5 : varS s p = x := varS_at0 h0 hs hx
    have a6 : atB s (p + 1) [61] = true := by rw [show p + 1 = p + ((1 : Nat) : Int) from rfl, atB_at h0 hs 1]; rfl
    have a7 : ¬ (varS s p < 0 ∨ atB s (p + 1) [61] = false) := by rw [a5, a6]; simp; omega
    unfold parS
    rw [a1, a2, a3, a4, if_neg a7, a5]
    simp only [Bool.false_eq_true, if_false]
    have b1 : atB s (p + 2) wBox = false := by rw [show p + 2 = p + ((2 : Nat) : Int) from rfl, atB_at h0 hs 2]; rfl
    have b2 : atB s (p + 2) wMut = false := by rw [show p + 2 = p + ((2 : Nat) : Int) from rfl, atB_at h0 hs 2]; rfl
    have b3 : atB s (p + 2) [38] = false := by rw [show p + 2 = p + ((2 : Nat) : Int) from rfl, atB_at h0 hs 2]; rfl
    have b4 : atB s (p + 2) [42] = true := by rw [show p + 2 = p + ((2 : Nat) : Int) from rfl, atB_at h0 hs 2]; rfl
    have b6 : varS s (p + 3) = y := varS_at h0 hs 3 s1 rfl hy'
    rw [b1, b2, b3, b4, b6, hn']
    simp only [Bool.false_eq_true, if_false, if_true]
    rfl
  · have hn' : n = 0 := by omega
    have hy' : 0 ≤ y ∧ y < 6 := by omega
    replace hs : s.drop p.toNat = 42 :: chv x :: 61 :: chv y :: s1 := hs
    have a1 : atB s p wDrop = false := by rw [atB_at0 h0 hs]; rfl
    have a2 : atB s p wLoop = false := by rw [atB_at0 h0 hs]; rfl
    have a3 : atB s p wIf = false := by rw [atB_at0 h0 hs]; rfl
    have a4 : atB s p [42] = true := by rw [atB_at0 h0 hs]; rfl
    have b5 : varS s (p + 1) = x := varS_at h0 hs 1 _ rfl hx
    have b6 : varS s (p + 3) = y := varS_at h0 hs 3 s1 rfl hy'
    unfold parS
    rw [a1, a2, a3, a4, b5, b6, hn']
    simp only [Bool.false_eq_true, if_false, if_true]
    rfl
  · have hn' : n = 0 := by omega
    have hy' : y = 0 := by omega
    replace hs : s.drop p.toNat = 100 :: 114 :: 111 :: 112 :: 32 :: chv x :: s1 := hs
    have a1 : atB s p wDrop = true := by rw [atB_at0 h0 hs]; rfl
    have b5 : varS s (p + 5) = x := varS_at h0 hs 5 _ rfl hx
    unfold parS
    rw [a1, b5, hn', hy']
    simp only [if_true]
    rfl
theorem drop_app {s a b : Tx} {p : Int} (h0 : 0 ≤ p) (hs : s.drop p.toNat = a ++ b) : s.drop (p + a.length).toNat = b := by
  rw [show (p + a.length).toNat = p.toNat + a.length from by omega, ← List.drop_drop, hs, List.drop_left]
theorem drop_le {s a b : Tx} {p : Int} (h0 : 0 ≤ p) (hs : s.drop p.toNat = a ++ b) (ha : a ≠ []) : p + a.length ≤ s.length := by
  have h := congrArg List.length hs
  rw [List.length_drop, List.length_append] at h
  have : 0 < a.length := List.length_pos_iff.2 ha
  omega
def ReadS (l : Ss) : Prop := ∀ (d : Nat) (tl : List Int) (s r : Tx) (p : Int), 0 ≤ p → p ≤ s.length → s.drop p.toNat = lsT l ++ r → okL tl d l = true → tl.length ≤ 6 → Ends r →
  lisS s d p = (l, p + (lsT l).length) ∧ (l.len ≠ 0 → ∀ k, l.len ≤ k → lopS s (parS s (subS s d)) k p = (l, p + (lsT l).length))
theorem bracS_read {s r : Tx} {f : Int → PR} {l : Ss} {p : Int} (h0 : 0 ≤ p) (hs : s.drop p.toNat = 123 :: (lsT l ++ 125 :: r)) (hf : f (p + 1) = (l, p + 1 + (lsT l).length)) : bracS s (some f) p = (l, p + 2 + (lsT l).length) := by
  have a1 : atB s p [123] = true := by rw [atB_at0 h0 hs]; rfl
  have h2 : s.drop (p + 1).toNat = lsT l ++ 125 :: r := drop_app (a := [123]) h0 hs
  have h3 : s.drop (p + 1 + (lsT l).length).toNat = 125 :: r := drop_app (by omega) h2
  have a2 : atB s (p + 1 + (lsT l).length) [125] = true := by rw [atB_at0 (by omega) h3]; rfl
  unfold bracS
  simp only [hf, a1, a2, if_true]
  congr 1
  omega
theorem readS_all (l : Ss) : ReadS l := Ss.strong (fun l ih => by
  intro d tl s r p h0 hp hs hok hl hr
  cases l with
  | nil =>
    refine ⟨?_, fun h => absurd rfl h⟩
    replace hs : s.drop p.toNat = r := hs
    rw [lisS_eq, if_pos]
    · simp [lsT]
    · rcases hr with rfl | ⟨q, rfl⟩
      · left
        have := List.drop_eq_nil_iff.1 hs
        omega
      · right
        rw [atB_at0 h0 hs]
        rfl
  | cons op x y n t e rr =>
    rw [okL_cons, Bool.and_eq_true] at hok
    obtain ⟨hS, hR⟩ := hok
    have hcr : cntL rr < cntL (.cons op x y n t e rr) := by simp only [cntL]; omega
    have hct : cntL t < cntL (.cons op x y n t e rr) := by simp only [cntL]; omega
    have hce : cntL e < cntL (.cons op x y n t e rr) := by simp only [cntL]; omega
    have item : ∀ s1, After s1 → s.drop p.toNat = itT op x y n (lsT t) (lsT e) ++ s1 → parS s (subS s d) p = ((op, x, y, n, t, e), p + (itT op x y n (lsT t) (lsT e)).length) := by
      intro s1 hs1 hq
      have hS' := hS
      unfold okS at hS'
      by_cases h9 : op = 9 ∨ op = 10
      · rw [if_pos h9, Bool.and_eq_true, Bool.and_eq_true, decide_eq_true_eq] at hS'
        obtain ⟨⟨⟨hd, hx, hy, hn, he⟩, hT⟩, hE⟩ := hS'
        obtain ⟨d', rfl⟩ : ∃ d', d = d' + 1 := ⟨d - 1, by omega⟩
        rw [Nat.add_sub_cancel] at hT hE
        subst hx; subst hy; subst hn
        rcases h9 with rfl | rfl
        · have e1 : itT 9 0 0 0 (lsT t) (lsT e) ++ s1 = [105, 102] ++ (123 :: (lsT t ++ 125 :: (123 :: (lsT e ++ 125 :: s1)))) := by simp [itT, wIf, wMid]
          have e2 : ((itT 9 0 0 0 (lsT t) (lsT e)).length : Int) = 6 + (lsT t).length + (lsT e).length := by simp [itT, wIf, wMid]; omega
          rw [e1] at hq
          have k1 : s.drop (p + 2).toNat = 123 :: (lsT t ++ 125 :: (123 :: (lsT e ++ 125 :: s1))) := drop_app (a := [105, 102]) h0 hq
          have k2 : s.drop (p + 2 + 1).toNat = lsT t ++ 125 :: (123 :: (lsT e ++ 125 :: s1)) := drop_app (a := [123]) (by omega) k1
          have k2' := drop_le (a := [123]) (by omega) k1 (by simp)
          have q1 := (ih t hct d' tl s _ (p + 2 + 1) (by omega) k2' k2 hT hl (.inr ⟨_, rfl⟩)).1
          have m1 : bracS s (some (lisS s d')) (p + 2) = (t, p + 2 + 2 + (lsT t).length) := bracS_read (by omega) k1 q1
          have k3 : s.drop (p + 2 + 2 + (lsT t).length).toNat = 123 :: (lsT e ++ 125 :: s1) := by
            have := drop_app (a := 123 :: (lsT t ++ [125])) (b := 123 :: (lsT e ++ 125 :: s1)) (p := p + 2) (by omega) (by rw [k1]; simp)
            rw [show p + 2 + 2 + ((lsT t).length : Int) = p + 2 + ((123 :: (lsT t ++ [125])).length : Int) from by simp; omega]
            exact this
          have k4 : s.drop (p + 2 + 2 + (lsT t).length + 1).toNat = lsT e ++ 125 :: s1 := drop_app (a := [123]) (by omega) k3
          have k4' := drop_le (a := [123]) (by omega) k3 (by simp)
          have q2 := (ih e hce d' tl s _ (p + 2 + 2 + (lsT t).length + 1) (by omega) k4' k4 hE hl (.inr ⟨_, rfl⟩)).1
          have m2 : bracS s (some (lisS s d')) (p + 2 + 2 + (lsT t).length) = (e, p + 2 + 2 + (lsT t).length + 2 + (lsT e).length) := bracS_read (by omega) k3 q2
          have a1 : atB s p wDrop = false := by rw [atB_at0 h0 hq]; rfl
          have a2 : atB s p wLoop = false := by rw [atB_at0 h0 hq]; rfl
          have a3 : atB s p wIf = true := by rw [atB_at0 h0 hq]; rfl
          unfold parS
          simp only [subS, a1, a2, a3, Bool.false_eq_true, if_false, if_true, m1, m2]
          rw [e2]
          congr 1
          omega
        · have he0 : e = .nil := Ss.len_zero (by omega)
          subst he0
          have e1 : itT 10 0 0 0 (lsT t) (lsT .nil) ++ s1 = [108, 111, 111, 112] ++ (123 :: (lsT t ++ 125 :: s1)) := by simp [itT, wLoop]
          have e2 : ((itT 10 0 0 0 (lsT t) (lsT .nil)).length : Int) = 6 + (lsT t).length := by simp [itT, wLoop]; omega
          rw [e1] at hq
          have k1 : s.drop (p + 4).toNat = 123 :: (lsT t ++ 125 :: s1) := drop_app (a := [108, 111, 111, 112]) h0 hq
          have k2 : s.drop (p + 4 + 1).toNat = lsT t ++ 125 :: s1 := drop_app (a := [123]) (by omega) k1
          have k2' := drop_le (a := [123]) (by omega) k1 (by simp)
          have q1 := (ih t hct d' tl s _ (p + 4 + 1) (by omega) k2' k2 hT hl (.inr ⟨_, rfl⟩)).1
          have m1 : bracS s (some (lisS s d')) (p + 4) = (t, p + 4 + 2 + (lsT t).length) := bracS_read (by omega) k1 q1
          have a1 : atB s p wDrop = false := by rw [atB_at0 h0 hq]; rfl
          have a2 : atB s p wLoop = true := by rw [atB_at0 h0 hq]; rfl
          unfold parS
          simp only [subS, a1, a2, Bool.false_eq_true, if_false, if_true, m1]
          rw [e2]
          congr 1
          omega
      · rw [if_neg h9, decide_eq_true_eq] at hS'
        obtain ⟨a1, a2, a3, a4, a5, a6⟩ := simple_form hS' hl
        have ht0 := Ss.len_zero a5
        have he0 := Ss.len_zero a6
        subst ht0; subst he0
        have e1 : itT op x y n (lsT .nil) (lsT .nil) = simT op x y n := by unfold itT; rw [if_neg (by omega), if_neg (by omega)]
        rw [e1] at hq ⊢
        exact simpS_read _ h0 hq a1 a2 a3 a4 hs1
    have hne : itT op x y n (lsT t) (lsT e) ≠ [] := by
      intro h
      have := itT_head hS hl []
      rw [h] at this
      cases this
    have hstart : ∀ s1, s.drop p.toNat = itT op x y n (lsT t) (lsT e) ++ s1 → ¬ (p = s.length ∨ atB s p [125] = true) := by
      intro s1 hq
      have hd := itT_head hS hl s1
      have h1 := drop_le h0 hq hne
      have h2 : 0 < (itT op x y n (lsT t) (lsT e)).length := List.length_pos_iff.2 hne
      rintro (h | h)
      · omega
      · rw [atB_at0 h0 hq] at h
        cases hz : itT op x y n (lsT t) (lsT e) ++ s1 with
        | nil => rw [hz] at hd; cases hd
        | cons b z =>
          rw [hz] at hd h
          have hd' : (b == 125) = false := hd
          simp [List.isPrefixOf] at h
          rw [← h] at hd'
          cases hd'
    by_cases hr0 : rr.len = 0
    · have hrn := Ss.len_zero hr0
      subst hrn
      have e1 : lsT (.cons op x y n t e .nil) = itT op x y n (lsT t) (lsT e) := by simp [lsT, Ss.len]
      rw [e1] at hs ⊢
      have hit := item r (by rcases hr with rfl | ⟨q, rfl⟩; exact .inl rfl; exact .inr ⟨q, .inr rfl⟩) hs
      have hle := drop_le h0 hs hne
      have hlo : ∀ k, lopS s (parS s (subS s d)) (k + 1) p = (.cons op x y n t e .nil, p + (itT op x y n (lsT t) (lsT e)).length) := by
        intro k
        have h3 := drop_app h0 hs
        have h59 : atB s (p + (itT op x y n (lsT t) (lsT e)).length) [59] = false := by
          rw [atB_at0 (by omega) h3]
          rcases hr with rfl | ⟨q, rfl⟩ <;> rfl
        unfold lopS
        rw [hit]
        simp only
        rw [if_neg (by omega), h59]
        rfl
      refine ⟨?_, fun _ k hk => ?_⟩
      · rw [lisS_eq, if_neg (hstart r hs)]
        exact hlo _
      · obtain ⟨k', rfl⟩ : ∃ k', k = k' + 1 := ⟨k - 1, by simp [Ss.len] at hk; omega⟩
        exact hlo k'
    · have e1 : lsT (.cons op x y n t e rr) = itT op x y n (lsT t) (lsT e) ++ (59 :: lsT rr) := by simp [lsT, hr0]
      rw [e1, List.append_assoc] at hs
      have hit := item (59 :: lsT rr ++ r) (.inr ⟨_, .inl rfl⟩) hs
      have hle := drop_le h0 hs hne
      have h3 := drop_app h0 hs
      have h4 : s.drop (p + (itT op x y n (lsT t) (lsT e)).length + 1).toNat = lsT rr ++ r := drop_app (a := [59]) (by omega) h3
      have h4' := drop_le (a := [59]) (by omega) h3 (by simp)
      have hnext : ∀ k, rr.len ≤ k → lopS s (parS s (subS s d)) k (p + (itT op x y n (lsT t) (lsT e)).length + 1) = (rr, p + (itT op x y n (lsT t) (lsT e)).length + 1 + (lsT rr).length) := (ih rr hcr d tl s r _ (by omega) h4' h4 hR hl hr).2 hr0
      have hlo : ∀ k, rr.len ≤ k → lopS s (parS s (subS s d)) (k + 1) p = (.cons op x y n t e rr, p + (itT op x y n (lsT t) (lsT e) ++ (59 :: lsT rr)).length) := by
        intro k hk
        have h59 : atB s (p + (itT op x y n (lsT t) (lsT e)).length) [59] = true := by rw [atB_at0 (by omega) h3]; rfl
        unfold lopS
        rw [hit]
        simp only
        rw [if_neg (by omega), h59, hnext k hk]
        simp only [if_true]
        rw [if_neg (by omega)]
        simp only [List.length_append, List.length_cons, consO]
        congr 1
        omega
      rw [e1]
      refine ⟨?_, fun _ k hk => ?_⟩
      · rw [lisS_eq, if_neg (hstart _ hs)]
        refine hlo _ ?_
        have h2 : 0 < (itT op x y n (lsT t) (lsT e)).length := List.length_pos_iff.2 hne
        have := lsT_len rr
        have := congrArg List.length h4
        rw [List.length_drop, List.length_append] at this
        omega
      · simp only [Ss.len] at hk
        obtain ⟨k', rfl⟩ : ∃ k', k = k' + 1 := ⟨k - 1, by omega⟩
        exact hlo k' (by omega)) l
end Go.Proofs.YteonnoijdnjpdaaDoor
