/-
  What is proved here: the text of programs, and what the program's reader does with texts, said of lists of bytes: a valid program is read back from its text. No function of the program stands here.
-/
import Derived.Test.YteonnoijdnjpdaaDoorStLaw
namespace Go.Proofs.YteonnoijdnjpdaaDoor
set_option linter.unusedVariables false
set_option linter.unusedSimpArgs false
set_option linter.unnecessarySimpa false
open Go.RowKit

abbrev Tx := List UInt8
def wIf : Tx := [105, 102, 123]
def wLoop : Tx := [108, 111, 111, 112, 123]
def wDrop : Tx := [100, 114, 111, 112, 32]
def wBox : Tx := [98, 111, 120, 32]
def wMut : Tx := [38, 109, 117, 116, 32]
def wMid : Tx := [125, 123]
def chv (v : Int) : UInt8 := UInt8.ofNat (97 + v.toNat)
def dgv (v : Int) : UInt8 := UInt8.ofNat (48 + v.toNat)
/-- The text of a statement without statements in it. -/
def simT (op x y n : Int) : Tx :=
  if op = 1 then [chv x, 61, dgv n]
  else if op = 2 then [chv x, 61] ++ (wBox ++ [dgv n])
  else if op = 3 then [chv x, 61, chv y]
  else if op = 4 then [chv x, 61, 38, chv y]
  else if op = 5 then [chv x, 61] ++ (wMut ++ [chv y])
  else if op = 6 then [chv x, 61, 42, chv y]
  else if op = 7 then [42, chv x, 61, chv y]
  else wDrop ++ [chv x]
def itT (op x y n : Int) (T E : Tx) : Tx :=
  if op = 9 then wIf ++ (T ++ (wMid ++ (E ++ [125]))) else if op = 10 then wLoop ++ (T ++ [125]) else simT op x y n
/-- The text of statements. -/
def lsT : Ss → Tx
  | .nil => []
  | .cons op x y n t e r => itT op x y n (lsT t) (lsT e) ++ (if r.len = 0 then [] else 59 :: lsT r)
/-! ### The program's reader -/
abbrev RSt := Tx × Bool
abbrev One := Int × Int × Int × Int × Ss × Ss
def consO (a : One) (r : Ss) : Ss := .cons a.1 a.2.1 a.2.2.1 a.2.2.2.1 a.2.2.2.2.1 a.2.2.2.2.2 r
def hasF (p : Tx) (st : RSt) : Bool × RSt := if p.isPrefixOf st.1 then (true, (st.1.drop p.length, st.2)) else (false, st)
def skipF (p : Tx) (st : RSt) : RSt := ((hasF p st).2.1, !(hasF p st).1 || st.2)
def fromF (first many : Nat) (st : RSt) : Int × RSt :=
  match st.1 with
  | [] => (0, ([], true))
  | b :: r => if b.toNat < first ∨ many ≤ b.toNat - first then (0, (b :: r, true)) else (((b.toNat - first : Nat) : Int), (r, st.2))
def varF : RSt → Int × RSt := fromF 97 6
def numbF : RSt → Int × RSt := fromF 48 10
def isDig (s : Tx) : Bool := match s with
  | [] => false
  | b :: _ => decide (48 ≤ b.toNat ∧ b.toNat ≤ 57)
def isEnd (s : Tx) : Bool := match s with
  | [] => true
  | b :: _ => b == 125
def stmtF (f : RSt → Ss × RSt) (st : RSt) : One × RSt :=
  if (hasF wIf st).1 then
    ((9, 0, 0, 0, (f (hasF wIf st).2).1, (f (skipF wMid (f (hasF wIf st).2).2)).1), skipF [125] (f (skipF wMid (f (hasF wIf st).2).2)).2)
  else if (hasF wLoop st).1 then ((10, 0, 0, 0, (f (hasF wLoop st).2).1, .nil), skipF [125] (f (hasF wLoop st).2).2)
  else if (hasF wDrop st).1 then ((8, (varF (hasF wDrop st).2).1, 0, 0, .nil, .nil), (varF (hasF wDrop st).2).2)
  else if (hasF [42] st).1 then
    ((7, (varF (hasF [42] st).2).1, (varF (skipF [61] (varF (hasF [42] st).2).2)).1, 0, .nil, .nil), (varF (skipF [61] (varF (hasF [42] st).2).2)).2)
  else
    let v := varF st
    let s := skipF [61] v.2
    if (hasF wBox s).1 then ((2, v.1, 0, (numbF (hasF wBox s).2).1, .nil, .nil), (numbF (hasF wBox s).2).2)
    else if (hasF wMut s).1 then ((5, v.1, (varF (hasF wMut s).2).1, 0, .nil, .nil), (varF (hasF wMut s).2).2)
    else if (hasF [38] s).1 then ((4, v.1, (varF (hasF [38] s).2).1, 0, .nil, .nil), (varF (hasF [38] s).2).2)
    else if (hasF [42] s).1 then ((6, v.1, (varF (hasF [42] s).2).1, 0, .nil, .nil), (varF (hasF [42] s).2).2)
    else if isDig s.1 then ((1, v.1, 0, (numbF s).1, .nil, .nil), (numbF s).2)
    else ((3, v.1, (varF s).1, 0, .nil, .nil), (varF s).2)
def loopF (g : RSt → One × RSt) : Nat → RSt → Ss × RSt
  | 0, st => (.nil, st)
  | k + 1, st => if st.2 = false ∧ (hasF [59] st).1 = true then (consO (g (hasF [59] st).2).1 (loopF g k (g (hasF [59] st).2).2).1, (loopF g k (g (hasF [59] st).2).2).2) else (.nil, st)
def stmtsF : Nat → RSt → Ss × RSt
  | 0, st => (.nil, (st.1, true))
  | d + 1, st => if st.2 = true ∨ isEnd st.1 = true then (.nil, st) else
      (consO (stmtF (stmtsF d) st).1 (loopF (stmtF (stmtsF d)) (stmtF (stmtsF d) st).2.1.length (stmtF (stmtsF d) st).2).1, (loopF (stmtF (stmtsF d)) (stmtF (stmtsF d) st).2.1.length (stmtF (stmtsF d) st).2).2)
/-! ### Reading goes on -/
theorem hasF_len (p : Tx) (st : RSt) : (hasF p st).2.1.length ≤ st.1.length := by
  unfold hasF
  split
  · simp
  · exact Nat.le_refl _
theorem hasF_lt {p : Tx} {st : RSt} (h : (hasF p st).1 = true) (hp : 0 < p.length) : (hasF p st).2.1.length < st.1.length := by
  unfold hasF at h ⊢
  split at h
  · rename_i hq
    rw [if_pos hq]
    have := (List.isPrefixOf_iff_prefix.1 hq).length_le
    simp
    omega
  · cases h
theorem skipF_len (p : Tx) (st : RSt) : (skipF p st).1.length ≤ st.1.length := hasF_len p st
theorem fromF_len (a b : Nat) (st : RSt) : (fromF a b st).2.1.length ≤ st.1.length := by
  unfold fromF
  split
  · simp
  · rename_i c r hs
    rw [hs]
    split
    · exact Nat.le_refl _
    · simp
theorem stmtF_len {f : RSt → Ss × RSt} (hf : ∀ st, (f st).2.1.length ≤ st.1.length) (st : RSt) : (stmtF f st).2.1.length ≤ st.1.length := by
  have h1 := hasF_len wIf st
  have h2 := hasF_len wLoop st
  have h3 := hasF_len wDrop st
  have h4 := hasF_len [42] st
  have hv : ∀ s, (varF s).2.1.length ≤ s.1.length := fromF_len 97 6
  have hn : ∀ s, (numbF s).2.1.length ≤ s.1.length := fromF_len 48 10
  unfold stmtF
  split
  · exact Nat.le_trans (skipF_len _ _) (Nat.le_trans (hf _) (Nat.le_trans (skipF_len _ _) (Nat.le_trans (hf _) h1)))
  · split
    · exact Nat.le_trans (skipF_len _ _) (Nat.le_trans (hf _) h2)
    · split
      · exact Nat.le_trans (hv _) h3
      · split
        · exact Nat.le_trans (hv _) (Nat.le_trans (skipF_len _ _) (Nat.le_trans (hv _) h4))
        · have hs : (skipF [61] (varF st).2).1.length ≤ st.1.length := Nat.le_trans (skipF_len _ _) (hv _)
          simp only
          split
          · exact Nat.le_trans (hn _) (Nat.le_trans (hasF_len _ _) hs)
          · split
            · exact Nat.le_trans (hv _) (Nat.le_trans (hasF_len _ _) hs)
            · split
              · exact Nat.le_trans (hv _) (Nat.le_trans (hasF_len _ _) hs)
              · split
                · exact Nat.le_trans (hv _) (Nat.le_trans (hasF_len _ _) hs)
                · split
                  · exact Nat.le_trans (hn _) hs
                  · exact Nat.le_trans (hv _) hs
theorem loopF_len {g : RSt → One × RSt} (hg : ∀ st, (g st).2.1.length ≤ st.1.length) : ∀ (k : Nat) (st : RSt), (loopF g k st).2.1.length ≤ st.1.length
  | 0, _ => Nat.le_refl _
  | k + 1, st => by
    unfold loopF
    split
    · exact Nat.le_trans (loopF_len hg k _) (Nat.le_trans (hg _) (hasF_len _ _))
    · exact Nat.le_refl _
theorem stmtsF_len : ∀ (d : Nat) (st : RSt), (stmtsF d st).2.1.length ≤ st.1.length
  | 0, _ => Nat.le_refl _
  | d + 1, st => by
    unfold stmtsF
    split
    · exact Nat.le_refl _
    · exact Nat.le_trans (loopF_len (stmtF_len (stmtsF_len d)) _ _) (stmtF_len (stmtsF_len d) _)
/-- More rounds than bytes change nothing. -/
theorem loopF_more {g : RSt → One × RSt} (hg : ∀ st, (g st).2.1.length ≤ st.1.length) : ∀ (k : Nat) (st : RSt), st.1.length ≤ k → loopF g (k + 1) st = loopF g k st
  | 0, st, h => by
    have h0 : st.1 = [] := List.eq_nil_of_length_eq_zero (by omega)
    unfold loopF
    rw [if_neg]
    rintro ⟨_, h1⟩
    have := hasF_lt h1 (by decide)
    omega
  | k + 1, st, h => by
    rw [loopF]
    conv => rhs; rw [loopF]
    split
    · rename_i hc
      have h1 := hasF_lt hc.2 (by decide)
      have h2 := hg (hasF [59] st).2
      rw [loopF_more hg k _ (by omega)]
    · rfl
theorem loopF_fuel {g : RSt → One × RSt} (hg : ∀ st, (g st).2.1.length ≤ st.1.length) {k : Nat} {st : RSt} (h : st.1.length ≤ k) : loopF g k st = loopF g st.1.length st := by
  obtain ⟨j, rfl⟩ : ∃ j, k = st.1.length + j := ⟨k - st.1.length, by omega⟩
  induction j with
  | zero => rfl
  | succ j ih => rw [← Nat.add_assoc, loopF_more hg _ _ (by omega), ih (by omega)]
/-! ### A valid program is read back -/
theorem var_cases {x : Int} (h : 0 ≤ x ∧ x < 6) : x = 0 ∨ x = 1 ∨ x = 2 ∨ x = 3 ∨ x = 4 ∨ x = 5 := by omega
theorem chv_nat {x : Int} (h : 0 ≤ x ∧ x < 6) : (chv x).toNat = 97 + x.toNat := by
  rcases var_cases h with rfl | rfl | rfl | rfl | rfl | rfl <;> rfl
theorem dgv_nat {n : Int} (h : 0 ≤ n ∧ n ≤ 9) : (dgv n).toNat = 48 + n.toNat := by
  have : n = 0 ∨ n = 1 ∨ n = 2 ∨ n = 3 ∨ n = 4 ∨ n = 5 ∨ n = 6 ∨ n = 7 ∨ n = 8 ∨ n = 9 := by omega
  rcases this with rfl | rfl | rfl | rfl | rfl | rfl | rfl | rfl | rfl | rfl <;> rfl
theorem varF_chv {x : Int} (h : 0 ≤ x ∧ x < 6) (s : Tx) (b : Bool) : varF (chv x :: s, b) = (x, (s, b)) := by
  unfold varF fromF
  simp only [chv_nat h]
  rw [if_neg (by omega)]
  congr 1
  omega
theorem numbF_dgv {n : Int} (h : 0 ≤ n ∧ n ≤ 9) (s : Tx) (b : Bool) : numbF (dgv n :: s, b) = (n, (s, b)) := by
  unfold numbF fromF
  simp only [dgv_nat h]
  rw [if_neg (by omega)]
  congr 1
  omega
theorem hasF_yes (p s : Tx) (b : Bool) : hasF p (p ++ s, b) = (true, (s, b)) := by
  unfold hasF
  rw [if_pos (List.isPrefixOf_iff_prefix.2 (List.prefix_append p s))]
  simp
theorem skipF_yes (p s : Tx) (b : Bool) : skipF p (p ++ s, b) = (s, b) := by
  unfold skipF
  rw [hasF_yes]
  simp
theorem hasF_no {p : Tx} {st : RSt} (h : p.isPrefixOf st.1 = false) : hasF p st = (false, st) := by
  unfold hasF
  rw [if_neg (by rw [h]; simp)]
/-- What may stand behind a statement. -/
def After (s : Tx) : Prop := s = [] ∨ ∃ r, s = 59 :: r ∨ s = 125 :: r
theorem simple_read (f : RSt → Ss × RSt) {op x y n : Int} {s : Tx} (hop : 1 ≤ op ∧ op ≤ 8) (hx : 0 ≤ x ∧ x < 6) (hy : (op = 1 ∨ op = 2 ∨ op = 8) ∧ y = 0 ∨ (3 ≤ op ∧ op ≤ 7) ∧ 0 ≤ y ∧ y < 6) (hn : (op = 1 ∨ op = 2) ∧ 0 ≤ n ∧ n ≤ 9 ∨ 3 ≤ op ∧ n = 0) (hs : After s) :
    stmtF f (simT op x y n ++ s, false) = ((op, x, y, n, .nil, .nil), (s, false)) := by
  have h0 : ∀ (p : Tx) (c : UInt8) (q : Tx), (p = wIf ∨ p = wLoop ∨ p = [42]) → hasF p (chv x :: q, false) = (false, (chv x :: q, false)) := fun p c q hp => by
    refine hasF_no ?_
    rcases var_cases hx with rfl | rfl | rfl | rfl | rfl | rfl <;> rcases hp with rfl | rfl | rfl <;> rfl
  have h1 : ∀ q : Tx, hasF wDrop (chv x :: 61 :: q, false) = (false, (chv x :: 61 :: q, false)) := fun q => by
    refine hasF_no ?_
    rcases var_cases hx with rfl | rfl | rfl | rfl | rfl | rfl <;> rfl
  have h2 : ∀ q : Tx, skipF [61] (61 :: q, false) = (q, false) := fun q => skipF_yes [61] q false
  have hop' : op = 1 ∨ op = 2 ∨ op = 3 ∨ op = 4 ∨ op = 5 ∨ op = 6 ∨ op = 7 ∨ op = 8 := by omega
  rcases hop' with rfl | rfl | rfl | rfl | rfl | rfl | rfl | rfl
  · -- number
    have hn' : 0 ≤ n ∧ n ≤ 9 := by omega
    have hy' : y = 0 := by omega
    have hd : dgv n ≠ 98 ∧ dgv n ≠ 38 ∧ dgv n ≠ 42 := by
      have := dgv_nat hn'
      refine ⟨?_, ?_, ?_⟩ <;> (intro he; rw [he] at this; simp at this; omega)
    have e1 : simT 1 x y n ++ s = chv x :: 61 :: dgv n :: s := rfl
    have k1 : hasF wBox (dgv n :: s, false) = (false, (dgv n :: s, false)) := hasF_no (by simp [wBox, List.isPrefixOf, hd.1.symm])
    have k2 : hasF wMut (dgv n :: s, false) = (false, (dgv n :: s, false)) := hasF_no (by simp [wMut, List.isPrefixOf, hd.2.1.symm])
    have k3 : hasF [38] (dgv n :: s, false) = (false, (dgv n :: s, false)) := hasF_no (by simp [List.isPrefixOf, hd.2.1.symm])
    have k4 : hasF [42] (dgv n :: s, false) = (false, (dgv n :: s, false)) := hasF_no (by simp [List.isPrefixOf, hd.2.2.symm])
    have k5 : isDig (dgv n :: s) = true := by
      show decide (48 ≤ (dgv n).toNat ∧ (dgv n).toNat ≤ 57) = true
      rw [dgv_nat hn']
      simp
      omega
    rw [e1]
    unfold stmtF
    rw [h0 wIf 0 _ (.inl rfl), h0 wLoop 0 _ (.inr (.inl rfl)), h1, h0 [42] 0 _ (.inr (.inr rfl))]
    simp only [Bool.false_eq_true, if_false, varF_chv hx, h2, k1, k2, k3, k4, k5, if_true, numbF_dgv hn', hy']
  · have hn' : 0 ≤ n ∧ n ≤ 9 := by omega
    have hy' : y = 0 := by omega
    have e1 : simT 2 x y n ++ s = chv x :: 61 :: (wBox ++ (dgv n :: s)) := rfl
    rw [e1]
    unfold stmtF
    rw [h0 wIf 0 _ (.inl rfl), h0 wLoop 0 _ (.inr (.inl rfl)), h1, h0 [42] 0 _ (.inr (.inr rfl))]
    simp only [Bool.false_eq_true, if_false, varF_chv hx, h2, hasF_yes, if_true, numbF_dgv hn', hy']
  · have hn' : n = 0 := by omega
    have hy' : 0 ≤ y ∧ y < 6 := by omega
    have e1 : simT 3 x y n ++ s = chv x :: 61 :: chv y :: s := rfl
    have k1 : hasF wBox (chv y :: s, false) = (false, (chv y :: s, false)) := hasF_no (by
      rcases hs with rfl | ⟨r, rfl | rfl⟩ <;> rcases var_cases hy' with rfl | rfl | rfl | rfl | rfl | rfl <;> rfl)
    have k2 : hasF wMut (chv y :: s, false) = (false, (chv y :: s, false)) := hasF_no (by rcases var_cases hy' with rfl | rfl | rfl | rfl | rfl | rfl <;> rfl)
    have k3 : hasF [38] (chv y :: s, false) = (false, (chv y :: s, false)) := hasF_no (by rcases var_cases hy' with rfl | rfl | rfl | rfl | rfl | rfl <;> rfl)
    have k4 : hasF [42] (chv y :: s, false) = (false, (chv y :: s, false)) := hasF_no (by rcases var_cases hy' with rfl | rfl | rfl | rfl | rfl | rfl <;> rfl)
    have k5 : isDig (chv y :: s) = false := by rcases var_cases hy' with rfl | rfl | rfl | rfl | rfl | rfl <;> rfl
    rw [e1]
    unfold stmtF
    rw [h0 wIf 0 _ (.inl rfl), h0 wLoop 0 _ (.inr (.inl rfl)), h1, h0 [42] 0 _ (.inr (.inr rfl))]
    simp only [Bool.false_eq_true, if_false, varF_chv hx, h2, k1, k2, k3, k4, k5, varF_chv hy', hn']
  · have hn' : n = 0 := by omega
    have hy' : 0 ≤ y ∧ y < 6 := by omega
    have e1 : simT 4 x y n ++ s = chv x :: 61 :: ([38] ++ (chv y :: s)) := rfl
    have k1 : hasF wBox ([38] ++ (chv y :: s), false) = (false, ([38] ++ (chv y :: s), false)) := hasF_no rfl
    have k2 : hasF wMut ([38] ++ (chv y :: s), false) = (false, ([38] ++ (chv y :: s), false)) := hasF_no (by rcases var_cases hy' with rfl | rfl | rfl | rfl | rfl | rfl <;> rfl)
    rw [e1]
    unfold stmtF
    rw [h0 wIf 0 _ (.inl rfl), h0 wLoop 0 _ (.inr (.inl rfl)), h1, h0 [42] 0 _ (.inr (.inr rfl))]
    simp only [Bool.false_eq_true, if_false, varF_chv hx, h2, k1, k2, hasF_yes, if_true, varF_chv hy', hn']
  · have hn' : n = 0 := by omega
    have hy' : 0 ≤ y ∧ y < 6 := by omega
    have e1 : simT 5 x y n ++ s = chv x :: 61 :: (wMut ++ (chv y :: s)) := rfl
    have k1 : hasF wBox (wMut ++ (chv y :: s), false) = (false, (wMut ++ (chv y :: s), false)) := hasF_no rfl
    rw [e1]
    unfold stmtF
    rw [h0 wIf 0 _ (.inl rfl), h0 wLoop 0 _ (.inr (.inl rfl)), h1, h0 [42] 0 _ (.inr (.inr rfl))]
    simp only [Bool.false_eq_true, if_false, varF_chv hx, h2, k1, hasF_yes, if_true, varF_chv hy', hn']
  · have hn' : n = 0 := by omega
    have hy' : 0 ≤ y ∧ y < 6 := by omega
    have e1 : simT 6 x y n ++ s = chv x :: 61 :: ([42] ++ (chv y :: s)) := rfl
    have k1 : hasF wBox ([42] ++ (chv y :: s), false) = (false, ([42] ++ (chv y :: s), false)) := hasF_no rfl
    have k2 : hasF wMut ([42] ++ (chv y :: s), false) = (false, ([42] ++ (chv y :: s), false)) := hasF_no rfl
    have k3 : hasF [38] ([42] ++ (chv y :: s), false) = (false, ([42] ++ (chv y :: s), false)) := hasF_no rfl
    rw [e1]
    unfold stmtF
    rw [h0 wIf 0 _ (.inl rfl), h0 wLoop 0 _ (.inr (.inl rfl)), h1, h0 [42] 0 _ (.inr (.inr rfl))]
    simp only [Bool.false_eq_true, if_false, varF_chv hx, h2, k1, k2, k3, hasF_yes, if_true, varF_chv hy', hn']
  · have hn' : n = 0 := by omega
    have hy' : 0 ≤ y ∧ y < 6 := by omega
    have e1 : simT 7 x y n ++ s = [42] ++ (chv x :: 61 :: chv y :: s) := rfl
    have k1 : hasF wIf ([42] ++ (chv x :: 61 :: chv y :: s), false) = (false, ([42] ++ (chv x :: 61 :: chv y :: s), false)) := hasF_no rfl
    have k2 : hasF wLoop ([42] ++ (chv x :: 61 :: chv y :: s), false) = (false, ([42] ++ (chv x :: 61 :: chv y :: s), false)) := hasF_no rfl
    have k3 : hasF wDrop ([42] ++ (chv x :: 61 :: chv y :: s), false) = (false, ([42] ++ (chv x :: 61 :: chv y :: s), false)) := hasF_no rfl
    rw [e1]
    unfold stmtF
    simp only [k1, k2, k3, Bool.false_eq_true, if_false, hasF_yes, if_true, varF_chv hx, h2, varF_chv hy', hn']
  · have hn' : n = 0 := by omega
    have hy' : y = 0 := by omega
    have e1 : simT 8 x y n ++ s = wDrop ++ (chv x :: s) := rfl
    have k1 : hasF wIf (wDrop ++ (chv x :: s), false) = (false, (wDrop ++ (chv x :: s), false)) := hasF_no rfl
    have k2 : hasF wLoop (wDrop ++ (chv x :: s), false) = (false, (wDrop ++ (chv x :: s), false)) := hasF_no rfl
    rw [e1]
    unfold stmtF
    simp only [k1, k2, Bool.false_eq_true, if_false, hasF_yes, if_true, varF_chv hx, hn', hy']
/-- What a valid statement without statements in it is made of. -/
theorem simple_form {tl : List Int} {op x y n : Int} {a b : Nat} (h : SimpleP tl op x y n a b) (hl : tl.length ≤ 6) : (1 ≤ op ∧ op ≤ 8) ∧ (0 ≤ x ∧ x < 6) ∧ ((op = 1 ∨ op = 2 ∨ op = 8) ∧ y = 0 ∨ (3 ≤ op ∧ op ≤ 7) ∧ 0 ≤ y ∧ y < 6) ∧ ((op = 1 ∨ op = 2) ∧ 0 ≤ n ∧ n ≤ 9 ∨ 3 ≤ op ∧ n = 0) ∧ a = 0 ∧ b = 0 := by
  have ht : ∀ v : Int, typeOfL tl v ≠ 0 → 0 ≤ v ∧ v < 6 := fun v hv => by
    by_cases h1 : 0 ≤ v ∧ v < tl.length
    · omega
    · exfalso
      apply hv
      unfold typeOfL
      first
        | rw [if_neg h1]
        | simp [h1]
  unfold SimpleP at h
  obtain ⟨h1, h2, h3, h4, h5⟩ := h
  have hx := ht x
  have hy := ht y
  refine ⟨?_, ?_, ?_, ?_, h3, h4⟩
  · rcases h5 with h | h | h | h | h | h | h <;> omega
  · apply hx; rcases h5 with h | h | h | h | h | h | h <;> omega
  · rcases h5 with h | h | h | h | h | h | h
    · exact .inl (by omega)
    · exact .inl (by omega)
    all_goals exact .inr ⟨by omega, hy (by omega)⟩
  · rcases h1 with h | h
    · exact .inl h
    · refine .inr ⟨?_, h.2.2⟩
      rcases h5 with h' | h' | h' | h' | h' | h' | h' <;> omega
def Ends (s : Tx) : Prop := s = [] ∨ ∃ r, s = 125 :: r
theorem Ends.isEnd {s : Tx} (h : Ends s) : isEnd s = true := by rcases h with rfl | ⟨r, rfl⟩ <;> rfl
theorem itT_head {tl : List Int} {d : Nat} {op x y n : Int} {t e : Ss} (h : okS tl d op x y n t e = true) (hl : tl.length ≤ 6) (s : Tx) : isEnd (itT op x y n (lsT t) (lsT e) ++ s) = false := by
  unfold okS at h
  unfold itT
  by_cases h9 : op = 9
  · rw [if_pos h9]; rfl
  · by_cases h10 : op = 10
    · rw [if_neg h9, if_pos h10]; rfl
    · rw [if_neg (by omega), decide_eq_true_eq] at h
      obtain ⟨h1, h2, _⟩ := simple_form h hl
      rw [if_neg h9, if_neg h10]
      have hop' : op = 1 ∨ op = 2 ∨ op = 3 ∨ op = 4 ∨ op = 5 ∨ op = 6 ∨ op = 7 ∨ op = 8 := by omega
      rcases hop' with rfl | rfl | rfl | rfl | rfl | rfl | rfl | rfl <;> first | rfl | (rcases var_cases h2 with rfl | rfl | rfl | rfl | rfl | rfl <;> rfl)
theorem lsT_len : ∀ l : Ss, l.len ≤ (lsT l).length + 1
  | .nil => by simp [Ss.len]
  | .cons op x y n t e r => by
    have := lsT_len r
    simp only [Ss.len, lsT, List.length_append]
    split
    · omega
    · simp only [List.length_cons]; omega
def ReadP (l : Ss) : Prop := ∀ (d : Nat) (tl : List Int) (s : Tx), okL tl d l = true → tl.length ≤ 6 → Ends s →
  stmtsF (d + 1) (lsT l ++ s, false) = (l, (s, false)) ∧ (l.len ≠ 0 → ∀ k, l.len ≤ k → loopF (stmtF (stmtsF d)) k (59 :: (lsT l ++ s), false) = (l, (s, false)))
theorem read_all (l : Ss) : ReadP l := Ss.strong (fun l ih => by
  intro d tl s hok hl hs
  cases l with
  | nil =>
    refine ⟨?_, fun h => absurd rfl h⟩
    show stmtsF (d + 1) (s, false) = _
    unfold stmtsF
    rw [if_pos (.inr hs.isEnd)]
  | cons op x y n t e r =>
    rw [okL_cons, Bool.and_eq_true] at hok
    obtain ⟨hS, hR⟩ := hok
    have hcr : cntL r < cntL (.cons op x y n t e r) := by simp only [cntL]; omega
    have hct : cntL t < cntL (.cons op x y n t e r) := by simp only [cntL]; omega
    have hce : cntL e < cntL (.cons op x y n t e r) := by simp only [cntL]; omega
    -- the statement itself
    have item : ∀ s1, After s1 → stmtF (stmtsF d) (itT op x y n (lsT t) (lsT e) ++ s1, false) = ((op, x, y, n, t, e), (s1, false)) := by
      intro s1 hs1
      have hS' := hS
      unfold okS at hS'
      by_cases h9 : op = 9 ∨ op = 10
      · rw [if_pos h9, Bool.and_eq_true, Bool.and_eq_true, decide_eq_true_eq] at hS'
        obtain ⟨⟨⟨hd, hx, hy, hn, he⟩, hT⟩, hE⟩ := hS'
        obtain ⟨d', rfl⟩ : ∃ d', d = d' + 1 := ⟨d - 1, by omega⟩
        rw [Nat.add_sub_cancel] at hT hE
        subst hx; subst hy; subst hn
        rcases h9 with rfl | rfl
        · have e1 : itT 9 0 0 0 (lsT t) (lsT e) ++ s1 = wIf ++ (lsT t ++ (wMid ++ (lsT e ++ (125 :: s1)))) := by simp [itT]
          have q1 := (ih t hct d' tl (wMid ++ (lsT e ++ (125 :: s1))) hT hl (.inr ⟨_, rfl⟩)).1
          have q2 := (ih e hce d' tl (125 :: s1) hE hl (.inr ⟨_, rfl⟩)).1
          have q3 : skipF [125] (125 :: s1, false) = (s1, false) := skipF_yes [125] s1 false
          rw [e1]
          unfold stmtF
          simp only [hasF_yes, if_true, q1, skipF_yes, q2, q3]
        · have he0 : e = .nil := Ss.len_zero (by omega)
          subst he0
          have e1 : itT 10 0 0 0 (lsT t) (lsT .nil) ++ s1 = wLoop ++ (lsT t ++ (125 :: s1)) := by simp [itT]
          have q1 := (ih t hct d' tl (125 :: s1) hT hl (.inr ⟨_, rfl⟩)).1
          have q3 : skipF [125] (125 :: s1, false) = (s1, false) := skipF_yes [125] s1 false
          have q4 : hasF wIf (wLoop ++ (lsT t ++ (125 :: s1)), false) = (false, (wLoop ++ (lsT t ++ (125 :: s1)), false)) := hasF_no rfl
          rw [e1]
          unfold stmtF
          simp only [q4, Bool.false_eq_true, if_false, hasF_yes, if_true, q1, q3]
      · rw [if_neg h9, decide_eq_true_eq] at hS'
        obtain ⟨a1, a2, a3, a4, a5, a6⟩ := simple_form hS' hl
        have ht0 := Ss.len_zero a5
        have he0 := Ss.len_zero a6
        subst ht0; subst he0
        have e1 : itT op x y n (lsT .nil) (lsT .nil) = simT op x y n := by unfold itT; rw [if_neg (by omega), if_neg (by omega)]
        rw [e1]
        exact simple_read _ a1 a2 a3 a4 hs1
    -- what follows
    by_cases hr0 : r.len = 0
    · have hrn := Ss.len_zero hr0
      subst hrn
      have e1 : lsT (.cons op x y n t e .nil) ++ s = itT op x y n (lsT t) (lsT e) ++ s := by simp [lsT, Ss.len]
      have hit := item s (by rcases hs with rfl | ⟨q, rfl⟩; exact .inl rfl; exact .inr ⟨q, .inr rfl⟩)
      have hlo : ∀ k, loopF (stmtF (stmtsF d)) k (s, false) = (.nil, (s, false)) := by
        intro k
        cases k with
        | zero => rfl
        | succ k =>
          unfold loopF
          rw [if_neg]
          rintro ⟨_, h⟩
          rcases hs with rfl | ⟨q, rfl⟩ <;> simp [hasF, List.isPrefixOf] at h
      refine ⟨?_, fun _ k hk => ?_⟩
      · rw [e1]
        unfold stmtsF
        rw [if_neg (by rw [itT_head hS hl]; simp), hit]
        simp only [hlo]
        rfl
      · obtain ⟨k', rfl⟩ : ∃ k', k = k' + 1 := ⟨k - 1, by simp [Ss.len] at hk; omega⟩
        rw [e1]
        unfold loopF
        have h59 : hasF [59] (59 :: (itT op x y n (lsT t) (lsT e) ++ s), false) = (true, (itT op x y n (lsT t) (lsT e) ++ s, false)) := hasF_yes [59] _ false
        rw [h59]
        rw [if_pos ⟨rfl, rfl⟩, hit]
        simp only [hlo]
        rfl
    · have e1 : lsT (.cons op x y n t e r) ++ s = itT op x y n (lsT t) (lsT e) ++ (59 :: (lsT r ++ s)) := by simp [lsT, hr0]
      have hit := item (59 :: (lsT r ++ s)) (.inr ⟨_, .inl rfl⟩)
      have hlo := (ih r hcr d tl s hR hl hs).2 hr0
      refine ⟨?_, fun _ k hk => ?_⟩
      · rw [e1]
        unfold stmtsF
        rw [if_neg (by rw [itT_head hS hl]; simp), hit]
        simp only
        rw [hlo _ (by have := lsT_len r; simp; omega)]
        rfl
      · simp only [Ss.len] at hk
        obtain ⟨k', rfl⟩ : ∃ k', k = k' + 1 := ⟨k - 1, by omega⟩
        rw [e1]
        unfold loopF
        have h59 : hasF [59] (59 :: (itT op x y n (lsT t) (lsT e) ++ (59 :: (lsT r ++ s))), false) = (true, (itT op x y n (lsT t) (lsT e) ++ (59 :: (lsT r ++ s)), false)) := hasF_yes [59] _ false
        rw [h59]
        rw [if_pos ⟨rfl, rfl⟩, hit]
        simp only
        rw [hlo k' (by omega)]
        rfl) l
end Go.Proofs.YteonnoijdnjpdaaDoor
