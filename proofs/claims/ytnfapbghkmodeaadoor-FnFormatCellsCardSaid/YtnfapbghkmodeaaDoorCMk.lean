/-
  What is proved here: what the laws' marks do to owned rows of tags and cells, and what held answers.
-/
import Derived.Test.YtnfapbghkmodeaaDoorCMark
namespace Go.Proofs.YtnfapbghkmodeaaDoor
set_option linter.unusedVariables false
set_option linter.unusedSimpArgs false
set_option linter.unnecessarySimpa false
open Go.RowKit

def markT (k : Int) : List Tg → List Tg
  | [] => []
  | _ :: r => ⟨k, (k + 1) % 3 == 0⟩ :: markT (k + 2) r
theorem markT_length : ∀ (l : List Tg) (k : Int), (markT k l).length = l.length
  | [], _ => rfl
  | _ :: r, k => by simp [markT, markT_length r]
theorem markT_get : ∀ (l : List Tg) (k : Int) (i : Nat) (hi : i < (markT k l).length), (markT k l)[i] = ⟨k + 2 * i, (k + 2 * i + 1) % 3 == 0⟩
  | _ :: r, k, 0, _ => by simp [markT]
  | _ :: r, k, i + 1, hi => by
    have := markT_get r (k + 2) i (by simpa [markT] using hi)
    simp only [markT, List.getElem_cons_succ, this]
    have e : k + 2 + 2 * (i : Int) = k + 2 * ((i + 1 : Nat) : Int) := by omega
    rw [e]
def kAt (k : Int) (l : List Ce) (i : Nat) : Int := k + 3 * i + 2 * ((l.take i).map fun c => c.st.length).sum
theorem kAt_zero (k : Int) (l : List Ce) : kAt k l 0 = k := by simp [kAt]
theorem kAt_succ (k : Int) (l : List Ce) (i : Nat) (hi : i < l.length) : kAt k l (i + 1) = kAt k l i + 3 + 2 * l[i].st.length := by
  unfold kAt
  rw [List.take_succ_eq_append_getElem hi, List.map_append, List.sum_append]
  simp only [List.map_cons, List.map_nil, List.sum_cons, List.sum_nil, Nat.add_zero]
  omega
theorem kAt_mono (k : Int) (l : List Ce) : ∀ (d i : Nat), i + d ≤ l.length → kAt k l i ≤ kAt k l (i + d)
  | 0, _, _ => Int.le_refl _
  | d + 1, i, h => by
    have h1 := kAt_mono k l d i (by omega)
    have h2 := kAt_succ k l (i + d) (by omega)
    rw [← Nat.add_assoc, h2]
    omega
def markC (k : Int) : List Ce → List Ce
  | [] => []
  | c :: r => ⟨k, (k + 1) % 3 == 0, k + 2, markT (k + 3) c.st⟩ :: markC (k + 3 + 2 * c.st.length) r
theorem markC_length : ∀ (l : List Ce) (k : Int), (markC k l).length = l.length
  | [], _ => rfl
  | _ :: r, k => by simp [markC, markC_length r]
theorem markC_get : ∀ (l : List Ce) (k : Int) (i : Nat) (hi : i < l.length), (markC k l)[i]'(by rw [markC_length]; exact hi) = ⟨kAt k l i, (kAt k l i + 1) % 3 == 0, kAt k l i + 2, markT (kAt k l i + 3) l[i].st⟩
  | c :: r, k, 0, _ => by simp [markC, kAt]
  | c :: r, k, i + 1, hi => by
    have := markC_get r (k + 3 + 2 * c.st.length) i (by simpa using hi)
    have e : kAt (k + 3 + 2 * c.st.length) r i = kAt k (c :: r) (i + 1) := by simp [kAt]; omega
    simp only [markC, List.getElem_cons_succ, this, e]
theorem over_length {α : Type} {l m : List α} (h : m.length = l.length) {i : Nat} (hi : i ≤ l.length) : (m.take i ++ l.drop i).length = l.length := by simp; omega
theorem over_get {α : Type} {l m : List α} (h : m.length = l.length) {i : Nat} (hi : i < l.length) : (m.take i ++ l.drop i)[i]'(by rw [over_length h (by omega)]; exact hi) = l[i] := by
  rw [List.getElem_append_right (by simp; omega)]
  simp
  congr 1
  omega
theorem over_set {α : Type} {l m : List α} (h : m.length = l.length) {i : Nat} (hi : i < l.length) : (m.take i ++ l.drop i).set i (m[i]'(by omega)) = m.take (i + 1) ++ l.drop (i + 1) := by
  rw [List.set_append_right _ _ (by simp; omega), List.take_succ_eq_append_getElem (by omega : i < m.length)]
  have h2 : i - (m.take i).length = 0 := by simp; omega
  rw [h2, List.drop_eq_getElem_cons hi, List.set_cons_zero, List.append_assoc]
  rfl

end Go.Proofs.YtnfapbghkmodeaaDoor
