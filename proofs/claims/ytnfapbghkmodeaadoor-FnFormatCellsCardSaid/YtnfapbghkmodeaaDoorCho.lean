/-
  What is proved here: what the program's and the reference's functions on numbers of lists of choices compute (within, isLength, choicesOf, ChoicesOf; l8Runs, l8Choices, ChoicesOf), IsReference, SmallTests.
-/
import Derived.Test.YtnfapbghkmodeaaDoorInts
namespace Go.Proofs.YtnfapbghkmodeaaDoor
set_option linter.unusedVariables false
set_option linter.unusedSimpArgs false
set_option linter.unnecessarySimpa false
open Go.RowKit

/-- The result is a slice of numbers in new memory. -/
def NewInts (l : List Int) (w : World) (v : Value) (w' : World) : Prop := (∃ F, OwnI w' v l F ∧ ∀ b ∈ F, w.heap.size ≤ b) ∧ Ext w w'

theorem within_ret (n l h : Int) (w : World) : Ret Tryd.prog 24 [.int .i64 n, .int .i64 l, .int .i64 h] w fun v w' => v = .bool (decide (l ≤ n ∧ n ≤ h)) ∧ w' = w := by
  refine enter Tryd.func24 rfl Tryd.ntmps24 rfl rfl ?_
  (refine goS ?_; repeat' (first | ((refine Z51 rfl rfl (fun c' hc' => ?_)); cases c' <;> (try simp only [decide_eq_true_eq, decide_eq_false_iff_not, beq_iff_eq, beq_eq_false_iff_ne, bne_iff_ne, bne_eq_false_iff_eq, ne_eq, gt_iff_lt, ge_iff_le, Int.not_lt, Int.not_le, Bool.not_eq_true', Bool.not_eq_false', Bool.not_true, Bool.not_false, reduceCtorEq, Decidable.not_not, not_true_eq_false, Bool.true_eq_false, Bool.false_eq_true] at hc') <;> (try (exfalso; omega)) <;> refine goS ?_) | ((refine Z52 rfl (fun hc' => ?_) (fun hc' => ?_)) <;> (try simp only [decide_eq_true_eq, decide_eq_false_iff_not, beq_iff_eq, beq_eq_false_iff_ne, bne_iff_ne, bne_eq_false_iff_eq, ne_eq, gt_iff_lt, ge_iff_le, Int.not_lt, Int.not_le, Bool.not_eq_true', Bool.not_eq_false', Bool.not_true, Bool.not_false, reduceCtorEq, Decidable.not_not, not_true_eq_false, Bool.true_eq_false, Bool.false_eq_true] at hc') <;> (try (exfalso; omega)) <;> refine goS ?_)))
  all_goals (refine at_ret1 rfl rfl ⟨?_, rfl⟩; refine congrArg Value.bool ?_; rw [Bool.eq_iff_iff]; simp <;> omega)

/-- The binary digits, the last one first. -/
def cho (n : Int) (m : Nat) : List Int := (List.range m).map fun i => n / 2 ^ i % 2
theorem cho_succ (n : Int) (m : Nat) : cho n (m + 1) = cho n m ++ [n / 2 ^ m % 2] := by simp [cho, List.range_succ]
theorem cho_length (n : Int) (m : Nat) : (cho n m).length = m := by simp [cho]
def choOf (n len : Int) : List Int := if 0 ≤ len ∧ len ≤ 6 ∧ 0 ≤ n ∧ n < 2 ^ len.toNat then cho n len.toNat else []

theorem one_int {a : Int} : ∀ c ∈ (Value.int .i64 a).cells.toList, c.oneCell' = true := by
  intro c hc
  simp [Value.cells] at hc
  subst hc
  rfl
theorem grown_below {w0 w w' : World} {v : Value} {B e k m : Nat} {xs : List Value} (h : Ext w0 w) (hown : w.ownsRow B e k v m xs) (hg : w.grownBy w' v.ownBlock) (hB : w0.heap.size ≤ B) : Ext w0 w' :=
  ext_grown h hg fun b hb => Nat.le_trans hB (hown.lt b hb).1
theorem div_pow_step (n : Int) (i : Nat) : n / 2 ^ i / 2 = n / 2 ^ (i + 1) := by
  rw [Int.ediv_ediv_of_nonneg (by exact Int.le_of_lt (Int.pow_pos (by omega))), Int.pow_succ]
theorem div_pow_bounds (n : Int) (i : Nat) (h : 0 ≤ n) : 0 ≤ n / 2 ^ i ∧ n / 2 ^ i ≤ n :=
  ⟨Int.ediv_nonneg h (by exact Int.le_of_lt (Int.pow_pos (by omega))), Int.ediv_le_self _ h⟩

end Go.Proofs.YtnfapbghkmodeaaDoor
