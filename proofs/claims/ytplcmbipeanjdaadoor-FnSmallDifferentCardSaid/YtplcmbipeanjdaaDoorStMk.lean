/-
  What is proved here: the laws' copies of statements and programs, what marks do to owned rows of statements, and what held answers.
-/
import Derived.Test.YtplcmbipeanjdaaDoorStLaw
namespace Go.Proofs.YtplcmbipeanjdaaDoor
set_option linter.unusedVariables false
set_option linter.unusedSimpArgs false
set_option linter.unnecessarySimpa false
open Go.RowKit

/-! ### Copies -/
def zeroSt : List Value := [.int .i64 0, .int .i64 0, .int .i64 0, .int .i64 0, .slice none 0 0, .slice none 0 0]
def zeros (k : Nat) : List Value := (List.replicate k zeroSt).flatten
theorem zeros_length (k : Nat) : (zeros k).length = k * 6 := by simp [zeros, zeroSt]
theorem zeros_succ (k : Nat) : zeros (k + 1) = zeroSt ++ zeros k := by simp [zeros, List.replicate_succ]
/-- A statement by value in new memory. -/
def NewSt (e : TypeId) (op x y n : Int) (t el : Ss) (w : World) (r : Value) (w' : World) : Prop :=
  ∃ vt ve Ft Fe, r = stV op x y n vt ve ∧ RowS e w' vt t Ft ∧ RowS e w' ve el Fe ∧ (Ft ++ Fe).Nodup ∧ (∀ b ∈ Ft ++ Fe, w.heap.size ≤ b) ∧ Ext w w'
/-! ### Marks -/
def markS : Int → Ss → Ss
  | _, .nil => .nil
  | k, .cons _ _ _ _ t e r => .cons k (k + 1) (k + 2) (k + 3) (markS (k + 4) t) (markS (k + 4 + 4 * cntL t) e) (markS (k + 4 + 4 * cntL t + 4 * cntL e) r)
theorem markS_len : ∀ (l : Ss) (k : Int), (markS k l).len = l.len
  | .nil, _ => rfl
  | .cons op x y n t e r, k => by simp [markS, Ss.len, markS_len r]
theorem markS_cntL : ∀ (l : Ss) (k : Int), cntL (markS k l) = cntL l
  | .nil, _ => rfl
  | .cons op x y n t e r, k => by simp [markS, cntL, markS_cntL t, markS_cntL e, markS_cntL r]
end Go.Proofs.YtplcmbipeanjdaaDoor
