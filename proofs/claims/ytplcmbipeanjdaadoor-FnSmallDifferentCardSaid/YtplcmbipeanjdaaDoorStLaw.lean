/-
  What is proved here: what the laws' helpers on statements compute: their size, copies, equality.
-/
import Derived.Test.YtplcmbipeanjdaaDoorScan
import Derived.Test.YtplcmbipeanjdaaDoorSt
namespace Go.Proofs.YtplcmbipeanjdaaDoor
set_option linter.unusedVariables false
set_option linter.unusedSimpArgs false
set_option linter.unnecessarySimpa false
open Go.RowKit

/-- What is left of a list of statements, in memory. -/
def RestS (w : World) (A : Option Addr) (i : Nat) (r : Ss) : Prop := r = .nil ∨ ∃ b o F', A = some ⟨b, o, none⟩ ∧ CsAt w (encS r) b (o + i * 6) F'
theorem restS_start {w : World} {A : Option Addr} {m c : Nat} {l : Ss} {F : List Nat} (h : StS w (.slice A m c) l F) : RestS w A 0 l := by
  rcases stS_at h with h | ⟨b, o, F', hA, hs, _⟩
  · exact .inl h
  · exact .inr ⟨b, o, F', hA, by simpa using hs⟩
theorem restS_cons {w : World} {A : Option Addr} {i : Nat} {op x y n : Int} {t e r : Ss} (h : RestS w A i (.cons op x y n t e r)) : ∃ b o vt ve Ft Fe, A = some ⟨b, o, none⟩ ∧
    (∀ (j : Nat) u, [Value.int .i64 op, .int .i64 x, .int .i64 y, .int .i64 n, vt, ve][j]? = some u → w.cell? ⟨b, o + i * 6 + j, none⟩ = some u) ∧ StS w vt t Ft ∧ StS w ve e Fe ∧ RestS w A (i + 1) r := by
  rcases h with h | ⟨b, o, F', rfl, hs⟩
  · cases h
  · obtain ⟨vt, ve, Ft, Fe, Fr, _, hc, ht, he, hr⟩ := csAt_stmt hs
    exact ⟨b, o, vt, ve, Ft, Fe, rfl, hc, ht, he, .inr ⟨b, o, Fr, rfl, by rw [show o + (i + 1) * 6 = o + i * 6 + 6 from by omega]; exact hr⟩⟩
/-- A program by value. -/
def prV (tv bv : Value) : Value := .agg #[tv, bv]
/-! ### Equality -/
end Go.Proofs.YtplcmbipeanjdaaDoor
