/-
  What is proved here: what is appended is an empty slice. No function of the program stands here.
-/
import Derived.Test.YtnfapbghkmodeaaDoorMap
namespace Go.Proofs.YtnfapbghkmodeaaDoor
set_option linter.unusedVariables false
set_option linter.unusedSimpArgs false
set_option linter.unnecessarySimpa false
open Go.RowKit

section
variable {P : Program} {n : Nat} {ops : Array Oper} {Q : Exit → Act → World → Prop} {rest : List Oper} {σ : Env} {w w' : World} {v u : Value}
variable {d : Nat} {ty : TypeId} {pos : String} {af : Array Edge} {x y s : Operand}
/-- Nothing is appended. -/
theorem WO_append0 {t e k bytes B m c : Nat} {z : Value} {A : Option Addr} [TSl P t e k] [TE P e z k bytes] {xs : List Value}
    (hs : ev σ s = some v) (hown : w.ownsRow B e k v m xs) (hx : ev σ x = some (.slice A 0 c)) (hB : B ≤ w.heap.size) (hk : 0 < k) (hm : m ≤ 1000000000000) (hby : bytes ≤ 100)
    (h : ∀ v' w', w'.ownsRow B e k v' m xs → w.grownBy w' v.ownBlock → (v'.ownBlock = v.ownBlock ∨ v'.ownBlock = some w.heap.size) → WO P n ops Q rest ((d, v') :: σ) w') :
    WO P n ops Q (⟨some d, .call ⟨.builtin .append, #[s, x], #[t, t]⟩, ty, pos, af, none⟩ :: rest) σ w := by
  obtain ⟨i, hi, hz, hsz, hb⟩ := TE.row (P := P) (e := e) (z := z) (k := k) (bytes := bytes) inferInstance
  cases A with
  | some a =>
    have hbb : (m + 0) * bytes ≤ 140737488355328 := by
      have := Nat.mul_le_mul hm hby
      rw [Nat.add_zero]
      omega
    obtain ⟨v', w', hr, h2, h3, _, h5⟩ := run_append_own_at (P := P) w B t ty e i z k bytes (TSl.und (P := P) (t := t) (e := e) (k := k)) hi hz hsz hb (TE.cells (P := P) (e := e) (k := k) (bytes := bytes)) hk v m xs hown
      a 0 c [] (by simp) (by simp) (by simp) (by simp only [maxLen]; omega) hbb hB
    refine WO.value rfl ⟨fun _ a hf => ?_⟩ (h v' w' (by simpa using h2) h3 h5)
    simp [execOp, resolve, invoke, builtin, fits_ev hf hs, fits_ev hf hx, hr]
  | none =>
    have hr : (Builtin.append_ #[t, t] ty #[v, .slice none 0 c]).run P w = .ok v w := by
      have ht := TSl.und (P := P) (t := t) (e := e) (k := k)
      rcases hown.2 with ⟨rfl, rfl⟩ | ⟨g, cap, cur, rfl, _, _, hnc, _⟩
      · simp [Builtin.append_, run_underlying ht, sizeOf, typeInfo, hi, Builtin.lenOf, Builtin.firstCells]
      · simp [Builtin.append_, run_underlying ht, sizeOf, typeInfo, hi, Builtin.lenOf, Builtin.firstCells, hnc, storeCells]
    refine WO.value rfl ⟨fun _ a hf => ?_⟩ (h v w hown ⟨rfl, rfl, rfl, Nat.le_refl _, fun _ _ _ => rfl⟩ (.inl rfl))
    simp [execOp, resolve, invoke, builtin, fits_ev hf hs, fits_ev hf hx, hr]
end
end Go.Proofs.YtnfapbghkmodeaaDoor
