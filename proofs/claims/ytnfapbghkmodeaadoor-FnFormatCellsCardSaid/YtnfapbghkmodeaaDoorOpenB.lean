/-
  What is proved here: an argument that is a slice of bytes or of numbers, read as data, is what the walks ask.
-/
import Derived.Test.YtnfapbghkmodeaaDoorPost
import Derived.Test.YtnfapbghkmodeaaDoorRd
namespace Go.Proofs.YtnfapbghkmodeaaDoor
set_option linter.unusedVariables false
set_option linter.unusedSimpArgs false
set_option linter.unnecessarySimpa false
open Go.ChangeShapes Go.WideShapes Go.ChangeAt Go.RowKit
section
variable {H : Type} {enc : TypeId × Value → H} {W : World} {base b0 : Nat} {sp : Nat → Bool} {hd : Bool} {r : Reach} {v : Value} {d : DataW H} {ps : List MemPlace}
theorem addr_plain {w : World} {a : Addr} {v : Value} (h : w.cell? a = some v) : a.spot = none := by
  unfold World.cell? at h
  split at h
  · cases hs : a.spot <;> simp_all
  · cases h
set_option maxRecDepth 100000 in
theorem open_Bytes (hv : Value.okWide Tryd.prog W r b0 29 v) (h : DataW.Trod enc Tryd.prog W base sp hd 29 v d ps) : ∃ u : Unit, ByD W v := by
  obtain ⟨a0, len, cap, rfl⟩ := okWide_slice Tryd.underlying29 hv
  obtain ⟨fuel, hf⟩ := h
  rcases open_ints Tryd.underlying29 Tryd.underlying5 (by kernel_rfl) hf with ⟨hcs, _⟩ | ⟨a, len', cap', zs, hcs, _, hl, hm, hz, _, hcell, hwz⟩
  · simp [Value.cells] at hcs
    obtain ⟨rfl, rfl, rfl⟩ := hcs
    exact ⟨(), none, 0, 0, rfl, by simp, by simp, .inl rfl⟩
  · simp [Value.cells] at hcs
    obtain ⟨rfl, rfl, rfl⟩ := hcs
    unfold maxLen at hm
    refine ⟨(), some a, len, cap, rfl, hl, by omega, ?_⟩
    rcases Nat.eq_zero_or_pos len with h0 | h0
    · exact .inl h0
    · have hzl : len ≤ zs.length := by rw [hz]; split <;> omega
      have h1 := hcell 0 (by omega)
      obtain ⟨b, o, s⟩ := a
      have hs : s = none := by
        have := addr_plain h1
        simpa [Addr.add] using this
      subst hs
      refine .inr ⟨b, o, rfl, fun i hi => ?_⟩
      have h2 := hcell i (by omega)
      rw [add_some] at h2
      have hmem : zs.getD i 0 ∈ zs := by
        rw [List.getD_eq_getElem?_getD, List.getElem?_eq_getElem (by omega)]
        exact List.getElem_mem _
      have hb := hwz _ hmem
      have hb1 : 0 ≤ zs.getD i 0 ∧ zs.getD i 0 ≤ 255 := by
        have e1 : IntKind.u8.min = 0 := rfl
        have e2 : IntKind.u8.max = 255 := rfl
        simp only [Lit.wf, Bool.and_eq_true, decide_eq_true_eq, e1, e2] at hb
        exact hb
      refine ⟨(zs.getD i 0).toNat, by omega, ?_⟩
      rw [Int.toNat_of_nonneg hb1.1, Nat.mul_one]
      exact h2
end
end Go.Proofs.YtnfapbghkmodeaaDoor
