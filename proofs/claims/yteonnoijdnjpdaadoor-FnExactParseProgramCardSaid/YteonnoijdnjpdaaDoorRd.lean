/-
  What is proved here: what the reference's source of drawn numbers (l17Open, pick, num) returns: numbers in range, and a position that goes up by one.
-/
import Derived.Test.YteonnoijdnjpdaaDoorData
namespace Go.Proofs.YteonnoijdnjpdaaDoor
set_option linter.unusedVariables false
set_option linter.unusedSimpArgs false
set_option linter.unnecessarySimpa false
open Go.RowKit

/-- A slice of bytes, whatever they are, outside block rb. -/
def ByS (w : World) (v : Value) (rb : Nat) : Prop :=
  ∃ A n c, v = .slice A n c ∧ n ≤ c ∧ n ≤ 9223372036854775807 ∧ (n = 0 ∨ ∃ b o, A = some ⟨b, o, none⟩ ∧ b < rb ∧ ∀ i, i < n → ∃ x : Nat, x < 256 ∧ w.cell? ⟨b, o + i * 1, none⟩ = some (.int .u8 (x : Int)))
/-- A slice of bytes, whatever they are. -/
def ByD (w : World) (v : Value) : Prop :=
  ∃ A n c, v = .slice A n c ∧ n ≤ c ∧ n ≤ 9223372036854775807 ∧ (n = 0 ∨ ∃ b o, A = some ⟨b, o, none⟩ ∧ ∀ i, i < n → ∃ x : Nat, x < 256 ∧ w.cell? ⟨b, o + i * 1, none⟩ = some (.int .u8 (x : Int)))
theorem ByD.ext {w w' : World} {v : Value} (h : ByD w v) (he : Ext w w') : ByD w' v := by
  obtain ⟨A, n, c, rfl, hc, hn, h | ⟨b, o, rfl, hx⟩⟩ := h
  · exact ⟨A, n, c, rfl, hc, hn, .inl h⟩
  · refine ⟨_, n, c, rfl, hc, hn, .inr ⟨b, o, rfl, fun i hi => ?_⟩⟩
    obtain ⟨x, h1, h2⟩ := hx i hi
    exact ⟨x, h1, cell_ext h2 he⟩
theorem ByD.bys {w : World} {v : Value} (h : ByD w v) : ByS w v w.heap.size := by
  obtain ⟨A, n, c, rfl, hc, hn, h | ⟨b, o, rfl, hx⟩⟩ := h
  · exact ⟨A, n, c, rfl, hc, hn, .inl h⟩
  · rcases Nat.eq_zero_or_pos n with h0 | h0
    · exact ⟨_, n, c, rfl, hc, hn, .inl h0⟩
    · refine ⟨_, n, c, rfl, hc, hn, .inr ⟨b, o, rfl, ?_, hx⟩⟩
      obtain ⟨x, _, h2⟩ := hx 0 h0
      have := World.block_lt_of_cell? w _ h2
      simp only at this
      omega

/-- Block rb is a source of drawn numbers at position p. -/
def RdB (w : World) (rb p : Nat) : Prop := ∃ bv t, Blk w rb [bv, .int .i64 (p : Int)] t ∧ ByS w bv rb
theorem ByS.chg {w w' : World} {v : Value} {rb : Nat} {G : List Nat} (h : ByS w v rb) (k : Chg G w w') (hG : ∀ x ∈ G, rb ≤ x) : ByS w' v rb := by
  obtain ⟨A, n, c, rfl, hc, hn, h | ⟨b, o, rfl, hb, hx⟩⟩ := h
  · exact ⟨A, n, c, rfl, hc, hn, .inl h⟩
  · rcases Nat.eq_zero_or_pos n with h0 | h0
    · exact ⟨_, n, c, rfl, hc, hn, .inl h0⟩
    · refine ⟨_, n, c, rfl, hc, hn, .inr ⟨b, o, rfl, hb, fun i hi => ?_⟩⟩
      obtain ⟨x, h1, h2⟩ := hx i hi
      refine ⟨x, h1, cell_chg h2 k fun hm => ?_⟩
      have := hG _ hm
      simp only at this
      omega
theorem RdB.ext {w w' : World} {rb p : Nat} (h : RdB w rb p) (he : Ext w w') : RdB w' rb p := by
  obtain ⟨bv, t, hb, hy⟩ := h
  exact ⟨bv, t, hb.ext he, hy.chg (he.chg []) (by simp)⟩
theorem RdB.lt {w : World} {rb p : Nat} (h : RdB w rb p) : rb < w.heap.size := by
  obtain ⟨bv, t, hb, _⟩ := h
  exact hb.lt

end Go.Proofs.YteonnoijdnjpdaaDoor
