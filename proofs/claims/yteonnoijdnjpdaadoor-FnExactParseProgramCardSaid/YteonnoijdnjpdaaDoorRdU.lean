/-
  What is proved here: the reference's source of drawn numbers at some place that is not too far.
-/
import Derived.Test.YteonnoijdnjpdaaDoorRd
import Derived.Test.YteonnoijdnjpdaaDoorChgI
namespace Go.Proofs.YteonnoijdnjpdaaDoor
set_option linter.unusedVariables false
set_option linter.unusedSimpArgs false
set_option linter.unnecessarySimpa false
open Go.RowKit

/-- The source stands at some place that is not too far. -/
def RdU (w : World) (rb q : Nat) : Prop := ∃ p, p ≤ q ∧ RdB w rb p
theorem RdU.ext {w w' : World} {rb q : Nat} (h : RdU w rb q) (he : Ext w w') : RdU w' rb q := by obtain ⟨p, h1, h2⟩ := h; exact ⟨p, h1, h2.ext he⟩
theorem RdU.chg {w w' : World} {rb q : Nat} {G : List Nat} (h : RdU w rb q) (c : Chg G w w') (hG : ∀ x ∈ G, rb < x) : RdU w' rb q := by
  obtain ⟨p, h1, bv, t, h2, h3⟩ := h
  exact ⟨p, h1, bv, t, h2.chg c (fun hm => by have := hG _ hm; omega), h3.chg c (fun x hx => by have := hG x hx; omega)⟩
theorem RdU.mono {w : World} {rb q q' : Nat} (h : RdU w rb q) (hq : q ≤ q') : RdU w rb q' := by obtain ⟨p, h1, h2⟩ := h; exact ⟨p, by omega, h2⟩
theorem RdU.lt {w : World} {rb q : Nat} (h : RdU w rb q) : rb < w.heap.size := by obtain ⟨p, _, h2⟩ := h; exact h2.lt
/-- A program that can be read, in memory apart from some blocks. -/
def PrD (w : World) (G : List Nat) (tv bv : Value) (tl : List Int) (l : Ss) : Prop := ∃ Ft Fb, IntF w tv tl Ft ∧ StS w bv l Fb ∧ ∀ x ∈ Ft ++ Fb, x ∉ G ∧ x < w.heap.size
theorem PrD.chg {w w' : World} {G H : List Nat} {tv bv : Value} {tl : List Int} {l : Ss} (h : PrD w G tv bv tl l) (c : Chg H w w') (hH : ∀ x ∈ H, x < w.heap.size → x ∈ G) : PrD w' G tv bv tl l := by
  obtain ⟨Ft, Fb, h1, h2, h3⟩ := h
  exact ⟨Ft, Fb, h1.chg c (fun x hx hm => (h3 x (by simp [hx])).1 (hH x hm (h3 x (by simp [hx])).2)), h2.chg c (fun x hx hm => (h3 x (by simp [hx])).1 (hH x hm (h3 x (by simp [hx])).2)), fun x hx => ⟨(h3 x hx).1, by have := (h3 x hx).2; have := c.size; omega⟩⟩
theorem PrD.ext {w w' : World} {G : List Nat} {tv bv : Value} {tl : List Int} {l : Ss} (h : PrD w G tv bv tl l) (e : Ext w w') : PrD w' G tv bv tl l := h.chg (e.chg []) (by simp)
theorem PrD.less {w : World} {G H : List Nat} {tv bv : Value} {tl : List Int} {l : Ss} (h : PrD w G tv bv tl l) (hH : ∀ x ∈ H, x ∈ G) : PrD w H tv bv tl l := by
  obtain ⟨Ft, Fb, h1, h2, h3⟩ := h
  exact ⟨Ft, Fb, h1, h2, fun x hx => ⟨fun hm => (h3 x hx).1 (hH x hm), (h3 x hx).2⟩⟩
end Go.Proofs.YteonnoijdnjpdaaDoor
