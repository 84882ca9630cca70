/-
  What is proved here: the reference's source of drawn numbers at some place that is not too far.
-/
import Derived.Test.YtplcmbipeanjdaaDoorRd
import Derived.Test.YtplcmbipeanjdaaDoorChgI
namespace Go.Proofs.YtplcmbipeanjdaaDoor
set_option linter.unusedVariables false
set_option linter.unusedSimpArgs false
set_option linter.unnecessarySimpa false
open Go.RowKit

/-- The source stands at some place that is not too far. -/
def RdU (w : World) (rb q : Nat) : Prop := ∃ p, p ≤ q ∧ RdB w rb p
theorem RdU.ext {w w' : World} {rb q : Nat} (h : RdU w rb q) (he : Ext w w') : RdU w' rb q := by obtain ⟨p, h1, h2⟩ := h; exact ⟨p, h1, h2.ext he⟩
theorem RdU.chg {w w' : World} {rb q : Nat} {G : List Nat} (h : RdU w rb q) (c : Chg G w w') (hG : ∀ x ∈ G, rb < x) : RdU w' rb q := by
  obtain ⟨p, h1, bv, t, h2, h3⟩ := h
  exact ⟨p, h1, bv, t, h2.chg c (fun hm => by have := hG _ hm; omega), h3.chg c (fun x hx => by have := hG x hx; omega)⟩
theorem RdU.mono {w : World} {rb q q' : Nat} (h : RdU w rb q) (hq : q ≤ q') : RdU w rb q' := by obtain ⟨p, h1, h2⟩ := h; exact ⟨p, by omega, h2⟩
theorem RdU.lt {w : World} {rb q : Nat} (h : RdU w rb q) : rb < w.heap.size := by obtain ⟨p, _, h2⟩ := h; exact h2.lt
theorem pickU_ret (rb q : Nat) (n : Int) (w : World) (h : RdU w rb q) (hq : q ≤ 1000000000000) (hn : 1 ≤ n) :
    Ret Tryd.prog 14 [.pointer (some ⟨rb, 0, none⟩), .int .i64 n] w fun v w' => ∃ k : Nat, v = .int .i64 (k : Int) ∧ (k : Int) < n ∧ RdU w' rb (q + 1) ∧ Chg [rb] w w' := by
  obtain ⟨p, hp, hr⟩ := h
  exact (pick_ret rb p n w hr (by omega)).mono fun v w' ⟨k, h1, h2, _, h3, h4⟩ => ⟨k, h1, h2 hn, ⟨p + 1, by omega, h3⟩, h4⟩
theorem numU_ret (rb q : Nat) (v : Value) (l : List Int) (F : List Nat) (w : World) (h : RdU w rb q) (hq : q ≤ 1000000000000) (hl : IntF w v l F) (hne : l ≠ []) (hF : ∀ b ∈ F, b ≠ rb) :
    Ret Tryd.prog 21 [.pointer (some ⟨rb, 0, none⟩), v] w fun v w' => ∃ z ∈ l, v = .int .i64 z ∧ RdU w' rb (q + 1) ∧ Chg [rb] w w' := by
  obtain ⟨p, hp, hr⟩ := h
  exact (num_ret rb p v l F w hr (by omega) hl hne hF).mono fun v w' ⟨z, h1, h2, h3, h4⟩ => ⟨z, h1, h2, ⟨p + 1, by omega, h3⟩, h4⟩
theorem openU_ret (v : Value) (w : World) (hd : ByD w v) : Ret Tryd.prog 12 [v] w fun r w' => ∃ rb, r = .pointer (some ⟨rb, 0, none⟩) ∧ w.heap.size ≤ rb ∧ RdU w' rb 0 ∧ Ext w w' :=
  (l17Open_ret v w hd).mono fun r w' ⟨rb, h1, h2, h3, h4⟩ => ⟨rb, h1, h2, ⟨0, Nat.le_refl _, h3⟩, h4⟩
/-- A program that can be read, in memory apart from some blocks. -/
def PrD (w : World) (G : List Nat) (tv bv : Value) (tl : List Int) (l : Ss) : Prop := ∃ Ft Fb, IntF w tv tl Ft ∧ StS w bv l Fb ∧ ∀ x ∈ Ft ++ Fb, x ∉ G ∧ x < w.heap.size
theorem PrD.chg {w w' : World} {G H : List Nat} {tv bv : Value} {tl : List Int} {l : Ss} (h : PrD w G tv bv tl l) (c : Chg H w w') (hH : ∀ x ∈ H, x < w.heap.size → x ∈ G) : PrD w' G tv bv tl l := by
  obtain ⟨Ft, Fb, h1, h2, h3⟩ := h
  exact ⟨Ft, Fb, h1.chg c (fun x hx hm => (h3 x (by simp [hx])).1 (hH x hm (h3 x (by simp [hx])).2)), h2.chg c (fun x hx hm => (h3 x (by simp [hx])).1 (hH x hm (h3 x (by simp [hx])).2)), fun x hx => ⟨(h3 x hx).1, by have := (h3 x hx).2; have := c.size; omega⟩⟩
theorem PrD.ext {w w' : World} {G : List Nat} {tv bv : Value} {tl : List Int} {l : Ss} (h : PrD w G tv bv tl l) (e : Ext w w') : PrD w' G tv bv tl l := h.chg (e.chg []) (by simp)
theorem PrD.less {w : World} {G H : List Nat} {tv bv : Value} {tl : List Int} {l : Ss} (h : PrD w G tv bv tl l) (hH : ∀ x ∈ H, x ∈ G) : PrD w H tv bv tl l := by
  obtain ⟨Ft, Fb, h1, h2, h3⟩ := h
  exact ⟨Ft, Fb, h1, h2, fun x hx => ⟨fun hm => (h3 x hx).1 (hH x hm), (h3 x hx).2⟩⟩
end Go.Proofs.YtplcmbipeanjdaaDoor
