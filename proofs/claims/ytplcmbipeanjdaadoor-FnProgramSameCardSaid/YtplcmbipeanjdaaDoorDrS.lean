/-
  What is proved here: the drawn arguments of the laws on statements and programs.
-/
import Derived.Test.YtplcmbipeanjdaaDoorMt3
namespace Go.Proofs.YtplcmbipeanjdaaDoor
set_option linter.unusedVariables false
set_option linter.unusedSimpArgs false
set_option linter.unnecessarySimpa false
open Go.RowKit

/-- A program of bounded size that can be read, in new memory. -/
def AnyQ (w : World) (r : Value) (w' : World) : Prop := ∃ tv bv tl l Ft Fb, r = prV tv bv ∧ IntF w' tv tl Ft ∧ StS w' bv l Fb ∧ (∀ x ∈ Ft ++ Fb, w.heap.size ≤ x ∧ x < w'.heap.size) ∧ (tl.length ≤ 20000 ∧ cntL l ≤ 20000) ∧ Ext w w'
/-- Types and a statement of bounded size that can be read, in new memory. -/
def AnyS (w : World) (r : Value) (w' : World) : Prop := ∃ tv tl Ft op x y n vt ve t e F1 F2, r = .tuple #[tv, stV op x y n vt ve] ∧ IntF w' tv tl Ft ∧ StS w' vt t F1 ∧ StS w' ve e F2 ∧ (∀ z ∈ Ft ++ (F1 ++ F2), w.heap.size ≤ z ∧ z < w'.heap.size) ∧ (tl.length ≤ 20000 ∧ cntL t + cntL e ≤ 20000) ∧ Ext w w'
/-- A statement of bounded size that can be read, in new memory. -/
def AnyS1 (w : World) (r : Value) (w' : World) : Prop := ∃ op x y n vt ve t e F1 F2, r = stV op x y n vt ve ∧ StS w' vt t F1 ∧ StS w' ve e F2 ∧ (∀ z ∈ F1 ++ F2, w.heap.size ≤ z ∧ z < w'.heap.size) ∧ cntL t + cntL e ≤ 20000 ∧ Ext w w'
/-- Two statements of bounded size that can be read, in new memory. -/
def AnyS2 (w : World) (r : Value) (w' : World) : Prop := ∃ op x y n vt ve t e F1 F2 op' x' y' n' vt' ve' t' e' F3 F4, r = .tuple #[stV op x y n vt ve, stV op' x' y' n' vt' ve'] ∧ StS w' vt t F1 ∧ StS w' ve e F2 ∧ StS w' vt' t' F3 ∧ StS w' ve' e' F4 ∧ (cntL t + cntL e ≤ 20000 ∧ cntL t' + cntL e' ≤ 20000) ∧ Ext w w'
theorem csAt_dropS {w : World} : ∀ (k : Nat) (l : Ss) (b o : Nat) (F : List Nat), k ≤ l.len → CsAt w (encS l) b o F → ∃ F', CsAt w (encS (l.drop k)) b (o + k * 6) F' ∧ ∀ x ∈ F', x ∈ F
  | 0, _, _, _, F, _, h => ⟨F, by rw [Nat.zero_mul, Nat.add_zero]; exact h, fun _ h => h⟩
  | k + 1, .nil, _, _, _, hk, _ => by simp [Ss.len] at hk
  | k + 1, .cons op x y n t e r, b, o, F, hk, h => by
    obtain ⟨vt, ve, Ft, Fe, Fr, hF, _, _, _, hr⟩ := csAt_stmt h
    simp only [Ss.len] at hk
    obtain ⟨F', h', hs⟩ := csAt_dropS k r b (o + 6) Fr (by omega) hr
    exact ⟨F', by rw [show o + (k + 1) * 6 = o + 6 + k * 6 from by omega]; exact h', fun x hx => by rw [hF]; simp [hs x hx]⟩
/-- One statement of a slice, in memory of the slice. -/
theorem StS.oneF {w : World} {A : Option Addr} {m c : Nat} {l d r t e : Ss} {op x y n : Int} {F : List Nat} (h : StS w (.slice A m c) l F) (hl : l = d.app (.cons op x y n t e r)) : ∃ b o vt ve Ft Fe, A = some ⟨b, o, none⟩ ∧ m = l.len ∧
    (∀ (j : Nat) u, [Value.int .i64 op, .int .i64 x, .int .i64 y, .int .i64 n, vt, ve][j]? = some u → w.cell? ⟨b, o + d.len * 6 + j, none⟩ = some u) ∧ StS w vt t Ft ∧ StS w ve e Fe ∧ b ∈ F ∧ ∀ z ∈ Ft ++ Fe, z ∈ F := by
  obtain ⟨A', c', e', ⟨hm, hmc⟩, hs⟩ := h
  cases e'
  have hlen : l.len = d.len + 1 + r.len := by rw [hl, Ss.len_app]; simp [Ss.len]; omega
  rcases hs with ⟨h0, _⟩ | ⟨b, o, F', hA, hF, hs⟩
  · omega
  · obtain ⟨F2, h2, hsub⟩ := csAt_dropS d.len l b o F' (by omega) hs
    rw [hl, Ss.drop_app] at h2
    obtain ⟨vt, ve, Ft, Fe, Fr, hF2, hc, hT, hE, _⟩ := csAt_stmt h2
    exact ⟨b, o, vt, ve, Ft, Fe, hA, rfl, hc, hT, hE, by rw [hF]; simp, fun z hz => by rw [hF]; exact List.mem_cons_of_mem _ (hsub z (by rw [hF2]; simp only [List.mem_append] at hz ⊢; rcases hz with h | h; exact .inl h; exact .inr (.inl h)))⟩
theorem IntF.one {w : World} {v : Value} {l : List Int} {F : List Nat} (h : IntF w v l F) : v.oneCell' = true := by
  obtain ⟨A, c, rfl, _⟩ := h
  rfl
theorem StS.one {w : World} {v : Value} {l : Ss} {F : List Nat} (h : StS w v l F) : v.oneCell' = true := by
  obtain ⟨A, c, rfl, _⟩ := h.slice
  rfl
theorem cnt_app_part (d r t e : Ss) (op x y n : Int) : cntL t + cntL e ≤ cntL (d.app (.cons op x y n t e r)) := by
  rw [cntL_app]
  simp only [cntL]
  omega
theorem DrP.drD {B rb : Nat} {w : World} {tv bv : Value} {tl : List Int} {l : Ss} {Ft Fb : List Nat} (h1 : IntF w tv tl Ft) (h2 : StS w bv l Fb) (h3 : ∀ x ∈ Ft ++ Fb, B ≤ x ∧ x < w.heap.size) (hr : rb < B) : PrD w [rb] tv bv tl l :=
  ⟨Ft, Fb, h1, h2, fun x hx => by have := h3 x hx; exact ⟨by simp; omega, by omega⟩⟩
end Go.Proofs.YtplcmbipeanjdaaDoor
