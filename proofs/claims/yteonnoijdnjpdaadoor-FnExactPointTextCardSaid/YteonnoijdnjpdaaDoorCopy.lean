/-
  What is proved here: the program's and the reference's copies of numbers, statements and programs.
-/
import Derived.Test.YteonnoijdnjpdaaDoorGrow
import Derived.Test.YteonnoijdnjpdaaDoorPr
import Derived.Test.YteonnoijdnjpdaaDoorRes
import Derived.Test.YteonnoijdnjpdaaDoorApp
namespace Go.Proofs.YteonnoijdnjpdaaDoor
set_option linter.unusedVariables false
set_option linter.unusedSimpArgs false
set_option linter.unnecessarySimpa false
open Go.RowKit

theorem ints_cells {w : World} {A : Option Addr} {n c : Nat} {l : List Int} {F : List Nat} (h : IntF w (.slice A n c) l F) (h0 : l ≠ []) : ∃ b o, A = some ⟨b, o, none⟩ ∧ n = l.length ∧ ∀ j u, (l.map (Value.int .i64))[j]? = some u → w.cell? ⟨b, o + j, none⟩ = some u := by
  obtain ⟨A', c', e, _, ⟨h1, _⟩ | ⟨b, o, hA, hF, hc⟩⟩ := h
  · exact absurd h1 h0
  · cases e
    refine ⟨b, o, hA, rfl, fun j u hj => ?_⟩
    rw [List.getElem?_map] at hj
    obtain ⟨x, hx, rfl⟩ := Option.map_eq_some_iff.1 hj
    simpa using hc j x hx
theorem ints_one (l : List Int) : ∀ u ∈ l.map (Value.int .i64), u.oneCell' = true := by
  intro u hu
  obtain ⟨x, _, rfl⟩ := List.mem_map.1 hu
  rfl
section
variable {P : Program} {n : Nat} {ops : Array Oper} {Q : Exit → Act → World → Prop} {rest : List Oper} {σ : Env} {w : World} {v u : Value}
variable {d : Nat} {ty : TypeId} {pos : String} {af : Array Edge} {x s : Operand}
/-- Numbers that can be read are appended to an owned row. -/
theorem WO_appI {t e bytes B : Nat} {z : Value} [TSl P t e 1] [TE P e z 1 bytes] {l0 l : List Int} {F : List Nat} (hs : ev σ s = some v) (hown : w.ownsRow B e 1 v l0.length (l0.map (.int .i64))) (hx : ev σ x = some u) (hsrc : IntF w u l F)
    (hB : B ≤ w.heap.size) (hm : l0.length + l.length ≤ 1000000000000) (hby : bytes ≤ 100)
    (h : ∀ v' w', w'.ownsRow B e 1 v' (l0 ++ l).length ((l0 ++ l).map (.int .i64)) → w.grownBy w' v.ownBlock → (v'.ownBlock = v.ownBlock ∨ v'.ownBlock = some w.heap.size) → WO P n ops Q rest ((d, v') :: σ) w') :
    WO P n ops Q (⟨some d, .call ⟨.builtin .append, #[s, x], #[t, t]⟩, ty, pos, af, none⟩ :: rest) σ w := by
  obtain ⟨A, c, rfl, hl, hx2⟩ := id hsrc
  by_cases h0 : l = []
  · subst h0
    exact WO_append0 (e := e) (k := 1) (bytes := bytes) (z := z) hs hown hx hB (by decide) (by simpa using hm) hby fun v' w' h1 h2 h3 => h v' w' (by simpa using h1) h2 h3
  · obtain ⟨b, o, rfl, _, hc⟩ := ints_cells hsrc h0
    exact WO_append (e := e) (k := 1) (bytes := bytes) (z := z) (mm := l.length) (news := l.map (.int .i64)) hs hown hx (by simp) hc (ints_one l) hB (by decide) hm hby fun v' w' h1 h2 h3 => h v' w' (by rw [List.length_append, List.map_append]; exact h1) h2 h3
end
theorem NewInts.of_row {e : TypeId} {w w' : World} {v : Value} {l : List Int} {B : Nat} (h : w'.ownsRow B e 1 v l.length (l.map (.int .i64))) (hB : w.heap.size ≤ B) (he : Ext w w') (hm : l.length ≤ maxI) : NewInts l w v w' := by
  obtain ⟨F, h1, h2, _⟩ := OwnI.of_row h rfl hm
  exact ⟨⟨F, h1, fun b hb => Nat.le_trans hB (h2 b hb)⟩, he⟩
/-- What stands behind the region that makes a copy of a program. -/
def CopyIn (e eP : TypeId) (rb : Nat) (tl : List Int) (l : Ss) (w w' : World) : Prop :=
  ∃ tv bv Ft Fb, Blk w' rb [tv, bv] eP ∧ OwnI w' tv tl Ft ∧ RowS e w' bv l Fb ∧ (Ft ++ Fb).Nodup ∧ (∀ b ∈ Ft ++ Fb, w.heap.size ≤ b) ∧ Chg [rb] w w'
end Go.Proofs.YteonnoijdnjpdaaDoor
