/-
  What is proved here: the laws' copies of programs, what marks do to them, and what held answers.
-/
import Derived.Test.YtplcmbipeanjdaaDoorStMk
import Derived.Test.YtplcmbipeanjdaaDoorChgI
namespace Go.Proofs.YtplcmbipeanjdaaDoor
set_option linter.unusedVariables false
set_option linter.unusedSimpArgs false
set_option linter.unnecessarySimpa false
open Go.RowKit

/-- Numbers in memory of their own between two places. -/
def OwnN (B U : Nat) (l : List Int) (w : World) (v : Value) : Prop := ∃ F, OwnI w v l F ∧ ∀ b ∈ F, B ≤ b ∧ b < U
/-- A program in memory of its own between two places. -/
def OwnP (e : TypeId) (B U : Nat) (tl : List Int) (l : Ss) (w : World) (tv bv : Value) : Prop := ∃ Ft Fb, OwnI w tv tl Ft ∧ RowS e w bv l Fb ∧ (Ft ++ Fb).Nodup ∧ ∀ b ∈ Ft ++ Fb, B ≤ b ∧ b < U
/-- Two lists of statements in memory of their own between two places. -/
def OwnQ (e : TypeId) (B U : Nat) (t el : Ss) (w : World) (vt ve : Value) : Prop := ∃ Ft Fe, RowS e w vt t Ft ∧ RowS e w ve el Fe ∧ (Ft ++ Fe).Nodup ∧ ∀ b ∈ Ft ++ Fe, B ≤ b ∧ b < U
section
variable {e : TypeId} {B U : Nat} {tl : List Int} {l t el : Ss} {w w' : World} {v tv bv vt ve : Value}
theorem OwnN.ext (h : OwnN B U tl w v) (he : Ext w w') : OwnN B U tl w' v := by
  obtain ⟨F, h1, h2⟩ := h
  exact ⟨F, h1.ext he, h2⟩
theorem OwnN.chgI {B' U' : Nat} (h : OwnN B U tl w v) (k : ChgI B' U' w w') (hd : U ≤ B' ∨ U' ≤ B) : OwnN B U tl w' v := by
  obtain ⟨F, h1, h2⟩ := h
  exact ⟨F, h1.chg k.toChg (chgI_away h2 hd), h2⟩
theorem OwnN.int (h : OwnN B U tl w v) : ∃ F, IntF w v tl F := by
  obtain ⟨F, h1, _⟩ := h
  exact ⟨F, h1.int⟩
theorem NewInts.own (h : NewInts tl w v w') : OwnN w.heap.size w'.heap.size tl w' v := by
  obtain ⟨⟨F, h1, h2⟩, _⟩ := h
  exact ⟨F, h1, fun b hb => ⟨h2 b hb, h1.lt b hb⟩⟩
theorem OwnP.ext (h : OwnP e B U tl l w tv bv) (he : Ext w w') : OwnP e B U tl l w' tv bv := by
  obtain ⟨Ft, Fb, h1, h2, h3, h4⟩ := h
  exact ⟨Ft, Fb, h1.ext he, h2.ext he, h3, h4⟩
theorem OwnP.chgI {B' U' : Nat} (h : OwnP e B U tl l w tv bv) (k : ChgI B' U' w w') (hd : U ≤ B' ∨ U' ≤ B) : OwnP e B U tl l w' tv bv := by
  obtain ⟨Ft, Fb, h1, h2, h3, h4⟩ := h
  have hF := chgI_away (w := w) h4 hd
  exact ⟨Ft, Fb, h1.chg k.toChg fun x hx => hF x (by simp [hx]), h2.chg k.toChg fun x hx => hF x (by simp [hx]), h3, h4⟩
theorem OwnP.wide {B' U' : Nat} (h : OwnP e B U tl l w tv bv) (hB : B' ≤ B) (hU : U ≤ U') : OwnP e B' U' tl l w tv bv := by
  obtain ⟨Ft, Fb, h1, h2, h3, h4⟩ := h
  exact ⟨Ft, Fb, h1, h2, h3, fun b hb => by have := h4 b hb; omega⟩
theorem OwnP.int (h : OwnP e B U tl l w tv bv) : ∃ F, IntF w tv tl F := by
  obtain ⟨Ft, Fb, h1, _⟩ := h
  exact ⟨Ft, h1.int⟩
theorem OwnP.sts (h : OwnP e B U tl l w tv bv) : ∃ F, StS w bv l F := by
  obtain ⟨Ft, Fb, _, h2, _⟩ := h
  exact ⟨Fb, h2.sts⟩
theorem OwnQ.ext (h : OwnQ e B U t el w vt ve) (he : Ext w w') : OwnQ e B U t el w' vt ve := by
  obtain ⟨Ft, Fb, h1, h2, h3, h4⟩ := h
  exact ⟨Ft, Fb, h1.ext he, h2.ext he, h3, h4⟩
theorem OwnQ.chgI {B' U' : Nat} (h : OwnQ e B U t el w vt ve) (k : ChgI B' U' w w') (hd : U ≤ B' ∨ U' ≤ B) : OwnQ e B U t el w' vt ve := by
  obtain ⟨Ft, Fb, h1, h2, h3, h4⟩ := h
  have hF := chgI_away (w := w) h4 hd
  exact ⟨Ft, Fb, h1.chg k.toChg fun x hx => hF x (by simp [hx]), h2.chg k.toChg fun x hx => hF x (by simp [hx]), h3, h4⟩
theorem OwnQ.sts (h : OwnQ e B U t el w vt ve) : (∃ F, StS w vt t F) ∧ ∃ F, StS w ve el F := by
  obtain ⟨Ft, Fb, h1, h2, _⟩ := h
  exact ⟨⟨Ft, h1.sts⟩, ⟨Fb, h2.sts⟩⟩
theorem NewSt.own {op x y n : Int} {r : Value} (h : NewSt e op x y n t el w r w') : ∃ vt ve, r = stV op x y n vt ve ∧ OwnQ e w.heap.size w'.heap.size t el w' vt ve ∧ Ext w w' := by
  obtain ⟨vt, ve, Ft, Fe, rfl, h1, h2, h3, h4, h5⟩ := h
  refine ⟨vt, ve, rfl, ⟨Ft, Fe, h1, h2, h3, fun b hb => ⟨h4 b hb, ?_⟩⟩, h5⟩
  rcases List.mem_append.1 hb with hb | hb
  · exact h1.lt b hb
  · exact h2.lt b hb
end
theorem OwnP.ones {e : TypeId} {B U : Nat} {tl : List Int} {l : Ss} {w : World} {tv bv : Value} (h : OwnP e B U tl l w tv bv) : tv.oneCell' = true ∧ bv.oneCell' = true := by
  obtain ⟨Ft, Fb, ⟨A, c, rfl, _⟩, h2, _⟩ := h
  exact ⟨rfl, h2.one⟩
theorem OwnQ.ones {e : TypeId} {B U : Nat} {t el : Ss} {w : World} {vt ve : Value} (h : OwnQ e B U t el w vt ve) : vt.oneCell' = true ∧ ve.oneCell' = true := by
  obtain ⟨Ft, Fb, h1, h2, _⟩ := h
  exact ⟨h1.one, h2.one⟩
/-- A program by value in new memory, and whether there is one. -/
def PrB (e : TypeId) (tl : List Int) (l : Ss) (b : Bool) (w : World) (r : Value) (w' : World) : Prop := ∃ tv bv, r = .tuple #[prV tv bv, .bool b] ∧ OwnP e w.heap.size w'.heap.size tl l w' tv bv ∧ Ext w w'
/-- A program by value in new memory. -/
def NewPr (e : TypeId) (tl : List Int) (l : Ss) (w : World) (r : Value) (w' : World) : Prop := (∃ tv bv, r = prV tv bv ∧ OwnP e w.heap.size w'.heap.size tl l w' tv bv) ∧ Ext w w'
theorem NewPr.mk {e : TypeId} {tl : List Int} {l : Ss} {w w1 w' : World} {tv bv : Value} {Ft Fb : List Nat} (h1 : OwnI w' tv tl Ft) (h2 : RowS e w' bv l Fb) (h3 : (Ft ++ Fb).Nodup) (h4 : ∀ b ∈ Ft ++ Fb, w.heap.size ≤ b) (he : Ext w w') : NewPr e tl l w (prV tv bv) w' := by
  refine ⟨⟨tv, bv, rfl, Ft, Fb, h1, h2, h3, fun b hb => ⟨h4 b hb, ?_⟩⟩, he⟩
  rcases List.mem_append.1 hb with hb | hb
  · exact h1.lt b hb
  · exact h2.lt b hb
theorem OwnI.nodup {w : World} {v : Value} {l : List Int} {F : List Nat} (h : OwnI w v l F) : F.Nodup := by
  obtain ⟨A, c, rfl, hl, ⟨_, rfl⟩ | ⟨b, o, cs, t, _, rfl, _⟩⟩ := h <;> simp
theorem OwnI.one {w : World} {v : Value} {l : List Int} {F : List Nat} (h : OwnI w v l F) : v.oneCell' = true := by
  obtain ⟨A, c, rfl, _⟩ := h
  rfl
end Go.Proofs.YtplcmbipeanjdaaDoor
