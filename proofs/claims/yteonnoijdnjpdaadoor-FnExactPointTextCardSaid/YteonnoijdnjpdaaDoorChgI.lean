/-
  What is proved here: changes between two places of memory. No function of the program stands here.
-/
import Derived.Test.YteonnoijdnjpdaaDoorInts
namespace Go.Proofs.YteonnoijdnjpdaaDoor
set_option linter.unusedVariables false
set_option linter.unusedSimpArgs false
set_option linter.unnecessarySimpa false
open Go.RowKit

/-- Only blocks from B up to U have changed, of what was there. -/
structure ChgI (B U : Nat) (w w' : World) : Prop where
  os : w'.os = w.os
  tape : w'.tape = w.tape
  output : w'.output = w.output
  size : w.heap.size ≤ w'.heap.size
  block : ∀ k, k < w.heap.size → ¬ (B ≤ k ∧ k < U) → w'.heap[k]? = w.heap[k]?
theorem Chg.toI {F : List Nat} {w w' : World} {B U : Nat} (h : Chg F w w') (hF : ∀ b ∈ F, B ≤ b ∧ b < U) : ChgI B U w w' := ⟨h.os, h.tape, h.output, h.size, fun k hk hn => h.block k hk fun hm => hn (hF k hm)⟩
theorem Ext.chgI {w0 w w' : World} {B U : Nat} (h : Ext w0 w) (k : ChgI B U w w') (hB : w0.heap.size ≤ B) : Ext w0 w' :=
  ⟨k.os.trans h.os, k.tape.trans h.tape, k.output.trans h.output, Nat.le_trans h.size k.size, fun i hi => (k.block i (Nat.lt_of_lt_of_le hi h.size) (by omega)).trans (h.block i hi)⟩
theorem Blk.chgI {w w' : World} {b B U : Nat} {cs : List Value} {t : TypeId} (h : Blk w b cs t) (k : ChgI B U w w') (hb : b < B ∨ U ≤ b) : Blk w' b cs t := (k.block b h.lt (by omega)).trans h
theorem ChgI.toChg {B U : Nat} {w w' : World} (k : ChgI B U w w') : Chg ((List.range w.heap.size).filter fun x => decide (B ≤ x ∧ x < U)) w w' :=
  ⟨k.os, k.tape, k.output, k.size, fun x hx hn => k.block x hx fun hm => hn (by simp; omega)⟩
theorem chgI_away {B U B' U' : Nat} {w : World} {F : List Nat} (hF : ∀ b ∈ F, B ≤ b ∧ b < U) (hd : U ≤ B' ∨ U' ≤ B) : ∀ x ∈ F, x ∉ (List.range w.heap.size).filter fun x => decide (B' ≤ x ∧ x < U') := fun x hx hm => by
  have := hF x hx
  simp at hm
  omega
theorem Only.toI {b : Nat} {w w' : World} (o : Only b w w') : ChgI b (b + 1) w w' := ⟨o.os, o.tape, o.output, by rw [o.size]; exact Nat.le_refl _, fun k _ hn => o.block k (by omega)⟩
end Go.Proofs.YteonnoijdnjpdaaDoor
