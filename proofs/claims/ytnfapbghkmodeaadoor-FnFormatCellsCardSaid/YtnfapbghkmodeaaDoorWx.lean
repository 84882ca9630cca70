/-
  What is proved here: regions that draw their order, call and store, where of what stood at the start only some blocks change. No function of the program stands here.
-/
import Derived.Test.YtnfapbghkmodeaaDoorHeld
namespace Go.Proofs.YtnfapbghkmodeaaDoor
set_option linter.unusedVariables false
set_option linter.unusedSimpArgs false
set_option linter.unnecessarySimpa false
open Go.RowKit
section
variable {P : Program} {n : Nat} {ops : List Oper} {τ σ : Env} {T : Env → World → Prop} {R S : World → Prop} {fuel : Nat} {listed : List Bool} {w w0 : World} {Q : Exit → Act → World → Prop} {v : Value} {G : List Nat}
theorem Chg.drew (h : Chg G w0 w) : Chg G w0 w.drew := ⟨h.os, h.tape, h.output, h.size, h.block⟩
theorem W_held0 {id : Nat} (G : List Nat) (τ : Env) (R : World → Prop) (hm : P.follows .mixedOrders = true) (h : ∀ w1, Ext w w1 → Chg G w1 w1 → WH P n ops (TM τ R) (Chg G w1) ops.length (List.replicate ops.length false) σ w1) (k : ∀ w', R w' → AtQ n Q .normal τ w') :
    W P n (.region id ops.toArray true) Q σ w :=
  W_held (TM τ R) (Chg G w.drew) hm (Chg.refl _ _) (h w.drew (Ext.drew (Ext.refl w)) (Chg.refl _ _)) (by rintro τ' w' ⟨rfl, hR⟩; exact k w' hR)
/-- The frame behind it may hold values that come up in it. -/
theorem W_held0E {id : Nat} (G : List Nat) (T : Env → World → Prop) (hm : P.follows .mixedOrders = true) (h : ∀ w1, Ext w w1 → Chg G w1 w1 → WH P n ops T (Chg G w1) ops.length (List.replicate ops.length false) σ w1) (k : ∀ τ w', T τ w' → AtQ n Q .normal τ w') :
    W P n (.region id ops.toArray true) Q σ w :=
  W_held T (Chg G w.drew) hm (Chg.refl _ _) (h w.drew (Ext.drew (Ext.refl w)) (Chg.refl _ _)) k
/-- All that stood before stays; the frame behind it is known. -/
theorem W_heldX {id : Nat} (τ : Env) (hm : P.follows .mixedOrders = true) (h : ∀ w1, Ext w w1 → Chg [] w1 w1 → WH P n ops (TM τ (Ext w)) (Chg [] w1) ops.length (List.replicate ops.length false) σ w1) (k : ∀ w', Ext w w' → AtQ n Q .normal τ w') :
    W P n (.region id ops.toArray true) Q σ w := W_held0 [] τ (Ext w) hm h k
theorem Z82 (i : Nat) {d : Nat} {op : Op} {ty : TypeId} {pos : String} {af : Array Edge} (hi : ops[i]? = some ⟨some d, op, ty, pos, af, none⟩) (hs : Region.noSelect ops.toArray = true) (hf : Region.free .any ops.toArray listed.toArray i = true)
    (hr : (Region.ready .any ops.toArray listed.toArray).contains i = true) (hS : Chg G w0 w) (hd : ∀ w', Chg G w0 w' → DoesQ P ⟨some d, op, ty, pos, af, none⟩ σ w' v) (h : WH P n ops T (Chg G w0) fuel (listed.set i true) ((d, v) :: σ) w) : WH P n ops T (Chg G w0) (fuel + 1) listed σ w :=
  WH_take i hi hs hf hr hS hd h
theorem WX_call (i : Nat) {d : Nat} {ty : TypeId} {pos : String} {af : Array Edge} {f : FuncId} [Fn0 P f] {args : List Operand} {vs : List Value} {ats : Array TypeId} {Post : Value → World → Prop}
    (hi : ops[i]? = some ⟨some d, .call ⟨.value (.func f), args.toArray, ats⟩, ty, pos, af, none⟩) (hr : Region.ready .any ops.toArray listed.toArray = [i]) (ha : evs σ args = some vs) (hc : Ret P f vs w Post)
    (h : ∀ u w', Post u w' → Chg G w0 w' ∧ WH P n ops T (Chg G w0) fuel (listed.set i true) ((d, u) :: σ) w') : WH P n ops T (Chg G w0) (fuel + 1) listed σ w :=
  WH_one i hi hr (WO_call ha hc fun u w' hp => Z31 (at_held (h u w' hp).1 (h u w' hp).2))
end
end Go.Proofs.YtnfapbghkmodeaaDoor
