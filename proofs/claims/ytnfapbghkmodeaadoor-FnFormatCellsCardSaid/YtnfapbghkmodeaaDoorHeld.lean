/-
  What is proved here: regions that draw their order and change memory: what yields its value in every world that meets S is taken first; the rest comes up one at a time. No function of the program stands here.
-/
import Derived.Test.YtnfapbghkmodeaaDoorMap
import Derived.OrdersHeld
namespace Go.Proofs.YtnfapbghkmodeaaDoor
set_option linter.unusedVariables false
set_option linter.unusedSimpArgs false
set_option linter.unnecessarySimpa false
open Go.RowKit

/-- A post that gives some frame behind a piece of code. -/
def MeetsE (n : Nat) (T : Env → World → Prop) : Exit → Act → World → Prop
  | .normal, a, w => ∃ τ, Fits n τ a ∧ T τ w
  | _, _, _ => False
theorem W_cutE {P : Program} {n : Nat} {Q : Exit → Act → World → Prop} {σ : Env} {w : World} {x : Code} (T : Env → World → Prop) (h : W P n x (MeetsE n T) σ w) (k : ∀ τ w', T τ w' → AtQ n Q .normal τ w') : W P n x Q σ w := by
  refine ⟨fun hok a hf => ?_⟩
  refine wp_mono (h.run hok a hf) fun e a' w' q => ?_
  cases e with
  | normal =>
    obtain ⟨τ, q1, q2⟩ := q
    exact (k τ w' q2).run a' q1
  | _ => exact q.elim
/-- One frame and a condition on worlds. -/
def TM (τ : Env) (R : World → Prop) : Env → World → Prop := fun τ' w => τ' = τ ∧ R w
/-- The region's operations that are not listed yet come up in whatever order; behind all of them frames fit τ and worlds meet R. -/
structure WH (P : Program) (n : Nat) (ops : List Oper) (T : Env → World → Prop) (S : World → Prop) (fuel : Nat) (listed : List Bool) (σ : Env) (w : World) : Prop where
  run : ops.all (dstOk n) = true → ∀ a, Fits n σ a → wpAnyH P .any ops.toArray (MeetsE n T) S fuel listed.toArray a w
section
variable {P : Program} {n : Nat} {ops : List Oper} {τ σ : Env} {T : Env → World → Prop} {R S : World → Prop} {fuel : Nat} {listed : List Bool} {w : World} {Q : Exit → Act → World → Prop} {v : Value}
theorem W_held {id : Nat} (T : Env → World → Prop) (S : World → Prop) (hm : P.follows .mixedOrders = true) (hS : S w.drew) (h : WH P n ops T S ops.length (List.replicate ops.length false) σ w.drew) (k : ∀ τ w', T τ w' → AtQ n Q .normal τ w') :
    W P n (.region id ops.toArray true) Q σ w := by
  refine W_cutE T ⟨fun hok a hf => ?_⟩ k
  refine wp_region_held (S := S) hm ?_
  have := h.run (by simpa [codeOk] using hok) a hf
  rw [List.size_toArray, ← List.toArray_replicate]
  exact this
theorem meets_no {o : Oper} : ∀ c a w, MeetsE n T (.panic c) (a.put o.dst v) w → MeetsE n T (.panic c) a w := fun _ _ _ h => h.elim
/-- What yields its value in every world that meets S is taken. -/
theorem WH_take (i : Nat) {d : Nat} {op : Op} {ty : TypeId} {pos : String} {af : Array Edge} (hi : ops[i]? = some ⟨some d, op, ty, pos, af, none⟩) (hs : Region.noSelect ops.toArray = true) (hf : Region.free .any ops.toArray listed.toArray i = true)
    (hr : (Region.ready .any ops.toArray listed.toArray).contains i = true) (hS : S w) (hd : ∀ w', S w' → DoesQ P ⟨some d, op, ty, pos, af, none⟩ σ w' v) (h : WH P n ops T S fuel (listed.set i true) ((d, v) :: σ) w) : WH P n ops T S (fuel + 1) listed σ w := by
  refine ⟨fun hok a hfit => ?_⟩
  have hi' : ops.toArray[i]? = some ⟨some d, op, ty, pos, af, none⟩ := by simpa using hi
  have hdst : dstOk n ⟨some d, op, ty, pos, af, none⟩ = true := List.all_eq_true.1 hok _ (List.mem_of_getElem? hi)
  refine wpAnyH_take hi' hs hf hr meets_no (.inl ⟨by simp [Region.wanted], fun w' hw' => ((hd w' hw').run w' (Ext.refl w')).run n a hfit⟩) hS ?_
  have := h.run hok _ (hfit.put (o := ⟨some d, op, ty, pos, af, none⟩) v hdst)
  simpa using this
/-- The next post: S holds and the rest goes on. -/
def HeldQ (P : Program) (n : Nat) (ops : List Oper) (T : Env → World → Prop) (S : World → Prop) (fuel : Nat) (listed : List Bool) : Exit → Act → World → Prop
  | .normal, a, w => S w ∧ (ops.all (dstOk n) = true → wpAnyH P .any ops.toArray (MeetsE n T) S fuel listed.toArray a w)
  | _, _, _ => False
theorem at_held (hS : S w) (h : WH P n ops T S fuel listed σ w) : AtQ n (HeldQ P n ops T S fuel listed) .normal σ w := ⟨fun a hf => ⟨hS, fun hok => h.run hok a hf⟩⟩
theorem wpOp_of_WO {i : Nat} {o : Oper} (hi : ops[i]? = some o) (h : WO P n ops.toArray (HeldQ P n ops T S fuel (listed.set i true)) [o] σ w) (hok : ops.all (dstOk n) = true) {a : Act} (hfit : Fits n σ a) :
    wpOp P ops.toArray (MeetsE n T) i (fun a' w' => S w' ∧ wpAnyH P .any ops.toArray (MeetsE n T) S fuel (listed.toArray.setIfInBounds i true) a' w') a w := by
  have hi' : ops.toArray[i]? = some o := by simpa using hi
  have hw := h.run (by simp [List.all_eq_true.1 hok _ (List.mem_of_getElem? hi)]) a hfit
  unfold wpList at hw
  unfold wpOp
  rw [hi']
  show if Region.wanted o (yielded ops.toArray a.tmps) = true then _ else _
  split
  · rename_i hwt
    rw [if_pos hwt] at hw
    rcases hw with q | ⟨_, a0, w0, q⟩
    · refine .inl ?_
      unfold Oper.wp at q ⊢
      generalize (execOp a.eval o).run P w = r at *
      cases r with
      | ok nx w' =>
        cases nx <;> simp only [Oper.upon] at q ⊢ <;>
          first
            | exact ⟨q.1, by simpa using q.2 hok⟩
            | exact Calls.mono q (fun e w'' he => by
                cases e with
                | returned u => exact ⟨he.1, by simpa using he.2 hok⟩
                | panicked u => exact he.elim
                | outgrown => obtain ⟨_, _, hh⟩ := he; exact hh.elim)
            | exact Go.Rows.mono q (fun _ _ he => ⟨he.1, by simpa using he.2 hok⟩)
      | halt hx w' => cases hx <;> simp only [Oper.upon] at q ⊢ <;> exact q.elim
    · exact q.elim
  · rename_i hwt
    rw [if_neg hwt] at hw
    exact ⟨hw.1, by simpa using hw.2 hok⟩
/-- One operation can come up, and is carried out. -/
theorem WH_one (i : Nat) {o : Oper} (hi : ops[i]? = some o) (hr : Region.ready .any ops.toArray listed.toArray = [i]) (h : WO P n ops.toArray (HeldQ P n ops T S fuel (listed.set i true)) [o] σ w) : WH P n ops T S (fuel + 1) listed σ w :=
  ⟨fun hok a hfit => wpAnyH_all hr (by simp) fun j hj => by
    obtain rfl : j = i := by simpa using hj
    exact wpOp_of_WO hi h hok hfit⟩
/-- One of two operations can come up. -/
theorem WH_two (i k : Nat) {o o' : Oper} (hi : ops[i]? = some o) (hk : ops[k]? = some o') (hr : Region.ready .any ops.toArray listed.toArray = [i, k])
    (h : WO P n ops.toArray (HeldQ P n ops T S fuel (listed.set i true)) [o] σ w) (h' : WO P n ops.toArray (HeldQ P n ops T S fuel (listed.set k true)) [o'] σ w) : WH P n ops T S (fuel + 1) listed σ w :=
  ⟨fun hok a hfit => wpAnyH_all hr (by simp) fun j hj => by
    simp only [List.mem_cons, List.not_mem_nil, or_false] at hj
    rcases hj with rfl | rfl
    · exact wpOp_of_WO hi h hok hfit
    · exact wpOp_of_WO hk h' hok hfit⟩
theorem WH_doneE (hr : Region.ready .any ops.toArray listed.toArray = []) (hs : Sub τ σ) (hT : T τ w) : WH P n ops T S fuel listed σ w := ⟨fun _ a hf => wpAnyH_done hr ⟨τ, hf.sub hs, hT⟩ fuel⟩
theorem WH_done (hr : Region.ready .any ops.toArray listed.toArray = []) (hs : Sub τ σ) (hR : R w) : WH P n ops (TM τ R) S fuel listed σ w := WH_doneE hr hs ⟨rfl, hR⟩
end
end Go.Proofs.YtnfapbghkmodeaaDoor
