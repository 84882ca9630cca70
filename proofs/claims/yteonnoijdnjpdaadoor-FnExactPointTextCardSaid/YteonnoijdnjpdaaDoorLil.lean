/-
  What is proved here: guarded operations in regions that draw their order; parts of slices; single statements in memory.
-/
import Derived.Test.YteonnoijdnjpdaaDoorChg
namespace Go.Proofs.YteonnoijdnjpdaaDoor
set_option linter.unusedVariables false
set_option linter.unusedSimpArgs false
set_option linter.unnecessarySimpa false
open Go.RowKit

section
variable {P : Program} {n : Nat} {ops : List Oper} {τ σ : Env} {T : Env → World → Prop} {S : World → Prop} {fuel : Nat} {listed : List Bool} {w w0 : World} {v : Value} {G : List Nat}
/-- A guarded operation whose guard is met is taken. -/
theorem WX_takeG (i : Nat) {d j s : Nat} {b c : Bool} {op : Op} {ty : TypeId} {pos : String} {af : Array Edge} (hi : ops[i]? = some ⟨some d, op, ty, pos, af, some (j, b)⟩) (hs : Region.noSelect ops.toArray = true) (hf : Region.free .any ops.toArray listed.toArray i = true)
    (hr : (Region.ready .any ops.toArray listed.toArray).contains i = true) (hS : Chg G w0 w) (hj : (ops.toArray[j]?).bind (·.dst) = some s) (hv : look σ s = some (.bool c)) (hc : c = b)
    (hd : ∀ w', Chg G w0 w' → DoesQ P ⟨some d, op, ty, pos, af, some (j, b)⟩ σ w' v) (h : WH P n ops T (Chg G w0) fuel (listed.set i true) ((d, v) :: σ) w) : WH P n ops T (Chg G w0) (fuel + 1) listed σ w := by
  refine ⟨fun hok a hfit => ?_⟩
  have hi' : ops.toArray[i]? = some ⟨some d, op, ty, pos, af, some (j, b)⟩ := by simpa using hi
  have hdst : dstOk n ⟨some d, op, ty, pos, af, some (j, b)⟩ = true := List.all_eq_true.1 hok _ (List.mem_of_getElem? hi)
  have hw : Region.wanted ⟨some d, op, ty, pos, af, some (j, b)⟩ (yielded ops.toArray a.tmps) = true := (wanted_of (o := ⟨some d, op, ty, pos, af, some (j, b)⟩) hfit rfl hj hv).trans (by subst hc; cases c <;> rfl)
  refine wpAnyH_take hi' hs hf hr meets_no (.inl ⟨hw, fun w' hw' => ((hd w' hw').run w' (Ext.refl w')).run n a hfit⟩) hS ?_
  have := h.run hok _ (hfit.put (o := ⟨some d, op, ty, pos, af, some (j, b)⟩) v hdst)
  simpa using this
/-- A guarded operation whose guard is not met is passed over. -/
theorem WX_skipG (i : Nat) {d j s : Nat} {b c : Bool} {op : Op} {ty : TypeId} {pos : String} {af : Array Edge} (hi : ops[i]? = some ⟨some d, op, ty, pos, af, some (j, b)⟩) (hs : Region.noSelect ops.toArray = true) (hf : Region.free .any ops.toArray listed.toArray i = true)
    (hr : (Region.ready .any ops.toArray listed.toArray).contains i = true) (hS : Chg G w0 w) (hj : (ops.toArray[j]?).bind (·.dst) = some s) (hv : look σ s = some (.bool c)) (hc : c = !b)
    (h : WH P n ops T (Chg G w0) fuel (listed.set i true) ((d, undef) :: σ) w) : WH P n ops T (Chg G w0) (fuel + 1) listed σ w := by
  refine ⟨fun hok a hfit => ?_⟩
  have hi' : ops.toArray[i]? = some ⟨some d, op, ty, pos, af, some (j, b)⟩ := by simpa using hi
  have hdst : dstOk n ⟨some d, op, ty, pos, af, some (j, b)⟩ = true := List.all_eq_true.1 hok _ (List.mem_of_getElem? hi)
  have hw : Region.wanted ⟨some d, op, ty, pos, af, some (j, b)⟩ (yielded ops.toArray a.tmps) = false := (wanted_of (o := ⟨some d, op, ty, pos, af, some (j, b)⟩) hfit rfl hj hv).trans (by subst hc; cases b <;> rfl)
  refine wpAnyH_take hi' hs hf hr meets_no (.inr ⟨hw, rfl⟩) hS ?_
  have := h.run hok _ (hfit.put (o := ⟨some d, op, ty, pos, af, some (j, b)⟩) undef hdst)
  simpa using this
end
section
variable {P : Program} {σ : Env} {w : World} {d : Nat} {ty : TypeId} {pos : String} {af : Array Edge} {x y z : Operand}
/-- s[l:h] of a slice. -/
theorem q_slMid {g : Option (Nat × Bool)} {t e k len cap l h : Nat} {A : Option Addr} {i j : Int} [TSl P t e k] (hx : ev σ x = some (.slice A len cap)) (hy : ev σ y = some (.int .i64 i)) (hz : ev σ z = some (.int .i64 j)) (hi : i = (l : Int)) (hj : j = (h : Int)) (hl : l ≤ h) (hh : h ≤ cap) :
    DoesQ P ⟨some d, .slice t x (some y) (some z) none, ty, pos, af, g⟩ σ w (.slice (if cap = l then A else A.map (·.add (l * k))) (h - l) (cap - l)) := ⟨fun w2 he => ⟨fun m c hf => by
  subst hi; subst hj
  have h1 : (l : Int) ≤ (h : Int) := by omega
  have h2 : ¬ h < l := by omega
  have h3 : (h : Int) ≤ (cap : Int) := by omega
  have h4 : ¬ cap < h := by omega
  simp [execOp, fits_ev hf hx, fits_ev hf hy, fits_ev hf hz, Instr.sliceAt, Instr.slice, run_underlying (TSl.und (P := P) (t := t) (e := e) (k := k)), Instr.sliceBounds, Instr.sliceBound, asIntOf, h1, h2, h3, h4, hl, hh, TSl.run_sizeOf (P := P) (t := t) (e := e) (k := k) inferInstance]⟩⟩
end
/-- Some statements of a slice. -/
theorem StS.mid_ {w : World} {A : Option Addr} {m c : Nat} {l : Ss} {F : List Nat} (h : StS w (.slice A m c) l F) {j i : Nat} (hj : j ≤ i) (hi : i ≤ l.len) : ∃ F', StS w (.slice (if c = j then A else A.map (·.add (j * 6))) (i - j) (c - j)) ((l.drop j).take (i - j)) F' := by
  obtain ⟨F1, h1⟩ := h.drop_ j (by omega)
  exact h1.take_ (i - j) (by rw [Ss.len_drop]; omega)
/-- One statement, in memory. -/
theorem one_sts {w : World} {b o c : Nat} {op x y n : Int} {t e : Ss} {vt ve : Value} {Ft Fe : List Nat} (hc : ∀ (j : Nat) u, [Value.int .i64 op, .int .i64 x, .int .i64 y, .int .i64 n, vt, ve][j]? = some u → w.cell? ⟨b, o + j, none⟩ = some u) (hT : StS w vt t Ft) (hE : StS w ve e Fe) (h1 : 1 ≤ c) :
    StS w (.slice (some ⟨b, o, none⟩) 1 c) (Ss.one op x y n t e) (b :: (Ft ++ (Fe ++ []))) :=
  ⟨_, c, rfl, ⟨by unfold maxI; simp [Ss.one, Ss.len], h1⟩, .inr ⟨_, o, _, rfl, rfl, hc 0 _ rfl, hc 1 _ rfl, hc 2 _ rfl, hc 3 _ rfl, vt, Ft, _, rfl, hc 4 _ rfl, hT, ve, Fe, [], rfl, hc 5 _ rfl, hE, rfl⟩⟩
theorem blk_cells {w : World} {b : Nat} {cs : List Value} {ty : TypeId} (hb : Blk w b cs ty) : ∀ (j : Nat) u, cs[j]? = some u → w.cell? ⟨b, 0 + j, none⟩ = some u := fun j u hu => by rw [Nat.zero_add]; exact hb.cell hu
theorem stk_one {e : TypeId} {w : World} {op x y n : Int} {t el : Ss} {vt ve : Value} {Ft Fe : List Nat} (h1 : RowS e w vt t Ft) (h2 : RowS e w ve el Fe) : StkS e w (Ss.one op x y n t el) [.int .i64 op, .int .i64 x, .int .i64 y, .int .i64 n, vt, ve] (Ft ++ Fe) := by
  have := StkS.mk (op := op) (x := x) (y := y) (n := n) h1 h2 (r := .nil) (xr := []) (Fr := []) ⟨rfl, rfl⟩
  rwa [List.append_nil] at this
theorem row_cells {B e k m : Nat} {w : World} {v : Value} {xs : List Value} (h : w.ownsRow B e k v m xs) (h0 : 0 < m) : ∃ g cap, v = .slice (some ⟨g, 0, none⟩) m cap ∧ ∀ j u, xs[j]? = some u → w.cell? ⟨g, 0 + j, none⟩ = some u := by
  obtain ⟨hl, ⟨h3, hm⟩ | ⟨g, cap, cur, h3, hB, hg, hnc, hm, hcs, ht⟩⟩ := h
  · omega
  · refine ⟨g, cap, h3, fun j u hu => ?_⟩
    rw [← ht, List.getElem?_take] at hu
    split at hu
    · have hb : Blk w g cur.toList e := by simpa [Blk] using hg
      rw [Nat.zero_add]
      exact hb.cell hu
    · cases hu
end Go.Proofs.YteonnoijdnjpdaaDoor
