/-
  What is proved here: helpers of the laws on cells.
-/
import Derived.Test.YtmmhoihebbhakaaCLw
namespace Go.Proofs.Ytmmhoihebbhakaa
set_option linter.unusedVariables false
set_option linter.unusedSimpArgs false
set_option linter.unnecessarySimpa false
open Go.RowKit

theorem bcSame_ret (va vb : Value) (l : List Ce) (Fa Fb : List Nat) (w : World) (ha : CeS w va l Fa) (hb : CeS w vb l Fb) : Ret Try.prog 17 [va, vb] w fun r w' => r = .bool true ∧ Ext w w' :=
  (bcCells_ret va vb l l Fa Fb w ha hb).mono fun r w' ⟨h1, h2⟩ => ⟨by rw [h1]; simp, h2⟩
section
variable {P : Program} {σ : Env} {w : World} {d : Nat} {ty : TypeId} {pos : String} {af : Array Edge} {x y : Operand}
theorem q_nePtS {g : Option (Nat × Bool)} {t t' : TypeId} [TEq2 P t false] (a : Pt) (hx : ev σ x = some (.agg #[.int .i64 a.cell, .int .i64 a.tag])) (hy : ev σ y = some (.agg #[.int .i64 a.cell, .int .i64 a.tag])) :
    DoesQ P ⟨some d, .binOp .neq t x y t', ty, pos, af, g⟩ σ w (.bool false) := by
  have := q_nePt (P := P) (w := w) (d := d) (ty := ty) (pos := pos) (af := af) (g := g) (t := t) (t' := t') (a := a) (b := a) hx hy
  simpa using this
theorem q_eqPtS {g : Option (Nat × Bool)} {t t' : TypeId} [TEq2 P t false] (a : Pt) (hx : ev σ x = some (.agg #[.int .i64 a.cell, .int .i64 a.tag])) (hy : ev σ y = some (.agg #[.int .i64 a.cell, .int .i64 a.tag])) :
    DoesQ P ⟨some d, .binOp .eql t x y t', ty, pos, af, g⟩ σ w (.bool true) := ⟨fun w2 he => ⟨fun m c hf => by
  have hr := TEq2.run (P := P) (t := t) inferInstance (x0 := .int .i64 a.cell) (x1 := .int .i64 a.tag) (y0 := .int .i64 a.cell) (y1 := .int .i64 a.tag) (fun e d w h => run_kind_int h d _ _ w) (fun e d w h => run_kind_int h d _ _ w) w2
  simp [execOp, fits_ev hf hx, fits_ev hf hy, run_eqGuard_agg w2 .eql t x y _ _ (TEq2.guard (P := P) (t := t) (b := false) inferInstance), run_eql_struct w2 t, hr]⟩⟩
end
theorem rd_ok {l : List Ce} {x : Pt} (hok : cellsOk l) : cellsOk (readL l x) := by
  by_cases h : accC l x = 0
  · obtain ⟨i, c, k, hL⟩ := acc_leads h
    exact read_ok hL
  · rw [readL_ne h]; exact hok
theorem csC_take {w : World} : ∀ (k : Nat) (l : List Ce) (b o : Nat) (F : List Nat), CsAt w (encC l) b o F → ∃ F', CsAt w (encC (l.take k)) b o F'
  | 0, _, _, _, _, _ => ⟨[], rfl⟩
  | _ + 1, [], _, _, _, _ => ⟨[], rfl⟩
  | k + 1, c :: r, b, o, F, ⟨h1, h2, h3, vs, F1, F2, e, h4, hs, hr⟩ => by
    obtain ⟨F', h⟩ := csC_take k r _ _ _ hr
    exact ⟨F1 ++ F', h1, h2, h3, vs, F1, F', rfl, h4, hs, h⟩
theorem csC_drop {w : World} : ∀ (k : Nat) (l : List Ce) (b o : Nat) (F : List Nat), k ≤ l.length → CsAt w (encC l) b o F → ∃ F', CsAt w (encC (l.drop k)) b (o + k * 4) F'
  | 0, _, _, _, F, _, h => ⟨F, by rw [Nat.zero_mul, Nat.add_zero]; exact h⟩
  | k + 1, [], _, _, _, hk, _ => by simp at hk
  | k + 1, c :: r, b, o, F, hk, ⟨h1, h2, h3, vs, F1, F2, e, h4, hs, hr⟩ => by
    obtain ⟨F', h'⟩ := csC_drop k r b _ F2 (by simpa using hk) hr
    exact ⟨F', by rw [show o + (k + 1) * 4 = o + 1 + 1 + 1 + 1 + k * 4 from by omega]; exact h'⟩
theorem CeS.take_ {w : World} {A : Option Addr} {m c : Nat} {l : List Ce} {F : List Nat} (h : CeS w (.slice A m c) l F) (k : Nat) (hk : k ≤ l.length) : ∃ F', CeS w (.slice A k c) (l.take k) F' := by
  obtain ⟨A', c', e, ⟨hm, hmc⟩, hs⟩ := h
  cases e
  have hl : (l.take k).length = k := by simp; omega
  rcases hs with ⟨h0, _⟩ | ⟨b, o, F', hA, hF, hs⟩
  · exact ⟨[], A, c, by rw [hl], ⟨by omega, by omega⟩, .inl ⟨by omega, rfl⟩⟩
  · obtain ⟨F2, h2⟩ := csC_take k l b o F' hs
    exact ⟨_, A, c, by rw [hl], ⟨by omega, by omega⟩, .inr ⟨b, o, F2, hA, rfl, h2⟩⟩
theorem CeS.drop_ {w : World} {A : Option Addr} {m c : Nat} {l : List Ce} {F : List Nat} (h : CeS w (.slice A m c) l F) (k : Nat) (hk : k < l.length) : ∃ F', CeS w (.slice (if c = k then A else A.map (·.add (k * 4))) (l.length - k) (c - k)) (l.drop k) F' := by
  obtain ⟨A', c', e, ⟨hm, hmc⟩, hs⟩ := h
  cases e
  have hl : (l.drop k).length = l.length - k := by simp
  rcases hs with ⟨h1, _⟩ | ⟨b, o, F', hA, hF, hs⟩
  · omega
  · obtain ⟨F2, h2⟩ := csC_drop k l b o F' (by omega) hs
    subst hA
    refine ⟨_, _, c - k, by rw [hl], ⟨by omega, by omega⟩, .inr ⟨b, o + k * 4, F2, ?_, rfl, h2⟩⟩
    rw [if_neg (by omega)]
    simp [add_some]
theorem CeS.mid_ {w : World} {A : Option Addr} {m c : Nat} {l : List Ce} {F : List Nat} (h : CeS w (.slice A m c) l F) {i : Nat} (hi : i < l.length) : ∃ F', CeS w (.slice (if c = i then A else A.map (·.add (i * 4))) (i + 1 - i) (c - i)) [l[i]] F' := by
  obtain ⟨F1, h1⟩ := h.drop_ i hi
  obtain ⟨F2, h2⟩ := h1.take_ 1 (by simp; omega)
  refine ⟨F2, ?_⟩
  rw [show i + 1 - i = 1 from by omega]
  have : (l.drop i).take 1 = [l[i]] := by rw [List.drop_eq_getElem_cons hi]; rfl
  rwa [this] at h2
section
variable {P : Program} {σ : Env} {w : World} {d : Nat} {ty : TypeId} {pos : String} {af : Array Edge} {x y z : Operand}
/-- s[l:h] of a slice. -/
theorem q_slMidC {g : Option (Nat × Bool)} {t e k len cap l h : Nat} {A : Option Addr} {i j : Int} [TSl P t e k] (hx : ev σ x = some (.slice A len cap)) (hy : ev σ y = some (.int .i64 i)) (hz : ev σ z = some (.int .i64 j)) (hi : i = (l : Int)) (hj : j = (h : Int)) (hl : l ≤ h) (hh : h ≤ cap) :
    DoesQ P ⟨some d, .slice t x (some y) (some z) none, ty, pos, af, g⟩ σ w (.slice (if cap = l then A else A.map (·.add (l * k))) (h - l) (cap - l)) := ⟨fun w2 he => ⟨fun m c hf => by
  subst hi; subst hj
  have h1 : (l : Int) ≤ (h : Int) := by omega
  have h2 : ¬ h < l := by omega
  have h3 : (h : Int) ≤ (cap : Int) := by omega
  have h4 : ¬ cap < h := by omega
  simp [execOp, fits_ev hf hx, fits_ev hf hy, fits_ev hf hz, Instr.sliceAt, Instr.slice, run_underlying (TSl.und (P := P) (t := t) (e := e) (k := k)), Instr.sliceBounds, Instr.sliceBound, asIntOf, h1, h2, h3, h4, hl, hh, TSl.run_sizeOf (P := P) (t := t) (e := e) (k := k) inferInstance]⟩⟩
end
end Go.Proofs.Ytmmhoihebbhakaa
