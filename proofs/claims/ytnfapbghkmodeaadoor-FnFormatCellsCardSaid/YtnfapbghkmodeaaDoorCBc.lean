/-
  What is proved here: comparison of structs of two fields; what the laws' bcCells answers.
-/
import Derived.Test.YtnfapbghkmodeaaDoorCFact
import Derived.Laws.StructEq
namespace Go.Proofs.YtnfapbghkmodeaaDoor
set_option linter.unusedVariables false
set_option linter.unusedSimpArgs false
set_option linter.unnecessarySimpa false
open Go.RowKit

def kindB (P : Program) (e : TypeId) (b : Bool) : Bool := match P.underlying e with
  | some (.int _) => !b
  | some .bool => b
  | _ => false
/-- A struct of two fields: numbers, or the second a bool. -/
def eq2B (P : Program) (t : TypeId) (b : Bool) : Bool :=
  (match (P.fieldsOf t).toList with
   | [f0, f1] => (!(f0.name == "_") && !(f1.name == "_")) && (Nat.beq f0.offset 0 && Nat.beq f1.offset 1) && (t1B P f0.type && t1B P f1.type) && (kindB P f0.type false && kindB P f1.type b)
   | _ => false) &&
  (match P.underlying t with
   | some (.struct _) => true
   | _ => false) && !P.stoodInHeld t && !P.eqGuardType P.depth t
class TEq2 (P : Program) (t : TypeId) (b : outParam Bool) : Prop where
  ok : eq2B P t b = true
theorem run_part1 {P : Program} {e off : Nat} {xs : Array Value} {v : Value} (h : T1 P e) (hx : xs[off]? = some v) (w : World) : (part e xs off).run P w = .ok v w := by
  simp [part, h.run_isAgg w, hx]
theorem run_kind_int {P : Program} {e : TypeId} (h : kindB P e false = true) (d : Nat) (a b : Int) (w : World) : (Op.equalIn (d + 1) e (.int .i64 a) (.int .i64 b)).run P w = .ok (a == b) w := by
  unfold kindB at h
  cases hu : P.underlying e with
  | none => simp [hu] at h
  | some u => cases u <;> simp [hu] at h; exact run_equalIn_int w d e _ _ a b hu
theorem run_kind_bool {P : Program} {e : TypeId} (h : kindB P e true = true) (d : Nat) (a b : Bool) (w : World) : (Op.equalIn (d + 1) e (.bool a) (.bool b)).run P w = .ok (a == b) w := by
  unfold kindB at h
  cases hu : P.underlying e with
  | none => simp [hu] at h
  | some u => cases u <;> simp [hu] at h; exact run_equalIn_bool' w d e a b hu
section
variable {P : Program} {t : TypeId} {b : Bool}
theorem TEq2.run (h : TEq2 P t b) {x0 x1 y0 y1 : Value} {r0 r1 : Bool} (h0 : ∀ e d w, kindB P e false = true → (Op.equalIn (d + 1) e x0 y0).run P w = .ok r0 w) (h1 : ∀ e d w, kindB P e b = true → (Op.equalIn (d + 1) e x1 y1).run P w = .ok r1 w) (w : World) :
    (Op.equalIn 10000 t (.agg #[x0, x1]) (.agg #[y0, y1])).run P w = .ok (r0 && r1) w := by
  have hb := h.ok
  unfold eq2B at hb
  simp only [Bool.and_eq_true, Bool.not_eq_true'] at hb
  obtain ⟨⟨⟨hf, hu⟩, hs⟩, _⟩ := hb
  have hu2 : P.underlying t = some (.struct (P.fieldsOf t)) := by
    cases hq : P.underlying t with
    | none => simp [hq] at hu
    | some u => cases u <;> simp [hq] at hu; simp [Program.fieldsOf, hq]
  rw [run_equalIn_struct w 9999 t _ _ hu2 hs]
  generalize (P.fieldsOf t).toList = fs at hf
  match fs, hf with
  | [f0, f1], hf =>
    simp only [Bool.and_eq_true, Bool.not_eq_true', beq_eq_false_iff_ne, ne_eq] at hf
    obtain ⟨⟨⟨⟨n0, n1⟩, o0, o1⟩, t0, t1⟩, k0, k1⟩ := hf
    have o0 := Nat.eq_of_beq_eq_true o0
    have o1 := Nat.eq_of_beq_eq_true o1
    have p0 := fun w => run_part1 (P := P) (e := f0.type) (off := f0.offset) (xs := #[x0, x1]) (v := x0) ⟨t0⟩ (by rw [o0]; rfl) w
    have p0' := fun w => run_part1 (P := P) (e := f0.type) (off := f0.offset) (xs := #[y0, y1]) (v := y0) ⟨t0⟩ (by rw [o0]; rfl) w
    have p1 := fun w => run_part1 (P := P) (e := f1.type) (off := f1.offset) (xs := #[x0, x1]) (v := x1) ⟨t1⟩ (by rw [o1]; rfl) w
    have p1' := fun w => run_part1 (P := P) (e := f1.type) (off := f1.offset) (xs := #[y0, y1]) (v := y1) ⟨t1⟩ (by rw [o1]; rfl) w
    cases r0 <;> cases r1 <;> simp [Op.eqFields, n0, n1, p0, p0', p1, p1', h0 f0.type 9998 _ k0, h1 f1.type 9998 _ k1]
theorem TEq2.guard (h : TEq2 P t b) : P.eqGuardType P.depth t = false := by
  have hb := h.ok
  unfold eq2B at hb
  simp only [Bool.and_eq_true, Bool.not_eq_true'] at hb
  exact hb.2
end
section
variable {P : Program} {σ : Env} {w : World} {d : Nat} {ty : TypeId} {pos : String} {af : Array Edge} {x y : Operand}
theorem q_neTag {g : Option (Nat × Bool)} {t t' : TypeId} [TEq2 P t true] {a b : Tg} (hx : ev σ x = some (.agg #[.int .i64 a.id, .bool a.u])) (hy : ev σ y = some (.agg #[.int .i64 b.id, .bool b.u])) :
    DoesQ P ⟨some d, .binOp .neq t x y t', ty, pos, af, g⟩ σ w (.bool (!decide (a = b))) := ⟨fun w2 he => ⟨fun m c hf => by
  have hr := TEq2.run (P := P) (t := t) inferInstance (x0 := .int .i64 a.id) (x1 := .bool a.u) (y0 := .int .i64 b.id) (y1 := .bool b.u) (fun e d w h => run_kind_int h d _ _ w) (fun e d w h => run_kind_bool h d _ _ w) w2
  have hd : decide (a = b) = (a.id == b.id && a.u == b.u) := by
    obtain ⟨ai, au⟩ := a
    obtain ⟨bi, bu⟩ := b
    rw [Bool.eq_iff_iff]
    simp
  simp [execOp, fits_ev hf hx, fits_ev hf hy, run_eqGuard_agg w2 .neq t x y _ _ (TEq2.guard (P := P) (t := t) (b := true) inferInstance), run_neq_struct w2 t, hr, hd]⟩⟩
theorem ptr_eqB (a b : Pt) : decide (a = b) = (a.cell == b.cell && a.tag == b.tag) := by
  obtain ⟨ai, au⟩ := a
  obtain ⟨bi, bu⟩ := b
  rw [Bool.eq_iff_iff]
  simp
theorem q_nePt {g : Option (Nat × Bool)} {t t' : TypeId} [TEq2 P t false] {a b : Pt} (hx : ev σ x = some (.agg #[.int .i64 a.cell, .int .i64 a.tag])) (hy : ev σ y = some (.agg #[.int .i64 b.cell, .int .i64 b.tag])) :
    DoesQ P ⟨some d, .binOp .neq t x y t', ty, pos, af, g⟩ σ w (.bool (!decide (a = b))) := ⟨fun w2 he => ⟨fun m c hf => by
  have hr := TEq2.run (P := P) (t := t) inferInstance (x0 := .int .i64 a.cell) (x1 := .int .i64 a.tag) (y0 := .int .i64 b.cell) (y1 := .int .i64 b.tag) (fun e d w h => run_kind_int h d _ _ w) (fun e d w h => run_kind_int h d _ _ w) w2
  simp [execOp, fits_ev hf hx, fits_ev hf hy, run_eqGuard_agg w2 .neq t x y _ _ (TEq2.guard (P := P) (t := t) (b := false) inferInstance), run_neq_struct w2 t, hr, ptr_eqB]⟩⟩
end
instance teqTag : TEq2 Tryd.prog 54 true := ⟨by kernel_rfl⟩
instance teqPt : TEq2 Tryd.prog 65 false := ⟨by kernel_rfl⟩
end Go.Proofs.YtnfapbghkmodeaaDoor
