/-
  What is proved here: when the program's StmtValid, ProgramValid and their helpers answer true.
-/
import Derived.Test.YteonnoijdnjpdaaDoorData
import Derived.Test.YteonnoijdnjpdaaDoorCho
namespace Go.Proofs.YteonnoijdnjpdaaDoor
set_option linter.unusedVariables false
set_option linter.unusedSimpArgs false
set_option linter.unnecessarySimpa false
open Go.RowKit

def typeOfL (tl : List Int) (v : Int) : Int := if 0 ≤ v ∧ v < tl.length then tl.getD v.toNat 0 else 0
theorem bool_dec {b : Bool} {p : Prop} [Decidable p] (h : b = true ↔ p) : b = decide p := by
  rw [Bool.eq_iff_iff, decide_eq_true_eq]; exact h
/-- A simple statement is right for these types. -/
def SimpleP (tl : List Int) (op x y n : Int) (lt le : Nat) : Prop :=
  (((op = 1 ∨ op = 2) ∧ 0 ≤ n ∧ n ≤ 9) ∨ (op ≠ 1 ∧ op ≠ 2 ∧ n = 0)) ∧ ((op ≠ 1 ∧ op ≠ 2 ∧ op ≠ 8) ∨ y = 0) ∧ lt = 0 ∧ le = 0 ∧
  ((op = 1 ∧ typeOfL tl x = 1) ∨ ((op = 2 ∨ op = 8) ∧ typeOfL tl x = 2) ∨ (op = 3 ∧ typeOfL tl x ≠ 0 ∧ typeOfL tl x = typeOfL tl y ∧ x ≠ y) ∨
   (op = 4 ∧ typeOfL tl x = 3 ∧ (typeOfL tl y = 2 ∨ typeOfL tl y = 3 ∨ typeOfL tl y = 4) ∧ x ≠ y) ∨ (op = 5 ∧ typeOfL tl x = 4 ∧ (typeOfL tl y = 2 ∨ typeOfL tl y = 4) ∧ x ≠ y) ∨
   (op = 6 ∧ typeOfL tl x = 1 ∧ (typeOfL tl y = 2 ∨ typeOfL tl y = 3 ∨ typeOfL tl y = 4)) ∨ (op = 7 ∧ (typeOfL tl x = 2 ∨ typeOfL tl x = 4) ∧ typeOfL tl y = 1))
instance (tl : List Int) (op x y n : Int) (lt le : Nat) : Decidable (SimpleP tl op x y n lt le) := by unfold SimpleP; infer_instance
/-- Statements are right for these types, with at most d branches in each other. -/
def okL (tl : List Int) : Nat → Ss → Bool
  | _, .nil => true
  | d, .cons op x y n t e r =>
    (if op = 9 ∨ op = 10 then decide (d ≠ 0 ∧ x = 0 ∧ y = 0 ∧ n = 0 ∧ ¬ (op = 10 ∧ e.len ≠ 0)) && okL tl (d - 1) t && okL tl (d - 1) e
     else decide (SimpleP tl op x y n t.len e.len)) && okL tl d r
def cntL : Ss → Nat
  | .nil => 0
  | .cons _ _ _ _ t e r => 1 + cntL t + cntL e + cntL r
def okT (tl : List Int) : Bool := decide (tl.length ≤ 6) && tl.all fun t => decide (1 ≤ t ∧ t ≤ 4)
def validP (tl : List Int) (l : Ss) : Bool := okT tl && (okL tl 4 l && decide (cntL l ≤ 30))

theorem typeOf_ret (tv : Value) (tl : List Int) (F : List Nat) (v : Int) (w : World) (h : IntF w tv tl F) : Ret Tryd.prog 90 [tv, .int .i64 v] w fun r w' => r = .int .i64 (typeOfL tl v) ∧ w' = w := by
  obtain ⟨A, c, rfl, hl, hx⟩ := h
  unfold maxI at hl
  refine enter Tryd.func90 rfl Tryd.ntmps90 rfl rfl ?_
  refine goS ?_
  refine WO_call rfl (within_ret v 0 ((tl.length : Int) - 1) w) ?_
  rintro r w1 ⟨rfl, rfl⟩
  by_cases hv : 0 ≤ v ∧ v < tl.length
  · have hv' : 0 ≤ v ∧ v ≤ (tl.length : Int) - 1 := ⟨hv.1, by omega⟩
    simp only [hv', decide_true, and_self]
    obtain ⟨m, rfl⟩ := Int.eq_ofNat_of_zero_le hv.1
    have hm : m < tl.length := by omega
    obtain ⟨b, o, rfl, rfl, hcell⟩ := int_at hx hm
    refine goS ?_
    refine Z83 rfl rfl rfl hm ?_
    refine goS ?_
    refine at_ret1 rfl rfl ⟨?_, rfl⟩
    unfold typeOfL
    rw [if_pos hv, Int.toNat_natCast, List.getD_eq_getElem?_getD, List.getElem?_eq_getElem hm]
    rfl
  · have hv' : ¬ (0 ≤ v ∧ v ≤ (tl.length : Int) - 1) := by omega
    rw [decide_eq_false hv']
    refine goS ?_
    refine at_ret1 rfl rfl ⟨?_, rfl⟩
    unfold typeOfL
    rw [if_neg hv]
theorem isHolder_ret (t : Int) (w : World) : Ret Tryd.prog 91 [.int .i64 t] w fun v w' => v = .bool (decide (t = 2 ∨ t = 3 ∨ t = 4)) ∧ w' = w := by
  refine enter Tryd.func91 rfl Tryd.ntmps91 rfl rfl ?_
  (refine goS ?_; repeat' (first | ((refine Z51 rfl rfl (fun c' hc' => ?_)); cases c' <;> (try simp only [decide_eq_true_eq, decide_eq_false_iff_not, beq_iff_eq, beq_eq_false_iff_ne, bne_iff_ne, bne_eq_false_iff_eq, ne_eq, gt_iff_lt, ge_iff_le, Int.not_lt, Int.not_le, Bool.not_eq_true', Bool.not_eq_false', Bool.not_true, Bool.not_false, reduceCtorEq, Decidable.not_not, not_true_eq_false, Bool.true_eq_false, Bool.false_eq_true] at hc') <;> (try (exfalso; omega)) <;> refine goS ?_) | ((refine Z52 rfl (fun hc' => ?_) (fun hc' => ?_)) <;> (try simp only [decide_eq_true_eq, decide_eq_false_iff_not, beq_iff_eq, beq_eq_false_iff_ne, bne_iff_ne, bne_eq_false_iff_eq, ne_eq, gt_iff_lt, ge_iff_le, Int.not_lt, Int.not_le, Bool.not_eq_true', Bool.not_eq_false', Bool.not_true, Bool.not_false, reduceCtorEq, Decidable.not_not, not_true_eq_false, Bool.true_eq_false, Bool.false_eq_true] at hc') <;> (try (exfalso; omega)) <;> refine goS ?_)))
  all_goals first
    | (refine at_ret1 rfl rfl ⟨?_, rfl⟩; refine congrArg Value.bool ?_; rw [Bool.eq_iff_iff]; simp <;> omega)
    | (refine WO_call rfl (isReference_ret t w) ?_
       rintro v w' ⟨rfl, rfl⟩
       refine goS ?_
       refine at_ret1 rfl rfl ⟨?_, rfl⟩; refine congrArg Value.bool ?_; rw [Bool.eq_iff_iff]; simp <;> omega)
theorem isBranch_ret (t : Int) (w : World) : Ret Tryd.prog 78 [.int .i64 t] w fun v w' => v = .bool (decide (t = 9 ∨ t = 10)) ∧ w' = w := by
  refine enter Tryd.func78 rfl Tryd.ntmps78 rfl rfl ?_
  (refine goS ?_; repeat' (first | ((refine Z51 rfl rfl (fun c' hc' => ?_)); cases c' <;> (try simp only [decide_eq_true_eq, decide_eq_false_iff_not, beq_iff_eq, beq_eq_false_iff_ne, bne_iff_ne, bne_eq_false_iff_eq, ne_eq, gt_iff_lt, ge_iff_le, Int.not_lt, Int.not_le, Bool.not_eq_true', Bool.not_eq_false', Bool.not_true, Bool.not_false, reduceCtorEq, Decidable.not_not, not_true_eq_false, Bool.true_eq_false, Bool.false_eq_true] at hc') <;> (try (exfalso; omega)) <;> refine goS ?_) | ((refine Z52 rfl (fun hc' => ?_) (fun hc' => ?_)) <;> (try simp only [decide_eq_true_eq, decide_eq_false_iff_not, beq_iff_eq, beq_eq_false_iff_ne, bne_iff_ne, bne_eq_false_iff_eq, ne_eq, gt_iff_lt, ge_iff_le, Int.not_lt, Int.not_le, Bool.not_eq_true', Bool.not_eq_false', Bool.not_true, Bool.not_false, reduceCtorEq, Decidable.not_not, not_true_eq_false, Bool.true_eq_false, Bool.false_eq_true] at hc') <;> (try (exfalso; omega)) <;> refine goS ?_)))
  all_goals (refine at_ret1 rfl rfl ⟨?_, rfl⟩; refine congrArg Value.bool ?_; rw [Bool.eq_iff_iff]; simp <;> omega)
set_option maxHeartbeats 2000000 in
theorem simpleOk_ret (tv : Value) (tl : List Int) (F : List Nat) (op x y n : Int) (lt le ct ce : Nat) (At Ae : Option Addr) (w : World) (h : IntF w tv tl F) (hlt : lt ≤ maxI * 2 - 1) (hle : le ≤ maxI * 2 - 1) :
    Ret Tryd.prog 79 [tv, stV op x y n (.slice At lt ct) (.slice Ae le ce)] w fun r w' => r = .bool (decide (SimpleP tl op x y n lt le)) ∧ Ext w w' := by
  refine enter Tryd.func79 rfl Tryd.ntmps79 rfl rfl ?_
  refine goS ?_
  refine WO_box rfl fun w1 hb he hz => ?_
  simp only [stV, Value.cells] at hb
  have h1 := h.ext he
  refine goS ?_
  refine Z54 (by kernel_rfl) (by kernel_rfl) ?_
  repeat' (first | refine Z55 (Z56 rfl) ?_ | (refine Z57 ?_; first | refine Z58 rfl rfl (by decide) ?_ | refine Z59 rfl rfl (by decide) ?_ | refine Z60 rfl rfl ?_ | ((refine Z61 rfl rfl (fun c' hc' => ?_)); cases c' <;> (try simp only [decide_eq_true_eq, decide_eq_false_iff_not, beq_iff_eq, beq_eq_false_iff_ne, bne_iff_ne, bne_eq_false_iff_eq, ne_eq, gt_iff_lt, ge_iff_le, Int.not_lt, Int.not_le, Bool.not_eq_true', Bool.not_eq_false', Bool.not_true, Bool.not_false, reduceCtorEq, Decidable.not_not, not_true_eq_false, Bool.true_eq_false, Bool.false_eq_true] at hc') <;> (try (exfalso; omega)))) | (refine Z62 ?_; first | refine Z55 (Z63 rfl rfl) ?_ | refine Z55 (Z64 rfl rfl) ?_) | (refine Z65 ?_; first | refine Z55 (Z66 rfl (by assumption) (by rfl)) ?_ | refine Z55 (Z67 rfl (by assumption)) ?_) | (refine Z68 ?_; refine Z55 (Z69 rfl rfl rfl (by omega)) ?_) | (refine Z70 ?_; first | refine Z55 (Z14 rfl (by decide) rfl) ?_ | refine Z55 (Z15 rfl (by decide) rfl) ?_) | (refine Z71 ?_; first | refine Z55 (Z72 rfl) ?_ | refine Z55 (Z73 rfl) ?_) | (refine Z74 ?_; first | refine Z55 (Z75 rfl rfl (by omega)) ?_ | refine Z55 (Z76 rfl rfl (by omega)) ?_ | refine Z55 (Z77 rfl rfl (by omega)) ?_ | refine Z55 (Z78 rfl rfl (by omega) (by omega)) ?_ | refine Z55 (Z79 rfl rfl (by omega) (by omega) (by omega)) ?_ | refine Z55 (Z25 rfl rfl) ?_ | refine Z55 (Z26 rfl rfl) ?_) | (refine Z80 ?_; refine Z55 (Z28 rfl (Z53 ⟨by omega, by omega⟩)) ?_) | refine Z81 fun w' hw' => ?_)
  refine WQ_call rfl (fun w' hw' => (typeOf_ret tv tl F x w' (h1.ext hw')).mono (by rintro u w'' ⟨rfl, rfl⟩; exact ⟨rfl, Ext.refl _⟩)) ?_
  repeat' (first | refine Z55 (Z56 rfl) ?_ | (refine Z57 ?_; first | refine Z58 rfl rfl (by decide) ?_ | refine Z59 rfl rfl (by decide) ?_ | refine Z60 rfl rfl ?_ | ((refine Z61 rfl rfl (fun c' hc' => ?_)); cases c' <;> (try simp only [decide_eq_true_eq, decide_eq_false_iff_not, beq_iff_eq, beq_eq_false_iff_ne, bne_iff_ne, bne_eq_false_iff_eq, ne_eq, gt_iff_lt, ge_iff_le, Int.not_lt, Int.not_le, Bool.not_eq_true', Bool.not_eq_false', Bool.not_true, Bool.not_false, reduceCtorEq, Decidable.not_not, not_true_eq_false, Bool.true_eq_false, Bool.false_eq_true] at hc') <;> (try (exfalso; omega)))) | (refine Z62 ?_; first | refine Z55 (Z63 rfl rfl) ?_ | refine Z55 (Z64 rfl rfl) ?_) | (refine Z65 ?_; first | refine Z55 (Z66 rfl (by assumption) (by rfl)) ?_ | refine Z55 (Z67 rfl (by assumption)) ?_) | (refine Z68 ?_; refine Z55 (Z69 rfl rfl rfl (by omega)) ?_) | (refine Z70 ?_; first | refine Z55 (Z14 rfl (by decide) rfl) ?_ | refine Z55 (Z15 rfl (by decide) rfl) ?_) | (refine Z71 ?_; first | refine Z55 (Z72 rfl) ?_ | refine Z55 (Z73 rfl) ?_) | (refine Z74 ?_; first | refine Z55 (Z75 rfl rfl (by omega)) ?_ | refine Z55 (Z76 rfl rfl (by omega)) ?_ | refine Z55 (Z77 rfl rfl (by omega)) ?_ | refine Z55 (Z78 rfl rfl (by omega) (by omega)) ?_ | refine Z55 (Z79 rfl rfl (by omega) (by omega) (by omega)) ?_ | refine Z55 (Z25 rfl rfl) ?_ | refine Z55 (Z26 rfl rfl) ?_) | (refine Z80 ?_; refine Z55 (Z28 rfl (Z53 ⟨by omega, by omega⟩)) ?_) | refine Z81 fun w' hw' => ?_)
  refine WQ_call rfl (fun w' hw' => (typeOf_ret tv tl F y w' (h1.ext hw')).mono (by rintro u w'' ⟨rfl, rfl⟩; exact ⟨rfl, Ext.refl _⟩)) ?_
  repeat' (first | refine Z55 (Z56 rfl) ?_ | (refine Z57 ?_; first | refine Z58 rfl rfl (by decide) ?_ | refine Z59 rfl rfl (by decide) ?_ | refine Z60 rfl rfl ?_ | ((refine Z61 rfl rfl (fun c' hc' => ?_)); cases c' <;> (try simp only [decide_eq_true_eq, decide_eq_false_iff_not, beq_iff_eq, beq_eq_false_iff_ne, bne_iff_ne, bne_eq_false_iff_eq, ne_eq, gt_iff_lt, ge_iff_le, Int.not_lt, Int.not_le, Bool.not_eq_true', Bool.not_eq_false', Bool.not_true, Bool.not_false, reduceCtorEq, Decidable.not_not, not_true_eq_false, Bool.true_eq_false, Bool.false_eq_true] at hc') <;> (try (exfalso; omega)))) | (refine Z62 ?_; first | refine Z55 (Z63 rfl rfl) ?_ | refine Z55 (Z64 rfl rfl) ?_) | (refine Z65 ?_; first | refine Z55 (Z66 rfl (by assumption) (by rfl)) ?_ | refine Z55 (Z67 rfl (by assumption)) ?_) | (refine Z68 ?_; refine Z55 (Z69 rfl rfl rfl (by omega)) ?_) | (refine Z70 ?_; first | refine Z55 (Z14 rfl (by decide) rfl) ?_ | refine Z55 (Z15 rfl (by decide) rfl) ?_) | (refine Z71 ?_; first | refine Z55 (Z72 rfl) ?_ | refine Z55 (Z73 rfl) ?_) | (refine Z74 ?_; first | refine Z55 (Z75 rfl rfl (by omega)) ?_ | refine Z55 (Z76 rfl rfl (by omega)) ?_ | refine Z55 (Z77 rfl rfl (by omega)) ?_ | refine Z55 (Z78 rfl rfl (by omega) (by omega)) ?_ | refine Z55 (Z79 rfl rfl (by omega) (by omega) (by omega)) ?_ | refine Z55 (Z25 rfl rfl) ?_ | refine Z55 (Z26 rfl rfl) ?_) | (refine Z80 ?_; refine Z55 (Z28 rfl (Z53 ⟨by omega, by omega⟩)) ?_) | refine Z81 fun w' hw' => ?_)
  replace hb := hb.ext hw'
  have hx := he.trans hw'
  clear h1 he hz h
  repeat' (first
    | first | (refine Z0 ?_; first | refine Z1 rfl ?_ | (refine Z2 ?_; first | refine Z3 rfl rfl (by decide) ?_ | refine Z4 rfl rfl (by decide) ?_ | refine Z5 rfl rfl ?_ | ((refine Z51 rfl rfl (fun c' hc' => ?_)); cases c' <;> (try simp only [decide_eq_true_eq, decide_eq_false_iff_not, beq_iff_eq, beq_eq_false_iff_ne, bne_iff_ne, bne_eq_false_iff_eq, ne_eq, gt_iff_lt, ge_iff_le, Int.not_lt, Int.not_le, Bool.not_eq_true', Bool.not_eq_false', Bool.not_true, Bool.not_false, reduceCtorEq, Decidable.not_not, not_true_eq_false, Bool.true_eq_false, Bool.false_eq_true] at hc') <;> (try (exfalso; omega)))) | (refine Z6 ?_; first | refine Z7 rfl rfl ?_ | refine Z8 rfl rfl ?_) | (refine Z9 ?_; first | refine Z10 rfl (by assumption) (by rfl) ?_ | refine Z11 rfl (by assumption) ?_) | (refine Z12 ?_; first | refine Z13 (Z14 rfl (by decide) rfl) ?_ | refine Z13 (Z15 rfl (by decide) rfl) ?_) | (refine Z16 ?_; first | refine Z17 rfl ?_ | refine Z18 rfl ?_) | (refine Z19 ?_; first | refine Z20 rfl rfl (by omega) ?_ | refine Z21 rfl rfl (by omega) ?_ | refine Z22 rfl rfl (by omega) ?_ | refine Z23 rfl rfl (by omega) (by omega) ?_ | refine Z24 rfl rfl (by omega) (by omega) (by omega) ?_ | refine Z13 (Z25 rfl rfl) ?_ | refine Z13 (Z26 rfl rfl) ?_) | (refine Z27 ?_; refine Z13 (Z28 rfl (Z53 ⟨by omega, by omega⟩)) ?_) | (refine Z29 ?_; refine Z13 (Z30 rfl (by rfl) (by simp only [Z84, List.set_cons_zero, List.set_cons_succ]; rfl)) ?_) | refine Z31 ?_) | (refine Z32 ?_; first | refine Z33 ?_ | refine Z34 ?_ | refine Z35 ?_ | refine Z36 ?_ | refine Z37 ?_ | refine Z38 rfl ?_ | refine Z39 ?_ | refine Z40 ?_ | refine Z41 ?_) | (refine Z42 ?_; first | refine Z43 ?_ | refine Z44 ?_ | refine Z45 ?_ | refine Z46 ?_ | refine Z47 ?_ | refine Z48 ?_ | refine Z49 rfl (by decide) ?_ | refine Z50 rfl (by decide) ?_ | ((refine Z52 rfl (fun hc' => ?_) (fun hc' => ?_)) <;> (try simp only [decide_eq_true_eq, decide_eq_false_iff_not, beq_iff_eq, beq_eq_false_iff_ne, bne_iff_ne, bne_eq_false_iff_eq, ne_eq, gt_iff_lt, ge_iff_le, Int.not_lt, Int.not_le, Bool.not_eq_true', Bool.not_eq_false', Bool.not_true, Bool.not_false, reduceCtorEq, Decidable.not_not, not_true_eq_false, Bool.true_eq_false, Bool.false_eq_true] at hc') <;> (try (exfalso; omega))))
    | (refine WO_call rfl (within_ret _ _ _ _) ?_; rintro _ _ ⟨rfl, rfl⟩)
    | (refine WO_call rfl (isHolder_ret _ _) ?_; rintro _ _ ⟨rfl, rfl⟩))
  all_goals refine at_ret1 rfl rfl ⟨congrArg Value.bool (bool_dec ?_), hx⟩
  all_goals unfold SimpleP
  all_goals clear hb hx
  all_goals (simp only [beq_iff_eq, bne_iff_ne, decide_eq_true_eq, ne_eq, Bool.false_eq_true, false_iff]; omega)

end Go.Proofs.YteonnoijdnjpdaaDoor
