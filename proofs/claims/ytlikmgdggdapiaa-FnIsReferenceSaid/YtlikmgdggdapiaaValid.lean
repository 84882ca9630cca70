/-
  What is proved here: when the program's StmtValid, ProgramValid and their helpers answer true.
-/
import Derived.Test.YtlikmgdggdapiaaData
import Derived.Test.YtlikmgdggdapiaaCho
namespace Go.Proofs.Ytlikmgdggdapiaa
set_option linter.unusedVariables false
set_option linter.unusedSimpArgs false
set_option linter.unnecessarySimpa false
open Go.RowKit

def typeOfL (tl : List Int) (v : Int) : Int := if 0 ≤ v ∧ v < tl.length then tl.getD v.toNat 0 else 0
theorem bool_dec {b : Bool} {p : Prop} [Decidable p] (h : b = true ↔ p) : b = decide p := by
  rw [Bool.eq_iff_iff, decide_eq_true_eq]; exact h
/-- A simple statement is right for these types. -/
def SimpleP (tl : List Int) (op x y n : Int) (lt le : Nat) : Prop :=
  (((op = 1 ∨ op = 2) ∧ 0 ≤ n ∧ n ≤ 9) ∨ (op ≠ 1 ∧ op ≠ 2 ∧ n = 0)) ∧ ((op ≠ 1 ∧ op ≠ 2 ∧ op ≠ 8) ∨ y = 0) ∧ lt = 0 ∧ le = 0 ∧
  ((op = 1 ∧ typeOfL tl x = 1) ∨ ((op = 2 ∨ op = 8) ∧ typeOfL tl x = 2) ∨ (op = 3 ∧ typeOfL tl x ≠ 0 ∧ typeOfL tl x = typeOfL tl y ∧ x ≠ y) ∨
   (op = 4 ∧ typeOfL tl x = 3 ∧ (typeOfL tl y = 2 ∨ typeOfL tl y = 3 ∨ typeOfL tl y = 4) ∧ x ≠ y) ∨ (op = 5 ∧ typeOfL tl x = 4 ∧ (typeOfL tl y = 2 ∨ typeOfL tl y = 4) ∧ x ≠ y) ∨
   (op = 6 ∧ typeOfL tl x = 1 ∧ (typeOfL tl y = 2 ∨ typeOfL tl y = 3 ∨ typeOfL tl y = 4)) ∨ (op = 7 ∧ (typeOfL tl x = 2 ∨ typeOfL tl x = 4) ∧ typeOfL tl y = 1))
instance (tl : List Int) (op x y n : Int) (lt le : Nat) : Decidable (SimpleP tl op x y n lt le) := by unfold SimpleP; infer_instance
/-- Statements are right for these types, with at most d branches in each other. -/
def okL (tl : List Int) : Nat → Ss → Bool
  | _, .nil => true
  | d, .cons op x y n t e r =>
    (if op = 9 ∨ op = 10 then decide (d ≠ 0 ∧ x = 0 ∧ y = 0 ∧ n = 0 ∧ ¬ (op = 10 ∧ e.len ≠ 0)) && okL tl (d - 1) t && okL tl (d - 1) e
     else decide (SimpleP tl op x y n t.len e.len)) && okL tl d r
def cntL : Ss → Nat
  | .nil => 0
  | .cons _ _ _ _ t e r => 1 + cntL t + cntL e + cntL r
def okT (tl : List Int) : Bool := decide (tl.length ≤ 6) && tl.all fun t => decide (1 ≤ t ∧ t ≤ 4)
def validP (tl : List Int) (l : Ss) : Bool := okT tl && (okL tl 4 l && decide (cntL l ≤ 30))

theorem typeOf_ret (tv : Value) (tl : List Int) (F : List Nat) (v : Int) (w : World) (h : IntF w tv tl F) : Ret Try.prog 40 [tv, .int .i64 v] w fun r w' => r = .int .i64 (typeOfL tl v) ∧ w' = w := by
  obtain ⟨A, c, rfl, hl, hx⟩ := h
  unfold maxI at hl
  refine enter Try.func40 rfl Try.ntmps40 rfl rfl ?_
  repeat (first
    | (refine idWO ?_
       first
       | refine WO_simple rfl ?_
       | (refine idG ?_
          first
          | refine WO_yes rfl rfl (by first | (with_reducible rfl) | decide) ?_
          | refine WO_no rfl rfl (by first | (with_reducible rfl) | decide) ?_
          | refine WO_noU rfl rfl ?_)
       | (refine idFA ?_
          first
          | refine WO_fieldAddr0 rfl rfl ?_
          | refine WO_fieldAddr rfl rfl ?_)
       | (refine idLd ?_
          first
          | refine WO_loadB rfl (by assumption) (by rfl) ?_
          | refine WO_load1 rfl (by assumption) ?_)
       | (refine idPk ?_
          first
          | refine WO_p (q_pickT rfl (by first | (with_reducible rfl) | decide) rfl) ?_
          | refine WO_p (q_pickF rfl (by first | (with_reducible rfl) | decide) rfl) ?_)
       | (refine idBi ?_
          first
          | refine WO_lenSl rfl ?_
          | refine WO_lenStr rfl ?_)
       | (refine idBo ?_
          first
          | refine WO_add rfl rfl (by omega) ?_
          | refine WO_sub rfl rfl (by omega) ?_
          | refine WO_mul rfl rfl (by omega) ?_
          | refine WO_rem rfl rfl (by omega) (by omega) ?_
          | refine WO_quo rfl rfl (by omega) (by omega) (by omega) ?_
          | refine WO_p (q_neBool rfl rfl) ?_
          | refine WO_p (q_eqBool rfl rfl) ?_)
       | (refine idCv ?_; refine WO_p (q_convert rfl (wrap_i64_in ⟨by omega, by omega⟩)) ?_)
       | (refine idBuild ?_; refine WO_p (q_build rfl (by rfl) (by simp only [fillS, List.set_cons_zero, List.set_cons_succ]; rfl)) ?_)
       | refine WO_nil ?_)
    | (refine idAt ?_
       first
       | refine at_next ?_
       | refine at_block ?_
       | refine at_next_exit ?_
       | refine at_next_ret ?_
       | refine at_block_exit ?_
       | refine at_block_other rfl ?_
       | refine at_block_ret ?_
       | refine at_loop_exit ?_
       | refine at_loop_ret ?_)
    | (refine idW ?_
       first
       | refine W_seq ?_
       | refine W_region ?_
       | refine W_block ?_
       | refine W_skip ?_
       | refine W_exit ?_
       | refine W_ret ?_
       | refine W_condT rfl (by first | (with_reducible rfl) | decide) ?_
       | refine W_condF rfl (by first | (with_reducible rfl) | decide) ?_))
  refine WO_call rfl (within_ret v 0 ((tl.length : Int) - 1) w) ?_
  rintro r w1 ⟨rfl, rfl⟩
  by_cases hv : 0 ≤ v ∧ v < tl.length
  · have hv' : 0 ≤ v ∧ v ≤ (tl.length : Int) - 1 := ⟨hv.1, by omega⟩
    simp only [hv', decide_true, and_self]
    obtain ⟨m, rfl⟩ := Int.eq_ofNat_of_zero_le hv.1
    have hm : m < tl.length := by omega
    obtain ⟨b, o, rfl, rfl, hcell⟩ := int_at hx hm
    repeat (first
      | (refine idWO ?_
         first
         | refine WO_simple rfl ?_
         | (refine idG ?_
            first
            | refine WO_yes rfl rfl (by first | (with_reducible rfl) | decide) ?_
            | refine WO_no rfl rfl (by first | (with_reducible rfl) | decide) ?_
            | refine WO_noU rfl rfl ?_)
         | (refine idFA ?_
            first
            | refine WO_fieldAddr0 rfl rfl ?_
            | refine WO_fieldAddr rfl rfl ?_)
         | (refine idLd ?_
            first
            | refine WO_loadB rfl (by assumption) (by rfl) ?_
            | refine WO_load1 rfl (by assumption) ?_)
         | (refine idPk ?_
            first
            | refine WO_p (q_pickT rfl (by first | (with_reducible rfl) | decide) rfl) ?_
            | refine WO_p (q_pickF rfl (by first | (with_reducible rfl) | decide) rfl) ?_)
         | (refine idBi ?_
            first
            | refine WO_lenSl rfl ?_
            | refine WO_lenStr rfl ?_)
         | (refine idBo ?_
            first
            | refine WO_add rfl rfl (by omega) ?_
            | refine WO_sub rfl rfl (by omega) ?_
            | refine WO_mul rfl rfl (by omega) ?_
            | refine WO_rem rfl rfl (by omega) (by omega) ?_
            | refine WO_quo rfl rfl (by omega) (by omega) (by omega) ?_
            | refine WO_p (q_neBool rfl rfl) ?_
            | refine WO_p (q_eqBool rfl rfl) ?_)
         | (refine idCv ?_; refine WO_p (q_convert rfl (wrap_i64_in ⟨by omega, by omega⟩)) ?_)
         | (refine idBuild ?_; refine WO_p (q_build rfl (by rfl) (by simp only [fillS, List.set_cons_zero, List.set_cons_succ]; rfl)) ?_)
         | refine WO_nil ?_)
      | (refine idAt ?_
         first
         | refine at_next ?_
         | refine at_block ?_
         | refine at_next_exit ?_
         | refine at_next_ret ?_
         | refine at_block_exit ?_
         | refine at_block_other rfl ?_
         | refine at_block_ret ?_
         | refine at_loop_exit ?_
         | refine at_loop_ret ?_)
      | (refine idW ?_
         first
         | refine W_seq ?_
         | refine W_region ?_
         | refine W_block ?_
         | refine W_skip ?_
         | refine W_exit ?_
         | refine W_ret ?_
         | refine W_condT rfl (by first | (with_reducible rfl) | decide) ?_
         | refine W_condF rfl (by first | (with_reducible rfl) | decide) ?_))
    refine WO_indexAddr rfl rfl rfl hm ?_
    repeat (first
      | (refine idWO ?_
         first
         | refine WO_simple rfl ?_
         | (refine idG ?_
            first
            | refine WO_yes rfl rfl (by first | (with_reducible rfl) | decide) ?_
            | refine WO_no rfl rfl (by first | (with_reducible rfl) | decide) ?_
            | refine WO_noU rfl rfl ?_)
         | (refine idFA ?_
            first
            | refine WO_fieldAddr0 rfl rfl ?_
            | refine WO_fieldAddr rfl rfl ?_)
         | (refine idLd ?_
            first
            | refine WO_loadB rfl (by assumption) (by rfl) ?_
            | refine WO_load1 rfl (by assumption) ?_)
         | (refine idPk ?_
            first
            | refine WO_p (q_pickT rfl (by first | (with_reducible rfl) | decide) rfl) ?_
            | refine WO_p (q_pickF rfl (by first | (with_reducible rfl) | decide) rfl) ?_)
         | (refine idBi ?_
            first
            | refine WO_lenSl rfl ?_
            | refine WO_lenStr rfl ?_)
         | (refine idBo ?_
            first
            | refine WO_add rfl rfl (by omega) ?_
            | refine WO_sub rfl rfl (by omega) ?_
            | refine WO_mul rfl rfl (by omega) ?_
            | refine WO_rem rfl rfl (by omega) (by omega) ?_
            | refine WO_quo rfl rfl (by omega) (by omega) (by omega) ?_
            | refine WO_p (q_neBool rfl rfl) ?_
            | refine WO_p (q_eqBool rfl rfl) ?_)
         | (refine idCv ?_; refine WO_p (q_convert rfl (wrap_i64_in ⟨by omega, by omega⟩)) ?_)
         | (refine idBuild ?_; refine WO_p (q_build rfl (by rfl) (by simp only [fillS, List.set_cons_zero, List.set_cons_succ]; rfl)) ?_)
         | refine WO_nil ?_)
      | (refine idAt ?_
         first
         | refine at_next ?_
         | refine at_block ?_
         | refine at_next_exit ?_
         | refine at_next_ret ?_
         | refine at_block_exit ?_
         | refine at_block_other rfl ?_
         | refine at_block_ret ?_
         | refine at_loop_exit ?_
         | refine at_loop_ret ?_)
      | (refine idW ?_
         first
         | refine W_seq ?_
         | refine W_region ?_
         | refine W_block ?_
         | refine W_skip ?_
         | refine W_exit ?_
         | refine W_ret ?_
         | refine W_condT rfl (by first | (with_reducible rfl) | decide) ?_
         | refine W_condF rfl (by first | (with_reducible rfl) | decide) ?_))
    refine at_ret1 rfl rfl ⟨?_, rfl⟩
    unfold typeOfL
    rw [if_pos hv, Int.toNat_natCast, List.getD_eq_getElem?_getD, List.getElem?_eq_getElem hm]
    rfl
  · have hv' : ¬ (0 ≤ v ∧ v ≤ (tl.length : Int) - 1) := by omega
    rw [decide_eq_false hv']
    repeat (first
      | (refine idWO ?_
         first
         | refine WO_simple rfl ?_
         | (refine idG ?_
            first
            | refine WO_yes rfl rfl (by first | (with_reducible rfl) | decide) ?_
            | refine WO_no rfl rfl (by first | (with_reducible rfl) | decide) ?_
            | refine WO_noU rfl rfl ?_)
         | (refine idFA ?_
            first
            | refine WO_fieldAddr0 rfl rfl ?_
            | refine WO_fieldAddr rfl rfl ?_)
         | (refine idLd ?_
            first
            | refine WO_loadB rfl (by assumption) (by rfl) ?_
            | refine WO_load1 rfl (by assumption) ?_)
         | (refine idPk ?_
            first
            | refine WO_p (q_pickT rfl (by first | (with_reducible rfl) | decide) rfl) ?_
            | refine WO_p (q_pickF rfl (by first | (with_reducible rfl) | decide) rfl) ?_)
         | (refine idBi ?_
            first
            | refine WO_lenSl rfl ?_
            | refine WO_lenStr rfl ?_)
         | (refine idBo ?_
            first
            | refine WO_add rfl rfl (by omega) ?_
            | refine WO_sub rfl rfl (by omega) ?_
            | refine WO_mul rfl rfl (by omega) ?_
            | refine WO_rem rfl rfl (by omega) (by omega) ?_
            | refine WO_quo rfl rfl (by omega) (by omega) (by omega) ?_
            | refine WO_p (q_neBool rfl rfl) ?_
            | refine WO_p (q_eqBool rfl rfl) ?_)
         | (refine idCv ?_; refine WO_p (q_convert rfl (wrap_i64_in ⟨by omega, by omega⟩)) ?_)
         | (refine idBuild ?_; refine WO_p (q_build rfl (by rfl) (by simp only [fillS, List.set_cons_zero, List.set_cons_succ]; rfl)) ?_)
         | refine WO_nil ?_)
      | (refine idAt ?_
         first
         | refine at_next ?_
         | refine at_block ?_
         | refine at_next_exit ?_
         | refine at_next_ret ?_
         | refine at_block_exit ?_
         | refine at_block_other rfl ?_
         | refine at_block_ret ?_
         | refine at_loop_exit ?_
         | refine at_loop_ret ?_)
      | (refine idW ?_
         first
         | refine W_seq ?_
         | refine W_region ?_
         | refine W_block ?_
         | refine W_skip ?_
         | refine W_exit ?_
         | refine W_ret ?_
         | refine W_condT rfl (by first | (with_reducible rfl) | decide) ?_
         | refine W_condF rfl (by first | (with_reducible rfl) | decide) ?_))
    refine at_ret1 rfl rfl ⟨?_, rfl⟩
    unfold typeOfL
    rw [if_neg hv]
theorem isHolder_ret (t : Int) (w : World) : Ret Try.prog 41 [.int .i64 t] w fun v w' => v = .bool (decide (t = 2 ∨ t = 3 ∨ t = 4)) ∧ w' = w := by
  refine enter Try.func41 rfl Try.ntmps41 rfl rfl ?_
  repeat' (first
    | (refine idWO ?_
       first
       | refine WO_simple rfl ?_
       | (refine idG ?_
          first
          | refine WO_yes rfl rfl (by first | (with_reducible rfl) | decide) ?_
          | refine WO_no rfl rfl (by first | (with_reducible rfl) | decide) ?_
          | refine WO_noU rfl rfl ?_
          | ((refine WO_split rfl rfl (fun c' hc' => ?_)); cases c' <;> (try simp only [decide_eq_true_eq, decide_eq_false_iff_not, beq_iff_eq, beq_eq_false_iff_ne, bne_iff_ne, bne_eq_false_iff_eq, ne_eq, gt_iff_lt, ge_iff_le, Int.not_lt, Int.not_le, Bool.not_eq_true', Bool.not_eq_false', Bool.not_true, Bool.not_false, reduceCtorEq, Decidable.not_not, Bool.true_eq_false, Bool.false_eq_true] at hc') <;> (try (exfalso; omega))))
       | (refine idFA ?_
          first
          | refine WO_fieldAddr0 rfl rfl ?_
          | refine WO_fieldAddr rfl rfl ?_)
       | (refine idLd ?_
          first
          | refine WO_loadB rfl (by assumption) (by rfl) ?_
          | refine WO_load1 rfl (by assumption) ?_)
       | (refine idPk ?_
          first
          | refine WO_p (q_pickT rfl (by first | (with_reducible rfl) | decide) rfl) ?_
          | refine WO_p (q_pickF rfl (by first | (with_reducible rfl) | decide) rfl) ?_)
       | (refine idBi ?_
          first
          | refine WO_lenSl rfl ?_
          | refine WO_lenStr rfl ?_)
       | (refine idBo ?_
          first
          | refine WO_add rfl rfl (by omega) ?_
          | refine WO_sub rfl rfl (by omega) ?_
          | refine WO_mul rfl rfl (by omega) ?_
          | refine WO_rem rfl rfl (by omega) (by omega) ?_
          | refine WO_quo rfl rfl (by omega) (by omega) (by omega) ?_
          | refine WO_p (q_neBool rfl rfl) ?_
          | refine WO_p (q_eqBool rfl rfl) ?_)
       | (refine idCv ?_; refine WO_p (q_convert rfl (wrap_i64_in ⟨by omega, by omega⟩)) ?_)
       | (refine idBuild ?_; refine WO_p (q_build rfl (by rfl) (by simp only [fillS, List.set_cons_zero, List.set_cons_succ]; rfl)) ?_)
       | refine WO_nil ?_)
    | (refine idAt ?_
       first
       | refine at_next ?_
       | refine at_block ?_
       | refine at_next_exit ?_
       | refine at_next_ret ?_
       | refine at_block_exit ?_
       | refine at_block_other rfl ?_
       | refine at_block_ret ?_
       | refine at_loop_exit ?_
       | refine at_loop_ret ?_)
    | (refine idW ?_
       first
       | refine W_seq ?_
       | refine W_region ?_
       | refine W_block ?_
       | refine W_skip ?_
       | refine W_exit ?_
       | refine W_ret ?_
       | refine W_condT rfl (by first | (with_reducible rfl) | decide) ?_
       | refine W_condF rfl (by first | (with_reducible rfl) | decide) ?_
       | ((refine W_cond rfl (fun hc' => ?_) (fun hc' => ?_)) <;> (try simp only [decide_eq_true_eq, decide_eq_false_iff_not, beq_iff_eq, beq_eq_false_iff_ne, bne_iff_ne, bne_eq_false_iff_eq, ne_eq, gt_iff_lt, ge_iff_le, Int.not_lt, Int.not_le, Bool.not_eq_true', Bool.not_eq_false', Bool.not_true, Bool.not_false, reduceCtorEq, Decidable.not_not, Bool.true_eq_false, Bool.false_eq_true] at hc') <;> (try (exfalso; omega)))))
  all_goals first
    | (refine at_ret1 rfl rfl ⟨?_, rfl⟩; refine congrArg Value.bool ?_; rw [Bool.eq_iff_iff]; simp <;> omega)
    | (refine WO_call rfl (isReference_ret t w) ?_
       rintro v w' ⟨rfl, rfl⟩
       repeat (first
         | (refine idWO ?_
            first
            | refine WO_simple rfl ?_
            | (refine idG ?_
               first
               | refine WO_yes rfl rfl (by first | (with_reducible rfl) | decide) ?_
               | refine WO_no rfl rfl (by first | (with_reducible rfl) | decide) ?_
               | refine WO_noU rfl rfl ?_)
            | (refine idFA ?_
               first
               | refine WO_fieldAddr0 rfl rfl ?_
               | refine WO_fieldAddr rfl rfl ?_)
            | (refine idLd ?_
               first
               | refine WO_loadB rfl (by assumption) (by rfl) ?_
               | refine WO_load1 rfl (by assumption) ?_)
            | (refine idPk ?_
               first
               | refine WO_p (q_pickT rfl (by first | (with_reducible rfl) | decide) rfl) ?_
               | refine WO_p (q_pickF rfl (by first | (with_reducible rfl) | decide) rfl) ?_)
            | (refine idBi ?_
               first
               | refine WO_lenSl rfl ?_
               | refine WO_lenStr rfl ?_)
            | (refine idBo ?_
               first
               | refine WO_add rfl rfl (by omega) ?_
               | refine WO_sub rfl rfl (by omega) ?_
               | refine WO_mul rfl rfl (by omega) ?_
               | refine WO_rem rfl rfl (by omega) (by omega) ?_
               | refine WO_quo rfl rfl (by omega) (by omega) (by omega) ?_
               | refine WO_p (q_neBool rfl rfl) ?_
               | refine WO_p (q_eqBool rfl rfl) ?_)
            | (refine idCv ?_; refine WO_p (q_convert rfl (wrap_i64_in ⟨by omega, by omega⟩)) ?_)
            | (refine idBuild ?_; refine WO_p (q_build rfl (by rfl) (by simp only [fillS, List.set_cons_zero, List.set_cons_succ]; rfl)) ?_)
            | refine WO_nil ?_)
         | (refine idAt ?_
            first
            | refine at_next ?_
            | refine at_block ?_
            | refine at_next_exit ?_
            | refine at_next_ret ?_
            | refine at_block_exit ?_
            | refine at_block_other rfl ?_
            | refine at_block_ret ?_
            | refine at_loop_exit ?_
            | refine at_loop_ret ?_)
         | (refine idW ?_
            first
            | refine W_seq ?_
            | refine W_region ?_
            | refine W_block ?_
            | refine W_skip ?_
            | refine W_exit ?_
            | refine W_ret ?_
            | refine W_condT rfl (by first | (with_reducible rfl) | decide) ?_
            | refine W_condF rfl (by first | (with_reducible rfl) | decide) ?_))
       refine at_ret1 rfl rfl ⟨?_, rfl⟩; refine congrArg Value.bool ?_; rw [Bool.eq_iff_iff]; simp <;> omega)
theorem isBranch_ret (t : Int) (w : World) : Ret Try.prog 36 [.int .i64 t] w fun v w' => v = .bool (decide (t = 9 ∨ t = 10)) ∧ w' = w := by
  refine enter Try.func36 rfl Try.ntmps36 rfl rfl ?_
  repeat' (first
    | (refine idWO ?_
       first
       | refine WO_simple rfl ?_
       | (refine idG ?_
          first
          | refine WO_yes rfl rfl (by first | (with_reducible rfl) | decide) ?_
          | refine WO_no rfl rfl (by first | (with_reducible rfl) | decide) ?_
          | refine WO_noU rfl rfl ?_
          | ((refine WO_split rfl rfl (fun c' hc' => ?_)); cases c' <;> (try simp only [decide_eq_true_eq, decide_eq_false_iff_not, beq_iff_eq, beq_eq_false_iff_ne, bne_iff_ne, bne_eq_false_iff_eq, ne_eq, gt_iff_lt, ge_iff_le, Int.not_lt, Int.not_le, Bool.not_eq_true', Bool.not_eq_false', Bool.not_true, Bool.not_false, reduceCtorEq, Decidable.not_not, Bool.true_eq_false, Bool.false_eq_true] at hc') <;> (try (exfalso; omega))))
       | (refine idFA ?_
          first
          | refine WO_fieldAddr0 rfl rfl ?_
          | refine WO_fieldAddr rfl rfl ?_)
       | (refine idLd ?_
          first
          | refine WO_loadB rfl (by assumption) (by rfl) ?_
          | refine WO_load1 rfl (by assumption) ?_)
       | (refine idPk ?_
          first
          | refine WO_p (q_pickT rfl (by first | (with_reducible rfl) | decide) rfl) ?_
          | refine WO_p (q_pickF rfl (by first | (with_reducible rfl) | decide) rfl) ?_)
       | (refine idBi ?_
          first
          | refine WO_lenSl rfl ?_
          | refine WO_lenStr rfl ?_)
       | (refine idBo ?_
          first
          | refine WO_add rfl rfl (by omega) ?_
          | refine WO_sub rfl rfl (by omega) ?_
          | refine WO_mul rfl rfl (by omega) ?_
          | refine WO_rem rfl rfl (by omega) (by omega) ?_
          | refine WO_quo rfl rfl (by omega) (by omega) (by omega) ?_
          | refine WO_p (q_neBool rfl rfl) ?_
          | refine WO_p (q_eqBool rfl rfl) ?_)
       | (refine idCv ?_; refine WO_p (q_convert rfl (wrap_i64_in ⟨by omega, by omega⟩)) ?_)
       | (refine idBuild ?_; refine WO_p (q_build rfl (by rfl) (by simp only [fillS, List.set_cons_zero, List.set_cons_succ]; rfl)) ?_)
       | refine WO_nil ?_)
    | (refine idAt ?_
       first
       | refine at_next ?_
       | refine at_block ?_
       | refine at_next_exit ?_
       | refine at_next_ret ?_
       | refine at_block_exit ?_
       | refine at_block_other rfl ?_
       | refine at_block_ret ?_
       | refine at_loop_exit ?_
       | refine at_loop_ret ?_)
    | (refine idW ?_
       first
       | refine W_seq ?_
       | refine W_region ?_
       | refine W_block ?_
       | refine W_skip ?_
       | refine W_exit ?_
       | refine W_ret ?_
       | refine W_condT rfl (by first | (with_reducible rfl) | decide) ?_
       | refine W_condF rfl (by first | (with_reducible rfl) | decide) ?_
       | ((refine W_cond rfl (fun hc' => ?_) (fun hc' => ?_)) <;> (try simp only [decide_eq_true_eq, decide_eq_false_iff_not, beq_iff_eq, beq_eq_false_iff_ne, bne_iff_ne, bne_eq_false_iff_eq, ne_eq, gt_iff_lt, ge_iff_le, Int.not_lt, Int.not_le, Bool.not_eq_true', Bool.not_eq_false', Bool.not_true, Bool.not_false, reduceCtorEq, Decidable.not_not, Bool.true_eq_false, Bool.false_eq_true] at hc') <;> (try (exfalso; omega)))))
  all_goals (refine at_ret1 rfl rfl ⟨?_, rfl⟩; refine congrArg Value.bool ?_; rw [Bool.eq_iff_iff]; simp <;> omega)
set_option maxHeartbeats 2000000 in
theorem simpleOk_ret (tv : Value) (tl : List Int) (F : List Nat) (op x y n : Int) (lt le ct ce : Nat) (At Ae : Option Addr) (w : World) (h : IntF w tv tl F) (hlt : lt ≤ maxI * 2 - 1) (hle : le ≤ maxI * 2 - 1) :
    Ret Try.prog 37 [tv, stV op x y n (.slice At lt ct) (.slice Ae le ce)] w fun r w' => r = .bool (decide (SimpleP tl op x y n lt le)) ∧ Ext w w' := by
  refine enter Try.func37 rfl Try.ntmps37 rfl rfl ?_
  repeat (first
    | (refine idWO ?_
       first
       | refine WO_simple rfl ?_
       | (refine idG ?_
          first
          | refine WO_yes rfl rfl (by first | (with_reducible rfl) | decide) ?_
          | refine WO_no rfl rfl (by first | (with_reducible rfl) | decide) ?_
          | refine WO_noU rfl rfl ?_)
       | (refine idFA ?_
          first
          | refine WO_fieldAddr0 rfl rfl ?_
          | refine WO_fieldAddr rfl rfl ?_)
       | (refine idLd ?_
          first
          | refine WO_loadB rfl (by assumption) (by rfl) ?_
          | refine WO_load1 rfl (by assumption) ?_)
       | (refine idPk ?_
          first
          | refine WO_p (q_pickT rfl (by first | (with_reducible rfl) | decide) rfl) ?_
          | refine WO_p (q_pickF rfl (by first | (with_reducible rfl) | decide) rfl) ?_)
       | (refine idBi ?_
          first
          | refine WO_lenSl rfl ?_
          | refine WO_lenStr rfl ?_)
       | (refine idBo ?_
          first
          | refine WO_add rfl rfl (by omega) ?_
          | refine WO_sub rfl rfl (by omega) ?_
          | refine WO_mul rfl rfl (by omega) ?_
          | refine WO_rem rfl rfl (by omega) (by omega) ?_
          | refine WO_quo rfl rfl (by omega) (by omega) (by omega) ?_
          | refine WO_p (q_neBool rfl rfl) ?_
          | refine WO_p (q_eqBool rfl rfl) ?_)
       | (refine idCv ?_; refine WO_p (q_convert rfl (wrap_i64_in ⟨by omega, by omega⟩)) ?_)
       | (refine idBuild ?_; refine WO_p (q_build rfl (by rfl) (by simp only [fillS, List.set_cons_zero, List.set_cons_succ]; rfl)) ?_)
       | refine WO_nil ?_)
    | (refine idAt ?_
       first
       | refine at_next ?_
       | refine at_block ?_
       | refine at_next_exit ?_
       | refine at_next_ret ?_
       | refine at_block_exit ?_
       | refine at_block_other rfl ?_
       | refine at_block_ret ?_
       | refine at_loop_exit ?_
       | refine at_loop_ret ?_)
    | (refine idW ?_
       first
       | refine W_seq ?_
       | refine W_region ?_
       | refine W_block ?_
       | refine W_skip ?_
       | refine W_exit ?_
       | refine W_ret ?_
       | refine W_condT rfl (by first | (with_reducible rfl) | decide) ?_
       | refine W_condF rfl (by first | (with_reducible rfl) | decide) ?_))
  refine WO_box rfl fun w1 hb he hz => ?_
  simp only [stV, Value.cells] at hb
  have h1 := h.ext he
  repeat (first
    | (refine idWO ?_
       first
       | refine WO_simple rfl ?_
       | (refine idG ?_
          first
          | refine WO_yes rfl rfl (by first | (with_reducible rfl) | decide) ?_
          | refine WO_no rfl rfl (by first | (with_reducible rfl) | decide) ?_
          | refine WO_noU rfl rfl ?_)
       | (refine idFA ?_
          first
          | refine WO_fieldAddr0 rfl rfl ?_
          | refine WO_fieldAddr rfl rfl ?_)
       | (refine idLd ?_
          first
          | refine WO_loadB rfl (by assumption) (by rfl) ?_
          | refine WO_load1 rfl (by assumption) ?_)
       | (refine idPk ?_
          first
          | refine WO_p (q_pickT rfl (by first | (with_reducible rfl) | decide) rfl) ?_
          | refine WO_p (q_pickF rfl (by first | (with_reducible rfl) | decide) rfl) ?_)
       | (refine idBi ?_
          first
          | refine WO_lenSl rfl ?_
          | refine WO_lenStr rfl ?_)
       | (refine idBo ?_
          first
          | refine WO_add rfl rfl (by omega) ?_
          | refine WO_sub rfl rfl (by omega) ?_
          | refine WO_mul rfl rfl (by omega) ?_
          | refine WO_rem rfl rfl (by omega) (by omega) ?_
          | refine WO_quo rfl rfl (by omega) (by omega) (by omega) ?_
          | refine WO_p (q_neBool rfl rfl) ?_
          | refine WO_p (q_eqBool rfl rfl) ?_)
       | (refine idCv ?_; refine WO_p (q_convert rfl (wrap_i64_in ⟨by omega, by omega⟩)) ?_)
       | (refine idBuild ?_; refine WO_p (q_build rfl (by rfl) (by simp only [fillS, List.set_cons_zero, List.set_cons_succ]; rfl)) ?_)
       | refine WO_nil ?_)
    | (refine idAt ?_
       first
       | refine at_next ?_
       | refine at_block ?_
       | refine at_next_exit ?_
       | refine at_next_ret ?_
       | refine at_block_exit ?_
       | refine at_block_other rfl ?_
       | refine at_block_ret ?_
       | refine at_loop_exit ?_
       | refine at_loop_ret ?_)
    | (refine idW ?_
       first
       | refine W_seq ?_
       | refine W_region ?_
       | refine W_block ?_
       | refine W_skip ?_
       | refine W_exit ?_
       | refine W_ret ?_
       | refine W_condT rfl (by first | (with_reducible rfl) | decide) ?_
       | refine W_condF rfl (by first | (with_reducible rfl) | decide) ?_))
  refine W_quiet (by kernel_rfl) (by kernel_rfl) ?_
  repeat' (first
    | refine WQ_p (q_simple rfl) ?_
    | (refine iqG ?_
       first
       | refine WQ_yes rfl rfl (by first | (with_reducible rfl) | decide) ?_
       | refine WQ_no rfl rfl (by first | (with_reducible rfl) | decide) ?_
       | refine WQ_noU rfl rfl ?_
       | ((refine WQ_split rfl rfl (fun c' hc' => ?_)); cases c' <;> (try simp only [decide_eq_true_eq, decide_eq_false_iff_not, beq_iff_eq, beq_eq_false_iff_ne, bne_iff_ne, bne_eq_false_iff_eq, ne_eq, gt_iff_lt, ge_iff_le, Int.not_lt, Int.not_le, Bool.not_eq_true', Bool.not_eq_false', Bool.not_true, Bool.not_false, reduceCtorEq, Decidable.not_not, Bool.true_eq_false, Bool.false_eq_true] at hc') <;> (try (exfalso; omega))))
    | (refine iqFA ?_
       first
       | refine WQ_p (q_fieldAddr0 rfl rfl) ?_
       | refine WQ_p (q_fieldAddr rfl rfl) ?_)
    | (refine iqLd ?_
       first
       | refine WQ_p (q_loadB rfl (by assumption) (by rfl)) ?_
       | refine WQ_p (q_load1 rfl (by assumption)) ?_)
    | (refine iqIA ?_; refine WQ_p (q_indexAddr rfl rfl rfl (by omega)) ?_)
    | (refine iqPk ?_
       first
       | refine WQ_p (q_pickT rfl (by first | (with_reducible rfl) | decide) rfl) ?_
       | refine WQ_p (q_pickF rfl (by first | (with_reducible rfl) | decide) rfl) ?_)
    | (refine iqBi ?_
       first
       | refine WQ_p (q_lenSl rfl) ?_
       | refine WQ_p (q_lenStr rfl) ?_)
    | (refine iqBo ?_
       first
       | refine WQ_p (q_add rfl rfl (by omega)) ?_
       | refine WQ_p (q_sub rfl rfl (by omega)) ?_
       | refine WQ_p (q_mul rfl rfl (by omega)) ?_
       | refine WQ_p (q_rem rfl rfl (by omega) (by omega)) ?_
       | refine WQ_p (q_quo rfl rfl (by omega) (by omega) (by omega)) ?_
       | refine WQ_p (q_neBool rfl rfl) ?_
       | refine WQ_p (q_eqBool rfl rfl) ?_)
    | (refine iqCv ?_; refine WQ_p (q_convert rfl (wrap_i64_in ⟨by omega, by omega⟩)) ?_)
    | refine WQ_end fun w' hw' => ?_)
  refine WQ_call rfl (fun w' hw' => (typeOf_ret tv tl F x w' (h1.ext hw')).mono (by rintro u w'' ⟨rfl, rfl⟩; exact ⟨rfl, Ext.refl _⟩)) ?_
  repeat' (first
    | refine WQ_p (q_simple rfl) ?_
    | (refine iqG ?_
       first
       | refine WQ_yes rfl rfl (by first | (with_reducible rfl) | decide) ?_
       | refine WQ_no rfl rfl (by first | (with_reducible rfl) | decide) ?_
       | refine WQ_noU rfl rfl ?_
       | ((refine WQ_split rfl rfl (fun c' hc' => ?_)); cases c' <;> (try simp only [decide_eq_true_eq, decide_eq_false_iff_not, beq_iff_eq, beq_eq_false_iff_ne, bne_iff_ne, bne_eq_false_iff_eq, ne_eq, gt_iff_lt, ge_iff_le, Int.not_lt, Int.not_le, Bool.not_eq_true', Bool.not_eq_false', Bool.not_true, Bool.not_false, reduceCtorEq, Decidable.not_not, Bool.true_eq_false, Bool.false_eq_true] at hc') <;> (try (exfalso; omega))))
    | (refine iqFA ?_
       first
       | refine WQ_p (q_fieldAddr0 rfl rfl) ?_
       | refine WQ_p (q_fieldAddr rfl rfl) ?_)
    | (refine iqLd ?_
       first
       | refine WQ_p (q_loadB rfl (by assumption) (by rfl)) ?_
       | refine WQ_p (q_load1 rfl (by assumption)) ?_)
    | (refine iqIA ?_; refine WQ_p (q_indexAddr rfl rfl rfl (by omega)) ?_)
    | (refine iqPk ?_
       first
       | refine WQ_p (q_pickT rfl (by first | (with_reducible rfl) | decide) rfl) ?_
       | refine WQ_p (q_pickF rfl (by first | (with_reducible rfl) | decide) rfl) ?_)
    | (refine iqBi ?_
       first
       | refine WQ_p (q_lenSl rfl) ?_
       | refine WQ_p (q_lenStr rfl) ?_)
    | (refine iqBo ?_
       first
       | refine WQ_p (q_add rfl rfl (by omega)) ?_
       | refine WQ_p (q_sub rfl rfl (by omega)) ?_
       | refine WQ_p (q_mul rfl rfl (by omega)) ?_
       | refine WQ_p (q_rem rfl rfl (by omega) (by omega)) ?_
       | refine WQ_p (q_quo rfl rfl (by omega) (by omega) (by omega)) ?_
       | refine WQ_p (q_neBool rfl rfl) ?_
       | refine WQ_p (q_eqBool rfl rfl) ?_)
    | (refine iqCv ?_; refine WQ_p (q_convert rfl (wrap_i64_in ⟨by omega, by omega⟩)) ?_)
    | refine WQ_end fun w' hw' => ?_)
  refine WQ_call rfl (fun w' hw' => (typeOf_ret tv tl F y w' (h1.ext hw')).mono (by rintro u w'' ⟨rfl, rfl⟩; exact ⟨rfl, Ext.refl _⟩)) ?_
  repeat' (first
    | refine WQ_p (q_simple rfl) ?_
    | (refine iqG ?_
       first
       | refine WQ_yes rfl rfl (by first | (with_reducible rfl) | decide) ?_
       | refine WQ_no rfl rfl (by first | (with_reducible rfl) | decide) ?_
       | refine WQ_noU rfl rfl ?_
       | ((refine WQ_split rfl rfl (fun c' hc' => ?_)); cases c' <;> (try simp only [decide_eq_true_eq, decide_eq_false_iff_not, beq_iff_eq, beq_eq_false_iff_ne, bne_iff_ne, bne_eq_false_iff_eq, ne_eq, gt_iff_lt, ge_iff_le, Int.not_lt, Int.not_le, Bool.not_eq_true', Bool.not_eq_false', Bool.not_true, Bool.not_false, reduceCtorEq, Decidable.not_not, Bool.true_eq_false, Bool.false_eq_true] at hc') <;> (try (exfalso; omega))))
    | (refine iqFA ?_
       first
       | refine WQ_p (q_fieldAddr0 rfl rfl) ?_
       | refine WQ_p (q_fieldAddr rfl rfl) ?_)
    | (refine iqLd ?_
       first
       | refine WQ_p (q_loadB rfl (by assumption) (by rfl)) ?_
       | refine WQ_p (q_load1 rfl (by assumption)) ?_)
    | (refine iqIA ?_; refine WQ_p (q_indexAddr rfl rfl rfl (by omega)) ?_)
    | (refine iqPk ?_
       first
       | refine WQ_p (q_pickT rfl (by first | (with_reducible rfl) | decide) rfl) ?_
       | refine WQ_p (q_pickF rfl (by first | (with_reducible rfl) | decide) rfl) ?_)
    | (refine iqBi ?_
       first
       | refine WQ_p (q_lenSl rfl) ?_
       | refine WQ_p (q_lenStr rfl) ?_)
    | (refine iqBo ?_
       first
       | refine WQ_p (q_add rfl rfl (by omega)) ?_
       | refine WQ_p (q_sub rfl rfl (by omega)) ?_
       | refine WQ_p (q_mul rfl rfl (by omega)) ?_
       | refine WQ_p (q_rem rfl rfl (by omega) (by omega)) ?_
       | refine WQ_p (q_quo rfl rfl (by omega) (by omega) (by omega)) ?_
       | refine WQ_p (q_neBool rfl rfl) ?_
       | refine WQ_p (q_eqBool rfl rfl) ?_)
    | (refine iqCv ?_; refine WQ_p (q_convert rfl (wrap_i64_in ⟨by omega, by omega⟩)) ?_)
    | refine WQ_end fun w' hw' => ?_)
  replace hb := hb.ext hw'
  have hx := he.trans hw'
  clear h1 he hz h
  repeat' (first
    | first
        | (refine idWO ?_
           first
           | refine WO_simple rfl ?_
           | (refine idG ?_
              first
              | refine WO_yes rfl rfl (by first | (with_reducible rfl) | decide) ?_
              | refine WO_no rfl rfl (by first | (with_reducible rfl) | decide) ?_
              | refine WO_noU rfl rfl ?_
              | ((refine WO_split rfl rfl (fun c' hc' => ?_)); cases c' <;> (try simp only [decide_eq_true_eq, decide_eq_false_iff_not, beq_iff_eq, beq_eq_false_iff_ne, bne_iff_ne, bne_eq_false_iff_eq, ne_eq, gt_iff_lt, ge_iff_le, Int.not_lt, Int.not_le, Bool.not_eq_true', Bool.not_eq_false', Bool.not_true, Bool.not_false, reduceCtorEq, Decidable.not_not, Bool.true_eq_false, Bool.false_eq_true] at hc') <;> (try (exfalso; omega))))
           | (refine idFA ?_
              first
              | refine WO_fieldAddr0 rfl rfl ?_
              | refine WO_fieldAddr rfl rfl ?_)
           | (refine idLd ?_
              first
              | refine WO_loadB rfl (by assumption) (by rfl) ?_
              | refine WO_load1 rfl (by assumption) ?_)
           | (refine idPk ?_
              first
              | refine WO_p (q_pickT rfl (by first | (with_reducible rfl) | decide) rfl) ?_
              | refine WO_p (q_pickF rfl (by first | (with_reducible rfl) | decide) rfl) ?_)
           | (refine idBi ?_
              first
              | refine WO_lenSl rfl ?_
              | refine WO_lenStr rfl ?_)
           | (refine idBo ?_
              first
              | refine WO_add rfl rfl (by omega) ?_
              | refine WO_sub rfl rfl (by omega) ?_
              | refine WO_mul rfl rfl (by omega) ?_
              | refine WO_rem rfl rfl (by omega) (by omega) ?_
              | refine WO_quo rfl rfl (by omega) (by omega) (by omega) ?_
              | refine WO_p (q_neBool rfl rfl) ?_
              | refine WO_p (q_eqBool rfl rfl) ?_)
           | (refine idCv ?_; refine WO_p (q_convert rfl (wrap_i64_in ⟨by omega, by omega⟩)) ?_)
           | (refine idBuild ?_; refine WO_p (q_build rfl (by rfl) (by simp only [fillS, List.set_cons_zero, List.set_cons_succ]; rfl)) ?_)
           | refine WO_nil ?_)
        | (refine idAt ?_
           first
           | refine at_next ?_
           | refine at_block ?_
           | refine at_next_exit ?_
           | refine at_next_ret ?_
           | refine at_block_exit ?_
           | refine at_block_other rfl ?_
           | refine at_block_ret ?_
           | refine at_loop_exit ?_
           | refine at_loop_ret ?_)
        | (refine idW ?_
           first
           | refine W_seq ?_
           | refine W_region ?_
           | refine W_block ?_
           | refine W_skip ?_
           | refine W_exit ?_
           | refine W_ret ?_
           | refine W_condT rfl (by first | (with_reducible rfl) | decide) ?_
           | refine W_condF rfl (by first | (with_reducible rfl) | decide) ?_
           | ((refine W_cond rfl (fun hc' => ?_) (fun hc' => ?_)) <;> (try simp only [decide_eq_true_eq, decide_eq_false_iff_not, beq_iff_eq, beq_eq_false_iff_ne, bne_iff_ne, bne_eq_false_iff_eq, ne_eq, gt_iff_lt, ge_iff_le, Int.not_lt, Int.not_le, Bool.not_eq_true', Bool.not_eq_false', Bool.not_true, Bool.not_false, reduceCtorEq, Decidable.not_not, Bool.true_eq_false, Bool.false_eq_true] at hc') <;> (try (exfalso; omega))))
    | (refine WO_call rfl (within_ret _ _ _ _) ?_; rintro _ _ ⟨rfl, rfl⟩)
    | (refine WO_call rfl (isHolder_ret _ _) ?_; rintro _ _ ⟨rfl, rfl⟩))
  all_goals refine at_ret1 rfl rfl ⟨congrArg Value.bool (bool_dec ?_), hx⟩
  all_goals unfold SimpleP
  all_goals clear hb hx
  all_goals (simp only [beq_iff_eq, bne_iff_ne, decide_eq_true_eq, ne_eq, Bool.false_eq_true, false_iff]; omega)
end Go.Proofs.Ytlikmgdggdapiaa
