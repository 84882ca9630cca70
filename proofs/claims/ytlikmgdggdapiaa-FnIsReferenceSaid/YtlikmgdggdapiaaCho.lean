/-
  What is proved here: what the program's and the reference's functions on numbers of lists of choices compute (within, isLength, choicesOf, ChoicesOf; l8Runs, l8Choices, ChoicesOf), IsReference, SmallTests.
-/
import Derived.Test.YtlikmgdggdapiaaInts
namespace Go.Proofs.Ytlikmgdggdapiaa
set_option linter.unusedVariables false
set_option linter.unusedSimpArgs false
set_option linter.unnecessarySimpa false
open Go.RowKit

/-- The result is a slice of numbers in new memory. -/
def NewInts (l : List Int) (w : World) (v : Value) (w' : World) : Prop := (∃ F, OwnI w' v l F ∧ ∀ b ∈ F, w.heap.size ≤ b) ∧ Ext w w'

theorem within_ret (n l h : Int) (w : World) : Ret Try.prog 27 [.int .i64 n, .int .i64 l, .int .i64 h] w fun v w' => v = .bool (decide (l ≤ n ∧ n ≤ h)) ∧ w' = w := by
  refine enter Try.func27 rfl Try.ntmps27 rfl rfl ?_
  repeat' (first
    | (refine idWO ?_
       first
       | refine WO_simple rfl ?_
       | (refine idG ?_
          first
          | refine WO_yes rfl rfl (by first | (with_reducible rfl) | decide) ?_
          | refine WO_no rfl rfl (by first | (with_reducible rfl) | decide) ?_
          | refine WO_noU rfl rfl ?_
          | ((refine WO_split rfl rfl (fun c' hc' => ?_)); cases c' <;> (try simp only [decide_eq_true_eq, decide_eq_false_iff_not, beq_iff_eq, beq_eq_false_iff_ne, bne_iff_ne, bne_eq_false_iff_eq, ne_eq, gt_iff_lt, ge_iff_le, Int.not_lt, Int.not_le, Bool.not_eq_true', Bool.not_eq_false', Bool.not_true, Bool.not_false, reduceCtorEq, Decidable.not_not, Bool.true_eq_false, Bool.false_eq_true] at hc') <;> (try (exfalso; omega))))
       | (refine idFA ?_
          first
          | refine WO_fieldAddr0 rfl rfl ?_
          | refine WO_fieldAddr rfl rfl ?_)
       | (refine idLd ?_
          first
          | refine WO_loadB rfl (by assumption) (by rfl) ?_
          | refine WO_load1 rfl (by assumption) ?_)
       | (refine idPk ?_
          first
          | refine WO_p (q_pickT rfl (by first | (with_reducible rfl) | decide) rfl) ?_
          | refine WO_p (q_pickF rfl (by first | (with_reducible rfl) | decide) rfl) ?_)
       | (refine idBi ?_
          first
          | refine WO_lenSl rfl ?_
          | refine WO_lenStr rfl ?_)
       | (refine idBo ?_
          first
          | refine WO_add rfl rfl (by omega) ?_
          | refine WO_sub rfl rfl (by omega) ?_
          | refine WO_mul rfl rfl (by omega) ?_
          | refine WO_rem rfl rfl (by omega) (by omega) ?_
          | refine WO_quo rfl rfl (by omega) (by omega) (by omega) ?_
          | refine WO_p (q_neBool rfl rfl) ?_
          | refine WO_p (q_eqBool rfl rfl) ?_)
       | (refine idCv ?_; refine WO_p (q_convert rfl (wrap_i64_in ⟨by omega, by omega⟩)) ?_)
       | (refine idBuild ?_; refine WO_p (q_build rfl (by rfl) (by simp only [fillS, List.set_cons_zero, List.set_cons_succ]; rfl)) ?_)
       | refine WO_nil ?_)
    | (refine idAt ?_
       first
       | refine at_next ?_
       | refine at_block ?_
       | refine at_next_exit ?_
       | refine at_next_ret ?_
       | refine at_block_exit ?_
       | refine at_block_other rfl ?_
       | refine at_block_ret ?_
       | refine at_loop_exit ?_
       | refine at_loop_ret ?_)
    | (refine idW ?_
       first
       | refine W_seq ?_
       | refine W_region ?_
       | refine W_block ?_
       | refine W_skip ?_
       | refine W_exit ?_
       | refine W_ret ?_
       | refine W_condT rfl (by first | (with_reducible rfl) | decide) ?_
       | refine W_condF rfl (by first | (with_reducible rfl) | decide) ?_
       | ((refine W_cond rfl (fun hc' => ?_) (fun hc' => ?_)) <;> (try simp only [decide_eq_true_eq, decide_eq_false_iff_not, beq_iff_eq, beq_eq_false_iff_ne, bne_iff_ne, bne_eq_false_iff_eq, ne_eq, gt_iff_lt, ge_iff_le, Int.not_lt, Int.not_le, Bool.not_eq_true', Bool.not_eq_false', Bool.not_true, Bool.not_false, reduceCtorEq, Decidable.not_not, Bool.true_eq_false, Bool.false_eq_true] at hc') <;> (try (exfalso; omega)))))
  all_goals (refine at_ret1 rfl rfl ⟨?_, rfl⟩; refine congrArg Value.bool ?_; rw [Bool.eq_iff_iff]; simp <;> omega)
theorem isLength_ret (n : Int) (w : World) : Ret Try.prog 26 [.int .i64 n] w fun v w' => v = .bool (decide (0 ≤ n ∧ n ≤ 6)) ∧ w' = w := by
  refine enter Try.func26 rfl Try.ntmps26 rfl rfl ?_
  repeat (first
    | (refine idWO ?_
       first
       | refine WO_simple rfl ?_
       | (refine idG ?_
          first
          | refine WO_yes rfl rfl (by first | (with_reducible rfl) | decide) ?_
          | refine WO_no rfl rfl (by first | (with_reducible rfl) | decide) ?_
          | refine WO_noU rfl rfl ?_)
       | (refine idFA ?_
          first
          | refine WO_fieldAddr0 rfl rfl ?_
          | refine WO_fieldAddr rfl rfl ?_)
       | (refine idLd ?_
          first
          | refine WO_loadB rfl (by assumption) (by rfl) ?_
          | refine WO_load1 rfl (by assumption) ?_)
       | (refine idPk ?_
          first
          | refine WO_p (q_pickT rfl (by first | (with_reducible rfl) | decide) rfl) ?_
          | refine WO_p (q_pickF rfl (by first | (with_reducible rfl) | decide) rfl) ?_)
       | (refine idBi ?_
          first
          | refine WO_lenSl rfl ?_
          | refine WO_lenStr rfl ?_)
       | (refine idBo ?_
          first
          | refine WO_add rfl rfl (by omega) ?_
          | refine WO_sub rfl rfl (by omega) ?_
          | refine WO_mul rfl rfl (by omega) ?_
          | refine WO_rem rfl rfl (by omega) (by omega) ?_
          | refine WO_quo rfl rfl (by omega) (by omega) (by omega) ?_
          | refine WO_p (q_neBool rfl rfl) ?_
          | refine WO_p (q_eqBool rfl rfl) ?_)
       | (refine idCv ?_; refine WO_p (q_convert rfl (wrap_i64_in ⟨by omega, by omega⟩)) ?_)
       | (refine idBuild ?_; refine WO_p (q_build rfl (by rfl) (by simp only [fillS, List.set_cons_zero, List.set_cons_succ]; rfl)) ?_)
       | refine WO_nil ?_)
    | (refine idAt ?_
       first
       | refine at_next ?_
       | refine at_block ?_
       | refine at_next_exit ?_
       | refine at_next_ret ?_
       | refine at_block_exit ?_
       | refine at_block_other rfl ?_
       | refine at_block_ret ?_
       | refine at_loop_exit ?_
       | refine at_loop_ret ?_)
    | (refine idW ?_
       first
       | refine W_seq ?_
       | refine W_region ?_
       | refine W_block ?_
       | refine W_skip ?_
       | refine W_exit ?_
       | refine W_ret ?_
       | refine W_condT rfl (by first | (with_reducible rfl) | decide) ?_
       | refine W_condF rfl (by first | (with_reducible rfl) | decide) ?_))
  refine WO_call rfl (within_ret n 0 6 w) ?_
  rintro v w' ⟨rfl, rfl⟩
  repeat (first
    | (refine idWO ?_
       first
       | refine WO_simple rfl ?_
       | (refine idG ?_
          first
          | refine WO_yes rfl rfl (by first | (with_reducible rfl) | decide) ?_
          | refine WO_no rfl rfl (by first | (with_reducible rfl) | decide) ?_
          | refine WO_noU rfl rfl ?_)
       | (refine idFA ?_
          first
          | refine WO_fieldAddr0 rfl rfl ?_
          | refine WO_fieldAddr rfl rfl ?_)
       | (refine idLd ?_
          first
          | refine WO_loadB rfl (by assumption) (by rfl) ?_
          | refine WO_load1 rfl (by assumption) ?_)
       | (refine idPk ?_
          first
          | refine WO_p (q_pickT rfl (by first | (with_reducible rfl) | decide) rfl) ?_
          | refine WO_p (q_pickF rfl (by first | (with_reducible rfl) | decide) rfl) ?_)
       | (refine idBi ?_
          first
          | refine WO_lenSl rfl ?_
          | refine WO_lenStr rfl ?_)
       | (refine idBo ?_
          first
          | refine WO_add rfl rfl (by omega) ?_
          | refine WO_sub rfl rfl (by omega) ?_
          | refine WO_mul rfl rfl (by omega) ?_
          | refine WO_rem rfl rfl (by omega) (by omega) ?_
          | refine WO_quo rfl rfl (by omega) (by omega) (by omega) ?_
          | refine WO_p (q_neBool rfl rfl) ?_
          | refine WO_p (q_eqBool rfl rfl) ?_)
       | (refine idCv ?_; refine WO_p (q_convert rfl (wrap_i64_in ⟨by omega, by omega⟩)) ?_)
       | (refine idBuild ?_; refine WO_p (q_build rfl (by rfl) (by simp only [fillS, List.set_cons_zero, List.set_cons_succ]; rfl)) ?_)
       | refine WO_nil ?_)
    | (refine idAt ?_
       first
       | refine at_next ?_
       | refine at_block ?_
       | refine at_next_exit ?_
       | refine at_next_ret ?_
       | refine at_block_exit ?_
       | refine at_block_other rfl ?_
       | refine at_block_ret ?_
       | refine at_loop_exit ?_
       | refine at_loop_ret ?_)
    | (refine idW ?_
       first
       | refine W_seq ?_
       | refine W_region ?_
       | refine W_block ?_
       | refine W_skip ?_
       | refine W_exit ?_
       | refine W_ret ?_
       | refine W_condT rfl (by first | (with_reducible rfl) | decide) ?_
       | refine W_condF rfl (by first | (with_reducible rfl) | decide) ?_))
  exact at_ret1 rfl rfl ⟨rfl, rfl⟩
theorem isReference_ret (t : Int) (w : World) : Ret Try.prog 10 [.int .i64 t] w fun v w' => v = .bool (decide (t = 3 ∨ t = 4)) ∧ w' = w := by
  refine enter Try.func10 rfl Try.ntmps10 rfl rfl ?_
  repeat' (first
    | (refine idWO ?_
       first
       | refine WO_simple rfl ?_
       | (refine idG ?_
          first
          | refine WO_yes rfl rfl (by first | (with_reducible rfl) | decide) ?_
          | refine WO_no rfl rfl (by first | (with_reducible rfl) | decide) ?_
          | refine WO_noU rfl rfl ?_
          | ((refine WO_split rfl rfl (fun c' hc' => ?_)); cases c' <;> (try simp only [decide_eq_true_eq, decide_eq_false_iff_not, beq_iff_eq, beq_eq_false_iff_ne, bne_iff_ne, bne_eq_false_iff_eq, ne_eq, gt_iff_lt, ge_iff_le, Int.not_lt, Int.not_le, Bool.not_eq_true', Bool.not_eq_false', Bool.not_true, Bool.not_false, reduceCtorEq, Decidable.not_not, Bool.true_eq_false, Bool.false_eq_true] at hc') <;> (try (exfalso; omega))))
       | (refine idFA ?_
          first
          | refine WO_fieldAddr0 rfl rfl ?_
          | refine WO_fieldAddr rfl rfl ?_)
       | (refine idLd ?_
          first
          | refine WO_loadB rfl (by assumption) (by rfl) ?_
          | refine WO_load1 rfl (by assumption) ?_)
       | (refine idPk ?_
          first
          | refine WO_p (q_pickT rfl (by first | (with_reducible rfl) | decide) rfl) ?_
          | refine WO_p (q_pickF rfl (by first | (with_reducible rfl) | decide) rfl) ?_)
       | (refine idBi ?_
          first
          | refine WO_lenSl rfl ?_
          | refine WO_lenStr rfl ?_)
       | (refine idBo ?_
          first
          | refine WO_add rfl rfl (by omega) ?_
          | refine WO_sub rfl rfl (by omega) ?_
          | refine WO_mul rfl rfl (by omega) ?_
          | refine WO_rem rfl rfl (by omega) (by omega) ?_
          | refine WO_quo rfl rfl (by omega) (by omega) (by omega) ?_
          | refine WO_p (q_neBool rfl rfl) ?_
          | refine WO_p (q_eqBool rfl rfl) ?_)
       | (refine idCv ?_; refine WO_p (q_convert rfl (wrap_i64_in ⟨by omega, by omega⟩)) ?_)
       | (refine idBuild ?_; refine WO_p (q_build rfl (by rfl) (by simp only [fillS, List.set_cons_zero, List.set_cons_succ]; rfl)) ?_)
       | refine WO_nil ?_)
    | (refine idAt ?_
       first
       | refine at_next ?_
       | refine at_block ?_
       | refine at_next_exit ?_
       | refine at_next_ret ?_
       | refine at_block_exit ?_
       | refine at_block_other rfl ?_
       | refine at_block_ret ?_
       | refine at_loop_exit ?_
       | refine at_loop_ret ?_)
    | (refine idW ?_
       first
       | refine W_seq ?_
       | refine W_region ?_
       | refine W_block ?_
       | refine W_skip ?_
       | refine W_exit ?_
       | refine W_ret ?_
       | refine W_condT rfl (by first | (with_reducible rfl) | decide) ?_
       | refine W_condF rfl (by first | (with_reducible rfl) | decide) ?_
       | ((refine W_cond rfl (fun hc' => ?_) (fun hc' => ?_)) <;> (try simp only [decide_eq_true_eq, decide_eq_false_iff_not, beq_iff_eq, beq_eq_false_iff_ne, bne_iff_ne, bne_eq_false_iff_eq, ne_eq, gt_iff_lt, ge_iff_le, Int.not_lt, Int.not_le, Bool.not_eq_true', Bool.not_eq_false', Bool.not_true, Bool.not_false, reduceCtorEq, Decidable.not_not, Bool.true_eq_false, Bool.false_eq_true] at hc') <;> (try (exfalso; omega)))))
  all_goals (refine at_ret1 rfl rfl ⟨?_, rfl⟩; refine congrArg Value.bool ?_; rw [Bool.eq_iff_iff]; simp <;> omega)
theorem sIsReference_ret (t : Int) (w : World) : Ret Try.prog 9 [.int .i64 t] w fun v w' => v = .bool (decide (t = 3 ∨ t = 4)) ∧ w' = w := by
  refine enter Try.func9 rfl Try.ntmps9 rfl rfl ?_
  repeat' (first
    | (refine idWO ?_
       first
       | refine WO_simple rfl ?_
       | (refine idG ?_
          first
          | refine WO_yes rfl rfl (by first | (with_reducible rfl) | decide) ?_
          | refine WO_no rfl rfl (by first | (with_reducible rfl) | decide) ?_
          | refine WO_noU rfl rfl ?_
          | ((refine WO_split rfl rfl (fun c' hc' => ?_)); cases c' <;> (try simp only [decide_eq_true_eq, decide_eq_false_iff_not, beq_iff_eq, beq_eq_false_iff_ne, bne_iff_ne, bne_eq_false_iff_eq, ne_eq, gt_iff_lt, ge_iff_le, Int.not_lt, Int.not_le, Bool.not_eq_true', Bool.not_eq_false', Bool.not_true, Bool.not_false, reduceCtorEq, Decidable.not_not, Bool.true_eq_false, Bool.false_eq_true] at hc') <;> (try (exfalso; omega))))
       | (refine idFA ?_
          first
          | refine WO_fieldAddr0 rfl rfl ?_
          | refine WO_fieldAddr rfl rfl ?_)
       | (refine idLd ?_
          first
          | refine WO_loadB rfl (by assumption) (by rfl) ?_
          | refine WO_load1 rfl (by assumption) ?_)
       | (refine idPk ?_
          first
          | refine WO_p (q_pickT rfl (by first | (with_reducible rfl) | decide) rfl) ?_
          | refine WO_p (q_pickF rfl (by first | (with_reducible rfl) | decide) rfl) ?_)
       | (refine idBi ?_
          first
          | refine WO_lenSl rfl ?_
          | refine WO_lenStr rfl ?_)
       | (refine idBo ?_
          first
          | refine WO_add rfl rfl (by omega) ?_
          | refine WO_sub rfl rfl (by omega) ?_
          | refine WO_mul rfl rfl (by omega) ?_
          | refine WO_rem rfl rfl (by omega) (by omega) ?_
          | refine WO_quo rfl rfl (by omega) (by omega) (by omega) ?_
          | refine WO_p (q_neBool rfl rfl) ?_
          | refine WO_p (q_eqBool rfl rfl) ?_)
       | (refine idCv ?_; refine WO_p (q_convert rfl (wrap_i64_in ⟨by omega, by omega⟩)) ?_)
       | (refine idBuild ?_; refine WO_p (q_build rfl (by rfl) (by simp only [fillS, List.set_cons_zero, List.set_cons_succ]; rfl)) ?_)
       | refine WO_nil ?_)
    | (refine idAt ?_
       first
       | refine at_next ?_
       | refine at_block ?_
       | refine at_next_exit ?_
       | refine at_next_ret ?_
       | refine at_block_exit ?_
       | refine at_block_other rfl ?_
       | refine at_block_ret ?_
       | refine at_loop_exit ?_
       | refine at_loop_ret ?_)
    | (refine idW ?_
       first
       | refine W_seq ?_
       | refine W_region ?_
       | refine W_block ?_
       | refine W_skip ?_
       | refine W_exit ?_
       | refine W_ret ?_
       | refine W_condT rfl (by first | (with_reducible rfl) | decide) ?_
       | refine W_condF rfl (by first | (with_reducible rfl) | decide) ?_
       | ((refine W_cond rfl (fun hc' => ?_) (fun hc' => ?_)) <;> (try simp only [decide_eq_true_eq, decide_eq_false_iff_not, beq_iff_eq, beq_eq_false_iff_ne, bne_iff_ne, bne_eq_false_iff_eq, ne_eq, gt_iff_lt, ge_iff_le, Int.not_lt, Int.not_le, Bool.not_eq_true', Bool.not_eq_false', Bool.not_true, Bool.not_false, reduceCtorEq, Decidable.not_not, Bool.true_eq_false, Bool.false_eq_true] at hc') <;> (try (exfalso; omega)))))
  all_goals (refine at_ret1 rfl rfl ⟨?_, rfl⟩; refine congrArg Value.bool ?_; rw [Bool.eq_iff_iff]; simp <;> omega)

/-- The binary digits, the last one first. -/
def cho (n : Int) (m : Nat) : List Int := (List.range m).map fun i => n / 2 ^ i % 2
theorem cho_succ (n : Int) (m : Nat) : cho n (m + 1) = cho n m ++ [n / 2 ^ m % 2] := by simp [cho, List.range_succ]
theorem cho_length (n : Int) (m : Nat) : (cho n m).length = m := by simp [cho]
def choOf (n len : Int) : List Int := if 0 ≤ len ∧ len ≤ 6 ∧ 0 ≤ n ∧ n < 2 ^ len.toNat then cho n len.toNat else []

theorem one_int {a : Int} : ∀ c ∈ (Value.int .i64 a).cells.toList, c.oneCell' = true := by
  intro c hc
  simp [Value.cells] at hc
  subst hc
  rfl
theorem grown_below {w0 w w' : World} {v : Value} {B e k m : Nat} {xs : List Value} (h : Ext w0 w) (hown : w.ownsRow B e k v m xs) (hg : w.grownBy w' v.ownBlock) (hB : w0.heap.size ≤ B) : Ext w0 w' :=
  ext_grown h hg fun b hb => Nat.le_trans hB (hown.lt b hb).1
theorem div_pow_step (n : Int) (i : Nat) : n / 2 ^ i / 2 = n / 2 ^ (i + 1) := by
  rw [Int.ediv_ediv_of_nonneg (by exact Int.le_of_lt (Int.pow_pos (by omega))), Int.pow_succ]
theorem div_pow_bounds (n : Int) (i : Nat) (h : 0 ≤ n) : 0 ≤ n / 2 ^ i ∧ n / 2 ^ i ≤ n :=
  ⟨Int.ediv_nonneg h (by exact Int.le_of_lt (Int.pow_pos (by omega))), Int.ediv_le_self _ h⟩

theorem choicesOf_ret (n len : Int) (w : World) (hn : 0 ≤ n) (hn2 : n ≤ 9223372036854775807) (h0 : 0 ≤ len) (h6 : len ≤ 6) :
    Ret Try.prog 28 [.int .i64 n, .int .i64 len] w (NewInts (cho n len.toNat) w) := by
  obtain ⟨m, rfl⟩ := Int.eq_ofNat_of_zero_le h0
  rw [Int.toNat_natCast]
  refine enter Try.func28 rfl Try.ntmps28 rfl rfl ?_
  repeat (first
    | (refine idWO ?_
       first
       | refine WO_simple rfl ?_
       | (refine idG ?_
          first
          | refine WO_yes rfl rfl (by first | (with_reducible rfl) | decide) ?_
          | refine WO_no rfl rfl (by first | (with_reducible rfl) | decide) ?_
          | refine WO_noU rfl rfl ?_)
       | (refine idFA ?_
          first
          | refine WO_fieldAddr0 rfl rfl ?_
          | refine WO_fieldAddr rfl rfl ?_)
       | (refine idLd ?_
          first
          | refine WO_loadB rfl (by assumption) (by rfl) ?_
          | refine WO_load1 rfl (by assumption) ?_)
       | (refine idPk ?_
          first
          | refine WO_p (q_pickT rfl (by first | (with_reducible rfl) | decide) rfl) ?_
          | refine WO_p (q_pickF rfl (by first | (with_reducible rfl) | decide) rfl) ?_)
       | (refine idBi ?_
          first
          | refine WO_lenSl rfl ?_
          | refine WO_lenStr rfl ?_)
       | (refine idBo ?_
          first
          | refine WO_add rfl rfl (by omega) ?_
          | refine WO_sub rfl rfl (by omega) ?_
          | refine WO_mul rfl rfl (by omega) ?_
          | refine WO_rem rfl rfl (by omega) (by omega) ?_
          | refine WO_quo rfl rfl (by omega) (by omega) (by omega) ?_
          | refine WO_p (q_neBool rfl rfl) ?_
          | refine WO_p (q_eqBool rfl rfl) ?_)
       | (refine idCv ?_; refine WO_p (q_convert rfl (wrap_i64_in ⟨by omega, by omega⟩)) ?_)
       | (refine idBuild ?_; refine WO_p (q_build rfl (by rfl) (by simp only [fillS, List.set_cons_zero, List.set_cons_succ]; rfl)) ?_)
       | refine WO_nil ?_)
    | (refine idAt ?_
       first
       | refine at_next ?_
       | refine at_block ?_
       | refine at_next_exit ?_
       | refine at_next_ret ?_
       | refine at_block_exit ?_
       | refine at_block_other rfl ?_
       | refine at_block_ret ?_
       | refine at_loop_exit ?_
       | refine at_loop_ret ?_)
    | (refine idW ?_
       first
       | refine W_seq ?_
       | refine W_region ?_
       | refine W_block ?_
       | refine W_skip ?_
       | refine W_exit ?_
       | refine W_ret ?_
       | refine W_condT rfl (by first | (with_reducible rfl) | decide) ?_
       | refine W_condF rfl (by first | (with_reducible rfl) | decide) ?_))
  refine W_loop (α := Nat × Value) (fun p => [(0, .int .i64 n), (5, p.2), (7, .int .i64 (m : Int)), (8, .int .i64 (p.1 : Int))])
    (fun p w' => p.1 ≤ m ∧ Ext w w' ∧ w'.ownsRow w.heap.size 3 1 p.2 p.1 ((cho n p.1).map (.int .i64))) (fun p => m - p.1) (0, .slice none 0 0) (by repeat (first | exact True.intro | refine And.intro rfl ?_)) ⟨Nat.zero_le _, Ext.refl _, World.ownsRow_nil _ _ _ _⟩ ?_
  rintro ⟨i, v⟩ w1 ⟨hi, he, hown⟩
  simp only at hi he hown ⊢
  repeat (first
    | (refine idWO ?_
       first
       | refine WO_simple rfl ?_
       | (refine idG ?_
          first
          | refine WO_yes rfl rfl (by first | (with_reducible rfl) | decide) ?_
          | refine WO_no rfl rfl (by first | (with_reducible rfl) | decide) ?_
          | refine WO_noU rfl rfl ?_)
       | (refine idFA ?_
          first
          | refine WO_fieldAddr0 rfl rfl ?_
          | refine WO_fieldAddr rfl rfl ?_)
       | (refine idLd ?_
          first
          | refine WO_loadB rfl (by assumption) (by rfl) ?_
          | refine WO_load1 rfl (by assumption) ?_)
       | (refine idPk ?_
          first
          | refine WO_p (q_pickT rfl (by first | (with_reducible rfl) | decide) rfl) ?_
          | refine WO_p (q_pickF rfl (by first | (with_reducible rfl) | decide) rfl) ?_)
       | (refine idBi ?_
          first
          | refine WO_lenSl rfl ?_
          | refine WO_lenStr rfl ?_)
       | (refine idBo ?_
          first
          | refine WO_add rfl rfl (by omega) ?_
          | refine WO_sub rfl rfl (by omega) ?_
          | refine WO_mul rfl rfl (by omega) ?_
          | refine WO_rem rfl rfl (by omega) (by omega) ?_
          | refine WO_quo rfl rfl (by omega) (by omega) (by omega) ?_
          | refine WO_p (q_neBool rfl rfl) ?_
          | refine WO_p (q_eqBool rfl rfl) ?_)
       | (refine idCv ?_; refine WO_p (q_convert rfl (wrap_i64_in ⟨by omega, by omega⟩)) ?_)
       | (refine idBuild ?_; refine WO_p (q_build rfl (by rfl) (by simp only [fillS, List.set_cons_zero, List.set_cons_succ]; rfl)) ?_)
       | refine WO_nil ?_)
    | (refine idAt ?_
       first
       | refine at_next ?_
       | refine at_block ?_
       | refine at_next_exit ?_
       | refine at_next_ret ?_
       | refine at_block_exit ?_
       | refine at_block_other rfl ?_
       | refine at_block_ret ?_
       | refine at_loop_exit ?_
       | refine at_loop_ret ?_)
    | (refine idW ?_
       first
       | refine W_seq ?_
       | refine W_region ?_
       | refine W_block ?_
       | refine W_skip ?_
       | refine W_exit ?_
       | refine W_ret ?_
       | refine W_condT rfl (by first | (with_reducible rfl) | decide) ?_
       | refine W_condF rfl (by first | (with_reducible rfl) | decide) ?_))
  refine W_cond rfl (fun hc => ?_) (fun hc => ?_)
  · have hlt : i < m := by simpa using hc
    have hb := div_pow_bounds n i hn
    repeat (first
      | (refine idWO ?_
         first
         | refine WO_simple rfl ?_
         | (refine idG ?_
            first
            | refine WO_yes rfl rfl (by first | (with_reducible rfl) | decide) ?_
            | refine WO_no rfl rfl (by first | (with_reducible rfl) | decide) ?_
            | refine WO_noU rfl rfl ?_)
         | (refine idFA ?_
            first
            | refine WO_fieldAddr0 rfl rfl ?_
            | refine WO_fieldAddr rfl rfl ?_)
         | (refine idLd ?_
            first
            | refine WO_loadB rfl (by assumption) (by rfl) ?_
            | refine WO_load1 rfl (by assumption) ?_)
         | (refine idPk ?_
            first
            | refine WO_p (q_pickT rfl (by first | (with_reducible rfl) | decide) rfl) ?_
            | refine WO_p (q_pickF rfl (by first | (with_reducible rfl) | decide) rfl) ?_)
         | (refine idBi ?_
            first
            | refine WO_lenSl rfl ?_
            | refine WO_lenStr rfl ?_)
         | (refine idBo ?_
            first
            | refine WO_add rfl rfl (by omega) ?_
            | refine WO_sub rfl rfl (by omega) ?_
            | refine WO_mul rfl rfl (by omega) ?_
            | refine WO_rem rfl rfl (by omega) (by omega) ?_
            | refine WO_quo rfl rfl (by omega) (by omega) (by omega) ?_
            | refine WO_p (q_neBool rfl rfl) ?_
            | refine WO_p (q_eqBool rfl rfl) ?_)
         | (refine idCv ?_; refine WO_p (q_convert rfl (wrap_i64_in ⟨by omega, by omega⟩)) ?_)
         | (refine idBuild ?_; refine WO_p (q_build rfl (by rfl) (by simp only [fillS, List.set_cons_zero, List.set_cons_succ]; rfl)) ?_)
         | refine WO_nil ?_)
      | (refine idAt ?_
         first
         | refine at_next ?_
         | refine at_block ?_
         | refine at_next_exit ?_
         | refine at_next_ret ?_
         | refine at_block_exit ?_
         | refine at_block_other rfl ?_
         | refine at_block_ret ?_
         | refine at_loop_exit ?_
         | refine at_loop_ret ?_)
      | (refine idW ?_
         first
         | refine W_seq ?_
         | refine W_region ?_
         | refine W_block ?_
         | refine W_skip ?_
         | refine W_exit ?_
         | refine W_ret ?_
         | refine W_condT rfl (by first | (with_reducible rfl) | decide) ?_
         | refine W_condF rfl (by first | (with_reducible rfl) | decide) ?_))
    refine WO_p (q_shr rfl rfl rfl (by omega) hn) ?_
    refine WO_p (q_and (a := (n / 2 ^ i).toNat) (b := 1) rfl rfl (by omega) rfl (by omega) (by omega)) ?_
    have hand : (((n / 2 ^ i).toNat &&& 1 : Nat) : Int) = n / 2 ^ i % 2 := by rw [Nat.and_one_is_mod]; omega
    rw [hand]
    refine WO_app1 (m := i) rfl rfl one_int rfl hown he.size rfl (by omega) (by decide) fun v' w2 hown2 hg hat => ?_
    repeat (first
      | (refine idWO ?_
         first
         | refine WO_simple rfl ?_
         | (refine idG ?_
            first
            | refine WO_yes rfl rfl (by first | (with_reducible rfl) | decide) ?_
            | refine WO_no rfl rfl (by first | (with_reducible rfl) | decide) ?_
            | refine WO_noU rfl rfl ?_)
         | (refine idFA ?_
            first
            | refine WO_fieldAddr0 rfl rfl ?_
            | refine WO_fieldAddr rfl rfl ?_)
         | (refine idLd ?_
            first
            | refine WO_loadB rfl (by assumption) (by rfl) ?_
            | refine WO_load1 rfl (by assumption) ?_)
         | (refine idPk ?_
            first
            | refine WO_p (q_pickT rfl (by first | (with_reducible rfl) | decide) rfl) ?_
            | refine WO_p (q_pickF rfl (by first | (with_reducible rfl) | decide) rfl) ?_)
         | (refine idBi ?_
            first
            | refine WO_lenSl rfl ?_
            | refine WO_lenStr rfl ?_)
         | (refine idBo ?_
            first
            | refine WO_add rfl rfl (by omega) ?_
            | refine WO_sub rfl rfl (by omega) ?_
            | refine WO_mul rfl rfl (by omega) ?_
            | refine WO_rem rfl rfl (by omega) (by omega) ?_
            | refine WO_quo rfl rfl (by omega) (by omega) (by omega) ?_
            | refine WO_p (q_neBool rfl rfl) ?_
            | refine WO_p (q_eqBool rfl rfl) ?_)
         | (refine idCv ?_; refine WO_p (q_convert rfl (wrap_i64_in ⟨by omega, by omega⟩)) ?_)
         | (refine idBuild ?_; refine WO_p (q_build rfl (by rfl) (by simp only [fillS, List.set_cons_zero, List.set_cons_succ]; rfl)) ?_)
         | refine WO_nil ?_)
      | (refine idAt ?_
         first
         | refine at_next ?_
         | refine at_block ?_
         | refine at_next_exit ?_
         | refine at_next_ret ?_
         | refine at_block_exit ?_
         | refine at_block_other rfl ?_
         | refine at_block_ret ?_
         | refine at_loop_exit ?_
         | refine at_loop_ret ?_)
      | (refine idW ?_
         first
         | refine W_seq ?_
         | refine W_region ?_
         | refine W_block ?_
         | refine W_skip ?_
         | refine W_exit ?_
         | refine W_ret ?_
         | refine W_condT rfl (by first | (with_reducible rfl) | decide) ?_
         | refine W_condF rfl (by first | (with_reducible rfl) | decide) ?_))
    refine at_loop (i + 1, v') (by repeat (first | exact True.intro | refine And.intro rfl ?_)) ⟨by simp only; omega, grown_below he hown hg (Nat.le_refl _), ?_⟩ (by simp only; omega)
    simp only
    rw [cho_succ, List.map_append]
    exact hown2
  · have hge : i = m := by simp at hc; omega
    subst hge
    repeat (first
      | (refine idWO ?_
         first
         | refine WO_simple rfl ?_
         | (refine idG ?_
            first
            | refine WO_yes rfl rfl (by first | (with_reducible rfl) | decide) ?_
            | refine WO_no rfl rfl (by first | (with_reducible rfl) | decide) ?_
            | refine WO_noU rfl rfl ?_)
         | (refine idFA ?_
            first
            | refine WO_fieldAddr0 rfl rfl ?_
            | refine WO_fieldAddr rfl rfl ?_)
         | (refine idLd ?_
            first
            | refine WO_loadB rfl (by assumption) (by rfl) ?_
            | refine WO_load1 rfl (by assumption) ?_)
         | (refine idPk ?_
            first
            | refine WO_p (q_pickT rfl (by first | (with_reducible rfl) | decide) rfl) ?_
            | refine WO_p (q_pickF rfl (by first | (with_reducible rfl) | decide) rfl) ?_)
         | (refine idBi ?_
            first
            | refine WO_lenSl rfl ?_
            | refine WO_lenStr rfl ?_)
         | (refine idBo ?_
            first
            | refine WO_add rfl rfl (by omega) ?_
            | refine WO_sub rfl rfl (by omega) ?_
            | refine WO_mul rfl rfl (by omega) ?_
            | refine WO_rem rfl rfl (by omega) (by omega) ?_
            | refine WO_quo rfl rfl (by omega) (by omega) (by omega) ?_
            | refine WO_p (q_neBool rfl rfl) ?_
            | refine WO_p (q_eqBool rfl rfl) ?_)
         | (refine idCv ?_; refine WO_p (q_convert rfl (wrap_i64_in ⟨by omega, by omega⟩)) ?_)
         | (refine idBuild ?_; refine WO_p (q_build rfl (by rfl) (by simp only [fillS, List.set_cons_zero, List.set_cons_succ]; rfl)) ?_)
         | refine WO_nil ?_)
      | (refine idAt ?_
         first
         | refine at_next ?_
         | refine at_block ?_
         | refine at_next_exit ?_
         | refine at_next_ret ?_
         | refine at_block_exit ?_
         | refine at_block_other rfl ?_
         | refine at_block_ret ?_
         | refine at_loop_exit ?_
         | refine at_loop_ret ?_)
      | (refine idW ?_
         first
         | refine W_seq ?_
         | refine W_region ?_
         | refine W_block ?_
         | refine W_skip ?_
         | refine W_exit ?_
         | refine W_ret ?_
         | refine W_condT rfl (by first | (with_reducible rfl) | decide) ?_
         | refine W_condF rfl (by first | (with_reducible rfl) | decide) ?_))
    obtain ⟨F, hF, hB, _⟩ := OwnI.of_row hown (cho_length n i).symm (by rw [cho_length]; unfold maxI; omega)
    exact at_ret1 rfl rfl ⟨⟨F, hF, hB⟩, he⟩
theorem ChoicesOf_ret (n len : Int) (w : World) (hn : -9223372036854775808 ≤ n) (hn2 : n ≤ 9223372036854775807) :
    Ret Try.prog 14 [.int .i64 n, .int .i64 len] w (NewInts (choOf n len) w) := by
  refine enter Try.func14 rfl Try.ntmps14 rfl rfl ?_
  have hnil : ¬ (0 ≤ len ∧ len ≤ 6 ∧ 0 ≤ n ∧ n < 2 ^ len.toNat) → NewInts (choOf n len) w (.slice none 0 0) w := by
    intro h
    unfold choOf
    rw [if_neg h]
    exact ⟨⟨[], ⟨none, 0, rfl, by simp [maxI], .inl ⟨rfl, rfl⟩⟩, by simp⟩, Ext.refl _⟩
  repeat (first
    | (refine idWO ?_
       first
       | refine WO_simple rfl ?_
       | (refine idG ?_
          first
          | refine WO_yes rfl rfl (by first | (with_reducible rfl) | decide) ?_
          | refine WO_no rfl rfl (by first | (with_reducible rfl) | decide) ?_
          | refine WO_noU rfl rfl ?_)
       | (refine idFA ?_
          first
          | refine WO_fieldAddr0 rfl rfl ?_
          | refine WO_fieldAddr rfl rfl ?_)
       | (refine idLd ?_
          first
          | refine WO_loadB rfl (by assumption) (by rfl) ?_
          | refine WO_load1 rfl (by assumption) ?_)
       | (refine idPk ?_
          first
          | refine WO_p (q_pickT rfl (by first | (with_reducible rfl) | decide) rfl) ?_
          | refine WO_p (q_pickF rfl (by first | (with_reducible rfl) | decide) rfl) ?_)
       | (refine idBi ?_
          first
          | refine WO_lenSl rfl ?_
          | refine WO_lenStr rfl ?_)
       | (refine idBo ?_
          first
          | refine WO_add rfl rfl (by omega) ?_
          | refine WO_sub rfl rfl (by omega) ?_
          | refine WO_mul rfl rfl (by omega) ?_
          | refine WO_rem rfl rfl (by omega) (by omega) ?_
          | refine WO_quo rfl rfl (by omega) (by omega) (by omega) ?_
          | refine WO_p (q_neBool rfl rfl) ?_
          | refine WO_p (q_eqBool rfl rfl) ?_)
       | (refine idCv ?_; refine WO_p (q_convert rfl (wrap_i64_in ⟨by omega, by omega⟩)) ?_)
       | (refine idBuild ?_; refine WO_p (q_build rfl (by rfl) (by simp only [fillS, List.set_cons_zero, List.set_cons_succ]; rfl)) ?_)
       | refine WO_nil ?_)
    | (refine idAt ?_
       first
       | refine at_next ?_
       | refine at_block ?_
       | refine at_next_exit ?_
       | refine at_next_ret ?_
       | refine at_block_exit ?_
       | refine at_block_other rfl ?_
       | refine at_block_ret ?_
       | refine at_loop_exit ?_
       | refine at_loop_ret ?_)
    | (refine idW ?_
       first
       | refine W_seq ?_
       | refine W_region ?_
       | refine W_block ?_
       | refine W_skip ?_
       | refine W_exit ?_
       | refine W_ret ?_
       | refine W_condT rfl (by first | (with_reducible rfl) | decide) ?_
       | refine W_condF rfl (by first | (with_reducible rfl) | decide) ?_))
  refine WO_call rfl (isLength_ret len w) ?_
  rintro v w' ⟨rfl, rfl⟩
  by_cases hl : 0 ≤ len ∧ len ≤ 6
  · simp only [hl, decide_true, and_self]
    obtain ⟨m, rfl⟩ := Int.eq_ofNat_of_zero_le hl.1
    rw [Int.toNat_natCast] at hnil
    have hpow : (1 : Int) * 2 ^ m ≤ 64 ∧ 1 ≤ (1 : Int) * 2 ^ m := by
      have h7 : m < 7 := by omega
      have : m = 0 ∨ m = 1 ∨ m = 2 ∨ m = 3 ∨ m = 4 ∨ m = 5 ∨ m = 6 := by omega
      rcases this with rfl | rfl | rfl | rfl | rfl | rfl | rfl <;> decide
    repeat (first
      | (refine idWO ?_
         first
         | refine WO_simple rfl ?_
         | (refine idG ?_
            first
            | refine WO_yes rfl rfl (by first | (with_reducible rfl) | decide) ?_
            | refine WO_no rfl rfl (by first | (with_reducible rfl) | decide) ?_
            | refine WO_noU rfl rfl ?_)
         | (refine idFA ?_
            first
            | refine WO_fieldAddr0 rfl rfl ?_
            | refine WO_fieldAddr rfl rfl ?_)
         | (refine idLd ?_
            first
            | refine WO_loadB rfl (by assumption) (by rfl) ?_
            | refine WO_load1 rfl (by assumption) ?_)
         | (refine idPk ?_
            first
            | refine WO_p (q_pickT rfl (by first | (with_reducible rfl) | decide) rfl) ?_
            | refine WO_p (q_pickF rfl (by first | (with_reducible rfl) | decide) rfl) ?_)
         | (refine idBi ?_
            first
            | refine WO_lenSl rfl ?_
            | refine WO_lenStr rfl ?_)
         | (refine idBo ?_
            first
            | refine WO_add rfl rfl (by omega) ?_
            | refine WO_sub rfl rfl (by omega) ?_
            | refine WO_mul rfl rfl (by omega) ?_
            | refine WO_rem rfl rfl (by omega) (by omega) ?_
            | refine WO_quo rfl rfl (by omega) (by omega) (by omega) ?_
            | refine WO_p (q_neBool rfl rfl) ?_
            | refine WO_p (q_eqBool rfl rfl) ?_)
         | (refine idCv ?_; refine WO_p (q_convert rfl (wrap_i64_in ⟨by omega, by omega⟩)) ?_)
         | (refine idBuild ?_; refine WO_p (q_build rfl (by rfl) (by simp only [fillS, List.set_cons_zero, List.set_cons_succ]; rfl)) ?_)
         | refine WO_nil ?_)
      | (refine idAt ?_
         first
         | refine at_next ?_
         | refine at_block ?_
         | refine at_next_exit ?_
         | refine at_next_ret ?_
         | refine at_block_exit ?_
         | refine at_block_other rfl ?_
         | refine at_block_ret ?_
         | refine at_loop_exit ?_
         | refine at_loop_ret ?_)
      | (refine idW ?_
         first
         | refine W_seq ?_
         | refine W_region ?_
         | refine W_block ?_
         | refine W_skip ?_
         | refine W_exit ?_
         | refine W_ret ?_
         | refine W_condT rfl (by first | (with_reducible rfl) | decide) ?_
         | refine W_condF rfl (by first | (with_reducible rfl) | decide) ?_))
    refine WO_p (q_shl rfl rfl rfl (by omega) (wrap_i64_in ⟨by omega, by omega⟩)) ?_
    repeat (first
      | (refine idWO ?_
         first
         | refine WO_simple rfl ?_
         | (refine idG ?_
            first
            | refine WO_yes rfl rfl (by first | (with_reducible rfl) | decide) ?_
            | refine WO_no rfl rfl (by first | (with_reducible rfl) | decide) ?_
            | refine WO_noU rfl rfl ?_)
         | (refine idFA ?_
            first
            | refine WO_fieldAddr0 rfl rfl ?_
            | refine WO_fieldAddr rfl rfl ?_)
         | (refine idLd ?_
            first
            | refine WO_loadB rfl (by assumption) (by rfl) ?_
            | refine WO_load1 rfl (by assumption) ?_)
         | (refine idPk ?_
            first
            | refine WO_p (q_pickT rfl (by first | (with_reducible rfl) | decide) rfl) ?_
            | refine WO_p (q_pickF rfl (by first | (with_reducible rfl) | decide) rfl) ?_)
         | (refine idBi ?_
            first
            | refine WO_lenSl rfl ?_
            | refine WO_lenStr rfl ?_)
         | (refine idBo ?_
            first
            | refine WO_add rfl rfl (by omega) ?_
            | refine WO_sub rfl rfl (by omega) ?_
            | refine WO_mul rfl rfl (by omega) ?_
            | refine WO_rem rfl rfl (by omega) (by omega) ?_
            | refine WO_quo rfl rfl (by omega) (by omega) (by omega) ?_
            | refine WO_p (q_neBool rfl rfl) ?_
            | refine WO_p (q_eqBool rfl rfl) ?_)
         | (refine idCv ?_; refine WO_p (q_convert rfl (wrap_i64_in ⟨by omega, by omega⟩)) ?_)
         | (refine idBuild ?_; refine WO_p (q_build rfl (by rfl) (by simp only [fillS, List.set_cons_zero, List.set_cons_succ]; rfl)) ?_)
         | refine WO_nil ?_)
      | (refine idAt ?_
         first
         | refine at_next ?_
         | refine at_block ?_
         | refine at_next_exit ?_
         | refine at_next_ret ?_
         | refine at_block_exit ?_
         | refine at_block_other rfl ?_
         | refine at_block_ret ?_
         | refine at_loop_exit ?_
         | refine at_loop_ret ?_)
      | (refine idW ?_
         first
         | refine W_seq ?_
         | refine W_region ?_
         | refine W_block ?_
         | refine W_skip ?_
         | refine W_exit ?_
         | refine W_ret ?_
         | refine W_condT rfl (by first | (with_reducible rfl) | decide) ?_
         | refine W_condF rfl (by first | (with_reducible rfl) | decide) ?_))
    refine WO_call rfl (within_ret n 0 (1 * 2 ^ m - 1) w') ?_
    rintro v w'' ⟨rfl, rfl⟩
    by_cases hr : 0 ≤ n ∧ n ≤ 1 * 2 ^ m - 1
    · simp only [hr, decide_true, and_self]
      repeat (first
        | (refine idWO ?_
           first
           | refine WO_simple rfl ?_
           | (refine idG ?_
              first
              | refine WO_yes rfl rfl (by first | (with_reducible rfl) | decide) ?_
              | refine WO_no rfl rfl (by first | (with_reducible rfl) | decide) ?_
              | refine WO_noU rfl rfl ?_)
           | (refine idFA ?_
              first
              | refine WO_fieldAddr0 rfl rfl ?_
              | refine WO_fieldAddr rfl rfl ?_)
           | (refine idLd ?_
              first
              | refine WO_loadB rfl (by assumption) (by rfl) ?_
              | refine WO_load1 rfl (by assumption) ?_)
           | (refine idPk ?_
              first
              | refine WO_p (q_pickT rfl (by first | (with_reducible rfl) | decide) rfl) ?_
              | refine WO_p (q_pickF rfl (by first | (with_reducible rfl) | decide) rfl) ?_)
           | (refine idBi ?_
              first
              | refine WO_lenSl rfl ?_
              | refine WO_lenStr rfl ?_)
           | (refine idBo ?_
              first
              | refine WO_add rfl rfl (by omega) ?_
              | refine WO_sub rfl rfl (by omega) ?_
              | refine WO_mul rfl rfl (by omega) ?_
              | refine WO_rem rfl rfl (by omega) (by omega) ?_
              | refine WO_quo rfl rfl (by omega) (by omega) (by omega) ?_
              | refine WO_p (q_neBool rfl rfl) ?_
              | refine WO_p (q_eqBool rfl rfl) ?_)
           | (refine idCv ?_; refine WO_p (q_convert rfl (wrap_i64_in ⟨by omega, by omega⟩)) ?_)
           | (refine idBuild ?_; refine WO_p (q_build rfl (by rfl) (by simp only [fillS, List.set_cons_zero, List.set_cons_succ]; rfl)) ?_)
           | refine WO_nil ?_)
        | (refine idAt ?_
           first
           | refine at_next ?_
           | refine at_block ?_
           | refine at_next_exit ?_
           | refine at_next_ret ?_
           | refine at_block_exit ?_
           | refine at_block_other rfl ?_
           | refine at_block_ret ?_
           | refine at_loop_exit ?_
           | refine at_loop_ret ?_)
        | (refine idW ?_
           first
           | refine W_seq ?_
           | refine W_region ?_
           | refine W_block ?_
           | refine W_skip ?_
           | refine W_exit ?_
           | refine W_ret ?_
           | refine W_condT rfl (by first | (with_reducible rfl) | decide) ?_
           | refine W_condF rfl (by first | (with_reducible rfl) | decide) ?_))
      refine WO_call rfl (choicesOf_ret n (m : Int) w'' hr.1 (by omega) (by omega) (by omega)) ?_
      intro v w3 h3
      repeat (first
        | (refine idWO ?_
           first
           | refine WO_simple rfl ?_
           | (refine idG ?_
              first
              | refine WO_yes rfl rfl (by first | (with_reducible rfl) | decide) ?_
              | refine WO_no rfl rfl (by first | (with_reducible rfl) | decide) ?_
              | refine WO_noU rfl rfl ?_)
           | (refine idFA ?_
              first
              | refine WO_fieldAddr0 rfl rfl ?_
              | refine WO_fieldAddr rfl rfl ?_)
           | (refine idLd ?_
              first
              | refine WO_loadB rfl (by assumption) (by rfl) ?_
              | refine WO_load1 rfl (by assumption) ?_)
           | (refine idPk ?_
              first
              | refine WO_p (q_pickT rfl (by first | (with_reducible rfl) | decide) rfl) ?_
              | refine WO_p (q_pickF rfl (by first | (with_reducible rfl) | decide) rfl) ?_)
           | (refine idBi ?_
              first
              | refine WO_lenSl rfl ?_
              | refine WO_lenStr rfl ?_)
           | (refine idBo ?_
              first
              | refine WO_add rfl rfl (by omega) ?_
              | refine WO_sub rfl rfl (by omega) ?_
              | refine WO_mul rfl rfl (by omega) ?_
              | refine WO_rem rfl rfl (by omega) (by omega) ?_
              | refine WO_quo rfl rfl (by omega) (by omega) (by omega) ?_
              | refine WO_p (q_neBool rfl rfl) ?_
              | refine WO_p (q_eqBool rfl rfl) ?_)
           | (refine idCv ?_; refine WO_p (q_convert rfl (wrap_i64_in ⟨by omega, by omega⟩)) ?_)
           | (refine idBuild ?_; refine WO_p (q_build rfl (by rfl) (by simp only [fillS, List.set_cons_zero, List.set_cons_succ]; rfl)) ?_)
           | refine WO_nil ?_)
        | (refine idAt ?_
           first
           | refine at_next ?_
           | refine at_block ?_
           | refine at_next_exit ?_
           | refine at_next_ret ?_
           | refine at_block_exit ?_
           | refine at_block_other rfl ?_
           | refine at_block_ret ?_
           | refine at_loop_exit ?_
           | refine at_loop_ret ?_)
        | (refine idW ?_
           first
           | refine W_seq ?_
           | refine W_region ?_
           | refine W_block ?_
           | refine W_skip ?_
           | refine W_exit ?_
           | refine W_ret ?_
           | refine W_condT rfl (by first | (with_reducible rfl) | decide) ?_
           | refine W_condF rfl (by first | (with_reducible rfl) | decide) ?_))
      refine at_ret1 rfl rfl ?_
      have : choOf n (m : Int) = cho n (m : Int).toNat := by
        unfold choOf
        rw [Int.toNat_natCast, if_pos ⟨hl.1, hl.2, hr.1, by omega⟩]
      rw [this]
      exact h3
    · rw [decide_eq_false hr]
      repeat (first
        | (refine idWO ?_
           first
           | refine WO_simple rfl ?_
           | (refine idG ?_
              first
              | refine WO_yes rfl rfl (by first | (with_reducible rfl) | decide) ?_
              | refine WO_no rfl rfl (by first | (with_reducible rfl) | decide) ?_
              | refine WO_noU rfl rfl ?_)
           | (refine idFA ?_
              first
              | refine WO_fieldAddr0 rfl rfl ?_
              | refine WO_fieldAddr rfl rfl ?_)
           | (refine idLd ?_
              first
              | refine WO_loadB rfl (by assumption) (by rfl) ?_
              | refine WO_load1 rfl (by assumption) ?_)
           | (refine idPk ?_
              first
              | refine WO_p (q_pickT rfl (by first | (with_reducible rfl) | decide) rfl) ?_
              | refine WO_p (q_pickF rfl (by first | (with_reducible rfl) | decide) rfl) ?_)
           | (refine idBi ?_
              first
              | refine WO_lenSl rfl ?_
              | refine WO_lenStr rfl ?_)
           | (refine idBo ?_
              first
              | refine WO_add rfl rfl (by omega) ?_
              | refine WO_sub rfl rfl (by omega) ?_
              | refine WO_mul rfl rfl (by omega) ?_
              | refine WO_rem rfl rfl (by omega) (by omega) ?_
              | refine WO_quo rfl rfl (by omega) (by omega) (by omega) ?_
              | refine WO_p (q_neBool rfl rfl) ?_
              | refine WO_p (q_eqBool rfl rfl) ?_)
           | (refine idCv ?_; refine WO_p (q_convert rfl (wrap_i64_in ⟨by omega, by omega⟩)) ?_)
           | (refine idBuild ?_; refine WO_p (q_build rfl (by rfl) (by simp only [fillS, List.set_cons_zero, List.set_cons_succ]; rfl)) ?_)
           | refine WO_nil ?_)
        | (refine idAt ?_
           first
           | refine at_next ?_
           | refine at_block ?_
           | refine at_next_exit ?_
           | refine at_next_ret ?_
           | refine at_block_exit ?_
           | refine at_block_other rfl ?_
           | refine at_block_ret ?_
           | refine at_loop_exit ?_
           | refine at_loop_ret ?_)
        | (refine idW ?_
           first
           | refine W_seq ?_
           | refine W_region ?_
           | refine W_block ?_
           | refine W_skip ?_
           | refine W_exit ?_
           | refine W_ret ?_
           | refine W_condT rfl (by first | (with_reducible rfl) | decide) ?_
           | refine W_condF rfl (by first | (with_reducible rfl) | decide) ?_))
      refine at_ret1 rfl rfl (hnil ?_)
      intro h
      exact hr ⟨h.2.2.1, by omega⟩
  · rw [decide_eq_false hl]
    repeat (first
      | (refine idWO ?_
         first
         | refine WO_simple rfl ?_
         | (refine idG ?_
            first
            | refine WO_yes rfl rfl (by first | (with_reducible rfl) | decide) ?_
            | refine WO_no rfl rfl (by first | (with_reducible rfl) | decide) ?_
            | refine WO_noU rfl rfl ?_)
         | (refine idFA ?_
            first
            | refine WO_fieldAddr0 rfl rfl ?_
            | refine WO_fieldAddr rfl rfl ?_)
         | (refine idLd ?_
            first
            | refine WO_loadB rfl (by assumption) (by rfl) ?_
            | refine WO_load1 rfl (by assumption) ?_)
         | (refine idPk ?_
            first
            | refine WO_p (q_pickT rfl (by first | (with_reducible rfl) | decide) rfl) ?_
            | refine WO_p (q_pickF rfl (by first | (with_reducible rfl) | decide) rfl) ?_)
         | (refine idBi ?_
            first
            | refine WO_lenSl rfl ?_
            | refine WO_lenStr rfl ?_)
         | (refine idBo ?_
            first
            | refine WO_add rfl rfl (by omega) ?_
            | refine WO_sub rfl rfl (by omega) ?_
            | refine WO_mul rfl rfl (by omega) ?_
            | refine WO_rem rfl rfl (by omega) (by omega) ?_
            | refine WO_quo rfl rfl (by omega) (by omega) (by omega) ?_
            | refine WO_p (q_neBool rfl rfl) ?_
            | refine WO_p (q_eqBool rfl rfl) ?_)
         | (refine idCv ?_; refine WO_p (q_convert rfl (wrap_i64_in ⟨by omega, by omega⟩)) ?_)
         | (refine idBuild ?_; refine WO_p (q_build rfl (by rfl) (by simp only [fillS, List.set_cons_zero, List.set_cons_succ]; rfl)) ?_)
         | refine WO_nil ?_)
      | (refine idAt ?_
         first
         | refine at_next ?_
         | refine at_block ?_
         | refine at_next_exit ?_
         | refine at_next_ret ?_
         | refine at_block_exit ?_
         | refine at_block_other rfl ?_
         | refine at_block_ret ?_
         | refine at_loop_exit ?_
         | refine at_loop_ret ?_)
      | (refine idW ?_
         first
         | refine W_seq ?_
         | refine W_region ?_
         | refine W_block ?_
         | refine W_skip ?_
         | refine W_exit ?_
         | refine W_ret ?_
         | refine W_condT rfl (by first | (with_reducible rfl) | decide) ?_
         | refine W_condF rfl (by first | (with_reducible rfl) | decide) ?_))
    refine at_ret1 rfl rfl (hnil ?_)
    intro h
    exact hl ⟨h.1, h.2.1⟩
theorem l8Runs_ret (len : Int) (w : World) (h0 : 0 ≤ len) (h6 : len ≤ 6) : Ret Try.prog 24 [.int .i64 len] w fun v w' => v = .int .i64 (2 ^ len.toNat) ∧ w' = w := by
  obtain ⟨m, rfl⟩ := Int.eq_ofNat_of_zero_le h0
  rw [Int.toNat_natCast]
  refine enter Try.func24 rfl Try.ntmps24 rfl rfl ?_
  repeat (first
    | (refine idWO ?_
       first
       | refine WO_simple rfl ?_
       | (refine idG ?_
          first
          | refine WO_yes rfl rfl (by first | (with_reducible rfl) | decide) ?_
          | refine WO_no rfl rfl (by first | (with_reducible rfl) | decide) ?_
          | refine WO_noU rfl rfl ?_)
       | (refine idFA ?_
          first
          | refine WO_fieldAddr0 rfl rfl ?_
          | refine WO_fieldAddr rfl rfl ?_)
       | (refine idLd ?_
          first
          | refine WO_loadB rfl (by assumption) (by rfl) ?_
          | refine WO_load1 rfl (by assumption) ?_)
       | (refine idPk ?_
          first
          | refine WO_p (q_pickT rfl (by first | (with_reducible rfl) | decide) rfl) ?_
          | refine WO_p (q_pickF rfl (by first | (with_reducible rfl) | decide) rfl) ?_)
       | (refine idBi ?_
          first
          | refine WO_lenSl rfl ?_
          | refine WO_lenStr rfl ?_)
       | (refine idBo ?_
          first
          | refine WO_add rfl rfl (by omega) ?_
          | refine WO_sub rfl rfl (by omega) ?_
          | refine WO_mul rfl rfl (by omega) ?_
          | refine WO_rem rfl rfl (by omega) (by omega) ?_
          | refine WO_quo rfl rfl (by omega) (by omega) (by omega) ?_
          | refine WO_p (q_neBool rfl rfl) ?_
          | refine WO_p (q_eqBool rfl rfl) ?_)
       | (refine idCv ?_; refine WO_p (q_convert rfl (wrap_i64_in ⟨by omega, by omega⟩)) ?_)
       | (refine idBuild ?_; refine WO_p (q_build rfl (by rfl) (by simp only [fillS, List.set_cons_zero, List.set_cons_succ]; rfl)) ?_)
       | refine WO_nil ?_)
    | (refine idAt ?_
       first
       | refine at_next ?_
       | refine at_block ?_
       | refine at_next_exit ?_
       | refine at_next_ret ?_
       | refine at_block_exit ?_
       | refine at_block_other rfl ?_
       | refine at_block_ret ?_
       | refine at_loop_exit ?_
       | refine at_loop_ret ?_)
    | (refine idW ?_
       first
       | refine W_seq ?_
       | refine W_region ?_
       | refine W_block ?_
       | refine W_skip ?_
       | refine W_exit ?_
       | refine W_ret ?_
       | refine W_condT rfl (by first | (with_reducible rfl) | decide) ?_
       | refine W_condF rfl (by first | (with_reducible rfl) | decide) ?_))
  refine W_loop (α := Nat) (fun i => [(0, .int .i64 (m : Int)), (3, .int .i64 (2 ^ i)), (4, .int .i64 (i : Int))])
    (fun i w' => i ≤ m ∧ w' = w) (fun i => m - i) 0 (by repeat (first | exact True.intro | refine And.intro rfl ?_)) ⟨Nat.zero_le _, rfl⟩ ?_
  rintro i w1 ⟨hi, rfl⟩
  have hp : (2 : Int) ^ i ≤ 64 ∧ 1 ≤ (2 : Int) ^ i := by
    have : i = 0 ∨ i = 1 ∨ i = 2 ∨ i = 3 ∨ i = 4 ∨ i = 5 ∨ i = 6 := by omega
    rcases this with rfl | rfl | rfl | rfl | rfl | rfl | rfl <;> decide
  repeat (first
    | (refine idWO ?_
       first
       | refine WO_simple rfl ?_
       | (refine idG ?_
          first
          | refine WO_yes rfl rfl (by first | (with_reducible rfl) | decide) ?_
          | refine WO_no rfl rfl (by first | (with_reducible rfl) | decide) ?_
          | refine WO_noU rfl rfl ?_)
       | (refine idFA ?_
          first
          | refine WO_fieldAddr0 rfl rfl ?_
          | refine WO_fieldAddr rfl rfl ?_)
       | (refine idLd ?_
          first
          | refine WO_loadB rfl (by assumption) (by rfl) ?_
          | refine WO_load1 rfl (by assumption) ?_)
       | (refine idPk ?_
          first
          | refine WO_p (q_pickT rfl (by first | (with_reducible rfl) | decide) rfl) ?_
          | refine WO_p (q_pickF rfl (by first | (with_reducible rfl) | decide) rfl) ?_)
       | (refine idBi ?_
          first
          | refine WO_lenSl rfl ?_
          | refine WO_lenStr rfl ?_)
       | (refine idBo ?_
          first
          | refine WO_add rfl rfl (by omega) ?_
          | refine WO_sub rfl rfl (by omega) ?_
          | refine WO_mul rfl rfl (by omega) ?_
          | refine WO_rem rfl rfl (by omega) (by omega) ?_
          | refine WO_quo rfl rfl (by omega) (by omega) (by omega) ?_
          | refine WO_p (q_neBool rfl rfl) ?_
          | refine WO_p (q_eqBool rfl rfl) ?_)
       | (refine idCv ?_; refine WO_p (q_convert rfl (wrap_i64_in ⟨by omega, by omega⟩)) ?_)
       | (refine idBuild ?_; refine WO_p (q_build rfl (by rfl) (by simp only [fillS, List.set_cons_zero, List.set_cons_succ]; rfl)) ?_)
       | refine WO_nil ?_)
    | (refine idAt ?_
       first
       | refine at_next ?_
       | refine at_block ?_
       | refine at_next_exit ?_
       | refine at_next_ret ?_
       | refine at_block_exit ?_
       | refine at_block_other rfl ?_
       | refine at_block_ret ?_
       | refine at_loop_exit ?_
       | refine at_loop_ret ?_)
    | (refine idW ?_
       first
       | refine W_seq ?_
       | refine W_region ?_
       | refine W_block ?_
       | refine W_skip ?_
       | refine W_exit ?_
       | refine W_ret ?_
       | refine W_condT rfl (by first | (with_reducible rfl) | decide) ?_
       | refine W_condF rfl (by first | (with_reducible rfl) | decide) ?_))
  refine W_cond rfl (fun hc => ?_) (fun hc => ?_)
  · have hlt : i < m := by simpa using hc
    repeat (first
      | (refine idWO ?_
         first
         | refine WO_simple rfl ?_
         | (refine idG ?_
            first
            | refine WO_yes rfl rfl (by first | (with_reducible rfl) | decide) ?_
            | refine WO_no rfl rfl (by first | (with_reducible rfl) | decide) ?_
            | refine WO_noU rfl rfl ?_)
         | (refine idFA ?_
            first
            | refine WO_fieldAddr0 rfl rfl ?_
            | refine WO_fieldAddr rfl rfl ?_)
         | (refine idLd ?_
            first
            | refine WO_loadB rfl (by assumption) (by rfl) ?_
            | refine WO_load1 rfl (by assumption) ?_)
         | (refine idPk ?_
            first
            | refine WO_p (q_pickT rfl (by first | (with_reducible rfl) | decide) rfl) ?_
            | refine WO_p (q_pickF rfl (by first | (with_reducible rfl) | decide) rfl) ?_)
         | (refine idBi ?_
            first
            | refine WO_lenSl rfl ?_
            | refine WO_lenStr rfl ?_)
         | (refine idBo ?_
            first
            | refine WO_add rfl rfl (by omega) ?_
            | refine WO_sub rfl rfl (by omega) ?_
            | refine WO_mul rfl rfl (by omega) ?_
            | refine WO_rem rfl rfl (by omega) (by omega) ?_
            | refine WO_quo rfl rfl (by omega) (by omega) (by omega) ?_
            | refine WO_p (q_neBool rfl rfl) ?_
            | refine WO_p (q_eqBool rfl rfl) ?_)
         | (refine idCv ?_; refine WO_p (q_convert rfl (wrap_i64_in ⟨by omega, by omega⟩)) ?_)
         | (refine idBuild ?_; refine WO_p (q_build rfl (by rfl) (by simp only [fillS, List.set_cons_zero, List.set_cons_succ]; rfl)) ?_)
         | refine WO_nil ?_)
      | (refine idAt ?_
         first
         | refine at_next ?_
         | refine at_block ?_
         | refine at_next_exit ?_
         | refine at_next_ret ?_
         | refine at_block_exit ?_
         | refine at_block_other rfl ?_
         | refine at_block_ret ?_
         | refine at_loop_exit ?_
         | refine at_loop_ret ?_)
      | (refine idW ?_
         first
         | refine W_seq ?_
         | refine W_region ?_
         | refine W_block ?_
         | refine W_skip ?_
         | refine W_exit ?_
         | refine W_ret ?_
         | refine W_condT rfl (by first | (with_reducible rfl) | decide) ?_
         | refine W_condF rfl (by first | (with_reducible rfl) | decide) ?_))
    exact at_loop (i + 1) (by refine And.intro rfl (And.intro ?_ (And.intro rfl trivial)); rw [Int.pow_succ]; rfl) ⟨by omega, rfl⟩ (by omega)
  · have hge : i = m := by simp at hc; omega
    subst hge
    repeat (first
      | (refine idWO ?_
         first
         | refine WO_simple rfl ?_
         | (refine idG ?_
            first
            | refine WO_yes rfl rfl (by first | (with_reducible rfl) | decide) ?_
            | refine WO_no rfl rfl (by first | (with_reducible rfl) | decide) ?_
            | refine WO_noU rfl rfl ?_)
         | (refine idFA ?_
            first
            | refine WO_fieldAddr0 rfl rfl ?_
            | refine WO_fieldAddr rfl rfl ?_)
         | (refine idLd ?_
            first
            | refine WO_loadB rfl (by assumption) (by rfl) ?_
            | refine WO_load1 rfl (by assumption) ?_)
         | (refine idPk ?_
            first
            | refine WO_p (q_pickT rfl (by first | (with_reducible rfl) | decide) rfl) ?_
            | refine WO_p (q_pickF rfl (by first | (with_reducible rfl) | decide) rfl) ?_)
         | (refine idBi ?_
            first
            | refine WO_lenSl rfl ?_
            | refine WO_lenStr rfl ?_)
         | (refine idBo ?_
            first
            | refine WO_add rfl rfl (by omega) ?_
            | refine WO_sub rfl rfl (by omega) ?_
            | refine WO_mul rfl rfl (by omega) ?_
            | refine WO_rem rfl rfl (by omega) (by omega) ?_
            | refine WO_quo rfl rfl (by omega) (by omega) (by omega) ?_
            | refine WO_p (q_neBool rfl rfl) ?_
            | refine WO_p (q_eqBool rfl rfl) ?_)
         | (refine idCv ?_; refine WO_p (q_convert rfl (wrap_i64_in ⟨by omega, by omega⟩)) ?_)
         | (refine idBuild ?_; refine WO_p (q_build rfl (by rfl) (by simp only [fillS, List.set_cons_zero, List.set_cons_succ]; rfl)) ?_)
         | refine WO_nil ?_)
      | (refine idAt ?_
         first
         | refine at_next ?_
         | refine at_block ?_
         | refine at_next_exit ?_
         | refine at_next_ret ?_
         | refine at_block_exit ?_
         | refine at_block_other rfl ?_
         | refine at_block_ret ?_
         | refine at_loop_exit ?_
         | refine at_loop_ret ?_)
      | (refine idW ?_
         first
         | refine W_seq ?_
         | refine W_region ?_
         | refine W_block ?_
         | refine W_skip ?_
         | refine W_exit ?_
         | refine W_ret ?_
         | refine W_condT rfl (by first | (with_reducible rfl) | decide) ?_
         | refine W_condF rfl (by first | (with_reducible rfl) | decide) ?_))
    exact at_ret1 rfl rfl ⟨rfl, rfl⟩
theorem l8Choices_ret (n len : Int) (w : World) (hn : 0 ≤ n) (hn2 : n ≤ 9223372036854775807) (h0 : 0 ≤ len) (h6 : len ≤ 6) :
    Ret Try.prog 25 [.int .i64 n, .int .i64 len] w (NewInts (cho n len.toNat) w) := by
  obtain ⟨m, rfl⟩ := Int.eq_ofNat_of_zero_le h0
  rw [Int.toNat_natCast]
  refine enter Try.func25 rfl Try.ntmps25 rfl rfl ?_
  repeat (first
    | (refine idWO ?_
       first
       | refine WO_simple rfl ?_
       | (refine idG ?_
          first
          | refine WO_yes rfl rfl (by first | (with_reducible rfl) | decide) ?_
          | refine WO_no rfl rfl (by first | (with_reducible rfl) | decide) ?_
          | refine WO_noU rfl rfl ?_)
       | (refine idFA ?_
          first
          | refine WO_fieldAddr0 rfl rfl ?_
          | refine WO_fieldAddr rfl rfl ?_)
       | (refine idLd ?_
          first
          | refine WO_loadB rfl (by assumption) (by rfl) ?_
          | refine WO_load1 rfl (by assumption) ?_)
       | (refine idPk ?_
          first
          | refine WO_p (q_pickT rfl (by first | (with_reducible rfl) | decide) rfl) ?_
          | refine WO_p (q_pickF rfl (by first | (with_reducible rfl) | decide) rfl) ?_)
       | (refine idBi ?_
          first
          | refine WO_lenSl rfl ?_
          | refine WO_lenStr rfl ?_)
       | (refine idBo ?_
          first
          | refine WO_add rfl rfl (by omega) ?_
          | refine WO_sub rfl rfl (by omega) ?_
          | refine WO_mul rfl rfl (by omega) ?_
          | refine WO_rem rfl rfl (by omega) (by omega) ?_
          | refine WO_quo rfl rfl (by omega) (by omega) (by omega) ?_
          | refine WO_p (q_neBool rfl rfl) ?_
          | refine WO_p (q_eqBool rfl rfl) ?_)
       | (refine idCv ?_; refine WO_p (q_convert rfl (wrap_i64_in ⟨by omega, by omega⟩)) ?_)
       | (refine idBuild ?_; refine WO_p (q_build rfl (by rfl) (by simp only [fillS, List.set_cons_zero, List.set_cons_succ]; rfl)) ?_)
       | refine WO_nil ?_)
    | (refine idAt ?_
       first
       | refine at_next ?_
       | refine at_block ?_
       | refine at_next_exit ?_
       | refine at_next_ret ?_
       | refine at_block_exit ?_
       | refine at_block_other rfl ?_
       | refine at_block_ret ?_
       | refine at_loop_exit ?_
       | refine at_loop_ret ?_)
    | (refine idW ?_
       first
       | refine W_seq ?_
       | refine W_region ?_
       | refine W_block ?_
       | refine W_skip ?_
       | refine W_exit ?_
       | refine W_ret ?_
       | refine W_condT rfl (by first | (with_reducible rfl) | decide) ?_
       | refine W_condF rfl (by first | (with_reducible rfl) | decide) ?_))
  refine WO_build0 fun w0 hb0 he0 hz0 => ?_
  repeat (first
    | (refine idWO ?_
       first
       | refine WO_simple rfl ?_
       | (refine idG ?_
          first
          | refine WO_yes rfl rfl (by first | (with_reducible rfl) | decide) ?_
          | refine WO_no rfl rfl (by first | (with_reducible rfl) | decide) ?_
          | refine WO_noU rfl rfl ?_)
       | (refine idFA ?_
          first
          | refine WO_fieldAddr0 rfl rfl ?_
          | refine WO_fieldAddr rfl rfl ?_)
       | (refine idLd ?_
          first
          | refine WO_loadB rfl (by assumption) (by rfl) ?_
          | refine WO_load1 rfl (by assumption) ?_)
       | (refine idPk ?_
          first
          | refine WO_p (q_pickT rfl (by first | (with_reducible rfl) | decide) rfl) ?_
          | refine WO_p (q_pickF rfl (by first | (with_reducible rfl) | decide) rfl) ?_)
       | (refine idBi ?_
          first
          | refine WO_lenSl rfl ?_
          | refine WO_lenStr rfl ?_)
       | (refine idBo ?_
          first
          | refine WO_add rfl rfl (by omega) ?_
          | refine WO_sub rfl rfl (by omega) ?_
          | refine WO_mul rfl rfl (by omega) ?_
          | refine WO_rem rfl rfl (by omega) (by omega) ?_
          | refine WO_quo rfl rfl (by omega) (by omega) (by omega) ?_
          | refine WO_p (q_neBool rfl rfl) ?_
          | refine WO_p (q_eqBool rfl rfl) ?_)
       | (refine idCv ?_; refine WO_p (q_convert rfl (wrap_i64_in ⟨by omega, by omega⟩)) ?_)
       | (refine idBuild ?_; refine WO_p (q_build rfl (by rfl) (by simp only [fillS, List.set_cons_zero, List.set_cons_succ]; rfl)) ?_)
       | refine WO_nil ?_)
    | (refine idAt ?_
       first
       | refine at_next ?_
       | refine at_block ?_
       | refine at_next_exit ?_
       | refine at_next_ret ?_
       | refine at_block_exit ?_
       | refine at_block_other rfl ?_
       | refine at_block_ret ?_
       | refine at_loop_exit ?_
       | refine at_loop_ret ?_)
    | (refine idW ?_
       first
       | refine W_seq ?_
       | refine W_region ?_
       | refine W_block ?_
       | refine W_skip ?_
       | refine W_exit ?_
       | refine W_ret ?_
       | refine W_condT rfl (by first | (with_reducible rfl) | decide) ?_
       | refine W_condF rfl (by first | (with_reducible rfl) | decide) ?_))
  refine W_loop (α := Nat × Value) (fun p => [(0, .int .i64 (n / 2 ^ p.1)), (1, .int .i64 (m : Int)), (5, p.2), (6, .int .i64 (p.1 : Int))])
    (fun p w' => p.1 ≤ m ∧ Ext w w' ∧ w'.ownsRow w.heap.size 3 1 p.2 p.1 ((cho n p.1).map (.int .i64))) (fun p => m - p.1) (0, .slice (some ⟨w.heap.size, 0, none⟩) 0 0)
    (by refine And.intro ?_ (And.intro rfl (And.intro rfl (And.intro rfl trivial))); simp; rfl) ⟨Nat.zero_le _, he0, owns_empty hb0 (Nat.le_refl _)⟩ ?_
  rintro ⟨i, v⟩ w1 ⟨hi, he, hown⟩
  simp only at hi he hown ⊢
  repeat (first
    | (refine idWO ?_
       first
       | refine WO_simple rfl ?_
       | (refine idG ?_
          first
          | refine WO_yes rfl rfl (by first | (with_reducible rfl) | decide) ?_
          | refine WO_no rfl rfl (by first | (with_reducible rfl) | decide) ?_
          | refine WO_noU rfl rfl ?_)
       | (refine idFA ?_
          first
          | refine WO_fieldAddr0 rfl rfl ?_
          | refine WO_fieldAddr rfl rfl ?_)
       | (refine idLd ?_
          first
          | refine WO_loadB rfl (by assumption) (by rfl) ?_
          | refine WO_load1 rfl (by assumption) ?_)
       | (refine idPk ?_
          first
          | refine WO_p (q_pickT rfl (by first | (with_reducible rfl) | decide) rfl) ?_
          | refine WO_p (q_pickF rfl (by first | (with_reducible rfl) | decide) rfl) ?_)
       | (refine idBi ?_
          first
          | refine WO_lenSl rfl ?_
          | refine WO_lenStr rfl ?_)
       | (refine idBo ?_
          first
          | refine WO_add rfl rfl (by omega) ?_
          | refine WO_sub rfl rfl (by omega) ?_
          | refine WO_mul rfl rfl (by omega) ?_
          | refine WO_rem rfl rfl (by omega) (by omega) ?_
          | refine WO_quo rfl rfl (by omega) (by omega) (by omega) ?_
          | refine WO_p (q_neBool rfl rfl) ?_
          | refine WO_p (q_eqBool rfl rfl) ?_)
       | (refine idCv ?_; refine WO_p (q_convert rfl (wrap_i64_in ⟨by omega, by omega⟩)) ?_)
       | (refine idBuild ?_; refine WO_p (q_build rfl (by rfl) (by simp only [fillS, List.set_cons_zero, List.set_cons_succ]; rfl)) ?_)
       | refine WO_nil ?_)
    | (refine idAt ?_
       first
       | refine at_next ?_
       | refine at_block ?_
       | refine at_next_exit ?_
       | refine at_next_ret ?_
       | refine at_block_exit ?_
       | refine at_block_other rfl ?_
       | refine at_block_ret ?_
       | refine at_loop_exit ?_
       | refine at_loop_ret ?_)
    | (refine idW ?_
       first
       | refine W_seq ?_
       | refine W_region ?_
       | refine W_block ?_
       | refine W_skip ?_
       | refine W_exit ?_
       | refine W_ret ?_
       | refine W_condT rfl (by first | (with_reducible rfl) | decide) ?_
       | refine W_condF rfl (by first | (with_reducible rfl) | decide) ?_))
  refine W_cond rfl (fun hc => ?_) (fun hc => ?_)
  · have hlt : i < m := by simpa using hc
    have hb := div_pow_bounds n i hn
    repeat (first
      | (refine idWO ?_
         first
         | refine WO_simple rfl ?_
         | (refine idG ?_
            first
            | refine WO_yes rfl rfl (by first | (with_reducible rfl) | decide) ?_
            | refine WO_no rfl rfl (by first | (with_reducible rfl) | decide) ?_
            | refine WO_noU rfl rfl ?_)
         | (refine idFA ?_
            first
            | refine WO_fieldAddr0 rfl rfl ?_
            | refine WO_fieldAddr rfl rfl ?_)
         | (refine idLd ?_
            first
            | refine WO_loadB rfl (by assumption) (by rfl) ?_
            | refine WO_load1 rfl (by assumption) ?_)
         | (refine idPk ?_
            first
            | refine WO_p (q_pickT rfl (by first | (with_reducible rfl) | decide) rfl) ?_
            | refine WO_p (q_pickF rfl (by first | (with_reducible rfl) | decide) rfl) ?_)
         | (refine idBi ?_
            first
            | refine WO_lenSl rfl ?_
            | refine WO_lenStr rfl ?_)
         | (refine idBo ?_
            first
            | refine WO_add rfl rfl (by omega) ?_
            | refine WO_sub rfl rfl (by omega) ?_
            | refine WO_mul rfl rfl (by omega) ?_
            | refine WO_rem rfl rfl (by omega) (by omega) ?_
            | refine WO_quo rfl rfl (by omega) (by omega) (by omega) ?_
            | refine WO_p (q_neBool rfl rfl) ?_
            | refine WO_p (q_eqBool rfl rfl) ?_)
         | (refine idCv ?_; refine WO_p (q_convert rfl (wrap_i64_in ⟨by omega, by omega⟩)) ?_)
         | (refine idBuild ?_; refine WO_p (q_build rfl (by rfl) (by simp only [fillS, List.set_cons_zero, List.set_cons_succ]; rfl)) ?_)
         | refine WO_nil ?_)
      | (refine idAt ?_
         first
         | refine at_next ?_
         | refine at_block ?_
         | refine at_next_exit ?_
         | refine at_next_ret ?_
         | refine at_block_exit ?_
         | refine at_block_other rfl ?_
         | refine at_block_ret ?_
         | refine at_loop_exit ?_
         | refine at_loop_ret ?_)
      | (refine idW ?_
         first
         | refine W_seq ?_
         | refine W_region ?_
         | refine W_block ?_
         | refine W_skip ?_
         | refine W_exit ?_
         | refine W_ret ?_
         | refine W_condT rfl (by first | (with_reducible rfl) | decide) ?_
         | refine W_condF rfl (by first | (with_reducible rfl) | decide) ?_))
    refine WO_app1 (m := i) rfl rfl one_int rfl hown he.size rfl (by omega) (by decide) fun v' w2 hown2 hg hat => ?_
    repeat (first
      | (refine idWO ?_
         first
         | refine WO_simple rfl ?_
         | (refine idG ?_
            first
            | refine WO_yes rfl rfl (by first | (with_reducible rfl) | decide) ?_
            | refine WO_no rfl rfl (by first | (with_reducible rfl) | decide) ?_
            | refine WO_noU rfl rfl ?_)
         | (refine idFA ?_
            first
            | refine WO_fieldAddr0 rfl rfl ?_
            | refine WO_fieldAddr rfl rfl ?_)
         | (refine idLd ?_
            first
            | refine WO_loadB rfl (by assumption) (by rfl) ?_
            | refine WO_load1 rfl (by assumption) ?_)
         | (refine idPk ?_
            first
            | refine WO_p (q_pickT rfl (by first | (with_reducible rfl) | decide) rfl) ?_
            | refine WO_p (q_pickF rfl (by first | (with_reducible rfl) | decide) rfl) ?_)
         | (refine idBi ?_
            first
            | refine WO_lenSl rfl ?_
            | refine WO_lenStr rfl ?_)
         | (refine idBo ?_
            first
            | refine WO_add rfl rfl (by omega) ?_
            | refine WO_sub rfl rfl (by omega) ?_
            | refine WO_mul rfl rfl (by omega) ?_
            | refine WO_rem rfl rfl (by omega) (by omega) ?_
            | refine WO_quo rfl rfl (by omega) (by omega) (by omega) ?_
            | refine WO_p (q_neBool rfl rfl) ?_
            | refine WO_p (q_eqBool rfl rfl) ?_)
         | (refine idCv ?_; refine WO_p (q_convert rfl (wrap_i64_in ⟨by omega, by omega⟩)) ?_)
         | (refine idBuild ?_; refine WO_p (q_build rfl (by rfl) (by simp only [fillS, List.set_cons_zero, List.set_cons_succ]; rfl)) ?_)
         | refine WO_nil ?_)
      | (refine idAt ?_
         first
         | refine at_next ?_
         | refine at_block ?_
         | refine at_next_exit ?_
         | refine at_next_ret ?_
         | refine at_block_exit ?_
         | refine at_block_other rfl ?_
         | refine at_block_ret ?_
         | refine at_loop_exit ?_
         | refine at_loop_ret ?_)
      | (refine idW ?_
         first
         | refine W_seq ?_
         | refine W_region ?_
         | refine W_block ?_
         | refine W_skip ?_
         | refine W_exit ?_
         | refine W_ret ?_
         | refine W_condT rfl (by first | (with_reducible rfl) | decide) ?_
         | refine W_condF rfl (by first | (with_reducible rfl) | decide) ?_))
    refine at_loop (i + 1, v') (by refine And.intro ?_ (And.intro rfl (And.intro rfl (And.intro rfl trivial))); simp only [← div_pow_step]; rfl) ⟨by simp only; omega, grown_below he hown hg (Nat.le_refl _), ?_⟩ (by simp only; omega)
    simp only
    rw [cho_succ, List.map_append]
    exact hown2
  · have hge : i = m := by simp at hc; omega
    subst hge
    repeat (first
      | (refine idWO ?_
         first
         | refine WO_simple rfl ?_
         | (refine idG ?_
            first
            | refine WO_yes rfl rfl (by first | (with_reducible rfl) | decide) ?_
            | refine WO_no rfl rfl (by first | (with_reducible rfl) | decide) ?_
            | refine WO_noU rfl rfl ?_)
         | (refine idFA ?_
            first
            | refine WO_fieldAddr0 rfl rfl ?_
            | refine WO_fieldAddr rfl rfl ?_)
         | (refine idLd ?_
            first
            | refine WO_loadB rfl (by assumption) (by rfl) ?_
            | refine WO_load1 rfl (by assumption) ?_)
         | (refine idPk ?_
            first
            | refine WO_p (q_pickT rfl (by first | (with_reducible rfl) | decide) rfl) ?_
            | refine WO_p (q_pickF rfl (by first | (with_reducible rfl) | decide) rfl) ?_)
         | (refine idBi ?_
            first
            | refine WO_lenSl rfl ?_
            | refine WO_lenStr rfl ?_)
         | (refine idBo ?_
            first
            | refine WO_add rfl rfl (by omega) ?_
            | refine WO_sub rfl rfl (by omega) ?_
            | refine WO_mul rfl rfl (by omega) ?_
            | refine WO_rem rfl rfl (by omega) (by omega) ?_
            | refine WO_quo rfl rfl (by omega) (by omega) (by omega) ?_
            | refine WO_p (q_neBool rfl rfl) ?_
            | refine WO_p (q_eqBool rfl rfl) ?_)
         | (refine idCv ?_; refine WO_p (q_convert rfl (wrap_i64_in ⟨by omega, by omega⟩)) ?_)
         | (refine idBuild ?_; refine WO_p (q_build rfl (by rfl) (by simp only [fillS, List.set_cons_zero, List.set_cons_succ]; rfl)) ?_)
         | refine WO_nil ?_)
      | (refine idAt ?_
         first
         | refine at_next ?_
         | refine at_block ?_
         | refine at_next_exit ?_
         | refine at_next_ret ?_
         | refine at_block_exit ?_
         | refine at_block_other rfl ?_
         | refine at_block_ret ?_
         | refine at_loop_exit ?_
         | refine at_loop_ret ?_)
      | (refine idW ?_
         first
         | refine W_seq ?_
         | refine W_region ?_
         | refine W_block ?_
         | refine W_skip ?_
         | refine W_exit ?_
         | refine W_ret ?_
         | refine W_condT rfl (by first | (with_reducible rfl) | decide) ?_
         | refine W_condF rfl (by first | (with_reducible rfl) | decide) ?_))
    obtain ⟨F, hF, hB, _⟩ := OwnI.of_row hown (cho_length n i).symm (by rw [cho_length]; unfold maxI; omega)
    exact at_ret1 rfl rfl ⟨⟨F, hF, hB⟩, he⟩
theorem sChoicesOf_ret (n len : Int) (w : World) (hn : -9223372036854775808 ≤ n) (hn2 : n ≤ 9223372036854775807) :
    Ret Try.prog 13 [.int .i64 n, .int .i64 len] w (NewInts (choOf n len) w) := by
  have hnil : ∀ w', Ext w w' → Blk w' w.heap.size [] 3 → ¬ (0 ≤ len ∧ len ≤ 6 ∧ 0 ≤ n ∧ n < 2 ^ len.toNat) → NewInts (choOf n len) w (.slice (some ⟨w.heap.size, 0, none⟩) 0 0) w' := by
    intro w' he hb h
    unfold choOf
    rw [if_neg h]
    exact ⟨⟨[w.heap.size], ⟨_, 0, rfl, by simp [maxI], .inr ⟨_, 0, [], _, rfl, rfl, hb, by simp, by simp⟩⟩, by simp⟩, he⟩
  by_cases hl : 0 ≤ len ∧ len ≤ 6
  · by_cases hn0 : 0 ≤ n
    · refine enter Try.func13 rfl Try.ntmps13 rfl rfl ?_
      repeat' (first
        | (refine idWO ?_
           first
           | refine WO_simple rfl ?_
           | (refine idG ?_
              first
              | refine WO_yes rfl rfl (by first | (with_reducible rfl) | decide) ?_
              | refine WO_no rfl rfl (by first | (with_reducible rfl) | decide) ?_
              | refine WO_noU rfl rfl ?_
              | ((refine WO_split rfl rfl (fun c' hc' => ?_)); cases c' <;> (try simp only [decide_eq_true_eq, decide_eq_false_iff_not, beq_iff_eq, beq_eq_false_iff_ne, bne_iff_ne, bne_eq_false_iff_eq, ne_eq, gt_iff_lt, ge_iff_le, Int.not_lt, Int.not_le, Bool.not_eq_true', Bool.not_eq_false', Bool.not_true, Bool.not_false, reduceCtorEq, Decidable.not_not, Bool.true_eq_false, Bool.false_eq_true] at hc') <;> (try (exfalso; omega))))
           | (refine idFA ?_
              first
              | refine WO_fieldAddr0 rfl rfl ?_
              | refine WO_fieldAddr rfl rfl ?_)
           | (refine idLd ?_
              first
              | refine WO_loadB rfl (by assumption) (by rfl) ?_
              | refine WO_load1 rfl (by assumption) ?_)
           | (refine idPk ?_
              first
              | refine WO_p (q_pickT rfl (by first | (with_reducible rfl) | decide) rfl) ?_
              | refine WO_p (q_pickF rfl (by first | (with_reducible rfl) | decide) rfl) ?_)
           | (refine idBi ?_
              first
              | refine WO_lenSl rfl ?_
              | refine WO_lenStr rfl ?_)
           | (refine idBo ?_
              first
              | refine WO_add rfl rfl (by omega) ?_
              | refine WO_sub rfl rfl (by omega) ?_
              | refine WO_mul rfl rfl (by omega) ?_
              | refine WO_rem rfl rfl (by omega) (by omega) ?_
              | refine WO_quo rfl rfl (by omega) (by omega) (by omega) ?_
              | refine WO_p (q_neBool rfl rfl) ?_
              | refine WO_p (q_eqBool rfl rfl) ?_)
           | (refine idCv ?_; refine WO_p (q_convert rfl (wrap_i64_in ⟨by omega, by omega⟩)) ?_)
           | (refine idBuild ?_; refine WO_p (q_build rfl (by rfl) (by simp only [fillS, List.set_cons_zero, List.set_cons_succ]; rfl)) ?_)
           | refine WO_nil ?_)
        | (refine idAt ?_
           first
           | refine at_next ?_
           | refine at_block ?_
           | refine at_next_exit ?_
           | refine at_next_ret ?_
           | refine at_block_exit ?_
           | refine at_block_other rfl ?_
           | refine at_block_ret ?_
           | refine at_loop_exit ?_
           | refine at_loop_ret ?_)
        | (refine idW ?_
           first
           | refine W_seq ?_
           | refine W_region ?_
           | refine W_block ?_
           | refine W_skip ?_
           | refine W_exit ?_
           | refine W_ret ?_
           | refine W_condT rfl (by first | (with_reducible rfl) | decide) ?_
           | refine W_condF rfl (by first | (with_reducible rfl) | decide) ?_
           | ((refine W_cond rfl (fun hc' => ?_) (fun hc' => ?_)) <;> (try simp only [decide_eq_true_eq, decide_eq_false_iff_not, beq_iff_eq, beq_eq_false_iff_ne, bne_iff_ne, bne_eq_false_iff_eq, ne_eq, gt_iff_lt, ge_iff_le, Int.not_lt, Int.not_le, Bool.not_eq_true', Bool.not_eq_false', Bool.not_true, Bool.not_false, reduceCtorEq, Decidable.not_not, Bool.true_eq_false, Bool.false_eq_true] at hc') <;> (try (exfalso; omega)))))
      refine WO_call rfl (l8Runs_ret len w hl.1 hl.2) ?_
      rintro v w' ⟨rfl, rfl⟩
      by_cases hlt : n < 2 ^ len.toNat
      · repeat (first
          | (refine idWO ?_
             first
             | refine WO_simple rfl ?_
             | (refine idG ?_
                first
                | refine WO_yes rfl rfl (by first | (with_reducible rfl) | decide) ?_
                | refine WO_no rfl rfl (by first | (with_reducible rfl) | decide) ?_
                | refine WO_noU rfl rfl ?_)
             | (refine idFA ?_
                first
                | refine WO_fieldAddr0 rfl rfl ?_
                | refine WO_fieldAddr rfl rfl ?_)
             | (refine idLd ?_
                first
                | refine WO_loadB rfl (by assumption) (by rfl) ?_
                | refine WO_load1 rfl (by assumption) ?_)
             | (refine idPk ?_
                first
                | refine WO_p (q_pickT rfl (by first | (with_reducible rfl) | decide) rfl) ?_
                | refine WO_p (q_pickF rfl (by first | (with_reducible rfl) | decide) rfl) ?_)
             | (refine idBi ?_
                first
                | refine WO_lenSl rfl ?_
                | refine WO_lenStr rfl ?_)
             | (refine idBo ?_
                first
                | refine WO_add rfl rfl (by omega) ?_
                | refine WO_sub rfl rfl (by omega) ?_
                | refine WO_mul rfl rfl (by omega) ?_
                | refine WO_rem rfl rfl (by omega) (by omega) ?_
                | refine WO_quo rfl rfl (by omega) (by omega) (by omega) ?_
                | refine WO_p (q_neBool rfl rfl) ?_
                | refine WO_p (q_eqBool rfl rfl) ?_)
             | (refine idCv ?_; refine WO_p (q_convert rfl (wrap_i64_in ⟨by omega, by omega⟩)) ?_)
             | (refine idBuild ?_; refine WO_p (q_build rfl (by rfl) (by simp only [fillS, List.set_cons_zero, List.set_cons_succ]; rfl)) ?_)
             | refine WO_nil ?_)
          | (refine idAt ?_
             first
             | refine at_next ?_
             | refine at_block ?_
             | refine at_next_exit ?_
             | refine at_next_ret ?_
             | refine at_block_exit ?_
             | refine at_block_other rfl ?_
             | refine at_block_ret ?_
             | refine at_loop_exit ?_
             | refine at_loop_ret ?_)
          | (refine idW ?_
             first
             | refine W_seq ?_
             | refine W_region ?_
             | refine W_block ?_
             | refine W_skip ?_
             | refine W_exit ?_
             | refine W_ret ?_
             | refine W_condT rfl (by first | (with_reducible rfl) | decide) ?_
             | refine W_condF rfl (by first | (with_reducible rfl) | decide) ?_))
        refine W_condF rfl (by simp; omega) ?_
        repeat (first
          | (refine idWO ?_
             first
             | refine WO_simple rfl ?_
             | (refine idG ?_
                first
                | refine WO_yes rfl rfl (by first | (with_reducible rfl) | decide) ?_
                | refine WO_no rfl rfl (by first | (with_reducible rfl) | decide) ?_
                | refine WO_noU rfl rfl ?_)
             | (refine idFA ?_
                first
                | refine WO_fieldAddr0 rfl rfl ?_
                | refine WO_fieldAddr rfl rfl ?_)
             | (refine idLd ?_
                first
                | refine WO_loadB rfl (by assumption) (by rfl) ?_
                | refine WO_load1 rfl (by assumption) ?_)
             | (refine idPk ?_
                first
                | refine WO_p (q_pickT rfl (by first | (with_reducible rfl) | decide) rfl) ?_
                | refine WO_p (q_pickF rfl (by first | (with_reducible rfl) | decide) rfl) ?_)
             | (refine idBi ?_
                first
                | refine WO_lenSl rfl ?_
                | refine WO_lenStr rfl ?_)
             | (refine idBo ?_
                first
                | refine WO_add rfl rfl (by omega) ?_
                | refine WO_sub rfl rfl (by omega) ?_
                | refine WO_mul rfl rfl (by omega) ?_
                | refine WO_rem rfl rfl (by omega) (by omega) ?_
                | refine WO_quo rfl rfl (by omega) (by omega) (by omega) ?_
                | refine WO_p (q_neBool rfl rfl) ?_
                | refine WO_p (q_eqBool rfl rfl) ?_)
             | (refine idCv ?_; refine WO_p (q_convert rfl (wrap_i64_in ⟨by omega, by omega⟩)) ?_)
             | (refine idBuild ?_; refine WO_p (q_build rfl (by rfl) (by simp only [fillS, List.set_cons_zero, List.set_cons_succ]; rfl)) ?_)
             | refine WO_nil ?_)
          | (refine idAt ?_
             first
             | refine at_next ?_
             | refine at_block ?_
             | refine at_next_exit ?_
             | refine at_next_ret ?_
             | refine at_block_exit ?_
             | refine at_block_other rfl ?_
             | refine at_block_ret ?_
             | refine at_loop_exit ?_
             | refine at_loop_ret ?_)
          | (refine idW ?_
             first
             | refine W_seq ?_
             | refine W_region ?_
             | refine W_block ?_
             | refine W_skip ?_
             | refine W_exit ?_
             | refine W_ret ?_
             | refine W_condT rfl (by first | (with_reducible rfl) | decide) ?_
             | refine W_condF rfl (by first | (with_reducible rfl) | decide) ?_))
        refine WO_call rfl (l8Choices_ret n len w' hn0 hn2 hl.1 hl.2) ?_
        intro v w3 h3
        repeat (first
          | (refine idWO ?_
             first
             | refine WO_simple rfl ?_
             | (refine idG ?_
                first
                | refine WO_yes rfl rfl (by first | (with_reducible rfl) | decide) ?_
                | refine WO_no rfl rfl (by first | (with_reducible rfl) | decide) ?_
                | refine WO_noU rfl rfl ?_)
             | (refine idFA ?_
                first
                | refine WO_fieldAddr0 rfl rfl ?_
                | refine WO_fieldAddr rfl rfl ?_)
             | (refine idLd ?_
                first
                | refine WO_loadB rfl (by assumption) (by rfl) ?_
                | refine WO_load1 rfl (by assumption) ?_)
             | (refine idPk ?_
                first
                | refine WO_p (q_pickT rfl (by first | (with_reducible rfl) | decide) rfl) ?_
                | refine WO_p (q_pickF rfl (by first | (with_reducible rfl) | decide) rfl) ?_)
             | (refine idBi ?_
                first
                | refine WO_lenSl rfl ?_
                | refine WO_lenStr rfl ?_)
             | (refine idBo ?_
                first
                | refine WO_add rfl rfl (by omega) ?_
                | refine WO_sub rfl rfl (by omega) ?_
                | refine WO_mul rfl rfl (by omega) ?_
                | refine WO_rem rfl rfl (by omega) (by omega) ?_
                | refine WO_quo rfl rfl (by omega) (by omega) (by omega) ?_
                | refine WO_p (q_neBool rfl rfl) ?_
                | refine WO_p (q_eqBool rfl rfl) ?_)
             | (refine idCv ?_; refine WO_p (q_convert rfl (wrap_i64_in ⟨by omega, by omega⟩)) ?_)
             | (refine idBuild ?_; refine WO_p (q_build rfl (by rfl) (by simp only [fillS, List.set_cons_zero, List.set_cons_succ]; rfl)) ?_)
             | refine WO_nil ?_)
          | (refine idAt ?_
             first
             | refine at_next ?_
             | refine at_block ?_
             | refine at_next_exit ?_
             | refine at_next_ret ?_
             | refine at_block_exit ?_
             | refine at_block_other rfl ?_
             | refine at_block_ret ?_
             | refine at_loop_exit ?_
             | refine at_loop_ret ?_)
          | (refine idW ?_
             first
             | refine W_seq ?_
             | refine W_region ?_
             | refine W_block ?_
             | refine W_skip ?_
             | refine W_exit ?_
             | refine W_ret ?_
             | refine W_condT rfl (by first | (with_reducible rfl) | decide) ?_
             | refine W_condF rfl (by first | (with_reducible rfl) | decide) ?_))
        refine at_ret1 rfl rfl ?_
        have : choOf n len = cho n len.toNat := by
          unfold choOf
          rw [if_pos ⟨hl.1, hl.2, hn0, hlt⟩]
        rw [this]
        exact h3
      · repeat (first
          | (refine idWO ?_
             first
             | refine WO_simple rfl ?_
             | (refine idG ?_
                first
                | refine WO_yes rfl rfl (by first | (with_reducible rfl) | decide) ?_
                | refine WO_no rfl rfl (by first | (with_reducible rfl) | decide) ?_
                | refine WO_noU rfl rfl ?_)
             | (refine idFA ?_
                first
                | refine WO_fieldAddr0 rfl rfl ?_
                | refine WO_fieldAddr rfl rfl ?_)
             | (refine idLd ?_
                first
                | refine WO_loadB rfl (by assumption) (by rfl) ?_
                | refine WO_load1 rfl (by assumption) ?_)
             | (refine idPk ?_
                first
                | refine WO_p (q_pickT rfl (by first | (with_reducible rfl) | decide) rfl) ?_
                | refine WO_p (q_pickF rfl (by first | (with_reducible rfl) | decide) rfl) ?_)
             | (refine idBi ?_
                first
                | refine WO_lenSl rfl ?_
                | refine WO_lenStr rfl ?_)
             | (refine idBo ?_
                first
                | refine WO_add rfl rfl (by omega) ?_
                | refine WO_sub rfl rfl (by omega) ?_
                | refine WO_mul rfl rfl (by omega) ?_
                | refine WO_rem rfl rfl (by omega) (by omega) ?_
                | refine WO_quo rfl rfl (by omega) (by omega) (by omega) ?_
                | refine WO_p (q_neBool rfl rfl) ?_
                | refine WO_p (q_eqBool rfl rfl) ?_)
             | (refine idCv ?_; refine WO_p (q_convert rfl (wrap_i64_in ⟨by omega, by omega⟩)) ?_)
             | (refine idBuild ?_; refine WO_p (q_build rfl (by rfl) (by simp only [fillS, List.set_cons_zero, List.set_cons_succ]; rfl)) ?_)
             | refine WO_nil ?_)
          | (refine idAt ?_
             first
             | refine at_next ?_
             | refine at_block ?_
             | refine at_next_exit ?_
             | refine at_next_ret ?_
             | refine at_block_exit ?_
             | refine at_block_other rfl ?_
             | refine at_block_ret ?_
             | refine at_loop_exit ?_
             | refine at_loop_ret ?_)
          | (refine idW ?_
             first
             | refine W_seq ?_
             | refine W_region ?_
             | refine W_block ?_
             | refine W_skip ?_
             | refine W_exit ?_
             | refine W_ret ?_
             | refine W_condT rfl (by first | (with_reducible rfl) | decide) ?_
             | refine W_condF rfl (by first | (with_reducible rfl) | decide) ?_))
        refine W_condT rfl (by simp; omega) ?_
        repeat (first
          | (refine idWO ?_
             first
             | refine WO_simple rfl ?_
             | (refine idG ?_
                first
                | refine WO_yes rfl rfl (by first | (with_reducible rfl) | decide) ?_
                | refine WO_no rfl rfl (by first | (with_reducible rfl) | decide) ?_
                | refine WO_noU rfl rfl ?_)
             | (refine idFA ?_
                first
                | refine WO_fieldAddr0 rfl rfl ?_
                | refine WO_fieldAddr rfl rfl ?_)
             | (refine idLd ?_
                first
                | refine WO_loadB rfl (by assumption) (by rfl) ?_
                | refine WO_load1 rfl (by assumption) ?_)
             | (refine idPk ?_
                first
                | refine WO_p (q_pickT rfl (by first | (with_reducible rfl) | decide) rfl) ?_
                | refine WO_p (q_pickF rfl (by first | (with_reducible rfl) | decide) rfl) ?_)
             | (refine idBi ?_
                first
                | refine WO_lenSl rfl ?_
                | refine WO_lenStr rfl ?_)
             | (refine idBo ?_
                first
                | refine WO_add rfl rfl (by omega) ?_
                | refine WO_sub rfl rfl (by omega) ?_
                | refine WO_mul rfl rfl (by omega) ?_
                | refine WO_rem rfl rfl (by omega) (by omega) ?_
                | refine WO_quo rfl rfl (by omega) (by omega) (by omega) ?_
                | refine WO_p (q_neBool rfl rfl) ?_
                | refine WO_p (q_eqBool rfl rfl) ?_)
             | (refine idCv ?_; refine WO_p (q_convert rfl (wrap_i64_in ⟨by omega, by omega⟩)) ?_)
             | (refine idBuild ?_; refine WO_p (q_build rfl (by rfl) (by simp only [fillS, List.set_cons_zero, List.set_cons_succ]; rfl)) ?_)
             | refine WO_nil ?_)
          | (refine idAt ?_
             first
             | refine at_next ?_
             | refine at_block ?_
             | refine at_next_exit ?_
             | refine at_next_ret ?_
             | refine at_block_exit ?_
             | refine at_block_other rfl ?_
             | refine at_block_ret ?_
             | refine at_loop_exit ?_
             | refine at_loop_ret ?_)
          | (refine idW ?_
             first
             | refine W_seq ?_
             | refine W_region ?_
             | refine W_block ?_
             | refine W_skip ?_
             | refine W_exit ?_
             | refine W_ret ?_
             | refine W_condT rfl (by first | (with_reducible rfl) | decide) ?_
             | refine W_condF rfl (by first | (with_reducible rfl) | decide) ?_))
        refine WO_build0 fun w0 hb0 he0 hz0 => ?_
        repeat (first
          | (refine idWO ?_
             first
             | refine WO_simple rfl ?_
             | (refine idG ?_
                first
                | refine WO_yes rfl rfl (by first | (with_reducible rfl) | decide) ?_
                | refine WO_no rfl rfl (by first | (with_reducible rfl) | decide) ?_
                | refine WO_noU rfl rfl ?_)
             | (refine idFA ?_
                first
                | refine WO_fieldAddr0 rfl rfl ?_
                | refine WO_fieldAddr rfl rfl ?_)
             | (refine idLd ?_
                first
                | refine WO_loadB rfl (by assumption) (by rfl) ?_
                | refine WO_load1 rfl (by assumption) ?_)
             | (refine idPk ?_
                first
                | refine WO_p (q_pickT rfl (by first | (with_reducible rfl) | decide) rfl) ?_
                | refine WO_p (q_pickF rfl (by first | (with_reducible rfl) | decide) rfl) ?_)
             | (refine idBi ?_
                first
                | refine WO_lenSl rfl ?_
                | refine WO_lenStr rfl ?_)
             | (refine idBo ?_
                first
                | refine WO_add rfl rfl (by omega) ?_
                | refine WO_sub rfl rfl (by omega) ?_
                | refine WO_mul rfl rfl (by omega) ?_
                | refine WO_rem rfl rfl (by omega) (by omega) ?_
                | refine WO_quo rfl rfl (by omega) (by omega) (by omega) ?_
                | refine WO_p (q_neBool rfl rfl) ?_
                | refine WO_p (q_eqBool rfl rfl) ?_)
             | (refine idCv ?_; refine WO_p (q_convert rfl (wrap_i64_in ⟨by omega, by omega⟩)) ?_)
             | (refine idBuild ?_; refine WO_p (q_build rfl (by rfl) (by simp only [fillS, List.set_cons_zero, List.set_cons_succ]; rfl)) ?_)
             | refine WO_nil ?_)
          | (refine idAt ?_
             first
             | refine at_next ?_
             | refine at_block ?_
             | refine at_next_exit ?_
             | refine at_next_ret ?_
             | refine at_block_exit ?_
             | refine at_block_other rfl ?_
             | refine at_block_ret ?_
             | refine at_loop_exit ?_
             | refine at_loop_ret ?_)
          | (refine idW ?_
             first
             | refine W_seq ?_
             | refine W_region ?_
             | refine W_block ?_
             | refine W_skip ?_
             | refine W_exit ?_
             | refine W_ret ?_
             | refine W_condT rfl (by first | (with_reducible rfl) | decide) ?_
             | refine W_condF rfl (by first | (with_reducible rfl) | decide) ?_))
        exact at_ret1 rfl rfl (hnil _ he0 hb0 fun h => hlt h.2.2.2)
    · refine enter Try.func13 rfl Try.ntmps13 rfl rfl ?_
      repeat' (first
        | (refine idWO ?_
           first
           | refine WO_simple rfl ?_
           | (refine idG ?_
              first
              | refine WO_yes rfl rfl (by first | (with_reducible rfl) | decide) ?_
              | refine WO_no rfl rfl (by first | (with_reducible rfl) | decide) ?_
              | refine WO_noU rfl rfl ?_
              | ((refine WO_split rfl rfl (fun c' hc' => ?_)); cases c' <;> (try simp only [decide_eq_true_eq, decide_eq_false_iff_not, beq_iff_eq, beq_eq_false_iff_ne, bne_iff_ne, bne_eq_false_iff_eq, ne_eq, gt_iff_lt, ge_iff_le, Int.not_lt, Int.not_le, Bool.not_eq_true', Bool.not_eq_false', Bool.not_true, Bool.not_false, reduceCtorEq, Decidable.not_not, Bool.true_eq_false, Bool.false_eq_true] at hc') <;> (try (exfalso; omega))))
           | (refine idFA ?_
              first
              | refine WO_fieldAddr0 rfl rfl ?_
              | refine WO_fieldAddr rfl rfl ?_)
           | (refine idLd ?_
              first
              | refine WO_loadB rfl (by assumption) (by rfl) ?_
              | refine WO_load1 rfl (by assumption) ?_)
           | (refine idPk ?_
              first
              | refine WO_p (q_pickT rfl (by first | (with_reducible rfl) | decide) rfl) ?_
              | refine WO_p (q_pickF rfl (by first | (with_reducible rfl) | decide) rfl) ?_)
           | (refine idBi ?_
              first
              | refine WO_lenSl rfl ?_
              | refine WO_lenStr rfl ?_)
           | (refine idBo ?_
              first
              | refine WO_add rfl rfl (by omega) ?_
              | refine WO_sub rfl rfl (by omega) ?_
              | refine WO_mul rfl rfl (by omega) ?_
              | refine WO_rem rfl rfl (by omega) (by omega) ?_
              | refine WO_quo rfl rfl (by omega) (by omega) (by omega) ?_
              | refine WO_p (q_neBool rfl rfl) ?_
              | refine WO_p (q_eqBool rfl rfl) ?_)
           | (refine idCv ?_; refine WO_p (q_convert rfl (wrap_i64_in ⟨by omega, by omega⟩)) ?_)
           | (refine idBuild ?_; refine WO_p (q_build rfl (by rfl) (by simp only [fillS, List.set_cons_zero, List.set_cons_succ]; rfl)) ?_)
           | refine WO_nil ?_)
        | (refine idAt ?_
           first
           | refine at_next ?_
           | refine at_block ?_
           | refine at_next_exit ?_
           | refine at_next_ret ?_
           | refine at_block_exit ?_
           | refine at_block_other rfl ?_
           | refine at_block_ret ?_
           | refine at_loop_exit ?_
           | refine at_loop_ret ?_)
        | (refine idW ?_
           first
           | refine W_seq ?_
           | refine W_region ?_
           | refine W_block ?_
           | refine W_skip ?_
           | refine W_exit ?_
           | refine W_ret ?_
           | refine W_condT rfl (by first | (with_reducible rfl) | decide) ?_
           | refine W_condF rfl (by first | (with_reducible rfl) | decide) ?_
           | ((refine W_cond rfl (fun hc' => ?_) (fun hc' => ?_)) <;> (try simp only [decide_eq_true_eq, decide_eq_false_iff_not, beq_iff_eq, beq_eq_false_iff_ne, bne_iff_ne, bne_eq_false_iff_eq, ne_eq, gt_iff_lt, ge_iff_le, Int.not_lt, Int.not_le, Bool.not_eq_true', Bool.not_eq_false', Bool.not_true, Bool.not_false, reduceCtorEq, Decidable.not_not, Bool.true_eq_false, Bool.false_eq_true] at hc') <;> (try (exfalso; omega)))))
      all_goals
        refine WO_build0 fun w0 hb0 he0 hz0 => ?_
        repeat (first
          | (refine idWO ?_
             first
             | refine WO_simple rfl ?_
             | (refine idG ?_
                first
                | refine WO_yes rfl rfl (by first | (with_reducible rfl) | decide) ?_
                | refine WO_no rfl rfl (by first | (with_reducible rfl) | decide) ?_
                | refine WO_noU rfl rfl ?_)
             | (refine idFA ?_
                first
                | refine WO_fieldAddr0 rfl rfl ?_
                | refine WO_fieldAddr rfl rfl ?_)
             | (refine idLd ?_
                first
                | refine WO_loadB rfl (by assumption) (by rfl) ?_
                | refine WO_load1 rfl (by assumption) ?_)
             | (refine idPk ?_
                first
                | refine WO_p (q_pickT rfl (by first | (with_reducible rfl) | decide) rfl) ?_
                | refine WO_p (q_pickF rfl (by first | (with_reducible rfl) | decide) rfl) ?_)
             | (refine idBi ?_
                first
                | refine WO_lenSl rfl ?_
                | refine WO_lenStr rfl ?_)
             | (refine idBo ?_
                first
                | refine WO_add rfl rfl (by omega) ?_
                | refine WO_sub rfl rfl (by omega) ?_
                | refine WO_mul rfl rfl (by omega) ?_
                | refine WO_rem rfl rfl (by omega) (by omega) ?_
                | refine WO_quo rfl rfl (by omega) (by omega) (by omega) ?_
                | refine WO_p (q_neBool rfl rfl) ?_
                | refine WO_p (q_eqBool rfl rfl) ?_)
             | (refine idCv ?_; refine WO_p (q_convert rfl (wrap_i64_in ⟨by omega, by omega⟩)) ?_)
             | (refine idBuild ?_; refine WO_p (q_build rfl (by rfl) (by simp only [fillS, List.set_cons_zero, List.set_cons_succ]; rfl)) ?_)
             | refine WO_nil ?_)
          | (refine idAt ?_
             first
             | refine at_next ?_
             | refine at_block ?_
             | refine at_next_exit ?_
             | refine at_next_ret ?_
             | refine at_block_exit ?_
             | refine at_block_other rfl ?_
             | refine at_block_ret ?_
             | refine at_loop_exit ?_
             | refine at_loop_ret ?_)
          | (refine idW ?_
             first
             | refine W_seq ?_
             | refine W_region ?_
             | refine W_block ?_
             | refine W_skip ?_
             | refine W_exit ?_
             | refine W_ret ?_
             | refine W_condT rfl (by first | (with_reducible rfl) | decide) ?_
             | refine W_condF rfl (by first | (with_reducible rfl) | decide) ?_))
        exact at_ret1 rfl rfl (hnil _ he0 hb0 fun h => hn0 h.2.2.1)
  · refine enter Try.func13 rfl Try.ntmps13 rfl rfl ?_
    repeat' (first
      | (refine idWO ?_
         first
         | refine WO_simple rfl ?_
         | (refine idG ?_
            first
            | refine WO_yes rfl rfl (by first | (with_reducible rfl) | decide) ?_
            | refine WO_no rfl rfl (by first | (with_reducible rfl) | decide) ?_
            | refine WO_noU rfl rfl ?_
            | ((refine WO_split rfl rfl (fun c' hc' => ?_)); cases c' <;> (try simp only [decide_eq_true_eq, decide_eq_false_iff_not, beq_iff_eq, beq_eq_false_iff_ne, bne_iff_ne, bne_eq_false_iff_eq, ne_eq, gt_iff_lt, ge_iff_le, Int.not_lt, Int.not_le, Bool.not_eq_true', Bool.not_eq_false', Bool.not_true, Bool.not_false, reduceCtorEq, Decidable.not_not, Bool.true_eq_false, Bool.false_eq_true] at hc') <;> (try (exfalso; omega))))
         | (refine idFA ?_
            first
            | refine WO_fieldAddr0 rfl rfl ?_
            | refine WO_fieldAddr rfl rfl ?_)
         | (refine idLd ?_
            first
            | refine WO_loadB rfl (by assumption) (by rfl) ?_
            | refine WO_load1 rfl (by assumption) ?_)
         | (refine idPk ?_
            first
            | refine WO_p (q_pickT rfl (by first | (with_reducible rfl) | decide) rfl) ?_
            | refine WO_p (q_pickF rfl (by first | (with_reducible rfl) | decide) rfl) ?_)
         | (refine idBi ?_
            first
            | refine WO_lenSl rfl ?_
            | refine WO_lenStr rfl ?_)
         | (refine idBo ?_
            first
            | refine WO_add rfl rfl (by omega) ?_
            | refine WO_sub rfl rfl (by omega) ?_
            | refine WO_mul rfl rfl (by omega) ?_
            | refine WO_rem rfl rfl (by omega) (by omega) ?_
            | refine WO_quo rfl rfl (by omega) (by omega) (by omega) ?_
            | refine WO_p (q_neBool rfl rfl) ?_
            | refine WO_p (q_eqBool rfl rfl) ?_)
         | (refine idCv ?_; refine WO_p (q_convert rfl (wrap_i64_in ⟨by omega, by omega⟩)) ?_)
         | (refine idBuild ?_; refine WO_p (q_build rfl (by rfl) (by simp only [fillS, List.set_cons_zero, List.set_cons_succ]; rfl)) ?_)
         | refine WO_nil ?_)
      | (refine idAt ?_
         first
         | refine at_next ?_
         | refine at_block ?_
         | refine at_next_exit ?_
         | refine at_next_ret ?_
         | refine at_block_exit ?_
         | refine at_block_other rfl ?_
         | refine at_block_ret ?_
         | refine at_loop_exit ?_
         | refine at_loop_ret ?_)
      | (refine idW ?_
         first
         | refine W_seq ?_
         | refine W_region ?_
         | refine W_block ?_
         | refine W_skip ?_
         | refine W_exit ?_
         | refine W_ret ?_
         | refine W_condT rfl (by first | (with_reducible rfl) | decide) ?_
         | refine W_condF rfl (by first | (with_reducible rfl) | decide) ?_
         | ((refine W_cond rfl (fun hc' => ?_) (fun hc' => ?_)) <;> (try simp only [decide_eq_true_eq, decide_eq_false_iff_not, beq_iff_eq, beq_eq_false_iff_ne, bne_iff_ne, bne_eq_false_iff_eq, ne_eq, gt_iff_lt, ge_iff_le, Int.not_lt, Int.not_le, Bool.not_eq_true', Bool.not_eq_false', Bool.not_true, Bool.not_false, reduceCtorEq, Decidable.not_not, Bool.true_eq_false, Bool.false_eq_true] at hc') <;> (try (exfalso; omega)))))
    all_goals
      refine WO_build0 fun w0 hb0 he0 hz0 => ?_
      repeat (first
        | (refine idWO ?_
           first
           | refine WO_simple rfl ?_
           | (refine idG ?_
              first
              | refine WO_yes rfl rfl (by first | (with_reducible rfl) | decide) ?_
              | refine WO_no rfl rfl (by first | (with_reducible rfl) | decide) ?_
              | refine WO_noU rfl rfl ?_)
           | (refine idFA ?_
              first
              | refine WO_fieldAddr0 rfl rfl ?_
              | refine WO_fieldAddr rfl rfl ?_)
           | (refine idLd ?_
              first
              | refine WO_loadB rfl (by assumption) (by rfl) ?_
              | refine WO_load1 rfl (by assumption) ?_)
           | (refine idPk ?_
              first
              | refine WO_p (q_pickT rfl (by first | (with_reducible rfl) | decide) rfl) ?_
              | refine WO_p (q_pickF rfl (by first | (with_reducible rfl) | decide) rfl) ?_)
           | (refine idBi ?_
              first
              | refine WO_lenSl rfl ?_
              | refine WO_lenStr rfl ?_)
           | (refine idBo ?_
              first
              | refine WO_add rfl rfl (by omega) ?_
              | refine WO_sub rfl rfl (by omega) ?_
              | refine WO_mul rfl rfl (by omega) ?_
              | refine WO_rem rfl rfl (by omega) (by omega) ?_
              | refine WO_quo rfl rfl (by omega) (by omega) (by omega) ?_
              | refine WO_p (q_neBool rfl rfl) ?_
              | refine WO_p (q_eqBool rfl rfl) ?_)
           | (refine idCv ?_; refine WO_p (q_convert rfl (wrap_i64_in ⟨by omega, by omega⟩)) ?_)
           | (refine idBuild ?_; refine WO_p (q_build rfl (by rfl) (by simp only [fillS, List.set_cons_zero, List.set_cons_succ]; rfl)) ?_)
           | refine WO_nil ?_)
        | (refine idAt ?_
           first
           | refine at_next ?_
           | refine at_block ?_
           | refine at_next_exit ?_
           | refine at_next_ret ?_
           | refine at_block_exit ?_
           | refine at_block_other rfl ?_
           | refine at_block_ret ?_
           | refine at_loop_exit ?_
           | refine at_loop_ret ?_)
        | (refine idW ?_
           first
           | refine W_seq ?_
           | refine W_region ?_
           | refine W_block ?_
           | refine W_skip ?_
           | refine W_exit ?_
           | refine W_ret ?_
           | refine W_condT rfl (by first | (with_reducible rfl) | decide) ?_
           | refine W_condF rfl (by first | (with_reducible rfl) | decide) ?_))
      exact at_ret1 rfl rfl (hnil _ he0 hb0 fun h => hl ⟨h.1, h.2.1⟩)
end Go.Proofs.Ytlikmgdggdapiaa
