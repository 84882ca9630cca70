/-
  What is proved here: the law FnIsReference returns true at every argument and leaves old memory as it was.
-/
import Derived.Test.YtlikmgdggdapiaaLawB
import Derived.Test.YtlikmgdggdapiaaScan
namespace Go.Proofs.Ytlikmgdggdapiaa
set_option linter.unusedVariables false
set_option linter.unusedSimpArgs false
set_option linter.unnecessarySimpa false
open Go.RowKit

theorem DrawIsReference_ret (v : Value) (w : World) (h : ByD w v) : Ret Try.prog 20 [v] w fun r w' => ∃ a : Int, r = .int .i64 a ∧ -1 ≤ a ∧ a ≤ 5 ∧ Ext w w' := by
  refine enter Try.func20 rfl Try.ntmps20 rfl rfl ?_
  repeat (first
    | (refine idWO ?_
       first
       | refine WO_simple rfl ?_
       | (refine idG ?_
          first
          | refine WO_yes rfl rfl (by first | (with_reducible rfl) | decide) ?_
          | refine WO_no rfl rfl (by first | (with_reducible rfl) | decide) ?_
          | refine WO_noU rfl rfl ?_)
       | (refine idFA ?_
          first
          | refine WO_fieldAddr0 rfl rfl ?_
          | refine WO_fieldAddr rfl rfl ?_)
       | (refine idLd ?_
          first
          | refine WO_loadB rfl (by assumption) (by rfl) ?_
          | refine WO_load1 rfl (by assumption) ?_)
       | (refine idPk ?_
          first
          | refine WO_p (q_pickT rfl (by first | (with_reducible rfl) | decide) rfl) ?_
          | refine WO_p (q_pickF rfl (by first | (with_reducible rfl) | decide) rfl) ?_)
       | (refine idBi ?_
          first
          | refine WO_lenSl rfl ?_
          | refine WO_lenStr rfl ?_)
       | (refine idBo ?_
          first
          | refine WO_add rfl rfl (by omega) ?_
          | refine WO_sub rfl rfl (by omega) ?_
          | refine WO_mul rfl rfl (by omega) ?_
          | refine WO_rem rfl rfl (by omega) (by omega) ?_
          | refine WO_quo rfl rfl (by omega) (by omega) (by omega) ?_
          | refine WO_p (q_neBool rfl rfl) ?_
          | refine WO_p (q_eqBool rfl rfl) ?_)
       | (refine idCv ?_; refine WO_p (q_convert rfl (wrap_i64_in ⟨by omega, by omega⟩)) ?_)
       | (refine idBuild ?_; refine WO_p (q_build rfl (by rfl) (by simp only [fillS, List.set_cons_zero, List.set_cons_succ]; rfl)) ?_)
       | refine WO_nil ?_)
    | (refine idAt ?_
       first
       | refine at_next ?_
       | refine at_block ?_
       | refine at_next_exit ?_
       | refine at_next_ret ?_
       | refine at_block_exit ?_
       | refine at_block_other rfl ?_
       | refine at_block_ret ?_
       | refine at_loop_exit ?_
       | refine at_loop_ret ?_)
    | (refine idW ?_
       first
       | refine W_seq ?_
       | refine W_region ?_
       | refine W_block ?_
       | refine W_skip ?_
       | refine W_exit ?_
       | refine W_ret ?_
       | refine W_condT rfl (by first | (with_reducible rfl) | decide) ?_
       | refine W_condF rfl (by first | (with_reducible rfl) | decide) ?_))
  refine WO_call rfl (l17Open_ret v w h) ?_
  rintro r w1 ⟨rb, rfl, hrb, hr, e1⟩
  repeat (first
    | (refine idWO ?_
       first
       | refine WO_simple rfl ?_
       | (refine idG ?_
          first
          | refine WO_yes rfl rfl (by first | (with_reducible rfl) | decide) ?_
          | refine WO_no rfl rfl (by first | (with_reducible rfl) | decide) ?_
          | refine WO_noU rfl rfl ?_)
       | (refine idFA ?_
          first
          | refine WO_fieldAddr0 rfl rfl ?_
          | refine WO_fieldAddr rfl rfl ?_)
       | (refine idLd ?_
          first
          | refine WO_loadB rfl (by assumption) (by rfl) ?_
          | refine WO_load1 rfl (by assumption) ?_)
       | (refine idPk ?_
          first
          | refine WO_p (q_pickT rfl (by first | (with_reducible rfl) | decide) rfl) ?_
          | refine WO_p (q_pickF rfl (by first | (with_reducible rfl) | decide) rfl) ?_)
       | (refine idBi ?_
          first
          | refine WO_lenSl rfl ?_
          | refine WO_lenStr rfl ?_)
       | (refine idBo ?_
          first
          | refine WO_add rfl rfl (by omega) ?_
          | refine WO_sub rfl rfl (by omega) ?_
          | refine WO_mul rfl rfl (by omega) ?_
          | refine WO_rem rfl rfl (by omega) (by omega) ?_
          | refine WO_quo rfl rfl (by omega) (by omega) (by omega) ?_
          | refine WO_p (q_neBool rfl rfl) ?_
          | refine WO_p (q_eqBool rfl rfl) ?_)
       | (refine idCv ?_; refine WO_p (q_convert rfl (wrap_i64_in ⟨by omega, by omega⟩)) ?_)
       | (refine idBuild ?_; refine WO_p (q_build rfl (by rfl) (by simp only [fillS, List.set_cons_zero, List.set_cons_succ]; rfl)) ?_)
       | refine WO_nil ?_)
    | (refine idAt ?_
       first
       | refine at_next ?_
       | refine at_block ?_
       | refine at_next_exit ?_
       | refine at_next_ret ?_
       | refine at_block_exit ?_
       | refine at_block_other rfl ?_
       | refine at_block_ret ?_
       | refine at_loop_exit ?_
       | refine at_loop_ret ?_)
    | (refine idW ?_
       first
       | refine W_seq ?_
       | refine W_region ?_
       | refine W_block ?_
       | refine W_skip ?_
       | refine W_exit ?_
       | refine W_ret ?_
       | refine W_condT rfl (by first | (with_reducible rfl) | decide) ?_
       | refine W_condF rfl (by first | (with_reducible rfl) | decide) ?_))
  refine WO_ints (e := 3) [1, 2, 3, 4, 0, 5, -1] rfl rfl rfl rfl fun w2 hb2 e2 hz2 => ?_
  repeat (first
    | (refine idWO ?_
       first
       | refine WO_simple rfl ?_
       | (refine idG ?_
          first
          | refine WO_yes rfl rfl (by first | (with_reducible rfl) | decide) ?_
          | refine WO_no rfl rfl (by first | (with_reducible rfl) | decide) ?_
          | refine WO_noU rfl rfl ?_)
       | (refine idFA ?_
          first
          | refine WO_fieldAddr0 rfl rfl ?_
          | refine WO_fieldAddr rfl rfl ?_)
       | (refine idLd ?_
          first
          | refine WO_loadB rfl (by assumption) (by rfl) ?_
          | refine WO_load1 rfl (by assumption) ?_)
       | (refine idPk ?_
          first
          | refine WO_p (q_pickT rfl (by first | (with_reducible rfl) | decide) rfl) ?_
          | refine WO_p (q_pickF rfl (by first | (with_reducible rfl) | decide) rfl) ?_)
       | (refine idBi ?_
          first
          | refine WO_lenSl rfl ?_
          | refine WO_lenStr rfl ?_)
       | (refine idBo ?_
          first
          | refine WO_add rfl rfl (by omega) ?_
          | refine WO_sub rfl rfl (by omega) ?_
          | refine WO_mul rfl rfl (by omega) ?_
          | refine WO_rem rfl rfl (by omega) (by omega) ?_
          | refine WO_quo rfl rfl (by omega) (by omega) (by omega) ?_
          | refine WO_p (q_neBool rfl rfl) ?_
          | refine WO_p (q_eqBool rfl rfl) ?_)
       | (refine idCv ?_; refine WO_p (q_convert rfl (wrap_i64_in ⟨by omega, by omega⟩)) ?_)
       | (refine idBuild ?_; refine WO_p (q_build rfl (by rfl) (by simp only [fillS, List.set_cons_zero, List.set_cons_succ]; rfl)) ?_)
       | refine WO_nil ?_)
    | (refine idAt ?_
       first
       | refine at_next ?_
       | refine at_block ?_
       | refine at_next_exit ?_
       | refine at_next_ret ?_
       | refine at_block_exit ?_
       | refine at_block_other rfl ?_
       | refine at_block_ret ?_
       | refine at_loop_exit ?_
       | refine at_loop_ret ?_)
    | (refine idW ?_
       first
       | refine W_seq ?_
       | refine W_region ?_
       | refine W_block ?_
       | refine W_skip ?_
       | refine W_exit ?_
       | refine W_ret ?_
       | refine W_condT rfl (by first | (with_reducible rfl) | decide) ?_
       | refine W_condF rfl (by first | (with_reducible rfl) | decide) ?_))
  refine WO_call rfl (num_ret rb 0 _ _ _ w2 (hr.ext e2) (by omega) hb2.int (by simp) (by have := hr.lt; simp; omega)) ?_
  rintro r w3 ⟨z, hz, rfl, hr3, c3⟩
  repeat (first
    | (refine idWO ?_
       first
       | refine WO_simple rfl ?_
       | (refine idG ?_
          first
          | refine WO_yes rfl rfl (by first | (with_reducible rfl) | decide) ?_
          | refine WO_no rfl rfl (by first | (with_reducible rfl) | decide) ?_
          | refine WO_noU rfl rfl ?_)
       | (refine idFA ?_
          first
          | refine WO_fieldAddr0 rfl rfl ?_
          | refine WO_fieldAddr rfl rfl ?_)
       | (refine idLd ?_
          first
          | refine WO_loadB rfl (by assumption) (by rfl) ?_
          | refine WO_load1 rfl (by assumption) ?_)
       | (refine idPk ?_
          first
          | refine WO_p (q_pickT rfl (by first | (with_reducible rfl) | decide) rfl) ?_
          | refine WO_p (q_pickF rfl (by first | (with_reducible rfl) | decide) rfl) ?_)
       | (refine idBi ?_
          first
          | refine WO_lenSl rfl ?_
          | refine WO_lenStr rfl ?_)
       | (refine idBo ?_
          first
          | refine WO_add rfl rfl (by omega) ?_
          | refine WO_sub rfl rfl (by omega) ?_
          | refine WO_mul rfl rfl (by omega) ?_
          | refine WO_rem rfl rfl (by omega) (by omega) ?_
          | refine WO_quo rfl rfl (by omega) (by omega) (by omega) ?_
          | refine WO_p (q_neBool rfl rfl) ?_
          | refine WO_p (q_eqBool rfl rfl) ?_)
       | (refine idCv ?_; refine WO_p (q_convert rfl (wrap_i64_in ⟨by omega, by omega⟩)) ?_)
       | (refine idBuild ?_; refine WO_p (q_build rfl (by rfl) (by simp only [fillS, List.set_cons_zero, List.set_cons_succ]; rfl)) ?_)
       | refine WO_nil ?_)
    | (refine idAt ?_
       first
       | refine at_next ?_
       | refine at_block ?_
       | refine at_next_exit ?_
       | refine at_next_ret ?_
       | refine at_block_exit ?_
       | refine at_block_other rfl ?_
       | refine at_block_ret ?_
       | refine at_loop_exit ?_
       | refine at_loop_ret ?_)
    | (refine idW ?_
       first
       | refine W_seq ?_
       | refine W_region ?_
       | refine W_block ?_
       | refine W_skip ?_
       | refine W_exit ?_
       | refine W_ret ?_
       | refine W_condT rfl (by first | (with_reducible rfl) | decide) ?_
       | refine W_condF rfl (by first | (with_reducible rfl) | decide) ?_))
  refine at_ret1 rfl rfl ⟨z, rfl, ?_, ?_, ?_⟩
  · simp at hz; omega
  · simp at hz; omega
  · exact Chg.ext_of (e1.trans e2) c3 (by simpa using hrb)
theorem FnIsReference_ret {v0 : Value} {w : World} (h0 : ByD w v0) : Ret Try.prog 8 [v0] w fun v w' => v = .bool true ∧ Ext w w' := by
  have h00 := h0
  obtain ⟨A0, n0, c0, rfl, _, hn0, _⟩ := h00
  refine enter Try.func8 rfl Try.ntmps8 rfl rfl ?_
  repeat' (first
    | (refine idWO ?_
       first
       | refine WO_simple rfl ?_
       | (refine idG ?_
          first
          | refine WO_yes rfl rfl (by first | (with_reducible rfl) | decide) ?_
          | refine WO_no rfl rfl (by first | (with_reducible rfl) | decide) ?_
          | refine WO_noU rfl rfl ?_
          | ((refine WO_split rfl rfl (fun c' hc' => ?_)); cases c' <;> (try simp only [decide_eq_true_eq, decide_eq_false_iff_not, beq_iff_eq, beq_eq_false_iff_ne, bne_iff_ne, bne_eq_false_iff_eq, ne_eq, gt_iff_lt, ge_iff_le, Int.not_lt, Int.not_le, Bool.not_eq_true', Bool.not_eq_false', Bool.not_true, Bool.not_false, reduceCtorEq, Decidable.not_not, Bool.true_eq_false, Bool.false_eq_true] at hc') <;> (try (exfalso; omega))))
       | (refine idFA ?_
          first
          | refine WO_fieldAddr0 rfl rfl ?_
          | refine WO_fieldAddr rfl rfl ?_)
       | (refine idLd ?_
          first
          | refine WO_loadB rfl (by assumption) (by rfl) ?_
          | refine WO_load1 rfl (by assumption) ?_)
       | (refine idPk ?_
          first
          | refine WO_p (q_pickT rfl (by first | (with_reducible rfl) | decide) rfl) ?_
          | refine WO_p (q_pickF rfl (by first | (with_reducible rfl) | decide) rfl) ?_)
       | (refine idBi ?_
          first
          | refine WO_lenSl rfl ?_
          | refine WO_lenStr rfl ?_)
       | (refine idBo ?_
          first
          | refine WO_add rfl rfl (by omega) ?_
          | refine WO_sub rfl rfl (by omega) ?_
          | refine WO_mul rfl rfl (by omega) ?_
          | refine WO_rem rfl rfl (by omega) (by omega) ?_
          | refine WO_quo rfl rfl (by omega) (by omega) (by omega) ?_
          | refine WO_p (q_neBool rfl rfl) ?_
          | refine WO_p (q_eqBool rfl rfl) ?_)
       | (refine idCv ?_; refine WO_p (q_convert rfl (wrap_i64_in ⟨by omega, by omega⟩)) ?_)
       | (refine idBuild ?_; refine WO_p (q_build rfl (by rfl) (by simp only [fillS, List.set_cons_zero, List.set_cons_succ]; rfl)) ?_)
       | refine WO_nil ?_)
    | (refine idAt ?_
       first
       | refine at_next ?_
       | refine at_block ?_
       | refine at_next_exit ?_
       | refine at_next_ret ?_
       | refine at_block_exit ?_
       | refine at_block_other rfl ?_
       | refine at_block_ret ?_
       | refine at_loop_exit ?_
       | refine at_loop_ret ?_)
    | (refine idW ?_
       first
       | refine W_seq ?_
       | refine W_region ?_
       | refine W_block ?_
       | refine W_skip ?_
       | refine W_exit ?_
       | refine W_ret ?_
       | refine W_condT rfl (by first | (with_reducible rfl) | decide) ?_
       | refine W_condF rfl (by first | (with_reducible rfl) | decide) ?_
       | ((refine W_cond rfl (fun hc' => ?_) (fun hc' => ?_)) <;> (try simp only [decide_eq_true_eq, decide_eq_false_iff_not, beq_iff_eq, beq_eq_false_iff_ne, bne_iff_ne, bne_eq_false_iff_eq, ne_eq, gt_iff_lt, ge_iff_le, Int.not_lt, Int.not_le, Bool.not_eq_true', Bool.not_eq_false', Bool.not_true, Bool.not_false, reduceCtorEq, Decidable.not_not, Bool.true_eq_false, Bool.false_eq_true] at hc') <;> (try (exfalso; omega)))))
  any_goals (exact at_ret1 rfl rfl ⟨rfl, Ext.refl _⟩)
  refine WO_call rfl (DrawIsReference_ret _ w h0) ?_
  rintro r w1 ⟨a, rfl, ha1, ha2, e1⟩
  repeat (first
    | (refine idWO ?_
       first
       | refine WO_simple rfl ?_
       | (refine idG ?_
          first
          | refine WO_yes rfl rfl (by first | (with_reducible rfl) | decide) ?_
          | refine WO_no rfl rfl (by first | (with_reducible rfl) | decide) ?_
          | refine WO_noU rfl rfl ?_)
       | (refine idFA ?_
          first
          | refine WO_fieldAddr0 rfl rfl ?_
          | refine WO_fieldAddr rfl rfl ?_)
       | (refine idLd ?_
          first
          | refine WO_loadB rfl (by assumption) (by rfl) ?_
          | refine WO_load1 rfl (by assumption) ?_)
       | (refine idPk ?_
          first
          | refine WO_p (q_pickT rfl (by first | (with_reducible rfl) | decide) rfl) ?_
          | refine WO_p (q_pickF rfl (by first | (with_reducible rfl) | decide) rfl) ?_)
       | (refine idBi ?_
          first
          | refine WO_lenSl rfl ?_
          | refine WO_lenStr rfl ?_)
       | (refine idBo ?_
          first
          | refine WO_add rfl rfl (by omega) ?_
          | refine WO_sub rfl rfl (by omega) ?_
          | refine WO_mul rfl rfl (by omega) ?_
          | refine WO_rem rfl rfl (by omega) (by omega) ?_
          | refine WO_quo rfl rfl (by omega) (by omega) (by omega) ?_
          | refine WO_p (q_neBool rfl rfl) ?_
          | refine WO_p (q_eqBool rfl rfl) ?_)
       | (refine idCv ?_; refine WO_p (q_convert rfl (wrap_i64_in ⟨by omega, by omega⟩)) ?_)
       | (refine idBuild ?_; refine WO_p (q_build rfl (by rfl) (by simp only [fillS, List.set_cons_zero, List.set_cons_succ]; rfl)) ?_)
       | refine WO_nil ?_)
    | (refine idAt ?_
       first
       | refine at_next ?_
       | refine at_block ?_
       | refine at_next_exit ?_
       | refine at_next_ret ?_
       | refine at_block_exit ?_
       | refine at_block_other rfl ?_
       | refine at_block_ret ?_
       | refine at_loop_exit ?_
       | refine at_loop_ret ?_)
    | (refine idW ?_
       first
       | refine W_seq ?_
       | refine W_region ?_
       | refine W_block ?_
       | refine W_skip ?_
       | refine W_exit ?_
       | refine W_ret ?_
       | refine W_condT rfl (by first | (with_reducible rfl) | decide) ?_
       | refine W_condF rfl (by first | (with_reducible rfl) | decide) ?_))
  refine WO_call rfl (isReference_ret a w1) ?_
  rintro r w2 ⟨rfl, rfl⟩
  repeat (first
    | (refine idWO ?_
       first
       | refine WO_simple rfl ?_
       | (refine idG ?_
          first
          | refine WO_yes rfl rfl (by first | (with_reducible rfl) | decide) ?_
          | refine WO_no rfl rfl (by first | (with_reducible rfl) | decide) ?_
          | refine WO_noU rfl rfl ?_)
       | (refine idFA ?_
          first
          | refine WO_fieldAddr0 rfl rfl ?_
          | refine WO_fieldAddr rfl rfl ?_)
       | (refine idLd ?_
          first
          | refine WO_loadB rfl (by assumption) (by rfl) ?_
          | refine WO_load1 rfl (by assumption) ?_)
       | (refine idPk ?_
          first
          | refine WO_p (q_pickT rfl (by first | (with_reducible rfl) | decide) rfl) ?_
          | refine WO_p (q_pickF rfl (by first | (with_reducible rfl) | decide) rfl) ?_)
       | (refine idBi ?_
          first
          | refine WO_lenSl rfl ?_
          | refine WO_lenStr rfl ?_)
       | (refine idBo ?_
          first
          | refine WO_add rfl rfl (by omega) ?_
          | refine WO_sub rfl rfl (by omega) ?_
          | refine WO_mul rfl rfl (by omega) ?_
          | refine WO_rem rfl rfl (by omega) (by omega) ?_
          | refine WO_quo rfl rfl (by omega) (by omega) (by omega) ?_
          | refine WO_p (q_neBool rfl rfl) ?_
          | refine WO_p (q_eqBool rfl rfl) ?_)
       | (refine idCv ?_; refine WO_p (q_convert rfl (wrap_i64_in ⟨by omega, by omega⟩)) ?_)
       | (refine idBuild ?_; refine WO_p (q_build rfl (by rfl) (by simp only [fillS, List.set_cons_zero, List.set_cons_succ]; rfl)) ?_)
       | refine WO_nil ?_)
    | (refine idAt ?_
       first
       | refine at_next ?_
       | refine at_block ?_
       | refine at_next_exit ?_
       | refine at_next_ret ?_
       | refine at_block_exit ?_
       | refine at_block_other rfl ?_
       | refine at_block_ret ?_
       | refine at_loop_exit ?_
       | refine at_loop_ret ?_)
    | (refine idW ?_
       first
       | refine W_seq ?_
       | refine W_region ?_
       | refine W_block ?_
       | refine W_skip ?_
       | refine W_exit ?_
       | refine W_ret ?_
       | refine W_condT rfl (by first | (with_reducible rfl) | decide) ?_
       | refine W_condF rfl (by first | (with_reducible rfl) | decide) ?_))
  refine WO_build (e := 3) (k := 1) [.const (.int .i64 3), .tmp 13] rfl rfl rfl rfl rfl (by simp [Value.cells]) rfl fun w3 hb e3 hz => ?_
  have hI := (ints_of_blk [3, a] hb rfl (by simp [maxI])).int
  repeat (first
    | (refine idWO ?_
       first
       | refine WO_simple rfl ?_
       | (refine idG ?_
          first
          | refine WO_yes rfl rfl (by first | (with_reducible rfl) | decide) ?_
          | refine WO_no rfl rfl (by first | (with_reducible rfl) | decide) ?_
          | refine WO_noU rfl rfl ?_)
       | (refine idFA ?_
          first
          | refine WO_fieldAddr0 rfl rfl ?_
          | refine WO_fieldAddr rfl rfl ?_)
       | (refine idLd ?_
          first
          | refine WO_loadB rfl (by assumption) (by rfl) ?_
          | refine WO_load1 rfl (by assumption) ?_)
       | (refine idPk ?_
          first
          | refine WO_p (q_pickT rfl (by first | (with_reducible rfl) | decide) rfl) ?_
          | refine WO_p (q_pickF rfl (by first | (with_reducible rfl) | decide) rfl) ?_)
       | (refine idBi ?_
          first
          | refine WO_lenSl rfl ?_
          | refine WO_lenStr rfl ?_)
       | (refine idBo ?_
          first
          | refine WO_add rfl rfl (by omega) ?_
          | refine WO_sub rfl rfl (by omega) ?_
          | refine WO_mul rfl rfl (by omega) ?_
          | refine WO_rem rfl rfl (by omega) (by omega) ?_
          | refine WO_quo rfl rfl (by omega) (by omega) (by omega) ?_
          | refine WO_p (q_neBool rfl rfl) ?_
          | refine WO_p (q_eqBool rfl rfl) ?_)
       | (refine idCv ?_; refine WO_p (q_convert rfl (wrap_i64_in ⟨by omega, by omega⟩)) ?_)
       | (refine idBuild ?_; refine WO_p (q_build rfl (by rfl) (by simp only [fillS, List.set_cons_zero, List.set_cons_succ]; rfl)) ?_)
       | refine WO_nil ?_)
    | (refine idAt ?_
       first
       | refine at_next ?_
       | refine at_block ?_
       | refine at_next_exit ?_
       | refine at_next_ret ?_
       | refine at_block_exit ?_
       | refine at_block_other rfl ?_
       | refine at_block_ret ?_
       | refine at_loop_exit ?_
       | refine at_loop_ret ?_)
    | (refine idW ?_
       first
       | refine W_seq ?_
       | refine W_region ?_
       | refine W_block ?_
       | refine W_skip ?_
       | refine W_exit ?_
       | refine W_ret ?_
       | refine W_condT rfl (by first | (with_reducible rfl) | decide) ?_
       | refine W_condF rfl (by first | (with_reducible rfl) | decide) ?_))
  refine WO_call rfl (StmtValid_ret _ [3, a] _ 4 0 1 0 .nil .nil [] [] _ _ w3 hI (StS.nil_ w3 none 0) (StS.nil_ w3 none 0) (by simp; omega) (by simp) (by simp)) ?_
  rintro r w4 ⟨rfl, e4⟩
  repeat (first
    | (refine idWO ?_
       first
       | refine WO_simple rfl ?_
       | (refine idG ?_
          first
          | refine WO_yes rfl rfl (by first | (with_reducible rfl) | decide) ?_
          | refine WO_no rfl rfl (by first | (with_reducible rfl) | decide) ?_
          | refine WO_noU rfl rfl ?_)
       | (refine idFA ?_
          first
          | refine WO_fieldAddr0 rfl rfl ?_
          | refine WO_fieldAddr rfl rfl ?_)
       | (refine idLd ?_
          first
          | refine WO_loadB rfl (by assumption) (by rfl) ?_
          | refine WO_load1 rfl (by assumption) ?_)
       | (refine idPk ?_
          first
          | refine WO_p (q_pickT rfl (by first | (with_reducible rfl) | decide) rfl) ?_
          | refine WO_p (q_pickF rfl (by first | (with_reducible rfl) | decide) rfl) ?_)
       | (refine idBi ?_
          first
          | refine WO_lenSl rfl ?_
          | refine WO_lenStr rfl ?_)
       | (refine idBo ?_
          first
          | refine WO_add rfl rfl (by omega) ?_
          | refine WO_sub rfl rfl (by omega) ?_
          | refine WO_mul rfl rfl (by omega) ?_
          | refine WO_rem rfl rfl (by omega) (by omega) ?_
          | refine WO_quo rfl rfl (by omega) (by omega) (by omega) ?_
          | refine WO_p (q_neBool rfl rfl) ?_
          | refine WO_p (q_eqBool rfl rfl) ?_)
       | (refine idCv ?_; refine WO_p (q_convert rfl (wrap_i64_in ⟨by omega, by omega⟩)) ?_)
       | (refine idBuild ?_; refine WO_p (q_build rfl (by rfl) (by simp only [fillS, List.set_cons_zero, List.set_cons_succ]; rfl)) ?_)
       | refine WO_nil ?_)
    | (refine idAt ?_
       first
       | refine at_next ?_
       | refine at_block ?_
       | refine at_next_exit ?_
       | refine at_next_ret ?_
       | refine at_block_exit ?_
       | refine at_block_other rfl ?_
       | refine at_block_ret ?_
       | refine at_loop_exit ?_
       | refine at_loop_ret ?_)
    | (refine idW ?_
       first
       | refine W_seq ?_
       | refine W_region ?_
       | refine W_block ?_
       | refine W_skip ?_
       | refine W_exit ?_
       | refine W_ret ?_
       | refine W_condT rfl (by first | (with_reducible rfl) | decide) ?_
       | refine W_condF rfl (by first | (with_reducible rfl) | decide) ?_))
  refine WO_call rfl (sIsReference_ret a w4) ?_
  rintro r w5 ⟨rfl, rfl⟩
  have : a = -1 ∨ a = 0 ∨ a = 1 ∨ a = 2 ∨ a = 3 ∨ a = 4 ∨ a = 5 := by omega
  rcases this with rfl | rfl | rfl | rfl | rfl | rfl | rfl
  all_goals
    repeat (first
      | (refine idWO ?_
         first
         | refine WO_simple rfl ?_
         | (refine idG ?_
            first
            | refine WO_yes rfl rfl (by first | (with_reducible rfl) | decide) ?_
            | refine WO_no rfl rfl (by first | (with_reducible rfl) | decide) ?_
            | refine WO_noU rfl rfl ?_)
         | (refine idFA ?_
            first
            | refine WO_fieldAddr0 rfl rfl ?_
            | refine WO_fieldAddr rfl rfl ?_)
         | (refine idLd ?_
            first
            | refine WO_loadB rfl (by assumption) (by rfl) ?_
            | refine WO_load1 rfl (by assumption) ?_)
         | (refine idPk ?_
            first
            | refine WO_p (q_pickT rfl (by first | (with_reducible rfl) | decide) rfl) ?_
            | refine WO_p (q_pickF rfl (by first | (with_reducible rfl) | decide) rfl) ?_)
         | (refine idBi ?_
            first
            | refine WO_lenSl rfl ?_
            | refine WO_lenStr rfl ?_)
         | (refine idBo ?_
            first
            | refine WO_add rfl rfl (by omega) ?_
            | refine WO_sub rfl rfl (by omega) ?_
            | refine WO_mul rfl rfl (by omega) ?_
            | refine WO_rem rfl rfl (by omega) (by omega) ?_
            | refine WO_quo rfl rfl (by omega) (by omega) (by omega) ?_
            | refine WO_p (q_neBool rfl rfl) ?_
            | refine WO_p (q_eqBool rfl rfl) ?_)
         | (refine idCv ?_; refine WO_p (q_convert rfl (wrap_i64_in ⟨by omega, by omega⟩)) ?_)
         | (refine idBuild ?_; refine WO_p (q_build rfl (by rfl) (by simp only [fillS, List.set_cons_zero, List.set_cons_succ]; rfl)) ?_)
         | refine WO_nil ?_)
      | (refine idAt ?_
         first
         | refine at_next ?_
         | refine at_block ?_
         | refine at_next_exit ?_
         | refine at_next_ret ?_
         | refine at_block_exit ?_
         | refine at_block_other rfl ?_
         | refine at_block_ret ?_
         | refine at_loop_exit ?_
         | refine at_loop_ret ?_)
      | (refine idW ?_
         first
         | refine W_seq ?_
         | refine W_region ?_
         | refine W_block ?_
         | refine W_skip ?_
         | refine W_exit ?_
         | refine W_ret ?_
         | refine W_condT rfl (by first | (with_reducible rfl) | decide) ?_
         | refine W_condF rfl (by first | (with_reducible rfl) | decide) ?_))
    exact at_ret1 rfl rfl ⟨congrArg Value.bool (by decide), e1.trans (e3.trans e4)⟩
end Go.Proofs.Ytlikmgdggdapiaa
