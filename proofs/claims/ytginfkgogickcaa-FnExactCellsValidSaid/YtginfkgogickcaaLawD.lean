/-
  What is proved here: the law FnExactCellsValid returns true at every argument and leaves old memory as it was.
-/
import Derived.Test.YtginfkgogickcaaCVal
namespace Go.Proofs.Ytginfkgogickcaa
set_option linter.unusedVariables false
set_option linter.unusedSimpArgs false
set_option linter.unnecessarySimpa false
open Go.RowKit

theorem FnExactCellsValid_ret {w : World} {v : Value} {x : List Ce × List Nat} (h : CeS w v x.1 x.2) : Ret Try.prog 3 [v] w fun r w' => r = .bool true ∧ Ext w w' := by
  obtain ⟨l, F⟩ := x
  simp only at h
  refine enter Try.func3 rfl Try.ntmps3 rfl rfl ?_
  repeat (first
    | (refine idWO ?_
       first
       | refine WO_simple rfl ?_
       | (refine idG ?_
          first
          | refine WO_yes rfl rfl (by first | (with_reducible rfl) | decide) ?_
          | refine WO_no rfl rfl (by first | (with_reducible rfl) | decide) ?_
          | refine WO_noU rfl rfl ?_)
       | (refine idFA ?_
          first
          | refine WO_fieldAddr0 rfl rfl ?_
          | refine WO_fieldAddr rfl rfl ?_)
       | (refine idLd ?_
          first
          | refine WO_loadB rfl (by assumption) (by rfl) ?_
          | refine WO_load1 rfl (by assumption) ?_)
       | (refine idPk ?_
          first
          | refine WO_p (q_pickT rfl (by first | (with_reducible rfl) | decide) rfl) ?_
          | refine WO_p (q_pickF rfl (by first | (with_reducible rfl) | decide) rfl) ?_)
       | (refine idBi ?_
          first
          | refine WO_lenSl rfl ?_
          | refine WO_lenStr rfl ?_)
       | (refine idBo ?_
          first
          | refine WO_add rfl rfl (by omega) ?_
          | refine WO_sub rfl rfl (by omega) ?_
          | refine WO_mul rfl rfl (by omega) ?_
          | refine WO_rem rfl rfl (by omega) (by omega) ?_
          | refine WO_quo rfl rfl (by omega) (by omega) (by omega) ?_
          | refine WO_p (q_neBool rfl rfl) ?_
          | refine WO_p (q_eqBool rfl rfl) ?_)
       | (refine idCv ?_; refine WO_p (q_convert rfl (wrap_i64_in ⟨by omega, by omega⟩)) ?_)
       | (refine idBuild ?_; refine WO_p (q_build rfl (by rfl) (by simp only [fillS, List.set_cons_zero, List.set_cons_succ]; rfl)) ?_)
       | refine WO_nil ?_)
    | (refine idAt ?_
       first
       | refine at_next ?_
       | refine at_block ?_
       | refine at_next_exit ?_
       | refine at_next_ret ?_
       | refine at_block_exit ?_
       | refine at_block_other rfl ?_
       | refine at_block_ret ?_
       | refine at_loop_exit ?_
       | refine at_loop_ret ?_)
    | (refine idW ?_
       first
       | refine W_seq ?_
       | refine W_region ?_
       | refine W_block ?_
       | refine W_skip ?_
       | refine W_exit ?_
       | refine W_ret ?_
       | refine W_condT rfl (by first | (with_reducible rfl) | decide) ?_
       | refine W_condF rfl (by first | (with_reducible rfl) | decide) ?_))
  refine WO_call rfl (szCellS_ret v l F 1048576 w h (by decide) (by decide)) ?_
  rintro r w1 ⟨⟨left, rfl, hle, hsz⟩, e1⟩
  repeat' (first
    | (refine idWO ?_
       first
       | refine WO_simple rfl ?_
       | (refine idG ?_
          first
          | refine WO_yes rfl rfl (by first | (with_reducible rfl) | decide) ?_
          | refine WO_no rfl rfl (by first | (with_reducible rfl) | decide) ?_
          | refine WO_noU rfl rfl ?_
          | ((refine WO_split rfl rfl (fun c' hc' => ?_)); cases c' <;> (try simp only [decide_eq_true_eq, decide_eq_false_iff_not, beq_iff_eq, beq_eq_false_iff_ne, bne_iff_ne, bne_eq_false_iff_eq, ne_eq, gt_iff_lt, ge_iff_le, Int.not_lt, Int.not_le, Bool.not_eq_true', Bool.not_eq_false', Bool.not_true, Bool.not_false, reduceCtorEq, Decidable.not_not, Bool.true_eq_false, Bool.false_eq_true] at hc') <;> (try (exfalso; omega))))
       | (refine idFA ?_
          first
          | refine WO_fieldAddr0 rfl rfl ?_
          | refine WO_fieldAddr rfl rfl ?_)
       | (refine idLd ?_
          first
          | refine WO_loadB rfl (by assumption) (by rfl) ?_
          | refine WO_load1 rfl (by assumption) ?_)
       | (refine idPk ?_
          first
          | refine WO_p (q_pickT rfl (by first | (with_reducible rfl) | decide) rfl) ?_
          | refine WO_p (q_pickF rfl (by first | (with_reducible rfl) | decide) rfl) ?_)
       | (refine idBi ?_
          first
          | refine WO_lenSl rfl ?_
          | refine WO_lenStr rfl ?_)
       | (refine idBo ?_
          first
          | refine WO_add rfl rfl (by omega) ?_
          | refine WO_sub rfl rfl (by omega) ?_
          | refine WO_mul rfl rfl (by omega) ?_
          | refine WO_rem rfl rfl (by omega) (by omega) ?_
          | refine WO_quo rfl rfl (by omega) (by omega) (by omega) ?_
          | refine WO_p (q_neBool rfl rfl) ?_
          | refine WO_p (q_eqBool rfl rfl) ?_)
       | (refine idCv ?_; refine WO_p (q_convert rfl (wrap_i64_in ⟨by omega, by omega⟩)) ?_)
       | (refine idBuild ?_; refine WO_p (q_build rfl (by rfl) (by simp only [fillS, List.set_cons_zero, List.set_cons_succ]; rfl)) ?_)
       | refine WO_nil ?_)
    | (refine idAt ?_
       first
       | refine at_next ?_
       | refine at_block ?_
       | refine at_next_exit ?_
       | refine at_next_ret ?_
       | refine at_block_exit ?_
       | refine at_block_other rfl ?_
       | refine at_block_ret ?_
       | refine at_loop_exit ?_
       | refine at_loop_ret ?_)
    | (refine idW ?_
       first
       | refine W_seq ?_
       | refine W_region ?_
       | refine W_block ?_
       | refine W_skip ?_
       | refine W_exit ?_
       | refine W_ret ?_
       | refine W_condT rfl (by first | (with_reducible rfl) | decide) ?_
       | refine W_condF rfl (by first | (with_reducible rfl) | decide) ?_
       | ((refine W_cond rfl (fun hc' => ?_) (fun hc' => ?_)) <;> (try simp only [decide_eq_true_eq, decide_eq_false_iff_not, beq_iff_eq, beq_eq_false_iff_ne, bne_iff_ne, bne_eq_false_iff_eq, ne_eq, gt_iff_lt, ge_iff_le, Int.not_lt, Int.not_le, Bool.not_eq_true', Bool.not_eq_false', Bool.not_true, Bool.not_false, reduceCtorEq, Decidable.not_not, Bool.true_eq_false, Bool.false_eq_true] at hc') <;> (try (exfalso; omega)))))
  · exact at_ret1 rfl rfl ⟨rfl, e1⟩
  have hn : cSize l ≤ 1048576 := by have := hsz (by omega); omega
  refine WO_call rfl (toCellS_ret v l F w1 (h.ext e1) hn) ?_
  rintro r w2 ⟨⟨F2, h2, _, _⟩, e2⟩
  repeat (first
    | (refine idWO ?_
       first
       | refine WO_simple rfl ?_
       | (refine idG ?_
          first
          | refine WO_yes rfl rfl (by first | (with_reducible rfl) | decide) ?_
          | refine WO_no rfl rfl (by first | (with_reducible rfl) | decide) ?_
          | refine WO_noU rfl rfl ?_)
       | (refine idFA ?_
          first
          | refine WO_fieldAddr0 rfl rfl ?_
          | refine WO_fieldAddr rfl rfl ?_)
       | (refine idLd ?_
          first
          | refine WO_loadB rfl (by assumption) (by rfl) ?_
          | refine WO_load1 rfl (by assumption) ?_)
       | (refine idPk ?_
          first
          | refine WO_p (q_pickT rfl (by first | (with_reducible rfl) | decide) rfl) ?_
          | refine WO_p (q_pickF rfl (by first | (with_reducible rfl) | decide) rfl) ?_)
       | (refine idBi ?_
          first
          | refine WO_lenSl rfl ?_
          | refine WO_lenStr rfl ?_)
       | (refine idBo ?_
          first
          | refine WO_add rfl rfl (by omega) ?_
          | refine WO_sub rfl rfl (by omega) ?_
          | refine WO_mul rfl rfl (by omega) ?_
          | refine WO_rem rfl rfl (by omega) (by omega) ?_
          | refine WO_quo rfl rfl (by omega) (by omega) (by omega) ?_
          | refine WO_p (q_neBool rfl rfl) ?_
          | refine WO_p (q_eqBool rfl rfl) ?_)
       | (refine idCv ?_; refine WO_p (q_convert rfl (wrap_i64_in ⟨by omega, by omega⟩)) ?_)
       | (refine idBuild ?_; refine WO_p (q_build rfl (by rfl) (by simp only [fillS, List.set_cons_zero, List.set_cons_succ]; rfl)) ?_)
       | refine WO_nil ?_)
    | (refine idAt ?_
       first
       | refine at_next ?_
       | refine at_block ?_
       | refine at_next_exit ?_
       | refine at_next_ret ?_
       | refine at_block_exit ?_
       | refine at_block_other rfl ?_
       | refine at_block_ret ?_
       | refine at_loop_exit ?_
       | refine at_loop_ret ?_)
    | (refine idW ?_
       first
       | refine W_seq ?_
       | refine W_region ?_
       | refine W_block ?_
       | refine W_skip ?_
       | refine W_exit ?_
       | refine W_ret ?_
       | refine W_condT rfl (by first | (with_reducible rfl) | decide) ?_
       | refine W_condF rfl (by first | (with_reducible rfl) | decide) ?_))
  refine WO_call rfl (sCellsValid_ret r l F2 w2 h2.ces) ?_
  rintro _ w3 ⟨rfl, e3⟩
  have e13 := e1.trans (e2.trans e3)
  repeat (first
    | (refine idWO ?_
       first
       | refine WO_simple rfl ?_
       | (refine idG ?_
          first
          | refine WO_yes rfl rfl (by first | (with_reducible rfl) | decide) ?_
          | refine WO_no rfl rfl (by first | (with_reducible rfl) | decide) ?_
          | refine WO_noU rfl rfl ?_)
       | (refine idFA ?_
          first
          | refine WO_fieldAddr0 rfl rfl ?_
          | refine WO_fieldAddr rfl rfl ?_)
       | (refine idLd ?_
          first
          | refine WO_loadB rfl (by assumption) (by rfl) ?_
          | refine WO_load1 rfl (by assumption) ?_)
       | (refine idPk ?_
          first
          | refine WO_p (q_pickT rfl (by first | (with_reducible rfl) | decide) rfl) ?_
          | refine WO_p (q_pickF rfl (by first | (with_reducible rfl) | decide) rfl) ?_)
       | (refine idBi ?_
          first
          | refine WO_lenSl rfl ?_
          | refine WO_lenStr rfl ?_)
       | (refine idBo ?_
          first
          | refine WO_add rfl rfl (by omega) ?_
          | refine WO_sub rfl rfl (by omega) ?_
          | refine WO_mul rfl rfl (by omega) ?_
          | refine WO_rem rfl rfl (by omega) (by omega) ?_
          | refine WO_quo rfl rfl (by omega) (by omega) (by omega) ?_
          | refine WO_p (q_neBool rfl rfl) ?_
          | refine WO_p (q_eqBool rfl rfl) ?_)
       | (refine idCv ?_; refine WO_p (q_convert rfl (wrap_i64_in ⟨by omega, by omega⟩)) ?_)
       | (refine idBuild ?_; refine WO_p (q_build rfl (by rfl) (by simp only [fillS, List.set_cons_zero, List.set_cons_succ]; rfl)) ?_)
       | refine WO_nil ?_)
    | (refine idAt ?_
       first
       | refine at_next ?_
       | refine at_block ?_
       | refine at_next_exit ?_
       | refine at_next_ret ?_
       | refine at_block_exit ?_
       | refine at_block_other rfl ?_
       | refine at_block_ret ?_
       | refine at_loop_exit ?_
       | refine at_loop_ret ?_)
    | (refine idW ?_
       first
       | refine W_seq ?_
       | refine W_region ?_
       | refine W_block ?_
       | refine W_skip ?_
       | refine W_exit ?_
       | refine W_ret ?_
       | refine W_condT rfl (by first | (with_reducible rfl) | decide) ?_
       | refine W_condF rfl (by first | (with_reducible rfl) | decide) ?_))
  refine WO_call rfl (toCellS_ret v l F w3 (h.ext e13) hn) ?_
  rintro x0 w4 ⟨⟨F4, h4, _, _⟩, e4⟩
  repeat (first
    | (refine idWO ?_
       first
       | refine WO_simple rfl ?_
       | (refine idG ?_
          first
          | refine WO_yes rfl rfl (by first | (with_reducible rfl) | decide) ?_
          | refine WO_no rfl rfl (by first | (with_reducible rfl) | decide) ?_
          | refine WO_noU rfl rfl ?_)
       | (refine idFA ?_
          first
          | refine WO_fieldAddr0 rfl rfl ?_
          | refine WO_fieldAddr rfl rfl ?_)
       | (refine idLd ?_
          first
          | refine WO_loadB rfl (by assumption) (by rfl) ?_
          | refine WO_load1 rfl (by assumption) ?_)
       | (refine idPk ?_
          first
          | refine WO_p (q_pickT rfl (by first | (with_reducible rfl) | decide) rfl) ?_
          | refine WO_p (q_pickF rfl (by first | (with_reducible rfl) | decide) rfl) ?_)
       | (refine idBi ?_
          first
          | refine WO_lenSl rfl ?_
          | refine WO_lenStr rfl ?_)
       | (refine idBo ?_
          first
          | refine WO_add rfl rfl (by omega) ?_
          | refine WO_sub rfl rfl (by omega) ?_
          | refine WO_mul rfl rfl (by omega) ?_
          | refine WO_rem rfl rfl (by omega) (by omega) ?_
          | refine WO_quo rfl rfl (by omega) (by omega) (by omega) ?_
          | refine WO_p (q_neBool rfl rfl) ?_
          | refine WO_p (q_eqBool rfl rfl) ?_)
       | (refine idCv ?_; refine WO_p (q_convert rfl (wrap_i64_in ⟨by omega, by omega⟩)) ?_)
       | (refine idBuild ?_; refine WO_p (q_build rfl (by rfl) (by simp only [fillS, List.set_cons_zero, List.set_cons_succ]; rfl)) ?_)
       | refine WO_nil ?_)
    | (refine idAt ?_
       first
       | refine at_next ?_
       | refine at_block ?_
       | refine at_next_exit ?_
       | refine at_next_ret ?_
       | refine at_block_exit ?_
       | refine at_block_other rfl ?_
       | refine at_block_ret ?_
       | refine at_loop_exit ?_
       | refine at_loop_ret ?_)
    | (refine idW ?_
       first
       | refine W_seq ?_
       | refine W_region ?_
       | refine W_block ?_
       | refine W_skip ?_
       | refine W_exit ?_
       | refine W_ret ?_
       | refine W_condT rfl (by first | (with_reducible rfl) | decide) ?_
       | refine W_condF rfl (by first | (with_reducible rfl) | decide) ?_))
  refine WO_call rfl (CellsValid_ret x0 l F4 w4 h4.ces) ?_
  rintro _ w5 ⟨rfl, e5⟩
  repeat (first
    | (refine idWO ?_
       first
       | refine WO_simple rfl ?_
       | (refine idG ?_
          first
          | refine WO_yes rfl rfl (by first | (with_reducible rfl) | decide) ?_
          | refine WO_no rfl rfl (by first | (with_reducible rfl) | decide) ?_
          | refine WO_noU rfl rfl ?_)
       | (refine idFA ?_
          first
          | refine WO_fieldAddr0 rfl rfl ?_
          | refine WO_fieldAddr rfl rfl ?_)
       | (refine idLd ?_
          first
          | refine WO_loadB rfl (by assumption) (by rfl) ?_
          | refine WO_load1 rfl (by assumption) ?_)
       | (refine idPk ?_
          first
          | refine WO_p (q_pickT rfl (by first | (with_reducible rfl) | decide) rfl) ?_
          | refine WO_p (q_pickF rfl (by first | (with_reducible rfl) | decide) rfl) ?_)
       | (refine idBi ?_
          first
          | refine WO_lenSl rfl ?_
          | refine WO_lenStr rfl ?_)
       | (refine idBo ?_
          first
          | refine WO_add rfl rfl (by omega) ?_
          | refine WO_sub rfl rfl (by omega) ?_
          | refine WO_mul rfl rfl (by omega) ?_
          | refine WO_rem rfl rfl (by omega) (by omega) ?_
          | refine WO_quo rfl rfl (by omega) (by omega) (by omega) ?_
          | refine WO_p (q_neBool rfl rfl) ?_
          | refine WO_p (q_eqBool rfl rfl) ?_)
       | (refine idCv ?_; refine WO_p (q_convert rfl (wrap_i64_in ⟨by omega, by omega⟩)) ?_)
       | (refine idBuild ?_; refine WO_p (q_build rfl (by rfl) (by simp only [fillS, List.set_cons_zero, List.set_cons_succ]; rfl)) ?_)
       | refine WO_nil ?_)
    | (refine idAt ?_
       first
       | refine at_next ?_
       | refine at_block ?_
       | refine at_next_exit ?_
       | refine at_next_ret ?_
       | refine at_block_exit ?_
       | refine at_block_other rfl ?_
       | refine at_block_ret ?_
       | refine at_loop_exit ?_
       | refine at_loop_ret ?_)
    | (refine idW ?_
       first
       | refine W_seq ?_
       | refine W_region ?_
       | refine W_block ?_
       | refine W_skip ?_
       | refine W_exit ?_
       | refine W_ret ?_
       | refine W_condT rfl (by first | (with_reducible rfl) | decide) ?_
       | refine W_condF rfl (by first | (with_reducible rfl) | decide) ?_))
  refine W_condF rfl (by simp) ?_
  repeat (first
    | (refine idWO ?_
       first
       | refine WO_simple rfl ?_
       | (refine idG ?_
          first
          | refine WO_yes rfl rfl (by first | (with_reducible rfl) | decide) ?_
          | refine WO_no rfl rfl (by first | (with_reducible rfl) | decide) ?_
          | refine WO_noU rfl rfl ?_)
       | (refine idFA ?_
          first
          | refine WO_fieldAddr0 rfl rfl ?_
          | refine WO_fieldAddr rfl rfl ?_)
       | (refine idLd ?_
          first
          | refine WO_loadB rfl (by assumption) (by rfl) ?_
          | refine WO_load1 rfl (by assumption) ?_)
       | (refine idPk ?_
          first
          | refine WO_p (q_pickT rfl (by first | (with_reducible rfl) | decide) rfl) ?_
          | refine WO_p (q_pickF rfl (by first | (with_reducible rfl) | decide) rfl) ?_)
       | (refine idBi ?_
          first
          | refine WO_lenSl rfl ?_
          | refine WO_lenStr rfl ?_)
       | (refine idBo ?_
          first
          | refine WO_add rfl rfl (by omega) ?_
          | refine WO_sub rfl rfl (by omega) ?_
          | refine WO_mul rfl rfl (by omega) ?_
          | refine WO_rem rfl rfl (by omega) (by omega) ?_
          | refine WO_quo rfl rfl (by omega) (by omega) (by omega) ?_
          | refine WO_p (q_neBool rfl rfl) ?_
          | refine WO_p (q_eqBool rfl rfl) ?_)
       | (refine idCv ?_; refine WO_p (q_convert rfl (wrap_i64_in ⟨by omega, by omega⟩)) ?_)
       | (refine idBuild ?_; refine WO_p (q_build rfl (by rfl) (by simp only [fillS, List.set_cons_zero, List.set_cons_succ]; rfl)) ?_)
       | refine WO_nil ?_)
    | (refine idAt ?_
       first
       | refine at_next ?_
       | refine at_block ?_
       | refine at_next_exit ?_
       | refine at_next_ret ?_
       | refine at_block_exit ?_
       | refine at_block_other rfl ?_
       | refine at_block_ret ?_
       | refine at_loop_exit ?_
       | refine at_loop_ret ?_)
    | (refine idW ?_
       first
       | refine W_seq ?_
       | refine W_region ?_
       | refine W_block ?_
       | refine W_skip ?_
       | refine W_exit ?_
       | refine W_ret ?_
       | refine W_condT rfl (by first | (with_reducible rfl) | decide) ?_
       | refine W_condF rfl (by first | (with_reducible rfl) | decide) ?_))
  have e15 := e13.trans (e4.trans e5)
  refine WO_call rfl (toCellS_ret v l F w5 (h.ext e15) hn) ?_
  rintro x1 w6 ⟨⟨F6, h6, _, _⟩, e6⟩
  repeat (first
    | (refine idWO ?_
       first
       | refine WO_simple rfl ?_
       | (refine idG ?_
          first
          | refine WO_yes rfl rfl (by first | (with_reducible rfl) | decide) ?_
          | refine WO_no rfl rfl (by first | (with_reducible rfl) | decide) ?_
          | refine WO_noU rfl rfl ?_)
       | (refine idFA ?_
          first
          | refine WO_fieldAddr0 rfl rfl ?_
          | refine WO_fieldAddr rfl rfl ?_)
       | (refine idLd ?_
          first
          | refine WO_loadB rfl (by assumption) (by rfl) ?_
          | refine WO_load1 rfl (by assumption) ?_)
       | (refine idPk ?_
          first
          | refine WO_p (q_pickT rfl (by first | (with_reducible rfl) | decide) rfl) ?_
          | refine WO_p (q_pickF rfl (by first | (with_reducible rfl) | decide) rfl) ?_)
       | (refine idBi ?_
          first
          | refine WO_lenSl rfl ?_
          | refine WO_lenStr rfl ?_)
       | (refine idBo ?_
          first
          | refine WO_add rfl rfl (by omega) ?_
          | refine WO_sub rfl rfl (by omega) ?_
          | refine WO_mul rfl rfl (by omega) ?_
          | refine WO_rem rfl rfl (by omega) (by omega) ?_
          | refine WO_quo rfl rfl (by omega) (by omega) (by omega) ?_
          | refine WO_p (q_neBool rfl rfl) ?_
          | refine WO_p (q_eqBool rfl rfl) ?_)
       | (refine idCv ?_; refine WO_p (q_convert rfl (wrap_i64_in ⟨by omega, by omega⟩)) ?_)
       | (refine idBuild ?_; refine WO_p (q_build rfl (by rfl) (by simp only [fillS, List.set_cons_zero, List.set_cons_succ]; rfl)) ?_)
       | refine WO_nil ?_)
    | (refine idAt ?_
       first
       | refine at_next ?_
       | refine at_block ?_
       | refine at_next_exit ?_
       | refine at_next_ret ?_
       | refine at_block_exit ?_
       | refine at_block_other rfl ?_
       | refine at_block_ret ?_
       | refine at_loop_exit ?_
       | refine at_loop_ret ?_)
    | (refine idW ?_
       first
       | refine W_seq ?_
       | refine W_region ?_
       | refine W_block ?_
       | refine W_skip ?_
       | refine W_exit ?_
       | refine W_ret ?_
       | refine W_condT rfl (by first | (with_reducible rfl) | decide) ?_
       | refine W_condF rfl (by first | (with_reducible rfl) | decide) ?_))
  refine WO_call rfl (eqCellS_ret x0 x1 l l F4 F6 w6 (h4.ext (e5.trans e6)).ces h6.ces) ?_
  rintro _ w7 ⟨rfl, e7⟩
  rw [decide_eq_true rfl]
  repeat (first
    | (refine idWO ?_
       first
       | refine WO_simple rfl ?_
       | (refine idG ?_
          first
          | refine WO_yes rfl rfl (by first | (with_reducible rfl) | decide) ?_
          | refine WO_no rfl rfl (by first | (with_reducible rfl) | decide) ?_
          | refine WO_noU rfl rfl ?_)
       | (refine idFA ?_
          first
          | refine WO_fieldAddr0 rfl rfl ?_
          | refine WO_fieldAddr rfl rfl ?_)
       | (refine idLd ?_
          first
          | refine WO_loadB rfl (by assumption) (by rfl) ?_
          | refine WO_load1 rfl (by assumption) ?_)
       | (refine idPk ?_
          first
          | refine WO_p (q_pickT rfl (by first | (with_reducible rfl) | decide) rfl) ?_
          | refine WO_p (q_pickF rfl (by first | (with_reducible rfl) | decide) rfl) ?_)
       | (refine idBi ?_
          first
          | refine WO_lenSl rfl ?_
          | refine WO_lenStr rfl ?_)
       | (refine idBo ?_
          first
          | refine WO_add rfl rfl (by omega) ?_
          | refine WO_sub rfl rfl (by omega) ?_
          | refine WO_mul rfl rfl (by omega) ?_
          | refine WO_rem rfl rfl (by omega) (by omega) ?_
          | refine WO_quo rfl rfl (by omega) (by omega) (by omega) ?_
          | refine WO_p (q_neBool rfl rfl) ?_
          | refine WO_p (q_eqBool rfl rfl) ?_)
       | (refine idCv ?_; refine WO_p (q_convert rfl (wrap_i64_in ⟨by omega, by omega⟩)) ?_)
       | (refine idBuild ?_; refine WO_p (q_build rfl (by rfl) (by simp only [fillS, List.set_cons_zero, List.set_cons_succ]; rfl)) ?_)
       | refine WO_nil ?_)
    | (refine idAt ?_
       first
       | refine at_next ?_
       | refine at_block ?_
       | refine at_next_exit ?_
       | refine at_next_ret ?_
       | refine at_block_exit ?_
       | refine at_block_other rfl ?_
       | refine at_block_ret ?_
       | refine at_loop_exit ?_
       | refine at_loop_ret ?_)
    | (refine idW ?_
       first
       | refine W_seq ?_
       | refine W_region ?_
       | refine W_block ?_
       | refine W_skip ?_
       | refine W_exit ?_
       | refine W_ret ?_
       | refine W_condT rfl (by first | (with_reducible rfl) | decide) ?_
       | refine W_condF rfl (by first | (with_reducible rfl) | decide) ?_))
  exact at_ret1 rfl rfl ⟨rfl, e15.trans (e6.trans e7)⟩
end Go.Proofs.Ytginfkgogickcaa
