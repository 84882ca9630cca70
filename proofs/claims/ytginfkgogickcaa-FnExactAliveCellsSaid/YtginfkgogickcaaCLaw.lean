/-
  What is proved here: what the laws' helpers on tags and cells compute: their size, copies, equality, marks.
-/
import Derived.Test.YtginfkgogickcaaCell
import Derived.Test.YtginfkgogickcaaCho
namespace Go.Proofs.Ytginfkgogickcaa
set_option linter.unusedVariables false
set_option linter.unusedSimpArgs false
set_option linter.unnecessarySimpa false
open Go.RowKit

def tgV (t : Tg) : Value := .agg #[.int .i64 t.id, .bool t.u]
def ceV (c : Ce) (vs : Value) : Value := .agg #[.int .i64 c.val, .bool c.al, .int .i64 c.nx, vs]
def cSize (l : List Ce) : Nat := l.length + (l.map fun c => c.st.length).sum

theorem szTagS_ret (v : Value) (l : List Tg) (F : List Nat) (left : Int) (w : World) (h : TgS w v l F) (h0 : 0 ≤ left) (h1 : left ≤ 1048576) :
    Ret Try.prog 53 [v, .int .i64 left] w fun r w' => r = .int .i64 (if (l.length : Int) ≤ left then left - l.length else -1) ∧ w' = w := by
  obtain ⟨A, c, rfl, hl⟩ := h.slice
  unfold maxI at hl
  refine enter Try.func53 rfl Try.ntmps53 rfl rfl ?_
  repeat' (first
    | (refine idWO ?_
       first
       | refine WO_simple rfl ?_
       | (refine idG ?_
          first
          | refine WO_yes rfl rfl (by first | (with_reducible rfl) | decide) ?_
          | refine WO_no rfl rfl (by first | (with_reducible rfl) | decide) ?_
          | refine WO_noU rfl rfl ?_
          | ((refine WO_split rfl rfl (fun c' hc' => ?_)); cases c' <;> (try simp only [decide_eq_true_eq, decide_eq_false_iff_not, beq_iff_eq, beq_eq_false_iff_ne, bne_iff_ne, bne_eq_false_iff_eq, ne_eq, gt_iff_lt, ge_iff_le, Int.not_lt, Int.not_le, Bool.not_eq_true', Bool.not_eq_false', Bool.not_true, Bool.not_false, reduceCtorEq, Decidable.not_not, Bool.true_eq_false, Bool.false_eq_true] at hc') <;> (try (exfalso; omega))))
       | (refine idFA ?_
          first
          | refine WO_fieldAddr0 rfl rfl ?_
          | refine WO_fieldAddr rfl rfl ?_)
       | (refine idLd ?_
          first
          | refine WO_loadB rfl (by assumption) (by rfl) ?_
          | refine WO_load1 rfl (by assumption) ?_)
       | (refine idPk ?_
          first
          | refine WO_p (q_pickT rfl (by first | (with_reducible rfl) | decide) rfl) ?_
          | refine WO_p (q_pickF rfl (by first | (with_reducible rfl) | decide) rfl) ?_)
       | (refine idBi ?_
          first
          | refine WO_lenSl rfl ?_
          | refine WO_lenStr rfl ?_)
       | (refine idBo ?_
          first
          | refine WO_add rfl rfl (by omega) ?_
          | refine WO_sub rfl rfl (by omega) ?_
          | refine WO_mul rfl rfl (by omega) ?_
          | refine WO_rem rfl rfl (by omega) (by omega) ?_
          | refine WO_quo rfl rfl (by omega) (by omega) (by omega) ?_
          | refine WO_p (q_neBool rfl rfl) ?_
          | refine WO_p (q_eqBool rfl rfl) ?_)
       | (refine idCv ?_; refine WO_p (q_convert rfl (wrap_i64_in ⟨by omega, by omega⟩)) ?_)
       | (refine idBuild ?_; refine WO_p (q_build rfl (by rfl) (by simp only [fillS, List.set_cons_zero, List.set_cons_succ]; rfl)) ?_)
       | refine WO_nil ?_)
    | (refine idAt ?_
       first
       | refine at_next ?_
       | refine at_block ?_
       | refine at_next_exit ?_
       | refine at_next_ret ?_
       | refine at_block_exit ?_
       | refine at_block_other rfl ?_
       | refine at_block_ret ?_
       | refine at_loop_exit ?_
       | refine at_loop_ret ?_)
    | (refine idW ?_
       first
       | refine W_seq ?_
       | refine W_region ?_
       | refine W_block ?_
       | refine W_skip ?_
       | refine W_exit ?_
       | refine W_ret ?_
       | refine W_condT rfl (by first | (with_reducible rfl) | decide) ?_
       | refine W_condF rfl (by first | (with_reducible rfl) | decide) ?_
       | ((refine W_cond rfl (fun hc' => ?_) (fun hc' => ?_)) <;> (try simp only [decide_eq_true_eq, decide_eq_false_iff_not, beq_iff_eq, beq_eq_false_iff_ne, bne_iff_ne, bne_eq_false_iff_eq, ne_eq, gt_iff_lt, ge_iff_le, Int.not_lt, Int.not_le, Bool.not_eq_true', Bool.not_eq_false', Bool.not_true, Bool.not_false, reduceCtorEq, Decidable.not_not, Bool.true_eq_false, Bool.false_eq_true] at hc') <;> (try (exfalso; omega)))))
  all_goals (refine at_ret1 rfl rfl ⟨?_, rfl⟩; congr 1; first | (rw [if_pos (by omega)]) | (rw [if_neg (by omega)]))
theorem szCell_ret (vs : Value) (cl : Ce) (F : List Nat) (left : Int) (w : World) (h : TgS w vs cl.st F) (h0 : 0 ≤ left) (h1 : left ≤ 1048576) :
    Ret Try.prog 37 [ceV cl vs, .int .i64 left] w fun r w' => r = .int .i64 (if (cl.st.length : Int) ≤ left then left - cl.st.length else -1) ∧ Ext w w' := by
  refine enter Try.func37 rfl Try.ntmps37 rfl rfl ?_
  refine W_seq (W_region (WO_box rfl fun w1 hs he1 hz1 => ?_))
  replace hs : Blk w1 w.heap.size [.int .i64 cl.val, .bool cl.al, .int .i64 cl.nx, vs] _ := hs
  repeat (first
    | (refine idWO ?_
       first
       | refine WO_simple rfl ?_
       | (refine idG ?_
          first
          | refine WO_yes rfl rfl (by first | (with_reducible rfl) | decide) ?_
          | refine WO_no rfl rfl (by first | (with_reducible rfl) | decide) ?_
          | refine WO_noU rfl rfl ?_)
       | (refine idFA ?_
          first
          | refine WO_fieldAddr0 rfl rfl ?_
          | refine WO_fieldAddr rfl rfl ?_)
       | (refine idLd ?_
          first
          | refine WO_loadB rfl (by assumption) (by rfl) ?_
          | refine WO_load1 rfl (by assumption) ?_)
       | (refine idPk ?_
          first
          | refine WO_p (q_pickT rfl (by first | (with_reducible rfl) | decide) rfl) ?_
          | refine WO_p (q_pickF rfl (by first | (with_reducible rfl) | decide) rfl) ?_)
       | (refine idBi ?_
          first
          | refine WO_lenSl rfl ?_
          | refine WO_lenStr rfl ?_)
       | (refine idBo ?_
          first
          | refine WO_add rfl rfl (by omega) ?_
          | refine WO_sub rfl rfl (by omega) ?_
          | refine WO_mul rfl rfl (by omega) ?_
          | refine WO_rem rfl rfl (by omega) (by omega) ?_
          | refine WO_quo rfl rfl (by omega) (by omega) (by omega) ?_
          | refine WO_p (q_neBool rfl rfl) ?_
          | refine WO_p (q_eqBool rfl rfl) ?_)
       | (refine idCv ?_; refine WO_p (q_convert rfl (wrap_i64_in ⟨by omega, by omega⟩)) ?_)
       | (refine idBuild ?_; refine WO_p (q_build rfl (by rfl) (by simp only [fillS, List.set_cons_zero, List.set_cons_succ]; rfl)) ?_)
       | refine WO_nil ?_)
    | (refine idAt ?_
       first
       | refine at_next ?_
       | refine at_block ?_
       | refine at_next_exit ?_
       | refine at_next_ret ?_
       | refine at_block_exit ?_
       | refine at_block_other rfl ?_
       | refine at_block_ret ?_
       | refine at_loop_exit ?_
       | refine at_loop_ret ?_)
    | (refine idW ?_
       first
       | refine W_seq ?_
       | refine W_region ?_
       | refine W_block ?_
       | refine W_skip ?_
       | refine W_exit ?_
       | refine W_ret ?_
       | refine W_condT rfl (by first | (with_reducible rfl) | decide) ?_
       | refine W_condF rfl (by first | (with_reducible rfl) | decide) ?_))
  refine WO_call rfl (szTagS_ret vs cl.st F left w1 (h.ext he1) h0 h1) ?_
  rintro r w2 ⟨rfl, rfl⟩
  by_cases hle : (cl.st.length : Int) ≤ left
  · rw [if_pos hle]
    repeat' (first
      | (refine idWO ?_
         first
         | refine WO_simple rfl ?_
         | (refine idG ?_
            first
            | refine WO_yes rfl rfl (by first | (with_reducible rfl) | decide) ?_
            | refine WO_no rfl rfl (by first | (with_reducible rfl) | decide) ?_
            | refine WO_noU rfl rfl ?_
            | ((refine WO_split rfl rfl (fun c' hc' => ?_)); cases c' <;> (try simp only [decide_eq_true_eq, decide_eq_false_iff_not, beq_iff_eq, beq_eq_false_iff_ne, bne_iff_ne, bne_eq_false_iff_eq, ne_eq, gt_iff_lt, ge_iff_le, Int.not_lt, Int.not_le, Bool.not_eq_true', Bool.not_eq_false', Bool.not_true, Bool.not_false, reduceCtorEq, Decidable.not_not, Bool.true_eq_false, Bool.false_eq_true] at hc') <;> (try (exfalso; omega))))
         | (refine idFA ?_
            first
            | refine WO_fieldAddr0 rfl rfl ?_
            | refine WO_fieldAddr rfl rfl ?_)
         | (refine idLd ?_
            first
            | refine WO_loadB rfl (by assumption) (by rfl) ?_
            | refine WO_load1 rfl (by assumption) ?_)
         | (refine idPk ?_
            first
            | refine WO_p (q_pickT rfl (by first | (with_reducible rfl) | decide) rfl) ?_
            | refine WO_p (q_pickF rfl (by first | (with_reducible rfl) | decide) rfl) ?_)
         | (refine idBi ?_
            first
            | refine WO_lenSl rfl ?_
            | refine WO_lenStr rfl ?_)
         | (refine idBo ?_
            first
            | refine WO_add rfl rfl (by omega) ?_
            | refine WO_sub rfl rfl (by omega) ?_
            | refine WO_mul rfl rfl (by omega) ?_
            | refine WO_rem rfl rfl (by omega) (by omega) ?_
            | refine WO_quo rfl rfl (by omega) (by omega) (by omega) ?_
            | refine WO_p (q_neBool rfl rfl) ?_
            | refine WO_p (q_eqBool rfl rfl) ?_)
         | (refine idCv ?_; refine WO_p (q_convert rfl (wrap_i64_in ⟨by omega, by omega⟩)) ?_)
         | (refine idBuild ?_; refine WO_p (q_build rfl (by rfl) (by simp only [fillS, List.set_cons_zero, List.set_cons_succ]; rfl)) ?_)
         | refine WO_nil ?_)
      | (refine idAt ?_
         first
         | refine at_next ?_
         | refine at_block ?_
         | refine at_next_exit ?_
         | refine at_next_ret ?_
         | refine at_block_exit ?_
         | refine at_block_other rfl ?_
         | refine at_block_ret ?_
         | refine at_loop_exit ?_
         | refine at_loop_ret ?_)
      | (refine idW ?_
         first
         | refine W_seq ?_
         | refine W_region ?_
         | refine W_block ?_
         | refine W_skip ?_
         | refine W_exit ?_
         | refine W_ret ?_
         | refine W_condT rfl (by first | (with_reducible rfl) | decide) ?_
         | refine W_condF rfl (by first | (with_reducible rfl) | decide) ?_
         | ((refine W_cond rfl (fun hc' => ?_) (fun hc' => ?_)) <;> (try simp only [decide_eq_true_eq, decide_eq_false_iff_not, beq_iff_eq, beq_eq_false_iff_ne, bne_iff_ne, bne_eq_false_iff_eq, ne_eq, gt_iff_lt, ge_iff_le, Int.not_lt, Int.not_le, Bool.not_eq_true', Bool.not_eq_false', Bool.not_true, Bool.not_false, reduceCtorEq, Decidable.not_not, Bool.true_eq_false, Bool.false_eq_true] at hc') <;> (try (exfalso; omega)))))
    exact at_ret1 rfl rfl ⟨rfl, he1⟩
  · rw [if_neg hle]
    repeat' (first
      | (refine idWO ?_
         first
         | refine WO_simple rfl ?_
         | (refine idG ?_
            first
            | refine WO_yes rfl rfl (by first | (with_reducible rfl) | decide) ?_
            | refine WO_no rfl rfl (by first | (with_reducible rfl) | decide) ?_
            | refine WO_noU rfl rfl ?_
            | ((refine WO_split rfl rfl (fun c' hc' => ?_)); cases c' <;> (try simp only [decide_eq_true_eq, decide_eq_false_iff_not, beq_iff_eq, beq_eq_false_iff_ne, bne_iff_ne, bne_eq_false_iff_eq, ne_eq, gt_iff_lt, ge_iff_le, Int.not_lt, Int.not_le, Bool.not_eq_true', Bool.not_eq_false', Bool.not_true, Bool.not_false, reduceCtorEq, Decidable.not_not, Bool.true_eq_false, Bool.false_eq_true] at hc') <;> (try (exfalso; omega))))
         | (refine idFA ?_
            first
            | refine WO_fieldAddr0 rfl rfl ?_
            | refine WO_fieldAddr rfl rfl ?_)
         | (refine idLd ?_
            first
            | refine WO_loadB rfl (by assumption) (by rfl) ?_
            | refine WO_load1 rfl (by assumption) ?_)
         | (refine idPk ?_
            first
            | refine WO_p (q_pickT rfl (by first | (with_reducible rfl) | decide) rfl) ?_
            | refine WO_p (q_pickF rfl (by first | (with_reducible rfl) | decide) rfl) ?_)
         | (refine idBi ?_
            first
            | refine WO_lenSl rfl ?_
            | refine WO_lenStr rfl ?_)
         | (refine idBo ?_
            first
            | refine WO_add rfl rfl (by omega) ?_
            | refine WO_sub rfl rfl (by omega) ?_
            | refine WO_mul rfl rfl (by omega) ?_
            | refine WO_rem rfl rfl (by omega) (by omega) ?_
            | refine WO_quo rfl rfl (by omega) (by omega) (by omega) ?_
            | refine WO_p (q_neBool rfl rfl) ?_
            | refine WO_p (q_eqBool rfl rfl) ?_)
         | (refine idCv ?_; refine WO_p (q_convert rfl (wrap_i64_in ⟨by omega, by omega⟩)) ?_)
         | (refine idBuild ?_; refine WO_p (q_build rfl (by rfl) (by simp only [fillS, List.set_cons_zero, List.set_cons_succ]; rfl)) ?_)
         | refine WO_nil ?_)
      | (refine idAt ?_
         first
         | refine at_next ?_
         | refine at_block ?_
         | refine at_next_exit ?_
         | refine at_next_ret ?_
         | refine at_block_exit ?_
         | refine at_block_other rfl ?_
         | refine at_block_ret ?_
         | refine at_loop_exit ?_
         | refine at_loop_ret ?_)
      | (refine idW ?_
         first
         | refine W_seq ?_
         | refine W_region ?_
         | refine W_block ?_
         | refine W_skip ?_
         | refine W_exit ?_
         | refine W_ret ?_
         | refine W_condT rfl (by first | (with_reducible rfl) | decide) ?_
         | refine W_condF rfl (by first | (with_reducible rfl) | decide) ?_
         | ((refine W_cond rfl (fun hc' => ?_) (fun hc' => ?_)) <;> (try simp only [decide_eq_true_eq, decide_eq_false_iff_not, beq_iff_eq, beq_eq_false_iff_ne, bne_iff_ne, bne_eq_false_iff_eq, ne_eq, gt_iff_lt, ge_iff_le, Int.not_lt, Int.not_le, Bool.not_eq_true', Bool.not_eq_false', Bool.not_true, Bool.not_false, reduceCtorEq, Decidable.not_not, Bool.true_eq_false, Bool.false_eq_true] at hc') <;> (try (exfalso; omega)))))
    exact at_ret1 rfl rfl ⟨rfl, he1⟩
theorem szCellS_ret (v : Value) (l : List Ce) (F : List Nat) (left : Int) (w : World) (h : CeS w v l F) (h0 : 0 ≤ left) (h1 : left ≤ 1048576) :
    Ret Try.prog 11 [v, .int .i64 left] w fun r w' => (∃ i : Int, r = .int .i64 i ∧ i ≤ 1048576 ∧ (0 ≤ i → (cSize l : Int) ≤ left)) ∧ Ext w w' := by
  obtain ⟨A, c, rfl, hl⟩ := h.slice
  unfold maxI at hl
  refine enter Try.func11 rfl Try.ntmps11 rfl rfl ?_
  repeat' (first
    | (refine idWO ?_
       first
       | refine WO_simple rfl ?_
       | (refine idG ?_
          first
          | refine WO_yes rfl rfl (by first | (with_reducible rfl) | decide) ?_
          | refine WO_no rfl rfl (by first | (with_reducible rfl) | decide) ?_
          | refine WO_noU rfl rfl ?_
          | ((refine WO_split rfl rfl (fun c' hc' => ?_)); cases c' <;> (try simp only [decide_eq_true_eq, decide_eq_false_iff_not, beq_iff_eq, beq_eq_false_iff_ne, bne_iff_ne, bne_eq_false_iff_eq, ne_eq, gt_iff_lt, ge_iff_le, Int.not_lt, Int.not_le, Bool.not_eq_true', Bool.not_eq_false', Bool.not_true, Bool.not_false, reduceCtorEq, Decidable.not_not, Bool.true_eq_false, Bool.false_eq_true] at hc') <;> (try (exfalso; omega))))
       | (refine idFA ?_
          first
          | refine WO_fieldAddr0 rfl rfl ?_
          | refine WO_fieldAddr rfl rfl ?_)
       | (refine idLd ?_
          first
          | refine WO_loadB rfl (by assumption) (by rfl) ?_
          | refine WO_load1 rfl (by assumption) ?_)
       | (refine idPk ?_
          first
          | refine WO_p (q_pickT rfl (by first | (with_reducible rfl) | decide) rfl) ?_
          | refine WO_p (q_pickF rfl (by first | (with_reducible rfl) | decide) rfl) ?_)
       | (refine idBi ?_
          first
          | refine WO_lenSl rfl ?_
          | refine WO_lenStr rfl ?_)
       | (refine idBo ?_
          first
          | refine WO_add rfl rfl (by omega) ?_
          | refine WO_sub rfl rfl (by omega) ?_
          | refine WO_mul rfl rfl (by omega) ?_
          | refine WO_rem rfl rfl (by omega) (by omega) ?_
          | refine WO_quo rfl rfl (by omega) (by omega) (by omega) ?_
          | refine WO_p (q_neBool rfl rfl) ?_
          | refine WO_p (q_eqBool rfl rfl) ?_)
       | (refine idCv ?_; refine WO_p (q_convert rfl (wrap_i64_in ⟨by omega, by omega⟩)) ?_)
       | (refine idBuild ?_; refine WO_p (q_build rfl (by rfl) (by simp only [fillS, List.set_cons_zero, List.set_cons_succ]; rfl)) ?_)
       | refine WO_nil ?_)
    | (refine idAt ?_
       first
       | refine at_next ?_
       | refine at_block ?_
       | refine at_next_exit ?_
       | refine at_next_ret ?_
       | refine at_block_exit ?_
       | refine at_block_other rfl ?_
       | refine at_block_ret ?_
       | refine at_loop_exit ?_
       | refine at_loop_ret ?_)
    | (refine idW ?_
       first
       | refine W_seq ?_
       | refine W_region ?_
       | refine W_block ?_
       | refine W_skip ?_
       | refine W_exit ?_
       | refine W_ret ?_
       | refine W_condT rfl (by first | (with_reducible rfl) | decide) ?_
       | refine W_condF rfl (by first | (with_reducible rfl) | decide) ?_
       | ((refine W_cond rfl (fun hc' => ?_) (fun hc' => ?_)) <;> (try simp only [decide_eq_true_eq, decide_eq_false_iff_not, beq_iff_eq, beq_eq_false_iff_ne, bne_iff_ne, bne_eq_false_iff_eq, ne_eq, gt_iff_lt, ge_iff_le, Int.not_lt, Int.not_le, Bool.not_eq_true', Bool.not_eq_false', Bool.not_true, Bool.not_false, reduceCtorEq, Decidable.not_not, Bool.true_eq_false, Bool.false_eq_true] at hc') <;> (try (exfalso; omega)))))
  · exact at_ret1 rfl rfl ⟨⟨-1, rfl, by omega, fun h => by omega⟩, Ext.refl _⟩
  · refine W_loop (α := Nat × Int) (fun p => [(0, .slice A l.length c), (1, .int .i64 p.2), (5, .int .i64 (p.1 : Int))])
      (fun p w' => p.1 ≤ l.length ∧ 0 ≤ p.2 ∧ p.2 = left - l.length - ((l.take p.1).map fun c => c.st.length).sum ∧ Ext w w') (fun p => l.length - p.1) (0, left - l.length) (by repeat (first | exact True.intro | refine And.intro rfl ?_)) ⟨Nat.zero_le _, by omega, by simp, Ext.refl _⟩ ?_
    rintro ⟨i, lf⟩ w1 ⟨hi, hp, hsum, he⟩
    simp only at hi hp hsum ⊢
    repeat (first
      | (refine idWO ?_
         first
         | refine WO_simple rfl ?_
         | (refine idG ?_
            first
            | refine WO_yes rfl rfl (by first | (with_reducible rfl) | decide) ?_
            | refine WO_no rfl rfl (by first | (with_reducible rfl) | decide) ?_
            | refine WO_noU rfl rfl ?_)
         | (refine idFA ?_
            first
            | refine WO_fieldAddr0 rfl rfl ?_
            | refine WO_fieldAddr rfl rfl ?_)
         | (refine idLd ?_
            first
            | refine WO_loadB rfl (by assumption) (by rfl) ?_
            | refine WO_load1 rfl (by assumption) ?_)
         | (refine idPk ?_
            first
            | refine WO_p (q_pickT rfl (by first | (with_reducible rfl) | decide) rfl) ?_
            | refine WO_p (q_pickF rfl (by first | (with_reducible rfl) | decide) rfl) ?_)
         | (refine idBi ?_
            first
            | refine WO_lenSl rfl ?_
            | refine WO_lenStr rfl ?_)
         | (refine idBo ?_
            first
            | refine WO_add rfl rfl (by omega) ?_
            | refine WO_sub rfl rfl (by omega) ?_
            | refine WO_mul rfl rfl (by omega) ?_
            | refine WO_rem rfl rfl (by omega) (by omega) ?_
            | refine WO_quo rfl rfl (by omega) (by omega) (by omega) ?_
            | refine WO_p (q_neBool rfl rfl) ?_
            | refine WO_p (q_eqBool rfl rfl) ?_)
         | (refine idCv ?_; refine WO_p (q_convert rfl (wrap_i64_in ⟨by omega, by omega⟩)) ?_)
         | (refine idBuild ?_; refine WO_p (q_build rfl (by rfl) (by simp only [fillS, List.set_cons_zero, List.set_cons_succ]; rfl)) ?_)
         | refine WO_nil ?_)
      | (refine idAt ?_
         first
         | refine at_next ?_
         | refine at_block ?_
         | refine at_next_exit ?_
         | refine at_next_ret ?_
         | refine at_block_exit ?_
         | refine at_block_other rfl ?_
         | refine at_block_ret ?_
         | refine at_loop_exit ?_
         | refine at_loop_ret ?_)
      | (refine idW ?_
         first
         | refine W_seq ?_
         | refine W_region ?_
         | refine W_block ?_
         | refine W_skip ?_
         | refine W_exit ?_
         | refine W_ret ?_
         | refine W_condT rfl (by first | (with_reducible rfl) | decide) ?_
         | refine W_condF rfl (by first | (with_reducible rfl) | decide) ?_))
    refine W_cond rfl (fun hc => ?_) (fun hc => ?_)
    · have hlt : i < l.length := by simpa using hc
      obtain ⟨b, o, vs, Fs, rfl, hbF, c0, c1, c2, c3, hst, hFs⟩ := ces_at (h.ext he) hlt
      repeat (first
        | (refine idWO ?_
           first
           | refine WO_simple rfl ?_
           | (refine idG ?_
              first
              | refine WO_yes rfl rfl (by first | (with_reducible rfl) | decide) ?_
              | refine WO_no rfl rfl (by first | (with_reducible rfl) | decide) ?_
              | refine WO_noU rfl rfl ?_)
           | (refine idFA ?_
              first
              | refine WO_fieldAddr0 rfl rfl ?_
              | refine WO_fieldAddr rfl rfl ?_)
           | (refine idLd ?_
              first
              | refine WO_loadB rfl (by assumption) (by rfl) ?_
              | refine WO_load1 rfl (by assumption) ?_)
           | (refine idPk ?_
              first
              | refine WO_p (q_pickT rfl (by first | (with_reducible rfl) | decide) rfl) ?_
              | refine WO_p (q_pickF rfl (by first | (with_reducible rfl) | decide) rfl) ?_)
           | (refine idBi ?_
              first
              | refine WO_lenSl rfl ?_
              | refine WO_lenStr rfl ?_)
           | (refine idBo ?_
              first
              | refine WO_add rfl rfl (by omega) ?_
              | refine WO_sub rfl rfl (by omega) ?_
              | refine WO_mul rfl rfl (by omega) ?_
              | refine WO_rem rfl rfl (by omega) (by omega) ?_
              | refine WO_quo rfl rfl (by omega) (by omega) (by omega) ?_
              | refine WO_p (q_neBool rfl rfl) ?_
              | refine WO_p (q_eqBool rfl rfl) ?_)
           | (refine idCv ?_; refine WO_p (q_convert rfl (wrap_i64_in ⟨by omega, by omega⟩)) ?_)
           | (refine idBuild ?_; refine WO_p (q_build rfl (by rfl) (by simp only [fillS, List.set_cons_zero, List.set_cons_succ]; rfl)) ?_)
           | refine WO_nil ?_)
        | (refine idAt ?_
           first
           | refine at_next ?_
           | refine at_block ?_
           | refine at_next_exit ?_
           | refine at_next_ret ?_
           | refine at_block_exit ?_
           | refine at_block_other rfl ?_
           | refine at_block_ret ?_
           | refine at_loop_exit ?_
           | refine at_loop_ret ?_)
        | (refine idW ?_
           first
           | refine W_seq ?_
           | refine W_region ?_
           | refine W_block ?_
           | refine W_skip ?_
           | refine W_exit ?_
           | refine W_ret ?_
           | refine W_condT rfl (by first | (with_reducible rfl) | decide) ?_
           | refine W_condF rfl (by first | (with_reducible rfl) | decide) ?_))
      refine WO_indexAddr rfl rfl rfl hlt ?_
      refine WO_loadS rfl rfl (four c0 c1 c2 c3) ?_
      repeat (first
        | (refine idWO ?_
           first
           | refine WO_simple rfl ?_
           | (refine idG ?_
              first
              | refine WO_yes rfl rfl (by first | (with_reducible rfl) | decide) ?_
              | refine WO_no rfl rfl (by first | (with_reducible rfl) | decide) ?_
              | refine WO_noU rfl rfl ?_)
           | (refine idFA ?_
              first
              | refine WO_fieldAddr0 rfl rfl ?_
              | refine WO_fieldAddr rfl rfl ?_)
           | (refine idLd ?_
              first
              | refine WO_loadB rfl (by assumption) (by rfl) ?_
              | refine WO_load1 rfl (by assumption) ?_)
           | (refine idPk ?_
              first
              | refine WO_p (q_pickT rfl (by first | (with_reducible rfl) | decide) rfl) ?_
              | refine WO_p (q_pickF rfl (by first | (with_reducible rfl) | decide) rfl) ?_)
           | (refine idBi ?_
              first
              | refine WO_lenSl rfl ?_
              | refine WO_lenStr rfl ?_)
           | (refine idBo ?_
              first
              | refine WO_add rfl rfl (by omega) ?_
              | refine WO_sub rfl rfl (by omega) ?_
              | refine WO_mul rfl rfl (by omega) ?_
              | refine WO_rem rfl rfl (by omega) (by omega) ?_
              | refine WO_quo rfl rfl (by omega) (by omega) (by omega) ?_
              | refine WO_p (q_neBool rfl rfl) ?_
              | refine WO_p (q_eqBool rfl rfl) ?_)
           | (refine idCv ?_; refine WO_p (q_convert rfl (wrap_i64_in ⟨by omega, by omega⟩)) ?_)
           | (refine idBuild ?_; refine WO_p (q_build rfl (by rfl) (by simp only [fillS, List.set_cons_zero, List.set_cons_succ]; rfl)) ?_)
           | refine WO_nil ?_)
        | (refine idAt ?_
           first
           | refine at_next ?_
           | refine at_block ?_
           | refine at_next_exit ?_
           | refine at_next_ret ?_
           | refine at_block_exit ?_
           | refine at_block_other rfl ?_
           | refine at_block_ret ?_
           | refine at_loop_exit ?_
           | refine at_loop_ret ?_)
        | (refine idW ?_
           first
           | refine W_seq ?_
           | refine W_region ?_
           | refine W_block ?_
           | refine W_skip ?_
           | refine W_exit ?_
           | refine W_ret ?_
           | refine W_condT rfl (by first | (with_reducible rfl) | decide) ?_
           | refine W_condF rfl (by first | (with_reducible rfl) | decide) ?_))
      refine WO_call rfl (szCell_ret vs l[i] Fs lf w1 hst hp (by omega)) ?_
      rintro r w2 ⟨rfl, he2⟩
      have hadd : ((l.take (i + 1)).map fun c => c.st.length).sum = ((l.take i).map fun c => c.st.length).sum + l[i].st.length := by
        rw [List.take_succ_eq_append_getElem hlt, List.map_append, List.sum_append]
        simp only [List.map_cons, List.map_nil, List.sum_cons, List.sum_nil, Nat.add_zero]
      by_cases hle : (l[i].st.length : Int) ≤ lf
      · rw [if_pos hle]
        clear hst
        repeat' (first
          | (refine idWO ?_
             first
             | refine WO_simple rfl ?_
             | (refine idG ?_
                first
                | refine WO_yes rfl rfl (by first | (with_reducible rfl) | decide) ?_
                | refine WO_no rfl rfl (by first | (with_reducible rfl) | decide) ?_
                | refine WO_noU rfl rfl ?_
                | ((refine WO_split rfl rfl (fun c' hc' => ?_)); cases c' <;> (try simp only [decide_eq_true_eq, decide_eq_false_iff_not, beq_iff_eq, beq_eq_false_iff_ne, bne_iff_ne, bne_eq_false_iff_eq, ne_eq, gt_iff_lt, ge_iff_le, Int.not_lt, Int.not_le, Bool.not_eq_true', Bool.not_eq_false', Bool.not_true, Bool.not_false, reduceCtorEq, Decidable.not_not, Bool.true_eq_false, Bool.false_eq_true] at hc') <;> (try (exfalso; omega))))
             | (refine idFA ?_
                first
                | refine WO_fieldAddr0 rfl rfl ?_
                | refine WO_fieldAddr rfl rfl ?_)
             | (refine idLd ?_
                first
                | refine WO_loadB rfl (by assumption) (by rfl) ?_
                | refine WO_load1 rfl (by assumption) ?_)
             | (refine idPk ?_
                first
                | refine WO_p (q_pickT rfl (by first | (with_reducible rfl) | decide) rfl) ?_
                | refine WO_p (q_pickF rfl (by first | (with_reducible rfl) | decide) rfl) ?_)
             | (refine idBi ?_
                first
                | refine WO_lenSl rfl ?_
                | refine WO_lenStr rfl ?_)
             | (refine idBo ?_
                first
                | refine WO_add rfl rfl (by omega) ?_
                | refine WO_sub rfl rfl (by omega) ?_
                | refine WO_mul rfl rfl (by omega) ?_
                | refine WO_rem rfl rfl (by omega) (by omega) ?_
                | refine WO_quo rfl rfl (by omega) (by omega) (by omega) ?_
                | refine WO_p (q_neBool rfl rfl) ?_
                | refine WO_p (q_eqBool rfl rfl) ?_)
             | (refine idCv ?_; refine WO_p (q_convert rfl (wrap_i64_in ⟨by omega, by omega⟩)) ?_)
             | (refine idBuild ?_; refine WO_p (q_build rfl (by rfl) (by simp only [fillS, List.set_cons_zero, List.set_cons_succ]; rfl)) ?_)
             | refine WO_nil ?_)
          | (refine idAt ?_
             first
             | refine at_next ?_
             | refine at_block ?_
             | refine at_next_exit ?_
             | refine at_next_ret ?_
             | refine at_block_exit ?_
             | refine at_block_other rfl ?_
             | refine at_block_ret ?_
             | refine at_loop_exit ?_
             | refine at_loop_ret ?_)
          | (refine idW ?_
             first
             | refine W_seq ?_
             | refine W_region ?_
             | refine W_block ?_
             | refine W_skip ?_
             | refine W_exit ?_
             | refine W_ret ?_
             | refine W_condT rfl (by first | (with_reducible rfl) | decide) ?_
             | refine W_condF rfl (by first | (with_reducible rfl) | decide) ?_
             | ((refine W_cond rfl (fun hc' => ?_) (fun hc' => ?_)) <;> (try simp only [decide_eq_true_eq, decide_eq_false_iff_not, beq_iff_eq, beq_eq_false_iff_ne, bne_iff_ne, bne_eq_false_iff_eq, ne_eq, gt_iff_lt, ge_iff_le, Int.not_lt, Int.not_le, Bool.not_eq_true', Bool.not_eq_false', Bool.not_true, Bool.not_false, reduceCtorEq, Decidable.not_not, Bool.true_eq_false, Bool.false_eq_true] at hc') <;> (try (exfalso; omega)))))
        refine at_loop (i + 1, lf - l[i].st.length) (by repeat (first | exact True.intro | refine And.intro rfl ?_)) ⟨hlt, by simp only; omega, by simp only; rw [hadd]; omega, he.trans he2⟩ (by simp only; omega)
      · rw [if_neg hle]
        repeat' (first
          | (refine idWO ?_
             first
             | refine WO_simple rfl ?_
             | (refine idG ?_
                first
                | refine WO_yes rfl rfl (by first | (with_reducible rfl) | decide) ?_
                | refine WO_no rfl rfl (by first | (with_reducible rfl) | decide) ?_
                | refine WO_noU rfl rfl ?_
                | ((refine WO_split rfl rfl (fun c' hc' => ?_)); cases c' <;> (try simp only [decide_eq_true_eq, decide_eq_false_iff_not, beq_iff_eq, beq_eq_false_iff_ne, bne_iff_ne, bne_eq_false_iff_eq, ne_eq, gt_iff_lt, ge_iff_le, Int.not_lt, Int.not_le, Bool.not_eq_true', Bool.not_eq_false', Bool.not_true, Bool.not_false, reduceCtorEq, Decidable.not_not, Bool.true_eq_false, Bool.false_eq_true] at hc') <;> (try (exfalso; omega))))
             | (refine idFA ?_
                first
                | refine WO_fieldAddr0 rfl rfl ?_
                | refine WO_fieldAddr rfl rfl ?_)
             | (refine idLd ?_
                first
                | refine WO_loadB rfl (by assumption) (by rfl) ?_
                | refine WO_load1 rfl (by assumption) ?_)
             | (refine idPk ?_
                first
                | refine WO_p (q_pickT rfl (by first | (with_reducible rfl) | decide) rfl) ?_
                | refine WO_p (q_pickF rfl (by first | (with_reducible rfl) | decide) rfl) ?_)
             | (refine idBi ?_
                first
                | refine WO_lenSl rfl ?_
                | refine WO_lenStr rfl ?_)
             | (refine idBo ?_
                first
                | refine WO_add rfl rfl (by omega) ?_
                | refine WO_sub rfl rfl (by omega) ?_
                | refine WO_mul rfl rfl (by omega) ?_
                | refine WO_rem rfl rfl (by omega) (by omega) ?_
                | refine WO_quo rfl rfl (by omega) (by omega) (by omega) ?_
                | refine WO_p (q_neBool rfl rfl) ?_
                | refine WO_p (q_eqBool rfl rfl) ?_)
             | (refine idCv ?_; refine WO_p (q_convert rfl (wrap_i64_in ⟨by omega, by omega⟩)) ?_)
             | (refine idBuild ?_; refine WO_p (q_build rfl (by rfl) (by simp only [fillS, List.set_cons_zero, List.set_cons_succ]; rfl)) ?_)
             | refine WO_nil ?_)
          | (refine idAt ?_
             first
             | refine at_next ?_
             | refine at_block ?_
             | refine at_next_exit ?_
             | refine at_next_ret ?_
             | refine at_block_exit ?_
             | refine at_block_other rfl ?_
             | refine at_block_ret ?_
             | refine at_loop_exit ?_
             | refine at_loop_ret ?_)
          | (refine idW ?_
             first
             | refine W_seq ?_
             | refine W_region ?_
             | refine W_block ?_
             | refine W_skip ?_
             | refine W_exit ?_
             | refine W_ret ?_
             | refine W_condT rfl (by first | (with_reducible rfl) | decide) ?_
             | refine W_condF rfl (by first | (with_reducible rfl) | decide) ?_
             | ((refine W_cond rfl (fun hc' => ?_) (fun hc' => ?_)) <;> (try simp only [decide_eq_true_eq, decide_eq_false_iff_not, beq_iff_eq, beq_eq_false_iff_ne, bne_iff_ne, bne_eq_false_iff_eq, ne_eq, gt_iff_lt, ge_iff_le, Int.not_lt, Int.not_le, Bool.not_eq_true', Bool.not_eq_false', Bool.not_true, Bool.not_false, reduceCtorEq, Decidable.not_not, Bool.true_eq_false, Bool.false_eq_true] at hc') <;> (try (exfalso; omega)))))
        exact at_ret1 rfl rfl ⟨⟨-1, rfl, by omega, fun h => by omega⟩, he.trans he2⟩
    · have hge : i = l.length := by simp at hc; omega
      subst hge
      rw [List.take_length] at hsum
      repeat (first
        | (refine idWO ?_
           first
           | refine WO_simple rfl ?_
           | (refine idG ?_
              first
              | refine WO_yes rfl rfl (by first | (with_reducible rfl) | decide) ?_
              | refine WO_no rfl rfl (by first | (with_reducible rfl) | decide) ?_
              | refine WO_noU rfl rfl ?_)
           | (refine idFA ?_
              first
              | refine WO_fieldAddr0 rfl rfl ?_
              | refine WO_fieldAddr rfl rfl ?_)
           | (refine idLd ?_
              first
              | refine WO_loadB rfl (by assumption) (by rfl) ?_
              | refine WO_load1 rfl (by assumption) ?_)
           | (refine idPk ?_
              first
              | refine WO_p (q_pickT rfl (by first | (with_reducible rfl) | decide) rfl) ?_
              | refine WO_p (q_pickF rfl (by first | (with_reducible rfl) | decide) rfl) ?_)
           | (refine idBi ?_
              first
              | refine WO_lenSl rfl ?_
              | refine WO_lenStr rfl ?_)
           | (refine idBo ?_
              first
              | refine WO_add rfl rfl (by omega) ?_
              | refine WO_sub rfl rfl (by omega) ?_
              | refine WO_mul rfl rfl (by omega) ?_
              | refine WO_rem rfl rfl (by omega) (by omega) ?_
              | refine WO_quo rfl rfl (by omega) (by omega) (by omega) ?_
              | refine WO_p (q_neBool rfl rfl) ?_
              | refine WO_p (q_eqBool rfl rfl) ?_)
           | (refine idCv ?_; refine WO_p (q_convert rfl (wrap_i64_in ⟨by omega, by omega⟩)) ?_)
           | (refine idBuild ?_; refine WO_p (q_build rfl (by rfl) (by simp only [fillS, List.set_cons_zero, List.set_cons_succ]; rfl)) ?_)
           | refine WO_nil ?_)
        | (refine idAt ?_
           first
           | refine at_next ?_
           | refine at_block ?_
           | refine at_next_exit ?_
           | refine at_next_ret ?_
           | refine at_block_exit ?_
           | refine at_block_other rfl ?_
           | refine at_block_ret ?_
           | refine at_loop_exit ?_
           | refine at_loop_ret ?_)
        | (refine idW ?_
           first
           | refine W_seq ?_
           | refine W_region ?_
           | refine W_block ?_
           | refine W_skip ?_
           | refine W_exit ?_
           | refine W_ret ?_
           | refine W_condT rfl (by first | (with_reducible rfl) | decide) ?_
           | refine W_condF rfl (by first | (with_reducible rfl) | decide) ?_))
      exact at_ret1 rfl rfl ⟨⟨lf, rfl, by omega, fun _ => by unfold cSize; omega⟩, he⟩
theorem take_succ_eqG {α : Type} {la lb : List α} {i : Nat} (ha : i < la.length) (hb : i < lb.length) (ht : la.take i = lb.take i) (he : la[i] = lb[i]) : la.take (i + 1) = lb.take (i + 1) := by
  rw [List.take_succ_eq_append_getElem ha, List.take_succ_eq_append_getElem hb, ht, he]
theorem eqTag_ret (a b : Tg) (w : World) : Ret Try.prog 64 [tgV a, tgV b] w fun r w' => r = .bool (decide (a = b)) ∧ Ext w w' := by
  obtain ⟨ai, au⟩ := a
  obtain ⟨bi, bu⟩ := b
  refine enter Try.func64 rfl Try.ntmps64 rfl rfl ?_
  refine W_seq (W_region (WO_box rfl fun w1 h1 e1 z1 => WO_box rfl fun w2 h2 e2 z2 => ?_))
  replace h1 : Blk w2 w.heap.size [.int .i64 ai, .bool au] _ := Blk.ext h1 e2
  replace h2 : Blk w2 w1.heap.size [.int .i64 bi, .bool bu] _ := h2
  simp only [z1] at h2
  simp only [z1]
  repeat' (first
    | (refine idWO ?_
       first
       | refine WO_simple rfl ?_
       | (refine idG ?_
          first
          | refine WO_yes rfl rfl (by first | (with_reducible rfl) | decide) ?_
          | refine WO_no rfl rfl (by first | (with_reducible rfl) | decide) ?_
          | refine WO_noU rfl rfl ?_
          | ((refine WO_split rfl rfl (fun c' hc' => ?_)); cases c' <;> (try simp only [decide_eq_true_eq, decide_eq_false_iff_not, beq_iff_eq, beq_eq_false_iff_ne, bne_iff_ne, bne_eq_false_iff_eq, ne_eq, gt_iff_lt, ge_iff_le, Int.not_lt, Int.not_le, Bool.not_eq_true', Bool.not_eq_false', Bool.not_true, Bool.not_false, reduceCtorEq, Decidable.not_not, Bool.true_eq_false, Bool.false_eq_true] at hc') <;> (try (exfalso; omega))))
       | (refine idFA ?_
          first
          | refine WO_fieldAddr0 rfl rfl ?_
          | refine WO_fieldAddr rfl rfl ?_)
       | (refine idLd ?_
          first
          | refine WO_loadB rfl (by assumption) (by rfl) ?_
          | refine WO_load1 rfl (by assumption) ?_)
       | (refine idPk ?_
          first
          | refine WO_p (q_pickT rfl (by first | (with_reducible rfl) | decide) rfl) ?_
          | refine WO_p (q_pickF rfl (by first | (with_reducible rfl) | decide) rfl) ?_)
       | (refine idBi ?_
          first
          | refine WO_lenSl rfl ?_
          | refine WO_lenStr rfl ?_)
       | (refine idBo ?_
          first
          | refine WO_add rfl rfl (by omega) ?_
          | refine WO_sub rfl rfl (by omega) ?_
          | refine WO_mul rfl rfl (by omega) ?_
          | refine WO_rem rfl rfl (by omega) (by omega) ?_
          | refine WO_quo rfl rfl (by omega) (by omega) (by omega) ?_
          | refine WO_p (q_neBool rfl rfl) ?_
          | refine WO_p (q_eqBool rfl rfl) ?_)
       | (refine idCv ?_; refine WO_p (q_convert rfl (wrap_i64_in ⟨by omega, by omega⟩)) ?_)
       | (refine idBuild ?_; refine WO_p (q_build rfl (by rfl) (by simp only [fillS, List.set_cons_zero, List.set_cons_succ]; rfl)) ?_)
       | refine WO_nil ?_)
    | (refine idAt ?_
       first
       | refine at_next ?_
       | refine at_block ?_
       | refine at_next_exit ?_
       | refine at_next_ret ?_
       | refine at_block_exit ?_
       | refine at_block_other rfl ?_
       | refine at_block_ret ?_
       | refine at_loop_exit ?_
       | refine at_loop_ret ?_)
    | (refine idW ?_
       first
       | refine W_seq ?_
       | refine W_region ?_
       | refine W_block ?_
       | refine W_skip ?_
       | refine W_exit ?_
       | refine W_ret ?_
       | refine W_condT rfl (by first | (with_reducible rfl) | decide) ?_
       | refine W_condF rfl (by first | (with_reducible rfl) | decide) ?_
       | ((refine W_cond rfl (fun hc' => ?_) (fun hc' => ?_)) <;> (try simp only [decide_eq_true_eq, decide_eq_false_iff_not, beq_iff_eq, beq_eq_false_iff_ne, bne_iff_ne, bne_eq_false_iff_eq, ne_eq, gt_iff_lt, ge_iff_le, Int.not_lt, Int.not_le, Bool.not_eq_true', Bool.not_eq_false', Bool.not_true, Bool.not_false, reduceCtorEq, Decidable.not_not, Bool.true_eq_false, Bool.false_eq_true] at hc') <;> (try (exfalso; omega)))))
  all_goals (refine at_ret1 rfl rfl ⟨congrArg Value.bool ?_, e1.trans e2⟩; simp_all)
theorem eqTagS_ret (va vb : Value) (la lb : List Tg) (Fa Fb : List Nat) (w : World) (ha : TgS w va la Fa) (hb : TgS w vb lb Fb) :
    Ret Try.prog 56 [va, vb] w fun r w' => r = .bool (decide (la = lb)) ∧ Ext w w' := by
  obtain ⟨A, ca, rfl, hla⟩ := ha.slice
  obtain ⟨B, cb, rfl, hlb⟩ := hb.slice
  unfold maxI at hla hlb
  refine enter Try.func56 rfl Try.ntmps56 rfl rfl ?_
  repeat (first
    | (refine idWO ?_
       first
       | refine WO_simple rfl ?_
       | (refine idG ?_
          first
          | refine WO_yes rfl rfl (by first | (with_reducible rfl) | decide) ?_
          | refine WO_no rfl rfl (by first | (with_reducible rfl) | decide) ?_
          | refine WO_noU rfl rfl ?_)
       | (refine idFA ?_
          first
          | refine WO_fieldAddr0 rfl rfl ?_
          | refine WO_fieldAddr rfl rfl ?_)
       | (refine idLd ?_
          first
          | refine WO_loadB rfl (by assumption) (by rfl) ?_
          | refine WO_load1 rfl (by assumption) ?_)
       | (refine idPk ?_
          first
          | refine WO_p (q_pickT rfl (by first | (with_reducible rfl) | decide) rfl) ?_
          | refine WO_p (q_pickF rfl (by first | (with_reducible rfl) | decide) rfl) ?_)
       | (refine idBi ?_
          first
          | refine WO_lenSl rfl ?_
          | refine WO_lenStr rfl ?_)
       | (refine idBo ?_
          first
          | refine WO_add rfl rfl (by omega) ?_
          | refine WO_sub rfl rfl (by omega) ?_
          | refine WO_mul rfl rfl (by omega) ?_
          | refine WO_rem rfl rfl (by omega) (by omega) ?_
          | refine WO_quo rfl rfl (by omega) (by omega) (by omega) ?_
          | refine WO_p (q_neBool rfl rfl) ?_
          | refine WO_p (q_eqBool rfl rfl) ?_)
       | (refine idCv ?_; refine WO_p (q_convert rfl (wrap_i64_in ⟨by omega, by omega⟩)) ?_)
       | (refine idBuild ?_; refine WO_p (q_build rfl (by rfl) (by simp only [fillS, List.set_cons_zero, List.set_cons_succ]; rfl)) ?_)
       | refine WO_nil ?_)
    | (refine idAt ?_
       first
       | refine at_next ?_
       | refine at_block ?_
       | refine at_next_exit ?_
       | refine at_next_ret ?_
       | refine at_block_exit ?_
       | refine at_block_other rfl ?_
       | refine at_block_ret ?_
       | refine at_loop_exit ?_
       | refine at_loop_ret ?_)
    | (refine idW ?_
       first
       | refine W_seq ?_
       | refine W_region ?_
       | refine W_block ?_
       | refine W_skip ?_
       | refine W_exit ?_
       | refine W_ret ?_
       | refine W_condT rfl (by first | (with_reducible rfl) | decide) ?_
       | refine W_condF rfl (by first | (with_reducible rfl) | decide) ?_))
  refine W_cond rfl (fun hc => ?_) (fun hc => ?_)
  · repeat (first
      | (refine idWO ?_
         first
         | refine WO_simple rfl ?_
         | (refine idG ?_
            first
            | refine WO_yes rfl rfl (by first | (with_reducible rfl) | decide) ?_
            | refine WO_no rfl rfl (by first | (with_reducible rfl) | decide) ?_
            | refine WO_noU rfl rfl ?_)
         | (refine idFA ?_
            first
            | refine WO_fieldAddr0 rfl rfl ?_
            | refine WO_fieldAddr rfl rfl ?_)
         | (refine idLd ?_
            first
            | refine WO_loadB rfl (by assumption) (by rfl) ?_
            | refine WO_load1 rfl (by assumption) ?_)
         | (refine idPk ?_
            first
            | refine WO_p (q_pickT rfl (by first | (with_reducible rfl) | decide) rfl) ?_
            | refine WO_p (q_pickF rfl (by first | (with_reducible rfl) | decide) rfl) ?_)
         | (refine idBi ?_
            first
            | refine WO_lenSl rfl ?_
            | refine WO_lenStr rfl ?_)
         | (refine idBo ?_
            first
            | refine WO_add rfl rfl (by omega) ?_
            | refine WO_sub rfl rfl (by omega) ?_
            | refine WO_mul rfl rfl (by omega) ?_
            | refine WO_rem rfl rfl (by omega) (by omega) ?_
            | refine WO_quo rfl rfl (by omega) (by omega) (by omega) ?_
            | refine WO_p (q_neBool rfl rfl) ?_
            | refine WO_p (q_eqBool rfl rfl) ?_)
         | (refine idCv ?_; refine WO_p (q_convert rfl (wrap_i64_in ⟨by omega, by omega⟩)) ?_)
         | (refine idBuild ?_; refine WO_p (q_build rfl (by rfl) (by simp only [fillS, List.set_cons_zero, List.set_cons_succ]; rfl)) ?_)
         | refine WO_nil ?_)
      | (refine idAt ?_
         first
         | refine at_next ?_
         | refine at_block ?_
         | refine at_next_exit ?_
         | refine at_next_ret ?_
         | refine at_block_exit ?_
         | refine at_block_other rfl ?_
         | refine at_block_ret ?_
         | refine at_loop_exit ?_
         | refine at_loop_ret ?_)
      | (refine idW ?_
         first
         | refine W_seq ?_
         | refine W_region ?_
         | refine W_block ?_
         | refine W_skip ?_
         | refine W_exit ?_
         | refine W_ret ?_
         | refine W_condT rfl (by first | (with_reducible rfl) | decide) ?_
         | refine W_condF rfl (by first | (with_reducible rfl) | decide) ?_))
    refine at_ret1 rfl rfl ⟨?_, Ext.refl _⟩
    have : la ≠ lb := by rintro rfl; simp at hc
    simp [this]
  · have hlen : la.length = lb.length := by simp at hc; omega
    repeat (first
      | (refine idWO ?_
         first
         | refine WO_simple rfl ?_
         | (refine idG ?_
            first
            | refine WO_yes rfl rfl (by first | (with_reducible rfl) | decide) ?_
            | refine WO_no rfl rfl (by first | (with_reducible rfl) | decide) ?_
            | refine WO_noU rfl rfl ?_)
         | (refine idFA ?_
            first
            | refine WO_fieldAddr0 rfl rfl ?_
            | refine WO_fieldAddr rfl rfl ?_)
         | (refine idLd ?_
            first
            | refine WO_loadB rfl (by assumption) (by rfl) ?_
            | refine WO_load1 rfl (by assumption) ?_)
         | (refine idPk ?_
            first
            | refine WO_p (q_pickT rfl (by first | (with_reducible rfl) | decide) rfl) ?_
            | refine WO_p (q_pickF rfl (by first | (with_reducible rfl) | decide) rfl) ?_)
         | (refine idBi ?_
            first
            | refine WO_lenSl rfl ?_
            | refine WO_lenStr rfl ?_)
         | (refine idBo ?_
            first
            | refine WO_add rfl rfl (by omega) ?_
            | refine WO_sub rfl rfl (by omega) ?_
            | refine WO_mul rfl rfl (by omega) ?_
            | refine WO_rem rfl rfl (by omega) (by omega) ?_
            | refine WO_quo rfl rfl (by omega) (by omega) (by omega) ?_
            | refine WO_p (q_neBool rfl rfl) ?_
            | refine WO_p (q_eqBool rfl rfl) ?_)
         | (refine idCv ?_; refine WO_p (q_convert rfl (wrap_i64_in ⟨by omega, by omega⟩)) ?_)
         | (refine idBuild ?_; refine WO_p (q_build rfl (by rfl) (by simp only [fillS, List.set_cons_zero, List.set_cons_succ]; rfl)) ?_)
         | refine WO_nil ?_)
      | (refine idAt ?_
         first
         | refine at_next ?_
         | refine at_block ?_
         | refine at_next_exit ?_
         | refine at_next_ret ?_
         | refine at_block_exit ?_
         | refine at_block_other rfl ?_
         | refine at_block_ret ?_
         | refine at_loop_exit ?_
         | refine at_loop_ret ?_)
      | (refine idW ?_
         first
         | refine W_seq ?_
         | refine W_region ?_
         | refine W_block ?_
         | refine W_skip ?_
         | refine W_exit ?_
         | refine W_ret ?_
         | refine W_condT rfl (by first | (with_reducible rfl) | decide) ?_
         | refine W_condF rfl (by first | (with_reducible rfl) | decide) ?_))
    refine W_loop (α := Nat) (fun i => [(0, .slice A la.length ca), (1, .slice B lb.length cb), (5, .int .i64 (i : Int))])
      (fun i w' => i ≤ la.length ∧ la.take i = lb.take i ∧ Ext w w') (fun i => la.length - i) 0 (by repeat (first | exact True.intro | refine And.intro rfl ?_)) ⟨Nat.zero_le _, rfl, Ext.refl _⟩ ?_
    rintro i w1 ⟨hi, ht, he⟩
    repeat (first
      | (refine idWO ?_
         first
         | refine WO_simple rfl ?_
         | (refine idG ?_
            first
            | refine WO_yes rfl rfl (by first | (with_reducible rfl) | decide) ?_
            | refine WO_no rfl rfl (by first | (with_reducible rfl) | decide) ?_
            | refine WO_noU rfl rfl ?_)
         | (refine idFA ?_
            first
            | refine WO_fieldAddr0 rfl rfl ?_
            | refine WO_fieldAddr rfl rfl ?_)
         | (refine idLd ?_
            first
            | refine WO_loadB rfl (by assumption) (by rfl) ?_
            | refine WO_load1 rfl (by assumption) ?_)
         | (refine idPk ?_
            first
            | refine WO_p (q_pickT rfl (by first | (with_reducible rfl) | decide) rfl) ?_
            | refine WO_p (q_pickF rfl (by first | (with_reducible rfl) | decide) rfl) ?_)
         | (refine idBi ?_
            first
            | refine WO_lenSl rfl ?_
            | refine WO_lenStr rfl ?_)
         | (refine idBo ?_
            first
            | refine WO_add rfl rfl (by omega) ?_
            | refine WO_sub rfl rfl (by omega) ?_
            | refine WO_mul rfl rfl (by omega) ?_
            | refine WO_rem rfl rfl (by omega) (by omega) ?_
            | refine WO_quo rfl rfl (by omega) (by omega) (by omega) ?_
            | refine WO_p (q_neBool rfl rfl) ?_
            | refine WO_p (q_eqBool rfl rfl) ?_)
         | (refine idCv ?_; refine WO_p (q_convert rfl (wrap_i64_in ⟨by omega, by omega⟩)) ?_)
         | (refine idBuild ?_; refine WO_p (q_build rfl (by rfl) (by simp only [fillS, List.set_cons_zero, List.set_cons_succ]; rfl)) ?_)
         | refine WO_nil ?_)
      | (refine idAt ?_
         first
         | refine at_next ?_
         | refine at_block ?_
         | refine at_next_exit ?_
         | refine at_next_ret ?_
         | refine at_block_exit ?_
         | refine at_block_other rfl ?_
         | refine at_block_ret ?_
         | refine at_loop_exit ?_
         | refine at_loop_ret ?_)
      | (refine idW ?_
         first
         | refine W_seq ?_
         | refine W_region ?_
         | refine W_block ?_
         | refine W_skip ?_
         | refine W_exit ?_
         | refine W_ret ?_
         | refine W_condT rfl (by first | (with_reducible rfl) | decide) ?_
         | refine W_condF rfl (by first | (with_reducible rfl) | decide) ?_))
    refine W_cond rfl (fun hc => ?_) (fun hc => ?_)
    · have hlt : i < la.length := by simpa using hc
      have hlt2 : i < lb.length := by omega
      obtain ⟨ba, oa, rfl, _, a0, a1⟩ := tgs_at (ha.ext he) hlt
      obtain ⟨bb, ob, rfl, _, b0, b1⟩ := tgs_at (hb.ext he) hlt2
      repeat (first
        | (refine idWO ?_
           first
           | refine WO_simple rfl ?_
           | (refine idG ?_
              first
              | refine WO_yes rfl rfl (by first | (with_reducible rfl) | decide) ?_
              | refine WO_no rfl rfl (by first | (with_reducible rfl) | decide) ?_
              | refine WO_noU rfl rfl ?_)
           | (refine idFA ?_
              first
              | refine WO_fieldAddr0 rfl rfl ?_
              | refine WO_fieldAddr rfl rfl ?_)
           | (refine idLd ?_
              first
              | refine WO_loadB rfl (by assumption) (by rfl) ?_
              | refine WO_load1 rfl (by assumption) ?_)
           | (refine idPk ?_
              first
              | refine WO_p (q_pickT rfl (by first | (with_reducible rfl) | decide) rfl) ?_
              | refine WO_p (q_pickF rfl (by first | (with_reducible rfl) | decide) rfl) ?_)
           | (refine idBi ?_
              first
              | refine WO_lenSl rfl ?_
              | refine WO_lenStr rfl ?_)
           | (refine idBo ?_
              first
              | refine WO_add rfl rfl (by omega) ?_
              | refine WO_sub rfl rfl (by omega) ?_
              | refine WO_mul rfl rfl (by omega) ?_
              | refine WO_rem rfl rfl (by omega) (by omega) ?_
              | refine WO_quo rfl rfl (by omega) (by omega) (by omega) ?_
              | refine WO_p (q_neBool rfl rfl) ?_
              | refine WO_p (q_eqBool rfl rfl) ?_)
           | (refine idCv ?_; refine WO_p (q_convert rfl (wrap_i64_in ⟨by omega, by omega⟩)) ?_)
           | (refine idBuild ?_; refine WO_p (q_build rfl (by rfl) (by simp only [fillS, List.set_cons_zero, List.set_cons_succ]; rfl)) ?_)
           | refine WO_nil ?_)
        | (refine idAt ?_
           first
           | refine at_next ?_
           | refine at_block ?_
           | refine at_next_exit ?_
           | refine at_next_ret ?_
           | refine at_block_exit ?_
           | refine at_block_other rfl ?_
           | refine at_block_ret ?_
           | refine at_loop_exit ?_
           | refine at_loop_ret ?_)
        | (refine idW ?_
           first
           | refine W_seq ?_
           | refine W_region ?_
           | refine W_block ?_
           | refine W_skip ?_
           | refine W_exit ?_
           | refine W_ret ?_
           | refine W_condT rfl (by first | (with_reducible rfl) | decide) ?_
           | refine W_condF rfl (by first | (with_reducible rfl) | decide) ?_))
      refine W_quiet (by kernel_rfl) (by kernel_rfl) ?_
      repeat' (first
        | refine WQ_p (q_simple rfl) ?_
        | (refine iqG ?_
           first
           | refine WQ_yes rfl rfl (by first | (with_reducible rfl) | decide) ?_
           | refine WQ_no rfl rfl (by first | (with_reducible rfl) | decide) ?_
           | refine WQ_noU rfl rfl ?_
           | ((refine WQ_split rfl rfl (fun c' hc' => ?_)); cases c' <;> (try simp only [decide_eq_true_eq, decide_eq_false_iff_not, beq_iff_eq, beq_eq_false_iff_ne, bne_iff_ne, bne_eq_false_iff_eq, ne_eq, gt_iff_lt, ge_iff_le, Int.not_lt, Int.not_le, Bool.not_eq_true', Bool.not_eq_false', Bool.not_true, Bool.not_false, reduceCtorEq, Decidable.not_not, Bool.true_eq_false, Bool.false_eq_true] at hc') <;> (try (exfalso; omega))))
        | (refine iqFA ?_
           first
           | refine WQ_p (q_fieldAddr0 rfl rfl) ?_
           | refine WQ_p (q_fieldAddr rfl rfl) ?_)
        | (refine iqLd ?_
           first
           | refine WQ_p (q_loadB rfl (by assumption) (by rfl)) ?_
           | refine WQ_p (q_load1 rfl (by assumption)) ?_)
        | (refine iqIA ?_; refine WQ_p (q_indexAddr rfl rfl rfl (by omega)) ?_)
        | (refine iqPk ?_
           first
           | refine WQ_p (q_pickT rfl (by first | (with_reducible rfl) | decide) rfl) ?_
           | refine WQ_p (q_pickF rfl (by first | (with_reducible rfl) | decide) rfl) ?_)
        | (refine iqBi ?_
           first
           | refine WQ_p (q_lenSl rfl) ?_
           | refine WQ_p (q_lenStr rfl) ?_)
        | (refine iqBo ?_
           first
           | refine WQ_p (q_add rfl rfl (by omega)) ?_
           | refine WQ_p (q_sub rfl rfl (by omega)) ?_
           | refine WQ_p (q_mul rfl rfl (by omega)) ?_
           | refine WQ_p (q_rem rfl rfl (by omega) (by omega)) ?_
           | refine WQ_p (q_quo rfl rfl (by omega) (by omega) (by omega)) ?_
           | refine WQ_p (q_neBool rfl rfl) ?_
           | refine WQ_p (q_eqBool rfl rfl) ?_)
        | (refine iqCv ?_; refine WQ_p (q_convert rfl (wrap_i64_in ⟨by omega, by omega⟩)) ?_)
        | refine WQ_end fun w' hw' => ?_)
      refine WQ_p (q_loadS rfl rfl (two a0 a1)) ?_
      repeat' (first
        | refine WQ_p (q_simple rfl) ?_
        | (refine iqG ?_
           first
           | refine WQ_yes rfl rfl (by first | (with_reducible rfl) | decide) ?_
           | refine WQ_no rfl rfl (by first | (with_reducible rfl) | decide) ?_
           | refine WQ_noU rfl rfl ?_
           | ((refine WQ_split rfl rfl (fun c' hc' => ?_)); cases c' <;> (try simp only [decide_eq_true_eq, decide_eq_false_iff_not, beq_iff_eq, beq_eq_false_iff_ne, bne_iff_ne, bne_eq_false_iff_eq, ne_eq, gt_iff_lt, ge_iff_le, Int.not_lt, Int.not_le, Bool.not_eq_true', Bool.not_eq_false', Bool.not_true, Bool.not_false, reduceCtorEq, Decidable.not_not, Bool.true_eq_false, Bool.false_eq_true] at hc') <;> (try (exfalso; omega))))
        | (refine iqFA ?_
           first
           | refine WQ_p (q_fieldAddr0 rfl rfl) ?_
           | refine WQ_p (q_fieldAddr rfl rfl) ?_)
        | (refine iqLd ?_
           first
           | refine WQ_p (q_loadB rfl (by assumption) (by rfl)) ?_
           | refine WQ_p (q_load1 rfl (by assumption)) ?_)
        | (refine iqIA ?_; refine WQ_p (q_indexAddr rfl rfl rfl (by omega)) ?_)
        | (refine iqPk ?_
           first
           | refine WQ_p (q_pickT rfl (by first | (with_reducible rfl) | decide) rfl) ?_
           | refine WQ_p (q_pickF rfl (by first | (with_reducible rfl) | decide) rfl) ?_)
        | (refine iqBi ?_
           first
           | refine WQ_p (q_lenSl rfl) ?_
           | refine WQ_p (q_lenStr rfl) ?_)
        | (refine iqBo ?_
           first
           | refine WQ_p (q_add rfl rfl (by omega)) ?_
           | refine WQ_p (q_sub rfl rfl (by omega)) ?_
           | refine WQ_p (q_mul rfl rfl (by omega)) ?_
           | refine WQ_p (q_rem rfl rfl (by omega) (by omega)) ?_
           | refine WQ_p (q_quo rfl rfl (by omega) (by omega) (by omega)) ?_
           | refine WQ_p (q_neBool rfl rfl) ?_
           | refine WQ_p (q_eqBool rfl rfl) ?_)
        | (refine iqCv ?_; refine WQ_p (q_convert rfl (wrap_i64_in ⟨by omega, by omega⟩)) ?_)
        | refine WQ_end fun w' hw' => ?_)
      refine WQ_p (q_loadS rfl rfl (two b0 b1)) ?_
      refine WQ_call rfl (fun w' _ => (eqTag_ret la[i] lb[i] w').mono (by rintro u w'' ⟨rfl, h⟩; exact ⟨rfl, h⟩)) ?_
      repeat' (first
        | refine WQ_p (q_simple rfl) ?_
        | (refine iqG ?_
           first
           | refine WQ_yes rfl rfl (by first | (with_reducible rfl) | decide) ?_
           | refine WQ_no rfl rfl (by first | (with_reducible rfl) | decide) ?_
           | refine WQ_noU rfl rfl ?_
           | ((refine WQ_split rfl rfl (fun c' hc' => ?_)); cases c' <;> (try simp only [decide_eq_true_eq, decide_eq_false_iff_not, beq_iff_eq, beq_eq_false_iff_ne, bne_iff_ne, bne_eq_false_iff_eq, ne_eq, gt_iff_lt, ge_iff_le, Int.not_lt, Int.not_le, Bool.not_eq_true', Bool.not_eq_false', Bool.not_true, Bool.not_false, reduceCtorEq, Decidable.not_not, Bool.true_eq_false, Bool.false_eq_true] at hc') <;> (try (exfalso; omega))))
        | (refine iqFA ?_
           first
           | refine WQ_p (q_fieldAddr0 rfl rfl) ?_
           | refine WQ_p (q_fieldAddr rfl rfl) ?_)
        | (refine iqLd ?_
           first
           | refine WQ_p (q_loadB rfl (by assumption) (by rfl)) ?_
           | refine WQ_p (q_load1 rfl (by assumption)) ?_)
        | (refine iqIA ?_; refine WQ_p (q_indexAddr rfl rfl rfl (by omega)) ?_)
        | (refine iqPk ?_
           first
           | refine WQ_p (q_pickT rfl (by first | (with_reducible rfl) | decide) rfl) ?_
           | refine WQ_p (q_pickF rfl (by first | (with_reducible rfl) | decide) rfl) ?_)
        | (refine iqBi ?_
           first
           | refine WQ_p (q_lenSl rfl) ?_
           | refine WQ_p (q_lenStr rfl) ?_)
        | (refine iqBo ?_
           first
           | refine WQ_p (q_add rfl rfl (by omega)) ?_
           | refine WQ_p (q_sub rfl rfl (by omega)) ?_
           | refine WQ_p (q_mul rfl rfl (by omega)) ?_
           | refine WQ_p (q_rem rfl rfl (by omega) (by omega)) ?_
           | refine WQ_p (q_quo rfl rfl (by omega) (by omega) (by omega)) ?_
           | refine WQ_p (q_neBool rfl rfl) ?_
           | refine WQ_p (q_eqBool rfl rfl) ?_)
        | (refine iqCv ?_; refine WQ_p (q_convert rfl (wrap_i64_in ⟨by omega, by omega⟩)) ?_)
        | refine WQ_end fun w' hw' => ?_)
      repeat (first
        | (refine idWO ?_
           first
           | refine WO_simple rfl ?_
           | (refine idG ?_
              first
              | refine WO_yes rfl rfl (by first | (with_reducible rfl) | decide) ?_
              | refine WO_no rfl rfl (by first | (with_reducible rfl) | decide) ?_
              | refine WO_noU rfl rfl ?_)
           | (refine idFA ?_
              first
              | refine WO_fieldAddr0 rfl rfl ?_
              | refine WO_fieldAddr rfl rfl ?_)
           | (refine idLd ?_
              first
              | refine WO_loadB rfl (by assumption) (by rfl) ?_
              | refine WO_load1 rfl (by assumption) ?_)
           | (refine idPk ?_
              first
              | refine WO_p (q_pickT rfl (by first | (with_reducible rfl) | decide) rfl) ?_
              | refine WO_p (q_pickF rfl (by first | (with_reducible rfl) | decide) rfl) ?_)
           | (refine idBi ?_
              first
              | refine WO_lenSl rfl ?_
              | refine WO_lenStr rfl ?_)
           | (refine idBo ?_
              first
              | refine WO_add rfl rfl (by omega) ?_
              | refine WO_sub rfl rfl (by omega) ?_
              | refine WO_mul rfl rfl (by omega) ?_
              | refine WO_rem rfl rfl (by omega) (by omega) ?_
              | refine WO_quo rfl rfl (by omega) (by omega) (by omega) ?_
              | refine WO_p (q_neBool rfl rfl) ?_
              | refine WO_p (q_eqBool rfl rfl) ?_)
           | (refine idCv ?_; refine WO_p (q_convert rfl (wrap_i64_in ⟨by omega, by omega⟩)) ?_)
           | (refine idBuild ?_; refine WO_p (q_build rfl (by rfl) (by simp only [fillS, List.set_cons_zero, List.set_cons_succ]; rfl)) ?_)
           | refine WO_nil ?_)
        | (refine idAt ?_
           first
           | refine at_next ?_
           | refine at_block ?_
           | refine at_next_exit ?_
           | refine at_next_ret ?_
           | refine at_block_exit ?_
           | refine at_block_other rfl ?_
           | refine at_block_ret ?_
           | refine at_loop_exit ?_
           | refine at_loop_ret ?_)
        | (refine idW ?_
           first
           | refine W_seq ?_
           | refine W_region ?_
           | refine W_block ?_
           | refine W_skip ?_
           | refine W_exit ?_
           | refine W_ret ?_
           | refine W_condT rfl (by first | (with_reducible rfl) | decide) ?_
           | refine W_condF rfl (by first | (with_reducible rfl) | decide) ?_))
      refine W_cond rfl (fun hc => ?_) (fun hc => ?_)
      · repeat (first
          | (refine idWO ?_
             first
             | refine WO_simple rfl ?_
             | (refine idG ?_
                first
                | refine WO_yes rfl rfl (by first | (with_reducible rfl) | decide) ?_
                | refine WO_no rfl rfl (by first | (with_reducible rfl) | decide) ?_
                | refine WO_noU rfl rfl ?_)
             | (refine idFA ?_
                first
                | refine WO_fieldAddr0 rfl rfl ?_
                | refine WO_fieldAddr rfl rfl ?_)
             | (refine idLd ?_
                first
                | refine WO_loadB rfl (by assumption) (by rfl) ?_
                | refine WO_load1 rfl (by assumption) ?_)
             | (refine idPk ?_
                first
                | refine WO_p (q_pickT rfl (by first | (with_reducible rfl) | decide) rfl) ?_
                | refine WO_p (q_pickF rfl (by first | (with_reducible rfl) | decide) rfl) ?_)
             | (refine idBi ?_
                first
                | refine WO_lenSl rfl ?_
                | refine WO_lenStr rfl ?_)
             | (refine idBo ?_
                first
                | refine WO_add rfl rfl (by omega) ?_
                | refine WO_sub rfl rfl (by omega) ?_
                | refine WO_mul rfl rfl (by omega) ?_
                | refine WO_rem rfl rfl (by omega) (by omega) ?_
                | refine WO_quo rfl rfl (by omega) (by omega) (by omega) ?_
                | refine WO_p (q_neBool rfl rfl) ?_
                | refine WO_p (q_eqBool rfl rfl) ?_)
             | (refine idCv ?_; refine WO_p (q_convert rfl (wrap_i64_in ⟨by omega, by omega⟩)) ?_)
             | (refine idBuild ?_; refine WO_p (q_build rfl (by rfl) (by simp only [fillS, List.set_cons_zero, List.set_cons_succ]; rfl)) ?_)
             | refine WO_nil ?_)
          | (refine idAt ?_
             first
             | refine at_next ?_
             | refine at_block ?_
             | refine at_next_exit ?_
             | refine at_next_ret ?_
             | refine at_block_exit ?_
             | refine at_block_other rfl ?_
             | refine at_block_ret ?_
             | refine at_loop_exit ?_
             | refine at_loop_ret ?_)
          | (refine idW ?_
             first
             | refine W_seq ?_
             | refine W_region ?_
             | refine W_block ?_
             | refine W_skip ?_
             | refine W_exit ?_
             | refine W_ret ?_
             | refine W_condT rfl (by first | (with_reducible rfl) | decide) ?_
             | refine W_condF rfl (by first | (with_reducible rfl) | decide) ?_))
        refine at_ret1 rfl rfl ⟨?_, he.trans hw'⟩
        have : la ≠ lb := by rintro rfl; simp at hc
        simp [this]
      · have heq : la[i] = lb[i] := by simpa using hc
        repeat (first
          | (refine idWO ?_
             first
             | refine WO_simple rfl ?_
             | (refine idG ?_
                first
                | refine WO_yes rfl rfl (by first | (with_reducible rfl) | decide) ?_
                | refine WO_no rfl rfl (by first | (with_reducible rfl) | decide) ?_
                | refine WO_noU rfl rfl ?_)
             | (refine idFA ?_
                first
                | refine WO_fieldAddr0 rfl rfl ?_
                | refine WO_fieldAddr rfl rfl ?_)
             | (refine idLd ?_
                first
                | refine WO_loadB rfl (by assumption) (by rfl) ?_
                | refine WO_load1 rfl (by assumption) ?_)
             | (refine idPk ?_
                first
                | refine WO_p (q_pickT rfl (by first | (with_reducible rfl) | decide) rfl) ?_
                | refine WO_p (q_pickF rfl (by first | (with_reducible rfl) | decide) rfl) ?_)
             | (refine idBi ?_
                first
                | refine WO_lenSl rfl ?_
                | refine WO_lenStr rfl ?_)
             | (refine idBo ?_
                first
                | refine WO_add rfl rfl (by omega) ?_
                | refine WO_sub rfl rfl (by omega) ?_
                | refine WO_mul rfl rfl (by omega) ?_
                | refine WO_rem rfl rfl (by omega) (by omega) ?_
                | refine WO_quo rfl rfl (by omega) (by omega) (by omega) ?_
                | refine WO_p (q_neBool rfl rfl) ?_
                | refine WO_p (q_eqBool rfl rfl) ?_)
             | (refine idCv ?_; refine WO_p (q_convert rfl (wrap_i64_in ⟨by omega, by omega⟩)) ?_)
             | (refine idBuild ?_; refine WO_p (q_build rfl (by rfl) (by simp only [fillS, List.set_cons_zero, List.set_cons_succ]; rfl)) ?_)
             | refine WO_nil ?_)
          | (refine idAt ?_
             first
             | refine at_next ?_
             | refine at_block ?_
             | refine at_next_exit ?_
             | refine at_next_ret ?_
             | refine at_block_exit ?_
             | refine at_block_other rfl ?_
             | refine at_block_ret ?_
             | refine at_loop_exit ?_
             | refine at_loop_ret ?_)
          | (refine idW ?_
             first
             | refine W_seq ?_
             | refine W_region ?_
             | refine W_block ?_
             | refine W_skip ?_
             | refine W_exit ?_
             | refine W_ret ?_
             | refine W_condT rfl (by first | (with_reducible rfl) | decide) ?_
             | refine W_condF rfl (by first | (with_reducible rfl) | decide) ?_))
        refine at_loop (i + 1) (by repeat (first | exact True.intro | refine And.intro rfl ?_)) ⟨by omega, take_succ_eqG hlt hlt2 ht heq, he.trans hw'⟩ (by omega)
    · have hge : i = la.length := by simp at hc; omega
      repeat (first
        | (refine idWO ?_
           first
           | refine WO_simple rfl ?_
           | (refine idG ?_
              first
              | refine WO_yes rfl rfl (by first | (with_reducible rfl) | decide) ?_
              | refine WO_no rfl rfl (by first | (with_reducible rfl) | decide) ?_
              | refine WO_noU rfl rfl ?_)
           | (refine idFA ?_
              first
              | refine WO_fieldAddr0 rfl rfl ?_
              | refine WO_fieldAddr rfl rfl ?_)
           | (refine idLd ?_
              first
              | refine WO_loadB rfl (by assumption) (by rfl) ?_
              | refine WO_load1 rfl (by assumption) ?_)
           | (refine idPk ?_
              first
              | refine WO_p (q_pickT rfl (by first | (with_reducible rfl) | decide) rfl) ?_
              | refine WO_p (q_pickF rfl (by first | (with_reducible rfl) | decide) rfl) ?_)
           | (refine idBi ?_
              first
              | refine WO_lenSl rfl ?_
              | refine WO_lenStr rfl ?_)
           | (refine idBo ?_
              first
              | refine WO_add rfl rfl (by omega) ?_
              | refine WO_sub rfl rfl (by omega) ?_
              | refine WO_mul rfl rfl (by omega) ?_
              | refine WO_rem rfl rfl (by omega) (by omega) ?_
              | refine WO_quo rfl rfl (by omega) (by omega) (by omega) ?_
              | refine WO_p (q_neBool rfl rfl) ?_
              | refine WO_p (q_eqBool rfl rfl) ?_)
           | (refine idCv ?_; refine WO_p (q_convert rfl (wrap_i64_in ⟨by omega, by omega⟩)) ?_)
           | (refine idBuild ?_; refine WO_p (q_build rfl (by rfl) (by simp only [fillS, List.set_cons_zero, List.set_cons_succ]; rfl)) ?_)
           | refine WO_nil ?_)
        | (refine idAt ?_
           first
           | refine at_next ?_
           | refine at_block ?_
           | refine at_next_exit ?_
           | refine at_next_ret ?_
           | refine at_block_exit ?_
           | refine at_block_other rfl ?_
           | refine at_block_ret ?_
           | refine at_loop_exit ?_
           | refine at_loop_ret ?_)
        | (refine idW ?_
           first
           | refine W_seq ?_
           | refine W_region ?_
           | refine W_block ?_
           | refine W_skip ?_
           | refine W_exit ?_
           | refine W_ret ?_
           | refine W_condT rfl (by first | (with_reducible rfl) | decide) ?_
           | refine W_condF rfl (by first | (with_reducible rfl) | decide) ?_))
      refine at_ret1 rfl rfl ⟨?_, he⟩
      subst hge
      rw [List.take_length, hlen, List.take_length] at ht
      simp [ht]
theorem eqCell_ret (a b : Ce) (va vb : Value) (Fa Fb : List Nat) (w : World) (ha : TgS w va a.st Fa) (hb : TgS w vb b.st Fb) :
    Ret Try.prog 41 [ceV a va, ceV b vb] w fun r w' => r = .bool (decide (a = b)) ∧ Ext w w' := by
  obtain ⟨av, aa, an, ast⟩ := a
  obtain ⟨bv, ba, bn, bst⟩ := b
  simp only at ha hb
  refine enter Try.func41 rfl Try.ntmps41 rfl rfl ?_
  refine W_seq (W_region (WO_box rfl fun w1 h1 e1 z1 => WO_box rfl fun w2 h2 e2 z2 => ?_))
  replace h1 : Blk w2 w.heap.size [.int .i64 av, .bool aa, .int .i64 an, va] _ := Blk.ext h1 e2
  replace h2 : Blk w2 w1.heap.size [.int .i64 bv, .bool ba, .int .i64 bn, vb] _ := h2
  simp only [z1] at h2
  simp only [z1]
  have e12 := e1.trans e2
  replace ha := ha.ext e12
  replace hb := hb.ext e12
  repeat' (first
    | (refine idWO ?_
       first
       | refine WO_simple rfl ?_
       | (refine idG ?_
          first
          | refine WO_yes rfl rfl (by first | (with_reducible rfl) | decide) ?_
          | refine WO_no rfl rfl (by first | (with_reducible rfl) | decide) ?_
          | refine WO_noU rfl rfl ?_
          | ((refine WO_split rfl rfl (fun c' hc' => ?_)); cases c' <;> (try simp only [decide_eq_true_eq, decide_eq_false_iff_not, beq_iff_eq, beq_eq_false_iff_ne, bne_iff_ne, bne_eq_false_iff_eq, ne_eq, gt_iff_lt, ge_iff_le, Int.not_lt, Int.not_le, Bool.not_eq_true', Bool.not_eq_false', Bool.not_true, Bool.not_false, reduceCtorEq, Decidable.not_not, Bool.true_eq_false, Bool.false_eq_true] at hc') <;> (try (exfalso; omega))))
       | (refine idFA ?_
          first
          | refine WO_fieldAddr0 rfl rfl ?_
          | refine WO_fieldAddr rfl rfl ?_)
       | (refine idLd ?_
          first
          | refine WO_loadB rfl (by assumption) (by rfl) ?_
          | refine WO_load1 rfl (by assumption) ?_)
       | (refine idPk ?_
          first
          | refine WO_p (q_pickT rfl (by first | (with_reducible rfl) | decide) rfl) ?_
          | refine WO_p (q_pickF rfl (by first | (with_reducible rfl) | decide) rfl) ?_)
       | (refine idBi ?_
          first
          | refine WO_lenSl rfl ?_
          | refine WO_lenStr rfl ?_)
       | (refine idBo ?_
          first
          | refine WO_add rfl rfl (by omega) ?_
          | refine WO_sub rfl rfl (by omega) ?_
          | refine WO_mul rfl rfl (by omega) ?_
          | refine WO_rem rfl rfl (by omega) (by omega) ?_
          | refine WO_quo rfl rfl (by omega) (by omega) (by omega) ?_
          | refine WO_p (q_neBool rfl rfl) ?_
          | refine WO_p (q_eqBool rfl rfl) ?_)
       | (refine idCv ?_; refine WO_p (q_convert rfl (wrap_i64_in ⟨by omega, by omega⟩)) ?_)
       | (refine idBuild ?_; refine WO_p (q_build rfl (by rfl) (by simp only [fillS, List.set_cons_zero, List.set_cons_succ]; rfl)) ?_)
       | refine WO_nil ?_)
    | (refine idAt ?_
       first
       | refine at_next ?_
       | refine at_block ?_
       | refine at_next_exit ?_
       | refine at_next_ret ?_
       | refine at_block_exit ?_
       | refine at_block_other rfl ?_
       | refine at_block_ret ?_
       | refine at_loop_exit ?_
       | refine at_loop_ret ?_)
    | (refine idW ?_
       first
       | refine W_seq ?_
       | refine W_region ?_
       | refine W_block ?_
       | refine W_skip ?_
       | refine W_exit ?_
       | refine W_ret ?_
       | refine W_condT rfl (by first | (with_reducible rfl) | decide) ?_
       | refine W_condF rfl (by first | (with_reducible rfl) | decide) ?_
       | ((refine W_cond rfl (fun hc' => ?_) (fun hc' => ?_)) <;> (try simp only [decide_eq_true_eq, decide_eq_false_iff_not, beq_iff_eq, beq_eq_false_iff_ne, bne_iff_ne, bne_eq_false_iff_eq, ne_eq, gt_iff_lt, ge_iff_le, Int.not_lt, Int.not_le, Bool.not_eq_true', Bool.not_eq_false', Bool.not_true, Bool.not_false, reduceCtorEq, Decidable.not_not, Bool.true_eq_false, Bool.false_eq_true] at hc') <;> (try (exfalso; omega)))))
  all_goals first
    | (refine at_ret1 rfl rfl ⟨congrArg Value.bool ?_, e12⟩; simp_all; done)
    | skip
  refine WO_call rfl (eqTagS_ret va vb ast bst Fa Fb w2 ha hb) ?_
  rintro r w3 ⟨rfl, e3⟩
  by_cases hs : ast = bst
  · rw [decide_eq_true hs]
    repeat' (first
      | (refine idWO ?_
         first
         | refine WO_simple rfl ?_
         | (refine idG ?_
            first
            | refine WO_yes rfl rfl (by first | (with_reducible rfl) | decide) ?_
            | refine WO_no rfl rfl (by first | (with_reducible rfl) | decide) ?_
            | refine WO_noU rfl rfl ?_
            | ((refine WO_split rfl rfl (fun c' hc' => ?_)); cases c' <;> (try simp only [decide_eq_true_eq, decide_eq_false_iff_not, beq_iff_eq, beq_eq_false_iff_ne, bne_iff_ne, bne_eq_false_iff_eq, ne_eq, gt_iff_lt, ge_iff_le, Int.not_lt, Int.not_le, Bool.not_eq_true', Bool.not_eq_false', Bool.not_true, Bool.not_false, reduceCtorEq, Decidable.not_not, Bool.true_eq_false, Bool.false_eq_true] at hc') <;> (try (exfalso; omega))))
         | (refine idFA ?_
            first
            | refine WO_fieldAddr0 rfl rfl ?_
            | refine WO_fieldAddr rfl rfl ?_)
         | (refine idLd ?_
            first
            | refine WO_loadB rfl (by assumption) (by rfl) ?_
            | refine WO_load1 rfl (by assumption) ?_)
         | (refine idPk ?_
            first
            | refine WO_p (q_pickT rfl (by first | (with_reducible rfl) | decide) rfl) ?_
            | refine WO_p (q_pickF rfl (by first | (with_reducible rfl) | decide) rfl) ?_)
         | (refine idBi ?_
            first
            | refine WO_lenSl rfl ?_
            | refine WO_lenStr rfl ?_)
         | (refine idBo ?_
            first
            | refine WO_add rfl rfl (by omega) ?_
            | refine WO_sub rfl rfl (by omega) ?_
            | refine WO_mul rfl rfl (by omega) ?_
            | refine WO_rem rfl rfl (by omega) (by omega) ?_
            | refine WO_quo rfl rfl (by omega) (by omega) (by omega) ?_
            | refine WO_p (q_neBool rfl rfl) ?_
            | refine WO_p (q_eqBool rfl rfl) ?_)
         | (refine idCv ?_; refine WO_p (q_convert rfl (wrap_i64_in ⟨by omega, by omega⟩)) ?_)
         | (refine idBuild ?_; refine WO_p (q_build rfl (by rfl) (by simp only [fillS, List.set_cons_zero, List.set_cons_succ]; rfl)) ?_)
         | refine WO_nil ?_)
      | (refine idAt ?_
         first
         | refine at_next ?_
         | refine at_block ?_
         | refine at_next_exit ?_
         | refine at_next_ret ?_
         | refine at_block_exit ?_
         | refine at_block_other rfl ?_
         | refine at_block_ret ?_
         | refine at_loop_exit ?_
         | refine at_loop_ret ?_)
      | (refine idW ?_
         first
         | refine W_seq ?_
         | refine W_region ?_
         | refine W_block ?_
         | refine W_skip ?_
         | refine W_exit ?_
         | refine W_ret ?_
         | refine W_condT rfl (by first | (with_reducible rfl) | decide) ?_
         | refine W_condF rfl (by first | (with_reducible rfl) | decide) ?_
         | ((refine W_cond rfl (fun hc' => ?_) (fun hc' => ?_)) <;> (try simp only [decide_eq_true_eq, decide_eq_false_iff_not, beq_iff_eq, beq_eq_false_iff_ne, bne_iff_ne, bne_eq_false_iff_eq, ne_eq, gt_iff_lt, ge_iff_le, Int.not_lt, Int.not_le, Bool.not_eq_true', Bool.not_eq_false', Bool.not_true, Bool.not_false, reduceCtorEq, Decidable.not_not, Bool.true_eq_false, Bool.false_eq_true] at hc') <;> (try (exfalso; omega)))))
    refine at_ret1 rfl rfl ⟨congrArg Value.bool ?_, e12.trans e3⟩
    simp_all
  · rw [decide_eq_false hs]
    repeat' (first
      | (refine idWO ?_
         first
         | refine WO_simple rfl ?_
         | (refine idG ?_
            first
            | refine WO_yes rfl rfl (by first | (with_reducible rfl) | decide) ?_
            | refine WO_no rfl rfl (by first | (with_reducible rfl) | decide) ?_
            | refine WO_noU rfl rfl ?_
            | ((refine WO_split rfl rfl (fun c' hc' => ?_)); cases c' <;> (try simp only [decide_eq_true_eq, decide_eq_false_iff_not, beq_iff_eq, beq_eq_false_iff_ne, bne_iff_ne, bne_eq_false_iff_eq, ne_eq, gt_iff_lt, ge_iff_le, Int.not_lt, Int.not_le, Bool.not_eq_true', Bool.not_eq_false', Bool.not_true, Bool.not_false, reduceCtorEq, Decidable.not_not, Bool.true_eq_false, Bool.false_eq_true] at hc') <;> (try (exfalso; omega))))
         | (refine idFA ?_
            first
            | refine WO_fieldAddr0 rfl rfl ?_
            | refine WO_fieldAddr rfl rfl ?_)
         | (refine idLd ?_
            first
            | refine WO_loadB rfl (by assumption) (by rfl) ?_
            | refine WO_load1 rfl (by assumption) ?_)
         | (refine idPk ?_
            first
            | refine WO_p (q_pickT rfl (by first | (with_reducible rfl) | decide) rfl) ?_
            | refine WO_p (q_pickF rfl (by first | (with_reducible rfl) | decide) rfl) ?_)
         | (refine idBi ?_
            first
            | refine WO_lenSl rfl ?_
            | refine WO_lenStr rfl ?_)
         | (refine idBo ?_
            first
            | refine WO_add rfl rfl (by omega) ?_
            | refine WO_sub rfl rfl (by omega) ?_
            | refine WO_mul rfl rfl (by omega) ?_
            | refine WO_rem rfl rfl (by omega) (by omega) ?_
            | refine WO_quo rfl rfl (by omega) (by omega) (by omega) ?_
            | refine WO_p (q_neBool rfl rfl) ?_
            | refine WO_p (q_eqBool rfl rfl) ?_)
         | (refine idCv ?_; refine WO_p (q_convert rfl (wrap_i64_in ⟨by omega, by omega⟩)) ?_)
         | (refine idBuild ?_; refine WO_p (q_build rfl (by rfl) (by simp only [fillS, List.set_cons_zero, List.set_cons_succ]; rfl)) ?_)
         | refine WO_nil ?_)
      | (refine idAt ?_
         first
         | refine at_next ?_
         | refine at_block ?_
         | refine at_next_exit ?_
         | refine at_next_ret ?_
         | refine at_block_exit ?_
         | refine at_block_other rfl ?_
         | refine at_block_ret ?_
         | refine at_loop_exit ?_
         | refine at_loop_ret ?_)
      | (refine idW ?_
         first
         | refine W_seq ?_
         | refine W_region ?_
         | refine W_block ?_
         | refine W_skip ?_
         | refine W_exit ?_
         | refine W_ret ?_
         | refine W_condT rfl (by first | (with_reducible rfl) | decide) ?_
         | refine W_condF rfl (by first | (with_reducible rfl) | decide) ?_
         | ((refine W_cond rfl (fun hc' => ?_) (fun hc' => ?_)) <;> (try simp only [decide_eq_true_eq, decide_eq_false_iff_not, beq_iff_eq, beq_eq_false_iff_ne, bne_iff_ne, bne_eq_false_iff_eq, ne_eq, gt_iff_lt, ge_iff_le, Int.not_lt, Int.not_le, Bool.not_eq_true', Bool.not_eq_false', Bool.not_true, Bool.not_false, reduceCtorEq, Decidable.not_not, Bool.true_eq_false, Bool.false_eq_true] at hc') <;> (try (exfalso; omega)))))
    refine at_ret1 rfl rfl ⟨congrArg Value.bool ?_, e12.trans e3⟩
    simp_all
theorem eqCellS_ret (va vb : Value) (la lb : List Ce) (Fa Fb : List Nat) (w : World) (ha : CeS w va la Fa) (hb : CeS w vb lb Fb) :
    Ret Try.prog 15 [va, vb] w fun r w' => r = .bool (decide (la = lb)) ∧ Ext w w' := by
  obtain ⟨A, ca, rfl, hla⟩ := ha.slice
  obtain ⟨B, cb, rfl, hlb⟩ := hb.slice
  unfold maxI at hla hlb
  refine enter Try.func15 rfl Try.ntmps15 rfl rfl ?_
  repeat (first
    | (refine idWO ?_
       first
       | refine WO_simple rfl ?_
       | (refine idG ?_
          first
          | refine WO_yes rfl rfl (by first | (with_reducible rfl) | decide) ?_
          | refine WO_no rfl rfl (by first | (with_reducible rfl) | decide) ?_
          | refine WO_noU rfl rfl ?_)
       | (refine idFA ?_
          first
          | refine WO_fieldAddr0 rfl rfl ?_
          | refine WO_fieldAddr rfl rfl ?_)
       | (refine idLd ?_
          first
          | refine WO_loadB rfl (by assumption) (by rfl) ?_
          | refine WO_load1 rfl (by assumption) ?_)
       | (refine idPk ?_
          first
          | refine WO_p (q_pickT rfl (by first | (with_reducible rfl) | decide) rfl) ?_
          | refine WO_p (q_pickF rfl (by first | (with_reducible rfl) | decide) rfl) ?_)
       | (refine idBi ?_
          first
          | refine WO_lenSl rfl ?_
          | refine WO_lenStr rfl ?_)
       | (refine idBo ?_
          first
          | refine WO_add rfl rfl (by omega) ?_
          | refine WO_sub rfl rfl (by omega) ?_
          | refine WO_mul rfl rfl (by omega) ?_
          | refine WO_rem rfl rfl (by omega) (by omega) ?_
          | refine WO_quo rfl rfl (by omega) (by omega) (by omega) ?_
          | refine WO_p (q_neBool rfl rfl) ?_
          | refine WO_p (q_eqBool rfl rfl) ?_)
       | (refine idCv ?_; refine WO_p (q_convert rfl (wrap_i64_in ⟨by omega, by omega⟩)) ?_)
       | (refine idBuild ?_; refine WO_p (q_build rfl (by rfl) (by simp only [fillS, List.set_cons_zero, List.set_cons_succ]; rfl)) ?_)
       | refine WO_nil ?_)
    | (refine idAt ?_
       first
       | refine at_next ?_
       | refine at_block ?_
       | refine at_next_exit ?_
       | refine at_next_ret ?_
       | refine at_block_exit ?_
       | refine at_block_other rfl ?_
       | refine at_block_ret ?_
       | refine at_loop_exit ?_
       | refine at_loop_ret ?_)
    | (refine idW ?_
       first
       | refine W_seq ?_
       | refine W_region ?_
       | refine W_block ?_
       | refine W_skip ?_
       | refine W_exit ?_
       | refine W_ret ?_
       | refine W_condT rfl (by first | (with_reducible rfl) | decide) ?_
       | refine W_condF rfl (by first | (with_reducible rfl) | decide) ?_))
  refine W_cond rfl (fun hc => ?_) (fun hc => ?_)
  · repeat (first
      | (refine idWO ?_
         first
         | refine WO_simple rfl ?_
         | (refine idG ?_
            first
            | refine WO_yes rfl rfl (by first | (with_reducible rfl) | decide) ?_
            | refine WO_no rfl rfl (by first | (with_reducible rfl) | decide) ?_
            | refine WO_noU rfl rfl ?_)
         | (refine idFA ?_
            first
            | refine WO_fieldAddr0 rfl rfl ?_
            | refine WO_fieldAddr rfl rfl ?_)
         | (refine idLd ?_
            first
            | refine WO_loadB rfl (by assumption) (by rfl) ?_
            | refine WO_load1 rfl (by assumption) ?_)
         | (refine idPk ?_
            first
            | refine WO_p (q_pickT rfl (by first | (with_reducible rfl) | decide) rfl) ?_
            | refine WO_p (q_pickF rfl (by first | (with_reducible rfl) | decide) rfl) ?_)
         | (refine idBi ?_
            first
            | refine WO_lenSl rfl ?_
            | refine WO_lenStr rfl ?_)
         | (refine idBo ?_
            first
            | refine WO_add rfl rfl (by omega) ?_
            | refine WO_sub rfl rfl (by omega) ?_
            | refine WO_mul rfl rfl (by omega) ?_
            | refine WO_rem rfl rfl (by omega) (by omega) ?_
            | refine WO_quo rfl rfl (by omega) (by omega) (by omega) ?_
            | refine WO_p (q_neBool rfl rfl) ?_
            | refine WO_p (q_eqBool rfl rfl) ?_)
         | (refine idCv ?_; refine WO_p (q_convert rfl (wrap_i64_in ⟨by omega, by omega⟩)) ?_)
         | (refine idBuild ?_; refine WO_p (q_build rfl (by rfl) (by simp only [fillS, List.set_cons_zero, List.set_cons_succ]; rfl)) ?_)
         | refine WO_nil ?_)
      | (refine idAt ?_
         first
         | refine at_next ?_
         | refine at_block ?_
         | refine at_next_exit ?_
         | refine at_next_ret ?_
         | refine at_block_exit ?_
         | refine at_block_other rfl ?_
         | refine at_block_ret ?_
         | refine at_loop_exit ?_
         | refine at_loop_ret ?_)
      | (refine idW ?_
         first
         | refine W_seq ?_
         | refine W_region ?_
         | refine W_block ?_
         | refine W_skip ?_
         | refine W_exit ?_
         | refine W_ret ?_
         | refine W_condT rfl (by first | (with_reducible rfl) | decide) ?_
         | refine W_condF rfl (by first | (with_reducible rfl) | decide) ?_))
    refine at_ret1 rfl rfl ⟨?_, Ext.refl _⟩
    have : la ≠ lb := by rintro rfl; simp at hc
    simp [this]
  · have hlen : la.length = lb.length := by simp at hc; omega
    repeat (first
      | (refine idWO ?_
         first
         | refine WO_simple rfl ?_
         | (refine idG ?_
            first
            | refine WO_yes rfl rfl (by first | (with_reducible rfl) | decide) ?_
            | refine WO_no rfl rfl (by first | (with_reducible rfl) | decide) ?_
            | refine WO_noU rfl rfl ?_)
         | (refine idFA ?_
            first
            | refine WO_fieldAddr0 rfl rfl ?_
            | refine WO_fieldAddr rfl rfl ?_)
         | (refine idLd ?_
            first
            | refine WO_loadB rfl (by assumption) (by rfl) ?_
            | refine WO_load1 rfl (by assumption) ?_)
         | (refine idPk ?_
            first
            | refine WO_p (q_pickT rfl (by first | (with_reducible rfl) | decide) rfl) ?_
            | refine WO_p (q_pickF rfl (by first | (with_reducible rfl) | decide) rfl) ?_)
         | (refine idBi ?_
            first
            | refine WO_lenSl rfl ?_
            | refine WO_lenStr rfl ?_)
         | (refine idBo ?_
            first
            | refine WO_add rfl rfl (by omega) ?_
            | refine WO_sub rfl rfl (by omega) ?_
            | refine WO_mul rfl rfl (by omega) ?_
            | refine WO_rem rfl rfl (by omega) (by omega) ?_
            | refine WO_quo rfl rfl (by omega) (by omega) (by omega) ?_
            | refine WO_p (q_neBool rfl rfl) ?_
            | refine WO_p (q_eqBool rfl rfl) ?_)
         | (refine idCv ?_; refine WO_p (q_convert rfl (wrap_i64_in ⟨by omega, by omega⟩)) ?_)
         | (refine idBuild ?_; refine WO_p (q_build rfl (by rfl) (by simp only [fillS, List.set_cons_zero, List.set_cons_succ]; rfl)) ?_)
         | refine WO_nil ?_)
      | (refine idAt ?_
         first
         | refine at_next ?_
         | refine at_block ?_
         | refine at_next_exit ?_
         | refine at_next_ret ?_
         | refine at_block_exit ?_
         | refine at_block_other rfl ?_
         | refine at_block_ret ?_
         | refine at_loop_exit ?_
         | refine at_loop_ret ?_)
      | (refine idW ?_
         first
         | refine W_seq ?_
         | refine W_region ?_
         | refine W_block ?_
         | refine W_skip ?_
         | refine W_exit ?_
         | refine W_ret ?_
         | refine W_condT rfl (by first | (with_reducible rfl) | decide) ?_
         | refine W_condF rfl (by first | (with_reducible rfl) | decide) ?_))
    refine W_loop (α := Nat) (fun i => [(0, .slice A la.length ca), (1, .slice B lb.length cb), (5, .int .i64 (i : Int))])
      (fun i w' => i ≤ la.length ∧ la.take i = lb.take i ∧ Ext w w') (fun i => la.length - i) 0 (by repeat (first | exact True.intro | refine And.intro rfl ?_)) ⟨Nat.zero_le _, rfl, Ext.refl _⟩ ?_
    rintro i w1 ⟨hi, ht, he⟩
    repeat (first
      | (refine idWO ?_
         first
         | refine WO_simple rfl ?_
         | (refine idG ?_
            first
            | refine WO_yes rfl rfl (by first | (with_reducible rfl) | decide) ?_
            | refine WO_no rfl rfl (by first | (with_reducible rfl) | decide) ?_
            | refine WO_noU rfl rfl ?_)
         | (refine idFA ?_
            first
            | refine WO_fieldAddr0 rfl rfl ?_
            | refine WO_fieldAddr rfl rfl ?_)
         | (refine idLd ?_
            first
            | refine WO_loadB rfl (by assumption) (by rfl) ?_
            | refine WO_load1 rfl (by assumption) ?_)
         | (refine idPk ?_
            first
            | refine WO_p (q_pickT rfl (by first | (with_reducible rfl) | decide) rfl) ?_
            | refine WO_p (q_pickF rfl (by first | (with_reducible rfl) | decide) rfl) ?_)
         | (refine idBi ?_
            first
            | refine WO_lenSl rfl ?_
            | refine WO_lenStr rfl ?_)
         | (refine idBo ?_
            first
            | refine WO_add rfl rfl (by omega) ?_
            | refine WO_sub rfl rfl (by omega) ?_
            | refine WO_mul rfl rfl (by omega) ?_
            | refine WO_rem rfl rfl (by omega) (by omega) ?_
            | refine WO_quo rfl rfl (by omega) (by omega) (by omega) ?_
            | refine WO_p (q_neBool rfl rfl) ?_
            | refine WO_p (q_eqBool rfl rfl) ?_)
         | (refine idCv ?_; refine WO_p (q_convert rfl (wrap_i64_in ⟨by omega, by omega⟩)) ?_)
         | (refine idBuild ?_; refine WO_p (q_build rfl (by rfl) (by simp only [fillS, List.set_cons_zero, List.set_cons_succ]; rfl)) ?_)
         | refine WO_nil ?_)
      | (refine idAt ?_
         first
         | refine at_next ?_
         | refine at_block ?_
         | refine at_next_exit ?_
         | refine at_next_ret ?_
         | refine at_block_exit ?_
         | refine at_block_other rfl ?_
         | refine at_block_ret ?_
         | refine at_loop_exit ?_
         | refine at_loop_ret ?_)
      | (refine idW ?_
         first
         | refine W_seq ?_
         | refine W_region ?_
         | refine W_block ?_
         | refine W_skip ?_
         | refine W_exit ?_
         | refine W_ret ?_
         | refine W_condT rfl (by first | (with_reducible rfl) | decide) ?_
         | refine W_condF rfl (by first | (with_reducible rfl) | decide) ?_))
    refine W_cond rfl (fun hc => ?_) (fun hc => ?_)
    · have hlt : i < la.length := by simpa using hc
      have hlt2 : i < lb.length := by omega
      obtain ⟨ba, oa, ua, Ga, rfl, _, a0, a1, a2, a3, hsa, _⟩ := ces_at (ha.ext he) hlt
      obtain ⟨bb, ob, ub, Gb, rfl, _, b0, b1, b2, b3, hsb, _⟩ := ces_at (hb.ext he) hlt2
      repeat (first
        | (refine idWO ?_
           first
           | refine WO_simple rfl ?_
           | (refine idG ?_
              first
              | refine WO_yes rfl rfl (by first | (with_reducible rfl) | decide) ?_
              | refine WO_no rfl rfl (by first | (with_reducible rfl) | decide) ?_
              | refine WO_noU rfl rfl ?_)
           | (refine idFA ?_
              first
              | refine WO_fieldAddr0 rfl rfl ?_
              | refine WO_fieldAddr rfl rfl ?_)
           | (refine idLd ?_
              first
              | refine WO_loadB rfl (by assumption) (by rfl) ?_
              | refine WO_load1 rfl (by assumption) ?_)
           | (refine idPk ?_
              first
              | refine WO_p (q_pickT rfl (by first | (with_reducible rfl) | decide) rfl) ?_
              | refine WO_p (q_pickF rfl (by first | (with_reducible rfl) | decide) rfl) ?_)
           | (refine idBi ?_
              first
              | refine WO_lenSl rfl ?_
              | refine WO_lenStr rfl ?_)
           | (refine idBo ?_
              first
              | refine WO_add rfl rfl (by omega) ?_
              | refine WO_sub rfl rfl (by omega) ?_
              | refine WO_mul rfl rfl (by omega) ?_
              | refine WO_rem rfl rfl (by omega) (by omega) ?_
              | refine WO_quo rfl rfl (by omega) (by omega) (by omega) ?_
              | refine WO_p (q_neBool rfl rfl) ?_
              | refine WO_p (q_eqBool rfl rfl) ?_)
           | (refine idCv ?_; refine WO_p (q_convert rfl (wrap_i64_in ⟨by omega, by omega⟩)) ?_)
           | (refine idBuild ?_; refine WO_p (q_build rfl (by rfl) (by simp only [fillS, List.set_cons_zero, List.set_cons_succ]; rfl)) ?_)
           | refine WO_nil ?_)
        | (refine idAt ?_
           first
           | refine at_next ?_
           | refine at_block ?_
           | refine at_next_exit ?_
           | refine at_next_ret ?_
           | refine at_block_exit ?_
           | refine at_block_other rfl ?_
           | refine at_block_ret ?_
           | refine at_loop_exit ?_
           | refine at_loop_ret ?_)
        | (refine idW ?_
           first
           | refine W_seq ?_
           | refine W_region ?_
           | refine W_block ?_
           | refine W_skip ?_
           | refine W_exit ?_
           | refine W_ret ?_
           | refine W_condT rfl (by first | (with_reducible rfl) | decide) ?_
           | refine W_condF rfl (by first | (with_reducible rfl) | decide) ?_))
      refine W_quiet (by kernel_rfl) (by kernel_rfl) ?_
      repeat' (first
        | refine WQ_p (q_simple rfl) ?_
        | (refine iqG ?_
           first
           | refine WQ_yes rfl rfl (by first | (with_reducible rfl) | decide) ?_
           | refine WQ_no rfl rfl (by first | (with_reducible rfl) | decide) ?_
           | refine WQ_noU rfl rfl ?_
           | ((refine WQ_split rfl rfl (fun c' hc' => ?_)); cases c' <;> (try simp only [decide_eq_true_eq, decide_eq_false_iff_not, beq_iff_eq, beq_eq_false_iff_ne, bne_iff_ne, bne_eq_false_iff_eq, ne_eq, gt_iff_lt, ge_iff_le, Int.not_lt, Int.not_le, Bool.not_eq_true', Bool.not_eq_false', Bool.not_true, Bool.not_false, reduceCtorEq, Decidable.not_not, Bool.true_eq_false, Bool.false_eq_true] at hc') <;> (try (exfalso; omega))))
        | (refine iqFA ?_
           first
           | refine WQ_p (q_fieldAddr0 rfl rfl) ?_
           | refine WQ_p (q_fieldAddr rfl rfl) ?_)
        | (refine iqLd ?_
           first
           | refine WQ_p (q_loadB rfl (by assumption) (by rfl)) ?_
           | refine WQ_p (q_load1 rfl (by assumption)) ?_)
        | (refine iqIA ?_; refine WQ_p (q_indexAddr rfl rfl rfl (by omega)) ?_)
        | (refine iqPk ?_
           first
           | refine WQ_p (q_pickT rfl (by first | (with_reducible rfl) | decide) rfl) ?_
           | refine WQ_p (q_pickF rfl (by first | (with_reducible rfl) | decide) rfl) ?_)
        | (refine iqBi ?_
           first
           | refine WQ_p (q_lenSl rfl) ?_
           | refine WQ_p (q_lenStr rfl) ?_)
        | (refine iqBo ?_
           first
           | refine WQ_p (q_add rfl rfl (by omega)) ?_
           | refine WQ_p (q_sub rfl rfl (by omega)) ?_
           | refine WQ_p (q_mul rfl rfl (by omega)) ?_
           | refine WQ_p (q_rem rfl rfl (by omega) (by omega)) ?_
           | refine WQ_p (q_quo rfl rfl (by omega) (by omega) (by omega)) ?_
           | refine WQ_p (q_neBool rfl rfl) ?_
           | refine WQ_p (q_eqBool rfl rfl) ?_)
        | (refine iqCv ?_; refine WQ_p (q_convert rfl (wrap_i64_in ⟨by omega, by omega⟩)) ?_)
        | refine WQ_end fun w' hw' => ?_)
      refine WQ_p (q_loadS rfl rfl (four a0 a1 a2 a3)) ?_
      repeat' (first
        | refine WQ_p (q_simple rfl) ?_
        | (refine iqG ?_
           first
           | refine WQ_yes rfl rfl (by first | (with_reducible rfl) | decide) ?_
           | refine WQ_no rfl rfl (by first | (with_reducible rfl) | decide) ?_
           | refine WQ_noU rfl rfl ?_
           | ((refine WQ_split rfl rfl (fun c' hc' => ?_)); cases c' <;> (try simp only [decide_eq_true_eq, decide_eq_false_iff_not, beq_iff_eq, beq_eq_false_iff_ne, bne_iff_ne, bne_eq_false_iff_eq, ne_eq, gt_iff_lt, ge_iff_le, Int.not_lt, Int.not_le, Bool.not_eq_true', Bool.not_eq_false', Bool.not_true, Bool.not_false, reduceCtorEq, Decidable.not_not, Bool.true_eq_false, Bool.false_eq_true] at hc') <;> (try (exfalso; omega))))
        | (refine iqFA ?_
           first
           | refine WQ_p (q_fieldAddr0 rfl rfl) ?_
           | refine WQ_p (q_fieldAddr rfl rfl) ?_)
        | (refine iqLd ?_
           first
           | refine WQ_p (q_loadB rfl (by assumption) (by rfl)) ?_
           | refine WQ_p (q_load1 rfl (by assumption)) ?_)
        | (refine iqIA ?_; refine WQ_p (q_indexAddr rfl rfl rfl (by omega)) ?_)
        | (refine iqPk ?_
           first
           | refine WQ_p (q_pickT rfl (by first | (with_reducible rfl) | decide) rfl) ?_
           | refine WQ_p (q_pickF rfl (by first | (with_reducible rfl) | decide) rfl) ?_)
        | (refine iqBi ?_
           first
           | refine WQ_p (q_lenSl rfl) ?_
           | refine WQ_p (q_lenStr rfl) ?_)
        | (refine iqBo ?_
           first
           | refine WQ_p (q_add rfl rfl (by omega)) ?_
           | refine WQ_p (q_sub rfl rfl (by omega)) ?_
           | refine WQ_p (q_mul rfl rfl (by omega)) ?_
           | refine WQ_p (q_rem rfl rfl (by omega) (by omega)) ?_
           | refine WQ_p (q_quo rfl rfl (by omega) (by omega) (by omega)) ?_
           | refine WQ_p (q_neBool rfl rfl) ?_
           | refine WQ_p (q_eqBool rfl rfl) ?_)
        | (refine iqCv ?_; refine WQ_p (q_convert rfl (wrap_i64_in ⟨by omega, by omega⟩)) ?_)
        | refine WQ_end fun w' hw' => ?_)
      refine WQ_p (q_loadS rfl rfl (four b0 b1 b2 b3)) ?_
      refine WQ_call rfl (fun w' e' => (eqCell_ret la[i] lb[i] ua ub Ga Gb w' (hsa.ext e') (hsb.ext e')).mono (by rintro u w'' ⟨rfl, h⟩; exact ⟨rfl, h⟩)) ?_
      repeat' (first
        | refine WQ_p (q_simple rfl) ?_
        | (refine iqG ?_
           first
           | refine WQ_yes rfl rfl (by first | (with_reducible rfl) | decide) ?_
           | refine WQ_no rfl rfl (by first | (with_reducible rfl) | decide) ?_
           | refine WQ_noU rfl rfl ?_
           | ((refine WQ_split rfl rfl (fun c' hc' => ?_)); cases c' <;> (try simp only [decide_eq_true_eq, decide_eq_false_iff_not, beq_iff_eq, beq_eq_false_iff_ne, bne_iff_ne, bne_eq_false_iff_eq, ne_eq, gt_iff_lt, ge_iff_le, Int.not_lt, Int.not_le, Bool.not_eq_true', Bool.not_eq_false', Bool.not_true, Bool.not_false, reduceCtorEq, Decidable.not_not, Bool.true_eq_false, Bool.false_eq_true] at hc') <;> (try (exfalso; omega))))
        | (refine iqFA ?_
           first
           | refine WQ_p (q_fieldAddr0 rfl rfl) ?_
           | refine WQ_p (q_fieldAddr rfl rfl) ?_)
        | (refine iqLd ?_
           first
           | refine WQ_p (q_loadB rfl (by assumption) (by rfl)) ?_
           | refine WQ_p (q_load1 rfl (by assumption)) ?_)
        | (refine iqIA ?_; refine WQ_p (q_indexAddr rfl rfl rfl (by omega)) ?_)
        | (refine iqPk ?_
           first
           | refine WQ_p (q_pickT rfl (by first | (with_reducible rfl) | decide) rfl) ?_
           | refine WQ_p (q_pickF rfl (by first | (with_reducible rfl) | decide) rfl) ?_)
        | (refine iqBi ?_
           first
           | refine WQ_p (q_lenSl rfl) ?_
           | refine WQ_p (q_lenStr rfl) ?_)
        | (refine iqBo ?_
           first
           | refine WQ_p (q_add rfl rfl (by omega)) ?_
           | refine WQ_p (q_sub rfl rfl (by omega)) ?_
           | refine WQ_p (q_mul rfl rfl (by omega)) ?_
           | refine WQ_p (q_rem rfl rfl (by omega) (by omega)) ?_
           | refine WQ_p (q_quo rfl rfl (by omega) (by omega) (by omega)) ?_
           | refine WQ_p (q_neBool rfl rfl) ?_
           | refine WQ_p (q_eqBool rfl rfl) ?_)
        | (refine iqCv ?_; refine WQ_p (q_convert rfl (wrap_i64_in ⟨by omega, by omega⟩)) ?_)
        | refine WQ_end fun w' hw' => ?_)
      repeat (first
        | (refine idWO ?_
           first
           | refine WO_simple rfl ?_
           | (refine idG ?_
              first
              | refine WO_yes rfl rfl (by first | (with_reducible rfl) | decide) ?_
              | refine WO_no rfl rfl (by first | (with_reducible rfl) | decide) ?_
              | refine WO_noU rfl rfl ?_)
           | (refine idFA ?_
              first
              | refine WO_fieldAddr0 rfl rfl ?_
              | refine WO_fieldAddr rfl rfl ?_)
           | (refine idLd ?_
              first
              | refine WO_loadB rfl (by assumption) (by rfl) ?_
              | refine WO_load1 rfl (by assumption) ?_)
           | (refine idPk ?_
              first
              | refine WO_p (q_pickT rfl (by first | (with_reducible rfl) | decide) rfl) ?_
              | refine WO_p (q_pickF rfl (by first | (with_reducible rfl) | decide) rfl) ?_)
           | (refine idBi ?_
              first
              | refine WO_lenSl rfl ?_
              | refine WO_lenStr rfl ?_)
           | (refine idBo ?_
              first
              | refine WO_add rfl rfl (by omega) ?_
              | refine WO_sub rfl rfl (by omega) ?_
              | refine WO_mul rfl rfl (by omega) ?_
              | refine WO_rem rfl rfl (by omega) (by omega) ?_
              | refine WO_quo rfl rfl (by omega) (by omega) (by omega) ?_
              | refine WO_p (q_neBool rfl rfl) ?_
              | refine WO_p (q_eqBool rfl rfl) ?_)
           | (refine idCv ?_; refine WO_p (q_convert rfl (wrap_i64_in ⟨by omega, by omega⟩)) ?_)
           | (refine idBuild ?_; refine WO_p (q_build rfl (by rfl) (by simp only [fillS, List.set_cons_zero, List.set_cons_succ]; rfl)) ?_)
           | refine WO_nil ?_)
        | (refine idAt ?_
           first
           | refine at_next ?_
           | refine at_block ?_
           | refine at_next_exit ?_
           | refine at_next_ret ?_
           | refine at_block_exit ?_
           | refine at_block_other rfl ?_
           | refine at_block_ret ?_
           | refine at_loop_exit ?_
           | refine at_loop_ret ?_)
        | (refine idW ?_
           first
           | refine W_seq ?_
           | refine W_region ?_
           | refine W_block ?_
           | refine W_skip ?_
           | refine W_exit ?_
           | refine W_ret ?_
           | refine W_condT rfl (by first | (with_reducible rfl) | decide) ?_
           | refine W_condF rfl (by first | (with_reducible rfl) | decide) ?_))
      refine W_cond rfl (fun hc => ?_) (fun hc => ?_)
      · repeat (first
          | (refine idWO ?_
             first
             | refine WO_simple rfl ?_
             | (refine idG ?_
                first
                | refine WO_yes rfl rfl (by first | (with_reducible rfl) | decide) ?_
                | refine WO_no rfl rfl (by first | (with_reducible rfl) | decide) ?_
                | refine WO_noU rfl rfl ?_)
             | (refine idFA ?_
                first
                | refine WO_fieldAddr0 rfl rfl ?_
                | refine WO_fieldAddr rfl rfl ?_)
             | (refine idLd ?_
                first
                | refine WO_loadB rfl (by assumption) (by rfl) ?_
                | refine WO_load1 rfl (by assumption) ?_)
             | (refine idPk ?_
                first
                | refine WO_p (q_pickT rfl (by first | (with_reducible rfl) | decide) rfl) ?_
                | refine WO_p (q_pickF rfl (by first | (with_reducible rfl) | decide) rfl) ?_)
             | (refine idBi ?_
                first
                | refine WO_lenSl rfl ?_
                | refine WO_lenStr rfl ?_)
             | (refine idBo ?_
                first
                | refine WO_add rfl rfl (by omega) ?_
                | refine WO_sub rfl rfl (by omega) ?_
                | refine WO_mul rfl rfl (by omega) ?_
                | refine WO_rem rfl rfl (by omega) (by omega) ?_
                | refine WO_quo rfl rfl (by omega) (by omega) (by omega) ?_
                | refine WO_p (q_neBool rfl rfl) ?_
                | refine WO_p (q_eqBool rfl rfl) ?_)
             | (refine idCv ?_; refine WO_p (q_convert rfl (wrap_i64_in ⟨by omega, by omega⟩)) ?_)
             | (refine idBuild ?_; refine WO_p (q_build rfl (by rfl) (by simp only [fillS, List.set_cons_zero, List.set_cons_succ]; rfl)) ?_)
             | refine WO_nil ?_)
          | (refine idAt ?_
             first
             | refine at_next ?_
             | refine at_block ?_
             | refine at_next_exit ?_
             | refine at_next_ret ?_
             | refine at_block_exit ?_
             | refine at_block_other rfl ?_
             | refine at_block_ret ?_
             | refine at_loop_exit ?_
             | refine at_loop_ret ?_)
          | (refine idW ?_
             first
             | refine W_seq ?_
             | refine W_region ?_
             | refine W_block ?_
             | refine W_skip ?_
             | refine W_exit ?_
             | refine W_ret ?_
             | refine W_condT rfl (by first | (with_reducible rfl) | decide) ?_
             | refine W_condF rfl (by first | (with_reducible rfl) | decide) ?_))
        refine at_ret1 rfl rfl ⟨?_, he.trans hw'⟩
        have : la ≠ lb := by rintro rfl; simp at hc
        simp [this]
      · have heq : la[i] = lb[i] := by simpa using hc
        repeat (first
          | (refine idWO ?_
             first
             | refine WO_simple rfl ?_
             | (refine idG ?_
                first
                | refine WO_yes rfl rfl (by first | (with_reducible rfl) | decide) ?_
                | refine WO_no rfl rfl (by first | (with_reducible rfl) | decide) ?_
                | refine WO_noU rfl rfl ?_)
             | (refine idFA ?_
                first
                | refine WO_fieldAddr0 rfl rfl ?_
                | refine WO_fieldAddr rfl rfl ?_)
             | (refine idLd ?_
                first
                | refine WO_loadB rfl (by assumption) (by rfl) ?_
                | refine WO_load1 rfl (by assumption) ?_)
             | (refine idPk ?_
                first
                | refine WO_p (q_pickT rfl (by first | (with_reducible rfl) | decide) rfl) ?_
                | refine WO_p (q_pickF rfl (by first | (with_reducible rfl) | decide) rfl) ?_)
             | (refine idBi ?_
                first
                | refine WO_lenSl rfl ?_
                | refine WO_lenStr rfl ?_)
             | (refine idBo ?_
                first
                | refine WO_add rfl rfl (by omega) ?_
                | refine WO_sub rfl rfl (by omega) ?_
                | refine WO_mul rfl rfl (by omega) ?_
                | refine WO_rem rfl rfl (by omega) (by omega) ?_
                | refine WO_quo rfl rfl (by omega) (by omega) (by omega) ?_
                | refine WO_p (q_neBool rfl rfl) ?_
                | refine WO_p (q_eqBool rfl rfl) ?_)
             | (refine idCv ?_; refine WO_p (q_convert rfl (wrap_i64_in ⟨by omega, by omega⟩)) ?_)
             | (refine idBuild ?_; refine WO_p (q_build rfl (by rfl) (by simp only [fillS, List.set_cons_zero, List.set_cons_succ]; rfl)) ?_)
             | refine WO_nil ?_)
          | (refine idAt ?_
             first
             | refine at_next ?_
             | refine at_block ?_
             | refine at_next_exit ?_
             | refine at_next_ret ?_
             | refine at_block_exit ?_
             | refine at_block_other rfl ?_
             | refine at_block_ret ?_
             | refine at_loop_exit ?_
             | refine at_loop_ret ?_)
          | (refine idW ?_
             first
             | refine W_seq ?_
             | refine W_region ?_
             | refine W_block ?_
             | refine W_skip ?_
             | refine W_exit ?_
             | refine W_ret ?_
             | refine W_condT rfl (by first | (with_reducible rfl) | decide) ?_
             | refine W_condF rfl (by first | (with_reducible rfl) | decide) ?_))
        refine at_loop (i + 1) (by repeat (first | exact True.intro | refine And.intro rfl ?_)) ⟨by omega, take_succ_eqG hlt hlt2 ht heq, he.trans hw'⟩ (by omega)
    · have hge : i = la.length := by simp at hc; omega
      repeat (first
        | (refine idWO ?_
           first
           | refine WO_simple rfl ?_
           | (refine idG ?_
              first
              | refine WO_yes rfl rfl (by first | (with_reducible rfl) | decide) ?_
              | refine WO_no rfl rfl (by first | (with_reducible rfl) | decide) ?_
              | refine WO_noU rfl rfl ?_)
           | (refine idFA ?_
              first
              | refine WO_fieldAddr0 rfl rfl ?_
              | refine WO_fieldAddr rfl rfl ?_)
           | (refine idLd ?_
              first
              | refine WO_loadB rfl (by assumption) (by rfl) ?_
              | refine WO_load1 rfl (by assumption) ?_)
           | (refine idPk ?_
              first
              | refine WO_p (q_pickT rfl (by first | (with_reducible rfl) | decide) rfl) ?_
              | refine WO_p (q_pickF rfl (by first | (with_reducible rfl) | decide) rfl) ?_)
           | (refine idBi ?_
              first
              | refine WO_lenSl rfl ?_
              | refine WO_lenStr rfl ?_)
           | (refine idBo ?_
              first
              | refine WO_add rfl rfl (by omega) ?_
              | refine WO_sub rfl rfl (by omega) ?_
              | refine WO_mul rfl rfl (by omega) ?_
              | refine WO_rem rfl rfl (by omega) (by omega) ?_
              | refine WO_quo rfl rfl (by omega) (by omega) (by omega) ?_
              | refine WO_p (q_neBool rfl rfl) ?_
              | refine WO_p (q_eqBool rfl rfl) ?_)
           | (refine idCv ?_; refine WO_p (q_convert rfl (wrap_i64_in ⟨by omega, by omega⟩)) ?_)
           | (refine idBuild ?_; refine WO_p (q_build rfl (by rfl) (by simp only [fillS, List.set_cons_zero, List.set_cons_succ]; rfl)) ?_)
           | refine WO_nil ?_)
        | (refine idAt ?_
           first
           | refine at_next ?_
           | refine at_block ?_
           | refine at_next_exit ?_
           | refine at_next_ret ?_
           | refine at_block_exit ?_
           | refine at_block_other rfl ?_
           | refine at_block_ret ?_
           | refine at_loop_exit ?_
           | refine at_loop_ret ?_)
        | (refine idW ?_
           first
           | refine W_seq ?_
           | refine W_region ?_
           | refine W_block ?_
           | refine W_skip ?_
           | refine W_exit ?_
           | refine W_ret ?_
           | refine W_condT rfl (by first | (with_reducible rfl) | decide) ?_
           | refine W_condF rfl (by first | (with_reducible rfl) | decide) ?_))
      refine at_ret1 rfl rfl ⟨?_, he⟩
      subst hge
      rw [List.take_length, hlen, List.take_length] at ht
      simp [ht]
theorem toTag_ret (t : Tg) (w : World) : Ret Try.prog 63 [tgV t] w fun r w' => r = tgV t ∧ Ext w w' := by
  refine enter Try.func63 rfl Try.ntmps63 rfl rfl ?_
  refine W_seq (W_region (WO_box rfl fun w1 h1 e1 z1 => WO_alloc fun w2 h2 e2 z2 => ?_))
  replace h1 : Blk w2 w.heap.size [.int .i64 t.id, .bool t.u] _ := Blk.ext h1 e2
  replace h2 : Blk w2 w1.heap.size [.int .i64 0, .bool false] _ := h2
  repeat (first
    | (refine idWO ?_
       first
       | refine WO_simple rfl ?_
       | (refine idG ?_
          first
          | refine WO_yes rfl rfl (by first | (with_reducible rfl) | decide) ?_
          | refine WO_no rfl rfl (by first | (with_reducible rfl) | decide) ?_
          | refine WO_noU rfl rfl ?_)
       | (refine idFA ?_
          first
          | refine WO_fieldAddr0 rfl rfl ?_
          | refine WO_fieldAddr rfl rfl ?_)
       | (refine idLd ?_
          first
          | refine WO_loadB rfl (by assumption) (by rfl) ?_
          | refine WO_load1 rfl (by assumption) ?_)
       | (refine idPk ?_
          first
          | refine WO_p (q_pickT rfl (by first | (with_reducible rfl) | decide) rfl) ?_
          | refine WO_p (q_pickF rfl (by first | (with_reducible rfl) | decide) rfl) ?_)
       | (refine idBi ?_
          first
          | refine WO_lenSl rfl ?_
          | refine WO_lenStr rfl ?_)
       | (refine idBo ?_
          first
          | refine WO_add rfl rfl (by omega) ?_
          | refine WO_sub rfl rfl (by omega) ?_
          | refine WO_mul rfl rfl (by omega) ?_
          | refine WO_rem rfl rfl (by omega) (by omega) ?_
          | refine WO_quo rfl rfl (by omega) (by omega) (by omega) ?_
          | refine WO_p (q_neBool rfl rfl) ?_
          | refine WO_p (q_eqBool rfl rfl) ?_)
       | (refine idCv ?_; refine WO_p (q_convert rfl (wrap_i64_in ⟨by omega, by omega⟩)) ?_)
       | (refine idBuild ?_; refine WO_p (q_build rfl (by rfl) (by simp only [fillS, List.set_cons_zero, List.set_cons_succ]; rfl)) ?_)
       | refine WO_nil ?_)
    | (refine idAt ?_
       first
       | refine at_next ?_
       | refine at_block ?_
       | refine at_next_exit ?_
       | refine at_next_ret ?_
       | refine at_block_exit ?_
       | refine at_block_other rfl ?_
       | refine at_block_ret ?_
       | refine at_loop_exit ?_
       | refine at_loop_ret ?_)
    | (refine idW ?_
       first
       | refine W_seq ?_
       | refine W_region ?_
       | refine W_block ?_
       | refine W_skip ?_
       | refine W_exit ?_
       | refine W_ret ?_
       | refine W_condT rfl (by first | (with_reducible rfl) | decide) ?_
       | refine W_condF rfl (by first | (with_reducible rfl) | decide) ?_))
  refine WO_alloc fun w3 h3 e3 z3 => ?_
  replace h3 : Blk w3 w2.heap.size [.int .i64 0, .bool false] _ := h3
  replace h1 := h1.ext e3
  replace h2 := h2.ext e3
  have e0 := e1.trans (e2.trans e3)
  repeat (first
    | (refine idWO ?_
       first
       | refine WO_simple rfl ?_
       | (refine idG ?_
          first
          | refine WO_yes rfl rfl (by first | (with_reducible rfl) | decide) ?_
          | refine WO_no rfl rfl (by first | (with_reducible rfl) | decide) ?_
          | refine WO_noU rfl rfl ?_)
       | (refine idFA ?_
          first
          | refine WO_fieldAddr0 rfl rfl ?_
          | refine WO_fieldAddr rfl rfl ?_)
       | (refine idLd ?_
          first
          | refine WO_loadB rfl (by assumption) (by rfl) ?_
          | refine WO_load1 rfl (by assumption) ?_)
       | (refine idPk ?_
          first
          | refine WO_p (q_pickT rfl (by first | (with_reducible rfl) | decide) rfl) ?_
          | refine WO_p (q_pickF rfl (by first | (with_reducible rfl) | decide) rfl) ?_)
       | (refine idBi ?_
          first
          | refine WO_lenSl rfl ?_
          | refine WO_lenStr rfl ?_)
       | (refine idBo ?_
          first
          | refine WO_add rfl rfl (by omega) ?_
          | refine WO_sub rfl rfl (by omega) ?_
          | refine WO_mul rfl rfl (by omega) ?_
          | refine WO_rem rfl rfl (by omega) (by omega) ?_
          | refine WO_quo rfl rfl (by omega) (by omega) (by omega) ?_
          | refine WO_p (q_neBool rfl rfl) ?_
          | refine WO_p (q_eqBool rfl rfl) ?_)
       | (refine idCv ?_; refine WO_p (q_convert rfl (wrap_i64_in ⟨by omega, by omega⟩)) ?_)
       | (refine idBuild ?_; refine WO_p (q_build rfl (by rfl) (by simp only [fillS, List.set_cons_zero, List.set_cons_succ]; rfl)) ?_)
       | refine WO_nil ?_)
    | (refine idAt ?_
       first
       | refine at_next ?_
       | refine at_block ?_
       | refine at_next_exit ?_
       | refine at_next_ret ?_
       | refine at_block_exit ?_
       | refine at_block_other rfl ?_
       | refine at_block_ret ?_
       | refine at_loop_exit ?_
       | refine at_loop_ret ?_)
    | (refine idW ?_
       first
       | refine W_seq ?_
       | refine W_region ?_
       | refine W_block ?_
       | refine W_skip ?_
       | refine W_exit ?_
       | refine W_ret ?_
       | refine W_condT rfl (by first | (with_reducible rfl) | decide) ?_
       | refine W_condF rfl (by first | (with_reducible rfl) | decide) ?_))
  refine WO_store1 rfl rfl rfl h3 (by simp) fun w4 h4 o4 => ?_
  replace h1 := h1.only o4 (by omega)
  replace h2 := h2.only o4 (by omega)
  simp only [List.set_cons_zero, List.set_cons_succ] at h4
  repeat (first
    | (refine idWO ?_
       first
       | refine WO_simple rfl ?_
       | (refine idG ?_
          first
          | refine WO_yes rfl rfl (by first | (with_reducible rfl) | decide) ?_
          | refine WO_no rfl rfl (by first | (with_reducible rfl) | decide) ?_
          | refine WO_noU rfl rfl ?_)
       | (refine idFA ?_
          first
          | refine WO_fieldAddr0 rfl rfl ?_
          | refine WO_fieldAddr rfl rfl ?_)
       | (refine idLd ?_
          first
          | refine WO_loadB rfl (by assumption) (by rfl) ?_
          | refine WO_load1 rfl (by assumption) ?_)
       | (refine idPk ?_
          first
          | refine WO_p (q_pickT rfl (by first | (with_reducible rfl) | decide) rfl) ?_
          | refine WO_p (q_pickF rfl (by first | (with_reducible rfl) | decide) rfl) ?_)
       | (refine idBi ?_
          first
          | refine WO_lenSl rfl ?_
          | refine WO_lenStr rfl ?_)
       | (refine idBo ?_
          first
          | refine WO_add rfl rfl (by omega) ?_
          | refine WO_sub rfl rfl (by omega) ?_
          | refine WO_mul rfl rfl (by omega) ?_
          | refine WO_rem rfl rfl (by omega) (by omega) ?_
          | refine WO_quo rfl rfl (by omega) (by omega) (by omega) ?_
          | refine WO_p (q_neBool rfl rfl) ?_
          | refine WO_p (q_eqBool rfl rfl) ?_)
       | (refine idCv ?_; refine WO_p (q_convert rfl (wrap_i64_in ⟨by omega, by omega⟩)) ?_)
       | (refine idBuild ?_; refine WO_p (q_build rfl (by rfl) (by simp only [fillS, List.set_cons_zero, List.set_cons_succ]; rfl)) ?_)
       | refine WO_nil ?_)
    | (refine idAt ?_
       first
       | refine at_next ?_
       | refine at_block ?_
       | refine at_next_exit ?_
       | refine at_next_ret ?_
       | refine at_block_exit ?_
       | refine at_block_other rfl ?_
       | refine at_block_ret ?_
       | refine at_loop_exit ?_
       | refine at_loop_ret ?_)
    | (refine idW ?_
       first
       | refine W_seq ?_
       | refine W_region ?_
       | refine W_block ?_
       | refine W_skip ?_
       | refine W_exit ?_
       | refine W_ret ?_
       | refine W_condT rfl (by first | (with_reducible rfl) | decide) ?_
       | refine W_condF rfl (by first | (with_reducible rfl) | decide) ?_))
  refine WO_store1 rfl rfl rfl h4 (by simp) fun w5 h5 o5 => ?_
  replace h1 := h1.only o5 (by omega)
  replace h2 := h2.only o5 (by omega)
  simp only [List.set_cons_zero, List.set_cons_succ] at h5
  repeat (first
    | (refine idWO ?_
       first
       | refine WO_simple rfl ?_
       | (refine idG ?_
          first
          | refine WO_yes rfl rfl (by first | (with_reducible rfl) | decide) ?_
          | refine WO_no rfl rfl (by first | (with_reducible rfl) | decide) ?_
          | refine WO_noU rfl rfl ?_)
       | (refine idFA ?_
          first
          | refine WO_fieldAddr0 rfl rfl ?_
          | refine WO_fieldAddr rfl rfl ?_)
       | (refine idLd ?_
          first
          | refine WO_loadB rfl (by assumption) (by rfl) ?_
          | refine WO_load1 rfl (by assumption) ?_)
       | (refine idPk ?_
          first
          | refine WO_p (q_pickT rfl (by first | (with_reducible rfl) | decide) rfl) ?_
          | refine WO_p (q_pickF rfl (by first | (with_reducible rfl) | decide) rfl) ?_)
       | (refine idBi ?_
          first
          | refine WO_lenSl rfl ?_
          | refine WO_lenStr rfl ?_)
       | (refine idBo ?_
          first
          | refine WO_add rfl rfl (by omega) ?_
          | refine WO_sub rfl rfl (by omega) ?_
          | refine WO_mul rfl rfl (by omega) ?_
          | refine WO_rem rfl rfl (by omega) (by omega) ?_
          | refine WO_quo rfl rfl (by omega) (by omega) (by omega) ?_
          | refine WO_p (q_neBool rfl rfl) ?_
          | refine WO_p (q_eqBool rfl rfl) ?_)
       | (refine idCv ?_; refine WO_p (q_convert rfl (wrap_i64_in ⟨by omega, by omega⟩)) ?_)
       | (refine idBuild ?_; refine WO_p (q_build rfl (by rfl) (by simp only [fillS, List.set_cons_zero, List.set_cons_succ]; rfl)) ?_)
       | refine WO_nil ?_)
    | (refine idAt ?_
       first
       | refine at_next ?_
       | refine at_block ?_
       | refine at_next_exit ?_
       | refine at_next_ret ?_
       | refine at_block_exit ?_
       | refine at_block_other rfl ?_
       | refine at_block_ret ?_
       | refine at_loop_exit ?_
       | refine at_loop_ret ?_)
    | (refine idW ?_
       first
       | refine W_seq ?_
       | refine W_region ?_
       | refine W_block ?_
       | refine W_skip ?_
       | refine W_exit ?_
       | refine W_ret ?_
       | refine W_condT rfl (by first | (with_reducible rfl) | decide) ?_
       | refine W_condF rfl (by first | (with_reducible rfl) | decide) ?_))
  refine WO_loadSB rfl h5 rfl ?_
  refine WO_storeS (vs := [.int .i64 t.id, .bool t.u]) rfl rfl rfl (by intro v hv; simp at hv; rcases hv with rfl | rfl <;> rfl) h2 (by simp) fun w6 h6 o6 => ?_
  replace h6 : Blk w6 w1.heap.size [.int .i64 t.id, .bool t.u] _ := h6
  repeat (first
    | (refine idWO ?_
       first
       | refine WO_simple rfl ?_
       | (refine idG ?_
          first
          | refine WO_yes rfl rfl (by first | (with_reducible rfl) | decide) ?_
          | refine WO_no rfl rfl (by first | (with_reducible rfl) | decide) ?_
          | refine WO_noU rfl rfl ?_)
       | (refine idFA ?_
          first
          | refine WO_fieldAddr0 rfl rfl ?_
          | refine WO_fieldAddr rfl rfl ?_)
       | (refine idLd ?_
          first
          | refine WO_loadB rfl (by assumption) (by rfl) ?_
          | refine WO_load1 rfl (by assumption) ?_)
       | (refine idPk ?_
          first
          | refine WO_p (q_pickT rfl (by first | (with_reducible rfl) | decide) rfl) ?_
          | refine WO_p (q_pickF rfl (by first | (with_reducible rfl) | decide) rfl) ?_)
       | (refine idBi ?_
          first
          | refine WO_lenSl rfl ?_
          | refine WO_lenStr rfl ?_)
       | (refine idBo ?_
          first
          | refine WO_add rfl rfl (by omega) ?_
          | refine WO_sub rfl rfl (by omega) ?_
          | refine WO_mul rfl rfl (by omega) ?_
          | refine WO_rem rfl rfl (by omega) (by omega) ?_
          | refine WO_quo rfl rfl (by omega) (by omega) (by omega) ?_
          | refine WO_p (q_neBool rfl rfl) ?_
          | refine WO_p (q_eqBool rfl rfl) ?_)
       | (refine idCv ?_; refine WO_p (q_convert rfl (wrap_i64_in ⟨by omega, by omega⟩)) ?_)
       | (refine idBuild ?_; refine WO_p (q_build rfl (by rfl) (by simp only [fillS, List.set_cons_zero, List.set_cons_succ]; rfl)) ?_)
       | refine WO_nil ?_)
    | (refine idAt ?_
       first
       | refine at_next ?_
       | refine at_block ?_
       | refine at_next_exit ?_
       | refine at_next_ret ?_
       | refine at_block_exit ?_
       | refine at_block_other rfl ?_
       | refine at_block_ret ?_
       | refine at_loop_exit ?_
       | refine at_loop_ret ?_)
    | (refine idW ?_
       first
       | refine W_seq ?_
       | refine W_region ?_
       | refine W_block ?_
       | refine W_skip ?_
       | refine W_exit ?_
       | refine W_ret ?_
       | refine W_condT rfl (by first | (with_reducible rfl) | decide) ?_
       | refine W_condF rfl (by first | (with_reducible rfl) | decide) ?_))
  refine at_retC rfl rfl h6 rfl ⟨rfl, ?_⟩
  exact ((e0.only o4 (by omega)).only o5 (by omega)).only o6 (by omega)
end Go.Proofs.Ytginfkgogickcaa
