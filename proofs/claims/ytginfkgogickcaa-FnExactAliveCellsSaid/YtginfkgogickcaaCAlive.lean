/-
  What is proved here: AliveCells of the program and of the reference compute the same; the law FnExactAliveCells.
-/
import Derived.Test.YtginfkgogickcaaCVal
import Derived.Test.YtginfkgogickcaaCMk
namespace Go.Proofs.Ytginfkgogickcaa
set_option linter.unusedVariables false
set_option linter.unusedSimpArgs false
set_option linter.unnecessarySimpa false
open Go.RowKit

def aliveTo (l : List Ce) : Nat → List Int
  | 0 => []
  | i + 1 => aliveTo l i ++ (if (l[i]?.map (·.al)) = some true then [(i : Int)] else [])
theorem aliveTo_length (l : List Ce) : ∀ i, (aliveTo l i).length ≤ i
  | 0 => Nat.le_refl _
  | i + 1 => by
    have := aliveTo_length l i
    unfold aliveTo
    split <;> simp <;> omega
def aliveL (l : List Ce) : List Int := if cellsOk l then aliveTo l l.length else []
theorem aliveL_length (l : List Ce) : (aliveL l).length ≤ l.length := by
  unfold aliveL
  split
  · exact aliveTo_length l _
  · simp
theorem sAliveCells_ret (v : Value) (l : List Ce) (F : List Nat) (w : World) (h : CeS w v l F) (hn : l.length ≤ 1048576) : Ret Try.prog 16 [v] w (NewInts (aliveL l) w) := by
  obtain ⟨A, c, rfl, hl⟩ := h.slice
  refine enter Try.func16 rfl Try.ntmps16 rfl rfl ?_
  repeat (first
    | (refine idWO ?_
       first
       | refine WO_simple rfl ?_
       | (refine idG ?_
          first
          | refine WO_yes rfl rfl (by first | (with_reducible rfl) | decide) ?_
          | refine WO_no rfl rfl (by first | (with_reducible rfl) | decide) ?_
          | refine WO_noU rfl rfl ?_)
       | (refine idFA ?_
          first
          | refine WO_fieldAddr0 rfl rfl ?_
          | refine WO_fieldAddr rfl rfl ?_)
       | (refine idLd ?_
          first
          | refine WO_loadB rfl (by assumption) (by rfl) ?_
          | refine WO_load1 rfl (by assumption) ?_)
       | (refine idPk ?_
          first
          | refine WO_p (q_pickT rfl (by first | (with_reducible rfl) | decide) rfl) ?_
          | refine WO_p (q_pickF rfl (by first | (with_reducible rfl) | decide) rfl) ?_)
       | (refine idBi ?_
          first
          | refine WO_lenSl rfl ?_
          | refine WO_lenStr rfl ?_)
       | (refine idBo ?_
          first
          | refine WO_add rfl rfl (by omega) ?_
          | refine WO_sub rfl rfl (by omega) ?_
          | refine WO_mul rfl rfl (by omega) ?_
          | refine WO_rem rfl rfl (by omega) (by omega) ?_
          | refine WO_quo rfl rfl (by omega) (by omega) (by omega) ?_
          | refine WO_p (q_neBool rfl rfl) ?_
          | refine WO_p (q_eqBool rfl rfl) ?_)
       | (refine idCv ?_; refine WO_p (q_convert rfl (wrap_i64_in ⟨by omega, by omega⟩)) ?_)
       | (refine idBuild ?_; refine WO_p (q_build rfl (by rfl) (by simp only [fillS, List.set_cons_zero, List.set_cons_succ]; rfl)) ?_)
       | refine WO_nil ?_)
    | (refine idAt ?_
       first
       | refine at_next ?_
       | refine at_block ?_
       | refine at_next_exit ?_
       | refine at_next_ret ?_
       | refine at_block_exit ?_
       | refine at_block_other rfl ?_
       | refine at_block_ret ?_
       | refine at_loop_exit ?_
       | refine at_loop_ret ?_)
    | (refine idW ?_
       first
       | refine W_seq ?_
       | refine W_region ?_
       | refine W_block ?_
       | refine W_skip ?_
       | refine W_exit ?_
       | refine W_ret ?_
       | refine W_condT rfl (by first | (with_reducible rfl) | decide) ?_
       | refine W_condF rfl (by first | (with_reducible rfl) | decide) ?_))
  refine WO_build0 (e := 3) (k := 1) fun w0 hb0 e0 z0 => ?_
  have hown0 := owns_empty (B := w.heap.size) (k := 1) hb0 (Nat.le_refl _)
  repeat (first
    | (refine idWO ?_
       first
       | refine WO_simple rfl ?_
       | (refine idG ?_
          first
          | refine WO_yes rfl rfl (by first | (with_reducible rfl) | decide) ?_
          | refine WO_no rfl rfl (by first | (with_reducible rfl) | decide) ?_
          | refine WO_noU rfl rfl ?_)
       | (refine idFA ?_
          first
          | refine WO_fieldAddr0 rfl rfl ?_
          | refine WO_fieldAddr rfl rfl ?_)
       | (refine idLd ?_
          first
          | refine WO_loadB rfl (by assumption) (by rfl) ?_
          | refine WO_load1 rfl (by assumption) ?_)
       | (refine idPk ?_
          first
          | refine WO_p (q_pickT rfl (by first | (with_reducible rfl) | decide) rfl) ?_
          | refine WO_p (q_pickF rfl (by first | (with_reducible rfl) | decide) rfl) ?_)
       | (refine idBi ?_
          first
          | refine WO_lenSl rfl ?_
          | refine WO_lenStr rfl ?_)
       | (refine idBo ?_
          first
          | refine WO_add rfl rfl (by omega) ?_
          | refine WO_sub rfl rfl (by omega) ?_
          | refine WO_mul rfl rfl (by omega) ?_
          | refine WO_rem rfl rfl (by omega) (by omega) ?_
          | refine WO_quo rfl rfl (by omega) (by omega) (by omega) ?_
          | refine WO_p (q_neBool rfl rfl) ?_
          | refine WO_p (q_eqBool rfl rfl) ?_)
       | (refine idCv ?_; refine WO_p (q_convert rfl (wrap_i64_in ⟨by omega, by omega⟩)) ?_)
       | (refine idBuild ?_; refine WO_p (q_build rfl (by rfl) (by simp only [fillS, List.set_cons_zero, List.set_cons_succ]; rfl)) ?_)
       | refine WO_nil ?_)
    | (refine idAt ?_
       first
       | refine at_next ?_
       | refine at_block ?_
       | refine at_next_exit ?_
       | refine at_next_ret ?_
       | refine at_block_exit ?_
       | refine at_block_other rfl ?_
       | refine at_block_ret ?_
       | refine at_loop_exit ?_
       | refine at_loop_ret ?_)
    | (refine idW ?_
       first
       | refine W_seq ?_
       | refine W_region ?_
       | refine W_block ?_
       | refine W_skip ?_
       | refine W_exit ?_
       | refine W_ret ?_
       | refine W_condT rfl (by first | (with_reducible rfl) | decide) ?_
       | refine W_condF rfl (by first | (with_reducible rfl) | decide) ?_))
  refine W_loop (α := Nat × Value) (fun p => [(0, .slice A l.length c), (3, p.2), (4, .int .i64 (p.1 : Int))])
    (fun p w' => p.1 ≤ l.length ∧ (p.1 = 0 ∨ cellsOk l) ∧ Ext w w' ∧ w'.ownsRow w.heap.size 3 1 p.2 (aliveTo l p.1).length ((aliveTo l p.1).map (.int .i64))) (fun p => l.length - p.1) (0, _) (by repeat (first | exact True.intro | refine And.intro rfl ?_)) ⟨Nat.zero_le _, .inl rfl, e0, hown0⟩ ?_
  rintro ⟨i, vo⟩ w1 ⟨hi, h0, he, hown⟩
  simp only at hi h0 he hown ⊢
  have done : ∀ w2, Ext w1 w2 → (i = l.length ∨ ¬ cellsOk l) → NewInts (aliveL l) w vo w2 := fun w2 e2 hd => by
    have hrow : w2.ownsRow w.heap.size 3 1 vo (aliveL l).length ((aliveL l).map (.int .i64)) := by
      have hk := ownsRow_ext hown e2
      have : aliveL l = aliveTo l i := by
        unfold aliveL
        by_cases hc : cellsOk l
        · rw [if_pos hc]
          rcases hd with hd | hd
          · rw [hd]
          · exact absurd hc hd
        · rw [if_neg hc]
          rcases h0 with h0 | h0
          · rw [h0]; rfl
          · exact absurd h0 hc
      rw [this]
      exact hk
    obtain ⟨F', hF, hB, _⟩ := OwnI.of_row hrow rfl (by have := aliveL_length l; unfold maxI; omega)
    exact ⟨⟨F', hF, hB⟩, he.trans e2⟩
  have hal := aliveTo_length l i
  clear h0
  repeat' (first
    | (refine idWO ?_
       first
       | refine WO_simple rfl ?_
       | (refine idG ?_
          first
          | refine WO_yes rfl rfl (by first | (with_reducible rfl) | decide) ?_
          | refine WO_no rfl rfl (by first | (with_reducible rfl) | decide) ?_
          | refine WO_noU rfl rfl ?_
          | ((refine WO_split rfl rfl (fun c' hc' => ?_)); cases c' <;> (try simp only [decide_eq_true_eq, decide_eq_false_iff_not, beq_iff_eq, beq_eq_false_iff_ne, bne_iff_ne, bne_eq_false_iff_eq, ne_eq, gt_iff_lt, ge_iff_le, Int.not_lt, Int.not_le, Bool.not_eq_true', Bool.not_eq_false', Bool.not_true, Bool.not_false, reduceCtorEq, Decidable.not_not, not_true_eq_false, Bool.true_eq_false, Bool.false_eq_true] at hc') <;> (try (exfalso; omega))))
       | (refine idFA ?_
          first
          | refine WO_fieldAddr0 rfl rfl ?_
          | refine WO_fieldAddr rfl rfl ?_)
       | (refine idLd ?_
          first
          | refine WO_loadB rfl (by assumption) (by rfl) ?_
          | refine WO_load1 rfl (by assumption) ?_)
       | (refine idPk ?_
          first
          | refine WO_p (q_pickT rfl (by first | (with_reducible rfl) | decide) rfl) ?_
          | refine WO_p (q_pickF rfl (by first | (with_reducible rfl) | decide) rfl) ?_)
       | (refine idBi ?_
          first
          | refine WO_lenSl rfl ?_
          | refine WO_lenStr rfl ?_)
       | (refine idBo ?_
          first
          | refine WO_add rfl rfl (by omega) ?_
          | refine WO_sub rfl rfl (by omega) ?_
          | refine WO_mul rfl rfl (by omega) ?_
          | refine WO_rem rfl rfl (by omega) (by omega) ?_
          | refine WO_quo rfl rfl (by omega) (by omega) (by omega) ?_
          | refine WO_p (q_neBool rfl rfl) ?_
          | refine WO_p (q_eqBool rfl rfl) ?_)
       | (refine idCv ?_; refine WO_p (q_convert rfl (wrap_i64_in ⟨by omega, by omega⟩)) ?_)
       | (refine idBuild ?_; refine WO_p (q_build rfl (by rfl) (by simp only [fillS, List.set_cons_zero, List.set_cons_succ]; rfl)) ?_)
       | refine WO_nil ?_)
    | (refine idAt ?_
       first
       | refine at_next ?_
       | refine at_block ?_
       | refine at_next_exit ?_
       | refine at_next_ret ?_
       | refine at_block_exit ?_
       | refine at_block_other rfl ?_
       | refine at_block_ret ?_
       | refine at_loop_exit ?_
       | refine at_loop_ret ?_)
    | (refine idW ?_
       first
       | refine W_seq ?_
       | refine W_region ?_
       | refine W_block ?_
       | refine W_skip ?_
       | refine W_exit ?_
       | refine W_ret ?_
       | refine W_condT rfl (by first | (with_reducible rfl) | decide) ?_
       | refine W_condF rfl (by first | (with_reducible rfl) | decide) ?_
       | ((refine W_cond rfl (fun hc' => ?_) (fun hc' => ?_)) <;> (try simp only [decide_eq_true_eq, decide_eq_false_iff_not, beq_iff_eq, beq_eq_false_iff_ne, bne_iff_ne, bne_eq_false_iff_eq, ne_eq, gt_iff_lt, ge_iff_le, Int.not_lt, Int.not_le, Bool.not_eq_true', Bool.not_eq_false', Bool.not_true, Bool.not_false, reduceCtorEq, Decidable.not_not, not_true_eq_false, Bool.true_eq_false, Bool.false_eq_true] at hc') <;> (try (exfalso; omega)))))
  · exact at_ret1 rfl rfl (done w1 (Ext.refl _) (.inl (by omega)))
  · have hlt : i < l.length := by omega
    refine WO_call rfl (sCellsValid_ret _ l F w1 (h.ext he)) ?_
    rintro r w2 ⟨rfl, e2⟩
    by_cases hok : cellsOk l
    · rw [decide_eq_true hok]
      obtain ⟨b, o, vs, Fs, rfl, _, c0, c1, c2, c3, hst, _⟩ := ces_at (h.ext (he.trans e2)) hlt
      clear hst c0 c2 c3
      repeat (first
        | (refine idWO ?_
           first
           | refine WO_simple rfl ?_
           | (refine idG ?_
              first
              | refine WO_yes rfl rfl (by first | (with_reducible rfl) | decide) ?_
              | refine WO_no rfl rfl (by first | (with_reducible rfl) | decide) ?_
              | refine WO_noU rfl rfl ?_)
           | (refine idFA ?_
              first
              | refine WO_fieldAddr0 rfl rfl ?_
              | refine WO_fieldAddr rfl rfl ?_)
           | (refine idLd ?_
              first
              | refine WO_loadB rfl (by assumption) (by rfl) ?_
              | refine WO_load1 rfl (by assumption) ?_)
           | (refine idPk ?_
              first
              | refine WO_p (q_pickT rfl (by first | (with_reducible rfl) | decide) rfl) ?_
              | refine WO_p (q_pickF rfl (by first | (with_reducible rfl) | decide) rfl) ?_)
           | (refine idBi ?_
              first
              | refine WO_lenSl rfl ?_
              | refine WO_lenStr rfl ?_)
           | (refine idBo ?_
              first
              | refine WO_add rfl rfl (by omega) ?_
              | refine WO_sub rfl rfl (by omega) ?_
              | refine WO_mul rfl rfl (by omega) ?_
              | refine WO_rem rfl rfl (by omega) (by omega) ?_
              | refine WO_quo rfl rfl (by omega) (by omega) (by omega) ?_
              | refine WO_p (q_neBool rfl rfl) ?_
              | refine WO_p (q_eqBool rfl rfl) ?_)
           | (refine idCv ?_; refine WO_p (q_convert rfl (wrap_i64_in ⟨by omega, by omega⟩)) ?_)
           | (refine idBuild ?_; refine WO_p (q_build rfl (by rfl) (by simp only [fillS, List.set_cons_zero, List.set_cons_succ]; rfl)) ?_)
           | refine WO_nil ?_)
        | (refine idAt ?_
           first
           | refine at_next ?_
           | refine at_block ?_
           | refine at_next_exit ?_
           | refine at_next_ret ?_
           | refine at_block_exit ?_
           | refine at_block_other rfl ?_
           | refine at_block_ret ?_
           | refine at_loop_exit ?_
           | refine at_loop_ret ?_)
        | (refine idW ?_
           first
           | refine W_seq ?_
           | refine W_region ?_
           | refine W_block ?_
           | refine W_skip ?_
           | refine W_exit ?_
           | refine W_ret ?_
           | refine W_condT rfl (by first | (with_reducible rfl) | decide) ?_
           | refine W_condF rfl (by first | (with_reducible rfl) | decide) ?_))
      refine WO_indexAddr rfl rfl rfl hlt ?_
      have hstep : ∀ (bl : Bool), l[i].al = bl → aliveTo l (i + 1) = aliveTo l i ++ (if bl then [(i : Int)] else []) := fun bl hb => by
        simp only [aliveTo, List.getElem?_eq_getElem hlt, Option.map_some, hb]
        cases bl <;> rfl
      repeat (first
        | (refine idWO ?_
           first
           | refine WO_simple rfl ?_
           | (refine idG ?_
              first
              | refine WO_yes rfl rfl (by first | (with_reducible rfl) | decide) ?_
              | refine WO_no rfl rfl (by first | (with_reducible rfl) | decide) ?_
              | refine WO_noU rfl rfl ?_)
           | (refine idFA ?_
              first
              | refine WO_fieldAddr0 rfl rfl ?_
              | refine WO_fieldAddr rfl rfl ?_)
           | (refine idLd ?_
              first
              | refine WO_loadB rfl (by assumption) (by rfl) ?_
              | refine WO_load1 rfl (by assumption) ?_)
           | (refine idPk ?_
              first
              | refine WO_p (q_pickT rfl (by first | (with_reducible rfl) | decide) rfl) ?_
              | refine WO_p (q_pickF rfl (by first | (with_reducible rfl) | decide) rfl) ?_)
           | (refine idBi ?_
              first
              | refine WO_lenSl rfl ?_
              | refine WO_lenStr rfl ?_)
           | (refine idBo ?_
              first
              | refine WO_add rfl rfl (by omega) ?_
              | refine WO_sub rfl rfl (by omega) ?_
              | refine WO_mul rfl rfl (by omega) ?_
              | refine WO_rem rfl rfl (by omega) (by omega) ?_
              | refine WO_quo rfl rfl (by omega) (by omega) (by omega) ?_
              | refine WO_p (q_neBool rfl rfl) ?_
              | refine WO_p (q_eqBool rfl rfl) ?_)
           | (refine idCv ?_; refine WO_p (q_convert rfl (wrap_i64_in ⟨by omega, by omega⟩)) ?_)
           | (refine idBuild ?_; refine WO_p (q_build rfl (by rfl) (by simp only [fillS, List.set_cons_zero, List.set_cons_succ]; rfl)) ?_)
           | refine WO_nil ?_)
        | (refine idAt ?_
           first
           | refine at_next ?_
           | refine at_block ?_
           | refine at_next_exit ?_
           | refine at_next_ret ?_
           | refine at_block_exit ?_
           | refine at_block_other rfl ?_
           | refine at_block_ret ?_
           | refine at_loop_exit ?_
           | refine at_loop_ret ?_)
        | (refine idW ?_
           first
           | refine W_seq ?_
           | refine W_region ?_
           | refine W_block ?_
           | refine W_skip ?_
           | refine W_exit ?_
           | refine W_ret ?_
           | refine W_condT rfl (by first | (with_reducible rfl) | decide) ?_
           | refine W_condF rfl (by first | (with_reducible rfl) | decide) ?_))
      cases hb : l[i].al
      · have hs := hstep _ hb
        repeat (first
          | (refine idWO ?_
             first
             | refine WO_simple rfl ?_
             | (refine idG ?_
                first
                | refine WO_yes rfl rfl (by first | (with_reducible rfl) | decide) ?_
                | refine WO_no rfl rfl (by first | (with_reducible rfl) | decide) ?_
                | refine WO_noU rfl rfl ?_)
             | (refine idFA ?_
                first
                | refine WO_fieldAddr0 rfl rfl ?_
                | refine WO_fieldAddr rfl rfl ?_)
             | (refine idLd ?_
                first
                | refine WO_loadB rfl (by assumption) (by rfl) ?_
                | refine WO_load1 rfl (by assumption) ?_)
             | (refine idPk ?_
                first
                | refine WO_p (q_pickT rfl (by first | (with_reducible rfl) | decide) rfl) ?_
                | refine WO_p (q_pickF rfl (by first | (with_reducible rfl) | decide) rfl) ?_)
             | (refine idBi ?_
                first
                | refine WO_lenSl rfl ?_
                | refine WO_lenStr rfl ?_)
             | (refine idBo ?_
                first
                | refine WO_add rfl rfl (by omega) ?_
                | refine WO_sub rfl rfl (by omega) ?_
                | refine WO_mul rfl rfl (by omega) ?_
                | refine WO_rem rfl rfl (by omega) (by omega) ?_
                | refine WO_quo rfl rfl (by omega) (by omega) (by omega) ?_
                | refine WO_p (q_neBool rfl rfl) ?_
                | refine WO_p (q_eqBool rfl rfl) ?_)
             | (refine idCv ?_; refine WO_p (q_convert rfl (wrap_i64_in ⟨by omega, by omega⟩)) ?_)
             | (refine idBuild ?_; refine WO_p (q_build rfl (by rfl) (by simp only [fillS, List.set_cons_zero, List.set_cons_succ]; rfl)) ?_)
             | refine WO_nil ?_)
          | (refine idAt ?_
             first
             | refine at_next ?_
             | refine at_block ?_
             | refine at_next_exit ?_
             | refine at_next_ret ?_
             | refine at_block_exit ?_
             | refine at_block_other rfl ?_
             | refine at_block_ret ?_
             | refine at_loop_exit ?_
             | refine at_loop_ret ?_)
          | (refine idW ?_
             first
             | refine W_seq ?_
             | refine W_region ?_
             | refine W_block ?_
             | refine W_skip ?_
             | refine W_exit ?_
             | refine W_ret ?_
             | refine W_condT rfl (by first | (with_reducible rfl) | decide) ?_
             | refine W_condF rfl (by first | (with_reducible rfl) | decide) ?_))
        refine at_loop (i + 1, vo) (by repeat (first | exact True.intro | refine And.intro rfl ?_)) ⟨hlt, .inr hok, he.trans e2, ?_⟩ (by simp only; omega)
        simp only
        rw [hs]
        simpa using ownsRow_ext hown e2
      · have hs := hstep _ hb
        repeat (first
          | (refine idWO ?_
             first
             | refine WO_simple rfl ?_
             | (refine idG ?_
                first
                | refine WO_yes rfl rfl (by first | (with_reducible rfl) | decide) ?_
                | refine WO_no rfl rfl (by first | (with_reducible rfl) | decide) ?_
                | refine WO_noU rfl rfl ?_)
             | (refine idFA ?_
                first
                | refine WO_fieldAddr0 rfl rfl ?_
                | refine WO_fieldAddr rfl rfl ?_)
             | (refine idLd ?_
                first
                | refine WO_loadB rfl (by assumption) (by rfl) ?_
                | refine WO_load1 rfl (by assumption) ?_)
             | (refine idPk ?_
                first
                | refine WO_p (q_pickT rfl (by first | (with_reducible rfl) | decide) rfl) ?_
                | refine WO_p (q_pickF rfl (by first | (with_reducible rfl) | decide) rfl) ?_)
             | (refine idBi ?_
                first
                | refine WO_lenSl rfl ?_
                | refine WO_lenStr rfl ?_)
             | (refine idBo ?_
                first
                | refine WO_add rfl rfl (by omega) ?_
                | refine WO_sub rfl rfl (by omega) ?_
                | refine WO_mul rfl rfl (by omega) ?_
                | refine WO_rem rfl rfl (by omega) (by omega) ?_
                | refine WO_quo rfl rfl (by omega) (by omega) (by omega) ?_
                | refine WO_p (q_neBool rfl rfl) ?_
                | refine WO_p (q_eqBool rfl rfl) ?_)
             | (refine idCv ?_; refine WO_p (q_convert rfl (wrap_i64_in ⟨by omega, by omega⟩)) ?_)
             | (refine idBuild ?_; refine WO_p (q_build rfl (by rfl) (by simp only [fillS, List.set_cons_zero, List.set_cons_succ]; rfl)) ?_)
             | refine WO_nil ?_)
          | (refine idAt ?_
             first
             | refine at_next ?_
             | refine at_block ?_
             | refine at_next_exit ?_
             | refine at_next_ret ?_
             | refine at_block_exit ?_
             | refine at_block_other rfl ?_
             | refine at_block_ret ?_
             | refine at_loop_exit ?_
             | refine at_loop_ret ?_)
          | (refine idW ?_
             first
             | refine W_seq ?_
             | refine W_region ?_
             | refine W_block ?_
             | refine W_skip ?_
             | refine W_exit ?_
             | refine W_ret ?_
             | refine W_condT rfl (by first | (with_reducible rfl) | decide) ?_
             | refine W_condF rfl (by first | (with_reducible rfl) | decide) ?_))
        have hown2 := ownsRow_ext hown e2
        refine WO_app1 (m := (aliveTo l i).length) rfl rfl one_int rfl hown2 (he.trans e2).size rfl (by omega) (by decide) fun v' w3 hown3 hg hat => ?_
        repeat (first
          | (refine idWO ?_
             first
             | refine WO_simple rfl ?_
             | (refine idG ?_
                first
                | refine WO_yes rfl rfl (by first | (with_reducible rfl) | decide) ?_
                | refine WO_no rfl rfl (by first | (with_reducible rfl) | decide) ?_
                | refine WO_noU rfl rfl ?_)
             | (refine idFA ?_
                first
                | refine WO_fieldAddr0 rfl rfl ?_
                | refine WO_fieldAddr rfl rfl ?_)
             | (refine idLd ?_
                first
                | refine WO_loadB rfl (by assumption) (by rfl) ?_
                | refine WO_load1 rfl (by assumption) ?_)
             | (refine idPk ?_
                first
                | refine WO_p (q_pickT rfl (by first | (with_reducible rfl) | decide) rfl) ?_
                | refine WO_p (q_pickF rfl (by first | (with_reducible rfl) | decide) rfl) ?_)
             | (refine idBi ?_
                first
                | refine WO_lenSl rfl ?_
                | refine WO_lenStr rfl ?_)
             | (refine idBo ?_
                first
                | refine WO_add rfl rfl (by omega) ?_
                | refine WO_sub rfl rfl (by omega) ?_
                | refine WO_mul rfl rfl (by omega) ?_
                | refine WO_rem rfl rfl (by omega) (by omega) ?_
                | refine WO_quo rfl rfl (by omega) (by omega) (by omega) ?_
                | refine WO_p (q_neBool rfl rfl) ?_
                | refine WO_p (q_eqBool rfl rfl) ?_)
             | (refine idCv ?_; refine WO_p (q_convert rfl (wrap_i64_in ⟨by omega, by omega⟩)) ?_)
             | (refine idBuild ?_; refine WO_p (q_build rfl (by rfl) (by simp only [fillS, List.set_cons_zero, List.set_cons_succ]; rfl)) ?_)
             | refine WO_nil ?_)
          | (refine idAt ?_
             first
             | refine at_next ?_
             | refine at_block ?_
             | refine at_next_exit ?_
             | refine at_next_ret ?_
             | refine at_block_exit ?_
             | refine at_block_other rfl ?_
             | refine at_block_ret ?_
             | refine at_loop_exit ?_
             | refine at_loop_ret ?_)
          | (refine idW ?_
             first
             | refine W_seq ?_
             | refine W_region ?_
             | refine W_block ?_
             | refine W_skip ?_
             | refine W_exit ?_
             | refine W_ret ?_
             | refine W_condT rfl (by first | (with_reducible rfl) | decide) ?_
             | refine W_condF rfl (by first | (with_reducible rfl) | decide) ?_))
        refine at_loop (i + 1, v') (by repeat (first | exact True.intro | refine And.intro rfl ?_)) ⟨hlt, .inr hok, grown_below (he.trans e2) hown2 hg (Nat.le_refl _), ?_⟩ (by simp only; omega)
        simp only
        rw [hs, if_pos rfl, List.length_append, List.map_append]
        exact hown3
    · rw [decide_eq_false hok]
      repeat (first
        | (refine idWO ?_
           first
           | refine WO_simple rfl ?_
           | (refine idG ?_
              first
              | refine WO_yes rfl rfl (by first | (with_reducible rfl) | decide) ?_
              | refine WO_no rfl rfl (by first | (with_reducible rfl) | decide) ?_
              | refine WO_noU rfl rfl ?_)
           | (refine idFA ?_
              first
              | refine WO_fieldAddr0 rfl rfl ?_
              | refine WO_fieldAddr rfl rfl ?_)
           | (refine idLd ?_
              first
              | refine WO_loadB rfl (by assumption) (by rfl) ?_
              | refine WO_load1 rfl (by assumption) ?_)
           | (refine idPk ?_
              first
              | refine WO_p (q_pickT rfl (by first | (with_reducible rfl) | decide) rfl) ?_
              | refine WO_p (q_pickF rfl (by first | (with_reducible rfl) | decide) rfl) ?_)
           | (refine idBi ?_
              first
              | refine WO_lenSl rfl ?_
              | refine WO_lenStr rfl ?_)
           | (refine idBo ?_
              first
              | refine WO_add rfl rfl (by omega) ?_
              | refine WO_sub rfl rfl (by omega) ?_
              | refine WO_mul rfl rfl (by omega) ?_
              | refine WO_rem rfl rfl (by omega) (by omega) ?_
              | refine WO_quo rfl rfl (by omega) (by omega) (by omega) ?_
              | refine WO_p (q_neBool rfl rfl) ?_
              | refine WO_p (q_eqBool rfl rfl) ?_)
           | (refine idCv ?_; refine WO_p (q_convert rfl (wrap_i64_in ⟨by omega, by omega⟩)) ?_)
           | (refine idBuild ?_; refine WO_p (q_build rfl (by rfl) (by simp only [fillS, List.set_cons_zero, List.set_cons_succ]; rfl)) ?_)
           | refine WO_nil ?_)
        | (refine idAt ?_
           first
           | refine at_next ?_
           | refine at_block ?_
           | refine at_next_exit ?_
           | refine at_next_ret ?_
           | refine at_block_exit ?_
           | refine at_block_other rfl ?_
           | refine at_block_ret ?_
           | refine at_loop_exit ?_
           | refine at_loop_ret ?_)
        | (refine idW ?_
           first
           | refine W_seq ?_
           | refine W_region ?_
           | refine W_block ?_
           | refine W_skip ?_
           | refine W_exit ?_
           | refine W_ret ?_
           | refine W_condT rfl (by first | (with_reducible rfl) | decide) ?_
           | refine W_condF rfl (by first | (with_reducible rfl) | decide) ?_))
      exact at_ret1 rfl rfl (done w2 e2 (.inr hok))
theorem AliveCells_ret (v : Value) (l : List Ce) (F : List Nat) (w : World) (h : CeS w v l F) (hn : l.length ≤ 1048576) : Ret Try.prog 17 [v] w (NewInts (aliveL l) w) := by
  obtain ⟨A, c, rfl, hl⟩ := h.slice
  refine enter Try.func17 rfl Try.ntmps17 rfl rfl ?_
  repeat (first
    | (refine idWO ?_
       first
       | refine WO_simple rfl ?_
       | (refine idG ?_
          first
          | refine WO_yes rfl rfl (by first | (with_reducible rfl) | decide) ?_
          | refine WO_no rfl rfl (by first | (with_reducible rfl) | decide) ?_
          | refine WO_noU rfl rfl ?_)
       | (refine idFA ?_
          first
          | refine WO_fieldAddr0 rfl rfl ?_
          | refine WO_fieldAddr rfl rfl ?_)
       | (refine idLd ?_
          first
          | refine WO_loadB rfl (by assumption) (by rfl) ?_
          | refine WO_load1 rfl (by assumption) ?_)
       | (refine idPk ?_
          first
          | refine WO_p (q_pickT rfl (by first | (with_reducible rfl) | decide) rfl) ?_
          | refine WO_p (q_pickF rfl (by first | (with_reducible rfl) | decide) rfl) ?_)
       | (refine idBi ?_
          first
          | refine WO_lenSl rfl ?_
          | refine WO_lenStr rfl ?_)
       | (refine idBo ?_
          first
          | refine WO_add rfl rfl (by omega) ?_
          | refine WO_sub rfl rfl (by omega) ?_
          | refine WO_mul rfl rfl (by omega) ?_
          | refine WO_rem rfl rfl (by omega) (by omega) ?_
          | refine WO_quo rfl rfl (by omega) (by omega) (by omega) ?_
          | refine WO_p (q_neBool rfl rfl) ?_
          | refine WO_p (q_eqBool rfl rfl) ?_)
       | (refine idCv ?_; refine WO_p (q_convert rfl (wrap_i64_in ⟨by omega, by omega⟩)) ?_)
       | (refine idBuild ?_; refine WO_p (q_build rfl (by rfl) (by simp only [fillS, List.set_cons_zero, List.set_cons_succ]; rfl)) ?_)
       | refine WO_nil ?_)
    | (refine idAt ?_
       first
       | refine at_next ?_
       | refine at_block ?_
       | refine at_next_exit ?_
       | refine at_next_ret ?_
       | refine at_block_exit ?_
       | refine at_block_other rfl ?_
       | refine at_block_ret ?_
       | refine at_loop_exit ?_
       | refine at_loop_ret ?_)
    | (refine idW ?_
       first
       | refine W_seq ?_
       | refine W_region ?_
       | refine W_block ?_
       | refine W_skip ?_
       | refine W_exit ?_
       | refine W_ret ?_
       | refine W_condT rfl (by first | (with_reducible rfl) | decide) ?_
       | refine W_condF rfl (by first | (with_reducible rfl) | decide) ?_))
  refine WO_call rfl (CellsValid_ret _ l F w h) ?_
  rintro r w0 ⟨rfl, e0⟩
  by_cases hok : cellsOk l
  · rw [decide_eq_true hok]
    have hAL : aliveL l = aliveTo l l.length := by unfold aliveL; rw [if_pos hok]
    repeat (first
      | (refine idWO ?_
         first
         | refine WO_simple rfl ?_
         | (refine idG ?_
            first
            | refine WO_yes rfl rfl (by first | (with_reducible rfl) | decide) ?_
            | refine WO_no rfl rfl (by first | (with_reducible rfl) | decide) ?_
            | refine WO_noU rfl rfl ?_)
         | (refine idFA ?_
            first
            | refine WO_fieldAddr0 rfl rfl ?_
            | refine WO_fieldAddr rfl rfl ?_)
         | (refine idLd ?_
            first
            | refine WO_loadB rfl (by assumption) (by rfl) ?_
            | refine WO_load1 rfl (by assumption) ?_)
         | (refine idPk ?_
            first
            | refine WO_p (q_pickT rfl (by first | (with_reducible rfl) | decide) rfl) ?_
            | refine WO_p (q_pickF rfl (by first | (with_reducible rfl) | decide) rfl) ?_)
         | (refine idBi ?_
            first
            | refine WO_lenSl rfl ?_
            | refine WO_lenStr rfl ?_)
         | (refine idBo ?_
            first
            | refine WO_add rfl rfl (by omega) ?_
            | refine WO_sub rfl rfl (by omega) ?_
            | refine WO_mul rfl rfl (by omega) ?_
            | refine WO_rem rfl rfl (by omega) (by omega) ?_
            | refine WO_quo rfl rfl (by omega) (by omega) (by omega) ?_
            | refine WO_p (q_neBool rfl rfl) ?_
            | refine WO_p (q_eqBool rfl rfl) ?_)
         | (refine idCv ?_; refine WO_p (q_convert rfl (wrap_i64_in ⟨by omega, by omega⟩)) ?_)
         | (refine idBuild ?_; refine WO_p (q_build rfl (by rfl) (by simp only [fillS, List.set_cons_zero, List.set_cons_succ]; rfl)) ?_)
         | refine WO_nil ?_)
      | (refine idAt ?_
         first
         | refine at_next ?_
         | refine at_block ?_
         | refine at_next_exit ?_
         | refine at_next_ret ?_
         | refine at_block_exit ?_
         | refine at_block_other rfl ?_
         | refine at_block_ret ?_
         | refine at_loop_exit ?_
         | refine at_loop_ret ?_)
      | (refine idW ?_
         first
         | refine W_seq ?_
         | refine W_region ?_
         | refine W_block ?_
         | refine W_skip ?_
         | refine W_exit ?_
         | refine W_ret ?_
         | refine W_condT rfl (by first | (with_reducible rfl) | decide) ?_
         | refine W_condF rfl (by first | (with_reducible rfl) | decide) ?_))
    refine W_loop (α := Nat × Value) (fun p => [(3, p.2), (9, .slice A l.length c), (10, .int .i64 (l.length : Int)), (11, .int .i64 (p.1 : Int))])
      (fun p w' => p.1 ≤ l.length ∧ Ext w w' ∧ w'.ownsRow w.heap.size 3 1 p.2 (aliveTo l p.1).length ((aliveTo l p.1).map (.int .i64))) (fun p => l.length - p.1) (0, _) (by repeat (first | exact True.intro | refine And.intro rfl ?_)) ⟨Nat.zero_le _, e0, World.ownsRow_nil _ _ _ _⟩ ?_
    rintro ⟨i, vo⟩ w1 ⟨hi, he, hown⟩
    simp only at hi he hown ⊢
    have hal := aliveTo_length l i
    repeat (first
      | (refine idWO ?_
         first
         | refine WO_simple rfl ?_
         | (refine idG ?_
            first
            | refine WO_yes rfl rfl (by first | (with_reducible rfl) | decide) ?_
            | refine WO_no rfl rfl (by first | (with_reducible rfl) | decide) ?_
            | refine WO_noU rfl rfl ?_)
         | (refine idFA ?_
            first
            | refine WO_fieldAddr0 rfl rfl ?_
            | refine WO_fieldAddr rfl rfl ?_)
         | (refine idLd ?_
            first
            | refine WO_loadB rfl (by assumption) (by rfl) ?_
            | refine WO_load1 rfl (by assumption) ?_)
         | (refine idPk ?_
            first
            | refine WO_p (q_pickT rfl (by first | (with_reducible rfl) | decide) rfl) ?_
            | refine WO_p (q_pickF rfl (by first | (with_reducible rfl) | decide) rfl) ?_)
         | (refine idBi ?_
            first
            | refine WO_lenSl rfl ?_
            | refine WO_lenStr rfl ?_)
         | (refine idBo ?_
            first
            | refine WO_add rfl rfl (by omega) ?_
            | refine WO_sub rfl rfl (by omega) ?_
            | refine WO_mul rfl rfl (by omega) ?_
            | refine WO_rem rfl rfl (by omega) (by omega) ?_
            | refine WO_quo rfl rfl (by omega) (by omega) (by omega) ?_
            | refine WO_p (q_neBool rfl rfl) ?_
            | refine WO_p (q_eqBool rfl rfl) ?_)
         | (refine idCv ?_; refine WO_p (q_convert rfl (wrap_i64_in ⟨by omega, by omega⟩)) ?_)
         | (refine idBuild ?_; refine WO_p (q_build rfl (by rfl) (by simp only [fillS, List.set_cons_zero, List.set_cons_succ]; rfl)) ?_)
         | refine WO_nil ?_)
      | (refine idAt ?_
         first
         | refine at_next ?_
         | refine at_block ?_
         | refine at_next_exit ?_
         | refine at_next_ret ?_
         | refine at_block_exit ?_
         | refine at_block_other rfl ?_
         | refine at_block_ret ?_
         | refine at_loop_exit ?_
         | refine at_loop_ret ?_)
      | (refine idW ?_
         first
         | refine W_seq ?_
         | refine W_region ?_
         | refine W_block ?_
         | refine W_skip ?_
         | refine W_exit ?_
         | refine W_ret ?_
         | refine W_condT rfl (by first | (with_reducible rfl) | decide) ?_
         | refine W_condF rfl (by first | (with_reducible rfl) | decide) ?_))
    refine W_cond rfl (fun hc => ?_) (fun hc => ?_)
    · have hlt : i < l.length := by simpa using hc
      obtain ⟨b, o, vs, Fs, rfl, _, c0, c1, c2, c3, hst, _⟩ := ces_at (h.ext he) hlt
      have hone : vs.oneCell' = true := by obtain ⟨_, _, rfl, _⟩ := hst.slice; rfl
      have hstep : ∀ (bl : Bool), l[i].al = bl → aliveTo l (i + 1) = aliveTo l i ++ (if bl then [(i : Int)] else []) := fun bl hb => by
        simp only [aliveTo, List.getElem?_eq_getElem hlt, Option.map_some, hb]
        cases bl <;> rfl
      repeat (first
        | (refine idWO ?_
           first
           | refine WO_simple rfl ?_
           | (refine idG ?_
              first
              | refine WO_yes rfl rfl (by first | (with_reducible rfl) | decide) ?_
              | refine WO_no rfl rfl (by first | (with_reducible rfl) | decide) ?_
              | refine WO_noU rfl rfl ?_)
           | (refine idFA ?_
              first
              | refine WO_fieldAddr0 rfl rfl ?_
              | refine WO_fieldAddr rfl rfl ?_)
           | (refine idLd ?_
              first
              | refine WO_loadB rfl (by assumption) (by rfl) ?_
              | refine WO_load1 rfl (by assumption) ?_)
           | (refine idPk ?_
              first
              | refine WO_p (q_pickT rfl (by first | (with_reducible rfl) | decide) rfl) ?_
              | refine WO_p (q_pickF rfl (by first | (with_reducible rfl) | decide) rfl) ?_)
           | (refine idBi ?_
              first
              | refine WO_lenSl rfl ?_
              | refine WO_lenStr rfl ?_)
           | (refine idBo ?_
              first
              | refine WO_add rfl rfl (by omega) ?_
              | refine WO_sub rfl rfl (by omega) ?_
              | refine WO_mul rfl rfl (by omega) ?_
              | refine WO_rem rfl rfl (by omega) (by omega) ?_
              | refine WO_quo rfl rfl (by omega) (by omega) (by omega) ?_
              | refine WO_p (q_neBool rfl rfl) ?_
              | refine WO_p (q_eqBool rfl rfl) ?_)
           | (refine idCv ?_; refine WO_p (q_convert rfl (wrap_i64_in ⟨by omega, by omega⟩)) ?_)
           | (refine idBuild ?_; refine WO_p (q_build rfl (by rfl) (by simp only [fillS, List.set_cons_zero, List.set_cons_succ]; rfl)) ?_)
           | refine WO_nil ?_)
        | (refine idAt ?_
           first
           | refine at_next ?_
           | refine at_block ?_
           | refine at_next_exit ?_
           | refine at_next_ret ?_
           | refine at_block_exit ?_
           | refine at_block_other rfl ?_
           | refine at_block_ret ?_
           | refine at_loop_exit ?_
           | refine at_loop_ret ?_)
        | (refine idW ?_
           first
           | refine W_seq ?_
           | refine W_region ?_
           | refine W_block ?_
           | refine W_skip ?_
           | refine W_exit ?_
           | refine W_ret ?_
           | refine W_condT rfl (by first | (with_reducible rfl) | decide) ?_
           | refine W_condF rfl (by first | (with_reducible rfl) | decide) ?_))
      refine WO_indexAddr rfl rfl rfl hlt ?_
      refine WO_loadS rfl rfl (four c0 c1 c2 c3) ?_
      refine WO_alloc fun w2 hs he2 hz2 => ?_
      repeat (first
        | (refine idWO ?_
           first
           | refine WO_simple rfl ?_
           | (refine idG ?_
              first
              | refine WO_yes rfl rfl (by first | (with_reducible rfl) | decide) ?_
              | refine WO_no rfl rfl (by first | (with_reducible rfl) | decide) ?_
              | refine WO_noU rfl rfl ?_)
           | (refine idFA ?_
              first
              | refine WO_fieldAddr0 rfl rfl ?_
              | refine WO_fieldAddr rfl rfl ?_)
           | (refine idLd ?_
              first
              | refine WO_loadB rfl (by assumption) (by rfl) ?_
              | refine WO_load1 rfl (by assumption) ?_)
           | (refine idPk ?_
              first
              | refine WO_p (q_pickT rfl (by first | (with_reducible rfl) | decide) rfl) ?_
              | refine WO_p (q_pickF rfl (by first | (with_reducible rfl) | decide) rfl) ?_)
           | (refine idBi ?_
              first
              | refine WO_lenSl rfl ?_
              | refine WO_lenStr rfl ?_)
           | (refine idBo ?_
              first
              | refine WO_add rfl rfl (by omega) ?_
              | refine WO_sub rfl rfl (by omega) ?_
              | refine WO_mul rfl rfl (by omega) ?_
              | refine WO_rem rfl rfl (by omega) (by omega) ?_
              | refine WO_quo rfl rfl (by omega) (by omega) (by omega) ?_
              | refine WO_p (q_neBool rfl rfl) ?_
              | refine WO_p (q_eqBool rfl rfl) ?_)
           | (refine idCv ?_; refine WO_p (q_convert rfl (wrap_i64_in ⟨by omega, by omega⟩)) ?_)
           | (refine idBuild ?_; refine WO_p (q_build rfl (by rfl) (by simp only [fillS, List.set_cons_zero, List.set_cons_succ]; rfl)) ?_)
           | refine WO_nil ?_)
        | (refine idAt ?_
           first
           | refine at_next ?_
           | refine at_block ?_
           | refine at_next_exit ?_
           | refine at_next_ret ?_
           | refine at_block_exit ?_
           | refine at_block_other rfl ?_
           | refine at_block_ret ?_
           | refine at_loop_exit ?_
           | refine at_loop_ret ?_)
        | (refine idW ?_
           first
           | refine W_seq ?_
           | refine W_region ?_
           | refine W_block ?_
           | refine W_skip ?_
           | refine W_exit ?_
           | refine W_ret ?_
           | refine W_condT rfl (by first | (with_reducible rfl) | decide) ?_
           | refine W_condF rfl (by first | (with_reducible rfl) | decide) ?_))
      refine WO_storeS (k := 4) (vs := [.int .i64 l[i].val, .bool l[i].al, .int .i64 l[i].nx, vs]) rfl rfl rfl (by intro v hv; simp at hv; rcases hv with rfl | rfl | rfl | rfl <;> first | rfl | exact hone) hs (by decide) fun w3 hs3 o3 => ?_
      replace hs3 : Blk w3 w1.heap.size [.int .i64 l[i].val, .bool l[i].al, .int .i64 l[i].nx, vs] _ := hs3
      have he3 : Ext w1 w3 := he2.only o3 (Nat.le_refl _)
      have hown3 := ownsRow_ext hown he3
      have he03 := he.trans he3
      clear c0 c1 c2 c3 hst hs
      repeat (first
        | (refine idWO ?_
           first
           | refine WO_simple rfl ?_
           | (refine idG ?_
              first
              | refine WO_yes rfl rfl (by first | (with_reducible rfl) | decide) ?_
              | refine WO_no rfl rfl (by first | (with_reducible rfl) | decide) ?_
              | refine WO_noU rfl rfl ?_)
           | (refine idFA ?_
              first
              | refine WO_fieldAddr0 rfl rfl ?_
              | refine WO_fieldAddr rfl rfl ?_)
           | (refine idLd ?_
              first
              | refine WO_loadB rfl (by assumption) (by rfl) ?_
              | refine WO_load1 rfl (by assumption) ?_)
           | (refine idPk ?_
              first
              | refine WO_p (q_pickT rfl (by first | (with_reducible rfl) | decide) rfl) ?_
              | refine WO_p (q_pickF rfl (by first | (with_reducible rfl) | decide) rfl) ?_)
           | (refine idBi ?_
              first
              | refine WO_lenSl rfl ?_
              | refine WO_lenStr rfl ?_)
           | (refine idBo ?_
              first
              | refine WO_add rfl rfl (by omega) ?_
              | refine WO_sub rfl rfl (by omega) ?_
              | refine WO_mul rfl rfl (by omega) ?_
              | refine WO_rem rfl rfl (by omega) (by omega) ?_
              | refine WO_quo rfl rfl (by omega) (by omega) (by omega) ?_
              | refine WO_p (q_neBool rfl rfl) ?_
              | refine WO_p (q_eqBool rfl rfl) ?_)
           | (refine idCv ?_; refine WO_p (q_convert rfl (wrap_i64_in ⟨by omega, by omega⟩)) ?_)
           | (refine idBuild ?_; refine WO_p (q_build rfl (by rfl) (by simp only [fillS, List.set_cons_zero, List.set_cons_succ]; rfl)) ?_)
           | refine WO_nil ?_)
        | (refine idAt ?_
           first
           | refine at_next ?_
           | refine at_block ?_
           | refine at_next_exit ?_
           | refine at_next_ret ?_
           | refine at_block_exit ?_
           | refine at_block_other rfl ?_
           | refine at_block_ret ?_
           | refine at_loop_exit ?_
           | refine at_loop_ret ?_)
        | (refine idW ?_
           first
           | refine W_seq ?_
           | refine W_region ?_
           | refine W_block ?_
           | refine W_skip ?_
           | refine W_exit ?_
           | refine W_ret ?_
           | refine W_condT rfl (by first | (with_reducible rfl) | decide) ?_
           | refine W_condF rfl (by first | (with_reducible rfl) | decide) ?_))
      cases hb : l[i].al
      · have hs := hstep _ hb
        repeat (first
          | (refine idWO ?_
             first
             | refine WO_simple rfl ?_
             | (refine idG ?_
                first
                | refine WO_yes rfl rfl (by first | (with_reducible rfl) | decide) ?_
                | refine WO_no rfl rfl (by first | (with_reducible rfl) | decide) ?_
                | refine WO_noU rfl rfl ?_)
             | (refine idFA ?_
                first
                | refine WO_fieldAddr0 rfl rfl ?_
                | refine WO_fieldAddr rfl rfl ?_)
             | (refine idLd ?_
                first
                | refine WO_loadB rfl (by assumption) (by rfl) ?_
                | refine WO_load1 rfl (by assumption) ?_)
             | (refine idPk ?_
                first
                | refine WO_p (q_pickT rfl (by first | (with_reducible rfl) | decide) rfl) ?_
                | refine WO_p (q_pickF rfl (by first | (with_reducible rfl) | decide) rfl) ?_)
             | (refine idBi ?_
                first
                | refine WO_lenSl rfl ?_
                | refine WO_lenStr rfl ?_)
             | (refine idBo ?_
                first
                | refine WO_add rfl rfl (by omega) ?_
                | refine WO_sub rfl rfl (by omega) ?_
                | refine WO_mul rfl rfl (by omega) ?_
                | refine WO_rem rfl rfl (by omega) (by omega) ?_
                | refine WO_quo rfl rfl (by omega) (by omega) (by omega) ?_
                | refine WO_p (q_neBool rfl rfl) ?_
                | refine WO_p (q_eqBool rfl rfl) ?_)
             | (refine idCv ?_; refine WO_p (q_convert rfl (wrap_i64_in ⟨by omega, by omega⟩)) ?_)
             | (refine idBuild ?_; refine WO_p (q_build rfl (by rfl) (by simp only [fillS, List.set_cons_zero, List.set_cons_succ]; rfl)) ?_)
             | refine WO_nil ?_)
          | (refine idAt ?_
             first
             | refine at_next ?_
             | refine at_block ?_
             | refine at_next_exit ?_
             | refine at_next_ret ?_
             | refine at_block_exit ?_
             | refine at_block_other rfl ?_
             | refine at_block_ret ?_
             | refine at_loop_exit ?_
             | refine at_loop_ret ?_)
          | (refine idW ?_
             first
             | refine W_seq ?_
             | refine W_region ?_
             | refine W_block ?_
             | refine W_skip ?_
             | refine W_exit ?_
             | refine W_ret ?_
             | refine W_condT rfl (by first | (with_reducible rfl) | decide) ?_
             | refine W_condF rfl (by first | (with_reducible rfl) | decide) ?_))
        refine at_loop (i + 1, vo) (by repeat (first | exact True.intro | refine And.intro rfl ?_)) ⟨hlt, he03, ?_⟩ (by simp only; omega)
        simp only
        rw [hs]
        simpa using hown3
      · have hs := hstep _ hb
        repeat (first
          | (refine idWO ?_
             first
             | refine WO_simple rfl ?_
             | (refine idG ?_
                first
                | refine WO_yes rfl rfl (by first | (with_reducible rfl) | decide) ?_
                | refine WO_no rfl rfl (by first | (with_reducible rfl) | decide) ?_
                | refine WO_noU rfl rfl ?_)
             | (refine idFA ?_
                first
                | refine WO_fieldAddr0 rfl rfl ?_
                | refine WO_fieldAddr rfl rfl ?_)
             | (refine idLd ?_
                first
                | refine WO_loadB rfl (by assumption) (by rfl) ?_
                | refine WO_load1 rfl (by assumption) ?_)
             | (refine idPk ?_
                first
                | refine WO_p (q_pickT rfl (by first | (with_reducible rfl) | decide) rfl) ?_
                | refine WO_p (q_pickF rfl (by first | (with_reducible rfl) | decide) rfl) ?_)
             | (refine idBi ?_
                first
                | refine WO_lenSl rfl ?_
                | refine WO_lenStr rfl ?_)
             | (refine idBo ?_
                first
                | refine WO_add rfl rfl (by omega) ?_
                | refine WO_sub rfl rfl (by omega) ?_
                | refine WO_mul rfl rfl (by omega) ?_
                | refine WO_rem rfl rfl (by omega) (by omega) ?_
                | refine WO_quo rfl rfl (by omega) (by omega) (by omega) ?_
                | refine WO_p (q_neBool rfl rfl) ?_
                | refine WO_p (q_eqBool rfl rfl) ?_)
             | (refine idCv ?_; refine WO_p (q_convert rfl (wrap_i64_in ⟨by omega, by omega⟩)) ?_)
             | (refine idBuild ?_; refine WO_p (q_build rfl (by rfl) (by simp only [fillS, List.set_cons_zero, List.set_cons_succ]; rfl)) ?_)
             | refine WO_nil ?_)
          | (refine idAt ?_
             first
             | refine at_next ?_
             | refine at_block ?_
             | refine at_next_exit ?_
             | refine at_next_ret ?_
             | refine at_block_exit ?_
             | refine at_block_other rfl ?_
             | refine at_block_ret ?_
             | refine at_loop_exit ?_
             | refine at_loop_ret ?_)
          | (refine idW ?_
             first
             | refine W_seq ?_
             | refine W_region ?_
             | refine W_block ?_
             | refine W_skip ?_
             | refine W_exit ?_
             | refine W_ret ?_
             | refine W_condT rfl (by first | (with_reducible rfl) | decide) ?_
             | refine W_condF rfl (by first | (with_reducible rfl) | decide) ?_))
        refine WO_app1 (m := (aliveTo l i).length) rfl rfl one_int rfl hown3 he03.size rfl (by omega) (by decide) fun v' w4 hown4 hg hat => ?_
        repeat (first
          | (refine idWO ?_
             first
             | refine WO_simple rfl ?_
             | (refine idG ?_
                first
                | refine WO_yes rfl rfl (by first | (with_reducible rfl) | decide) ?_
                | refine WO_no rfl rfl (by first | (with_reducible rfl) | decide) ?_
                | refine WO_noU rfl rfl ?_)
             | (refine idFA ?_
                first
                | refine WO_fieldAddr0 rfl rfl ?_
                | refine WO_fieldAddr rfl rfl ?_)
             | (refine idLd ?_
                first
                | refine WO_loadB rfl (by assumption) (by rfl) ?_
                | refine WO_load1 rfl (by assumption) ?_)
             | (refine idPk ?_
                first
                | refine WO_p (q_pickT rfl (by first | (with_reducible rfl) | decide) rfl) ?_
                | refine WO_p (q_pickF rfl (by first | (with_reducible rfl) | decide) rfl) ?_)
             | (refine idBi ?_
                first
                | refine WO_lenSl rfl ?_
                | refine WO_lenStr rfl ?_)
             | (refine idBo ?_
                first
                | refine WO_add rfl rfl (by omega) ?_
                | refine WO_sub rfl rfl (by omega) ?_
                | refine WO_mul rfl rfl (by omega) ?_
                | refine WO_rem rfl rfl (by omega) (by omega) ?_
                | refine WO_quo rfl rfl (by omega) (by omega) (by omega) ?_
                | refine WO_p (q_neBool rfl rfl) ?_
                | refine WO_p (q_eqBool rfl rfl) ?_)
             | (refine idCv ?_; refine WO_p (q_convert rfl (wrap_i64_in ⟨by omega, by omega⟩)) ?_)
             | (refine idBuild ?_; refine WO_p (q_build rfl (by rfl) (by simp only [fillS, List.set_cons_zero, List.set_cons_succ]; rfl)) ?_)
             | refine WO_nil ?_)
          | (refine idAt ?_
             first
             | refine at_next ?_
             | refine at_block ?_
             | refine at_next_exit ?_
             | refine at_next_ret ?_
             | refine at_block_exit ?_
             | refine at_block_other rfl ?_
             | refine at_block_ret ?_
             | refine at_loop_exit ?_
             | refine at_loop_ret ?_)
          | (refine idW ?_
             first
             | refine W_seq ?_
             | refine W_region ?_
             | refine W_block ?_
             | refine W_skip ?_
             | refine W_exit ?_
             | refine W_ret ?_
             | refine W_condT rfl (by first | (with_reducible rfl) | decide) ?_
             | refine W_condF rfl (by first | (with_reducible rfl) | decide) ?_))
        refine at_loop (i + 1, v') (by repeat (first | exact True.intro | refine And.intro rfl ?_)) ⟨hlt, grown_below he03 hown3 hg (Nat.le_refl _), ?_⟩ (by simp only; omega)
        simp only
        rw [hs, if_pos rfl, List.length_append, List.map_append]
        exact hown4
    · have hge : i = l.length := by simp at hc; omega
      subst hge
      rw [← hAL] at hown
      obtain ⟨F', hF, hB, _⟩ := OwnI.of_row hown rfl (by have := aliveL_length l; unfold maxI; omega)
      repeat (first
        | (refine idWO ?_
           first
           | refine WO_simple rfl ?_
           | (refine idG ?_
              first
              | refine WO_yes rfl rfl (by first | (with_reducible rfl) | decide) ?_
              | refine WO_no rfl rfl (by first | (with_reducible rfl) | decide) ?_
              | refine WO_noU rfl rfl ?_)
           | (refine idFA ?_
              first
              | refine WO_fieldAddr0 rfl rfl ?_
              | refine WO_fieldAddr rfl rfl ?_)
           | (refine idLd ?_
              first
              | refine WO_loadB rfl (by assumption) (by rfl) ?_
              | refine WO_load1 rfl (by assumption) ?_)
           | (refine idPk ?_
              first
              | refine WO_p (q_pickT rfl (by first | (with_reducible rfl) | decide) rfl) ?_
              | refine WO_p (q_pickF rfl (by first | (with_reducible rfl) | decide) rfl) ?_)
           | (refine idBi ?_
              first
              | refine WO_lenSl rfl ?_
              | refine WO_lenStr rfl ?_)
           | (refine idBo ?_
              first
              | refine WO_add rfl rfl (by omega) ?_
              | refine WO_sub rfl rfl (by omega) ?_
              | refine WO_mul rfl rfl (by omega) ?_
              | refine WO_rem rfl rfl (by omega) (by omega) ?_
              | refine WO_quo rfl rfl (by omega) (by omega) (by omega) ?_
              | refine WO_p (q_neBool rfl rfl) ?_
              | refine WO_p (q_eqBool rfl rfl) ?_)
           | (refine idCv ?_; refine WO_p (q_convert rfl (wrap_i64_in ⟨by omega, by omega⟩)) ?_)
           | (refine idBuild ?_; refine WO_p (q_build rfl (by rfl) (by simp only [fillS, List.set_cons_zero, List.set_cons_succ]; rfl)) ?_)
           | refine WO_nil ?_)
        | (refine idAt ?_
           first
           | refine at_next ?_
           | refine at_block ?_
           | refine at_next_exit ?_
           | refine at_next_ret ?_
           | refine at_block_exit ?_
           | refine at_block_other rfl ?_
           | refine at_block_ret ?_
           | refine at_loop_exit ?_
           | refine at_loop_ret ?_)
        | (refine idW ?_
           first
           | refine W_seq ?_
           | refine W_region ?_
           | refine W_block ?_
           | refine W_skip ?_
           | refine W_exit ?_
           | refine W_ret ?_
           | refine W_condT rfl (by first | (with_reducible rfl) | decide) ?_
           | refine W_condF rfl (by first | (with_reducible rfl) | decide) ?_))
      exact at_ret1 rfl rfl ⟨⟨F', hF, hB⟩, he⟩
  · rw [decide_eq_false hok]
    have hAL : aliveL l = [] := by unfold aliveL; rw [if_neg hok]
    repeat (first
      | (refine idWO ?_
         first
         | refine WO_simple rfl ?_
         | (refine idG ?_
            first
            | refine WO_yes rfl rfl (by first | (with_reducible rfl) | decide) ?_
            | refine WO_no rfl rfl (by first | (with_reducible rfl) | decide) ?_
            | refine WO_noU rfl rfl ?_)
         | (refine idFA ?_
            first
            | refine WO_fieldAddr0 rfl rfl ?_
            | refine WO_fieldAddr rfl rfl ?_)
         | (refine idLd ?_
            first
            | refine WO_loadB rfl (by assumption) (by rfl) ?_
            | refine WO_load1 rfl (by assumption) ?_)
         | (refine idPk ?_
            first
            | refine WO_p (q_pickT rfl (by first | (with_reducible rfl) | decide) rfl) ?_
            | refine WO_p (q_pickF rfl (by first | (with_reducible rfl) | decide) rfl) ?_)
         | (refine idBi ?_
            first
            | refine WO_lenSl rfl ?_
            | refine WO_lenStr rfl ?_)
         | (refine idBo ?_
            first
            | refine WO_add rfl rfl (by omega) ?_
            | refine WO_sub rfl rfl (by omega) ?_
            | refine WO_mul rfl rfl (by omega) ?_
            | refine WO_rem rfl rfl (by omega) (by omega) ?_
            | refine WO_quo rfl rfl (by omega) (by omega) (by omega) ?_
            | refine WO_p (q_neBool rfl rfl) ?_
            | refine WO_p (q_eqBool rfl rfl) ?_)
         | (refine idCv ?_; refine WO_p (q_convert rfl (wrap_i64_in ⟨by omega, by omega⟩)) ?_)
         | (refine idBuild ?_; refine WO_p (q_build rfl (by rfl) (by simp only [fillS, List.set_cons_zero, List.set_cons_succ]; rfl)) ?_)
         | refine WO_nil ?_)
      | (refine idAt ?_
         first
         | refine at_next ?_
         | refine at_block ?_
         | refine at_next_exit ?_
         | refine at_next_ret ?_
         | refine at_block_exit ?_
         | refine at_block_other rfl ?_
         | refine at_block_ret ?_
         | refine at_loop_exit ?_
         | refine at_loop_ret ?_)
      | (refine idW ?_
         first
         | refine W_seq ?_
         | refine W_region ?_
         | refine W_block ?_
         | refine W_skip ?_
         | refine W_exit ?_
         | refine W_ret ?_
         | refine W_condT rfl (by first | (with_reducible rfl) | decide) ?_
         | refine W_condF rfl (by first | (with_reducible rfl) | decide) ?_))
    refine at_ret1 rfl rfl ⟨⟨[], ?_, by simp⟩, e0⟩
    rw [hAL]
    exact ⟨none, 0, rfl, by simp, .inl ⟨rfl, rfl⟩⟩
theorem kAt_all (l : List Ce) (hn : cSize l ≤ 1048576) : 1 ≤ kAt 1 l l.length ∧ kAt 1 l l.length ≤ 4611686018427387904 := by
  unfold cSize at hn
  unfold kAt
  rw [List.take_length]
  omega
theorem FnExactAliveCells_ret {w : World} {v : Value} {x : List Ce × List Nat} (h : CeS w v x.1 x.2) : Ret Try.prog 4 [v] w fun r w' => r = .bool true ∧ Ext w w' := by
  obtain ⟨l, F⟩ := x
  simp only at h
  refine enter Try.func4 rfl Try.ntmps4 rfl rfl ?_
  repeat (first
    | (refine idWO ?_
       first
       | refine WO_simple rfl ?_
       | (refine idG ?_
          first
          | refine WO_yes rfl rfl (by first | (with_reducible rfl) | decide) ?_
          | refine WO_no rfl rfl (by first | (with_reducible rfl) | decide) ?_
          | refine WO_noU rfl rfl ?_)
       | (refine idFA ?_
          first
          | refine WO_fieldAddr0 rfl rfl ?_
          | refine WO_fieldAddr rfl rfl ?_)
       | (refine idLd ?_
          first
          | refine WO_loadB rfl (by assumption) (by rfl) ?_
          | refine WO_load1 rfl (by assumption) ?_)
       | (refine idPk ?_
          first
          | refine WO_p (q_pickT rfl (by first | (with_reducible rfl) | decide) rfl) ?_
          | refine WO_p (q_pickF rfl (by first | (with_reducible rfl) | decide) rfl) ?_)
       | (refine idBi ?_
          first
          | refine WO_lenSl rfl ?_
          | refine WO_lenStr rfl ?_)
       | (refine idBo ?_
          first
          | refine WO_add rfl rfl (by omega) ?_
          | refine WO_sub rfl rfl (by omega) ?_
          | refine WO_mul rfl rfl (by omega) ?_
          | refine WO_rem rfl rfl (by omega) (by omega) ?_
          | refine WO_quo rfl rfl (by omega) (by omega) (by omega) ?_
          | refine WO_p (q_neBool rfl rfl) ?_
          | refine WO_p (q_eqBool rfl rfl) ?_)
       | (refine idCv ?_; refine WO_p (q_convert rfl (wrap_i64_in ⟨by omega, by omega⟩)) ?_)
       | (refine idBuild ?_; refine WO_p (q_build rfl (by rfl) (by simp only [fillS, List.set_cons_zero, List.set_cons_succ]; rfl)) ?_)
       | refine WO_nil ?_)
    | (refine idAt ?_
       first
       | refine at_next ?_
       | refine at_block ?_
       | refine at_next_exit ?_
       | refine at_next_ret ?_
       | refine at_block_exit ?_
       | refine at_block_other rfl ?_
       | refine at_block_ret ?_
       | refine at_loop_exit ?_
       | refine at_loop_ret ?_)
    | (refine idW ?_
       first
       | refine W_seq ?_
       | refine W_region ?_
       | refine W_block ?_
       | refine W_skip ?_
       | refine W_exit ?_
       | refine W_ret ?_
       | refine W_condT rfl (by first | (with_reducible rfl) | decide) ?_
       | refine W_condF rfl (by first | (with_reducible rfl) | decide) ?_))
  refine WO_call rfl (szCellS_ret v l F 1048576 w h (by decide) (by decide)) ?_
  rintro r w1 ⟨⟨left, rfl, hle, hsz⟩, e1⟩
  repeat' (first
    | (refine idWO ?_
       first
       | refine WO_simple rfl ?_
       | (refine idG ?_
          first
          | refine WO_yes rfl rfl (by first | (with_reducible rfl) | decide) ?_
          | refine WO_no rfl rfl (by first | (with_reducible rfl) | decide) ?_
          | refine WO_noU rfl rfl ?_
          | ((refine WO_split rfl rfl (fun c' hc' => ?_)); cases c' <;> (try simp only [decide_eq_true_eq, decide_eq_false_iff_not, beq_iff_eq, beq_eq_false_iff_ne, bne_iff_ne, bne_eq_false_iff_eq, ne_eq, gt_iff_lt, ge_iff_le, Int.not_lt, Int.not_le, Bool.not_eq_true', Bool.not_eq_false', Bool.not_true, Bool.not_false, reduceCtorEq, Decidable.not_not, not_true_eq_false, Bool.true_eq_false, Bool.false_eq_true] at hc') <;> (try (exfalso; omega))))
       | (refine idFA ?_
          first
          | refine WO_fieldAddr0 rfl rfl ?_
          | refine WO_fieldAddr rfl rfl ?_)
       | (refine idLd ?_
          first
          | refine WO_loadB rfl (by assumption) (by rfl) ?_
          | refine WO_load1 rfl (by assumption) ?_)
       | (refine idPk ?_
          first
          | refine WO_p (q_pickT rfl (by first | (with_reducible rfl) | decide) rfl) ?_
          | refine WO_p (q_pickF rfl (by first | (with_reducible rfl) | decide) rfl) ?_)
       | (refine idBi ?_
          first
          | refine WO_lenSl rfl ?_
          | refine WO_lenStr rfl ?_)
       | (refine idBo ?_
          first
          | refine WO_add rfl rfl (by omega) ?_
          | refine WO_sub rfl rfl (by omega) ?_
          | refine WO_mul rfl rfl (by omega) ?_
          | refine WO_rem rfl rfl (by omega) (by omega) ?_
          | refine WO_quo rfl rfl (by omega) (by omega) (by omega) ?_
          | refine WO_p (q_neBool rfl rfl) ?_
          | refine WO_p (q_eqBool rfl rfl) ?_)
       | (refine idCv ?_; refine WO_p (q_convert rfl (wrap_i64_in ⟨by omega, by omega⟩)) ?_)
       | (refine idBuild ?_; refine WO_p (q_build rfl (by rfl) (by simp only [fillS, List.set_cons_zero, List.set_cons_succ]; rfl)) ?_)
       | refine WO_nil ?_)
    | (refine idAt ?_
       first
       | refine at_next ?_
       | refine at_block ?_
       | refine at_next_exit ?_
       | refine at_next_ret ?_
       | refine at_block_exit ?_
       | refine at_block_other rfl ?_
       | refine at_block_ret ?_
       | refine at_loop_exit ?_
       | refine at_loop_ret ?_)
    | (refine idW ?_
       first
       | refine W_seq ?_
       | refine W_region ?_
       | refine W_block ?_
       | refine W_skip ?_
       | refine W_exit ?_
       | refine W_ret ?_
       | refine W_condT rfl (by first | (with_reducible rfl) | decide) ?_
       | refine W_condF rfl (by first | (with_reducible rfl) | decide) ?_
       | ((refine W_cond rfl (fun hc' => ?_) (fun hc' => ?_)) <;> (try simp only [decide_eq_true_eq, decide_eq_false_iff_not, beq_iff_eq, beq_eq_false_iff_ne, bne_iff_ne, bne_eq_false_iff_eq, ne_eq, gt_iff_lt, ge_iff_le, Int.not_lt, Int.not_le, Bool.not_eq_true', Bool.not_eq_false', Bool.not_true, Bool.not_false, reduceCtorEq, Decidable.not_not, not_true_eq_false, Bool.true_eq_false, Bool.false_eq_true] at hc') <;> (try (exfalso; omega)))))
  · exact at_ret1 rfl rfl ⟨rfl, e1⟩
  have hn : cSize l ≤ 1048576 := by have := hsz (by omega); omega
  have hlen : l.length ≤ 1048576 := by unfold cSize at hn; omega
  have hal := aliveL_length l
  obtain ⟨hk1, hk2⟩ := kAt_all l hn
  clear hsz
  refine WO_call rfl (toCellS_ret v l F w1 (h.ext e1) hn) ?_
  rintro xr w2 ⟨⟨F2, h2, _, _⟩, e2⟩
  repeat (first
    | (refine idWO ?_
       first
       | refine WO_simple rfl ?_
       | (refine idG ?_
          first
          | refine WO_yes rfl rfl (by first | (with_reducible rfl) | decide) ?_
          | refine WO_no rfl rfl (by first | (with_reducible rfl) | decide) ?_
          | refine WO_noU rfl rfl ?_)
       | (refine idFA ?_
          first
          | refine WO_fieldAddr0 rfl rfl ?_
          | refine WO_fieldAddr rfl rfl ?_)
       | (refine idLd ?_
          first
          | refine WO_loadB rfl (by assumption) (by rfl) ?_
          | refine WO_load1 rfl (by assumption) ?_)
       | (refine idPk ?_
          first
          | refine WO_p (q_pickT rfl (by first | (with_reducible rfl) | decide) rfl) ?_
          | refine WO_p (q_pickF rfl (by first | (with_reducible rfl) | decide) rfl) ?_)
       | (refine idBi ?_
          first
          | refine WO_lenSl rfl ?_
          | refine WO_lenStr rfl ?_)
       | (refine idBo ?_
          first
          | refine WO_add rfl rfl (by omega) ?_
          | refine WO_sub rfl rfl (by omega) ?_
          | refine WO_mul rfl rfl (by omega) ?_
          | refine WO_rem rfl rfl (by omega) (by omega) ?_
          | refine WO_quo rfl rfl (by omega) (by omega) (by omega) ?_
          | refine WO_p (q_neBool rfl rfl) ?_
          | refine WO_p (q_eqBool rfl rfl) ?_)
       | (refine idCv ?_; refine WO_p (q_convert rfl (wrap_i64_in ⟨by omega, by omega⟩)) ?_)
       | (refine idBuild ?_; refine WO_p (q_build rfl (by rfl) (by simp only [fillS, List.set_cons_zero, List.set_cons_succ]; rfl)) ?_)
       | refine WO_nil ?_)
    | (refine idAt ?_
       first
       | refine at_next ?_
       | refine at_block ?_
       | refine at_next_exit ?_
       | refine at_next_ret ?_
       | refine at_block_exit ?_
       | refine at_block_other rfl ?_
       | refine at_block_ret ?_
       | refine at_loop_exit ?_
       | refine at_loop_ret ?_)
    | (refine idW ?_
       first
       | refine W_seq ?_
       | refine W_region ?_
       | refine W_block ?_
       | refine W_skip ?_
       | refine W_exit ?_
       | refine W_ret ?_
       | refine W_condT rfl (by first | (with_reducible rfl) | decide) ?_
       | refine W_condF rfl (by first | (with_reducible rfl) | decide) ?_))
  refine WO_call rfl (sAliveCells_ret xr l F2 w2 h2.ces hlen) ?_
  rintro a0 w3 ⟨⟨Fa, ha, hFa⟩, e3⟩
  have e13 := e1.trans (e2.trans e3)
  repeat (first
    | (refine idWO ?_
       first
       | refine WO_simple rfl ?_
       | (refine idG ?_
          first
          | refine WO_yes rfl rfl (by first | (with_reducible rfl) | decide) ?_
          | refine WO_no rfl rfl (by first | (with_reducible rfl) | decide) ?_
          | refine WO_noU rfl rfl ?_)
       | (refine idFA ?_
          first
          | refine WO_fieldAddr0 rfl rfl ?_
          | refine WO_fieldAddr rfl rfl ?_)
       | (refine idLd ?_
          first
          | refine WO_loadB rfl (by assumption) (by rfl) ?_
          | refine WO_load1 rfl (by assumption) ?_)
       | (refine idPk ?_
          first
          | refine WO_p (q_pickT rfl (by first | (with_reducible rfl) | decide) rfl) ?_
          | refine WO_p (q_pickF rfl (by first | (with_reducible rfl) | decide) rfl) ?_)
       | (refine idBi ?_
          first
          | refine WO_lenSl rfl ?_
          | refine WO_lenStr rfl ?_)
       | (refine idBo ?_
          first
          | refine WO_add rfl rfl (by omega) ?_
          | refine WO_sub rfl rfl (by omega) ?_
          | refine WO_mul rfl rfl (by omega) ?_
          | refine WO_rem rfl rfl (by omega) (by omega) ?_
          | refine WO_quo rfl rfl (by omega) (by omega) (by omega) ?_
          | refine WO_p (q_neBool rfl rfl) ?_
          | refine WO_p (q_eqBool rfl rfl) ?_)
       | (refine idCv ?_; refine WO_p (q_convert rfl (wrap_i64_in ⟨by omega, by omega⟩)) ?_)
       | (refine idBuild ?_; refine WO_p (q_build rfl (by rfl) (by simp only [fillS, List.set_cons_zero, List.set_cons_succ]; rfl)) ?_)
       | refine WO_nil ?_)
    | (refine idAt ?_
       first
       | refine at_next ?_
       | refine at_block ?_
       | refine at_next_exit ?_
       | refine at_next_ret ?_
       | refine at_block_exit ?_
       | refine at_block_other rfl ?_
       | refine at_block_ret ?_
       | refine at_loop_exit ?_
       | refine at_loop_ret ?_)
    | (refine idW ?_
       first
       | refine W_seq ?_
       | refine W_region ?_
       | refine W_block ?_
       | refine W_skip ?_
       | refine W_exit ?_
       | refine W_ret ?_
       | refine W_condT rfl (by first | (with_reducible rfl) | decide) ?_
       | refine W_condF rfl (by first | (with_reducible rfl) | decide) ?_))
  refine WO_call rfl (toCellS_ret v l F w3 (h.ext e13) hn) ?_
  rintro x0 w4 ⟨⟨F4, h4, hnd4, hF4⟩, e4⟩
  repeat (first
    | (refine idWO ?_
       first
       | refine WO_simple rfl ?_
       | (refine idG ?_
          first
          | refine WO_yes rfl rfl (by first | (with_reducible rfl) | decide) ?_
          | refine WO_no rfl rfl (by first | (with_reducible rfl) | decide) ?_
          | refine WO_noU rfl rfl ?_)
       | (refine idFA ?_
          first
          | refine WO_fieldAddr0 rfl rfl ?_
          | refine WO_fieldAddr rfl rfl ?_)
       | (refine idLd ?_
          first
          | refine WO_loadB rfl (by assumption) (by rfl) ?_
          | refine WO_load1 rfl (by assumption) ?_)
       | (refine idPk ?_
          first
          | refine WO_p (q_pickT rfl (by first | (with_reducible rfl) | decide) rfl) ?_
          | refine WO_p (q_pickF rfl (by first | (with_reducible rfl) | decide) rfl) ?_)
       | (refine idBi ?_
          first
          | refine WO_lenSl rfl ?_
          | refine WO_lenStr rfl ?_)
       | (refine idBo ?_
          first
          | refine WO_add rfl rfl (by omega) ?_
          | refine WO_sub rfl rfl (by omega) ?_
          | refine WO_mul rfl rfl (by omega) ?_
          | refine WO_rem rfl rfl (by omega) (by omega) ?_
          | refine WO_quo rfl rfl (by omega) (by omega) (by omega) ?_
          | refine WO_p (q_neBool rfl rfl) ?_
          | refine WO_p (q_eqBool rfl rfl) ?_)
       | (refine idCv ?_; refine WO_p (q_convert rfl (wrap_i64_in ⟨by omega, by omega⟩)) ?_)
       | (refine idBuild ?_; refine WO_p (q_build rfl (by rfl) (by simp only [fillS, List.set_cons_zero, List.set_cons_succ]; rfl)) ?_)
       | refine WO_nil ?_)
    | (refine idAt ?_
       first
       | refine at_next ?_
       | refine at_block ?_
       | refine at_next_exit ?_
       | refine at_next_ret ?_
       | refine at_block_exit ?_
       | refine at_block_other rfl ?_
       | refine at_block_ret ?_
       | refine at_loop_exit ?_
       | refine at_loop_ret ?_)
    | (refine idW ?_
       first
       | refine W_seq ?_
       | refine W_region ?_
       | refine W_block ?_
       | refine W_skip ?_
       | refine W_exit ?_
       | refine W_ret ?_
       | refine W_condT rfl (by first | (with_reducible rfl) | decide) ?_
       | refine W_condF rfl (by first | (with_reducible rfl) | decide) ?_))
  refine WO_call rfl (AliveCells_ret x0 l F4 w4 h4.ces hlen) ?_
  rintro g0 w5 ⟨⟨Fg, hg, hFg⟩, e5⟩
  repeat (first
    | (refine idWO ?_
       first
       | refine WO_simple rfl ?_
       | (refine idG ?_
          first
          | refine WO_yes rfl rfl (by first | (with_reducible rfl) | decide) ?_
          | refine WO_no rfl rfl (by first | (with_reducible rfl) | decide) ?_
          | refine WO_noU rfl rfl ?_)
       | (refine idFA ?_
          first
          | refine WO_fieldAddr0 rfl rfl ?_
          | refine WO_fieldAddr rfl rfl ?_)
       | (refine idLd ?_
          first
          | refine WO_loadB rfl (by assumption) (by rfl) ?_
          | refine WO_load1 rfl (by assumption) ?_)
       | (refine idPk ?_
          first
          | refine WO_p (q_pickT rfl (by first | (with_reducible rfl) | decide) rfl) ?_
          | refine WO_p (q_pickF rfl (by first | (with_reducible rfl) | decide) rfl) ?_)
       | (refine idBi ?_
          first
          | refine WO_lenSl rfl ?_
          | refine WO_lenStr rfl ?_)
       | (refine idBo ?_
          first
          | refine WO_add rfl rfl (by omega) ?_
          | refine WO_sub rfl rfl (by omega) ?_
          | refine WO_mul rfl rfl (by omega) ?_
          | refine WO_rem rfl rfl (by omega) (by omega) ?_
          | refine WO_quo rfl rfl (by omega) (by omega) (by omega) ?_
          | refine WO_p (q_neBool rfl rfl) ?_
          | refine WO_p (q_eqBool rfl rfl) ?_)
       | (refine idCv ?_; refine WO_p (q_convert rfl (wrap_i64_in ⟨by omega, by omega⟩)) ?_)
       | (refine idBuild ?_; refine WO_p (q_build rfl (by rfl) (by simp only [fillS, List.set_cons_zero, List.set_cons_succ]; rfl)) ?_)
       | refine WO_nil ?_)
    | (refine idAt ?_
       first
       | refine at_next ?_
       | refine at_block ?_
       | refine at_next_exit ?_
       | refine at_next_ret ?_
       | refine at_block_exit ?_
       | refine at_block_other rfl ?_
       | refine at_block_ret ?_
       | refine at_loop_exit ?_
       | refine at_loop_ret ?_)
    | (refine idW ?_
       first
       | refine W_seq ?_
       | refine W_region ?_
       | refine W_block ?_
       | refine W_skip ?_
       | refine W_exit ?_
       | refine W_ret ?_
       | refine W_condT rfl (by first | (with_reducible rfl) | decide) ?_
       | refine W_condF rfl (by first | (with_reducible rfl) | decide) ?_))
  refine WO_call rfl (eqIntS_ret g0 a0 _ _ Fg Fa w5 hg.int (ha.ext (e4.trans e5)).int) ?_
  rintro r w6 ⟨rfl, e6⟩
  rw [beq_self_eq_true]
  repeat (first
    | (refine idWO ?_
       first
       | refine WO_simple rfl ?_
       | (refine idG ?_
          first
          | refine WO_yes rfl rfl (by first | (with_reducible rfl) | decide) ?_
          | refine WO_no rfl rfl (by first | (with_reducible rfl) | decide) ?_
          | refine WO_noU rfl rfl ?_)
       | (refine idFA ?_
          first
          | refine WO_fieldAddr0 rfl rfl ?_
          | refine WO_fieldAddr rfl rfl ?_)
       | (refine idLd ?_
          first
          | refine WO_loadB rfl (by assumption) (by rfl) ?_
          | refine WO_load1 rfl (by assumption) ?_)
       | (refine idPk ?_
          first
          | refine WO_p (q_pickT rfl (by first | (with_reducible rfl) | decide) rfl) ?_
          | refine WO_p (q_pickF rfl (by first | (with_reducible rfl) | decide) rfl) ?_)
       | (refine idBi ?_
          first
          | refine WO_lenSl rfl ?_
          | refine WO_lenStr rfl ?_)
       | (refine idBo ?_
          first
          | refine WO_add rfl rfl (by omega) ?_
          | refine WO_sub rfl rfl (by omega) ?_
          | refine WO_mul rfl rfl (by omega) ?_
          | refine WO_rem rfl rfl (by omega) (by omega) ?_
          | refine WO_quo rfl rfl (by omega) (by omega) (by omega) ?_
          | refine WO_p (q_neBool rfl rfl) ?_
          | refine WO_p (q_eqBool rfl rfl) ?_)
       | (refine idCv ?_; refine WO_p (q_convert rfl (wrap_i64_in ⟨by omega, by omega⟩)) ?_)
       | (refine idBuild ?_; refine WO_p (q_build rfl (by rfl) (by simp only [fillS, List.set_cons_zero, List.set_cons_succ]; rfl)) ?_)
       | refine WO_nil ?_)
    | (refine idAt ?_
       first
       | refine at_next ?_
       | refine at_block ?_
       | refine at_next_exit ?_
       | refine at_next_ret ?_
       | refine at_block_exit ?_
       | refine at_block_other rfl ?_
       | refine at_block_ret ?_
       | refine at_loop_exit ?_
       | refine at_loop_ret ?_)
    | (refine idW ?_
       first
       | refine W_seq ?_
       | refine W_region ?_
       | refine W_block ?_
       | refine W_skip ?_
       | refine W_exit ?_
       | refine W_ret ?_
       | refine W_condT rfl (by first | (with_reducible rfl) | decide) ?_
       | refine W_condF rfl (by first | (with_reducible rfl) | decide) ?_))
  have e16 := e13.trans (e4.trans (e5.trans e6))
  refine WO_call rfl (toCellS_ret v l F w6 (h.ext e16) hn) ?_
  rintro x1 w7 ⟨⟨F7, h7, _, _⟩, e7⟩
  repeat (first
    | (refine idWO ?_
       first
       | refine WO_simple rfl ?_
       | (refine idG ?_
          first
          | refine WO_yes rfl rfl (by first | (with_reducible rfl) | decide) ?_
          | refine WO_no rfl rfl (by first | (with_reducible rfl) | decide) ?_
          | refine WO_noU rfl rfl ?_)
       | (refine idFA ?_
          first
          | refine WO_fieldAddr0 rfl rfl ?_
          | refine WO_fieldAddr rfl rfl ?_)
       | (refine idLd ?_
          first
          | refine WO_loadB rfl (by assumption) (by rfl) ?_
          | refine WO_load1 rfl (by assumption) ?_)
       | (refine idPk ?_
          first
          | refine WO_p (q_pickT rfl (by first | (with_reducible rfl) | decide) rfl) ?_
          | refine WO_p (q_pickF rfl (by first | (with_reducible rfl) | decide) rfl) ?_)
       | (refine idBi ?_
          first
          | refine WO_lenSl rfl ?_
          | refine WO_lenStr rfl ?_)
       | (refine idBo ?_
          first
          | refine WO_add rfl rfl (by omega) ?_
          | refine WO_sub rfl rfl (by omega) ?_
          | refine WO_mul rfl rfl (by omega) ?_
          | refine WO_rem rfl rfl (by omega) (by omega) ?_
          | refine WO_quo rfl rfl (by omega) (by omega) (by omega) ?_
          | refine WO_p (q_neBool rfl rfl) ?_
          | refine WO_p (q_eqBool rfl rfl) ?_)
       | (refine idCv ?_; refine WO_p (q_convert rfl (wrap_i64_in ⟨by omega, by omega⟩)) ?_)
       | (refine idBuild ?_; refine WO_p (q_build rfl (by rfl) (by simp only [fillS, List.set_cons_zero, List.set_cons_succ]; rfl)) ?_)
       | refine WO_nil ?_)
    | (refine idAt ?_
       first
       | refine at_next ?_
       | refine at_block ?_
       | refine at_next_exit ?_
       | refine at_next_ret ?_
       | refine at_block_exit ?_
       | refine at_block_other rfl ?_
       | refine at_block_ret ?_
       | refine at_loop_exit ?_
       | refine at_loop_ret ?_)
    | (refine idW ?_
       first
       | refine W_seq ?_
       | refine W_region ?_
       | refine W_block ?_
       | refine W_skip ?_
       | refine W_exit ?_
       | refine W_ret ?_
       | refine W_condT rfl (by first | (with_reducible rfl) | decide) ?_
       | refine W_condF rfl (by first | (with_reducible rfl) | decide) ?_))
  have e47 := e5.trans (e6.trans e7)
  refine WO_call rfl (eqCellS_ret x0 x1 l l F4 F7 w7 (h4.ext e47).ces h7.ces) ?_
  rintro r w8 ⟨rfl, e8⟩
  rw [decide_eq_true rfl]
  repeat (first
    | (refine idWO ?_
       first
       | refine WO_simple rfl ?_
       | (refine idG ?_
          first
          | refine WO_yes rfl rfl (by first | (with_reducible rfl) | decide) ?_
          | refine WO_no rfl rfl (by first | (with_reducible rfl) | decide) ?_
          | refine WO_noU rfl rfl ?_)
       | (refine idFA ?_
          first
          | refine WO_fieldAddr0 rfl rfl ?_
          | refine WO_fieldAddr rfl rfl ?_)
       | (refine idLd ?_
          first
          | refine WO_loadB rfl (by assumption) (by rfl) ?_
          | refine WO_load1 rfl (by assumption) ?_)
       | (refine idPk ?_
          first
          | refine WO_p (q_pickT rfl (by first | (with_reducible rfl) | decide) rfl) ?_
          | refine WO_p (q_pickF rfl (by first | (with_reducible rfl) | decide) rfl) ?_)
       | (refine idBi ?_
          first
          | refine WO_lenSl rfl ?_
          | refine WO_lenStr rfl ?_)
       | (refine idBo ?_
          first
          | refine WO_add rfl rfl (by omega) ?_
          | refine WO_sub rfl rfl (by omega) ?_
          | refine WO_mul rfl rfl (by omega) ?_
          | refine WO_rem rfl rfl (by omega) (by omega) ?_
          | refine WO_quo rfl rfl (by omega) (by omega) (by omega) ?_
          | refine WO_p (q_neBool rfl rfl) ?_
          | refine WO_p (q_eqBool rfl rfl) ?_)
       | (refine idCv ?_; refine WO_p (q_convert rfl (wrap_i64_in ⟨by omega, by omega⟩)) ?_)
       | (refine idBuild ?_; refine WO_p (q_build rfl (by rfl) (by simp only [fillS, List.set_cons_zero, List.set_cons_succ]; rfl)) ?_)
       | refine WO_nil ?_)
    | (refine idAt ?_
       first
       | refine at_next ?_
       | refine at_block ?_
       | refine at_next_exit ?_
       | refine at_next_ret ?_
       | refine at_block_exit ?_
       | refine at_block_other rfl ?_
       | refine at_block_ret ?_
       | refine at_loop_exit ?_
       | refine at_loop_ret ?_)
    | (refine idW ?_
       first
       | refine W_seq ?_
       | refine W_region ?_
       | refine W_block ?_
       | refine W_skip ?_
       | refine W_exit ?_
       | refine W_ret ?_
       | refine W_condT rfl (by first | (with_reducible rfl) | decide) ?_
       | refine W_condF rfl (by first | (with_reducible rfl) | decide) ?_))
  have e48 := e47.trans e8
  have e18 := e13.trans (e4.trans e48)
  refine WO_call rfl (markCellS_ret _ _ x0 l F4 1 w8 (h4.ext e48) hnd4 (by decide) hk2) ?_
  rintro r w9 ⟨rfl, h9, c9⟩
  have e19 : Ext w w9 := c9.ext_of e18 (fun b hb => by have := hF4 b hb; have := e13.size_le; omega)
  have ha9 : OwnI w9 a0 (aliveL l) Fa := (ha.ext (e4.trans e48)).chg c9 (fun b hb hm => by have := ha.lt b hb; have := hF4 b hm; omega)
  have hg9 : OwnI w9 g0 (aliveL l) Fg := (hg.ext (e6.trans (e7.trans e8))).chg c9 (fun b hb hm => by have := hFg b hb; have := h4.lt b hm; omega)
  repeat' (first
    | (refine idWO ?_
       first
       | refine WO_simple rfl ?_
       | (refine idG ?_
          first
          | refine WO_yes rfl rfl (by first | (with_reducible rfl) | decide) ?_
          | refine WO_no rfl rfl (by first | (with_reducible rfl) | decide) ?_
          | refine WO_noU rfl rfl ?_
          | ((refine WO_split rfl rfl (fun c' hc' => ?_)); cases c' <;> (try simp only [decide_eq_true_eq, decide_eq_false_iff_not, beq_iff_eq, beq_eq_false_iff_ne, bne_iff_ne, bne_eq_false_iff_eq, ne_eq, gt_iff_lt, ge_iff_le, Int.not_lt, Int.not_le, Bool.not_eq_true', Bool.not_eq_false', Bool.not_true, Bool.not_false, reduceCtorEq, Decidable.not_not, not_true_eq_false, Bool.true_eq_false, Bool.false_eq_true] at hc') <;> (try (exfalso; omega))))
       | (refine idFA ?_
          first
          | refine WO_fieldAddr0 rfl rfl ?_
          | refine WO_fieldAddr rfl rfl ?_)
       | (refine idLd ?_
          first
          | refine WO_loadB rfl (by assumption) (by rfl) ?_
          | refine WO_load1 rfl (by assumption) ?_)
       | (refine idPk ?_
          first
          | refine WO_p (q_pickT rfl (by first | (with_reducible rfl) | decide) rfl) ?_
          | refine WO_p (q_pickF rfl (by first | (with_reducible rfl) | decide) rfl) ?_)
       | (refine idBi ?_
          first
          | refine WO_lenSl rfl ?_
          | refine WO_lenStr rfl ?_)
       | (refine idBo ?_
          first
          | refine WO_add rfl rfl (by omega) ?_
          | refine WO_sub rfl rfl (by omega) ?_
          | refine WO_mul rfl rfl (by omega) ?_
          | refine WO_rem rfl rfl (by omega) (by omega) ?_
          | refine WO_quo rfl rfl (by omega) (by omega) (by omega) ?_
          | refine WO_p (q_neBool rfl rfl) ?_
          | refine WO_p (q_eqBool rfl rfl) ?_)
       | (refine idCv ?_; refine WO_p (q_convert rfl (wrap_i64_in ⟨by omega, by omega⟩)) ?_)
       | (refine idBuild ?_; refine WO_p (q_build rfl (by rfl) (by simp only [fillS, List.set_cons_zero, List.set_cons_succ]; rfl)) ?_)
       | refine WO_nil ?_)
    | (refine idAt ?_
       first
       | refine at_next ?_
       | refine at_block ?_
       | refine at_next_exit ?_
       | refine at_next_ret ?_
       | refine at_block_exit ?_
       | refine at_block_other rfl ?_
       | refine at_block_ret ?_
       | refine at_loop_exit ?_
       | refine at_loop_ret ?_)
    | (refine idW ?_
       first
       | refine W_seq ?_
       | refine W_region ?_
       | refine W_block ?_
       | refine W_skip ?_
       | refine W_exit ?_
       | refine W_ret ?_
       | refine W_condT rfl (by first | (with_reducible rfl) | decide) ?_
       | refine W_condF rfl (by first | (with_reducible rfl) | decide) ?_
       | ((refine W_cond rfl (fun hc' => ?_) (fun hc' => ?_)) <;> (try simp only [decide_eq_true_eq, decide_eq_false_iff_not, beq_iff_eq, beq_eq_false_iff_ne, bne_iff_ne, bne_eq_false_iff_eq, ne_eq, gt_iff_lt, ge_iff_le, Int.not_lt, Int.not_le, Bool.not_eq_true', Bool.not_eq_false', Bool.not_true, Bool.not_false, reduceCtorEq, Decidable.not_not, not_true_eq_false, Bool.true_eq_false, Bool.false_eq_true] at hc') <;> (try (exfalso; omega)))))
  refine WO_call rfl (eqIntS_ret g0 a0 _ _ Fg Fa w9 hg9.int ha9.int) ?_
  rintro r w10 ⟨rfl, e10⟩
  rw [beq_self_eq_true]
  repeat (first
    | (refine idWO ?_
       first
       | refine WO_simple rfl ?_
       | (refine idG ?_
          first
          | refine WO_yes rfl rfl (by first | (with_reducible rfl) | decide) ?_
          | refine WO_no rfl rfl (by first | (with_reducible rfl) | decide) ?_
          | refine WO_noU rfl rfl ?_)
       | (refine idFA ?_
          first
          | refine WO_fieldAddr0 rfl rfl ?_
          | refine WO_fieldAddr rfl rfl ?_)
       | (refine idLd ?_
          first
          | refine WO_loadB rfl (by assumption) (by rfl) ?_
          | refine WO_load1 rfl (by assumption) ?_)
       | (refine idPk ?_
          first
          | refine WO_p (q_pickT rfl (by first | (with_reducible rfl) | decide) rfl) ?_
          | refine WO_p (q_pickF rfl (by first | (with_reducible rfl) | decide) rfl) ?_)
       | (refine idBi ?_
          first
          | refine WO_lenSl rfl ?_
          | refine WO_lenStr rfl ?_)
       | (refine idBo ?_
          first
          | refine WO_add rfl rfl (by omega) ?_
          | refine WO_sub rfl rfl (by omega) ?_
          | refine WO_mul rfl rfl (by omega) ?_
          | refine WO_rem rfl rfl (by omega) (by omega) ?_
          | refine WO_quo rfl rfl (by omega) (by omega) (by omega) ?_
          | refine WO_p (q_neBool rfl rfl) ?_
          | refine WO_p (q_eqBool rfl rfl) ?_)
       | (refine idCv ?_; refine WO_p (q_convert rfl (wrap_i64_in ⟨by omega, by omega⟩)) ?_)
       | (refine idBuild ?_; refine WO_p (q_build rfl (by rfl) (by simp only [fillS, List.set_cons_zero, List.set_cons_succ]; rfl)) ?_)
       | refine WO_nil ?_)
    | (refine idAt ?_
       first
       | refine at_next ?_
       | refine at_block ?_
       | refine at_next_exit ?_
       | refine at_next_ret ?_
       | refine at_block_exit ?_
       | refine at_block_other rfl ?_
       | refine at_block_ret ?_
       | refine at_loop_exit ?_
       | refine at_loop_ret ?_)
    | (refine idW ?_
       first
       | refine W_seq ?_
       | refine W_region ?_
       | refine W_block ?_
       | refine W_skip ?_
       | refine W_exit ?_
       | refine W_ret ?_
       | refine W_condT rfl (by first | (with_reducible rfl) | decide) ?_
       | refine W_condF rfl (by first | (with_reducible rfl) | decide) ?_))
  refine WO_call rfl (markIntS_ret g0 _ Fg 1 w10 (hg9.ext e10) (by decide) (by omega)) ?_
  rintro r w11 ⟨rfl, hg11, c11⟩
  have e111 : Ext w w11 := c11.ext_of (e19.trans e10) (fun b hb => by have := hFg b hb; have := e13.size_le; have := e4.size_le; omega)
  repeat (first
    | (refine idWO ?_
       first
       | refine WO_simple rfl ?_
       | (refine idG ?_
          first
          | refine WO_yes rfl rfl (by first | (with_reducible rfl) | decide) ?_
          | refine WO_no rfl rfl (by first | (with_reducible rfl) | decide) ?_
          | refine WO_noU rfl rfl ?_)
       | (refine idFA ?_
          first
          | refine WO_fieldAddr0 rfl rfl ?_
          | refine WO_fieldAddr rfl rfl ?_)
       | (refine idLd ?_
          first
          | refine WO_loadB rfl (by assumption) (by rfl) ?_
          | refine WO_load1 rfl (by assumption) ?_)
       | (refine idPk ?_
          first
          | refine WO_p (q_pickT rfl (by first | (with_reducible rfl) | decide) rfl) ?_
          | refine WO_p (q_pickF rfl (by first | (with_reducible rfl) | decide) rfl) ?_)
       | (refine idBi ?_
          first
          | refine WO_lenSl rfl ?_
          | refine WO_lenStr rfl ?_)
       | (refine idBo ?_
          first
          | refine WO_add rfl rfl (by omega) ?_
          | refine WO_sub rfl rfl (by omega) ?_
          | refine WO_mul rfl rfl (by omega) ?_
          | refine WO_rem rfl rfl (by omega) (by omega) ?_
          | refine WO_quo rfl rfl (by omega) (by omega) (by omega) ?_
          | refine WO_p (q_neBool rfl rfl) ?_
          | refine WO_p (q_eqBool rfl rfl) ?_)
       | (refine idCv ?_; refine WO_p (q_convert rfl (wrap_i64_in ⟨by omega, by omega⟩)) ?_)
       | (refine idBuild ?_; refine WO_p (q_build rfl (by rfl) (by simp only [fillS, List.set_cons_zero, List.set_cons_succ]; rfl)) ?_)
       | refine WO_nil ?_)
    | (refine idAt ?_
       first
       | refine at_next ?_
       | refine at_block ?_
       | refine at_next_exit ?_
       | refine at_next_ret ?_
       | refine at_block_exit ?_
       | refine at_block_other rfl ?_
       | refine at_block_ret ?_
       | refine at_loop_exit ?_
       | refine at_loop_ret ?_)
    | (refine idW ?_
       first
       | refine W_seq ?_
       | refine W_region ?_
       | refine W_block ?_
       | refine W_skip ?_
       | refine W_exit ?_
       | refine W_ret ?_
       | refine W_condT rfl (by first | (with_reducible rfl) | decide) ?_
       | refine W_condF rfl (by first | (with_reducible rfl) | decide) ?_))
  refine WO_call rfl (heldIntS_ret g0 _ Fg 1 w11 hg11.int (by decide) (by omega)) ?_
  rintro r w12 ⟨rfl, e12⟩
  have ha11 : OwnI w11 a0 (aliveL l) Fa := (ha9.ext e10).chg c11 (fun b hb hm => by have := ha.lt b hb; have := hFg b hm; have := e4.size_le; omega)
  repeat' (first
    | (refine idWO ?_
       first
       | refine WO_simple rfl ?_
       | (refine idG ?_
          first
          | refine WO_yes rfl rfl (by first | (with_reducible rfl) | decide) ?_
          | refine WO_no rfl rfl (by first | (with_reducible rfl) | decide) ?_
          | refine WO_noU rfl rfl ?_
          | ((refine WO_split rfl rfl (fun c' hc' => ?_)); cases c' <;> (try simp only [decide_eq_true_eq, decide_eq_false_iff_not, beq_iff_eq, beq_eq_false_iff_ne, bne_iff_ne, bne_eq_false_iff_eq, ne_eq, gt_iff_lt, ge_iff_le, Int.not_lt, Int.not_le, Bool.not_eq_true', Bool.not_eq_false', Bool.not_true, Bool.not_false, reduceCtorEq, Decidable.not_not, not_true_eq_false, Bool.true_eq_false, Bool.false_eq_true] at hc') <;> (try (exfalso; omega))))
       | (refine idFA ?_
          first
          | refine WO_fieldAddr0 rfl rfl ?_
          | refine WO_fieldAddr rfl rfl ?_)
       | (refine idLd ?_
          first
          | refine WO_loadB rfl (by assumption) (by rfl) ?_
          | refine WO_load1 rfl (by assumption) ?_)
       | (refine idPk ?_
          first
          | refine WO_p (q_pickT rfl (by first | (with_reducible rfl) | decide) rfl) ?_
          | refine WO_p (q_pickF rfl (by first | (with_reducible rfl) | decide) rfl) ?_)
       | (refine idBi ?_
          first
          | refine WO_lenSl rfl ?_
          | refine WO_lenStr rfl ?_)
       | (refine idBo ?_
          first
          | refine WO_add rfl rfl (by omega) ?_
          | refine WO_sub rfl rfl (by omega) ?_
          | refine WO_mul rfl rfl (by omega) ?_
          | refine WO_rem rfl rfl (by omega) (by omega) ?_
          | refine WO_quo rfl rfl (by omega) (by omega) (by omega) ?_
          | refine WO_p (q_neBool rfl rfl) ?_
          | refine WO_p (q_eqBool rfl rfl) ?_)
       | (refine idCv ?_; refine WO_p (q_convert rfl (wrap_i64_in ⟨by omega, by omega⟩)) ?_)
       | (refine idBuild ?_; refine WO_p (q_build rfl (by rfl) (by simp only [fillS, List.set_cons_zero, List.set_cons_succ]; rfl)) ?_)
       | refine WO_nil ?_)
    | (refine idAt ?_
       first
       | refine at_next ?_
       | refine at_block ?_
       | refine at_next_exit ?_
       | refine at_next_ret ?_
       | refine at_block_exit ?_
       | refine at_block_other rfl ?_
       | refine at_block_ret ?_
       | refine at_loop_exit ?_
       | refine at_loop_ret ?_)
    | (refine idW ?_
       first
       | refine W_seq ?_
       | refine W_region ?_
       | refine W_block ?_
       | refine W_skip ?_
       | refine W_exit ?_
       | refine W_ret ?_
       | refine W_condT rfl (by first | (with_reducible rfl) | decide) ?_
       | refine W_condF rfl (by first | (with_reducible rfl) | decide) ?_
       | ((refine W_cond rfl (fun hc' => ?_) (fun hc' => ?_)) <;> (try simp only [decide_eq_true_eq, decide_eq_false_iff_not, beq_iff_eq, beq_eq_false_iff_ne, bne_iff_ne, bne_eq_false_iff_eq, ne_eq, gt_iff_lt, ge_iff_le, Int.not_lt, Int.not_le, Bool.not_eq_true', Bool.not_eq_false', Bool.not_true, Bool.not_false, reduceCtorEq, Decidable.not_not, not_true_eq_false, Bool.true_eq_false, Bool.false_eq_true] at hc') <;> (try (exfalso; omega)))))
  have e112 := e111.trans e12
  refine WO_call rfl (toCellS_ret v l F w12 (h.ext e112) hn) ?_
  rintro x2 w13 ⟨⟨F13, h13, _, _⟩, e13'⟩
  repeat (first
    | (refine idWO ?_
       first
       | refine WO_simple rfl ?_
       | (refine idG ?_
          first
          | refine WO_yes rfl rfl (by first | (with_reducible rfl) | decide) ?_
          | refine WO_no rfl rfl (by first | (with_reducible rfl) | decide) ?_
          | refine WO_noU rfl rfl ?_)
       | (refine idFA ?_
          first
          | refine WO_fieldAddr0 rfl rfl ?_
          | refine WO_fieldAddr rfl rfl ?_)
       | (refine idLd ?_
          first
          | refine WO_loadB rfl (by assumption) (by rfl) ?_
          | refine WO_load1 rfl (by assumption) ?_)
       | (refine idPk ?_
          first
          | refine WO_p (q_pickT rfl (by first | (with_reducible rfl) | decide) rfl) ?_
          | refine WO_p (q_pickF rfl (by first | (with_reducible rfl) | decide) rfl) ?_)
       | (refine idBi ?_
          first
          | refine WO_lenSl rfl ?_
          | refine WO_lenStr rfl ?_)
       | (refine idBo ?_
          first
          | refine WO_add rfl rfl (by omega) ?_
          | refine WO_sub rfl rfl (by omega) ?_
          | refine WO_mul rfl rfl (by omega) ?_
          | refine WO_rem rfl rfl (by omega) (by omega) ?_
          | refine WO_quo rfl rfl (by omega) (by omega) (by omega) ?_
          | refine WO_p (q_neBool rfl rfl) ?_
          | refine WO_p (q_eqBool rfl rfl) ?_)
       | (refine idCv ?_; refine WO_p (q_convert rfl (wrap_i64_in ⟨by omega, by omega⟩)) ?_)
       | (refine idBuild ?_; refine WO_p (q_build rfl (by rfl) (by simp only [fillS, List.set_cons_zero, List.set_cons_succ]; rfl)) ?_)
       | refine WO_nil ?_)
    | (refine idAt ?_
       first
       | refine at_next ?_
       | refine at_block ?_
       | refine at_next_exit ?_
       | refine at_next_ret ?_
       | refine at_block_exit ?_
       | refine at_block_other rfl ?_
       | refine at_block_ret ?_
       | refine at_loop_exit ?_
       | refine at_loop_ret ?_)
    | (refine idW ?_
       first
       | refine W_seq ?_
       | refine W_region ?_
       | refine W_block ?_
       | refine W_skip ?_
       | refine W_exit ?_
       | refine W_ret ?_
       | refine W_condT rfl (by first | (with_reducible rfl) | decide) ?_
       | refine W_condF rfl (by first | (with_reducible rfl) | decide) ?_))
  refine WO_call rfl (AliveCells_ret x2 l F13 w13 h13.ces hlen) ?_
  rintro g1 w14 ⟨⟨Fh, hh, _⟩, e14⟩
  have e1214 := e12.trans (e13'.trans e14)
  repeat (first
    | (refine idWO ?_
       first
       | refine WO_simple rfl ?_
       | (refine idG ?_
          first
          | refine WO_yes rfl rfl (by first | (with_reducible rfl) | decide) ?_
          | refine WO_no rfl rfl (by first | (with_reducible rfl) | decide) ?_
          | refine WO_noU rfl rfl ?_)
       | (refine idFA ?_
          first
          | refine WO_fieldAddr0 rfl rfl ?_
          | refine WO_fieldAddr rfl rfl ?_)
       | (refine idLd ?_
          first
          | refine WO_loadB rfl (by assumption) (by rfl) ?_
          | refine WO_load1 rfl (by assumption) ?_)
       | (refine idPk ?_
          first
          | refine WO_p (q_pickT rfl (by first | (with_reducible rfl) | decide) rfl) ?_
          | refine WO_p (q_pickF rfl (by first | (with_reducible rfl) | decide) rfl) ?_)
       | (refine idBi ?_
          first
          | refine WO_lenSl rfl ?_
          | refine WO_lenStr rfl ?_)
       | (refine idBo ?_
          first
          | refine WO_add rfl rfl (by omega) ?_
          | refine WO_sub rfl rfl (by omega) ?_
          | refine WO_mul rfl rfl (by omega) ?_
          | refine WO_rem rfl rfl (by omega) (by omega) ?_
          | refine WO_quo rfl rfl (by omega) (by omega) (by omega) ?_
          | refine WO_p (q_neBool rfl rfl) ?_
          | refine WO_p (q_eqBool rfl rfl) ?_)
       | (refine idCv ?_; refine WO_p (q_convert rfl (wrap_i64_in ⟨by omega, by omega⟩)) ?_)
       | (refine idBuild ?_; refine WO_p (q_build rfl (by rfl) (by simp only [fillS, List.set_cons_zero, List.set_cons_succ]; rfl)) ?_)
       | refine WO_nil ?_)
    | (refine idAt ?_
       first
       | refine at_next ?_
       | refine at_block ?_
       | refine at_next_exit ?_
       | refine at_next_ret ?_
       | refine at_block_exit ?_
       | refine at_block_other rfl ?_
       | refine at_block_ret ?_
       | refine at_loop_exit ?_
       | refine at_loop_ret ?_)
    | (refine idW ?_
       first
       | refine W_seq ?_
       | refine W_region ?_
       | refine W_block ?_
       | refine W_skip ?_
       | refine W_exit ?_
       | refine W_ret ?_
       | refine W_condT rfl (by first | (with_reducible rfl) | decide) ?_
       | refine W_condF rfl (by first | (with_reducible rfl) | decide) ?_))
  refine WO_call rfl (eqIntS_ret g1 a0 _ _ Fh Fa w14 hh.int (ha11.ext e1214).int) ?_
  rintro r w15 ⟨rfl, e15⟩
  rw [beq_self_eq_true]
  repeat (first
    | (refine idWO ?_
       first
       | refine WO_simple rfl ?_
       | (refine idG ?_
          first
          | refine WO_yes rfl rfl (by first | (with_reducible rfl) | decide) ?_
          | refine WO_no rfl rfl (by first | (with_reducible rfl) | decide) ?_
          | refine WO_noU rfl rfl ?_)
       | (refine idFA ?_
          first
          | refine WO_fieldAddr0 rfl rfl ?_
          | refine WO_fieldAddr rfl rfl ?_)
       | (refine idLd ?_
          first
          | refine WO_loadB rfl (by assumption) (by rfl) ?_
          | refine WO_load1 rfl (by assumption) ?_)
       | (refine idPk ?_
          first
          | refine WO_p (q_pickT rfl (by first | (with_reducible rfl) | decide) rfl) ?_
          | refine WO_p (q_pickF rfl (by first | (with_reducible rfl) | decide) rfl) ?_)
       | (refine idBi ?_
          first
          | refine WO_lenSl rfl ?_
          | refine WO_lenStr rfl ?_)
       | (refine idBo ?_
          first
          | refine WO_add rfl rfl (by omega) ?_
          | refine WO_sub rfl rfl (by omega) ?_
          | refine WO_mul rfl rfl (by omega) ?_
          | refine WO_rem rfl rfl (by omega) (by omega) ?_
          | refine WO_quo rfl rfl (by omega) (by omega) (by omega) ?_
          | refine WO_p (q_neBool rfl rfl) ?_
          | refine WO_p (q_eqBool rfl rfl) ?_)
       | (refine idCv ?_; refine WO_p (q_convert rfl (wrap_i64_in ⟨by omega, by omega⟩)) ?_)
       | (refine idBuild ?_; refine WO_p (q_build rfl (by rfl) (by simp only [fillS, List.set_cons_zero, List.set_cons_succ]; rfl)) ?_)
       | refine WO_nil ?_)
    | (refine idAt ?_
       first
       | refine at_next ?_
       | refine at_block ?_
       | refine at_next_exit ?_
       | refine at_next_ret ?_
       | refine at_block_exit ?_
       | refine at_block_other rfl ?_
       | refine at_block_ret ?_
       | refine at_loop_exit ?_
       | refine at_loop_ret ?_)
    | (refine idW ?_
       first
       | refine W_seq ?_
       | refine W_region ?_
       | refine W_block ?_
       | refine W_skip ?_
       | refine W_exit ?_
       | refine W_ret ?_
       | refine W_condT rfl (by first | (with_reducible rfl) | decide) ?_
       | refine W_condF rfl (by first | (with_reducible rfl) | decide) ?_))
  refine WO_call rfl (heldIntS_ret g0 _ Fg 1 w15 (hg11.ext (e1214.trans e15)).int (by decide) (by omega)) ?_
  rintro r w16 ⟨rfl, e16'⟩
  repeat' (first
    | (refine idWO ?_
       first
       | refine WO_simple rfl ?_
       | (refine idG ?_
          first
          | refine WO_yes rfl rfl (by first | (with_reducible rfl) | decide) ?_
          | refine WO_no rfl rfl (by first | (with_reducible rfl) | decide) ?_
          | refine WO_noU rfl rfl ?_
          | ((refine WO_split rfl rfl (fun c' hc' => ?_)); cases c' <;> (try simp only [decide_eq_true_eq, decide_eq_false_iff_not, beq_iff_eq, beq_eq_false_iff_ne, bne_iff_ne, bne_eq_false_iff_eq, ne_eq, gt_iff_lt, ge_iff_le, Int.not_lt, Int.not_le, Bool.not_eq_true', Bool.not_eq_false', Bool.not_true, Bool.not_false, reduceCtorEq, Decidable.not_not, not_true_eq_false, Bool.true_eq_false, Bool.false_eq_true] at hc') <;> (try (exfalso; omega))))
       | (refine idFA ?_
          first
          | refine WO_fieldAddr0 rfl rfl ?_
          | refine WO_fieldAddr rfl rfl ?_)
       | (refine idLd ?_
          first
          | refine WO_loadB rfl (by assumption) (by rfl) ?_
          | refine WO_load1 rfl (by assumption) ?_)
       | (refine idPk ?_
          first
          | refine WO_p (q_pickT rfl (by first | (with_reducible rfl) | decide) rfl) ?_
          | refine WO_p (q_pickF rfl (by first | (with_reducible rfl) | decide) rfl) ?_)
       | (refine idBi ?_
          first
          | refine WO_lenSl rfl ?_
          | refine WO_lenStr rfl ?_)
       | (refine idBo ?_
          first
          | refine WO_add rfl rfl (by omega) ?_
          | refine WO_sub rfl rfl (by omega) ?_
          | refine WO_mul rfl rfl (by omega) ?_
          | refine WO_rem rfl rfl (by omega) (by omega) ?_
          | refine WO_quo rfl rfl (by omega) (by omega) (by omega) ?_
          | refine WO_p (q_neBool rfl rfl) ?_
          | refine WO_p (q_eqBool rfl rfl) ?_)
       | (refine idCv ?_; refine WO_p (q_convert rfl (wrap_i64_in ⟨by omega, by omega⟩)) ?_)
       | (refine idBuild ?_; refine WO_p (q_build rfl (by rfl) (by simp only [fillS, List.set_cons_zero, List.set_cons_succ]; rfl)) ?_)
       | refine WO_nil ?_)
    | (refine idAt ?_
       first
       | refine at_next ?_
       | refine at_block ?_
       | refine at_next_exit ?_
       | refine at_next_ret ?_
       | refine at_block_exit ?_
       | refine at_block_other rfl ?_
       | refine at_block_ret ?_
       | refine at_loop_exit ?_
       | refine at_loop_ret ?_)
    | (refine idW ?_
       first
       | refine W_seq ?_
       | refine W_region ?_
       | refine W_block ?_
       | refine W_skip ?_
       | refine W_exit ?_
       | refine W_ret ?_
       | refine W_condT rfl (by first | (with_reducible rfl) | decide) ?_
       | refine W_condF rfl (by first | (with_reducible rfl) | decide) ?_
       | ((refine W_cond rfl (fun hc' => ?_) (fun hc' => ?_)) <;> (try simp only [decide_eq_true_eq, decide_eq_false_iff_not, beq_iff_eq, beq_eq_false_iff_ne, bne_iff_ne, bne_eq_false_iff_eq, ne_eq, gt_iff_lt, ge_iff_le, Int.not_lt, Int.not_le, Bool.not_eq_true', Bool.not_eq_false', Bool.not_true, Bool.not_false, reduceCtorEq, Decidable.not_not, not_true_eq_false, Bool.true_eq_false, Bool.false_eq_true] at hc') <;> (try (exfalso; omega)))))
  exact at_ret1 rfl rfl ⟨rfl, e111.trans (e1214.trans (e15.trans e16'))⟩
end Go.Proofs.Ytginfkgogickcaa
