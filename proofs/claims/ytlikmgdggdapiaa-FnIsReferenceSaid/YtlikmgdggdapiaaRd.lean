/-
  What is proved here: what the reference's source of drawn numbers (l17Open, pick, num) returns: numbers in range, and a position that goes up by one.
-/
import Derived.Test.YtlikmgdggdapiaaData
namespace Go.Proofs.Ytlikmgdggdapiaa
set_option linter.unusedVariables false
set_option linter.unusedSimpArgs false
set_option linter.unnecessarySimpa false
open Go.RowKit

/-- A slice of bytes, whatever they are, outside block rb. -/
def ByS (w : World) (v : Value) (rb : Nat) : Prop :=
  ∃ A n c, v = .slice A n c ∧ n ≤ c ∧ n ≤ 9223372036854775807 ∧ (n = 0 ∨ ∃ b o, A = some ⟨b, o, none⟩ ∧ b ≠ rb ∧ ∀ i, i < n → ∃ x : Nat, x < 256 ∧ w.cell? ⟨b, o + i * 1, none⟩ = some (.int .u8 (x : Int)))
/-- A slice of bytes, whatever they are. -/
def ByD (w : World) (v : Value) : Prop :=
  ∃ A n c, v = .slice A n c ∧ n ≤ c ∧ n ≤ 9223372036854775807 ∧ (n = 0 ∨ ∃ b o, A = some ⟨b, o, none⟩ ∧ ∀ i, i < n → ∃ x : Nat, x < 256 ∧ w.cell? ⟨b, o + i * 1, none⟩ = some (.int .u8 (x : Int)))
theorem ByD.ext {w w' : World} {v : Value} (h : ByD w v) (he : Ext w w') : ByD w' v := by
  obtain ⟨A, n, c, rfl, hc, hn, h | ⟨b, o, rfl, hx⟩⟩ := h
  · exact ⟨A, n, c, rfl, hc, hn, .inl h⟩
  · refine ⟨_, n, c, rfl, hc, hn, .inr ⟨b, o, rfl, fun i hi => ?_⟩⟩
    obtain ⟨x, h1, h2⟩ := hx i hi
    exact ⟨x, h1, cell_ext h2 he⟩
theorem ByD.bys {w : World} {v : Value} (h : ByD w v) : ByS w v w.heap.size := by
  obtain ⟨A, n, c, rfl, hc, hn, h | ⟨b, o, rfl, hx⟩⟩ := h
  · exact ⟨A, n, c, rfl, hc, hn, .inl h⟩
  · rcases Nat.eq_zero_or_pos n with h0 | h0
    · exact ⟨_, n, c, rfl, hc, hn, .inl h0⟩
    · refine ⟨_, n, c, rfl, hc, hn, .inr ⟨b, o, rfl, ?_, hx⟩⟩
      obtain ⟨x, _, h2⟩ := hx 0 h0
      have := World.block_lt_of_cell? w _ h2
      simp only at this
      omega

/-- Block rb is a source of drawn numbers at position p. -/
def RdB (w : World) (rb p : Nat) : Prop := ∃ bv t, Blk w rb [bv, .int .i64 (p : Int)] t ∧ ByS w bv rb
theorem ByS.chg {w w' : World} {v : Value} {rb : Nat} {G : List Nat} (h : ByS w v rb) (k : Chg G w w') (hG : ∀ x ∈ G, x = rb ∨ w.heap.size ≤ x) : ByS w' v rb := by
  obtain ⟨A, n, c, rfl, hc, hn, h | ⟨b, o, rfl, hb, hx⟩⟩ := h
  · exact ⟨A, n, c, rfl, hc, hn, .inl h⟩
  · rcases Nat.eq_zero_or_pos n with h0 | h0
    · exact ⟨_, n, c, rfl, hc, hn, .inl h0⟩
    · refine ⟨_, n, c, rfl, hc, hn, .inr ⟨b, o, rfl, hb, fun i hi => ?_⟩⟩
      obtain ⟨x, h1, h2⟩ := hx i hi
      refine ⟨x, h1, cell_chg h2 k fun hm => ?_⟩
      rcases hG _ hm with e | e
      · exact hb e
      · have := World.block_lt_of_cell? w _ h2
        simp only at e this
        omega
theorem RdB.ext {w w' : World} {rb p : Nat} (h : RdB w rb p) (he : Ext w w') : RdB w' rb p := by
  obtain ⟨bv, t, hb, hy⟩ := h
  exact ⟨bv, t, hb.ext he, hy.chg (he.chg []) (by simp)⟩
theorem RdB.lt {w : World} {rb p : Nat} (h : RdB w rb p) : rb < w.heap.size := by
  obtain ⟨bv, t, hb, _⟩ := h
  exact hb.lt

theorem l17Open_ret (v : Value) (w : World) (hd : ByD w v) : Ret Try.prog 29 [v] w fun r w' => ∃ rb, r = .pointer (some ⟨rb, 0, none⟩) ∧ w.heap.size ≤ rb ∧ RdB w' rb 0 ∧ Ext w w' := by
  have h0 := hd.bys
  have h := h0
  obtain ⟨A, n, c, rfl, hc, hn, hx⟩ := h
  have fin : ∀ w' u t, Blk w' w.heap.size [u, .int .i64 0] t → Ext w w' → ByS w u w.heap.size → ∃ rb, Value.pointer (some ⟨w.heap.size, 0, none⟩) = .pointer (some ⟨rb, 0, none⟩) ∧ w.heap.size ≤ rb ∧ RdB w' rb 0 ∧ Ext w w' :=
    fun w' u t hb he hu => ⟨_, rfl, Nat.le_refl _, ⟨u, t, hb, hu.chg (he.chg []) (by simp)⟩, he⟩
  refine enter Try.func29 rfl Try.ntmps29 rfl rfl ?_
  repeat (first
    | (refine idWO ?_
       first
       | refine WO_simple rfl ?_
       | (refine idG ?_
          first
          | refine WO_yes rfl rfl (by first | (with_reducible rfl) | decide) ?_
          | refine WO_no rfl rfl (by first | (with_reducible rfl) | decide) ?_
          | refine WO_noU rfl rfl ?_)
       | (refine idFA ?_
          first
          | refine WO_fieldAddr0 rfl rfl ?_
          | refine WO_fieldAddr rfl rfl ?_)
       | (refine idLd ?_
          first
          | refine WO_loadB rfl (by assumption) (by rfl) ?_
          | refine WO_load1 rfl (by assumption) ?_)
       | (refine idPk ?_
          first
          | refine WO_p (q_pickT rfl (by first | (with_reducible rfl) | decide) rfl) ?_
          | refine WO_p (q_pickF rfl (by first | (with_reducible rfl) | decide) rfl) ?_)
       | (refine idBi ?_
          first
          | refine WO_lenSl rfl ?_
          | refine WO_lenStr rfl ?_)
       | (refine idBo ?_
          first
          | refine WO_add rfl rfl (by omega) ?_
          | refine WO_sub rfl rfl (by omega) ?_
          | refine WO_mul rfl rfl (by omega) ?_
          | refine WO_rem rfl rfl (by omega) (by omega) ?_
          | refine WO_quo rfl rfl (by omega) (by omega) (by omega) ?_
          | refine WO_p (q_neBool rfl rfl) ?_
          | refine WO_p (q_eqBool rfl rfl) ?_)
       | (refine idCv ?_; refine WO_p (q_convert rfl (wrap_i64_in ⟨by omega, by omega⟩)) ?_)
       | (refine idBuild ?_; refine WO_p (q_build rfl (by rfl) (by simp only [fillS, List.set_cons_zero, List.set_cons_succ]; rfl)) ?_)
       | refine WO_nil ?_)
    | (refine idAt ?_
       first
       | refine at_next ?_
       | refine at_block ?_
       | refine at_next_exit ?_
       | refine at_next_ret ?_
       | refine at_block_exit ?_
       | refine at_block_other rfl ?_
       | refine at_block_ret ?_
       | refine at_loop_exit ?_
       | refine at_loop_ret ?_)
    | (refine idW ?_
       first
       | refine W_seq ?_
       | refine W_region ?_
       | refine W_block ?_
       | refine W_skip ?_
       | refine W_exit ?_
       | refine W_ret ?_
       | refine W_condT rfl (by first | (with_reducible rfl) | decide) ?_
       | refine W_condF rfl (by first | (with_reducible rfl) | decide) ?_))
  refine W_cond rfl (fun hc' => ?_) (fun hc' => ?_)
  · have hgt : 2000 < n := by simp at hc'; omega
    repeat (first
      | (refine idWO ?_
         first
         | refine WO_simple rfl ?_
         | (refine idG ?_
            first
            | refine WO_yes rfl rfl (by first | (with_reducible rfl) | decide) ?_
            | refine WO_no rfl rfl (by first | (with_reducible rfl) | decide) ?_
            | refine WO_noU rfl rfl ?_)
         | (refine idFA ?_
            first
            | refine WO_fieldAddr0 rfl rfl ?_
            | refine WO_fieldAddr rfl rfl ?_)
         | (refine idLd ?_
            first
            | refine WO_loadB rfl (by assumption) (by rfl) ?_
            | refine WO_load1 rfl (by assumption) ?_)
         | (refine idPk ?_
            first
            | refine WO_p (q_pickT rfl (by first | (with_reducible rfl) | decide) rfl) ?_
            | refine WO_p (q_pickF rfl (by first | (with_reducible rfl) | decide) rfl) ?_)
         | (refine idBi ?_
            first
            | refine WO_lenSl rfl ?_
            | refine WO_lenStr rfl ?_)
         | (refine idBo ?_
            first
            | refine WO_add rfl rfl (by omega) ?_
            | refine WO_sub rfl rfl (by omega) ?_
            | refine WO_mul rfl rfl (by omega) ?_
            | refine WO_rem rfl rfl (by omega) (by omega) ?_
            | refine WO_quo rfl rfl (by omega) (by omega) (by omega) ?_
            | refine WO_p (q_neBool rfl rfl) ?_
            | refine WO_p (q_eqBool rfl rfl) ?_)
         | (refine idCv ?_; refine WO_p (q_convert rfl (wrap_i64_in ⟨by omega, by omega⟩)) ?_)
         | (refine idBuild ?_; refine WO_p (q_build rfl (by rfl) (by simp only [fillS, List.set_cons_zero, List.set_cons_succ]; rfl)) ?_)
         | refine WO_nil ?_)
      | (refine idAt ?_
         first
         | refine at_next ?_
         | refine at_block ?_
         | refine at_next_exit ?_
         | refine at_next_ret ?_
         | refine at_block_exit ?_
         | refine at_block_other rfl ?_
         | refine at_block_ret ?_
         | refine at_loop_exit ?_
         | refine at_loop_ret ?_)
      | (refine idW ?_
         first
         | refine W_seq ?_
         | refine W_region ?_
         | refine W_block ?_
         | refine W_skip ?_
         | refine W_exit ?_
         | refine W_ret ?_
         | refine W_condT rfl (by first | (with_reducible rfl) | decide) ?_
         | refine W_condF rfl (by first | (with_reducible rfl) | decide) ?_))
    refine WO_p (q_slTo (h := 2000) rfl rfl rfl (by omega)) ?_
    repeat (first
      | (refine idWO ?_
         first
         | refine WO_simple rfl ?_
         | (refine idG ?_
            first
            | refine WO_yes rfl rfl (by first | (with_reducible rfl) | decide) ?_
            | refine WO_no rfl rfl (by first | (with_reducible rfl) | decide) ?_
            | refine WO_noU rfl rfl ?_)
         | (refine idFA ?_
            first
            | refine WO_fieldAddr0 rfl rfl ?_
            | refine WO_fieldAddr rfl rfl ?_)
         | (refine idLd ?_
            first
            | refine WO_loadB rfl (by assumption) (by rfl) ?_
            | refine WO_load1 rfl (by assumption) ?_)
         | (refine idPk ?_
            first
            | refine WO_p (q_pickT rfl (by first | (with_reducible rfl) | decide) rfl) ?_
            | refine WO_p (q_pickF rfl (by first | (with_reducible rfl) | decide) rfl) ?_)
         | (refine idBi ?_
            first
            | refine WO_lenSl rfl ?_
            | refine WO_lenStr rfl ?_)
         | (refine idBo ?_
            first
            | refine WO_add rfl rfl (by omega) ?_
            | refine WO_sub rfl rfl (by omega) ?_
            | refine WO_mul rfl rfl (by omega) ?_
            | refine WO_rem rfl rfl (by omega) (by omega) ?_
            | refine WO_quo rfl rfl (by omega) (by omega) (by omega) ?_
            | refine WO_p (q_neBool rfl rfl) ?_
            | refine WO_p (q_eqBool rfl rfl) ?_)
         | (refine idCv ?_; refine WO_p (q_convert rfl (wrap_i64_in ⟨by omega, by omega⟩)) ?_)
         | (refine idBuild ?_; refine WO_p (q_build rfl (by rfl) (by simp only [fillS, List.set_cons_zero, List.set_cons_succ]; rfl)) ?_)
         | refine WO_nil ?_)
      | (refine idAt ?_
         first
         | refine at_next ?_
         | refine at_block ?_
         | refine at_next_exit ?_
         | refine at_next_ret ?_
         | refine at_block_exit ?_
         | refine at_block_other rfl ?_
         | refine at_block_ret ?_
         | refine at_loop_exit ?_
         | refine at_loop_ret ?_)
      | (refine idW ?_
         first
         | refine W_seq ?_
         | refine W_region ?_
         | refine W_block ?_
         | refine W_skip ?_
         | refine W_exit ?_
         | refine W_ret ?_
         | refine W_condT rfl (by first | (with_reducible rfl) | decide) ?_
         | refine W_condF rfl (by first | (with_reducible rfl) | decide) ?_))
    refine WO_box rfl fun w1 hb he hz => ?_
    repeat (first
      | (refine idWO ?_
         first
         | refine WO_simple rfl ?_
         | (refine idG ?_
            first
            | refine WO_yes rfl rfl (by first | (with_reducible rfl) | decide) ?_
            | refine WO_no rfl rfl (by first | (with_reducible rfl) | decide) ?_
            | refine WO_noU rfl rfl ?_)
         | (refine idFA ?_
            first
            | refine WO_fieldAddr0 rfl rfl ?_
            | refine WO_fieldAddr rfl rfl ?_)
         | (refine idLd ?_
            first
            | refine WO_loadB rfl (by assumption) (by rfl) ?_
            | refine WO_load1 rfl (by assumption) ?_)
         | (refine idPk ?_
            first
            | refine WO_p (q_pickT rfl (by first | (with_reducible rfl) | decide) rfl) ?_
            | refine WO_p (q_pickF rfl (by first | (with_reducible rfl) | decide) rfl) ?_)
         | (refine idBi ?_
            first
            | refine WO_lenSl rfl ?_
            | refine WO_lenStr rfl ?_)
         | (refine idBo ?_
            first
            | refine WO_add rfl rfl (by omega) ?_
            | refine WO_sub rfl rfl (by omega) ?_
            | refine WO_mul rfl rfl (by omega) ?_
            | refine WO_rem rfl rfl (by omega) (by omega) ?_
            | refine WO_quo rfl rfl (by omega) (by omega) (by omega) ?_
            | refine WO_p (q_neBool rfl rfl) ?_
            | refine WO_p (q_eqBool rfl rfl) ?_)
         | (refine idCv ?_; refine WO_p (q_convert rfl (wrap_i64_in ⟨by omega, by omega⟩)) ?_)
         | (refine idBuild ?_; refine WO_p (q_build rfl (by rfl) (by simp only [fillS, List.set_cons_zero, List.set_cons_succ]; rfl)) ?_)
         | refine WO_nil ?_)
      | (refine idAt ?_
         first
         | refine at_next ?_
         | refine at_block ?_
         | refine at_next_exit ?_
         | refine at_next_ret ?_
         | refine at_block_exit ?_
         | refine at_block_other rfl ?_
         | refine at_block_ret ?_
         | refine at_loop_exit ?_
         | refine at_loop_ret ?_)
      | (refine idW ?_
         first
         | refine W_seq ?_
         | refine W_region ?_
         | refine W_block ?_
         | refine W_skip ?_
         | refine W_exit ?_
         | refine W_ret ?_
         | refine W_condT rfl (by first | (with_reducible rfl) | decide) ?_
         | refine W_condF rfl (by first | (with_reducible rfl) | decide) ?_))
    refine at_ret1 rfl rfl (fin w1 _ _ hb he ⟨A, 2000, c, rfl, by omega, by omega, ?_⟩)
    rcases hx with hx | ⟨b, o, h1, h2, h3⟩
    · omega
    · exact .inr ⟨b, o, h1, h2, fun i hi => h3 i (by omega)⟩
  · repeat (first
      | (refine idWO ?_
         first
         | refine WO_simple rfl ?_
         | (refine idG ?_
            first
            | refine WO_yes rfl rfl (by first | (with_reducible rfl) | decide) ?_
            | refine WO_no rfl rfl (by first | (with_reducible rfl) | decide) ?_
            | refine WO_noU rfl rfl ?_)
         | (refine idFA ?_
            first
            | refine WO_fieldAddr0 rfl rfl ?_
            | refine WO_fieldAddr rfl rfl ?_)
         | (refine idLd ?_
            first
            | refine WO_loadB rfl (by assumption) (by rfl) ?_
            | refine WO_load1 rfl (by assumption) ?_)
         | (refine idPk ?_
            first
            | refine WO_p (q_pickT rfl (by first | (with_reducible rfl) | decide) rfl) ?_
            | refine WO_p (q_pickF rfl (by first | (with_reducible rfl) | decide) rfl) ?_)
         | (refine idBi ?_
            first
            | refine WO_lenSl rfl ?_
            | refine WO_lenStr rfl ?_)
         | (refine idBo ?_
            first
            | refine WO_add rfl rfl (by omega) ?_
            | refine WO_sub rfl rfl (by omega) ?_
            | refine WO_mul rfl rfl (by omega) ?_
            | refine WO_rem rfl rfl (by omega) (by omega) ?_
            | refine WO_quo rfl rfl (by omega) (by omega) (by omega) ?_
            | refine WO_p (q_neBool rfl rfl) ?_
            | refine WO_p (q_eqBool rfl rfl) ?_)
         | (refine idCv ?_; refine WO_p (q_convert rfl (wrap_i64_in ⟨by omega, by omega⟩)) ?_)
         | (refine idBuild ?_; refine WO_p (q_build rfl (by rfl) (by simp only [fillS, List.set_cons_zero, List.set_cons_succ]; rfl)) ?_)
         | refine WO_nil ?_)
      | (refine idAt ?_
         first
         | refine at_next ?_
         | refine at_block ?_
         | refine at_next_exit ?_
         | refine at_next_ret ?_
         | refine at_block_exit ?_
         | refine at_block_other rfl ?_
         | refine at_block_ret ?_
         | refine at_loop_exit ?_
         | refine at_loop_ret ?_)
      | (refine idW ?_
         first
         | refine W_seq ?_
         | refine W_region ?_
         | refine W_block ?_
         | refine W_skip ?_
         | refine W_exit ?_
         | refine W_ret ?_
         | refine W_condT rfl (by first | (with_reducible rfl) | decide) ?_
         | refine W_condF rfl (by first | (with_reducible rfl) | decide) ?_))
    refine WO_box rfl fun w1 hb he hz => ?_
    repeat (first
      | (refine idWO ?_
         first
         | refine WO_simple rfl ?_
         | (refine idG ?_
            first
            | refine WO_yes rfl rfl (by first | (with_reducible rfl) | decide) ?_
            | refine WO_no rfl rfl (by first | (with_reducible rfl) | decide) ?_
            | refine WO_noU rfl rfl ?_)
         | (refine idFA ?_
            first
            | refine WO_fieldAddr0 rfl rfl ?_
            | refine WO_fieldAddr rfl rfl ?_)
         | (refine idLd ?_
            first
            | refine WO_loadB rfl (by assumption) (by rfl) ?_
            | refine WO_load1 rfl (by assumption) ?_)
         | (refine idPk ?_
            first
            | refine WO_p (q_pickT rfl (by first | (with_reducible rfl) | decide) rfl) ?_
            | refine WO_p (q_pickF rfl (by first | (with_reducible rfl) | decide) rfl) ?_)
         | (refine idBi ?_
            first
            | refine WO_lenSl rfl ?_
            | refine WO_lenStr rfl ?_)
         | (refine idBo ?_
            first
            | refine WO_add rfl rfl (by omega) ?_
            | refine WO_sub rfl rfl (by omega) ?_
            | refine WO_mul rfl rfl (by omega) ?_
            | refine WO_rem rfl rfl (by omega) (by omega) ?_
            | refine WO_quo rfl rfl (by omega) (by omega) (by omega) ?_
            | refine WO_p (q_neBool rfl rfl) ?_
            | refine WO_p (q_eqBool rfl rfl) ?_)
         | (refine idCv ?_; refine WO_p (q_convert rfl (wrap_i64_in ⟨by omega, by omega⟩)) ?_)
         | (refine idBuild ?_; refine WO_p (q_build rfl (by rfl) (by simp only [fillS, List.set_cons_zero, List.set_cons_succ]; rfl)) ?_)
         | refine WO_nil ?_)
      | (refine idAt ?_
         first
         | refine at_next ?_
         | refine at_block ?_
         | refine at_next_exit ?_
         | refine at_next_ret ?_
         | refine at_block_exit ?_
         | refine at_block_other rfl ?_
         | refine at_block_ret ?_
         | refine at_loop_exit ?_
         | refine at_loop_ret ?_)
      | (refine idW ?_
         first
         | refine W_seq ?_
         | refine W_region ?_
         | refine W_block ?_
         | refine W_skip ?_
         | refine W_exit ?_
         | refine W_ret ?_
         | refine W_condT rfl (by first | (with_reducible rfl) | decide) ?_
         | refine W_condF rfl (by first | (with_reducible rfl) | decide) ?_))
    exact at_ret1 rfl rfl (fin w1 _ _ hb he h0)
theorem pick_ret (rb p : Nat) (n : Int) (w : World) (h : RdB w rb p) (hp : p ≤ 1000000000000) :
    Ret Try.prog 33 [.pointer (some ⟨rb, 0, none⟩), .int .i64 n] w fun v w' => ∃ k : Nat, v = .int .i64 (k : Int) ∧ (1 ≤ n → (k : Int) < n) ∧ (n < 1 → k = 0) ∧ RdB w' rb (p + 1) ∧ Chg [rb] w w' := by
  obtain ⟨bv, t, hb, hy⟩ := h
  refine enter Try.func33 rfl Try.ntmps33 rfl rfl ?_
  repeat (first
    | (refine idWO ?_
       first
       | refine WO_simple rfl ?_
       | (refine idG ?_
          first
          | refine WO_yes rfl rfl (by first | (with_reducible rfl) | decide) ?_
          | refine WO_no rfl rfl (by first | (with_reducible rfl) | decide) ?_
          | refine WO_noU rfl rfl ?_)
       | (refine idFA ?_
          first
          | refine WO_fieldAddr0 rfl rfl ?_
          | refine WO_fieldAddr rfl rfl ?_)
       | (refine idLd ?_
          first
          | refine WO_loadB rfl (by assumption) (by rfl) ?_
          | refine WO_load1 rfl (by assumption) ?_)
       | (refine idPk ?_
          first
          | refine WO_p (q_pickT rfl (by first | (with_reducible rfl) | decide) rfl) ?_
          | refine WO_p (q_pickF rfl (by first | (with_reducible rfl) | decide) rfl) ?_)
       | (refine idBi ?_
          first
          | refine WO_lenSl rfl ?_
          | refine WO_lenStr rfl ?_)
       | (refine idBo ?_
          first
          | refine WO_add rfl rfl (by omega) ?_
          | refine WO_sub rfl rfl (by omega) ?_
          | refine WO_mul rfl rfl (by omega) ?_
          | refine WO_rem rfl rfl (by omega) (by omega) ?_
          | refine WO_quo rfl rfl (by omega) (by omega) (by omega) ?_
          | refine WO_p (q_neBool rfl rfl) ?_
          | refine WO_p (q_eqBool rfl rfl) ?_)
       | (refine idCv ?_; refine WO_p (q_convert rfl (wrap_i64_in ⟨by omega, by omega⟩)) ?_)
       | (refine idBuild ?_; refine WO_p (q_build rfl (by rfl) (by simp only [fillS, List.set_cons_zero, List.set_cons_succ]; rfl)) ?_)
       | refine WO_nil ?_)
    | (refine idAt ?_
       first
       | refine at_next ?_
       | refine at_block ?_
       | refine at_next_exit ?_
       | refine at_next_ret ?_
       | refine at_block_exit ?_
       | refine at_block_other rfl ?_
       | refine at_block_ret ?_
       | refine at_loop_exit ?_
       | refine at_loop_ret ?_)
    | (refine idW ?_
       first
       | refine W_seq ?_
       | refine W_region ?_
       | refine W_block ?_
       | refine W_skip ?_
       | refine W_exit ?_
       | refine W_ret ?_
       | refine W_condT rfl (by first | (with_reducible rfl) | decide) ?_
       | refine W_condF rfl (by first | (with_reducible rfl) | decide) ?_))
  refine WO_store1 rfl rfl rfl hb (by simp) fun w1 hb1 ho => ?_
  simp only [List.set_cons_succ, List.set_cons_zero] at hb1
  have hy1 := hy.chg ho.chg (by simp)
  clear hb hy
  have hr1 : ∀ w', Ext w1 w' → RdB w' rb (p + 1) ∧ Chg [rb] w w' := fun w' he => ⟨⟨bv, t, hb1.ext he, hy1.chg (he.chg []) (by simp)⟩, ho.chg.trans (he.chg _)⟩
  by_cases hn : n < 1
  · repeat (first
      | (refine idWO ?_
         first
         | refine WO_simple rfl ?_
         | (refine idG ?_
            first
            | refine WO_yes rfl rfl (by first | (with_reducible rfl) | decide) ?_
            | refine WO_no rfl rfl (by first | (with_reducible rfl) | decide) ?_
            | refine WO_noU rfl rfl ?_)
         | (refine idFA ?_
            first
            | refine WO_fieldAddr0 rfl rfl ?_
            | refine WO_fieldAddr rfl rfl ?_)
         | (refine idLd ?_
            first
            | refine WO_loadB rfl (by assumption) (by rfl) ?_
            | refine WO_load1 rfl (by assumption) ?_)
         | (refine idPk ?_
            first
            | refine WO_p (q_pickT rfl (by first | (with_reducible rfl) | decide) rfl) ?_
            | refine WO_p (q_pickF rfl (by first | (with_reducible rfl) | decide) rfl) ?_)
         | (refine idBi ?_
            first
            | refine WO_lenSl rfl ?_
            | refine WO_lenStr rfl ?_)
         | (refine idBo ?_
            first
            | refine WO_add rfl rfl (by omega) ?_
            | refine WO_sub rfl rfl (by omega) ?_
            | refine WO_mul rfl rfl (by omega) ?_
            | refine WO_rem rfl rfl (by omega) (by omega) ?_
            | refine WO_quo rfl rfl (by omega) (by omega) (by omega) ?_
            | refine WO_p (q_neBool rfl rfl) ?_
            | refine WO_p (q_eqBool rfl rfl) ?_)
         | (refine idCv ?_; refine WO_p (q_convert rfl (wrap_i64_in ⟨by omega, by omega⟩)) ?_)
         | (refine idBuild ?_; refine WO_p (q_build rfl (by rfl) (by simp only [fillS, List.set_cons_zero, List.set_cons_succ]; rfl)) ?_)
         | refine WO_nil ?_)
      | (refine idAt ?_
         first
         | refine at_next ?_
         | refine at_block ?_
         | refine at_next_exit ?_
         | refine at_next_ret ?_
         | refine at_block_exit ?_
         | refine at_block_other rfl ?_
         | refine at_block_ret ?_
         | refine at_loop_exit ?_
         | refine at_loop_ret ?_)
      | (refine idW ?_
         first
         | refine W_seq ?_
         | refine W_region ?_
         | refine W_block ?_
         | refine W_skip ?_
         | refine W_exit ?_
         | refine W_ret ?_
         | refine W_condT rfl (by first | (with_reducible rfl) | decide) ?_
         | refine W_condF rfl (by first | (with_reducible rfl) | decide) ?_))
    refine WO_split rfl rfl (fun c' hc' => ?_)
    have : c' = true := by rw [← hc']; simpa using hn
    subst this
    repeat (first
      | (refine idWO ?_
         first
         | refine WO_simple rfl ?_
         | (refine idG ?_
            first
            | refine WO_yes rfl rfl (by first | (with_reducible rfl) | decide) ?_
            | refine WO_no rfl rfl (by first | (with_reducible rfl) | decide) ?_
            | refine WO_noU rfl rfl ?_)
         | (refine idFA ?_
            first
            | refine WO_fieldAddr0 rfl rfl ?_
            | refine WO_fieldAddr rfl rfl ?_)
         | (refine idLd ?_
            first
            | refine WO_loadB rfl (by assumption) (by rfl) ?_
            | refine WO_load1 rfl (by assumption) ?_)
         | (refine idPk ?_
            first
            | refine WO_p (q_pickT rfl (by first | (with_reducible rfl) | decide) rfl) ?_
            | refine WO_p (q_pickF rfl (by first | (with_reducible rfl) | decide) rfl) ?_)
         | (refine idBi ?_
            first
            | refine WO_lenSl rfl ?_
            | refine WO_lenStr rfl ?_)
         | (refine idBo ?_
            first
            | refine WO_add rfl rfl (by omega) ?_
            | refine WO_sub rfl rfl (by omega) ?_
            | refine WO_mul rfl rfl (by omega) ?_
            | refine WO_rem rfl rfl (by omega) (by omega) ?_
            | refine WO_quo rfl rfl (by omega) (by omega) (by omega) ?_
            | refine WO_p (q_neBool rfl rfl) ?_
            | refine WO_p (q_eqBool rfl rfl) ?_)
         | (refine idCv ?_; refine WO_p (q_convert rfl (wrap_i64_in ⟨by omega, by omega⟩)) ?_)
         | (refine idBuild ?_; refine WO_p (q_build rfl (by rfl) (by simp only [fillS, List.set_cons_zero, List.set_cons_succ]; rfl)) ?_)
         | refine WO_nil ?_)
      | (refine idAt ?_
         first
         | refine at_next ?_
         | refine at_block ?_
         | refine at_next_exit ?_
         | refine at_next_ret ?_
         | refine at_block_exit ?_
         | refine at_block_other rfl ?_
         | refine at_block_ret ?_
         | refine at_loop_exit ?_
         | refine at_loop_ret ?_)
      | (refine idW ?_
         first
         | refine W_seq ?_
         | refine W_region ?_
         | refine W_block ?_
         | refine W_skip ?_
         | refine W_exit ?_
         | refine W_ret ?_
         | refine W_condT rfl (by first | (with_reducible rfl) | decide) ?_
         | refine W_condF rfl (by first | (with_reducible rfl) | decide) ?_))
    exact at_ret1 rfl rfl ⟨0, rfl, by omega, by omega, hr1 w1 (Ext.refl _)⟩
  · repeat (first
      | (refine idWO ?_
         first
         | refine WO_simple rfl ?_
         | (refine idG ?_
            first
            | refine WO_yes rfl rfl (by first | (with_reducible rfl) | decide) ?_
            | refine WO_no rfl rfl (by first | (with_reducible rfl) | decide) ?_
            | refine WO_noU rfl rfl ?_)
         | (refine idFA ?_
            first
            | refine WO_fieldAddr0 rfl rfl ?_
            | refine WO_fieldAddr rfl rfl ?_)
         | (refine idLd ?_
            first
            | refine WO_loadB rfl (by assumption) (by rfl) ?_
            | refine WO_load1 rfl (by assumption) ?_)
         | (refine idPk ?_
            first
            | refine WO_p (q_pickT rfl (by first | (with_reducible rfl) | decide) rfl) ?_
            | refine WO_p (q_pickF rfl (by first | (with_reducible rfl) | decide) rfl) ?_)
         | (refine idBi ?_
            first
            | refine WO_lenSl rfl ?_
            | refine WO_lenStr rfl ?_)
         | (refine idBo ?_
            first
            | refine WO_add rfl rfl (by omega) ?_
            | refine WO_sub rfl rfl (by omega) ?_
            | refine WO_mul rfl rfl (by omega) ?_
            | refine WO_rem rfl rfl (by omega) (by omega) ?_
            | refine WO_quo rfl rfl (by omega) (by omega) (by omega) ?_
            | refine WO_p (q_neBool rfl rfl) ?_
            | refine WO_p (q_eqBool rfl rfl) ?_)
         | (refine idCv ?_; refine WO_p (q_convert rfl (wrap_i64_in ⟨by omega, by omega⟩)) ?_)
         | (refine idBuild ?_; refine WO_p (q_build rfl (by rfl) (by simp only [fillS, List.set_cons_zero, List.set_cons_succ]; rfl)) ?_)
         | refine WO_nil ?_)
      | (refine idAt ?_
         first
         | refine at_next ?_
         | refine at_block ?_
         | refine at_next_exit ?_
         | refine at_next_ret ?_
         | refine at_block_exit ?_
         | refine at_block_other rfl ?_
         | refine at_block_ret ?_
         | refine at_loop_exit ?_
         | refine at_loop_ret ?_)
      | (refine idW ?_
         first
         | refine W_seq ?_
         | refine W_region ?_
         | refine W_block ?_
         | refine W_skip ?_
         | refine W_exit ?_
         | refine W_ret ?_
         | refine W_condT rfl (by first | (with_reducible rfl) | decide) ?_
         | refine W_condF rfl (by first | (with_reducible rfl) | decide) ?_))
    refine WO_split rfl rfl (fun c' hc' => ?_)
    have : c' = false := by rw [← hc']; simpa using hn
    subst this
    obtain ⟨A, m, c, rfl, hc, hm, hx⟩ := hy1
    repeat (first
      | (refine idWO ?_
         first
         | refine WO_simple rfl ?_
         | (refine idG ?_
            first
            | refine WO_yes rfl rfl (by first | (with_reducible rfl) | decide) ?_
            | refine WO_no rfl rfl (by first | (with_reducible rfl) | decide) ?_
            | refine WO_noU rfl rfl ?_)
         | (refine idFA ?_
            first
            | refine WO_fieldAddr0 rfl rfl ?_
            | refine WO_fieldAddr rfl rfl ?_)
         | (refine idLd ?_
            first
            | refine WO_loadB rfl (by assumption) (by rfl) ?_
            | refine WO_load1 rfl (by assumption) ?_)
         | (refine idPk ?_
            first
            | refine WO_p (q_pickT rfl (by first | (with_reducible rfl) | decide) rfl) ?_
            | refine WO_p (q_pickF rfl (by first | (with_reducible rfl) | decide) rfl) ?_)
         | (refine idBi ?_
            first
            | refine WO_lenSl rfl ?_
            | refine WO_lenStr rfl ?_)
         | (refine idBo ?_
            first
            | refine WO_add rfl rfl (by omega) ?_
            | refine WO_sub rfl rfl (by omega) ?_
            | refine WO_mul rfl rfl (by omega) ?_
            | refine WO_rem rfl rfl (by omega) (by omega) ?_
            | refine WO_quo rfl rfl (by omega) (by omega) (by omega) ?_
            | refine WO_p (q_neBool rfl rfl) ?_
            | refine WO_p (q_eqBool rfl rfl) ?_)
         | (refine idCv ?_; refine WO_p (q_convert rfl (wrap_i64_in ⟨by omega, by omega⟩)) ?_)
         | (refine idBuild ?_; refine WO_p (q_build rfl (by rfl) (by simp only [fillS, List.set_cons_zero, List.set_cons_succ]; rfl)) ?_)
         | refine WO_nil ?_)
      | (refine idAt ?_
         first
         | refine at_next ?_
         | refine at_block ?_
         | refine at_next_exit ?_
         | refine at_next_ret ?_
         | refine at_block_exit ?_
         | refine at_block_other rfl ?_
         | refine at_block_ret ?_
         | refine at_loop_exit ?_
         | refine at_loop_ret ?_)
      | (refine idW ?_
         first
         | refine W_seq ?_
         | refine W_region ?_
         | refine W_block ?_
         | refine W_skip ?_
         | refine W_exit ?_
         | refine W_ret ?_
         | refine W_condT rfl (by first | (with_reducible rfl) | decide) ?_
         | refine W_condF rfl (by first | (with_reducible rfl) | decide) ?_))
    by_cases hm0 : m = 0
    · refine W_condT rfl (by simp [hm0]) ?_
      repeat (first
        | (refine idWO ?_
           first
           | refine WO_simple rfl ?_
           | (refine idG ?_
              first
              | refine WO_yes rfl rfl (by first | (with_reducible rfl) | decide) ?_
              | refine WO_no rfl rfl (by first | (with_reducible rfl) | decide) ?_
              | refine WO_noU rfl rfl ?_)
           | (refine idFA ?_
              first
              | refine WO_fieldAddr0 rfl rfl ?_
              | refine WO_fieldAddr rfl rfl ?_)
           | (refine idLd ?_
              first
              | refine WO_loadB rfl (by assumption) (by rfl) ?_
              | refine WO_load1 rfl (by assumption) ?_)
           | (refine idPk ?_
              first
              | refine WO_p (q_pickT rfl (by first | (with_reducible rfl) | decide) rfl) ?_
              | refine WO_p (q_pickF rfl (by first | (with_reducible rfl) | decide) rfl) ?_)
           | (refine idBi ?_
              first
              | refine WO_lenSl rfl ?_
              | refine WO_lenStr rfl ?_)
           | (refine idBo ?_
              first
              | refine WO_add rfl rfl (by omega) ?_
              | refine WO_sub rfl rfl (by omega) ?_
              | refine WO_mul rfl rfl (by omega) ?_
              | refine WO_rem rfl rfl (by omega) (by omega) ?_
              | refine WO_quo rfl rfl (by omega) (by omega) (by omega) ?_
              | refine WO_p (q_neBool rfl rfl) ?_
              | refine WO_p (q_eqBool rfl rfl) ?_)
           | (refine idCv ?_; refine WO_p (q_convert rfl (wrap_i64_in ⟨by omega, by omega⟩)) ?_)
           | (refine idBuild ?_; refine WO_p (q_build rfl (by rfl) (by simp only [fillS, List.set_cons_zero, List.set_cons_succ]; rfl)) ?_)
           | refine WO_nil ?_)
        | (refine idAt ?_
           first
           | refine at_next ?_
           | refine at_block ?_
           | refine at_next_exit ?_
           | refine at_next_ret ?_
           | refine at_block_exit ?_
           | refine at_block_other rfl ?_
           | refine at_block_ret ?_
           | refine at_loop_exit ?_
           | refine at_loop_ret ?_)
        | (refine idW ?_
           first
           | refine W_seq ?_
           | refine W_region ?_
           | refine W_block ?_
           | refine W_skip ?_
           | refine W_exit ?_
           | refine W_ret ?_
           | refine W_condT rfl (by first | (with_reducible rfl) | decide) ?_
           | refine W_condF rfl (by first | (with_reducible rfl) | decide) ?_))
      exact at_ret1 rfl rfl ⟨0, rfl, by omega, by omega, hr1 w1 (Ext.refl _)⟩
    · refine W_condF rfl (by simp; omega) ?_
      replace hx := hx.resolve_left hm0
      obtain ⟨b, o, rfl, hbr, hx⟩ := hx
      repeat (first
        | (refine idWO ?_
           first
           | refine WO_simple rfl ?_
           | (refine idG ?_
              first
              | refine WO_yes rfl rfl (by first | (with_reducible rfl) | decide) ?_
              | refine WO_no rfl rfl (by first | (with_reducible rfl) | decide) ?_
              | refine WO_noU rfl rfl ?_)
           | (refine idFA ?_
              first
              | refine WO_fieldAddr0 rfl rfl ?_
              | refine WO_fieldAddr rfl rfl ?_)
           | (refine idLd ?_
              first
              | refine WO_loadB rfl (by assumption) (by rfl) ?_
              | refine WO_load1 rfl (by assumption) ?_)
           | (refine idPk ?_
              first
              | refine WO_p (q_pickT rfl (by first | (with_reducible rfl) | decide) rfl) ?_
              | refine WO_p (q_pickF rfl (by first | (with_reducible rfl) | decide) rfl) ?_)
           | (refine idBi ?_
              first
              | refine WO_lenSl rfl ?_
              | refine WO_lenStr rfl ?_)
           | (refine idBo ?_
              first
              | refine WO_add rfl rfl (by omega) ?_
              | refine WO_sub rfl rfl (by omega) ?_
              | refine WO_mul rfl rfl (by omega) ?_
              | refine WO_rem rfl rfl (by omega) (by omega) ?_
              | refine WO_quo rfl rfl (by omega) (by omega) (by omega) ?_
              | refine WO_p (q_neBool rfl rfl) ?_
              | refine WO_p (q_eqBool rfl rfl) ?_)
           | (refine idCv ?_; refine WO_p (q_convert rfl (wrap_i64_in ⟨by omega, by omega⟩)) ?_)
           | (refine idBuild ?_; refine WO_p (q_build rfl (by rfl) (by simp only [fillS, List.set_cons_zero, List.set_cons_succ]; rfl)) ?_)
           | refine WO_nil ?_)
        | (refine idAt ?_
           first
           | refine at_next ?_
           | refine at_block ?_
           | refine at_next_exit ?_
           | refine at_next_ret ?_
           | refine at_block_exit ?_
           | refine at_block_other rfl ?_
           | refine at_block_ret ?_
           | refine at_loop_exit ?_
           | refine at_loop_ret ?_)
        | (refine idW ?_
           first
           | refine W_seq ?_
           | refine W_region ?_
           | refine W_block ?_
           | refine W_skip ?_
           | refine W_exit ?_
           | refine W_ret ?_
           | refine W_condT rfl (by first | (with_reducible rfl) | decide) ?_
           | refine W_condF rfl (by first | (with_reducible rfl) | decide) ?_))
      simp only [Int.add_sub_cancel]
      refine W_cond rfl (fun hc => ?_) (fun hc => ?_)
      · have hlt : p < m := by simp at hc; omega
        obtain ⟨x, hx1, hx2⟩ := hx p hlt
        repeat (first
          | (refine idWO ?_
             first
             | refine WO_simple rfl ?_
             | (refine idG ?_
                first
                | refine WO_yes rfl rfl (by first | (with_reducible rfl) | decide) ?_
                | refine WO_no rfl rfl (by first | (with_reducible rfl) | decide) ?_
                | refine WO_noU rfl rfl ?_)
             | (refine idFA ?_
                first
                | refine WO_fieldAddr0 rfl rfl ?_
                | refine WO_fieldAddr rfl rfl ?_)
             | (refine idLd ?_
                first
                | refine WO_loadB rfl (by assumption) (by rfl) ?_
                | refine WO_load1 rfl (by assumption) ?_)
             | (refine idPk ?_
                first
                | refine WO_p (q_pickT rfl (by first | (with_reducible rfl) | decide) rfl) ?_
                | refine WO_p (q_pickF rfl (by first | (with_reducible rfl) | decide) rfl) ?_)
             | (refine idBi ?_
                first
                | refine WO_lenSl rfl ?_
                | refine WO_lenStr rfl ?_)
             | (refine idBo ?_
                first
                | refine WO_add rfl rfl (by omega) ?_
                | refine WO_sub rfl rfl (by omega) ?_
                | refine WO_mul rfl rfl (by omega) ?_
                | refine WO_rem rfl rfl (by omega) (by omega) ?_
                | refine WO_quo rfl rfl (by omega) (by omega) (by omega) ?_
                | refine WO_p (q_neBool rfl rfl) ?_
                | refine WO_p (q_eqBool rfl rfl) ?_)
             | (refine idCv ?_; refine WO_p (q_convert rfl (wrap_i64_in ⟨by omega, by omega⟩)) ?_)
             | (refine idBuild ?_; refine WO_p (q_build rfl (by rfl) (by simp only [fillS, List.set_cons_zero, List.set_cons_succ]; rfl)) ?_)
             | refine WO_nil ?_)
          | (refine idAt ?_
             first
             | refine at_next ?_
             | refine at_block ?_
             | refine at_next_exit ?_
             | refine at_next_ret ?_
             | refine at_block_exit ?_
             | refine at_block_other rfl ?_
             | refine at_block_ret ?_
             | refine at_loop_exit ?_
             | refine at_loop_ret ?_)
          | (refine idW ?_
             first
             | refine W_seq ?_
             | refine W_region ?_
             | refine W_block ?_
             | refine W_skip ?_
             | refine W_exit ?_
             | refine W_ret ?_
             | refine W_condT rfl (by first | (with_reducible rfl) | decide) ?_
             | refine W_condF rfl (by first | (with_reducible rfl) | decide) ?_))
        refine WO_indexAddr rfl rfl rfl hlt ?_
        repeat (first
          | (refine idWO ?_
             first
             | refine WO_simple rfl ?_
             | (refine idG ?_
                first
                | refine WO_yes rfl rfl (by first | (with_reducible rfl) | decide) ?_
                | refine WO_no rfl rfl (by first | (with_reducible rfl) | decide) ?_
                | refine WO_noU rfl rfl ?_)
             | (refine idFA ?_
                first
                | refine WO_fieldAddr0 rfl rfl ?_
                | refine WO_fieldAddr rfl rfl ?_)
             | (refine idLd ?_
                first
                | refine WO_loadB rfl (by assumption) (by rfl) ?_
                | refine WO_load1 rfl (by assumption) ?_)
             | (refine idPk ?_
                first
                | refine WO_p (q_pickT rfl (by first | (with_reducible rfl) | decide) rfl) ?_
                | refine WO_p (q_pickF rfl (by first | (with_reducible rfl) | decide) rfl) ?_)
             | (refine idBi ?_
                first
                | refine WO_lenSl rfl ?_
                | refine WO_lenStr rfl ?_)
             | (refine idBo ?_
                first
                | refine WO_add rfl rfl (by omega) ?_
                | refine WO_sub rfl rfl (by omega) ?_
                | refine WO_mul rfl rfl (by omega) ?_
                | refine WO_rem rfl rfl (by omega) (by omega) ?_
                | refine WO_quo rfl rfl (by omega) (by omega) (by omega) ?_
                | refine WO_p (q_neBool rfl rfl) ?_
                | refine WO_p (q_eqBool rfl rfl) ?_)
             | (refine idCv ?_; refine WO_p (q_convert rfl (wrap_i64_in ⟨by omega, by omega⟩)) ?_)
             | (refine idBuild ?_; refine WO_p (q_build rfl (by rfl) (by simp only [fillS, List.set_cons_zero, List.set_cons_succ]; rfl)) ?_)
             | refine WO_nil ?_)
          | (refine idAt ?_
             first
             | refine at_next ?_
             | refine at_block ?_
             | refine at_next_exit ?_
             | refine at_next_ret ?_
             | refine at_block_exit ?_
             | refine at_block_other rfl ?_
             | refine at_block_ret ?_
             | refine at_loop_exit ?_
             | refine at_loop_ret ?_)
          | (refine idW ?_
             first
             | refine W_seq ?_
             | refine W_region ?_
             | refine W_block ?_
             | refine W_skip ?_
             | refine W_exit ?_
             | refine W_ret ?_
             | refine W_condT rfl (by first | (with_reducible rfl) | decide) ?_
             | refine W_condF rfl (by first | (with_reducible rfl) | decide) ?_))
        refine at_ret1 rfl rfl ⟨((x : Int) % n).toNat, ?_, ?_, by omega, hr1 w1 (Ext.refl _)⟩
        · have := Int.emod_nonneg (x : Int) (show n ≠ 0 by omega)
          rw [Int.toNat_of_nonneg this]
        · intro h1
          have := Int.emod_nonneg (x : Int) (show n ≠ 0 by omega)
          have := Int.emod_lt_of_pos (x : Int) (show 0 < n by omega)
          omega
      · have hpos : 0 < m := by omega
        obtain ⟨x, hx1, hx2⟩ := hx (p % m) (Nat.mod_lt _ hpos)
        obtain ⟨y, hy1, hy2⟩ := hx ((p * 7 + 3) % m) (Nat.mod_lt _ hpos)
        have hd : (0 : Int) ≤ (p : Int) / (m : Int) ∧ (p : Int) / (m : Int) ≤ (p : Int) := ⟨Int.ediv_nonneg (by omega) (by omega), Int.ediv_le_self _ (by omega)⟩
        repeat (first
          | (refine idWO ?_
             first
             | refine WO_simple rfl ?_
             | (refine idG ?_
                first
                | refine WO_yes rfl rfl (by first | (with_reducible rfl) | decide) ?_
                | refine WO_no rfl rfl (by first | (with_reducible rfl) | decide) ?_
                | refine WO_noU rfl rfl ?_)
             | (refine idFA ?_
                first
                | refine WO_fieldAddr0 rfl rfl ?_
                | refine WO_fieldAddr rfl rfl ?_)
             | (refine idLd ?_
                first
                | refine WO_loadB rfl (by assumption) (by rfl) ?_
                | refine WO_load1 rfl (by assumption) ?_)
             | (refine idPk ?_
                first
                | refine WO_p (q_pickT rfl (by first | (with_reducible rfl) | decide) rfl) ?_
                | refine WO_p (q_pickF rfl (by first | (with_reducible rfl) | decide) rfl) ?_)
             | (refine idBi ?_
                first
                | refine WO_lenSl rfl ?_
                | refine WO_lenStr rfl ?_)
             | (refine idBo ?_
                first
                | refine WO_add rfl rfl (by omega) ?_
                | refine WO_sub rfl rfl (by omega) ?_
                | refine WO_mul rfl rfl (by omega) ?_
                | refine WO_rem rfl rfl (by omega) (by omega) ?_
                | refine WO_quo rfl rfl (by omega) (by omega) (by omega) ?_
                | refine WO_p (q_neBool rfl rfl) ?_
                | refine WO_p (q_eqBool rfl rfl) ?_)
             | (refine idCv ?_; refine WO_p (q_convert rfl (wrap_i64_in ⟨by omega, by omega⟩)) ?_)
             | (refine idBuild ?_; refine WO_p (q_build rfl (by rfl) (by simp only [fillS, List.set_cons_zero, List.set_cons_succ]; rfl)) ?_)
             | refine WO_nil ?_)
          | (refine idAt ?_
             first
             | refine at_next ?_
             | refine at_block ?_
             | refine at_next_exit ?_
             | refine at_next_ret ?_
             | refine at_block_exit ?_
             | refine at_block_other rfl ?_
             | refine at_block_ret ?_
             | refine at_loop_exit ?_
             | refine at_loop_ret ?_)
          | (refine idW ?_
             first
             | refine W_seq ?_
             | refine W_region ?_
             | refine W_block ?_
             | refine W_skip ?_
             | refine W_exit ?_
             | refine W_ret ?_
             | refine W_condT rfl (by first | (with_reducible rfl) | decide) ?_
             | refine W_condF rfl (by first | (with_reducible rfl) | decide) ?_))
        refine W_quiet (by kernel_rfl) (by kernel_rfl) ?_
        repeat' (first
          | refine WQ_p (q_simple rfl) ?_
          | (refine iqG ?_
             first
             | refine WQ_yes rfl rfl (by first | (with_reducible rfl) | decide) ?_
             | refine WQ_no rfl rfl (by first | (with_reducible rfl) | decide) ?_
             | refine WQ_noU rfl rfl ?_
             | ((refine WQ_split rfl rfl (fun c' hc' => ?_)); cases c' <;> (try simp only [decide_eq_true_eq, decide_eq_false_iff_not, beq_iff_eq, beq_eq_false_iff_ne, bne_iff_ne, bne_eq_false_iff_eq, ne_eq, gt_iff_lt, ge_iff_le, Int.not_lt, Int.not_le, Bool.not_eq_true', Bool.not_eq_false', Bool.not_true, Bool.not_false, reduceCtorEq, Decidable.not_not, Bool.true_eq_false, Bool.false_eq_true] at hc') <;> (try (exfalso; omega))))
          | (refine iqFA ?_
             first
             | refine WQ_p (q_fieldAddr0 rfl rfl) ?_
             | refine WQ_p (q_fieldAddr rfl rfl) ?_)
          | (refine iqLd ?_
             first
             | refine WQ_p (q_loadB rfl (by assumption) (by rfl)) ?_
             | refine WQ_p (q_load1 rfl (by assumption)) ?_)
          | (refine iqIA ?_; refine WQ_p (q_indexAddr rfl rfl rfl (by omega)) ?_)
          | (refine iqPk ?_
             first
             | refine WQ_p (q_pickT rfl (by first | (with_reducible rfl) | decide) rfl) ?_
             | refine WQ_p (q_pickF rfl (by first | (with_reducible rfl) | decide) rfl) ?_)
          | (refine iqBi ?_
             first
             | refine WQ_p (q_lenSl rfl) ?_
             | refine WQ_p (q_lenStr rfl) ?_)
          | (refine iqBo ?_
             first
             | refine WQ_p (q_add rfl rfl (by omega)) ?_
             | refine WQ_p (q_sub rfl rfl (by omega)) ?_
             | refine WQ_p (q_mul rfl rfl (by omega)) ?_
             | refine WQ_p (q_rem rfl rfl (by omega) (by omega)) ?_
             | refine WQ_p (q_quo rfl rfl (by omega) (by omega) (by omega)) ?_
             | refine WQ_p (q_neBool rfl rfl) ?_
             | refine WQ_p (q_eqBool rfl rfl) ?_)
          | (refine iqCv ?_; refine WQ_p (q_convert rfl (wrap_i64_in ⟨by omega, by omega⟩)) ?_)
          | refine WQ_end fun w' hw' => ?_)
        refine WQ_p (q_indexAddr (j := p % m) rfl rfl (by push_cast; rfl) (Nat.mod_lt _ hpos)) ?_
        repeat' (first
          | refine WQ_p (q_simple rfl) ?_
          | (refine iqG ?_
             first
             | refine WQ_yes rfl rfl (by first | (with_reducible rfl) | decide) ?_
             | refine WQ_no rfl rfl (by first | (with_reducible rfl) | decide) ?_
             | refine WQ_noU rfl rfl ?_
             | ((refine WQ_split rfl rfl (fun c' hc' => ?_)); cases c' <;> (try simp only [decide_eq_true_eq, decide_eq_false_iff_not, beq_iff_eq, beq_eq_false_iff_ne, bne_iff_ne, bne_eq_false_iff_eq, ne_eq, gt_iff_lt, ge_iff_le, Int.not_lt, Int.not_le, Bool.not_eq_true', Bool.not_eq_false', Bool.not_true, Bool.not_false, reduceCtorEq, Decidable.not_not, Bool.true_eq_false, Bool.false_eq_true] at hc') <;> (try (exfalso; omega))))
          | (refine iqFA ?_
             first
             | refine WQ_p (q_fieldAddr0 rfl rfl) ?_
             | refine WQ_p (q_fieldAddr rfl rfl) ?_)
          | (refine iqLd ?_
             first
             | refine WQ_p (q_loadB rfl (by assumption) (by rfl)) ?_
             | refine WQ_p (q_load1 rfl (by assumption)) ?_)
          | (refine iqIA ?_; refine WQ_p (q_indexAddr rfl rfl rfl (by omega)) ?_)
          | (refine iqPk ?_
             first
             | refine WQ_p (q_pickT rfl (by first | (with_reducible rfl) | decide) rfl) ?_
             | refine WQ_p (q_pickF rfl (by first | (with_reducible rfl) | decide) rfl) ?_)
          | (refine iqBi ?_
             first
             | refine WQ_p (q_lenSl rfl) ?_
             | refine WQ_p (q_lenStr rfl) ?_)
          | (refine iqBo ?_
             first
             | refine WQ_p (q_add rfl rfl (by omega)) ?_
             | refine WQ_p (q_sub rfl rfl (by omega)) ?_
             | refine WQ_p (q_mul rfl rfl (by omega)) ?_
             | refine WQ_p (q_rem rfl rfl (by omega) (by omega)) ?_
             | refine WQ_p (q_quo rfl rfl (by omega) (by omega) (by omega)) ?_
             | refine WQ_p (q_neBool rfl rfl) ?_
             | refine WQ_p (q_eqBool rfl rfl) ?_)
          | (refine iqCv ?_; refine WQ_p (q_convert rfl (wrap_i64_in ⟨by omega, by omega⟩)) ?_)
          | refine WQ_end fun w' hw' => ?_)
        refine WQ_p (q_indexAddr (j := (p * 7 + 3) % m) rfl rfl (by push_cast; rfl) (Nat.mod_lt _ hpos)) ?_
        repeat' (first
          | refine WQ_p (q_simple rfl) ?_
          | (refine iqG ?_
             first
             | refine WQ_yes rfl rfl (by first | (with_reducible rfl) | decide) ?_
             | refine WQ_no rfl rfl (by first | (with_reducible rfl) | decide) ?_
             | refine WQ_noU rfl rfl ?_
             | ((refine WQ_split rfl rfl (fun c' hc' => ?_)); cases c' <;> (try simp only [decide_eq_true_eq, decide_eq_false_iff_not, beq_iff_eq, beq_eq_false_iff_ne, bne_iff_ne, bne_eq_false_iff_eq, ne_eq, gt_iff_lt, ge_iff_le, Int.not_lt, Int.not_le, Bool.not_eq_true', Bool.not_eq_false', Bool.not_true, Bool.not_false, reduceCtorEq, Decidable.not_not, Bool.true_eq_false, Bool.false_eq_true] at hc') <;> (try (exfalso; omega))))
          | (refine iqFA ?_
             first
             | refine WQ_p (q_fieldAddr0 rfl rfl) ?_
             | refine WQ_p (q_fieldAddr rfl rfl) ?_)
          | (refine iqLd ?_
             first
             | refine WQ_p (q_loadB rfl (by assumption) (by rfl)) ?_
             | refine WQ_p (q_load1 rfl (by assumption)) ?_)
          | (refine iqIA ?_; refine WQ_p (q_indexAddr rfl rfl rfl (by omega)) ?_)
          | (refine iqPk ?_
             first
             | refine WQ_p (q_pickT rfl (by first | (with_reducible rfl) | decide) rfl) ?_
             | refine WQ_p (q_pickF rfl (by first | (with_reducible rfl) | decide) rfl) ?_)
          | (refine iqBi ?_
             first
             | refine WQ_p (q_lenSl rfl) ?_
             | refine WQ_p (q_lenStr rfl) ?_)
          | (refine iqBo ?_
             first
             | refine WQ_p (q_add rfl rfl (by omega)) ?_
             | refine WQ_p (q_sub rfl rfl (by omega)) ?_
             | refine WQ_p (q_mul rfl rfl (by omega)) ?_
             | refine WQ_p (q_rem rfl rfl (by omega) (by omega)) ?_
             | refine WQ_p (q_quo rfl rfl (by omega) (by omega) (by omega)) ?_
             | refine WQ_p (q_neBool rfl rfl) ?_
             | refine WQ_p (q_eqBool rfl rfl) ?_)
          | (refine iqCv ?_; refine WQ_p (q_convert rfl (wrap_i64_in ⟨by omega, by omega⟩)) ?_)
          | refine WQ_end fun w' hw' => ?_)
        generalize hX : (x : Int) * 131 + (y : Int) * 1117 + (p : Int) * 29 + (p : Int) / (m : Int) * 53 = X
        have hX0 : 0 ≤ X ∧ X ≤ 1000000000000000 := by omega
        repeat (first
          | (refine idWO ?_
             first
             | refine WO_simple rfl ?_
             | (refine idG ?_
                first
                | refine WO_yes rfl rfl (by first | (with_reducible rfl) | decide) ?_
                | refine WO_no rfl rfl (by first | (with_reducible rfl) | decide) ?_
                | refine WO_noU rfl rfl ?_)
             | (refine idFA ?_
                first
                | refine WO_fieldAddr0 rfl rfl ?_
                | refine WO_fieldAddr rfl rfl ?_)
             | (refine idLd ?_
                first
                | refine WO_loadB rfl (by assumption) (by rfl) ?_
                | refine WO_load1 rfl (by assumption) ?_)
             | (refine idPk ?_
                first
                | refine WO_p (q_pickT rfl (by first | (with_reducible rfl) | decide) rfl) ?_
                | refine WO_p (q_pickF rfl (by first | (with_reducible rfl) | decide) rfl) ?_)
             | (refine idBi ?_
                first
                | refine WO_lenSl rfl ?_
                | refine WO_lenStr rfl ?_)
             | (refine idBo ?_
                first
                | refine WO_add rfl rfl (by omega) ?_
                | refine WO_sub rfl rfl (by omega) ?_
                | refine WO_mul rfl rfl (by omega) ?_
                | refine WO_rem rfl rfl (by omega) (by omega) ?_
                | refine WO_quo rfl rfl (by omega) (by omega) (by omega) ?_
                | refine WO_p (q_neBool rfl rfl) ?_
                | refine WO_p (q_eqBool rfl rfl) ?_)
             | (refine idCv ?_; refine WO_p (q_convert rfl (wrap_i64_in ⟨by omega, by omega⟩)) ?_)
             | (refine idBuild ?_; refine WO_p (q_build rfl (by rfl) (by simp only [fillS, List.set_cons_zero, List.set_cons_succ]; rfl)) ?_)
             | refine WO_nil ?_)
          | (refine idAt ?_
             first
             | refine at_next ?_
             | refine at_block ?_
             | refine at_next_exit ?_
             | refine at_next_ret ?_
             | refine at_block_exit ?_
             | refine at_block_other rfl ?_
             | refine at_block_ret ?_
             | refine at_loop_exit ?_
             | refine at_loop_ret ?_)
          | (refine idW ?_
             first
             | refine W_seq ?_
             | refine W_region ?_
             | refine W_block ?_
             | refine W_skip ?_
             | refine W_exit ?_
             | refine W_ret ?_
             | refine W_condT rfl (by first | (with_reducible rfl) | decide) ?_
             | refine W_condF rfl (by first | (with_reducible rfl) | decide) ?_))
        refine WO_p (q_xor (a := X.toNat) (b := (X / 64).toNat) rfl rfl (by omega) (by omega) (by omega) (by omega)) ?_
        repeat (first
          | (refine idWO ?_
             first
             | refine WO_simple rfl ?_
             | (refine idG ?_
                first
                | refine WO_yes rfl rfl (by first | (with_reducible rfl) | decide) ?_
                | refine WO_no rfl rfl (by first | (with_reducible rfl) | decide) ?_
                | refine WO_noU rfl rfl ?_)
             | (refine idFA ?_
                first
                | refine WO_fieldAddr0 rfl rfl ?_
                | refine WO_fieldAddr rfl rfl ?_)
             | (refine idLd ?_
                first
                | refine WO_loadB rfl (by assumption) (by rfl) ?_
                | refine WO_load1 rfl (by assumption) ?_)
             | (refine idPk ?_
                first
                | refine WO_p (q_pickT rfl (by first | (with_reducible rfl) | decide) rfl) ?_
                | refine WO_p (q_pickF rfl (by first | (with_reducible rfl) | decide) rfl) ?_)
             | (refine idBi ?_
                first
                | refine WO_lenSl rfl ?_
                | refine WO_lenStr rfl ?_)
             | (refine idBo ?_
                first
                | refine WO_add rfl rfl (by omega) ?_
                | refine WO_sub rfl rfl (by omega) ?_
                | refine WO_mul rfl rfl (by omega) ?_
                | refine WO_rem rfl rfl (by omega) (by omega) ?_
                | refine WO_quo rfl rfl (by omega) (by omega) (by omega) ?_
                | refine WO_p (q_neBool rfl rfl) ?_
                | refine WO_p (q_eqBool rfl rfl) ?_)
             | (refine idCv ?_; refine WO_p (q_convert rfl (wrap_i64_in ⟨by omega, by omega⟩)) ?_)
             | (refine idBuild ?_; refine WO_p (q_build rfl (by rfl) (by simp only [fillS, List.set_cons_zero, List.set_cons_succ]; rfl)) ?_)
             | refine WO_nil ?_)
          | (refine idAt ?_
             first
             | refine at_next ?_
             | refine at_block ?_
             | refine at_next_exit ?_
             | refine at_next_ret ?_
             | refine at_block_exit ?_
             | refine at_block_other rfl ?_
             | refine at_block_ret ?_
             | refine at_loop_exit ?_
             | refine at_loop_ret ?_)
          | (refine idW ?_
             first
             | refine W_seq ?_
             | refine W_region ?_
             | refine W_block ?_
             | refine W_skip ?_
             | refine W_exit ?_
             | refine W_ret ?_
             | refine W_condT rfl (by first | (with_reducible rfl) | decide) ?_
             | refine W_condF rfl (by first | (with_reducible rfl) | decide) ?_))
        refine at_ret1 rfl rfl ⟨(((X.toNat ^^^ (X / 64).toNat : Nat) : Int) % n).toNat, ?_, ?_, by omega, hr1 _ hw'⟩
        · have := Int.emod_nonneg ((X.toNat ^^^ (X / 64).toNat : Nat) : Int) (show n ≠ 0 by omega)
          rw [Int.toNat_of_nonneg this]
        · intro h1
          have := Int.emod_nonneg ((X.toNat ^^^ (X / 64).toNat : Nat) : Int) (show n ≠ 0 by omega)
          have := Int.emod_lt_of_pos ((X.toNat ^^^ (X / 64).toNat : Nat) : Int) (show 0 < n by omega)
          omega
theorem num_ret (rb p : Nat) (v : Value) (l : List Int) (F : List Nat) (w : World) (h : RdB w rb p) (hp : p ≤ 1000000000000) (hl : IntF w v l F) (hne : l ≠ []) (hF : ∀ b ∈ F, b ≠ rb) :
    Ret Try.prog 30 [.pointer (some ⟨rb, 0, none⟩), v] w fun v w' => ∃ z ∈ l, v = .int .i64 z ∧ RdB w' rb (p + 1) ∧ Chg [rb] w w' := by
  obtain ⟨A, c, rfl, hlen, hx⟩ := hl
  have hpos : 0 < l.length := List.length_pos_iff.2 hne
  refine enter Try.func30 rfl Try.ntmps30 rfl rfl ?_
  repeat (first
    | (refine idWO ?_
       first
       | refine WO_simple rfl ?_
       | (refine idG ?_
          first
          | refine WO_yes rfl rfl (by first | (with_reducible rfl) | decide) ?_
          | refine WO_no rfl rfl (by first | (with_reducible rfl) | decide) ?_
          | refine WO_noU rfl rfl ?_)
       | (refine idFA ?_
          first
          | refine WO_fieldAddr0 rfl rfl ?_
          | refine WO_fieldAddr rfl rfl ?_)
       | (refine idLd ?_
          first
          | refine WO_loadB rfl (by assumption) (by rfl) ?_
          | refine WO_load1 rfl (by assumption) ?_)
       | (refine idPk ?_
          first
          | refine WO_p (q_pickT rfl (by first | (with_reducible rfl) | decide) rfl) ?_
          | refine WO_p (q_pickF rfl (by first | (with_reducible rfl) | decide) rfl) ?_)
       | (refine idBi ?_
          first
          | refine WO_lenSl rfl ?_
          | refine WO_lenStr rfl ?_)
       | (refine idBo ?_
          first
          | refine WO_add rfl rfl (by omega) ?_
          | refine WO_sub rfl rfl (by omega) ?_
          | refine WO_mul rfl rfl (by omega) ?_
          | refine WO_rem rfl rfl (by omega) (by omega) ?_
          | refine WO_quo rfl rfl (by omega) (by omega) (by omega) ?_
          | refine WO_p (q_neBool rfl rfl) ?_
          | refine WO_p (q_eqBool rfl rfl) ?_)
       | (refine idCv ?_; refine WO_p (q_convert rfl (wrap_i64_in ⟨by omega, by omega⟩)) ?_)
       | (refine idBuild ?_; refine WO_p (q_build rfl (by rfl) (by simp only [fillS, List.set_cons_zero, List.set_cons_succ]; rfl)) ?_)
       | refine WO_nil ?_)
    | (refine idAt ?_
       first
       | refine at_next ?_
       | refine at_block ?_
       | refine at_next_exit ?_
       | refine at_next_ret ?_
       | refine at_block_exit ?_
       | refine at_block_other rfl ?_
       | refine at_block_ret ?_
       | refine at_loop_exit ?_
       | refine at_loop_ret ?_)
    | (refine idW ?_
       first
       | refine W_seq ?_
       | refine W_region ?_
       | refine W_block ?_
       | refine W_skip ?_
       | refine W_exit ?_
       | refine W_ret ?_
       | refine W_condT rfl (by first | (with_reducible rfl) | decide) ?_
       | refine W_condF rfl (by first | (with_reducible rfl) | decide) ?_))
  refine WO_call rfl (pick_ret rb p (l.length : Int) w h hp) ?_
  rintro v w1 ⟨k, rfl, hk, _, hr, hc⟩
  have hk := hk (by omega)
  obtain ⟨b, o, rfl, rfl, hcell⟩ := int_at hx (show k < l.length by omega)
  have hcell := cell_chg hcell hc (by have := hF b (by simp); simpa using this)
  repeat (first
    | (refine idWO ?_
       first
       | refine WO_simple rfl ?_
       | (refine idG ?_
          first
          | refine WO_yes rfl rfl (by first | (with_reducible rfl) | decide) ?_
          | refine WO_no rfl rfl (by first | (with_reducible rfl) | decide) ?_
          | refine WO_noU rfl rfl ?_)
       | (refine idFA ?_
          first
          | refine WO_fieldAddr0 rfl rfl ?_
          | refine WO_fieldAddr rfl rfl ?_)
       | (refine idLd ?_
          first
          | refine WO_loadB rfl (by assumption) (by rfl) ?_
          | refine WO_load1 rfl (by assumption) ?_)
       | (refine idPk ?_
          first
          | refine WO_p (q_pickT rfl (by first | (with_reducible rfl) | decide) rfl) ?_
          | refine WO_p (q_pickF rfl (by first | (with_reducible rfl) | decide) rfl) ?_)
       | (refine idBi ?_
          first
          | refine WO_lenSl rfl ?_
          | refine WO_lenStr rfl ?_)
       | (refine idBo ?_
          first
          | refine WO_add rfl rfl (by omega) ?_
          | refine WO_sub rfl rfl (by omega) ?_
          | refine WO_mul rfl rfl (by omega) ?_
          | refine WO_rem rfl rfl (by omega) (by omega) ?_
          | refine WO_quo rfl rfl (by omega) (by omega) (by omega) ?_
          | refine WO_p (q_neBool rfl rfl) ?_
          | refine WO_p (q_eqBool rfl rfl) ?_)
       | (refine idCv ?_; refine WO_p (q_convert rfl (wrap_i64_in ⟨by omega, by omega⟩)) ?_)
       | (refine idBuild ?_; refine WO_p (q_build rfl (by rfl) (by simp only [fillS, List.set_cons_zero, List.set_cons_succ]; rfl)) ?_)
       | refine WO_nil ?_)
    | (refine idAt ?_
       first
       | refine at_next ?_
       | refine at_block ?_
       | refine at_next_exit ?_
       | refine at_next_ret ?_
       | refine at_block_exit ?_
       | refine at_block_other rfl ?_
       | refine at_block_ret ?_
       | refine at_loop_exit ?_
       | refine at_loop_ret ?_)
    | (refine idW ?_
       first
       | refine W_seq ?_
       | refine W_region ?_
       | refine W_block ?_
       | refine W_skip ?_
       | refine W_exit ?_
       | refine W_ret ?_
       | refine W_condT rfl (by first | (with_reducible rfl) | decide) ?_
       | refine W_condF rfl (by first | (with_reducible rfl) | decide) ?_))
  refine WO_indexAddr rfl rfl rfl (by omega) ?_
  repeat (first
    | (refine idWO ?_
       first
       | refine WO_simple rfl ?_
       | (refine idG ?_
          first
          | refine WO_yes rfl rfl (by first | (with_reducible rfl) | decide) ?_
          | refine WO_no rfl rfl (by first | (with_reducible rfl) | decide) ?_
          | refine WO_noU rfl rfl ?_)
       | (refine idFA ?_
          first
          | refine WO_fieldAddr0 rfl rfl ?_
          | refine WO_fieldAddr rfl rfl ?_)
       | (refine idLd ?_
          first
          | refine WO_loadB rfl (by assumption) (by rfl) ?_
          | refine WO_load1 rfl (by assumption) ?_)
       | (refine idPk ?_
          first
          | refine WO_p (q_pickT rfl (by first | (with_reducible rfl) | decide) rfl) ?_
          | refine WO_p (q_pickF rfl (by first | (with_reducible rfl) | decide) rfl) ?_)
       | (refine idBi ?_
          first
          | refine WO_lenSl rfl ?_
          | refine WO_lenStr rfl ?_)
       | (refine idBo ?_
          first
          | refine WO_add rfl rfl (by omega) ?_
          | refine WO_sub rfl rfl (by omega) ?_
          | refine WO_mul rfl rfl (by omega) ?_
          | refine WO_rem rfl rfl (by omega) (by omega) ?_
          | refine WO_quo rfl rfl (by omega) (by omega) (by omega) ?_
          | refine WO_p (q_neBool rfl rfl) ?_
          | refine WO_p (q_eqBool rfl rfl) ?_)
       | (refine idCv ?_; refine WO_p (q_convert rfl (wrap_i64_in ⟨by omega, by omega⟩)) ?_)
       | (refine idBuild ?_; refine WO_p (q_build rfl (by rfl) (by simp only [fillS, List.set_cons_zero, List.set_cons_succ]; rfl)) ?_)
       | refine WO_nil ?_)
    | (refine idAt ?_
       first
       | refine at_next ?_
       | refine at_block ?_
       | refine at_next_exit ?_
       | refine at_next_ret ?_
       | refine at_block_exit ?_
       | refine at_block_other rfl ?_
       | refine at_block_ret ?_
       | refine at_loop_exit ?_
       | refine at_loop_ret ?_)
    | (refine idW ?_
       first
       | refine W_seq ?_
       | refine W_region ?_
       | refine W_block ?_
       | refine W_skip ?_
       | refine W_exit ?_
       | refine W_ret ?_
       | refine W_condT rfl (by first | (with_reducible rfl) | decide) ?_
       | refine W_condF rfl (by first | (with_reducible rfl) | decide) ?_))
  exact at_ret1 rfl rfl ⟨_, List.getElem_mem _, rfl, hr, hc⟩
end Go.Proofs.Ytlikmgdggdapiaa
