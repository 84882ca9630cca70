/-
  What is proved here: the drawn programs with the place of a statement.
-/
import Derived.Test.YtpmgfokcbgdegaaDrS
namespace Go.Proofs.Ytpmgfokcbgdegaa
set_option linter.unusedVariables false
set_option linter.unusedSimpArgs false
set_option linter.unnecessarySimpa false
open Go.RowKit

/-- A program of bounded size that can be read, in new memory, and a number. -/
def AnyK (w : World) (r : Value) (w' : World) : Prop := ∃ tv bv tl l Ft Fb, ∃ k : Int, r = .tuple #[prV tv bv, .int .i64 k] ∧ IntF w' tv tl Ft ∧ StS w' bv l Fb ∧ (∀ x ∈ Ft ++ Fb, w.heap.size ≤ x ∧ x < w'.heap.size) ∧ (tl.length ≤ 20000 ∧ cntL l ≤ 20000) ∧ (-1 ≤ k ∧ k ≤ 30000) ∧ Ext w w'
/-- What stands behind the region that leaves the program and the number. -/
def KIn (e : TypeId) (s2 s3 zb rb : Nat) (tv bv : Value) (w : World) (τ : Env) (w' : World) : Prop := ∃ k : Int, τ = [(s2, .pointer (some ⟨zb, 0, none⟩)), (s3, .int .i64 k)] ∧ (-1 ≤ k ∧ k ≤ 30000) ∧ Blk w' zb [tv, bv] e ∧ Chg [rb, zb] w w'
theorem pick_any (rb q : Nat) (n : Int) (w : World) (h : RdU w rb q) (hq : q ≤ 1000000000000) :
    Ret Try.prog 20 [.pointer (some ⟨rb, 0, none⟩), .int .i64 n] w fun v w' => ∃ k : Nat, v = .int .i64 (k : Int) ∧ ((k : Int) < n ∨ k = 0) ∧ RdU w' rb (q + 1) ∧ Chg [rb] w w' := by
  obtain ⟨p, hp, hr⟩ := h
  refine (pick_ret rb p n w hr (by omega)).mono fun v w' ⟨k, h1, h2, h3, h4, h5⟩ => ⟨k, h1, ?_, ⟨p + 1, by omega, h4⟩, h5⟩
  by_cases hn : 1 ≤ n
  · exact .inl (h2 hn)
  · exact .inr (h3 (by omega))
theorem l11Place_ret (v : Value) (w : World) (hd : ByD w v) : Ret Try.prog 18 [v] w (AnyK w) := by
  refine enter Try.func18 rfl Try.ntmps18 rfl rfl ?_
  refine Z43 (Z44 (WO_alloc fun w0 hz ez zz => ?_))
  replace hz : Blk w0 w.heap.size [.slice none 0 0, .slice none 0 0] _ := hz
  have s0 := hz.lt
  refine goS ?_
  refine WO_call rfl (openU_ret v w0 (hd.ext ez)) ?_
  rintro _ w1 ⟨rb, rfl, hrb, hr, e1⟩
  have s1 := e1.size_le
  refine goS ?_
  refine WO_call rfl (l1Draw_ret rb 0 w1 hr (by omega)) ?_
  rintro _ w2 ⟨⟨tv0, bv0, tl0, l0, Ft0, Fb0, rfl, d1, d2, d3, d4, d5⟩, hr2, c2⟩
  have s2 := c2.size
  have hrl := hr.lt
  refine WO_call rfl (l1Mutate_ret rb (0 + 1000) 600 tv0 bv0 tl0 l0 w2 hr2 (by omega) (DrP.drD d1 d2 d3 (by omega)) d4 d5 (by omega)) ?_
  rintro _ w3 ⟨⟨tv, bv, tl, l, Ft, Fb, rfl, h1, h2, h3, htl, hl⟩, hr3, c3⟩
  have s3 := c3.size
  have o1 := h1.one
  have o2 := h2.one
  have hz3 := ((hz.ext e1).chg c2 (by simp; omega)).chg c3 (by simp; omega)
  have e03 : Ext w w3 := (c2.trans c3).ext_of (ez.trans e1) (by simp; omega)
  refine WO_alloc fun w4 hp4 e4 z4 => ?_
  refine WO_storeS (k := 2) (vs := [tv, bv]) rfl rfl rfl (by simp; exact ⟨o1, o2⟩) hp4 (by decide) fun w5 hp o5 => ?_
  replace hp : Blk w5 w3.heap.size [tv, bv] _ := hp
  have e5 : Ext w3 w5 := e4.only o5 (Nat.le_refl _)
  replace h1 := h1.ext e5
  replace h2 := h2.ext e5
  have hz5 := hz3.ext e5
  have hr5 := hr3.ext e5
  have e05 := e03.trans e5
  have s5 := hp.lt
  have hlc := len_le_cntL l
  obtain ⟨A, c, rfl, hlm, hlc2⟩ := h2.slice
  unfold maxI at hlm
  refine goS ?_
  by_cases h0 : l.len = 0
  · rw [show (((l.len : Nat) : Int) == 0) = true from by rw [beq_iff_eq]; omega]
    refine goS ?_
    refine W_held0E [rb, w.heap.size] (KIn 26 2 3 w.heap.size rb tv (.slice A l.len c) w5) (by kernel_rfl) (fun ws es hS => ?_) (fun τ w8 hR => ?_)
    · have hps := Blk.ext hp es
      have hzs := Blk.ext hz5 es
      have hrs := RdU.ext hr5 es
      have hlr := hrs.lt
      have ss := es.size_le
      refine Z82 0 rfl (by kernel_rfl) (by kernel_rfl) (by kernel_rfl) (by assumption) (fun w' hw' => q_loadS (cs := [tv, .slice A l.len c]) rfl rfl (blk_cells (hps.chg hw' (by simp; omega)))) ?_
      first | refine Z82 1 rfl (by kernel_rfl) (by kernel_rfl) (by kernel_rfl) (by assumption) (fun w' hw' => Z56 rfl) ?_ | refine Z82 1 rfl (by kernel_rfl) (by kernel_rfl) (by kernel_rfl) (by assumption) (fun w' hw' => Z63 rfl rfl) ?_ | refine Z82 1 rfl (by kernel_rfl) (by kernel_rfl) (by kernel_rfl) (by assumption) (fun w' hw' => Z64 rfl rfl) ?_ | refine Z82 1 rfl (by kernel_rfl) (by kernel_rfl) (by kernel_rfl) (by assumption) (fun w' hw' => Z75 rfl rfl (by omega)) ?_ | refine Z82 1 rfl (by kernel_rfl) (by kernel_rfl) (by kernel_rfl) (by assumption) (fun w' hw' => Z72 rfl) ?_ | refine Z82 1 rfl (by kernel_rfl) (by kernel_rfl) (by kernel_rfl) (by assumption) (fun w' hw' => Z69 rfl rfl rfl (by omega)) ?_ | refine Z82 1 rfl (by kernel_rfl) (by kernel_rfl) (by kernel_rfl) (by assumption) (fun w' hw' => Z30 rfl (by rfl) (by simp only [Z84, List.set_cons_zero, List.set_cons_succ]; rfl)) ?_
      refine WH_one 2 rfl (by kernel_rfl) (WO_ints [0, -1, 40] rfl rfl (by decide) (by decide) fun wa hia ea za => Z31 (at_held (ea.chg _) ?_))
      refine WX_call 3 rfl (by kernel_rfl) rfl (numU_ret rb (0 + 1000 + 3) _ [0, -1, 40] _ wa (hrs.ext ea) (by omega) hia.int (by decide) (by simp; omega)) ?_
      rintro _ wb ⟨y, hy, rfl, hrb', cb⟩
      have Sb : Chg [rb, w.heap.size] ws wb := (ea.chg _).trans (cb.mono (by simp))
      refine ⟨Sb, ?_⟩
      have hyb : -1 ≤ y ∧ y ≤ 30000 := by simp at hy; omega
      have hzb := (hzs.ext ea).chg cb (by simp; omega)
      refine WH_one 4 rfl (by kernel_rfl) (WO_storeS (k := 2) (vs := [tv, .slice A l.len c]) rfl rfl rfl (by simp; exact ⟨o1, rfl⟩) hzb (by decide) fun wf hzf of_ => Z31 (at_held (Sb.trans (of_.chg.mono (by simp))) ?_))
      replace hzf : Blk wf w.heap.size [tv, .slice A l.len c] _ := hzf
      have Sf : Chg [rb, w.heap.size] ws wf := Sb.trans (of_.chg.mono (by simp))
      first | refine Z82 5 rfl (by kernel_rfl) (by kernel_rfl) (by kernel_rfl) (by assumption) (fun w' hw' => Z56 rfl) ?_ | refine Z82 5 rfl (by kernel_rfl) (by kernel_rfl) (by kernel_rfl) (by assumption) (fun w' hw' => Z63 rfl rfl) ?_ | refine Z82 5 rfl (by kernel_rfl) (by kernel_rfl) (by kernel_rfl) (by assumption) (fun w' hw' => Z64 rfl rfl) ?_ | refine Z82 5 rfl (by kernel_rfl) (by kernel_rfl) (by kernel_rfl) (by assumption) (fun w' hw' => Z75 rfl rfl (by omega)) ?_ | refine Z82 5 rfl (by kernel_rfl) (by kernel_rfl) (by kernel_rfl) (by assumption) (fun w' hw' => Z72 rfl) ?_ | refine Z82 5 rfl (by kernel_rfl) (by kernel_rfl) (by kernel_rfl) (by assumption) (fun w' hw' => Z69 rfl rfl rfl (by omega)) ?_ | refine Z82 5 rfl (by kernel_rfl) (by kernel_rfl) (by kernel_rfl) (by assumption) (fun w' hw' => Z30 rfl (by rfl) (by simp only [Z84, List.set_cons_zero, List.set_cons_succ]; rfl)) ?_
      exact WH_doneE (by kernel_rfl) (by repeat (first | exact True.intro | refine And.intro rfl ?_)) ⟨_, rfl, hyb, hzf, (es.chg _).trans (Sb.trans (of_.chg.mono (by simp)))⟩
    · have h1 := h1
      have h2 := h2
      obtain ⟨k, rfl, hk, hz8, c8⟩ := hR
      have s8 := c8.size
      refine goS ?_
      exact at_ret2G rfl (.cell inferInstance rfl hz8 rfl) (.tmp rfl) ⟨tv, _, tl, l, Ft, Fb, k, rfl, h1.chg c8 (fun z hz => by have := h3 z (by simp [hz]); simp; omega), h2.chg c8 (fun z hz => by have := h3 z (by simp [hz]); simp; omega), fun z hz => by have := h3 z hz; omega, by omega, hk, c8.ext_of e05 (by simp; omega)⟩
  · rw [show (((l.len : Nat) : Int) == 0) = false from by rw [beq_eq_false_iff_ne]; omega]
    refine goS ?_
    refine WO_call rfl (pickU_ret rb (0 + 1000 + 3) 12 w5 hr5 (by omega) (by decide)) ?_
    rintro _ w6 ⟨m, rfl, hm, hr6, c6⟩
    have hp6 := hp.chg c6 (by simp; omega)
    have hz6 := hz5.chg c6 (by simp; omega)
    have e06 : Ext w w6 := c6.ext_of e05 (by simp; omega)
    have h16 := h1.chg c6 (fun z hz => by have := h3 z (by simp [hz]); simp; omega)
    have h26 := h2.chg c6 (fun z hz => by have := h3 z (by simp [hz]); simp; omega)
    have s6 := c6.size
    by_cases hm0 : m = 0
    · subst hm0
      refine goS ?_
      refine W_held0E [rb, w.heap.size] (KIn 26 2 3 w.heap.size rb tv (.slice A l.len c) w6) (by kernel_rfl) (fun ws es hS => ?_) (fun τ w8 hR => ?_)
      · have hps := Blk.ext hp6 es
        have hzs := Blk.ext hz6 es
        have hrs := RdU.ext hr6 es
        have hlr := hrs.lt
        have ss := es.size_le
        refine Z82 0 rfl (by kernel_rfl) (by kernel_rfl) (by kernel_rfl) (by assumption) (fun w' hw' => q_loadS (cs := [tv, .slice A l.len c]) rfl rfl (blk_cells (hps.chg hw' (by simp; omega)))) ?_
        first | refine Z82 1 rfl (by kernel_rfl) (by kernel_rfl) (by kernel_rfl) (by assumption) (fun w' hw' => Z56 rfl) ?_ | refine Z82 1 rfl (by kernel_rfl) (by kernel_rfl) (by kernel_rfl) (by assumption) (fun w' hw' => Z63 rfl rfl) ?_ | refine Z82 1 rfl (by kernel_rfl) (by kernel_rfl) (by kernel_rfl) (by assumption) (fun w' hw' => Z64 rfl rfl) ?_ | refine Z82 1 rfl (by kernel_rfl) (by kernel_rfl) (by kernel_rfl) (by assumption) (fun w' hw' => Z75 rfl rfl (by omega)) ?_ | refine Z82 1 rfl (by kernel_rfl) (by kernel_rfl) (by kernel_rfl) (by assumption) (fun w' hw' => Z72 rfl) ?_ | refine Z82 1 rfl (by kernel_rfl) (by kernel_rfl) (by kernel_rfl) (by assumption) (fun w' hw' => Z69 rfl rfl rfl (by omega)) ?_ | refine Z82 1 rfl (by kernel_rfl) (by kernel_rfl) (by kernel_rfl) (by assumption) (fun w' hw' => Z30 rfl (by rfl) (by simp only [Z84, List.set_cons_zero, List.set_cons_succ]; rfl)) ?_
        refine WH_one 2 rfl (by kernel_rfl) (WO_ints [0, -1, 40] rfl rfl (by decide) (by decide) fun wa hia ea za => Z31 (at_held (ea.chg _) ?_))
        refine WX_call 3 rfl (by kernel_rfl) rfl (numU_ret rb (0 + 1000 + 3 + 1) _ [0, -1, 40] _ wa (hrs.ext ea) (by omega) hia.int (by decide) (by simp; omega)) ?_
        rintro _ wb ⟨y, hy, rfl, hrb', cb⟩
        have Sb : Chg [rb, w.heap.size] ws wb := (ea.chg _).trans (cb.mono (by simp))
        refine ⟨Sb, ?_⟩
        have hyb : -1 ≤ y ∧ y ≤ 30000 := by simp at hy; omega
        have hzb := (hzs.ext ea).chg cb (by simp; omega)
        refine WH_one 4 rfl (by kernel_rfl) (WO_storeS (k := 2) (vs := [tv, .slice A l.len c]) rfl rfl rfl (by simp; exact ⟨o1, rfl⟩) hzb (by decide) fun wf hzf of_ => Z31 (at_held (Sb.trans (of_.chg.mono (by simp))) ?_))
        replace hzf : Blk wf w.heap.size [tv, .slice A l.len c] _ := hzf
        have Sf : Chg [rb, w.heap.size] ws wf := Sb.trans (of_.chg.mono (by simp))
        first | refine Z82 5 rfl (by kernel_rfl) (by kernel_rfl) (by kernel_rfl) (by assumption) (fun w' hw' => Z56 rfl) ?_ | refine Z82 5 rfl (by kernel_rfl) (by kernel_rfl) (by kernel_rfl) (by assumption) (fun w' hw' => Z63 rfl rfl) ?_ | refine Z82 5 rfl (by kernel_rfl) (by kernel_rfl) (by kernel_rfl) (by assumption) (fun w' hw' => Z64 rfl rfl) ?_ | refine Z82 5 rfl (by kernel_rfl) (by kernel_rfl) (by kernel_rfl) (by assumption) (fun w' hw' => Z75 rfl rfl (by omega)) ?_ | refine Z82 5 rfl (by kernel_rfl) (by kernel_rfl) (by kernel_rfl) (by assumption) (fun w' hw' => Z72 rfl) ?_ | refine Z82 5 rfl (by kernel_rfl) (by kernel_rfl) (by kernel_rfl) (by assumption) (fun w' hw' => Z69 rfl rfl rfl (by omega)) ?_ | refine Z82 5 rfl (by kernel_rfl) (by kernel_rfl) (by kernel_rfl) (by assumption) (fun w' hw' => Z30 rfl (by rfl) (by simp only [Z84, List.set_cons_zero, List.set_cons_succ]; rfl)) ?_
        exact WH_doneE (by kernel_rfl) (by repeat (first | exact True.intro | refine And.intro rfl ?_)) ⟨_, rfl, hyb, hzf, (es.chg _).trans (Sb.trans (of_.chg.mono (by simp)))⟩
      · have h1 := h16
        have h2 := h26
        obtain ⟨k, rfl, hk, hz8, c8⟩ := hR
        have s8 := c8.size
        refine goS ?_
        exact at_ret2G rfl (.cell inferInstance rfl hz8 rfl) (.tmp rfl) ⟨tv, _, tl, l, Ft, Fb, k, rfl, h1.chg c8 (fun z hz => by have := h3 z (by simp [hz]); simp; omega), h2.chg c8 (fun z hz => by have := h3 z (by simp [hz]); simp; omega), fun z hz => by have := h3 z hz; omega, by omega, hk, c8.ext_of e06 (by simp; omega)⟩
    · refine goS ?_
      rw [show (((m : Nat) : Int) == 0) = false from by rw [beq_eq_false_iff_ne]; omega]
      refine goS ?_
      refine W_held0E [rb, w.heap.size] (KIn 26 2 3 w.heap.size rb tv (.slice A l.len c) w6) (by kernel_rfl) (fun ws es hS => ?_) (fun τ w8 hR => ?_)
      · have hps := hp6.ext es
        have hzs := hz6.ext es
        have hrs := hr6.ext es
        have ss := es.size_le
        refine Z82 0 rfl (by kernel_rfl) (by kernel_rfl) (by kernel_rfl) (by assumption) (fun w' hw' => q_loadS (cs := [tv, .slice A l.len c]) rfl rfl (blk_cells (hps.chg hw' (by simp; omega)))) ?_
        first | refine Z82 1 rfl (by kernel_rfl) (by kernel_rfl) (by kernel_rfl) (by assumption) (fun w' hw' => Z56 rfl) ?_ | refine Z82 1 rfl (by kernel_rfl) (by kernel_rfl) (by kernel_rfl) (by assumption) (fun w' hw' => Z63 rfl rfl) ?_ | refine Z82 1 rfl (by kernel_rfl) (by kernel_rfl) (by kernel_rfl) (by assumption) (fun w' hw' => Z64 rfl rfl) ?_ | refine Z82 1 rfl (by kernel_rfl) (by kernel_rfl) (by kernel_rfl) (by assumption) (fun w' hw' => Z75 rfl rfl (by omega)) ?_ | refine Z82 1 rfl (by kernel_rfl) (by kernel_rfl) (by kernel_rfl) (by assumption) (fun w' hw' => Z72 rfl) ?_ | refine Z82 1 rfl (by kernel_rfl) (by kernel_rfl) (by kernel_rfl) (by assumption) (fun w' hw' => Z69 rfl rfl rfl (by omega)) ?_ | refine Z82 1 rfl (by kernel_rfl) (by kernel_rfl) (by kernel_rfl) (by assumption) (fun w' hw' => Z30 rfl (by rfl) (by simp only [Z84, List.set_cons_zero, List.set_cons_succ]; rfl)) ?_
        first | refine Z82 2 rfl (by kernel_rfl) (by kernel_rfl) (by kernel_rfl) (by assumption) (fun w' hw' => Z56 rfl) ?_ | refine Z82 2 rfl (by kernel_rfl) (by kernel_rfl) (by kernel_rfl) (by assumption) (fun w' hw' => Z63 rfl rfl) ?_ | refine Z82 2 rfl (by kernel_rfl) (by kernel_rfl) (by kernel_rfl) (by assumption) (fun w' hw' => Z64 rfl rfl) ?_ | refine Z82 2 rfl (by kernel_rfl) (by kernel_rfl) (by kernel_rfl) (by assumption) (fun w' hw' => Z75 rfl rfl (by omega)) ?_ | refine Z82 2 rfl (by kernel_rfl) (by kernel_rfl) (by kernel_rfl) (by assumption) (fun w' hw' => Z72 rfl) ?_ | refine Z82 2 rfl (by kernel_rfl) (by kernel_rfl) (by kernel_rfl) (by assumption) (fun w' hw' => Z69 rfl rfl rfl (by omega)) ?_ | refine Z82 2 rfl (by kernel_rfl) (by kernel_rfl) (by kernel_rfl) (by assumption) (fun w' hw' => Z30 rfl (by rfl) (by simp only [Z84, List.set_cons_zero, List.set_cons_succ]; rfl)) ?_
        refine Z82 3 rfl (by kernel_rfl) (by kernel_rfl) (by kernel_rfl) (by assumption) (fun w' hw' => Z66 rfl (hps.chg hw' (by simp; omega)) rfl) ?_
        first | refine Z82 4 rfl (by kernel_rfl) (by kernel_rfl) (by kernel_rfl) (by assumption) (fun w' hw' => Z56 rfl) ?_ | refine Z82 4 rfl (by kernel_rfl) (by kernel_rfl) (by kernel_rfl) (by assumption) (fun w' hw' => Z63 rfl rfl) ?_ | refine Z82 4 rfl (by kernel_rfl) (by kernel_rfl) (by kernel_rfl) (by assumption) (fun w' hw' => Z64 rfl rfl) ?_ | refine Z82 4 rfl (by kernel_rfl) (by kernel_rfl) (by kernel_rfl) (by assumption) (fun w' hw' => Z75 rfl rfl (by omega)) ?_ | refine Z82 4 rfl (by kernel_rfl) (by kernel_rfl) (by kernel_rfl) (by assumption) (fun w' hw' => Z72 rfl) ?_ | refine Z82 4 rfl (by kernel_rfl) (by kernel_rfl) (by kernel_rfl) (by assumption) (fun w' hw' => Z69 rfl rfl rfl (by omega)) ?_ | refine Z82 4 rfl (by kernel_rfl) (by kernel_rfl) (by kernel_rfl) (by assumption) (fun w' hw' => Z30 rfl (by rfl) (by simp only [Z84, List.set_cons_zero, List.set_cons_succ]; rfl)) ?_
        refine WX_call 5 rfl (by kernel_rfl) rfl (pick_any rb (0 + 1000 + 3 + 1) (l.len : Int) ws hrs (by omega)) ?_
        rintro _ wb ⟨i, rfl, hi, hrb', cb⟩
        have Sb : Chg [rb, w.heap.size] ws wb := cb.mono (by simp)
        refine ⟨Sb, ?_⟩
        have hzb := hzs.chg cb (by simp; omega)
        refine WH_one 6 rfl (by kernel_rfl) (WO_storeS (k := 2) (vs := [tv, .slice A l.len c]) rfl rfl rfl (by simp; exact ⟨o1, rfl⟩) hzb (by decide) fun wf hzf of_ => Z31 (at_held (Sb.trans (of_.chg.mono (by simp))) ?_))
        replace hzf : Blk wf w.heap.size [tv, .slice A l.len c] _ := hzf
        have Sf : Chg [rb, w.heap.size] ws wf := Sb.trans (of_.chg.mono (by simp))
        first | refine Z82 7 rfl (by kernel_rfl) (by kernel_rfl) (by kernel_rfl) (by assumption) (fun w' hw' => Z56 rfl) ?_ | refine Z82 7 rfl (by kernel_rfl) (by kernel_rfl) (by kernel_rfl) (by assumption) (fun w' hw' => Z63 rfl rfl) ?_ | refine Z82 7 rfl (by kernel_rfl) (by kernel_rfl) (by kernel_rfl) (by assumption) (fun w' hw' => Z64 rfl rfl) ?_ | refine Z82 7 rfl (by kernel_rfl) (by kernel_rfl) (by kernel_rfl) (by assumption) (fun w' hw' => Z75 rfl rfl (by omega)) ?_ | refine Z82 7 rfl (by kernel_rfl) (by kernel_rfl) (by kernel_rfl) (by assumption) (fun w' hw' => Z72 rfl) ?_ | refine Z82 7 rfl (by kernel_rfl) (by kernel_rfl) (by kernel_rfl) (by assumption) (fun w' hw' => Z69 rfl rfl rfl (by omega)) ?_ | refine Z82 7 rfl (by kernel_rfl) (by kernel_rfl) (by kernel_rfl) (by assumption) (fun w' hw' => Z30 rfl (by rfl) (by simp only [Z84, List.set_cons_zero, List.set_cons_succ]; rfl)) ?_
        exact WH_doneE (by kernel_rfl) (by repeat (first | exact True.intro | refine And.intro rfl ?_)) ⟨_, rfl, by omega, hzf, (es.chg _).trans (Sb.trans (of_.chg.mono (by simp)))⟩
      · replace h1 := h16
        replace h2 := h26
        obtain ⟨k, rfl, hk, hz8, c8⟩ := hR
        have s8 := c8.size
        refine goS ?_
        exact at_ret2G rfl (.cell inferInstance rfl hz8 rfl) (.tmp rfl) ⟨tv, _, tl, l, Ft, Fb, k, rfl, h1.chg c8 (fun z hz => by have := h3 z (by simp [hz]); simp; omega), h2.chg c8 (fun z hz => by have := h3 z (by simp [hz]); simp; omega), fun z hz => by have := h3 z hz; omega, by omega, hk, c8.ext_of e06 (by simp; omega)⟩
theorem DrawSplitProgram_ret (v : Value) (w : World) (hd : ByD w v) : Ret Try.prog 6 [v] w (AnyK w) := by
  refine enter Try.func6 rfl Try.ntmps6 rfl rfl ?_
  refine goS ?_
  refine WO_alloc fun w0 hz ez zz => ?_
  replace hz : Blk w0 w.heap.size [.slice none 0 0, .slice none 0 0] _ := hz
  have s0 := hz.lt
  refine goS ?_
  refine WO_call rfl (l11Place_ret v w0 (hd.ext ez)) ?_
  rintro _ w1 ⟨tv, bv, tl, l, Ft, Fb, k, rfl, h1, h2, h3, hbd, hkb, e1⟩
  have o1 := h1.one
  have s1 := e1.size_le
  have hlc := len_le_cntL l
  obtain ⟨A, c, rfl, hlm, hlc2⟩ := h2.slice
  refine goS ?_
  refine WO_alloc fun w4 hp4 e4 z4 => ?_
  refine WO_storeS (k := 2) (vs := [tv, .slice A l.len c]) rfl rfl rfl (by simp; exact ⟨o1, rfl⟩) hp4 (by decide) fun w5 hp o5 => ?_
  replace hp : Blk w5 w1.heap.size [tv, .slice A l.len c] _ := hp
  have e5 : Ext w1 w5 := e4.only o5 (Nat.le_refl _)
  replace h1 := h1.ext e5
  replace h2 := h2.ext e5
  have e05 := (ez.trans e1).trans e5
  have s5 := hp.lt
  have hz5 := (hz.ext e1).ext e5
  refine goS ?_
  refine WO_call rfl (openU_ret v w5 (hd.ext e05)) ?_
  rintro _ w6 ⟨rb, rfl, hrb, hr, e6⟩
  refine goS ?_
  refine WO_call rfl (pickU_ret rb 0 4 w6 hr (by omega) (by decide)) ?_
  rintro _ w7 ⟨m, rfl, hm, hr7, c7⟩
  have s6 := e6.size_le
  have s7 := c7.size
  have hp7 := (hp.ext e6).chg c7 (by simp; omega)
  have hz7 := (hz5.ext e6).chg c7 (by simp; omega)
  have e07 : Ext w w7 := c7.ext_of (e05.trans e6) (by simp; omega)
  replace h1 := (h1.ext e6).chg c7 (fun z hz => by have := h3 z (by simp [hz]); simp; omega)
  replace h2 := (h2.ext e6).chg c7 (fun z hz => by have := h3 z (by simp [hz]); simp; omega)
  by_cases hm0 : m = 0
  · subst hm0
    refine goS ?_
    refine W_held0E [rb, w.heap.size] (KIn 26 2 3 w.heap.size rb tv (.slice A l.len c) w7) (by kernel_rfl) (fun ws es hS => ?_) (fun τ w8 hR => ?_)
    · have hps := hp7.ext es
      have hzs := hz7.ext es
      have ss := es.size_le
      refine Z82 0 rfl (by kernel_rfl) (by kernel_rfl) (by kernel_rfl) (by assumption) (fun w' hw' => q_loadS (cs := [tv, .slice A l.len c]) rfl rfl (blk_cells (hps.chg hw' (by simp; omega)))) ?_
      first | refine Z82 1 rfl (by kernel_rfl) (by kernel_rfl) (by kernel_rfl) (by assumption) (fun w' hw' => Z56 rfl) ?_ | refine Z82 1 rfl (by kernel_rfl) (by kernel_rfl) (by kernel_rfl) (by assumption) (fun w' hw' => Z63 rfl rfl) ?_ | refine Z82 1 rfl (by kernel_rfl) (by kernel_rfl) (by kernel_rfl) (by assumption) (fun w' hw' => Z64 rfl rfl) ?_ | refine Z82 1 rfl (by kernel_rfl) (by kernel_rfl) (by kernel_rfl) (by assumption) (fun w' hw' => Z75 rfl rfl (by omega)) ?_ | refine Z82 1 rfl (by kernel_rfl) (by kernel_rfl) (by kernel_rfl) (by assumption) (fun w' hw' => Z72 rfl) ?_ | refine Z82 1 rfl (by kernel_rfl) (by kernel_rfl) (by kernel_rfl) (by assumption) (fun w' hw' => Z69 rfl rfl rfl (by omega)) ?_ | refine Z82 1 rfl (by kernel_rfl) (by kernel_rfl) (by kernel_rfl) (by assumption) (fun w' hw' => Z30 rfl (by rfl) (by simp only [Z84, List.set_cons_zero, List.set_cons_succ]; rfl)) ?_
      refine Z82 2 rfl (by kernel_rfl) (by kernel_rfl) (by kernel_rfl) (by assumption) (fun w' hw' => Z66 rfl (hps.chg hw' (by simp; omega)) rfl) ?_
      first | refine Z82 3 rfl (by kernel_rfl) (by kernel_rfl) (by kernel_rfl) (by assumption) (fun w' hw' => Z56 rfl) ?_ | refine Z82 3 rfl (by kernel_rfl) (by kernel_rfl) (by kernel_rfl) (by assumption) (fun w' hw' => Z63 rfl rfl) ?_ | refine Z82 3 rfl (by kernel_rfl) (by kernel_rfl) (by kernel_rfl) (by assumption) (fun w' hw' => Z64 rfl rfl) ?_ | refine Z82 3 rfl (by kernel_rfl) (by kernel_rfl) (by kernel_rfl) (by assumption) (fun w' hw' => Z75 rfl rfl (by omega)) ?_ | refine Z82 3 rfl (by kernel_rfl) (by kernel_rfl) (by kernel_rfl) (by assumption) (fun w' hw' => Z72 rfl) ?_ | refine Z82 3 rfl (by kernel_rfl) (by kernel_rfl) (by kernel_rfl) (by assumption) (fun w' hw' => Z69 rfl rfl rfl (by omega)) ?_ | refine Z82 3 rfl (by kernel_rfl) (by kernel_rfl) (by kernel_rfl) (by assumption) (fun w' hw' => Z30 rfl (by rfl) (by simp only [Z84, List.set_cons_zero, List.set_cons_succ]; rfl)) ?_
      refine WH_one 4 rfl (by kernel_rfl) (WO_storeS (k := 2) (vs := [tv, .slice A l.len c]) rfl rfl rfl (by simp; exact ⟨o1, rfl⟩) hzs (by decide) fun wf hzf of_ => Z31 (at_held (of_.chg.mono (by simp)) ?_))
      replace hzf : Blk wf w.heap.size [tv, .slice A l.len c] _ := hzf
      have Sf : Chg [rb, w.heap.size] ws wf := of_.chg.mono (by simp)
      first | refine Z82 5 rfl (by kernel_rfl) (by kernel_rfl) (by kernel_rfl) (by assumption) (fun w' hw' => Z56 rfl) ?_ | refine Z82 5 rfl (by kernel_rfl) (by kernel_rfl) (by kernel_rfl) (by assumption) (fun w' hw' => Z63 rfl rfl) ?_ | refine Z82 5 rfl (by kernel_rfl) (by kernel_rfl) (by kernel_rfl) (by assumption) (fun w' hw' => Z64 rfl rfl) ?_ | refine Z82 5 rfl (by kernel_rfl) (by kernel_rfl) (by kernel_rfl) (by assumption) (fun w' hw' => Z75 rfl rfl (by omega)) ?_ | refine Z82 5 rfl (by kernel_rfl) (by kernel_rfl) (by kernel_rfl) (by assumption) (fun w' hw' => Z72 rfl) ?_ | refine Z82 5 rfl (by kernel_rfl) (by kernel_rfl) (by kernel_rfl) (by assumption) (fun w' hw' => Z69 rfl rfl rfl (by omega)) ?_ | refine Z82 5 rfl (by kernel_rfl) (by kernel_rfl) (by kernel_rfl) (by assumption) (fun w' hw' => Z30 rfl (by rfl) (by simp only [Z84, List.set_cons_zero, List.set_cons_succ]; rfl)) ?_
      exact WH_doneE (by kernel_rfl) (by repeat (first | exact True.intro | refine And.intro rfl ?_)) ⟨_, rfl, by omega, hzf, (es.chg _).trans Sf⟩
    · obtain ⟨k, rfl, hk, hz8, c8⟩ := hR
      have s8 := c8.size
      refine goS ?_
      exact at_ret2G rfl (.cell inferInstance rfl hz8 rfl) (.tmp rfl) ⟨tv, _, tl, l, Ft, Fb, k, rfl, h1.chg c8 (fun z hz => by have := h3 z (by simp [hz]); simp; omega), h2.chg c8 (fun z hz => by have := h3 z (by simp [hz]); simp; omega), fun z hz => by have := h3 z hz; omega, by omega, hk, c8.ext_of e07 (by simp; omega)⟩
  · refine goS ?_
    rw [show (((m : Nat) : Int) == 0) = false from by rw [beq_eq_false_iff_ne]; omega]
    refine goS ?_
    refine WO_loadSB rfl hp7 rfl ?_
    refine goS ?_
    refine WO_storeS (k := 2) (vs := [tv, .slice A l.len c]) rfl rfl rfl (by simp; exact ⟨o1, rfl⟩) hz7 (by decide) fun w8 hz8 o8 => ?_
    replace hz8 : Blk w8 w.heap.size [tv, .slice A l.len c] _ := hz8
    have s8 := o8.size
    refine goS ?_
    exact at_ret2G rfl (.cell inferInstance rfl hz8 rfl) (.tmp rfl) ⟨tv, _, tl, l, Ft, Fb, k, rfl, h1.chg o8.chg (fun z hz => by have := h3 z (by simp [hz]); simp; omega), h2.chg o8.chg (fun z hz => by have := h3 z (by simp [hz]); simp; omega), fun z hz => by have := h3 z hz; omega, by omega, hkb, e07.only o8 (Nat.le_refl _)⟩
theorem DrawSwapStmts_ret (v : Value) (w : World) (hd : ByD w v) : Ret Try.prog 15 [v] w (AnyK w) := by
  refine enter Try.func15 rfl Try.ntmps15 rfl rfl ?_
  refine goS ?_
  refine WO_alloc fun w0 hz ez zz => ?_
  replace hz : Blk w0 w.heap.size [.slice none 0 0, .slice none 0 0] _ := hz
  have s0 := hz.lt
  refine goS ?_
  refine WO_call rfl (openU_ret v w0 (hd.ext ez)) ?_
  rintro _ w1 ⟨rb, rfl, hrb, hr, e1⟩
  have s1 := e1.size_le
  have hrl := hr.lt
  refine goS ?_
  refine WO_call rfl (pickU_ret rb 0 2 w1 hr (by omega) (by decide)) ?_
  rintro _ w2 ⟨m, rfl, hm, hr2, c2⟩
  have s2 := c2.size
  have hz2 := (hz.ext e1).chg c2 (by simp; omega)
  have e02 : Ext w w2 := c2.ext_of (ez.trans e1) (by simp; omega)
  by_cases hm0 : m = 0
  · subst hm0
    refine goS ?_
    refine WO_buildStr (e := 9) (by kernel_rfl) (by kernel_rfl) (by kernel_rfl) (by decide) (by decide) (by kernel_rfl) fun w3 hcells e3 => ?_
    have hr3 := hr2.ext e3
    have s3 := e3.size_le
    refine goS ?_
    refine WO_call rfl (pickU_ret rb 1 3 w3 hr3 (by omega) (by decide)) ?_
    rintro _ w4 ⟨k, rfl, hk, hr4, c4⟩
    obtain ⟨t, htl, hcell⟩ := hcells k (by omega)
    have hcell4 := cell_chg hcell c4 (by simp; omega)
    have hz4 := (hz2.ext e3).chg c4 (by simp; omega)
    have e04 : Ext w w4 := c4.ext_of (e02.trans e3) (by simp; omega)
    have s4 := c4.size
    refine Z83 (j := k) rfl rfl rfl (by omega) ?_
    refine Z11 rfl hcell4 ?_
    refine WO_call rfl (sParseProgram_ret t w4 (by omega)) ?_
    rintro _ w5 hP
    obtain ⟨tv, bv, tl, l, b, Ft, Fb, rfl, h1, h2, h3, o1, o2, htl6, hcl, e5⟩ := hP.read
    have s5 := e5.size_le
    have hlc := len_le_cntL l
    obtain ⟨A, c, rfl, hlm, hlc2⟩ := h2.slice
    refine goS ?_
    refine WO_alloc fun w6 hp6 e6 z6 => ?_
    refine WO_storeS (k := 2) (vs := [tv, .slice A l.len c]) rfl rfl rfl (by simp; exact ⟨o1, rfl⟩) hp6 (by decide) fun w7 hp o7 => ?_
    replace hp : Blk w7 w5.heap.size [tv, .slice A l.len c] _ := hp
    have e7 : Ext w5 w7 := e6.only o7 (Nat.le_refl _)
    replace h1 := h1.ext e7
    replace h2 := h2.ext e7
    have hz7 := (hz4.ext e5).ext e7
    have hr7 := (hr4.ext e5).ext e7
    have e07 := (e04.trans e5).trans e7
    have s7 := hp.lt
    refine goS ?_
    refine W_held0E [rb, w.heap.size] (KIn 26 2 3 w.heap.size rb tv (.slice A l.len c) w7) (by kernel_rfl) (fun ws es hS => ?_) (fun τ w8 hR => ?_)
    · have hps := hp.ext es
      have hzs := hz7.ext es
      have hrs := hr7.ext es
      have ss := es.size_le
      refine Z82 0 rfl (by kernel_rfl) (by kernel_rfl) (by kernel_rfl) (by assumption) (fun w' hw' => q_loadS (cs := [tv, .slice A l.len c]) rfl rfl (blk_cells (hps.chg hw' (by simp; omega)))) ?_
      first | refine Z82 1 rfl (by kernel_rfl) (by kernel_rfl) (by kernel_rfl) (by assumption) (fun w' hw' => Z56 rfl) ?_ | refine Z82 1 rfl (by kernel_rfl) (by kernel_rfl) (by kernel_rfl) (by assumption) (fun w' hw' => Z63 rfl rfl) ?_ | refine Z82 1 rfl (by kernel_rfl) (by kernel_rfl) (by kernel_rfl) (by assumption) (fun w' hw' => Z64 rfl rfl) ?_ | refine Z82 1 rfl (by kernel_rfl) (by kernel_rfl) (by kernel_rfl) (by assumption) (fun w' hw' => Z75 rfl rfl (by omega)) ?_ | refine Z82 1 rfl (by kernel_rfl) (by kernel_rfl) (by kernel_rfl) (by assumption) (fun w' hw' => Z72 rfl) ?_ | refine Z82 1 rfl (by kernel_rfl) (by kernel_rfl) (by kernel_rfl) (by assumption) (fun w' hw' => Z69 rfl rfl rfl (by omega)) ?_ | refine Z82 1 rfl (by kernel_rfl) (by kernel_rfl) (by kernel_rfl) (by assumption) (fun w' hw' => Z30 rfl (by rfl) (by simp only [Z84, List.set_cons_zero, List.set_cons_succ]; rfl)) ?_
      first | refine Z82 2 rfl (by kernel_rfl) (by kernel_rfl) (by kernel_rfl) (by assumption) (fun w' hw' => Z56 rfl) ?_ | refine Z82 2 rfl (by kernel_rfl) (by kernel_rfl) (by kernel_rfl) (by assumption) (fun w' hw' => Z63 rfl rfl) ?_ | refine Z82 2 rfl (by kernel_rfl) (by kernel_rfl) (by kernel_rfl) (by assumption) (fun w' hw' => Z64 rfl rfl) ?_ | refine Z82 2 rfl (by kernel_rfl) (by kernel_rfl) (by kernel_rfl) (by assumption) (fun w' hw' => Z75 rfl rfl (by omega)) ?_ | refine Z82 2 rfl (by kernel_rfl) (by kernel_rfl) (by kernel_rfl) (by assumption) (fun w' hw' => Z72 rfl) ?_ | refine Z82 2 rfl (by kernel_rfl) (by kernel_rfl) (by kernel_rfl) (by assumption) (fun w' hw' => Z69 rfl rfl rfl (by omega)) ?_ | refine Z82 2 rfl (by kernel_rfl) (by kernel_rfl) (by kernel_rfl) (by assumption) (fun w' hw' => Z30 rfl (by rfl) (by simp only [Z84, List.set_cons_zero, List.set_cons_succ]; rfl)) ?_
      refine Z82 3 rfl (by kernel_rfl) (by kernel_rfl) (by kernel_rfl) (by assumption) (fun w' hw' => Z66 rfl (hps.chg hw' (by simp; omega)) rfl) ?_
      first | refine Z82 4 rfl (by kernel_rfl) (by kernel_rfl) (by kernel_rfl) (by assumption) (fun w' hw' => Z56 rfl) ?_ | refine Z82 4 rfl (by kernel_rfl) (by kernel_rfl) (by kernel_rfl) (by assumption) (fun w' hw' => Z63 rfl rfl) ?_ | refine Z82 4 rfl (by kernel_rfl) (by kernel_rfl) (by kernel_rfl) (by assumption) (fun w' hw' => Z64 rfl rfl) ?_ | refine Z82 4 rfl (by kernel_rfl) (by kernel_rfl) (by kernel_rfl) (by assumption) (fun w' hw' => Z75 rfl rfl (by omega)) ?_ | refine Z82 4 rfl (by kernel_rfl) (by kernel_rfl) (by kernel_rfl) (by assumption) (fun w' hw' => Z72 rfl) ?_ | refine Z82 4 rfl (by kernel_rfl) (by kernel_rfl) (by kernel_rfl) (by assumption) (fun w' hw' => Z69 rfl rfl rfl (by omega)) ?_ | refine Z82 4 rfl (by kernel_rfl) (by kernel_rfl) (by kernel_rfl) (by assumption) (fun w' hw' => Z30 rfl (by rfl) (by simp only [Z84, List.set_cons_zero, List.set_cons_succ]; rfl)) ?_
      refine WX_call 5 rfl (by kernel_rfl) rfl (pick_any rb 2 (l.len : Int) ws hrs (by omega)) ?_
      rintro _ wb ⟨i, rfl, hi, hrb', cb⟩
      have Sb : Chg [rb, w.heap.size] ws wb := cb.mono (by simp)
      refine ⟨Sb, ?_⟩
      have hzb := hzs.chg cb (by simp; omega)
      refine WH_one 6 rfl (by kernel_rfl) (WO_storeS (k := 2) (vs := [tv, .slice A l.len c]) rfl rfl rfl (by simp; exact ⟨o1, rfl⟩) hzb (by decide) fun wf hzf of_ => Z31 (at_held (Sb.trans (of_.chg.mono (by simp))) ?_))
      replace hzf : Blk wf w.heap.size [tv, .slice A l.len c] _ := hzf
      have Sf : Chg [rb, w.heap.size] ws wf := Sb.trans (of_.chg.mono (by simp))
      first | refine Z82 7 rfl (by kernel_rfl) (by kernel_rfl) (by kernel_rfl) (by assumption) (fun w' hw' => Z56 rfl) ?_ | refine Z82 7 rfl (by kernel_rfl) (by kernel_rfl) (by kernel_rfl) (by assumption) (fun w' hw' => Z63 rfl rfl) ?_ | refine Z82 7 rfl (by kernel_rfl) (by kernel_rfl) (by kernel_rfl) (by assumption) (fun w' hw' => Z64 rfl rfl) ?_ | refine Z82 7 rfl (by kernel_rfl) (by kernel_rfl) (by kernel_rfl) (by assumption) (fun w' hw' => Z75 rfl rfl (by omega)) ?_ | refine Z82 7 rfl (by kernel_rfl) (by kernel_rfl) (by kernel_rfl) (by assumption) (fun w' hw' => Z72 rfl) ?_ | refine Z82 7 rfl (by kernel_rfl) (by kernel_rfl) (by kernel_rfl) (by assumption) (fun w' hw' => Z69 rfl rfl rfl (by omega)) ?_ | refine Z82 7 rfl (by kernel_rfl) (by kernel_rfl) (by kernel_rfl) (by assumption) (fun w' hw' => Z30 rfl (by rfl) (by simp only [Z84, List.set_cons_zero, List.set_cons_succ]; rfl)) ?_
      exact WH_doneE (by kernel_rfl) (by repeat (first | exact True.intro | refine And.intro rfl ?_)) ⟨_, rfl, by omega, hzf, (es.chg _).trans (Sb.trans (of_.chg.mono (by simp)))⟩
    · obtain ⟨k, rfl, hk, hz8, c8⟩ := hR
      have s8 := c8.size
      refine goS ?_
      exact at_ret2G rfl (.cell inferInstance rfl hz8 rfl) (.tmp rfl) ⟨tv, _, tl, l, Ft, Fb, k, rfl, h1.chg c8 (fun z hz => by have := h3 z (by simp [hz]); simp; omega), h2.chg c8 (fun z hz => by have := h3 z (by simp [hz]); simp; omega), fun z hz => by have := h3 z hz; omega, by omega, hk, c8.ext_of e07 (by simp; omega)⟩
  · refine goS ?_
    rw [show (((m : Nat) : Int) == 0) = false from by rw [beq_eq_false_iff_ne]; omega]
    refine goS ?_
    refine WO_call rfl (l11Place_ret v w2 (hd.ext e02)) ?_
    rintro _ w3 ⟨tv, bv, tl, l, Ft, Fb, k, rfl, h1, h2, h3, hbd, hkb, e3⟩
    have o1 := h1.one
    have o2 := h2.one
    have s3 := e3.size_le
    refine goS ?_
    refine WO_storeS (k := 2) (vs := [tv, bv]) rfl rfl rfl (by simp; exact ⟨o1, o2⟩) (hz2.ext e3) (by decide) fun w8 hz8 o8 => ?_
    replace hz8 : Blk w8 w.heap.size [tv, bv] _ := hz8
    have s8 := o8.size
    refine goS ?_
    exact at_ret2G rfl (.cell inferInstance rfl hz8 rfl) (.tmp rfl) ⟨tv, _, tl, l, Ft, Fb, k, rfl, h1.chg o8.chg (fun z hz => by have := h3 z (by simp [hz]); simp; omega), h2.chg o8.chg (fun z hz => by have := h3 z (by simp [hz]); simp; omega), fun z hz => by have := h3 z hz; omega, hbd, hkb, (e02.trans e3).only o8 (Nat.le_refl _)⟩
end Go.Proofs.Ytpmgfokcbgdegaa
