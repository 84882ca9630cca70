/-
  What is proved here: the law ProgramSame on drawn programs: equality is structural, symmetric, and that of the texts of valid programs.
-/
import Derived.Test.YtplcmbipeanjdaaDoorFp
import Derived.Test.YtplcmbipeanjdaaDoorDrS
import Derived.Test.YtplcmbipeanjdaaDoorSame
import Derived.Test.YtplcmbipeanjdaaDoorPin
namespace Go.Proofs.YtplcmbipeanjdaaDoor
set_option linter.unusedVariables false
set_option linter.unusedSimpArgs false
set_option linter.unnecessarySimpa false
open Go.RowKit

/-- Two programs of bounded size that can be read. -/
def TwoP (w w' : World) (tv bv : Value) (tl : List Int) (l : Ss) (tv' bv' : Value) (tl' : List Int) (l' : Ss) : Prop :=
  ∃ F1 F2 F3 F4, IntF w' tv tl F1 ∧ StS w' bv l F2 ∧ IntF w' tv' tl' F3 ∧ StS w' bv' l' F4 ∧ (cntL l ≤ 700000 ∧ cntL l' ≤ 700000) ∧ Ext w w'
def AnyPP (w : World) (r : Value) (w' : World) : Prop := ∃ tv bv tl l tv' bv' tl' l', r = .tuple #[prV tv bv, prV tv' bv'] ∧ TwoP w w' tv bv tl l tv' bv' tl' l'
def PPIn (e : TypeId) (w : World) (b2 b3 : Nat) (τ : Env) (w' : World) : Prop := ∃ tv bv tl l tv' bv' tl' l', τ = [(2, .pointer (some ⟨b2, 0, none⟩)), (3, .pointer (some ⟨b3, 0, none⟩))] ∧ Blk w' b2 [tv, bv] e ∧ Blk w' b3 [tv', bv'] e ∧ TwoP w w' tv bv tl l tv' bv' tl' l'
theorem DrawProgramSame_ret (v : Value) (w : World) (hd : ByD w v) : Ret Tryd.prog 5 [v] w (AnyPP w) := by
  refine enter Tryd.func5 rfl Tryd.ntmps5 rfl rfl ?_
  refine goS ?_
  refine WO_alloc fun w0 hz ez zz => ?_
  replace hz : Blk w0 w.heap.size [.slice none 0 0, .slice none 0 0] _ := hz
  refine WO_alloc fun w1 hy e1 z1 => ?_
  replace hy : Blk w1 w0.heap.size [.slice none 0 0, .slice none 0 0] _ := hy
  have s0 := hz.lt
  have s1 := hy.lt
  refine goS ?_
  refine WO_call rfl (openU_ret v w1 ((hd.ext ez).ext e1)) ?_
  rintro _ w2 ⟨rb, rfl, hrb, hr, e2⟩
  have s2 := e2.size_le
  have hrl := hr.lt
  refine goS ?_
  refine WO_call rfl (l1Draw_ret rb 0 w2 hr (by omega)) ?_
  rintro _ w3 ⟨⟨tv, bv, tl, l, Ft, Fb, rfl, h1, h2, h3, h4, h5⟩, hr3, c3⟩
  have s3 := c3.size
  have o1 := h1.one
  have o2 := h2.one
  refine WO_alloc fun w4 hp4 e4 z4 => ?_
  refine WO_storeS (k := 2) (vs := [tv, bv]) rfl rfl rfl (by simp; exact ⟨o1, o2⟩) hp4 (by decide) fun w5 hp o5 => ?_
  replace hp : Blk w5 w3.heap.size [tv, bv] _ := hp
  have e5 : Ext w3 w5 := e4.only o5 (Nat.le_refl _)
  have s5 := hp.lt
  replace h1 := h1.ext e5
  replace h2 := h2.ext e5
  have hz5 := (((hz.ext e1).ext e2).chg c3 (by simp; omega)).ext e5
  have hy5 := ((hy.ext e2).chg c3 (by simp; omega)).ext e5
  have hr5 := hr3.ext e5
  have e05 : Ext w w5 := (c3.ext_of ((ez.trans e1).trans e2) (by simp; omega)).trans e5
  refine goS ?_
  refine WO_call rfl (pickU_ret rb (0 + 1000) 2 w5 hr5 (by omega) (by decide)) ?_
  rintro _ w7 ⟨m, rfl, hm, hr7, c7⟩
  have s7 := c7.size
  have hz7 := hz5.chg c7 (by simp; omega)
  have hy7 := hy5.chg c7 (by simp; omega)
  have hp7 := hp.chg c7 (by simp; omega)
  have e07 : Ext w w7 := c7.ext_of e05 (by simp; omega)
  replace h1 := h1.chg c7 (fun z hz => by have := h3 z (by simp [hz]); simp; omega)
  replace h2 := h2.chg c7 (fun z hz => by have := h3 z (by simp [hz]); simp; omega)
  by_cases hm0 : m = 0
  · subst hm0
    refine goS ?_
    refine W_held0E [rb, w.heap.size, w0.heap.size] (PPIn 26 w w.heap.size w0.heap.size) (by kernel_rfl) (fun ws es hS => ?_) (fun τ w8 hR => ?_)
    · have hps := hp7.ext es
      have ss := es.size_le
      refine Z82 0 rfl (by kernel_rfl) (by kernel_rfl) (by kernel_rfl) (by assumption) (fun w' hw' => q_loadS (cs := [tv, bv]) rfl rfl (blk_cells (hps.chg hw' (by simp; omega)))) ?_
      first | refine Z82 1 rfl (by kernel_rfl) (by kernel_rfl) (by kernel_rfl) (by assumption) (fun w' hw' => Z56 rfl) ?_ | refine Z82 1 rfl (by kernel_rfl) (by kernel_rfl) (by kernel_rfl) (by assumption) (fun w' hw' => Z63 rfl rfl) ?_ | refine Z82 1 rfl (by kernel_rfl) (by kernel_rfl) (by kernel_rfl) (by assumption) (fun w' hw' => Z64 rfl rfl) ?_ | refine Z82 1 rfl (by kernel_rfl) (by kernel_rfl) (by kernel_rfl) (by assumption) (fun w' hw' => Z75 rfl rfl (by omega)) ?_ | refine Z82 1 rfl (by kernel_rfl) (by kernel_rfl) (by kernel_rfl) (by assumption) (fun w' hw' => Z72 rfl) ?_ | refine Z82 1 rfl (by kernel_rfl) (by kernel_rfl) (by kernel_rfl) (by assumption) (fun w' hw' => Z69 rfl rfl rfl (by omega)) ?_ | refine Z82 1 rfl (by kernel_rfl) (by kernel_rfl) (by kernel_rfl) (by assumption) (fun w' hw' => Z30 rfl (by rfl) (by simp only [Z84, List.set_cons_zero, List.set_cons_succ]; rfl)) ?_
      refine WX_call 2 rfl (by kernel_rfl) rfl (l1Draw_ret rb (0 + 1000 + 1) ws (hr7.ext es) (by omega)) ?_
      rintro _ wb ⟨⟨tv', bv', tl', l', Ft', Fb', rfl, k1, k2, k3, k4, k5⟩, hrb', cb⟩
      have Sb : Chg [rb, w.heap.size, w0.heap.size] ws wb := cb.mono (by simp)
      have sb := cb.size
      refine ⟨Sb, ?_⟩
      have p1 := k1.one
      have p2 := k2.one
      have hy2 := (hz7.ext es).chg cb (by simp; omega)
      have hy3 := (hy7.ext es).chg cb (by simp; omega)
      refine WH_one 3 rfl (by kernel_rfl) (WO_storeS (k := 2) (vs := [tv, bv]) rfl rfl rfl (by simp; exact ⟨o1, o2⟩) hy2 (by decide) fun wf hzf of_ => Z31 (at_held (Sb.trans (of_.chg.mono (by simp))) ?_))
      replace hzf : Blk wf w.heap.size [tv, bv] _ := hzf
      have sf := of_.size
      refine WH_one 4 rfl (by kernel_rfl) (WO_storeS (k := 2) (vs := [tv', bv']) rfl rfl rfl (by simp; exact ⟨p1, p2⟩) (hy3.chg of_.chg (by simp; omega)) (by decide) fun wg hzg og => Z31 (at_held ((Sb.trans (of_.chg.mono (by simp))).trans (og.chg.mono (by simp))) ?_))
      replace hzg : Blk wg w0.heap.size [tv', bv'] _ := hzg
      have sg := og.size
      have Sg : Chg [rb, w.heap.size, w0.heap.size] ws wg := (Sb.trans (of_.chg.mono (by simp))).trans (og.chg.mono (by simp))
      refine WH_doneE (by kernel_rfl) (by repeat (first | exact True.intro | refine And.intro rfl ?_)) ⟨tv, bv, tl, l, tv', bv', tl', l', rfl, hzf.chg og.chg (by simp; omega), hzg, Ft, Fb, Ft', Fb', (h1.ext es).chg Sg (fun z hz => by have := h3 z (by simp [hz]); simp; omega), (h2.ext es).chg Sg (fun z hz => by have := h3 z (by simp [hz]); simp; omega), ?_, ?_, by omega, Sg.ext_of (e07.trans es) (by simp; omega)⟩
      · exact (k1.chg of_.chg (fun z hz => by have := k3 z (by simp [hz]); simp; omega)).chg og.chg (fun z hz => by have := k3 z (by simp [hz]); simp; omega)
      · exact (k2.chg of_.chg (fun z hz => by have := k3 z (by simp [hz]); simp; omega)).chg og.chg (fun z hz => by have := k3 z (by simp [hz]); simp; omega)
    · obtain ⟨tv, bv, tl, l, tv', bv', tl', l', rfl, g1, g2, hT⟩ := hR
      refine goS ?_
      exact at_ret2G rfl (.cell inferInstance rfl g1 rfl) (.cell inferInstance rfl g2 rfl) ⟨tv, bv, tl, l, tv', bv', tl', l', rfl, hT⟩
  · refine goS ?_
    rw [show (((m : Nat) : Int) == 0) = false from by rw [beq_eq_false_iff_ne]; omega]
    refine goS ?_
    refine W_held0E [rb, w.heap.size, w0.heap.size] (PPIn 26 w w.heap.size w0.heap.size) (by kernel_rfl) (fun ws es hS => ?_) (fun τ w8 hR => ?_)
    · have hps := hp7.ext es
      have ss := es.size_le
      refine Z82 0 rfl (by kernel_rfl) (by kernel_rfl) (by kernel_rfl) (by assumption) (fun w' hw' => q_loadS (cs := [tv, bv]) rfl rfl (blk_cells (hps.chg hw' (by simp; omega)))) ?_
      first | refine Z82 1 rfl (by kernel_rfl) (by kernel_rfl) (by kernel_rfl) (by assumption) (fun w' hw' => Z56 rfl) ?_ | refine Z82 1 rfl (by kernel_rfl) (by kernel_rfl) (by kernel_rfl) (by assumption) (fun w' hw' => Z63 rfl rfl) ?_ | refine Z82 1 rfl (by kernel_rfl) (by kernel_rfl) (by kernel_rfl) (by assumption) (fun w' hw' => Z64 rfl rfl) ?_ | refine Z82 1 rfl (by kernel_rfl) (by kernel_rfl) (by kernel_rfl) (by assumption) (fun w' hw' => Z75 rfl rfl (by omega)) ?_ | refine Z82 1 rfl (by kernel_rfl) (by kernel_rfl) (by kernel_rfl) (by assumption) (fun w' hw' => Z72 rfl) ?_ | refine Z82 1 rfl (by kernel_rfl) (by kernel_rfl) (by kernel_rfl) (by assumption) (fun w' hw' => Z69 rfl rfl rfl (by omega)) ?_ | refine Z82 1 rfl (by kernel_rfl) (by kernel_rfl) (by kernel_rfl) (by assumption) (fun w' hw' => Z30 rfl (by rfl) (by simp only [Z84, List.set_cons_zero, List.set_cons_succ]; rfl)) ?_
      first | refine Z82 2 rfl (by kernel_rfl) (by kernel_rfl) (by kernel_rfl) (by assumption) (fun w' hw' => Z56 rfl) ?_ | refine Z82 2 rfl (by kernel_rfl) (by kernel_rfl) (by kernel_rfl) (by assumption) (fun w' hw' => Z63 rfl rfl) ?_ | refine Z82 2 rfl (by kernel_rfl) (by kernel_rfl) (by kernel_rfl) (by assumption) (fun w' hw' => Z64 rfl rfl) ?_ | refine Z82 2 rfl (by kernel_rfl) (by kernel_rfl) (by kernel_rfl) (by assumption) (fun w' hw' => Z75 rfl rfl (by omega)) ?_ | refine Z82 2 rfl (by kernel_rfl) (by kernel_rfl) (by kernel_rfl) (by assumption) (fun w' hw' => Z72 rfl) ?_ | refine Z82 2 rfl (by kernel_rfl) (by kernel_rfl) (by kernel_rfl) (by assumption) (fun w' hw' => Z69 rfl rfl rfl (by omega)) ?_ | refine Z82 2 rfl (by kernel_rfl) (by kernel_rfl) (by kernel_rfl) (by assumption) (fun w' hw' => Z30 rfl (by rfl) (by simp only [Z84, List.set_cons_zero, List.set_cons_succ]; rfl)) ?_
      refine Z82 3 rfl (by kernel_rfl) (by kernel_rfl) (by kernel_rfl) (by assumption) (fun w' hw' => q_loadS (cs := [tv, bv]) rfl rfl (blk_cells (hps.chg hw' (by simp; omega)))) ?_
      refine WX_call 4 rfl (by kernel_rfl) rfl (l1Mutate_ret rb (0 + 1000 + 1) 600 tv bv tl l ws (hr7.ext es) (by omega) ⟨Ft, Fb, h1.ext es, h2.ext es, fun x hx => by have := h3 x hx; simp; omega⟩ h4 h5 (by omega)) ?_
      rintro _ wa ⟨⟨tva, bva, tla, la, Fa, Ga, rfl, m1, m2, m3, m4, m5⟩, hra, ca⟩
      have Sa : Chg [rb, w.heap.size, w0.heap.size] ws wa := ca.mono (by simp)
      have sa := ca.size
      refine ⟨Sa, ?_⟩
      refine WX_call 5 rfl (by kernel_rfl) rfl (l1Mutate_ret rb (0 + 1000 + 1 + 3) 19201 tva bva tla la wa hra (by omega) ⟨Fa, Ga, m1, m2, fun x hx => by have := m3 x hx; simp; omega⟩ (by omega) (by omega) (by omega)) ?_
      rintro _ wb ⟨⟨tv', bv', tl', l', Ft', Fb', rfl, k1, k2, k3, k4, k5⟩, hrb', cb⟩
      have Sb : Chg [rb, w.heap.size, w0.heap.size] ws wb := Sa.trans (cb.mono (by simp))
      have sb := cb.size
      refine ⟨Sb, ?_⟩
      have p1 := k1.one
      have p2 := k2.one
      have hy2 := ((hz7.ext es).chg ca (by simp; omega)).chg cb (by simp; omega)
      have hy3 := ((hy7.ext es).chg ca (by simp; omega)).chg cb (by simp; omega)
      refine WH_one 6 rfl (by kernel_rfl) (WO_storeS (k := 2) (vs := [tv, bv]) rfl rfl rfl (by simp; exact ⟨o1, o2⟩) hy2 (by decide) fun wf hzf of_ => Z31 (at_held (Sb.trans (of_.chg.mono (by simp))) ?_))
      replace hzf : Blk wf w.heap.size [tv, bv] _ := hzf
      have sf := of_.size
      refine WH_one 7 rfl (by kernel_rfl) (WO_storeS (k := 2) (vs := [tv', bv']) rfl rfl rfl (by simp; exact ⟨p1, p2⟩) (hy3.chg of_.chg (by simp; omega)) (by decide) fun wg hzg og => Z31 (at_held ((Sb.trans (of_.chg.mono (by simp))).trans (og.chg.mono (by simp))) ?_))
      replace hzg : Blk wg w0.heap.size [tv', bv'] _ := hzg
      have sg := og.size
      have Sg : Chg [rb, w.heap.size, w0.heap.size] ws wg := (Sb.trans (of_.chg.mono (by simp))).trans (og.chg.mono (by simp))
      refine WH_doneE (by kernel_rfl) (by repeat (first | exact True.intro | refine And.intro rfl ?_)) ⟨tv, bv, tl, l, tv', bv', tl', l', rfl, hzf.chg og.chg (by simp; omega), hzg, Ft, Fb, Ft', Fb', (h1.ext es).chg Sg (fun z hz => by have := h3 z (by simp [hz]); simp; omega), (h2.ext es).chg Sg (fun z hz => by have := h3 z (by simp [hz]); simp; omega), ?_, ?_, by omega, Sg.ext_of (e07.trans es) (by simp; omega)⟩
      · exact (k1.chg of_.chg (fun z hz => by have := k3 z (by simp [hz]); simp; omega)).chg og.chg (fun z hz => by have := k3 z (by simp [hz]); simp; omega)
      · exact (k2.chg of_.chg (fun z hz => by have := k3 z (by simp [hz]); simp; omega)).chg og.chg (fun z hz => by have := k3 z (by simp [hz]); simp; omega)
    · obtain ⟨tv, bv, tl, l, tv', bv', tl', l', rfl, g1, g2, hT⟩ := hR
      refine goS ?_
      exact at_ret2G rfl (.cell inferInstance rfl g1 rfl) (.cell inferInstance rfl g2 rfl) ⟨tv, bv, tl, l, tv', bv', tl', l', rfl, hT⟩
theorem same_texts (tl tl' : List Int) (l l' : Ss) (h1 : fmtT tl l ≠ []) (h2 : fmtT tl' l' ≠ []) : decide (tl = tl' ∧ l = l') = decide (fmtT tl l = fmtT tl' l') := by
  have v1 : validP tl l = true := by
    cases h : validP tl l with
    | true => rfl
    | false => exact absurd (by unfold fmtT; rw [h]; rfl) h1
  have v2 : validP tl' l' = true := by
    cases h : validP tl' l' with
    | true => rfl
    | false => exact absurd (by unfold fmtT; rw [h]; rfl) h2
  rw [fmtT_of v1, fmtT_of v2]
  exact decide_eq_decide.2 ⟨fun ⟨a, b⟩ => by rw [a, b], fun h => progT_inj v1 v2 h⟩
theorem same_symm (tl tl' : List Int) (l l' : Ss) : decide (tl' = tl ∧ l' = l) = decide (tl = tl' ∧ l = l') := decide_eq_decide.2 ⟨fun ⟨a, b⟩ => ⟨a.symm, b.symm⟩, fun ⟨a, b⟩ => ⟨a.symm, b.symm⟩⟩
theorem FnProgramSame_ret {v : Value} {w : World} (hd : ByD w v) : Ret Tryd.prog 3 [v] w fun r w' => r = .bool true ∧ Ext w w' := by
  have hd0 := hd
  obtain ⟨A0, n0, c0, rfl, _, hn0, _⟩ := hd0
  refine enter Tryd.func3 rfl Tryd.ntmps3 rfl rfl ?_
  (refine goS ?_; repeat' (first | ((refine Z51 rfl rfl (fun c' hc' => ?_)); cases c' <;> (try simp only [decide_eq_true_eq, decide_eq_false_iff_not, beq_iff_eq, beq_eq_false_iff_ne, bne_iff_ne, bne_eq_false_iff_eq, ne_eq, gt_iff_lt, ge_iff_le, Int.not_lt, Int.not_le, Bool.not_eq_true', Bool.not_eq_false', Bool.not_true, Bool.not_false, reduceCtorEq, Decidable.not_not, not_true_eq_false, Bool.true_eq_false, Bool.false_eq_true] at hc') <;> (try (exfalso; omega)) <;> refine goS ?_) | ((refine Z52 rfl (fun hc' => ?_) (fun hc' => ?_)) <;> (try simp only [decide_eq_true_eq, decide_eq_false_iff_not, beq_iff_eq, beq_eq_false_iff_ne, bne_iff_ne, bne_eq_false_iff_eq, ne_eq, gt_iff_lt, ge_iff_le, Int.not_lt, Int.not_le, Bool.not_eq_true', Bool.not_eq_false', Bool.not_true, Bool.not_false, reduceCtorEq, Decidable.not_not, not_true_eq_false, Bool.true_eq_false, Bool.false_eq_true] at hc') <;> (try (exfalso; omega)) <;> refine goS ?_)))
  any_goals (exact at_ret1 rfl rfl ⟨rfl, Ext.refl _⟩)
  refine WO_call rfl (DrawProgramSame_ret _ w hd) ?_
  rintro _ w1 ⟨tv, bv, tl, l, tv', bv', tl', l', rfl, F1, F2, F3, F4, i1, i2, i3, i4, ⟨hc1, hc2⟩, e1⟩
  have o1 := i1.one
  have o2 := i2.one
  have o3 := i3.one
  have o4 := i4.one
  refine goS ?_
  refine WO_alloc fun w2 hb2 e2 z2 => ?_
  refine WO_alloc fun w3 hb3 e3 z3 => ?_
  have s2 := hb2.lt
  have s3 := hb3.lt
  replace hb2 := hb2.ext e3
  refine WO_storeS (k := 2) (vs := [tv, bv]) rfl rfl rfl (by simp; exact ⟨o1, o2⟩) hb2 (by decide) fun w4 ha oa => ?_
  replace ha : Blk w4 w1.heap.size [tv, bv] _ := ha
  replace hb3 := hb3.chg oa.chg (by simp; omega)
  refine WO_storeS (k := 2) (vs := [tv', bv']) rfl rfl rfl (by simp; exact ⟨o3, o4⟩) hb3 (by decide) fun w5 hb ob => ?_
  replace hb : Blk w5 w2.heap.size [tv', bv'] _ := hb
  replace ha := ha.chg ob.chg (by simp; omega)
  have hle := e2.size_le
  have e15 : Ext w1 w5 := ((e2.trans e3).only oa (Nat.le_refl _)).only ob hle
  have e05 := e1.trans e15
  replace i1 := i1.ext e15
  replace i2 := i2.ext e15
  replace i3 := i3.ext e15
  replace i4 := i4.ext e15
  refine goS ?_
  refine WO_loadSB rfl ha rfl ?_
  refine WO_loadSB rfl hb rfl ?_
  refine WO_call rfl (ProgramSame_ret tv bv tv' bv' tl tl' l l' F1 F2 F3 F4 w5 i1 i2 i3 i4) ?_
  rintro _ w6 ⟨rfl, e6⟩
  refine goS ?_
  refine WO_loadSB rfl (ha.ext e6) rfl ?_
  refine WO_loadSB rfl (hb.ext e6) rfl ?_
  refine WO_call rfl (sProgramSame_ret tv bv tv' bv' tl tl' l l' F1 F2 F3 F4 w6 (i1.ext e6) (i2.ext e6) (i3.ext e6) (i4.ext e6)) ?_
  rintro _ w7 ⟨rfl, e7⟩
  have e57 := e6.trans e7
  refine goS ?_
  rw [show (!(decide (tl = tl' ∧ l = l') == decide (tl = tl' ∧ l = l'))) = false from by simp]
  refine goS ?_
  refine WO_loadSB rfl (hb.ext e57) rfl ?_
  refine goS ?_
  refine WO_loadSB rfl (ha.ext e57) rfl ?_
  refine goS ?_
  refine WO_call rfl (ProgramSame_ret tv' bv' tv bv tl' tl l' l F3 F4 F1 F2 w7 (i3.ext e57) (i4.ext e57) (i1.ext e57) (i2.ext e57)) ?_
  rintro _ w8 ⟨rfl, e8⟩
  have e58 := e57.trans e8
  rw [same_symm]
  refine goS ?_
  rw [show (!(decide (tl = tl' ∧ l = l') == decide (tl = tl' ∧ l = l'))) = false from by simp]
  refine goS ?_
  refine WO_loadSB rfl (ha.ext e58) rfl ?_
  refine goS ?_
  refine WO_loadSB rfl (ha.ext e58) rfl ?_
  refine goS ?_
  refine WO_call rfl (ProgramSame_ret tv bv tv bv tl tl l l F1 F2 F1 F2 w8 (i1.ext e58) (i2.ext e58) (i1.ext e58) (i2.ext e58)) ?_
  rintro _ w9 ⟨rfl, e9⟩
  have e59 := e58.trans e9
  rw [decide_eq_true (show tl = tl ∧ l = l from ⟨rfl, rfl⟩)]
  refine goS ?_
  refine WO_loadSB rfl (ha.ext e59) rfl ?_
  refine WO_call rfl (FormatProgram_ret tv bv tl l F1 F2 w9 (i1.ext e59) (i2.ext e59)) ?_
  rintro _ wa ⟨rfl, ea⟩
  have e5a := e59.trans ea
  refine goS ?_
  refine WO_loadSB rfl (hb.ext e5a) rfl ?_
  refine WO_call rfl (FormatProgram_ret tv' bv' tl' l' F3 F4 wa (i3.ext e5a) (i4.ext e5a)) ?_
  rintro _ wb ⟨rfl, eb⟩
  have e0b := e05.trans (e5a.trans eb)
  refine goT ?_
  by_cases h1 : fmtT tl l = []
  · rw [decide_eq_true h1]
    refine goT ?_
    exact at_ret1 rfl rfl ⟨rfl, e0b⟩
  · rw [decide_eq_false h1]
    refine goT ?_
    by_cases h2 : fmtT tl' l' = []
    · rw [decide_eq_true h2]
      refine goT ?_
      exact at_ret1 rfl rfl ⟨rfl, e0b⟩
    · rw [decide_eq_false h2]
      refine goT ?_
      rw [same_texts tl tl' l l' h1 h2]
      rw [show (decide (fmtT tl l = fmtT tl' l') == decide (fmtT tl l = fmtT tl' l')) = true from by simp]
      refine goT ?_
      exact at_ret1 rfl rfl ⟨rfl, e0b⟩
end Go.Proofs.YtplcmbipeanjdaaDoor
