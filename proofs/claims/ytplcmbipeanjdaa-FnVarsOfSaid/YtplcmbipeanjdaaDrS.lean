/-
  What is proved here: the drawn arguments of the laws on statements and programs.
-/
import Derived.Test.YtplcmbipeanjdaaMt3
namespace Go.Proofs.Ytplcmbipeanjdaa
set_option linter.unusedVariables false
set_option linter.unusedSimpArgs false
set_option linter.unnecessarySimpa false
open Go.RowKit

/-- A program of bounded size that can be read, in new memory. -/
def AnyQ (w : World) (r : Value) (w' : World) : Prop := ∃ tv bv tl l Ft Fb, r = prV tv bv ∧ IntF w' tv tl Ft ∧ StS w' bv l Fb ∧ (∀ x ∈ Ft ++ Fb, w.heap.size ≤ x ∧ x < w'.heap.size) ∧ (tl.length ≤ 20000 ∧ cntL l ≤ 20000) ∧ Ext w w'
/-- Types and a statement of bounded size that can be read, in new memory. -/
def AnyS (w : World) (r : Value) (w' : World) : Prop := ∃ tv tl Ft op x y n vt ve t e F1 F2, r = .tuple #[tv, stV op x y n vt ve] ∧ IntF w' tv tl Ft ∧ StS w' vt t F1 ∧ StS w' ve e F2 ∧ (∀ z ∈ Ft ++ (F1 ++ F2), w.heap.size ≤ z ∧ z < w'.heap.size) ∧ (tl.length ≤ 20000 ∧ cntL t + cntL e ≤ 20000) ∧ Ext w w'
/-- A statement of bounded size that can be read, in new memory. -/
def AnyS1 (w : World) (r : Value) (w' : World) : Prop := ∃ op x y n vt ve t e F1 F2, r = stV op x y n vt ve ∧ StS w' vt t F1 ∧ StS w' ve e F2 ∧ (∀ z ∈ F1 ++ F2, w.heap.size ≤ z ∧ z < w'.heap.size) ∧ cntL t + cntL e ≤ 20000 ∧ Ext w w'
/-- Two statements of bounded size that can be read, in new memory. -/
def AnyS2 (w : World) (r : Value) (w' : World) : Prop := ∃ op x y n vt ve t e F1 F2 op' x' y' n' vt' ve' t' e' F3 F4, r = .tuple #[stV op x y n vt ve, stV op' x' y' n' vt' ve'] ∧ StS w' vt t F1 ∧ StS w' ve e F2 ∧ StS w' vt' t' F3 ∧ StS w' ve' e' F4 ∧ (cntL t + cntL e ≤ 20000 ∧ cntL t' + cntL e' ≤ 20000) ∧ Ext w w'
theorem csAt_dropS {w : World} : ∀ (k : Nat) (l : Ss) (b o : Nat) (F : List Nat), k ≤ l.len → CsAt w (encS l) b o F → ∃ F', CsAt w (encS (l.drop k)) b (o + k * 6) F' ∧ ∀ x ∈ F', x ∈ F
  | 0, _, _, _, F, _, h => ⟨F, by rw [Nat.zero_mul, Nat.add_zero]; exact h, fun _ h => h⟩
  | k + 1, .nil, _, _, _, hk, _ => by simp [Ss.len] at hk
  | k + 1, .cons op x y n t e r, b, o, F, hk, h => by
    obtain ⟨vt, ve, Ft, Fe, Fr, hF, _, _, _, hr⟩ := csAt_stmt h
    simp only [Ss.len] at hk
    obtain ⟨F', h', hs⟩ := csAt_dropS k r b (o + 6) Fr (by omega) hr
    exact ⟨F', by rw [show o + (k + 1) * 6 = o + 6 + k * 6 from by omega]; exact h', fun x hx => by rw [hF]; simp [hs x hx]⟩
/-- One statement of a slice, in memory of the slice. -/
theorem StS.oneF {w : World} {A : Option Addr} {m c : Nat} {l d r t e : Ss} {op x y n : Int} {F : List Nat} (h : StS w (.slice A m c) l F) (hl : l = d.app (.cons op x y n t e r)) : ∃ b o vt ve Ft Fe, A = some ⟨b, o, none⟩ ∧ m = l.len ∧
    (∀ (j : Nat) u, [Value.int .i64 op, .int .i64 x, .int .i64 y, .int .i64 n, vt, ve][j]? = some u → w.cell? ⟨b, o + d.len * 6 + j, none⟩ = some u) ∧ StS w vt t Ft ∧ StS w ve e Fe ∧ b ∈ F ∧ ∀ z ∈ Ft ++ Fe, z ∈ F := by
  obtain ⟨A', c', e', ⟨hm, hmc⟩, hs⟩ := h
  cases e'
  have hlen : l.len = d.len + 1 + r.len := by rw [hl, Ss.len_app]; simp [Ss.len]; omega
  rcases hs with ⟨h0, _⟩ | ⟨b, o, F', hA, hF, hs⟩
  · omega
  · obtain ⟨F2, h2, hsub⟩ := csAt_dropS d.len l b o F' (by omega) hs
    rw [hl, Ss.drop_app] at h2
    obtain ⟨vt, ve, Ft, Fe, Fr, hF2, hc, hT, hE, _⟩ := csAt_stmt h2
    exact ⟨b, o, vt, ve, Ft, Fe, hA, rfl, hc, hT, hE, by rw [hF]; simp, fun z hz => by rw [hF]; exact List.mem_cons_of_mem _ (hsub z (by rw [hF2]; simp only [List.mem_append] at hz ⊢; rcases hz with h | h; exact .inl h; exact .inr (.inl h)))⟩
theorem IntF.one {w : World} {v : Value} {l : List Int} {F : List Nat} (h : IntF w v l F) : v.oneCell' = true := by
  obtain ⟨A, c, rfl, _⟩ := h
  rfl
theorem StS.one {w : World} {v : Value} {l : Ss} {F : List Nat} (h : StS w v l F) : v.oneCell' = true := by
  obtain ⟨A, c, rfl, _⟩ := h.slice
  rfl
theorem cnt_app_part (d r t e : Ss) (op x y n : Int) : cntL t + cntL e ≤ cntL (d.app (.cons op x y n t e r)) := by
  rw [cntL_app]
  simp only [cntL]
  omega
theorem DrP.drD {B rb : Nat} {w : World} {tv bv : Value} {tl : List Int} {l : Ss} {Ft Fb : List Nat} (h1 : IntF w tv tl Ft) (h2 : StS w bv l Fb) (h3 : ∀ x ∈ Ft ++ Fb, B ≤ x ∧ x < w.heap.size) (hr : rb < B) : PrD w [rb] tv bv tl l :=
  ⟨Ft, Fb, h1, h2, fun x hx => by have := h3 x hx; exact ⟨by simp; omega, by omega⟩⟩
theorem DrawProgramValid_ret (v : Value) (w : World) (hd : ByD w v) : Ret Try.prog 33 [v] w (AnyQ w) := by
  refine enter Try.func33 rfl Try.ntmps33 rfl rfl ?_
  refine Z43 (Z44 (WO_alloc fun w0 hz ez zz => ?_))
  replace hz : Blk w0 w.heap.size [.slice none 0 0, .slice none 0 0] _ := hz
  have s0 := hz.lt
  refine goS ?_
  refine WO_call rfl (openU_ret v w0 (hd.ext ez)) ?_
  rintro _ w1 ⟨rb, rfl, hrb, hr, e1⟩
  have s1 := e1.size_le
  refine goS ?_
  refine WO_call rfl (l1Draw_ret rb 0 w1 hr (by omega)) ?_
  rintro _ w2 ⟨⟨tv0, bv0, tl0, l0, Ft0, Fb0, rfl, d1, d2, d3, d4, d5⟩, hr2, c2⟩
  have s2 := c2.size
  have hrl := hr.lt
  refine WO_call rfl (l1Mutate_ret rb (0 + 1000) 600 tv0 bv0 tl0 l0 w2 hr2 (by omega) (DrP.drD d1 d2 d3 (by omega)) d4 d5 (by omega)) ?_
  rintro _ w3 ⟨⟨tv, bv, tl, l, Ft, Fb, rfl, h1, h2, h3, htl, hl⟩, hr3, c3⟩
  have s3 := c3.size
  have o1 := h1.one
  have o2 := h2.one
  have hz3 := ((hz.ext e1).chg c2 (by simp; omega)).chg c3 (by simp; omega)
  refine WO_storeS (k := 2) (vs := [tv, bv]) rfl rfl rfl (by simp; exact ⟨o1, o2⟩) hz3 (by decide) fun w4 hz4 o4 => ?_
  replace hz4 : Blk w4 w.heap.size [tv, bv] _ := hz4
  have e3 : Ext w w3 := (c2.trans c3).ext_of (ez.trans e1) (by simp; omega)
  refine goS ?_
  have s4 := o4.size
  exact at_retC rfl rfl hz4 rfl ⟨tv, bv, tl, l, Ft, Fb, rfl, h1.chg o4.chg (fun x hx => by have := h3 x (by simp [hx]); simp; omega), h2.chg o4.chg (fun x hx => by have := h3 x (by simp [hx]); simp; omega), fun x hx => by have := h3 x hx; omega, by omega, e3.only o4 (Nat.le_refl _)⟩
theorem DrawCountStmts_ret (v : Value) (w : World) (hd : ByD w v) : Ret Try.prog 36 [v] w (AnyQ w) := by
  refine enter Try.func36 rfl Try.ntmps36 rfl rfl ?_
  refine Z43 (Z44 (WO_alloc fun w0 hz ez zz => ?_))
  replace hz : Blk w0 w.heap.size [.slice none 0 0, .slice none 0 0] _ := hz
  refine goS ?_
  refine WO_call rfl (DrawProgramValid_ret v w0 (hd.ext ez)) ?_
  rintro _ w3 ⟨tv, bv, tl, l, Ft, Fb, rfl, h1, h2, h3, hb, e3⟩
  have o1 := h1.one
  have o2 := h2.one
  have s0 := hz.lt
  have s3 := e3.size_le
  refine WO_storeS (k := 2) (vs := [tv, bv]) rfl rfl rfl (by simp; exact ⟨o1, o2⟩) (hz.ext e3) (by decide) fun w4 hz4 o4 => ?_
  replace hz4 : Blk w4 w.heap.size [tv, bv] _ := hz4
  have s4 := o4.size
  refine goS ?_
  exact at_retC rfl rfl hz4 rfl ⟨tv, bv, tl, l, Ft, Fb, rfl, h1.chg o4.chg (fun x hx => by have := h3 x (by simp [hx]); simp; omega), h2.chg o4.chg (fun x hx => by have := h3 x (by simp [hx]); simp; omega), fun x hx => by have := h3 x hx; omega, hb, (ez.trans e3).only o4 (Nat.le_refl _)⟩
theorem DrawStmtValid_ret (v : Value) (w : World) (hd : ByD w v) : Ret Try.prog 26 [v] w (AnyS w) := by
  refine enter Try.func26 rfl Try.ntmps26 rfl rfl ?_
  refine Z43 (Z44 ?_)
  refine goS ?_
  refine WO_alloc fun w0 hz ez zz => ?_
  replace hz : Blk w0 w.heap.size [.int .i64 0, .int .i64 0, .int .i64 0, .int .i64 0, .slice none 0 0, .slice none 0 0] _ := hz
  have s0 := hz.lt
  refine goS ?_
  refine WO_call rfl (openU_ret v w0 (hd.ext ez)) ?_
  rintro _ w1 ⟨rb, rfl, hrb, hr, e1⟩
  have s1 := e1.size_le
  refine goS ?_
  refine WO_call rfl (l1Draw_ret rb 0 w1 hr (by omega)) ?_
  rintro _ w2 ⟨⟨tv0, bv0, tl0, l0, Ft0, Fb0, rfl, d1, d2, d3, d4, d5⟩, hr2, c2⟩
  have s2 := c2.size
  have hrl := hr.lt
  refine WO_call rfl (l1Mutate_ret rb (0 + 1000) 600 tv0 bv0 tl0 l0 w2 hr2 (by omega) (DrP.drD d1 d2 d3 (by omega)) d4 d5 (by omega)) ?_
  rintro _ w3 ⟨⟨tv, bv, tl, l, Ft, Fb, rfl, h1, h2, h3, htl, hl⟩, hr3, c3⟩
  have s3 := c3.size
  have o1 := h1.one
  have o2 := h2.one
  have hz3 := ((hz.ext e1).chg c2 (by simp; omega)).chg c3 (by simp; omega)
  have e03 : Ext w w3 := (c2.trans c3).ext_of (ez.trans e1) (by simp; omega)
  refine WO_alloc fun w4 hp4 e4 z4 => ?_
  refine WO_storeS (k := 2) (vs := [tv, bv]) rfl rfl rfl (by simp; exact ⟨o1, o2⟩) hp4 (by decide) fun w5 hp o5 => ?_
  replace hp : Blk w5 w3.heap.size [tv, bv] _ := hp
  have e5 : Ext w3 w5 := e4.only o5 (Nat.le_refl _)
  replace h1 := h1.ext e5
  replace h2 := h2.ext e5
  have hz5 := hz3.ext e5
  have hr5 := hr3.ext e5
  have e05 := e03.trans e5
  have s5 := hp.lt
  have hlc := len_le_cntL l
  obtain ⟨A, c, rfl, hlm, hlc2⟩ := h2.slice
  unfold maxI at hlm
  refine goS ?_
  by_cases h0 : l.len = 0
  · rw [show (((l.len : Nat) : Int) == 0) = true from by rw [beq_iff_eq]; omega]
    refine goS ?_
    refine W_held0 [rb, w.heap.size] [(2, tv), (3, .pointer (some ⟨w.heap.size, 0, none⟩))] (fun w' => ∃ op x : Int, Blk w' w.heap.size [.int .i64 op, .int .i64 x, .int .i64 0, .int .i64 0, .slice none 0 0, .slice none 0 0] 38 ∧ Chg [rb, w.heap.size] w5 w') (by kernel_rfl) (fun ws es hS => ?_) (fun w8 hR => ?_)
    · have hps := hp.ext es
      have hzs := hz5.ext es
      have hrs := hr5.ext es
      have hlr := hrs.lt
      have ss := es.size_le
      first | refine Z82 0 rfl (by kernel_rfl) (by kernel_rfl) (by kernel_rfl) (by assumption) (fun w' hw' => Z56 rfl) ?_ | refine Z82 0 rfl (by kernel_rfl) (by kernel_rfl) (by kernel_rfl) (by assumption) (fun w' hw' => Z63 rfl rfl) ?_ | refine Z82 0 rfl (by kernel_rfl) (by kernel_rfl) (by kernel_rfl) (by assumption) (fun w' hw' => Z64 rfl rfl) ?_ | refine Z82 0 rfl (by kernel_rfl) (by kernel_rfl) (by kernel_rfl) (by assumption) (fun w' hw' => Z75 rfl rfl (by omega)) ?_ | refine Z82 0 rfl (by kernel_rfl) (by kernel_rfl) (by kernel_rfl) (by assumption) (fun w' hw' => Z72 rfl) ?_ | refine Z82 0 rfl (by kernel_rfl) (by kernel_rfl) (by kernel_rfl) (by assumption) (fun w' hw' => Z69 rfl rfl rfl (by omega)) ?_ | refine Z82 0 rfl (by kernel_rfl) (by kernel_rfl) (by kernel_rfl) (by assumption) (fun w' hw' => Z30 rfl (by rfl) (by simp only [Z84, List.set_cons_zero, List.set_cons_succ]; rfl)) ?_
      refine Z82 1 rfl (by kernel_rfl) (by kernel_rfl) (by kernel_rfl) (by assumption) (fun w' hw' => Z66 rfl (hps.chg hw' (by simp; omega)) rfl) ?_
      first | refine Z82 2 rfl (by kernel_rfl) (by kernel_rfl) (by kernel_rfl) (by assumption) (fun w' hw' => Z56 rfl) ?_ | refine Z82 2 rfl (by kernel_rfl) (by kernel_rfl) (by kernel_rfl) (by assumption) (fun w' hw' => Z63 rfl rfl) ?_ | refine Z82 2 rfl (by kernel_rfl) (by kernel_rfl) (by kernel_rfl) (by assumption) (fun w' hw' => Z64 rfl rfl) ?_ | refine Z82 2 rfl (by kernel_rfl) (by kernel_rfl) (by kernel_rfl) (by assumption) (fun w' hw' => Z75 rfl rfl (by omega)) ?_ | refine Z82 2 rfl (by kernel_rfl) (by kernel_rfl) (by kernel_rfl) (by assumption) (fun w' hw' => Z72 rfl) ?_ | refine Z82 2 rfl (by kernel_rfl) (by kernel_rfl) (by kernel_rfl) (by assumption) (fun w' hw' => Z69 rfl rfl rfl (by omega)) ?_ | refine Z82 2 rfl (by kernel_rfl) (by kernel_rfl) (by kernel_rfl) (by assumption) (fun w' hw' => Z30 rfl (by rfl) (by simp only [Z84, List.set_cons_zero, List.set_cons_succ]; rfl)) ?_
      first | refine Z82 5 rfl (by kernel_rfl) (by kernel_rfl) (by kernel_rfl) (by assumption) (fun w' hw' => Z56 rfl) ?_ | refine Z82 5 rfl (by kernel_rfl) (by kernel_rfl) (by kernel_rfl) (by assumption) (fun w' hw' => Z63 rfl rfl) ?_ | refine Z82 5 rfl (by kernel_rfl) (by kernel_rfl) (by kernel_rfl) (by assumption) (fun w' hw' => Z64 rfl rfl) ?_ | refine Z82 5 rfl (by kernel_rfl) (by kernel_rfl) (by kernel_rfl) (by assumption) (fun w' hw' => Z75 rfl rfl (by omega)) ?_ | refine Z82 5 rfl (by kernel_rfl) (by kernel_rfl) (by kernel_rfl) (by assumption) (fun w' hw' => Z72 rfl) ?_ | refine Z82 5 rfl (by kernel_rfl) (by kernel_rfl) (by kernel_rfl) (by assumption) (fun w' hw' => Z69 rfl rfl rfl (by omega)) ?_ | refine Z82 5 rfl (by kernel_rfl) (by kernel_rfl) (by kernel_rfl) (by assumption) (fun w' hw' => Z30 rfl (by rfl) (by simp only [Z84, List.set_cons_zero, List.set_cons_succ]; rfl)) ?_
      refine WH_two 3 6 rfl rfl (by kernel_rfl) ?_ ?_
      · refine WO_ints [0, 1, 9] rfl rfl (by decide) (by decide) fun wa hia ea za => Z31 (at_held (ea.chg _) ?_)
        refine WH_two 4 6 rfl rfl (by kernel_rfl) ?_ ?_
        · refine WO_call rfl (numU_ret rb (0 + 1000 + 3) _ [0, 1, 9] _ wa (hrs.ext ea) (by omega) hia.int (by decide) (by simp; omega)) ?_
          rintro _ wb ⟨y, hy, rfl, hrb', cb⟩
          have Sb : Chg [rb, w.heap.size] ws wb := (ea.chg _).trans (cb.mono (by simp))
          refine Z31 (at_held Sb ?_)
          refine WH_one 6 rfl (by kernel_rfl) (WO_ints [0, 1] rfl rfl (by decide) (by decide) fun wc hic ec zc => Z31 (at_held (Sb.trans (ec.chg _)) ?_))
          refine WX_call 7 rfl (by kernel_rfl) rfl (numU_ret rb (0 + 1000 + 4) _ [0, 1] _ wc (hrb'.ext ec) (by omega) hic.int (by decide) (by have := cb.size; simp; omega)) ?_
          rintro _ wd ⟨x, hx, rfl, hrd, cd⟩
          have hzd := ((((hzs.ext ea).chg cb (by simp; omega)).ext ec).chg cd (by simp; omega))
          have Sd : Chg [rb, w.heap.size] ws wd := (Sb.trans (ec.chg _)).trans (cd.mono (by simp))
          refine ⟨Sd, ?_⟩
          refine Z82 8 rfl (by kernel_rfl) (by kernel_rfl) (by kernel_rfl) (by assumption) (fun w' hw' => Z30 (cs := [.int .i64 y, .int .i64 x, .int .i64 0, .int .i64 0, .slice none 0 0, .slice none 0 0]) rfl (by rfl) rfl) ?_
          first | refine Z82 9 rfl (by kernel_rfl) (by kernel_rfl) (by kernel_rfl) (by assumption) (fun w' hw' => Z56 rfl) ?_ | refine Z82 9 rfl (by kernel_rfl) (by kernel_rfl) (by kernel_rfl) (by assumption) (fun w' hw' => Z63 rfl rfl) ?_ | refine Z82 9 rfl (by kernel_rfl) (by kernel_rfl) (by kernel_rfl) (by assumption) (fun w' hw' => Z64 rfl rfl) ?_ | refine Z82 9 rfl (by kernel_rfl) (by kernel_rfl) (by kernel_rfl) (by assumption) (fun w' hw' => Z75 rfl rfl (by omega)) ?_ | refine Z82 9 rfl (by kernel_rfl) (by kernel_rfl) (by kernel_rfl) (by assumption) (fun w' hw' => Z72 rfl) ?_ | refine Z82 9 rfl (by kernel_rfl) (by kernel_rfl) (by kernel_rfl) (by assumption) (fun w' hw' => Z69 rfl rfl rfl (by omega)) ?_ | refine Z82 9 rfl (by kernel_rfl) (by kernel_rfl) (by kernel_rfl) (by assumption) (fun w' hw' => Z30 rfl (by rfl) (by simp only [Z84, List.set_cons_zero, List.set_cons_succ]; rfl)) ?_
          refine WH_one 10 rfl (by kernel_rfl) (WO_storeS (k := 6) (vs := [.int .i64 y, .int .i64 x, .int .i64 0, .int .i64 0, .slice none 0 0, .slice none 0 0]) rfl rfl rfl (by simp [int_one, sl_one]) hzd (by decide) fun wf hzf of_ => Z31 (at_held (Sd.trans (of_.chg.mono (by simp))) ?_))
          replace hzf : Blk wf w.heap.size [.int .i64 y, .int .i64 x, .int .i64 0, .int .i64 0, .slice none 0 0, .slice none 0 0] _ := hzf
          exact WH_done (by kernel_rfl) (by repeat (first | exact True.intro | refine And.intro rfl ?_)) ⟨y, x, hzf, (es.chg _).trans (Sd.trans (of_.chg.mono (by simp)))⟩
        · refine WO_ints [0, 1] rfl rfl (by decide) (by decide) fun wc hic ec zc => Z31 (at_held ((ea.trans ec).chg _) ?_)
          have ea2 := ea.trans ec
          refine WX_call 4 rfl (by kernel_rfl) rfl (numU_ret rb (0 + 1000 + 3) _ [0, 1, 9] _ wc (hrs.ext ea2) (by omega) (hia.ext ec).int (by decide) (by simp; omega)) ?_
          rintro _ wb ⟨y, hy, rfl, hrb', cb⟩
          have Sb : Chg [rb, w.heap.size] ws wb := (ea2.chg _).trans (cb.mono (by simp))
          refine ⟨Sb, ?_⟩
          refine WX_call 7 rfl (by kernel_rfl) rfl (numU_ret rb (0 + 1000 + 4) _ [0, 1] _ wb hrb' (by omega) (hic.chg cb (by simp; omega)).int (by decide) (by simp; omega)) ?_
          rintro _ wd ⟨x, hx, rfl, hrd, cd⟩
          have hzd := ((hzs.ext ea2).chg cb (by simp; omega)).chg cd (by simp; omega)
          have Sd : Chg [rb, w.heap.size] ws wd := Sb.trans (cd.mono (by simp))
          refine ⟨Sd, ?_⟩
          refine Z82 8 rfl (by kernel_rfl) (by kernel_rfl) (by kernel_rfl) (by assumption) (fun w' hw' => Z30 (cs := [.int .i64 y, .int .i64 x, .int .i64 0, .int .i64 0, .slice none 0 0, .slice none 0 0]) rfl (by rfl) rfl) ?_
          first | refine Z82 9 rfl (by kernel_rfl) (by kernel_rfl) (by kernel_rfl) (by assumption) (fun w' hw' => Z56 rfl) ?_ | refine Z82 9 rfl (by kernel_rfl) (by kernel_rfl) (by kernel_rfl) (by assumption) (fun w' hw' => Z63 rfl rfl) ?_ | refine Z82 9 rfl (by kernel_rfl) (by kernel_rfl) (by kernel_rfl) (by assumption) (fun w' hw' => Z64 rfl rfl) ?_ | refine Z82 9 rfl (by kernel_rfl) (by kernel_rfl) (by kernel_rfl) (by assumption) (fun w' hw' => Z75 rfl rfl (by omega)) ?_ | refine Z82 9 rfl (by kernel_rfl) (by kernel_rfl) (by kernel_rfl) (by assumption) (fun w' hw' => Z72 rfl) ?_ | refine Z82 9 rfl (by kernel_rfl) (by kernel_rfl) (by kernel_rfl) (by assumption) (fun w' hw' => Z69 rfl rfl rfl (by omega)) ?_ | refine Z82 9 rfl (by kernel_rfl) (by kernel_rfl) (by kernel_rfl) (by assumption) (fun w' hw' => Z30 rfl (by rfl) (by simp only [Z84, List.set_cons_zero, List.set_cons_succ]; rfl)) ?_
          refine WH_one 10 rfl (by kernel_rfl) (WO_storeS (k := 6) (vs := [.int .i64 y, .int .i64 x, .int .i64 0, .int .i64 0, .slice none 0 0, .slice none 0 0]) rfl rfl rfl (by simp [int_one, sl_one]) hzd (by decide) fun wf hzf of_ => Z31 (at_held (Sd.trans (of_.chg.mono (by simp))) ?_))
          replace hzf : Blk wf w.heap.size [.int .i64 y, .int .i64 x, .int .i64 0, .int .i64 0, .slice none 0 0, .slice none 0 0] _ := hzf
          exact WH_done (by kernel_rfl) (by repeat (first | exact True.intro | refine And.intro rfl ?_)) ⟨y, x, hzf, (es.chg _).trans (Sd.trans (of_.chg.mono (by simp)))⟩
      · refine WO_ints [0, 1] rfl rfl (by decide) (by decide) fun wc hic ec zc => Z31 (at_held (ec.chg _) ?_)
        refine WH_one 3 rfl (by kernel_rfl) (WO_ints [0, 1, 9] rfl rfl (by decide) (by decide) fun wa hia ea za => Z31 (at_held ((ec.trans ea).chg _) ?_))
        have ea2 := ec.trans ea
        refine WX_call 4 rfl (by kernel_rfl) rfl (numU_ret rb (0 + 1000 + 3) _ [0, 1, 9] _ wa (hrs.ext ea2) (by omega) hia.int (by decide) (by simp; omega)) ?_
        rintro _ wb ⟨y, hy, rfl, hrb', cb⟩
        have Sb : Chg [rb, w.heap.size] ws wb := (ea2.chg _).trans (cb.mono (by simp))
        refine ⟨Sb, ?_⟩
        refine WX_call 7 rfl (by kernel_rfl) rfl (numU_ret rb (0 + 1000 + 4) _ [0, 1] _ wb hrb' (by omega) ((hic.ext ea).chg cb (by simp; omega)).int (by decide) (by simp; omega)) ?_
        rintro _ wd ⟨x, hx, rfl, hrd, cd⟩
        have hzd := ((hzs.ext ea2).chg cb (by simp; omega)).chg cd (by simp; omega)
        have Sd : Chg [rb, w.heap.size] ws wd := Sb.trans (cd.mono (by simp))
        refine ⟨Sd, ?_⟩
        refine Z82 8 rfl (by kernel_rfl) (by kernel_rfl) (by kernel_rfl) (by assumption) (fun w' hw' => Z30 (cs := [.int .i64 y, .int .i64 x, .int .i64 0, .int .i64 0, .slice none 0 0, .slice none 0 0]) rfl (by rfl) rfl) ?_
        first | refine Z82 9 rfl (by kernel_rfl) (by kernel_rfl) (by kernel_rfl) (by assumption) (fun w' hw' => Z56 rfl) ?_ | refine Z82 9 rfl (by kernel_rfl) (by kernel_rfl) (by kernel_rfl) (by assumption) (fun w' hw' => Z63 rfl rfl) ?_ | refine Z82 9 rfl (by kernel_rfl) (by kernel_rfl) (by kernel_rfl) (by assumption) (fun w' hw' => Z64 rfl rfl) ?_ | refine Z82 9 rfl (by kernel_rfl) (by kernel_rfl) (by kernel_rfl) (by assumption) (fun w' hw' => Z75 rfl rfl (by omega)) ?_ | refine Z82 9 rfl (by kernel_rfl) (by kernel_rfl) (by kernel_rfl) (by assumption) (fun w' hw' => Z72 rfl) ?_ | refine Z82 9 rfl (by kernel_rfl) (by kernel_rfl) (by kernel_rfl) (by assumption) (fun w' hw' => Z69 rfl rfl rfl (by omega)) ?_ | refine Z82 9 rfl (by kernel_rfl) (by kernel_rfl) (by kernel_rfl) (by assumption) (fun w' hw' => Z30 rfl (by rfl) (by simp only [Z84, List.set_cons_zero, List.set_cons_succ]; rfl)) ?_
        refine WH_one 10 rfl (by kernel_rfl) (WO_storeS (k := 6) (vs := [.int .i64 y, .int .i64 x, .int .i64 0, .int .i64 0, .slice none 0 0, .slice none 0 0]) rfl rfl rfl (by simp [int_one, sl_one]) hzd (by decide) fun wf hzf of_ => Z31 (at_held (Sd.trans (of_.chg.mono (by simp))) ?_))
        replace hzf : Blk wf w.heap.size [.int .i64 y, .int .i64 x, .int .i64 0, .int .i64 0, .slice none 0 0, .slice none 0 0] _ := hzf
        exact WH_done (by kernel_rfl) (by repeat (first | exact True.intro | refine And.intro rfl ?_)) ⟨y, x, hzf, (es.chg _).trans (Sd.trans (of_.chg.mono (by simp)))⟩
    · obtain ⟨op, x, hz8, c8⟩ := hR
      refine goS ?_
      exact at_ret2G rfl (.tmp rfl) (.cell inferInstance rfl hz8 rfl) ⟨tv, tl, Ft, op, x, 0, 0, _, _, .nil, .nil, [], [], rfl, h1.chg c8 (fun z hz => by have := h3 z (by simp [hz]); simp; omega), StS.nil_ _ _ _, StS.nil_ _ _ _, fun z hz => by have := h3 z (by simp at hz; simp [hz]); have := c8.size; omega, ⟨by omega, by simp [cntL]⟩, c8.ext_of e05 (by simp; omega)⟩
  · rw [show (((l.len : Nat) : Int) == 0) = false from by rw [beq_eq_false_iff_ne]; omega]
    refine goS ?_
    refine W_held0 [rb, w.heap.size] [(2, tv), (3, .pointer (some ⟨w.heap.size, 0, none⟩))] (fun w' => ∃ op x y n vt ve t e F1 F2, Blk w' w.heap.size [.int .i64 op, .int .i64 x, .int .i64 y, .int .i64 n, vt, ve] 38 ∧ StS w' vt t F1 ∧ StS w' ve e F2 ∧ (∀ z ∈ F1 ++ F2, w2.heap.size ≤ z ∧ z < w3.heap.size) ∧ cntL t + cntL e ≤ 20000 ∧ Chg [rb, w.heap.size] w5 w') (by kernel_rfl) (fun ws es hS => ?_) (fun w8 hR => ?_)
    · have hps := hp.ext es
      have hzs := hz5.ext es
      have hrs := hr5.ext es
      have hlr := hrs.lt
      have ss := es.size_le
      first | refine Z82 0 rfl (by kernel_rfl) (by kernel_rfl) (by kernel_rfl) (by assumption) (fun w' hw' => Z56 rfl) ?_ | refine Z82 0 rfl (by kernel_rfl) (by kernel_rfl) (by kernel_rfl) (by assumption) (fun w' hw' => Z63 rfl rfl) ?_ | refine Z82 0 rfl (by kernel_rfl) (by kernel_rfl) (by kernel_rfl) (by assumption) (fun w' hw' => Z64 rfl rfl) ?_ | refine Z82 0 rfl (by kernel_rfl) (by kernel_rfl) (by kernel_rfl) (by assumption) (fun w' hw' => Z75 rfl rfl (by omega)) ?_ | refine Z82 0 rfl (by kernel_rfl) (by kernel_rfl) (by kernel_rfl) (by assumption) (fun w' hw' => Z72 rfl) ?_ | refine Z82 0 rfl (by kernel_rfl) (by kernel_rfl) (by kernel_rfl) (by assumption) (fun w' hw' => Z69 rfl rfl rfl (by omega)) ?_ | refine Z82 0 rfl (by kernel_rfl) (by kernel_rfl) (by kernel_rfl) (by assumption) (fun w' hw' => Z30 rfl (by rfl) (by simp only [Z84, List.set_cons_zero, List.set_cons_succ]; rfl)) ?_
      refine Z82 1 rfl (by kernel_rfl) (by kernel_rfl) (by kernel_rfl) (by assumption) (fun w' hw' => Z66 rfl (hps.chg hw' (by simp; omega)) rfl) ?_
      first | refine Z82 2 rfl (by kernel_rfl) (by kernel_rfl) (by kernel_rfl) (by assumption) (fun w' hw' => Z56 rfl) ?_ | refine Z82 2 rfl (by kernel_rfl) (by kernel_rfl) (by kernel_rfl) (by assumption) (fun w' hw' => Z63 rfl rfl) ?_ | refine Z82 2 rfl (by kernel_rfl) (by kernel_rfl) (by kernel_rfl) (by assumption) (fun w' hw' => Z64 rfl rfl) ?_ | refine Z82 2 rfl (by kernel_rfl) (by kernel_rfl) (by kernel_rfl) (by assumption) (fun w' hw' => Z75 rfl rfl (by omega)) ?_ | refine Z82 2 rfl (by kernel_rfl) (by kernel_rfl) (by kernel_rfl) (by assumption) (fun w' hw' => Z72 rfl) ?_ | refine Z82 2 rfl (by kernel_rfl) (by kernel_rfl) (by kernel_rfl) (by assumption) (fun w' hw' => Z69 rfl rfl rfl (by omega)) ?_ | refine Z82 2 rfl (by kernel_rfl) (by kernel_rfl) (by kernel_rfl) (by assumption) (fun w' hw' => Z30 rfl (by rfl) (by simp only [Z84, List.set_cons_zero, List.set_cons_succ]; rfl)) ?_
      refine Z82 3 rfl (by kernel_rfl) (by kernel_rfl) (by kernel_rfl) (by assumption) (fun w' hw' => Z66 rfl (hps.chg hw' (by simp; omega)) rfl) ?_
      first | refine Z82 4 rfl (by kernel_rfl) (by kernel_rfl) (by kernel_rfl) (by assumption) (fun w' hw' => Z56 rfl) ?_ | refine Z82 4 rfl (by kernel_rfl) (by kernel_rfl) (by kernel_rfl) (by assumption) (fun w' hw' => Z63 rfl rfl) ?_ | refine Z82 4 rfl (by kernel_rfl) (by kernel_rfl) (by kernel_rfl) (by assumption) (fun w' hw' => Z64 rfl rfl) ?_ | refine Z82 4 rfl (by kernel_rfl) (by kernel_rfl) (by kernel_rfl) (by assumption) (fun w' hw' => Z75 rfl rfl (by omega)) ?_ | refine Z82 4 rfl (by kernel_rfl) (by kernel_rfl) (by kernel_rfl) (by assumption) (fun w' hw' => Z72 rfl) ?_ | refine Z82 4 rfl (by kernel_rfl) (by kernel_rfl) (by kernel_rfl) (by assumption) (fun w' hw' => Z69 rfl rfl rfl (by omega)) ?_ | refine Z82 4 rfl (by kernel_rfl) (by kernel_rfl) (by kernel_rfl) (by assumption) (fun w' hw' => Z30 rfl (by rfl) (by simp only [Z84, List.set_cons_zero, List.set_cons_succ]; rfl)) ?_
      first | refine Z82 5 rfl (by kernel_rfl) (by kernel_rfl) (by kernel_rfl) (by assumption) (fun w' hw' => Z56 rfl) ?_ | refine Z82 5 rfl (by kernel_rfl) (by kernel_rfl) (by kernel_rfl) (by assumption) (fun w' hw' => Z63 rfl rfl) ?_ | refine Z82 5 rfl (by kernel_rfl) (by kernel_rfl) (by kernel_rfl) (by assumption) (fun w' hw' => Z64 rfl rfl) ?_ | refine Z82 5 rfl (by kernel_rfl) (by kernel_rfl) (by kernel_rfl) (by assumption) (fun w' hw' => Z75 rfl rfl (by omega)) ?_ | refine Z82 5 rfl (by kernel_rfl) (by kernel_rfl) (by kernel_rfl) (by assumption) (fun w' hw' => Z72 rfl) ?_ | refine Z82 5 rfl (by kernel_rfl) (by kernel_rfl) (by kernel_rfl) (by assumption) (fun w' hw' => Z69 rfl rfl rfl (by omega)) ?_ | refine Z82 5 rfl (by kernel_rfl) (by kernel_rfl) (by kernel_rfl) (by assumption) (fun w' hw' => Z30 rfl (by rfl) (by simp only [Z84, List.set_cons_zero, List.set_cons_succ]; rfl)) ?_
      refine Z82 6 rfl (by kernel_rfl) (by kernel_rfl) (by kernel_rfl) (by assumption) (fun w' hw' => Z66 rfl (hps.chg hw' (by simp; omega)) rfl) ?_
      first | refine Z82 7 rfl (by kernel_rfl) (by kernel_rfl) (by kernel_rfl) (by assumption) (fun w' hw' => Z56 rfl) ?_ | refine Z82 7 rfl (by kernel_rfl) (by kernel_rfl) (by kernel_rfl) (by assumption) (fun w' hw' => Z63 rfl rfl) ?_ | refine Z82 7 rfl (by kernel_rfl) (by kernel_rfl) (by kernel_rfl) (by assumption) (fun w' hw' => Z64 rfl rfl) ?_ | refine Z82 7 rfl (by kernel_rfl) (by kernel_rfl) (by kernel_rfl) (by assumption) (fun w' hw' => Z75 rfl rfl (by omega)) ?_ | refine Z82 7 rfl (by kernel_rfl) (by kernel_rfl) (by kernel_rfl) (by assumption) (fun w' hw' => Z72 rfl) ?_ | refine Z82 7 rfl (by kernel_rfl) (by kernel_rfl) (by kernel_rfl) (by assumption) (fun w' hw' => Z69 rfl rfl rfl (by omega)) ?_ | refine Z82 7 rfl (by kernel_rfl) (by kernel_rfl) (by kernel_rfl) (by assumption) (fun w' hw' => Z30 rfl (by rfl) (by simp only [Z84, List.set_cons_zero, List.set_cons_succ]; rfl)) ?_
      refine WX_call 8 rfl (by kernel_rfl) rfl (pickU_ret rb (0 + 1000 + 3) (l.len : Int) ws hrs (by omega) (by omega)) ?_
      rintro _ wb ⟨i, rfl, hi, hrb', cb⟩
      have hil : i < l.len := by omega
      have Sb : Chg [rb, w.heap.size] ws wb := cb.mono (by simp)
      refine ⟨Sb, ?_⟩
      obtain ⟨op, x, y, n, t, e, r, q1, q2, q3, q4⟩ := Ss.at_ hil
      obtain ⟨b, o, vt, ve, F1, F2, rfl, _, hcells, hT, hE, hsub⟩ := StS.oneF h2 q1
      rw [q2] at hcells
      have oT := hT.one
      have oE := hE.one
      have hF12 : ∀ z ∈ F1 ++ F2, w2.heap.size ≤ z ∧ z < w3.heap.size := fun z hz => by have := h3 z (by simp only [List.mem_append]; exact .inr (hsub.2 z hz)); omega
      have hbb : w2.heap.size ≤ b ∧ b < w3.heap.size := by have := h3 b (by simp only [List.mem_append]; exact .inr hsub.1); omega
      refine Z82 9 rfl (by kernel_rfl) (by kernel_rfl) (by kernel_rfl) (by assumption) (fun w' hw' => Z69 (j := i) rfl rfl rfl hil) ?_
      refine Z82 10 rfl (by kernel_rfl) (by kernel_rfl) (by kernel_rfl) (by assumption) (fun w' hw' => q_loadS (cs := [.int .i64 op, .int .i64 x, .int .i64 y, .int .i64 n, vt, ve]) rfl rfl (fun j u hu => cell_chg (cell_ext (hcells j u hu) es) hw' (by simp; omega))) ?_
      first | refine Z82 11 rfl (by kernel_rfl) (by kernel_rfl) (by kernel_rfl) (by assumption) (fun w' hw' => Z56 rfl) ?_ | refine Z82 11 rfl (by kernel_rfl) (by kernel_rfl) (by kernel_rfl) (by assumption) (fun w' hw' => Z63 rfl rfl) ?_ | refine Z82 11 rfl (by kernel_rfl) (by kernel_rfl) (by kernel_rfl) (by assumption) (fun w' hw' => Z64 rfl rfl) ?_ | refine Z82 11 rfl (by kernel_rfl) (by kernel_rfl) (by kernel_rfl) (by assumption) (fun w' hw' => Z75 rfl rfl (by omega)) ?_ | refine Z82 11 rfl (by kernel_rfl) (by kernel_rfl) (by kernel_rfl) (by assumption) (fun w' hw' => Z72 rfl) ?_ | refine Z82 11 rfl (by kernel_rfl) (by kernel_rfl) (by kernel_rfl) (by assumption) (fun w' hw' => Z69 rfl rfl rfl (by omega)) ?_ | refine Z82 11 rfl (by kernel_rfl) (by kernel_rfl) (by kernel_rfl) (by assumption) (fun w' hw' => Z30 rfl (by rfl) (by simp only [Z84, List.set_cons_zero, List.set_cons_succ]; rfl)) ?_
      have hzb := hzs.chg cb (by simp; omega)
      refine WH_one 12 rfl (by kernel_rfl) (WO_storeS (k := 6) (vs := [.int .i64 op, .int .i64 x, .int .i64 y, .int .i64 n, vt, ve]) rfl rfl rfl (by intro u hu; simp at hu; rcases hu with rfl | rfl | rfl | rfl | rfl | rfl <;> first | rfl | assumption) hzb (by decide) fun wf hzf of_ => Z31 (at_held (Sb.trans (of_.chg.mono (by simp))) ?_))
      replace hzf : Blk wf w.heap.size [.int .i64 op, .int .i64 x, .int .i64 y, .int .i64 n, vt, ve] _ := hzf
      have hcnt : cntL t + cntL e ≤ 20000 := by
        have := cnt_app_part (l.take i) r t e op x y n
        rw [← q1] at this
        omega
      have cf : Chg [rb, w.heap.size] ws wf := Sb.trans (of_.chg.mono (by simp))
      exact WH_done (by kernel_rfl) (by repeat (first | exact True.intro | refine And.intro rfl ?_)) ⟨op, x, y, n, vt, ve, t, e, F1, F2, hzf, (hT.ext es).chg cf (fun z hz => by have := hF12 z (by simp [hz]); simp; omega), (hE.ext es).chg cf (fun z hz => by have := hF12 z (by simp [hz]); simp; omega), hF12, hcnt, (es.chg _).trans cf⟩
    · obtain ⟨op, x, y, n, vt, ve, t, e, F1, F2, hz8, hT, hE, hF12, hcnt, c8⟩ := hR
      have s8 := c8.size
      refine goS ?_
      exact at_ret2G rfl (.tmp rfl) (.cell inferInstance rfl hz8 rfl) ⟨tv, tl, Ft, op, x, y, n, _, _, t, e, F1, F2, rfl, h1.chg c8 (fun z hz => by have := h3 z (by simp [hz]); simp; omega), hT, hE, fun z hz => by
        rcases List.mem_append.1 hz with h | h
        · have := h3 z (by simp [h]); omega
        · have := hF12 z h; omega, ⟨by omega, hcnt⟩, c8.ext_of e05 (by simp; omega)⟩
end Go.Proofs.Ytplcmbipeanjdaa
