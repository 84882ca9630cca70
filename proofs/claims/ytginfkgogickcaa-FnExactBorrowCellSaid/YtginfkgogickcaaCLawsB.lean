/-
  What is proved here: the laws FnExactShareCell and FnExactBorrowCell.
-/
import Derived.Test.YtginfkgogickcaaCLaws
namespace Go.Proofs.Ytginfkgogickcaa
set_option linter.unusedVariables false
set_option linter.unusedSimpArgs false
set_option linter.unnecessarySimpa false
open Go.RowKit
theorem FnExactShareCell_ret {w : World} {v : Value} {y : List Ce × List Nat} {pv : Value} (h : CeS w v y.1 y.2) {x : Pt} (hpv : pv = ptV x) :
    Ret Try.prog 10 [v, pv] w fun r w' => r = .bool true ∧ Ext w w' := by
  obtain ⟨l, F⟩ := y
  subst hpv
  simp only at h
  have e0 := Ext.refl w
  refine enter Try.func10 rfl Try.ntmps10 rfl rfl ?_
  refine Z43 (Z44 (WO_box rfl fun w0 hb eb zb => ?_))
  replace hb : Blk w0 w.heap.size [.int .i64 x.cell, .int .i64 x.tag] _ := hb
  replace e0 := e0.trans eb
  repeat (first | (refine Z0 ?_; first | refine Z1 rfl ?_ | (refine Z2 ?_; first | refine Z3 rfl rfl (by decide) ?_ | refine Z4 rfl rfl (by decide) ?_ | refine Z5 rfl rfl ?_) | (refine Z6 ?_; first | refine Z7 rfl rfl ?_ | refine Z8 rfl rfl ?_) | (refine Z9 ?_; first | refine Z10 rfl (by assumption) (by rfl) ?_ | refine Z11 rfl (by assumption) ?_) | (refine Z12 ?_; first | refine Z13 (Z14 rfl (by decide) rfl) ?_ | refine Z13 (Z15 rfl (by decide) rfl) ?_) | (refine Z16 ?_; first | refine Z17 rfl ?_ | refine Z18 rfl ?_) | (refine Z19 ?_; first | refine Z20 rfl rfl (by omega) ?_ | refine Z21 rfl rfl (by omega) ?_ | refine Z22 rfl rfl (by omega) ?_ | refine Z23 rfl rfl (by omega) (by omega) ?_ | refine Z24 rfl rfl (by omega) (by omega) (by omega) ?_ | refine Z13 (Z25 rfl rfl) ?_ | refine Z13 (Z26 rfl rfl) ?_) | (refine Z27 ?_; refine Z13 (Z28 rfl (Z53 ⟨by omega, by omega⟩)) ?_) | (refine Z29 ?_; refine Z13 (Z30 rfl (by rfl) (by simp only [Z84, List.set_cons_zero, List.set_cons_succ]; rfl)) ?_) | refine Z31 ?_) | (refine Z32 ?_; first | refine Z33 ?_ | refine Z34 ?_ | refine Z35 ?_ | refine Z36 ?_ | refine Z37 ?_ | refine Z38 rfl ?_ | refine Z39 ?_ | refine Z40 ?_ | refine Z41 ?_) | (refine Z42 ?_; first | refine Z43 ?_ | refine Z44 ?_ | refine Z45 ?_ | refine Z46 ?_ | refine Z47 ?_ | refine Z48 ?_ | refine Z49 rfl (by decide) ?_ | refine Z50 rfl (by decide) ?_))
  refine WO_call rfl (szCellS_ret v l F 1048576 _ (h.ext e0) (by decide) (by decide)) ?_
  rintro r w1 ⟨⟨left, rfl, hle, hsz⟩, e1⟩
  replace e0 := e0.trans e1
  try replace ha := Own.ext ha e1
  try replace hx := Own.ext hx e1
  try replace hg := Own.ext hg e1
  try replace hp := Blk.ext hp e1
  try replace hq := Blk.ext hq e1
  try replace hb := Blk.ext hb e1
  have := Ext.size_le e1
  repeat' (first | (refine Z0 ?_; first | refine Z1 rfl ?_ | (refine Z2 ?_; first | refine Z3 rfl rfl (by decide) ?_ | refine Z4 rfl rfl (by decide) ?_ | refine Z5 rfl rfl ?_ | ((refine Z51 rfl rfl (fun c' hc' => ?_)); cases c' <;> (try simp only [decide_eq_true_eq, decide_eq_false_iff_not, beq_iff_eq, beq_eq_false_iff_ne, bne_iff_ne, bne_eq_false_iff_eq, ne_eq, gt_iff_lt, ge_iff_le, Int.not_lt, Int.not_le, Bool.not_eq_true', Bool.not_eq_false', Bool.not_true, Bool.not_false, reduceCtorEq, Decidable.not_not, not_true_eq_false, Bool.true_eq_false, Bool.false_eq_true] at hc') <;> (try (exfalso; omega)))) | (refine Z6 ?_; first | refine Z7 rfl rfl ?_ | refine Z8 rfl rfl ?_) | (refine Z9 ?_; first | refine Z10 rfl (by assumption) (by rfl) ?_ | refine Z11 rfl (by assumption) ?_) | (refine Z12 ?_; first | refine Z13 (Z14 rfl (by decide) rfl) ?_ | refine Z13 (Z15 rfl (by decide) rfl) ?_) | (refine Z16 ?_; first | refine Z17 rfl ?_ | refine Z18 rfl ?_) | (refine Z19 ?_; first | refine Z20 rfl rfl (by omega) ?_ | refine Z21 rfl rfl (by omega) ?_ | refine Z22 rfl rfl (by omega) ?_ | refine Z23 rfl rfl (by omega) (by omega) ?_ | refine Z24 rfl rfl (by omega) (by omega) (by omega) ?_ | refine Z13 (Z25 rfl rfl) ?_ | refine Z13 (Z26 rfl rfl) ?_) | (refine Z27 ?_; refine Z13 (Z28 rfl (Z53 ⟨by omega, by omega⟩)) ?_) | (refine Z29 ?_; refine Z13 (Z30 rfl (by rfl) (by simp only [Z84, List.set_cons_zero, List.set_cons_succ]; rfl)) ?_) | refine Z31 ?_) | (refine Z32 ?_; first | refine Z33 ?_ | refine Z34 ?_ | refine Z35 ?_ | refine Z36 ?_ | refine Z37 ?_ | refine Z38 rfl ?_ | refine Z39 ?_ | refine Z40 ?_ | refine Z41 ?_) | (refine Z42 ?_; first | refine Z43 ?_ | refine Z44 ?_ | refine Z45 ?_ | refine Z46 ?_ | refine Z47 ?_ | refine Z48 ?_ | refine Z49 rfl (by decide) ?_ | refine Z50 rfl (by decide) ?_ | ((refine Z52 rfl (fun hc' => ?_) (fun hc' => ?_)) <;> (try simp only [decide_eq_true_eq, decide_eq_false_iff_not, beq_iff_eq, beq_eq_false_iff_ne, bne_iff_ne, bne_eq_false_iff_eq, ne_eq, gt_iff_lt, ge_iff_le, Int.not_lt, Int.not_le, Bool.not_eq_true', Bool.not_eq_false', Bool.not_true, Bool.not_false, reduceCtorEq, Decidable.not_not, not_true_eq_false, Bool.true_eq_false, Bool.false_eq_true] at hc') <;> (try (exfalso; omega)))))
  · exact at_ret1 rfl rfl ⟨rfl, e0⟩
  have hn : cSize l ≤ 1048576 := by have := hsz (by omega); omega
  clear hsz
  have hm := lentL_size (x := x) (u := false) hn
  refine W_held0E [] (fun τ w' => ∃ z0 z1, τ = [(0, v), (3, .pointer (some ⟨w.heap.size, 0, none⟩)), (6, z0), (7, (.pointer (some ⟨z1, 0, none⟩))), (8, .int .i64 (lentC l x false))] ∧ NewCells 58 62 (lentL l x false) w1 z0 w' ∧ Blk w' z1 [.int .i64 (lentP l x false).cell, .int .i64 (lentP l x false).tag] 35 ∧ w1.heap.size ≤ z1) (by kernel_rfl) (fun ws es hS => ?_) (fun τ wt hT => ?_)
  · refine Z82 0 rfl (by kernel_rfl) (by kernel_rfl) (by kernel_rfl) (by assumption) (fun w' hw' => Z56 rfl) ?_
    refine Z82 2 rfl (by kernel_rfl) (by kernel_rfl) (by kernel_rfl) (by assumption) (fun w' hw' => q_loadS (cs := [.int .i64 x.cell, .int .i64 x.tag]) rfl rfl (fun j u hu => by rw [Nat.zero_add]; exact ((hb.ext es).ext hw'.ext).cell hu)) ?_
    refine WH_two 1 9 rfl rfl (by kernel_rfl) ?_ ?_
    · refine WO_call rfl (toCellS_ret v l F _ (h.ext (e0.trans (es.trans (Ext.refl ws)))) hn) fun xr wr hxr => Z31 (at_held (((Ext.refl ws).trans hxr.2).chg []) ?_)
      have k1 := Ext.trans (Ext.refl ws) hxr.2
      have hSk1 := Ext.chg k1 []
      obtain ⟨Fr, hcr, _⟩ := hxr.ces
      refine WH_two 3 9 rfl rfl (by kernel_rfl) ?_ ?_
      · refine WO_call rfl (toPointer_ret x _) fun _ wp hpp => Z31 (at_held ((k1.trans hpp.2).chg []) ?_)
        obtain ⟨rfl, ep⟩ := hpp
        have k3 := Ext.trans k1 ep
        have hSk3 := Ext.chg k3 []
        replace hcr := hcr.ext ep
        refine WH_two 4 9 rfl rfl (by kernel_rfl) ?_ ?_
        · refine WO_call rfl (sShareCell_ret xr l Fr x _ hcr hn) fun _ wc hAA => Z31 (at_held (by obtain ⟨z0, _, hA⟩ := hAA; exact (k3.trans hA.2).chg []) ?_)
          obtain ⟨z0, rfl, hA⟩ := hAA
          have k4 := Ext.trans k3 hA.2
          have hSk4 := Ext.chg k4 []
          refine Z82 5 rfl (by kernel_rfl) (by kernel_rfl) (by kernel_rfl) (by assumption) (fun w' hw' => Z56 rfl) ?_
          refine Z82 6 rfl (by kernel_rfl) (by kernel_rfl) (by kernel_rfl) (by assumption) (fun w' hw' => Z56 rfl) ?_
          refine Z82 7 rfl (by kernel_rfl) (by kernel_rfl) (by kernel_rfl) (by assumption) (fun w' hw' => Z56 rfl) ?_
          refine Z82 8 rfl (by kernel_rfl) (by kernel_rfl) (by kernel_rfl) (by assumption) (fun w' hw' => Z56 rfl) ?_
          refine WH_one 9 rfl (by kernel_rfl) ?_
          refine WO_alloc fun wb hb2 eb2 zb2 => Z31 (at_held ((k4.trans eb2).chg []) ?_)
          have k9 := Ext.trans k4 eb2
          have hSk9 := Ext.chg k9 []
          have sb := Ext.size_le k4
          refine Z82 10 rfl (by kernel_rfl) (by kernel_rfl) (by kernel_rfl) (by assumption) (fun w' hw' => Z56 rfl) ?_
          refine WH_one 11 rfl (by kernel_rfl) (WO_storeS (k := 2) (vs := [.int .i64 (lentP l x false).cell, .int .i64 (lentP l x false).tag]) rfl rfl rfl (by intro v hv; simp at hv; rcases hv with rfl | rfl <;> rfl) hb2 (by decide) fun we hbe oe => Z31 (at_held ((k9.only oe sb).chg []) ?_))
          have eE := Ext.only k9 oe sb
          have hSE := Ext.chg eE []
          refine Z82 12 rfl (by kernel_rfl) (by kernel_rfl) (by kernel_rfl) (by assumption) (fun w' hw' => Z56 rfl) ?_
          exact WH_doneE (τ := [(0, v), (3, .pointer (some ⟨w.heap.size, 0, none⟩)), (6, z0), (7, _), (8, .int .i64 (lentC l x false))]) (by kernel_rfl) (by repeat (first | exact True.intro | refine And.intro rfl ?_)) ⟨z0, _, rfl, hA.chg (Chg.trans (Ext.chg eb2 _) oe.chg) (by have := Ext.size_le eb2; have := Ext.size_le es; have := Ext.size_le k3; have := Ext.size_le k9; intro b hbb; rw [List.mem_singleton] at hbb; subst hbb; omega) (by have := Ext.size_le es; have := Ext.size_le k3; have := Ext.size_le k9; have := hA.2.size_le; omega) (es.trans eE), hbe, by have := Ext.size_le es; omega⟩
        · refine WO_alloc fun wb hb2 eb2 zb2 => Z31 (at_held ((k3.trans eb2).chg []) ?_)
          have k9 := Ext.trans k3 eb2
          have hSk9 := Ext.chg k9 []
          have sb := Ext.size_le k3
          replace hcr := hcr.ext eb2
          have hlt := hb2.lt
          refine WH_one 4 rfl (by kernel_rfl) ?_
          refine WO_call rfl (sShareCell_ret xr l Fr x _ hcr hn) fun _ wc hAA => Z31 (at_held (by obtain ⟨z0, _, hA⟩ := hAA; exact (k9.trans hA.2).chg []) ?_)
          obtain ⟨z0, rfl, hA⟩ := hAA
          have k4 := Ext.trans k9 hA.2
          have hSk4 := Ext.chg k4 []
          replace hb2 := hb2.ext hA.2
          refine Z82 5 rfl (by kernel_rfl) (by kernel_rfl) (by kernel_rfl) (by assumption) (fun w' hw' => Z56 rfl) ?_
          refine Z82 6 rfl (by kernel_rfl) (by kernel_rfl) (by kernel_rfl) (by assumption) (fun w' hw' => Z56 rfl) ?_
          refine Z82 7 rfl (by kernel_rfl) (by kernel_rfl) (by kernel_rfl) (by assumption) (fun w' hw' => Z56 rfl) ?_
          refine Z82 8 rfl (by kernel_rfl) (by kernel_rfl) (by kernel_rfl) (by assumption) (fun w' hw' => Z56 rfl) ?_
          refine Z82 10 rfl (by kernel_rfl) (by kernel_rfl) (by kernel_rfl) (by assumption) (fun w' hw' => Z56 rfl) ?_
          refine WH_one 11 rfl (by kernel_rfl) (WO_storeS (k := 2) (vs := [.int .i64 (lentP l x false).cell, .int .i64 (lentP l x false).tag]) rfl rfl rfl (by intro v hv; simp at hv; rcases hv with rfl | rfl <;> rfl) hb2 (by decide) fun we hbe oe => Z31 (at_held ((k4.only oe sb).chg []) ?_))
          have eE := Ext.only k4 oe sb
          have hSE := Ext.chg eE []
          refine Z82 12 rfl (by kernel_rfl) (by kernel_rfl) (by kernel_rfl) (by assumption) (fun w' hw' => Z56 rfl) ?_
          exact WH_doneE (τ := [(0, v), (3, .pointer (some ⟨w.heap.size, 0, none⟩)), (6, z0), (7, _), (8, .int .i64 (lentC l x false))]) (by kernel_rfl) (by repeat (first | exact True.intro | refine And.intro rfl ?_)) ⟨z0, _, rfl, hA.chg (Chg.trans (Ext.chg (Ext.refl _) _) oe.chg) (by have := Ext.size_le es; have := Ext.size_le k3; have := Ext.size_le k9; intro b hbb; rw [List.mem_singleton] at hbb; subst hbb; omega) (by have := Ext.size_le es; have := Ext.size_le k3; have := Ext.size_le k9; have := hA.2.size_le; omega) (es.trans eE), hbe, by have := Ext.size_le es; omega⟩
      · refine WO_alloc fun wb hb2 eb2 zb2 => Z31 (at_held ((k1.trans eb2).chg []) ?_)
        have k9 := Ext.trans k1 eb2
        have hSk9 := Ext.chg k9 []
        have sb := Ext.size_le k1
        replace hcr := hcr.ext eb2
        have hlt := hb2.lt
        refine WH_one 3 rfl (by kernel_rfl) ?_
        refine WO_call rfl (toPointer_ret x _) fun _ wp hpp => Z31 (at_held ((k9.trans hpp.2).chg []) ?_)
        obtain ⟨rfl, ep⟩ := hpp
        have k3 := Ext.trans k9 ep
        have hSk3 := Ext.chg k3 []
        replace hcr := hcr.ext ep
        refine WH_one 4 rfl (by kernel_rfl) ?_
        refine WO_call rfl (sShareCell_ret xr l Fr x _ hcr hn) fun _ wc hAA => Z31 (at_held (by obtain ⟨z0, _, hA⟩ := hAA; exact (k3.trans hA.2).chg []) ?_)
        obtain ⟨z0, rfl, hA⟩ := hAA
        have k4 := Ext.trans k3 hA.2
        have hSk4 := Ext.chg k4 []
        replace hb2 := (hb2.ext ep).ext hA.2
        have hlt2 := Ext.size_le ep
        refine Z82 5 rfl (by kernel_rfl) (by kernel_rfl) (by kernel_rfl) (by assumption) (fun w' hw' => Z56 rfl) ?_
        refine Z82 6 rfl (by kernel_rfl) (by kernel_rfl) (by kernel_rfl) (by assumption) (fun w' hw' => Z56 rfl) ?_
        refine Z82 7 rfl (by kernel_rfl) (by kernel_rfl) (by kernel_rfl) (by assumption) (fun w' hw' => Z56 rfl) ?_
        refine Z82 8 rfl (by kernel_rfl) (by kernel_rfl) (by kernel_rfl) (by assumption) (fun w' hw' => Z56 rfl) ?_
        refine Z82 10 rfl (by kernel_rfl) (by kernel_rfl) (by kernel_rfl) (by assumption) (fun w' hw' => Z56 rfl) ?_
        refine WH_one 11 rfl (by kernel_rfl) (WO_storeS (k := 2) (vs := [.int .i64 (lentP l x false).cell, .int .i64 (lentP l x false).tag]) rfl rfl rfl (by intro v hv; simp at hv; rcases hv with rfl | rfl <;> rfl) hb2 (by decide) fun we hbe oe => Z31 (at_held ((k4.only oe sb).chg []) ?_))
        have eE := Ext.only k4 oe sb
        have hSE := Ext.chg eE []
        refine Z82 12 rfl (by kernel_rfl) (by kernel_rfl) (by kernel_rfl) (by assumption) (fun w' hw' => Z56 rfl) ?_
        exact WH_doneE (τ := [(0, v), (3, .pointer (some ⟨w.heap.size, 0, none⟩)), (6, z0), (7, _), (8, .int .i64 (lentC l x false))]) (by kernel_rfl) (by repeat (first | exact True.intro | refine And.intro rfl ?_)) ⟨z0, _, rfl, hA.chg (Chg.trans (Ext.chg (Ext.refl _) _) oe.chg) (by have := Ext.size_le es; have := Ext.size_le k3; have := Ext.size_le k9; intro b hbb; rw [List.mem_singleton] at hbb; subst hbb; omega) (by have := Ext.size_le es; have := Ext.size_le k3; have := Ext.size_le k9; have := hA.2.size_le; omega) (es.trans eE), hbe, by have := Ext.size_le es; omega⟩
    · refine WO_alloc fun wb hb2 eb2 zb2 => Z31 (at_held (((Ext.refl ws).trans eb2).chg []) ?_)
      have k9 := Ext.trans (Ext.refl ws) eb2
      have hSk9 := Ext.chg k9 []
      have sb := Ext.size_le (Ext.refl ws)
      have hlt := hb2.lt
      refine WH_one 1 rfl (by kernel_rfl) ?_
      refine WO_call rfl (toCellS_ret v l F _ (h.ext (e0.trans (es.trans k9))) hn) fun xr wr hxr => Z31 (at_held ((k9.trans hxr.2).chg []) ?_)
      have k1 := Ext.trans k9 hxr.2
      have hSk1 := Ext.chg k1 []
      obtain ⟨Fr, hcr, _⟩ := hxr.ces
      refine WH_one 3 rfl (by kernel_rfl) ?_
      refine WO_call rfl (toPointer_ret x _) fun _ wp hpp => Z31 (at_held ((k1.trans hpp.2).chg []) ?_)
      obtain ⟨rfl, ep⟩ := hpp
      have k3 := Ext.trans k1 ep
      have hSk3 := Ext.chg k3 []
      replace hcr := hcr.ext ep
      refine WH_one 4 rfl (by kernel_rfl) ?_
      refine WO_call rfl (sShareCell_ret xr l Fr x _ hcr hn) fun _ wc hAA => Z31 (at_held (by obtain ⟨z0, _, hA⟩ := hAA; exact (k3.trans hA.2).chg []) ?_)
      obtain ⟨z0, rfl, hA⟩ := hAA
      have k4 := Ext.trans k3 hA.2
      have hSk4 := Ext.chg k4 []
      replace hb2 := ((hb2.ext hxr.2).ext ep).ext hA.2
      have hlt2 := Nat.le_trans (Ext.size_le hxr.2) (Ext.size_le ep)
      refine Z82 5 rfl (by kernel_rfl) (by kernel_rfl) (by kernel_rfl) (by assumption) (fun w' hw' => Z56 rfl) ?_
      refine Z82 6 rfl (by kernel_rfl) (by kernel_rfl) (by kernel_rfl) (by assumption) (fun w' hw' => Z56 rfl) ?_
      refine Z82 7 rfl (by kernel_rfl) (by kernel_rfl) (by kernel_rfl) (by assumption) (fun w' hw' => Z56 rfl) ?_
      refine Z82 8 rfl (by kernel_rfl) (by kernel_rfl) (by kernel_rfl) (by assumption) (fun w' hw' => Z56 rfl) ?_
      refine Z82 10 rfl (by kernel_rfl) (by kernel_rfl) (by kernel_rfl) (by assumption) (fun w' hw' => Z56 rfl) ?_
      refine WH_one 11 rfl (by kernel_rfl) (WO_storeS (k := 2) (vs := [.int .i64 (lentP l x false).cell, .int .i64 (lentP l x false).tag]) rfl rfl rfl (by intro v hv; simp at hv; rcases hv with rfl | rfl <;> rfl) hb2 (by decide) fun we hbe oe => Z31 (at_held ((k4.only oe sb).chg []) ?_))
      have eE := Ext.only k4 oe sb
      have hSE := Ext.chg eE []
      refine Z82 12 rfl (by kernel_rfl) (by kernel_rfl) (by kernel_rfl) (by assumption) (fun w' hw' => Z56 rfl) ?_
      exact WH_doneE (τ := [(0, v), (3, .pointer (some ⟨w.heap.size, 0, none⟩)), (6, z0), (7, _), (8, .int .i64 (lentC l x false))]) (by kernel_rfl) (by repeat (first | exact True.intro | refine And.intro rfl ?_)) ⟨z0, _, rfl, hA.chg (Chg.trans (Ext.chg (Ext.refl _) _) oe.chg) (by have := Ext.size_le es; have := Ext.size_le k3; have := Ext.size_le k9; intro b hbb; rw [List.mem_singleton] at hbb; subst hbb; omega) (by have := Ext.size_le es; have := Ext.size_le k3; have := Ext.size_le k9; have := hA.2.size_le; omega) (es.trans eE), hbe, by have := Ext.size_le es; omega⟩
  obtain ⟨a0, bp, rfl, hA, hp, hpB⟩ := hT
  have ea := hA.2
  have hplt := hp.lt
  replace e0 := e0.trans ea
  replace hb := hb.ext ea
  have := Ext.size_le ea
  have ha := hA.own
  repeat (first | (refine Z0 ?_; first | refine Z1 rfl ?_ | (refine Z2 ?_; first | refine Z3 rfl rfl (by decide) ?_ | refine Z4 rfl rfl (by decide) ?_ | refine Z5 rfl rfl ?_) | (refine Z6 ?_; first | refine Z7 rfl rfl ?_ | refine Z8 rfl rfl ?_) | (refine Z9 ?_; first | refine Z10 rfl (by assumption) (by rfl) ?_ | refine Z11 rfl (by assumption) ?_) | (refine Z12 ?_; first | refine Z13 (Z14 rfl (by decide) rfl) ?_ | refine Z13 (Z15 rfl (by decide) rfl) ?_) | (refine Z16 ?_; first | refine Z17 rfl ?_ | refine Z18 rfl ?_) | (refine Z19 ?_; first | refine Z20 rfl rfl (by omega) ?_ | refine Z21 rfl rfl (by omega) ?_ | refine Z22 rfl rfl (by omega) ?_ | refine Z23 rfl rfl (by omega) (by omega) ?_ | refine Z24 rfl rfl (by omega) (by omega) (by omega) ?_ | refine Z13 (Z25 rfl rfl) ?_ | refine Z13 (Z26 rfl rfl) ?_) | (refine Z27 ?_; refine Z13 (Z28 rfl (Z53 ⟨by omega, by omega⟩)) ?_) | (refine Z29 ?_; refine Z13 (Z30 rfl (by rfl) (by simp only [Z84, List.set_cons_zero, List.set_cons_succ]; rfl)) ?_) | refine Z31 ?_) | (refine Z32 ?_; first | refine Z33 ?_ | refine Z34 ?_ | refine Z35 ?_ | refine Z36 ?_ | refine Z37 ?_ | refine Z38 rfl ?_ | refine Z39 ?_ | refine Z40 ?_ | refine Z41 ?_) | (refine Z42 ?_; first | refine Z43 ?_ | refine Z44 ?_ | refine Z45 ?_ | refine Z46 ?_ | refine Z47 ?_ | refine Z48 ?_ | refine Z49 rfl (by decide) ?_ | refine Z50 rfl (by decide) ?_))
  refine WO_call rfl (toCellS_ret v l F _ (h.ext e0) hn) ?_
  rintro xr wr hxr
  have er := hxr.2
  replace e0 := e0.trans er
  try replace ha := Own.ext ha er
  try replace hx := Own.ext hx er
  try replace hg := Own.ext hg er
  try replace hp := Blk.ext hp er
  try replace hq := Blk.ext hq er
  try replace hb := Blk.ext hb er
  have := Ext.size_le er
  have hx := hxr.own
  obtain ⟨Fr, hcr, _⟩ := hxr.ces
  repeat (first | (refine Z0 ?_; first | refine Z1 rfl ?_ | (refine Z2 ?_; first | refine Z3 rfl rfl (by decide) ?_ | refine Z4 rfl rfl (by decide) ?_ | refine Z5 rfl rfl ?_) | (refine Z6 ?_; first | refine Z7 rfl rfl ?_ | refine Z8 rfl rfl ?_) | (refine Z9 ?_; first | refine Z10 rfl (by assumption) (by rfl) ?_ | refine Z11 rfl (by assumption) ?_) | (refine Z12 ?_; first | refine Z13 (Z14 rfl (by decide) rfl) ?_ | refine Z13 (Z15 rfl (by decide) rfl) ?_) | (refine Z16 ?_; first | refine Z17 rfl ?_ | refine Z18 rfl ?_) | (refine Z19 ?_; first | refine Z20 rfl rfl (by omega) ?_ | refine Z21 rfl rfl (by omega) ?_ | refine Z22 rfl rfl (by omega) ?_ | refine Z23 rfl rfl (by omega) (by omega) ?_ | refine Z24 rfl rfl (by omega) (by omega) (by omega) ?_ | refine Z13 (Z25 rfl rfl) ?_ | refine Z13 (Z26 rfl rfl) ?_) | (refine Z27 ?_; refine Z13 (Z28 rfl (Z53 ⟨by omega, by omega⟩)) ?_) | (refine Z29 ?_; refine Z13 (Z30 rfl (by rfl) (by simp only [Z84, List.set_cons_zero, List.set_cons_succ]; rfl)) ?_) | refine Z31 ?_) | (refine Z32 ?_; first | refine Z33 ?_ | refine Z34 ?_ | refine Z35 ?_ | refine Z36 ?_ | refine Z37 ?_ | refine Z38 rfl ?_ | refine Z39 ?_ | refine Z40 ?_ | refine Z41 ?_) | (refine Z42 ?_; first | refine Z43 ?_ | refine Z44 ?_ | refine Z45 ?_ | refine Z46 ?_ | refine Z47 ?_ | refine Z48 ?_ | refine Z49 rfl (by decide) ?_ | refine Z50 rfl (by decide) ?_))
  refine WO_loadSB rfl hb rfl ?_
  refine WO_call rfl (toPointer_ret x _) ?_
  rintro _ wp ⟨rfl, ep⟩
  replace e0 := e0.trans ep
  try replace ha := Own.ext ha ep
  try replace hx := Own.ext hx ep
  try replace hg := Own.ext hg ep
  try replace hp := Blk.ext hp ep
  try replace hq := Blk.ext hq ep
  try replace hb := Blk.ext hb ep
  have := Ext.size_le ep
  repeat (first | (refine Z0 ?_; first | refine Z1 rfl ?_ | (refine Z2 ?_; first | refine Z3 rfl rfl (by decide) ?_ | refine Z4 rfl rfl (by decide) ?_ | refine Z5 rfl rfl ?_) | (refine Z6 ?_; first | refine Z7 rfl rfl ?_ | refine Z8 rfl rfl ?_) | (refine Z9 ?_; first | refine Z10 rfl (by assumption) (by rfl) ?_ | refine Z11 rfl (by assumption) ?_) | (refine Z12 ?_; first | refine Z13 (Z14 rfl (by decide) rfl) ?_ | refine Z13 (Z15 rfl (by decide) rfl) ?_) | (refine Z16 ?_; first | refine Z17 rfl ?_ | refine Z18 rfl ?_) | (refine Z19 ?_; first | refine Z20 rfl rfl (by omega) ?_ | refine Z21 rfl rfl (by omega) ?_ | refine Z22 rfl rfl (by omega) ?_ | refine Z23 rfl rfl (by omega) (by omega) ?_ | refine Z24 rfl rfl (by omega) (by omega) (by omega) ?_ | refine Z13 (Z25 rfl rfl) ?_ | refine Z13 (Z26 rfl rfl) ?_) | (refine Z27 ?_; refine Z13 (Z28 rfl (Z53 ⟨by omega, by omega⟩)) ?_) | (refine Z29 ?_; refine Z13 (Z30 rfl (by rfl) (by simp only [Z84, List.set_cons_zero, List.set_cons_succ]; rfl)) ?_) | refine Z31 ?_) | (refine Z32 ?_; first | refine Z33 ?_ | refine Z34 ?_ | refine Z35 ?_ | refine Z36 ?_ | refine Z37 ?_ | refine Z38 rfl ?_ | refine Z39 ?_ | refine Z40 ?_ | refine Z41 ?_) | (refine Z42 ?_; first | refine Z43 ?_ | refine Z44 ?_ | refine Z45 ?_ | refine Z46 ?_ | refine Z47 ?_ | refine Z48 ?_ | refine Z49 rfl (by decide) ?_ | refine Z50 rfl (by decide) ?_))
  refine WO_call rfl (ShareCell_ret xr l Fr x wp (hcr.ext ep) hn) ?_
  rintro _ wd ⟨g0, rfl, hG⟩
  have ed := hG.2
  replace e0 := e0.trans ed
  try replace ha := Own.ext ha ed
  try replace hx := Own.ext hx ed
  try replace hg := Own.ext hg ed
  try replace hp := Blk.ext hp ed
  try replace hq := Blk.ext hq ed
  try replace hb := Blk.ext hb ed
  have := Ext.size_le ed
  have hg := hG.own
  repeat (first | (refine Z0 ?_; first | refine Z1 rfl ?_ | (refine Z2 ?_; first | refine Z3 rfl rfl (by decide) ?_ | refine Z4 rfl rfl (by decide) ?_ | refine Z5 rfl rfl ?_) | (refine Z6 ?_; first | refine Z7 rfl rfl ?_ | refine Z8 rfl rfl ?_) | (refine Z9 ?_; first | refine Z10 rfl (by assumption) (by rfl) ?_ | refine Z11 rfl (by assumption) ?_) | (refine Z12 ?_; first | refine Z13 (Z14 rfl (by decide) rfl) ?_ | refine Z13 (Z15 rfl (by decide) rfl) ?_) | (refine Z16 ?_; first | refine Z17 rfl ?_ | refine Z18 rfl ?_) | (refine Z19 ?_; first | refine Z20 rfl rfl (by omega) ?_ | refine Z21 rfl rfl (by omega) ?_ | refine Z22 rfl rfl (by omega) ?_ | refine Z23 rfl rfl (by omega) (by omega) ?_ | refine Z24 rfl rfl (by omega) (by omega) (by omega) ?_ | refine Z13 (Z25 rfl rfl) ?_ | refine Z13 (Z26 rfl rfl) ?_) | (refine Z27 ?_; refine Z13 (Z28 rfl (Z53 ⟨by omega, by omega⟩)) ?_) | (refine Z29 ?_; refine Z13 (Z30 rfl (by rfl) (by simp only [Z84, List.set_cons_zero, List.set_cons_succ]; rfl)) ?_) | refine Z31 ?_) | (refine Z32 ?_; first | refine Z33 ?_ | refine Z34 ?_ | refine Z35 ?_ | refine Z36 ?_ | refine Z37 ?_ | refine Z38 rfl ?_ | refine Z39 ?_ | refine Z40 ?_ | refine Z41 ?_) | (refine Z42 ?_; first | refine Z43 ?_ | refine Z44 ?_ | refine Z45 ?_ | refine Z46 ?_ | refine Z47 ?_ | refine Z48 ?_ | refine Z49 rfl (by decide) ?_ | refine Z50 rfl (by decide) ?_))
  refine WO_alloc fun we hq ee ze => ?_
  repeat (first | (refine Z0 ?_; first | refine Z1 rfl ?_ | (refine Z2 ?_; first | refine Z3 rfl rfl (by decide) ?_ | refine Z4 rfl rfl (by decide) ?_ | refine Z5 rfl rfl ?_) | (refine Z6 ?_; first | refine Z7 rfl rfl ?_ | refine Z8 rfl rfl ?_) | (refine Z9 ?_; first | refine Z10 rfl (by assumption) (by rfl) ?_ | refine Z11 rfl (by assumption) ?_) | (refine Z12 ?_; first | refine Z13 (Z14 rfl (by decide) rfl) ?_ | refine Z13 (Z15 rfl (by decide) rfl) ?_) | (refine Z16 ?_; first | refine Z17 rfl ?_ | refine Z18 rfl ?_) | (refine Z19 ?_; first | refine Z20 rfl rfl (by omega) ?_ | refine Z21 rfl rfl (by omega) ?_ | refine Z22 rfl rfl (by omega) ?_ | refine Z23 rfl rfl (by omega) (by omega) ?_ | refine Z24 rfl rfl (by omega) (by omega) (by omega) ?_ | refine Z13 (Z25 rfl rfl) ?_ | refine Z13 (Z26 rfl rfl) ?_) | (refine Z27 ?_; refine Z13 (Z28 rfl (Z53 ⟨by omega, by omega⟩)) ?_) | (refine Z29 ?_; refine Z13 (Z30 rfl (by rfl) (by simp only [Z84, List.set_cons_zero, List.set_cons_succ]; rfl)) ?_) | refine Z31 ?_) | (refine Z32 ?_; first | refine Z33 ?_ | refine Z34 ?_ | refine Z35 ?_ | refine Z36 ?_ | refine Z37 ?_ | refine Z38 rfl ?_ | refine Z39 ?_ | refine Z40 ?_ | refine Z41 ?_) | (refine Z42 ?_; first | refine Z43 ?_ | refine Z44 ?_ | refine Z45 ?_ | refine Z46 ?_ | refine Z47 ?_ | refine Z48 ?_ | refine Z49 rfl (by decide) ?_ | refine Z50 rfl (by decide) ?_))
  refine WO_storeS (k := 2) (vs := [.int .i64 (lentP l x false).cell, .int .i64 (lentP l x false).tag]) rfl rfl rfl (by intro v hv; simp at hv; rcases hv with rfl | rfl <;> rfl) hq (by decide) fun wf hqf of' => ?_
  clear hq
  have ef := ee.only of' (Nat.le_refl _)
  replace e0 := e0.trans ef
  try replace ha := Own.ext ha ef
  try replace hx := Own.ext hx ef
  try replace hg := Own.ext hg ef
  try replace hp := Blk.ext hp ef
  try replace hq := Blk.ext hq ef
  try replace hb := Blk.ext hb ef
  have := Ext.size_le ef
  have hq : Blk wf wd.heap.size [.int .i64 (lentP l x false).cell, .int .i64 (lentP l x false).tag] _ := hqf
  repeat (first | (refine Z0 ?_; first | refine Z1 rfl ?_ | (refine Z2 ?_; first | refine Z3 rfl rfl (by decide) ?_ | refine Z4 rfl rfl (by decide) ?_ | refine Z5 rfl rfl ?_) | (refine Z6 ?_; first | refine Z7 rfl rfl ?_ | refine Z8 rfl rfl ?_) | (refine Z9 ?_; first | refine Z10 rfl (by assumption) (by rfl) ?_ | refine Z11 rfl (by assumption) ?_) | (refine Z12 ?_; first | refine Z13 (Z14 rfl (by decide) rfl) ?_ | refine Z13 (Z15 rfl (by decide) rfl) ?_) | (refine Z16 ?_; first | refine Z17 rfl ?_ | refine Z18 rfl ?_) | (refine Z19 ?_; first | refine Z20 rfl rfl (by omega) ?_ | refine Z21 rfl rfl (by omega) ?_ | refine Z22 rfl rfl (by omega) ?_ | refine Z23 rfl rfl (by omega) (by omega) ?_ | refine Z24 rfl rfl (by omega) (by omega) (by omega) ?_ | refine Z13 (Z25 rfl rfl) ?_ | refine Z13 (Z26 rfl rfl) ?_) | (refine Z27 ?_; refine Z13 (Z28 rfl (Z53 ⟨by omega, by omega⟩)) ?_) | (refine Z29 ?_; refine Z13 (Z30 rfl (by rfl) (by simp only [Z84, List.set_cons_zero, List.set_cons_succ]; rfl)) ?_) | refine Z31 ?_) | (refine Z32 ?_; first | refine Z33 ?_ | refine Z34 ?_ | refine Z35 ?_ | refine Z36 ?_ | refine Z37 ?_ | refine Z38 rfl ?_ | refine Z39 ?_ | refine Z40 ?_ | refine Z41 ?_) | (refine Z42 ?_; first | refine Z43 ?_ | refine Z44 ?_ | refine Z45 ?_ | refine Z46 ?_ | refine Z47 ?_ | refine Z48 ?_ | refine Z49 rfl (by decide) ?_ | refine Z50 rfl (by decide) ?_))
  obtain ⟨F1, h1⟩ := hg.ces
  obtain ⟨F2, h2⟩ := ha.ces
  refine WO_call rfl (eqCellS_ret _ _ _ _ F1 F2 _ h1 h2) ?_
  rintro _ wq ⟨rfl, eq⟩
  rw [decide_eq_true rfl]
  clear h1 h2
  replace e0 := e0.trans eq
  try replace ha := Own.ext ha eq
  try replace hx := Own.ext hx eq
  try replace hg := Own.ext hg eq
  try replace hp := Blk.ext hp eq
  try replace hq := Blk.ext hq eq
  try replace hb := Blk.ext hb eq
  have := Ext.size_le eq
  repeat (first | (refine Z0 ?_; first | refine Z1 rfl ?_ | (refine Z2 ?_; first | refine Z3 rfl rfl (by decide) ?_ | refine Z4 rfl rfl (by decide) ?_ | refine Z5 rfl rfl ?_) | (refine Z6 ?_; first | refine Z7 rfl rfl ?_ | refine Z8 rfl rfl ?_) | (refine Z9 ?_; first | refine Z10 rfl (by assumption) (by rfl) ?_ | refine Z11 rfl (by assumption) ?_) | (refine Z12 ?_; first | refine Z13 (Z14 rfl (by decide) rfl) ?_ | refine Z13 (Z15 rfl (by decide) rfl) ?_) | (refine Z16 ?_; first | refine Z17 rfl ?_ | refine Z18 rfl ?_) | (refine Z19 ?_; first | refine Z20 rfl rfl (by omega) ?_ | refine Z21 rfl rfl (by omega) ?_ | refine Z22 rfl rfl (by omega) ?_ | refine Z23 rfl rfl (by omega) (by omega) ?_ | refine Z24 rfl rfl (by omega) (by omega) (by omega) ?_ | refine Z13 (Z25 rfl rfl) ?_ | refine Z13 (Z26 rfl rfl) ?_) | (refine Z27 ?_; refine Z13 (Z28 rfl (Z53 ⟨by omega, by omega⟩)) ?_) | (refine Z29 ?_; refine Z13 (Z30 rfl (by rfl) (by simp only [Z84, List.set_cons_zero, List.set_cons_succ]; rfl)) ?_) | refine Z31 ?_) | (refine Z32 ?_; first | refine Z33 ?_ | refine Z34 ?_ | refine Z35 ?_ | refine Z36 ?_ | refine Z37 ?_ | refine Z38 rfl ?_ | refine Z39 ?_ | refine Z40 ?_ | refine Z41 ?_) | (refine Z42 ?_; first | refine Z43 ?_ | refine Z44 ?_ | refine Z45 ?_ | refine Z46 ?_ | refine Z47 ?_ | refine Z48 ?_ | refine Z49 rfl (by decide) ?_ | refine Z50 rfl (by decide) ?_))
  refine WO_loadSB rfl hq rfl ?_
  repeat (first | (refine Z0 ?_; first | refine Z1 rfl ?_ | (refine Z2 ?_; first | refine Z3 rfl rfl (by decide) ?_ | refine Z4 rfl rfl (by decide) ?_ | refine Z5 rfl rfl ?_) | (refine Z6 ?_; first | refine Z7 rfl rfl ?_ | refine Z8 rfl rfl ?_) | (refine Z9 ?_; first | refine Z10 rfl (by assumption) (by rfl) ?_ | refine Z11 rfl (by assumption) ?_) | (refine Z12 ?_; first | refine Z13 (Z14 rfl (by decide) rfl) ?_ | refine Z13 (Z15 rfl (by decide) rfl) ?_) | (refine Z16 ?_; first | refine Z17 rfl ?_ | refine Z18 rfl ?_) | (refine Z19 ?_; first | refine Z20 rfl rfl (by omega) ?_ | refine Z21 rfl rfl (by omega) ?_ | refine Z22 rfl rfl (by omega) ?_ | refine Z23 rfl rfl (by omega) (by omega) ?_ | refine Z24 rfl rfl (by omega) (by omega) (by omega) ?_ | refine Z13 (Z25 rfl rfl) ?_ | refine Z13 (Z26 rfl rfl) ?_) | (refine Z27 ?_; refine Z13 (Z28 rfl (Z53 ⟨by omega, by omega⟩)) ?_) | (refine Z29 ?_; refine Z13 (Z30 rfl (by rfl) (by simp only [Z84, List.set_cons_zero, List.set_cons_succ]; rfl)) ?_) | refine Z31 ?_) | (refine Z32 ?_; first | refine Z33 ?_ | refine Z34 ?_ | refine Z35 ?_ | refine Z36 ?_ | refine Z37 ?_ | refine Z38 rfl ?_ | refine Z39 ?_ | refine Z40 ?_ | refine Z41 ?_) | (refine Z42 ?_; first | refine Z43 ?_ | refine Z44 ?_ | refine Z45 ?_ | refine Z46 ?_ | refine Z47 ?_ | refine Z48 ?_ | refine Z49 rfl (by decide) ?_ | refine Z50 rfl (by decide) ?_))
  refine WO_loadSB rfl hp rfl ?_
  repeat (first | (refine Z0 ?_; first | refine Z1 rfl ?_ | (refine Z2 ?_; first | refine Z3 rfl rfl (by decide) ?_ | refine Z4 rfl rfl (by decide) ?_ | refine Z5 rfl rfl ?_) | (refine Z6 ?_; first | refine Z7 rfl rfl ?_ | refine Z8 rfl rfl ?_) | (refine Z9 ?_; first | refine Z10 rfl (by assumption) (by rfl) ?_ | refine Z11 rfl (by assumption) ?_) | (refine Z12 ?_; first | refine Z13 (Z14 rfl (by decide) rfl) ?_ | refine Z13 (Z15 rfl (by decide) rfl) ?_) | (refine Z16 ?_; first | refine Z17 rfl ?_ | refine Z18 rfl ?_) | (refine Z19 ?_; first | refine Z20 rfl rfl (by omega) ?_ | refine Z21 rfl rfl (by omega) ?_ | refine Z22 rfl rfl (by omega) ?_ | refine Z23 rfl rfl (by omega) (by omega) ?_ | refine Z24 rfl rfl (by omega) (by omega) (by omega) ?_ | refine Z13 (Z25 rfl rfl) ?_ | refine Z13 (Z26 rfl rfl) ?_) | (refine Z27 ?_; refine Z13 (Z28 rfl (Z53 ⟨by omega, by omega⟩)) ?_) | (refine Z29 ?_; refine Z13 (Z30 rfl (by rfl) (by simp only [Z84, List.set_cons_zero, List.set_cons_succ]; rfl)) ?_) | refine Z31 ?_) | (refine Z32 ?_; first | refine Z33 ?_ | refine Z34 ?_ | refine Z35 ?_ | refine Z36 ?_ | refine Z37 ?_ | refine Z38 rfl ?_ | refine Z39 ?_ | refine Z40 ?_ | refine Z41 ?_) | (refine Z42 ?_; first | refine Z43 ?_ | refine Z44 ?_ | refine Z45 ?_ | refine Z46 ?_ | refine Z47 ?_ | refine Z48 ?_ | refine Z49 rfl (by decide) ?_ | refine Z50 rfl (by decide) ?_))
  refine WO_call rfl (eqPointer_ret _ _ _) ?_
  rintro _ wq ⟨rfl, eq⟩
  rw [decide_eq_true rfl]
  replace e0 := e0.trans eq
  try replace ha := Own.ext ha eq
  try replace hx := Own.ext hx eq
  try replace hg := Own.ext hg eq
  try replace hp := Blk.ext hp eq
  try replace hq := Blk.ext hq eq
  try replace hb := Blk.ext hb eq
  have := Ext.size_le eq
  repeat' (first | (refine Z0 ?_; first | refine Z1 rfl ?_ | (refine Z2 ?_; first | refine Z3 rfl rfl (by decide) ?_ | refine Z4 rfl rfl (by decide) ?_ | refine Z5 rfl rfl ?_ | ((refine Z51 rfl rfl (fun c' hc' => ?_)); cases c' <;> (try simp only [decide_eq_true_eq, decide_eq_false_iff_not, beq_iff_eq, beq_eq_false_iff_ne, bne_iff_ne, bne_eq_false_iff_eq, ne_eq, gt_iff_lt, ge_iff_le, Int.not_lt, Int.not_le, Bool.not_eq_true', Bool.not_eq_false', Bool.not_true, Bool.not_false, reduceCtorEq, Decidable.not_not, not_true_eq_false, Bool.true_eq_false, Bool.false_eq_true] at hc') <;> (try (exfalso; omega)))) | (refine Z6 ?_; first | refine Z7 rfl rfl ?_ | refine Z8 rfl rfl ?_) | (refine Z9 ?_; first | refine Z10 rfl (by assumption) (by rfl) ?_ | refine Z11 rfl (by assumption) ?_) | (refine Z12 ?_; first | refine Z13 (Z14 rfl (by decide) rfl) ?_ | refine Z13 (Z15 rfl (by decide) rfl) ?_) | (refine Z16 ?_; first | refine Z17 rfl ?_ | refine Z18 rfl ?_) | (refine Z19 ?_; first | refine Z20 rfl rfl (by omega) ?_ | refine Z21 rfl rfl (by omega) ?_ | refine Z22 rfl rfl (by omega) ?_ | refine Z23 rfl rfl (by omega) (by omega) ?_ | refine Z24 rfl rfl (by omega) (by omega) (by omega) ?_ | refine Z13 (Z25 rfl rfl) ?_ | refine Z13 (Z26 rfl rfl) ?_) | (refine Z27 ?_; refine Z13 (Z28 rfl (Z53 ⟨by omega, by omega⟩)) ?_) | (refine Z29 ?_; refine Z13 (Z30 rfl (by rfl) (by simp only [Z84, List.set_cons_zero, List.set_cons_succ]; rfl)) ?_) | refine Z31 ?_) | (refine Z32 ?_; first | refine Z33 ?_ | refine Z34 ?_ | refine Z35 ?_ | refine Z36 ?_ | refine Z37 ?_ | refine Z38 rfl ?_ | refine Z39 ?_ | refine Z40 ?_ | refine Z41 ?_) | (refine Z42 ?_; first | refine Z43 ?_ | refine Z44 ?_ | refine Z45 ?_ | refine Z46 ?_ | refine Z47 ?_ | refine Z48 ?_ | refine Z49 rfl (by decide) ?_ | refine Z50 rfl (by decide) ?_ | ((refine Z52 rfl (fun hc' => ?_) (fun hc' => ?_)) <;> (try simp only [decide_eq_true_eq, decide_eq_false_iff_not, beq_iff_eq, beq_eq_false_iff_ne, bne_iff_ne, bne_eq_false_iff_eq, ne_eq, gt_iff_lt, ge_iff_le, Int.not_lt, Int.not_le, Bool.not_eq_true', Bool.not_eq_false', Bool.not_true, Bool.not_false, reduceCtorEq, Decidable.not_not, not_true_eq_false, Bool.true_eq_false, Bool.false_eq_true] at hc') <;> (try (exfalso; omega)))))
  refine WO_call rfl (toCellS_ret v l F _ (h.ext e0) hn) ?_
  rintro xr wr hxr
  have er := hxr.2
  replace e0 := e0.trans er
  try replace ha := Own.ext ha er
  try replace hx := Own.ext hx er
  try replace hg := Own.ext hg er
  try replace hp := Blk.ext hp er
  try replace hq := Blk.ext hq er
  try replace hb := Blk.ext hb er
  have := Ext.size_le er
  repeat (first | (refine Z0 ?_; first | refine Z1 rfl ?_ | (refine Z2 ?_; first | refine Z3 rfl rfl (by decide) ?_ | refine Z4 rfl rfl (by decide) ?_ | refine Z5 rfl rfl ?_) | (refine Z6 ?_; first | refine Z7 rfl rfl ?_ | refine Z8 rfl rfl ?_) | (refine Z9 ?_; first | refine Z10 rfl (by assumption) (by rfl) ?_ | refine Z11 rfl (by assumption) ?_) | (refine Z12 ?_; first | refine Z13 (Z14 rfl (by decide) rfl) ?_ | refine Z13 (Z15 rfl (by decide) rfl) ?_) | (refine Z16 ?_; first | refine Z17 rfl ?_ | refine Z18 rfl ?_) | (refine Z19 ?_; first | refine Z20 rfl rfl (by omega) ?_ | refine Z21 rfl rfl (by omega) ?_ | refine Z22 rfl rfl (by omega) ?_ | refine Z23 rfl rfl (by omega) (by omega) ?_ | refine Z24 rfl rfl (by omega) (by omega) (by omega) ?_ | refine Z13 (Z25 rfl rfl) ?_ | refine Z13 (Z26 rfl rfl) ?_) | (refine Z27 ?_; refine Z13 (Z28 rfl (Z53 ⟨by omega, by omega⟩)) ?_) | (refine Z29 ?_; refine Z13 (Z30 rfl (by rfl) (by simp only [Z84, List.set_cons_zero, List.set_cons_succ]; rfl)) ?_) | refine Z31 ?_) | (refine Z32 ?_; first | refine Z33 ?_ | refine Z34 ?_ | refine Z35 ?_ | refine Z36 ?_ | refine Z37 ?_ | refine Z38 rfl ?_ | refine Z39 ?_ | refine Z40 ?_ | refine Z41 ?_) | (refine Z42 ?_; first | refine Z43 ?_ | refine Z44 ?_ | refine Z45 ?_ | refine Z46 ?_ | refine Z47 ?_ | refine Z48 ?_ | refine Z49 rfl (by decide) ?_ | refine Z50 rfl (by decide) ?_))
  obtain ⟨Fr, hcr, _⟩ := hxr.ces
  obtain ⟨F1, h1⟩ := hx.ces
  obtain ⟨F2, h2⟩ := (⟨Fr, hcr⟩ : ∃ F, CeS _ _ _ F)
  refine WO_call rfl (eqCellS_ret _ _ _ _ F1 F2 _ h1 h2) ?_
  rintro _ wq ⟨rfl, eq⟩
  rw [decide_eq_true rfl]
  clear h1 h2
  replace e0 := e0.trans eq
  try replace ha := Own.ext ha eq
  try replace hx := Own.ext hx eq
  try replace hg := Own.ext hg eq
  try replace hp := Blk.ext hp eq
  try replace hq := Blk.ext hq eq
  try replace hb := Blk.ext hb eq
  have := Ext.size_le eq
  repeat (first | (refine Z0 ?_; first | refine Z1 rfl ?_ | (refine Z2 ?_; first | refine Z3 rfl rfl (by decide) ?_ | refine Z4 rfl rfl (by decide) ?_ | refine Z5 rfl rfl ?_) | (refine Z6 ?_; first | refine Z7 rfl rfl ?_ | refine Z8 rfl rfl ?_) | (refine Z9 ?_; first | refine Z10 rfl (by assumption) (by rfl) ?_ | refine Z11 rfl (by assumption) ?_) | (refine Z12 ?_; first | refine Z13 (Z14 rfl (by decide) rfl) ?_ | refine Z13 (Z15 rfl (by decide) rfl) ?_) | (refine Z16 ?_; first | refine Z17 rfl ?_ | refine Z18 rfl ?_) | (refine Z19 ?_; first | refine Z20 rfl rfl (by omega) ?_ | refine Z21 rfl rfl (by omega) ?_ | refine Z22 rfl rfl (by omega) ?_ | refine Z23 rfl rfl (by omega) (by omega) ?_ | refine Z24 rfl rfl (by omega) (by omega) (by omega) ?_ | refine Z13 (Z25 rfl rfl) ?_ | refine Z13 (Z26 rfl rfl) ?_) | (refine Z27 ?_; refine Z13 (Z28 rfl (Z53 ⟨by omega, by omega⟩)) ?_) | (refine Z29 ?_; refine Z13 (Z30 rfl (by rfl) (by simp only [Z84, List.set_cons_zero, List.set_cons_succ]; rfl)) ?_) | refine Z31 ?_) | (refine Z32 ?_; first | refine Z33 ?_ | refine Z34 ?_ | refine Z35 ?_ | refine Z36 ?_ | refine Z37 ?_ | refine Z38 rfl ?_ | refine Z39 ?_ | refine Z40 ?_ | refine Z41 ?_) | (refine Z42 ?_; first | refine Z43 ?_ | refine Z44 ?_ | refine Z45 ?_ | refine Z46 ?_ | refine Z47 ?_ | refine Z48 ?_ | refine Z49 rfl (by decide) ?_ | refine Z50 rfl (by decide) ?_))
  obtain ⟨Fx, hxr, hxn, hxb⟩ := hx
  refine WO_call rfl (markCellS_ret _ _ _ l Fx 1 _ hxr hxn (by decide) (kAt_all l hn).2) ?_
  rintro _ wm ⟨rfl, _, cm⟩
  replace cm := cm.toI hxb
  have hk1 := (kAt_all l hn).1
  replace e0 := e0.chgI cm (by omega)
  try replace ha := Own.chgI ha cm (by omega)
  try replace hx := Own.chgI hx cm (by omega)
  try replace hg := Own.chgI hg cm (by omega)
  try replace hp := Blk.chgI hp cm (by omega)
  try replace hq := Blk.chgI hq cm (by omega)
  try replace hb := Blk.chgI hb cm (by omega)
  have := ChgI.size cm
  repeat' (first | (refine Z0 ?_; first | refine Z1 rfl ?_ | (refine Z2 ?_; first | refine Z3 rfl rfl (by decide) ?_ | refine Z4 rfl rfl (by decide) ?_ | refine Z5 rfl rfl ?_ | ((refine Z51 rfl rfl (fun c' hc' => ?_)); cases c' <;> (try simp only [decide_eq_true_eq, decide_eq_false_iff_not, beq_iff_eq, beq_eq_false_iff_ne, bne_iff_ne, bne_eq_false_iff_eq, ne_eq, gt_iff_lt, ge_iff_le, Int.not_lt, Int.not_le, Bool.not_eq_true', Bool.not_eq_false', Bool.not_true, Bool.not_false, reduceCtorEq, Decidable.not_not, not_true_eq_false, Bool.true_eq_false, Bool.false_eq_true] at hc') <;> (try (exfalso; omega)))) | (refine Z6 ?_; first | refine Z7 rfl rfl ?_ | refine Z8 rfl rfl ?_) | (refine Z9 ?_; first | refine Z10 rfl (by assumption) (by rfl) ?_ | refine Z11 rfl (by assumption) ?_) | (refine Z12 ?_; first | refine Z13 (Z14 rfl (by decide) rfl) ?_ | refine Z13 (Z15 rfl (by decide) rfl) ?_) | (refine Z16 ?_; first | refine Z17 rfl ?_ | refine Z18 rfl ?_) | (refine Z19 ?_; first | refine Z20 rfl rfl (by omega) ?_ | refine Z21 rfl rfl (by omega) ?_ | refine Z22 rfl rfl (by omega) ?_ | refine Z23 rfl rfl (by omega) (by omega) ?_ | refine Z24 rfl rfl (by omega) (by omega) (by omega) ?_ | refine Z13 (Z25 rfl rfl) ?_ | refine Z13 (Z26 rfl rfl) ?_) | (refine Z27 ?_; refine Z13 (Z28 rfl (Z53 ⟨by omega, by omega⟩)) ?_) | (refine Z29 ?_; refine Z13 (Z30 rfl (by rfl) (by simp only [Z84, List.set_cons_zero, List.set_cons_succ]; rfl)) ?_) | refine Z31 ?_) | (refine Z32 ?_; first | refine Z33 ?_ | refine Z34 ?_ | refine Z35 ?_ | refine Z36 ?_ | refine Z37 ?_ | refine Z38 rfl ?_ | refine Z39 ?_ | refine Z40 ?_ | refine Z41 ?_) | (refine Z42 ?_; first | refine Z43 ?_ | refine Z44 ?_ | refine Z45 ?_ | refine Z46 ?_ | refine Z47 ?_ | refine Z48 ?_ | refine Z49 rfl (by decide) ?_ | refine Z50 rfl (by decide) ?_ | ((refine Z52 rfl (fun hc' => ?_) (fun hc' => ?_)) <;> (try simp only [decide_eq_true_eq, decide_eq_false_iff_not, beq_iff_eq, beq_eq_false_iff_ne, bne_iff_ne, bne_eq_false_iff_eq, ne_eq, gt_iff_lt, ge_iff_le, Int.not_lt, Int.not_le, Bool.not_eq_true', Bool.not_eq_false', Bool.not_true, Bool.not_false, reduceCtorEq, Decidable.not_not, not_true_eq_false, Bool.true_eq_false, Bool.false_eq_true] at hc') <;> (try (exfalso; omega)))))
  obtain ⟨F1, h1⟩ := hg.ces
  obtain ⟨F2, h2⟩ := ha.ces
  refine WO_call rfl (eqCellS_ret _ _ _ _ F1 F2 _ h1 h2) ?_
  rintro _ wq ⟨rfl, eq⟩
  rw [decide_eq_true rfl]
  clear h1 h2
  replace e0 := e0.trans eq
  try replace ha := Own.ext ha eq
  try replace hx := Own.ext hx eq
  try replace hg := Own.ext hg eq
  try replace hp := Blk.ext hp eq
  try replace hq := Blk.ext hq eq
  try replace hb := Blk.ext hb eq
  have := Ext.size_le eq
  repeat (first | (refine Z0 ?_; first | refine Z1 rfl ?_ | (refine Z2 ?_; first | refine Z3 rfl rfl (by decide) ?_ | refine Z4 rfl rfl (by decide) ?_ | refine Z5 rfl rfl ?_) | (refine Z6 ?_; first | refine Z7 rfl rfl ?_ | refine Z8 rfl rfl ?_) | (refine Z9 ?_; first | refine Z10 rfl (by assumption) (by rfl) ?_ | refine Z11 rfl (by assumption) ?_) | (refine Z12 ?_; first | refine Z13 (Z14 rfl (by decide) rfl) ?_ | refine Z13 (Z15 rfl (by decide) rfl) ?_) | (refine Z16 ?_; first | refine Z17 rfl ?_ | refine Z18 rfl ?_) | (refine Z19 ?_; first | refine Z20 rfl rfl (by omega) ?_ | refine Z21 rfl rfl (by omega) ?_ | refine Z22 rfl rfl (by omega) ?_ | refine Z23 rfl rfl (by omega) (by omega) ?_ | refine Z24 rfl rfl (by omega) (by omega) (by omega) ?_ | refine Z13 (Z25 rfl rfl) ?_ | refine Z13 (Z26 rfl rfl) ?_) | (refine Z27 ?_; refine Z13 (Z28 rfl (Z53 ⟨by omega, by omega⟩)) ?_) | (refine Z29 ?_; refine Z13 (Z30 rfl (by rfl) (by simp only [Z84, List.set_cons_zero, List.set_cons_succ]; rfl)) ?_) | refine Z31 ?_) | (refine Z32 ?_; first | refine Z33 ?_ | refine Z34 ?_ | refine Z35 ?_ | refine Z36 ?_ | refine Z37 ?_ | refine Z38 rfl ?_ | refine Z39 ?_ | refine Z40 ?_ | refine Z41 ?_) | (refine Z42 ?_; first | refine Z43 ?_ | refine Z44 ?_ | refine Z45 ?_ | refine Z46 ?_ | refine Z47 ?_ | refine Z48 ?_ | refine Z49 rfl (by decide) ?_ | refine Z50 rfl (by decide) ?_))
  refine WO_loadSB rfl hq rfl ?_
  repeat (first | (refine Z0 ?_; first | refine Z1 rfl ?_ | (refine Z2 ?_; first | refine Z3 rfl rfl (by decide) ?_ | refine Z4 rfl rfl (by decide) ?_ | refine Z5 rfl rfl ?_) | (refine Z6 ?_; first | refine Z7 rfl rfl ?_ | refine Z8 rfl rfl ?_) | (refine Z9 ?_; first | refine Z10 rfl (by assumption) (by rfl) ?_ | refine Z11 rfl (by assumption) ?_) | (refine Z12 ?_; first | refine Z13 (Z14 rfl (by decide) rfl) ?_ | refine Z13 (Z15 rfl (by decide) rfl) ?_) | (refine Z16 ?_; first | refine Z17 rfl ?_ | refine Z18 rfl ?_) | (refine Z19 ?_; first | refine Z20 rfl rfl (by omega) ?_ | refine Z21 rfl rfl (by omega) ?_ | refine Z22 rfl rfl (by omega) ?_ | refine Z23 rfl rfl (by omega) (by omega) ?_ | refine Z24 rfl rfl (by omega) (by omega) (by omega) ?_ | refine Z13 (Z25 rfl rfl) ?_ | refine Z13 (Z26 rfl rfl) ?_) | (refine Z27 ?_; refine Z13 (Z28 rfl (Z53 ⟨by omega, by omega⟩)) ?_) | (refine Z29 ?_; refine Z13 (Z30 rfl (by rfl) (by simp only [Z84, List.set_cons_zero, List.set_cons_succ]; rfl)) ?_) | refine Z31 ?_) | (refine Z32 ?_; first | refine Z33 ?_ | refine Z34 ?_ | refine Z35 ?_ | refine Z36 ?_ | refine Z37 ?_ | refine Z38 rfl ?_ | refine Z39 ?_ | refine Z40 ?_ | refine Z41 ?_) | (refine Z42 ?_; first | refine Z43 ?_ | refine Z44 ?_ | refine Z45 ?_ | refine Z46 ?_ | refine Z47 ?_ | refine Z48 ?_ | refine Z49 rfl (by decide) ?_ | refine Z50 rfl (by decide) ?_))
  refine WO_loadSB rfl hp rfl ?_
  repeat (first | (refine Z0 ?_; first | refine Z1 rfl ?_ | (refine Z2 ?_; first | refine Z3 rfl rfl (by decide) ?_ | refine Z4 rfl rfl (by decide) ?_ | refine Z5 rfl rfl ?_) | (refine Z6 ?_; first | refine Z7 rfl rfl ?_ | refine Z8 rfl rfl ?_) | (refine Z9 ?_; first | refine Z10 rfl (by assumption) (by rfl) ?_ | refine Z11 rfl (by assumption) ?_) | (refine Z12 ?_; first | refine Z13 (Z14 rfl (by decide) rfl) ?_ | refine Z13 (Z15 rfl (by decide) rfl) ?_) | (refine Z16 ?_; first | refine Z17 rfl ?_ | refine Z18 rfl ?_) | (refine Z19 ?_; first | refine Z20 rfl rfl (by omega) ?_ | refine Z21 rfl rfl (by omega) ?_ | refine Z22 rfl rfl (by omega) ?_ | refine Z23 rfl rfl (by omega) (by omega) ?_ | refine Z24 rfl rfl (by omega) (by omega) (by omega) ?_ | refine Z13 (Z25 rfl rfl) ?_ | refine Z13 (Z26 rfl rfl) ?_) | (refine Z27 ?_; refine Z13 (Z28 rfl (Z53 ⟨by omega, by omega⟩)) ?_) | (refine Z29 ?_; refine Z13 (Z30 rfl (by rfl) (by simp only [Z84, List.set_cons_zero, List.set_cons_succ]; rfl)) ?_) | refine Z31 ?_) | (refine Z32 ?_; first | refine Z33 ?_ | refine Z34 ?_ | refine Z35 ?_ | refine Z36 ?_ | refine Z37 ?_ | refine Z38 rfl ?_ | refine Z39 ?_ | refine Z40 ?_ | refine Z41 ?_) | (refine Z42 ?_; first | refine Z43 ?_ | refine Z44 ?_ | refine Z45 ?_ | refine Z46 ?_ | refine Z47 ?_ | refine Z48 ?_ | refine Z49 rfl (by decide) ?_ | refine Z50 rfl (by decide) ?_))
  refine WO_call rfl (eqPointer_ret _ _ _) ?_
  rintro _ wq ⟨rfl, eq⟩
  rw [decide_eq_true rfl]
  replace e0 := e0.trans eq
  try replace ha := Own.ext ha eq
  try replace hx := Own.ext hx eq
  try replace hg := Own.ext hg eq
  try replace hp := Blk.ext hp eq
  try replace hq := Blk.ext hq eq
  try replace hb := Blk.ext hb eq
  have := Ext.size_le eq
  repeat' (first | (refine Z0 ?_; first | refine Z1 rfl ?_ | (refine Z2 ?_; first | refine Z3 rfl rfl (by decide) ?_ | refine Z4 rfl rfl (by decide) ?_ | refine Z5 rfl rfl ?_ | ((refine Z51 rfl rfl (fun c' hc' => ?_)); cases c' <;> (try simp only [decide_eq_true_eq, decide_eq_false_iff_not, beq_iff_eq, beq_eq_false_iff_ne, bne_iff_ne, bne_eq_false_iff_eq, ne_eq, gt_iff_lt, ge_iff_le, Int.not_lt, Int.not_le, Bool.not_eq_true', Bool.not_eq_false', Bool.not_true, Bool.not_false, reduceCtorEq, Decidable.not_not, not_true_eq_false, Bool.true_eq_false, Bool.false_eq_true] at hc') <;> (try (exfalso; omega)))) | (refine Z6 ?_; first | refine Z7 rfl rfl ?_ | refine Z8 rfl rfl ?_) | (refine Z9 ?_; first | refine Z10 rfl (by assumption) (by rfl) ?_ | refine Z11 rfl (by assumption) ?_) | (refine Z12 ?_; first | refine Z13 (Z14 rfl (by decide) rfl) ?_ | refine Z13 (Z15 rfl (by decide) rfl) ?_) | (refine Z16 ?_; first | refine Z17 rfl ?_ | refine Z18 rfl ?_) | (refine Z19 ?_; first | refine Z20 rfl rfl (by omega) ?_ | refine Z21 rfl rfl (by omega) ?_ | refine Z22 rfl rfl (by omega) ?_ | refine Z23 rfl rfl (by omega) (by omega) ?_ | refine Z24 rfl rfl (by omega) (by omega) (by omega) ?_ | refine Z13 (Z25 rfl rfl) ?_ | refine Z13 (Z26 rfl rfl) ?_) | (refine Z27 ?_; refine Z13 (Z28 rfl (Z53 ⟨by omega, by omega⟩)) ?_) | (refine Z29 ?_; refine Z13 (Z30 rfl (by rfl) (by simp only [Z84, List.set_cons_zero, List.set_cons_succ]; rfl)) ?_) | refine Z31 ?_) | (refine Z32 ?_; first | refine Z33 ?_ | refine Z34 ?_ | refine Z35 ?_ | refine Z36 ?_ | refine Z37 ?_ | refine Z38 rfl ?_ | refine Z39 ?_ | refine Z40 ?_ | refine Z41 ?_) | (refine Z42 ?_; first | refine Z43 ?_ | refine Z44 ?_ | refine Z45 ?_ | refine Z46 ?_ | refine Z47 ?_ | refine Z48 ?_ | refine Z49 rfl (by decide) ?_ | refine Z50 rfl (by decide) ?_ | ((refine Z52 rfl (fun hc' => ?_) (fun hc' => ?_)) <;> (try simp only [decide_eq_true_eq, decide_eq_false_iff_not, beq_iff_eq, beq_eq_false_iff_ne, bne_iff_ne, bne_eq_false_iff_eq, ne_eq, gt_iff_lt, ge_iff_le, Int.not_lt, Int.not_le, Bool.not_eq_true', Bool.not_eq_false', Bool.not_true, Bool.not_false, reduceCtorEq, Decidable.not_not, not_true_eq_false, Bool.true_eq_false, Bool.false_eq_true] at hc') <;> (try (exfalso; omega)))))
  obtain ⟨Fg, hgr, hgn, hgb⟩ := hg
  refine WO_call rfl (markCellS_ret _ _ _ (lentL l x false) Fg 1 _ hgr hgn (by decide) (kAt_all (lentL l x false) hm).2) ?_
  rintro _ wm ⟨rfl, hgr2, cm⟩
  replace cm := cm.toI hgb
  have hg : Own _ _ _ _ (markC 1 (lentL l x false)) wm _ := ⟨Fg, hgr2, hgn, hgb⟩
  replace e0 := e0.chgI cm (by omega)
  replace ha := Own.chgI ha cm (by omega)
  try replace hp := Blk.chgI hp cm (by omega)
  try replace hb := Blk.chgI hb cm (by omega)
  have := ChgI.size cm
  clear hq
  repeat (first | (refine Z0 ?_; first | refine Z1 rfl ?_ | (refine Z2 ?_; first | refine Z3 rfl rfl (by decide) ?_ | refine Z4 rfl rfl (by decide) ?_ | refine Z5 rfl rfl ?_) | (refine Z6 ?_; first | refine Z7 rfl rfl ?_ | refine Z8 rfl rfl ?_) | (refine Z9 ?_; first | refine Z10 rfl (by assumption) (by rfl) ?_ | refine Z11 rfl (by assumption) ?_) | (refine Z12 ?_; first | refine Z13 (Z14 rfl (by decide) rfl) ?_ | refine Z13 (Z15 rfl (by decide) rfl) ?_) | (refine Z16 ?_; first | refine Z17 rfl ?_ | refine Z18 rfl ?_) | (refine Z19 ?_; first | refine Z20 rfl rfl (by omega) ?_ | refine Z21 rfl rfl (by omega) ?_ | refine Z22 rfl rfl (by omega) ?_ | refine Z23 rfl rfl (by omega) (by omega) ?_ | refine Z24 rfl rfl (by omega) (by omega) (by omega) ?_ | refine Z13 (Z25 rfl rfl) ?_ | refine Z13 (Z26 rfl rfl) ?_) | (refine Z27 ?_; refine Z13 (Z28 rfl (Z53 ⟨by omega, by omega⟩)) ?_) | (refine Z29 ?_; refine Z13 (Z30 rfl (by rfl) (by simp only [Z84, List.set_cons_zero, List.set_cons_succ]; rfl)) ?_) | refine Z31 ?_) | (refine Z32 ?_; first | refine Z33 ?_ | refine Z34 ?_ | refine Z35 ?_ | refine Z36 ?_ | refine Z37 ?_ | refine Z38 rfl ?_ | refine Z39 ?_ | refine Z40 ?_ | refine Z41 ?_) | (refine Z42 ?_; first | refine Z43 ?_ | refine Z44 ?_ | refine Z45 ?_ | refine Z46 ?_ | refine Z47 ?_ | refine Z48 ?_ | refine Z49 rfl (by decide) ?_ | refine Z50 rfl (by decide) ?_))
  obtain ⟨F1, h1⟩ := hg.ces
  refine WO_call rfl (heldCellS_ret _ ((lentL l x false)) F1 1 _ h1 (by decide) (kAt_all ((lentL l x false)) hm).2) ?_
  rintro _ wh ⟨rfl, rfl⟩
  clear h1
  have hk2 := (kAt_all (lentL l x false) hm).1
  repeat' (first | (refine Z0 ?_; first | refine Z1 rfl ?_ | (refine Z2 ?_; first | refine Z3 rfl rfl (by decide) ?_ | refine Z4 rfl rfl (by decide) ?_ | refine Z5 rfl rfl ?_ | ((refine Z51 rfl rfl (fun c' hc' => ?_)); cases c' <;> (try simp only [decide_eq_true_eq, decide_eq_false_iff_not, beq_iff_eq, beq_eq_false_iff_ne, bne_iff_ne, bne_eq_false_iff_eq, ne_eq, gt_iff_lt, ge_iff_le, Int.not_lt, Int.not_le, Bool.not_eq_true', Bool.not_eq_false', Bool.not_true, Bool.not_false, reduceCtorEq, Decidable.not_not, not_true_eq_false, Bool.true_eq_false, Bool.false_eq_true] at hc') <;> (try (exfalso; omega)))) | (refine Z6 ?_; first | refine Z7 rfl rfl ?_ | refine Z8 rfl rfl ?_) | (refine Z9 ?_; first | refine Z10 rfl (by assumption) (by rfl) ?_ | refine Z11 rfl (by assumption) ?_) | (refine Z12 ?_; first | refine Z13 (Z14 rfl (by decide) rfl) ?_ | refine Z13 (Z15 rfl (by decide) rfl) ?_) | (refine Z16 ?_; first | refine Z17 rfl ?_ | refine Z18 rfl ?_) | (refine Z19 ?_; first | refine Z20 rfl rfl (by omega) ?_ | refine Z21 rfl rfl (by omega) ?_ | refine Z22 rfl rfl (by omega) ?_ | refine Z23 rfl rfl (by omega) (by omega) ?_ | refine Z24 rfl rfl (by omega) (by omega) (by omega) ?_ | refine Z13 (Z25 rfl rfl) ?_ | refine Z13 (Z26 rfl rfl) ?_) | (refine Z27 ?_; refine Z13 (Z28 rfl (Z53 ⟨by omega, by omega⟩)) ?_) | (refine Z29 ?_; refine Z13 (Z30 rfl (by rfl) (by simp only [Z84, List.set_cons_zero, List.set_cons_succ]; rfl)) ?_) | refine Z31 ?_) | (refine Z32 ?_; first | refine Z33 ?_ | refine Z34 ?_ | refine Z35 ?_ | refine Z36 ?_ | refine Z37 ?_ | refine Z38 rfl ?_ | refine Z39 ?_ | refine Z40 ?_ | refine Z41 ?_) | (refine Z42 ?_; first | refine Z43 ?_ | refine Z44 ?_ | refine Z45 ?_ | refine Z46 ?_ | refine Z47 ?_ | refine Z48 ?_ | refine Z49 rfl (by decide) ?_ | refine Z50 rfl (by decide) ?_ | ((refine Z52 rfl (fun hc' => ?_) (fun hc' => ?_)) <;> (try simp only [decide_eq_true_eq, decide_eq_false_iff_not, beq_iff_eq, beq_eq_false_iff_ne, bne_iff_ne, bne_eq_false_iff_eq, ne_eq, gt_iff_lt, ge_iff_le, Int.not_lt, Int.not_le, Bool.not_eq_true', Bool.not_eq_false', Bool.not_true, Bool.not_false, reduceCtorEq, Decidable.not_not, not_true_eq_false, Bool.true_eq_false, Bool.false_eq_true] at hc') <;> (try (exfalso; omega)))))
  refine W_held0E [] (fun τ w' => ∃ z0 z1, τ = [(6, a0), (7, .pointer (some ⟨bp, 0, none⟩)), (8, .int .i64 (lentC l x false)), (10, g0), (14, .int .i64 (kAt 1 (lentL l x false) (lentL l x false).length)), (16, z0), (17, (.pointer (some ⟨z1, 0, none⟩))), (18, .int .i64 (lentC l x false))] ∧ NewCells 58 62 (lentL l x false) wh z0 w' ∧ Blk w' z1 [.int .i64 (lentP l x false).cell, .int .i64 (lentP l x false).tag] 35 ∧ wh.heap.size ≤ z1) (by kernel_rfl) (fun ws es hS => ?_) (fun τ wt hT => ?_)
  · refine Z82 0 rfl (by kernel_rfl) (by kernel_rfl) (by kernel_rfl) (by assumption) (fun w' hw' => Z56 rfl) ?_
    refine Z82 2 rfl (by kernel_rfl) (by kernel_rfl) (by kernel_rfl) (by assumption) (fun w' hw' => q_loadS (cs := [.int .i64 x.cell, .int .i64 x.tag]) rfl rfl (fun j u hu => by rw [Nat.zero_add]; exact ((hb.ext es).ext hw'.ext).cell hu)) ?_
    refine WH_two 1 9 rfl rfl (by kernel_rfl) ?_ ?_
    · refine WO_call rfl (toCellS_ret v l F _ (h.ext (e0.trans (es.trans (Ext.refl ws)))) hn) fun xr wr hxr => Z31 (at_held (((Ext.refl ws).trans hxr.2).chg []) ?_)
      have k1 := Ext.trans (Ext.refl ws) hxr.2
      have hSk1 := Ext.chg k1 []
      obtain ⟨Fr, hcr, _⟩ := hxr.ces
      refine WH_two 3 9 rfl rfl (by kernel_rfl) ?_ ?_
      · refine WO_call rfl (toPointer_ret x _) fun _ wp hpp => Z31 (at_held ((k1.trans hpp.2).chg []) ?_)
        obtain ⟨rfl, ep⟩ := hpp
        have k3 := Ext.trans k1 ep
        have hSk3 := Ext.chg k3 []
        replace hcr := hcr.ext ep
        refine WH_two 4 9 rfl rfl (by kernel_rfl) ?_ ?_
        · refine WO_call rfl (ShareCell_ret xr l Fr x _ hcr hn) fun _ wc hAA => Z31 (at_held (by obtain ⟨z0, _, hA⟩ := hAA; exact (k3.trans hA.2).chg []) ?_)
          obtain ⟨z0, rfl, hA⟩ := hAA
          have k4 := Ext.trans k3 hA.2
          have hSk4 := Ext.chg k4 []
          refine Z82 5 rfl (by kernel_rfl) (by kernel_rfl) (by kernel_rfl) (by assumption) (fun w' hw' => Z56 rfl) ?_
          refine Z82 6 rfl (by kernel_rfl) (by kernel_rfl) (by kernel_rfl) (by assumption) (fun w' hw' => Z56 rfl) ?_
          refine Z82 7 rfl (by kernel_rfl) (by kernel_rfl) (by kernel_rfl) (by assumption) (fun w' hw' => Z56 rfl) ?_
          refine Z82 8 rfl (by kernel_rfl) (by kernel_rfl) (by kernel_rfl) (by assumption) (fun w' hw' => Z56 rfl) ?_
          refine WH_one 9 rfl (by kernel_rfl) ?_
          refine WO_alloc fun wb hb2 eb2 zb2 => Z31 (at_held ((k4.trans eb2).chg []) ?_)
          have k9 := Ext.trans k4 eb2
          have hSk9 := Ext.chg k9 []
          have sb := Ext.size_le k4
          refine Z82 10 rfl (by kernel_rfl) (by kernel_rfl) (by kernel_rfl) (by assumption) (fun w' hw' => Z56 rfl) ?_
          refine WH_one 11 rfl (by kernel_rfl) (WO_storeS (k := 2) (vs := [.int .i64 (lentP l x false).cell, .int .i64 (lentP l x false).tag]) rfl rfl rfl (by intro v hv; simp at hv; rcases hv with rfl | rfl <;> rfl) hb2 (by decide) fun we hbe oe => Z31 (at_held ((k9.only oe sb).chg []) ?_))
          have eE := Ext.only k9 oe sb
          have hSE := Ext.chg eE []
          refine Z82 12 rfl (by kernel_rfl) (by kernel_rfl) (by kernel_rfl) (by assumption) (fun w' hw' => Z56 rfl) ?_
          exact WH_doneE (τ := [(6, a0), (7, .pointer (some ⟨bp, 0, none⟩)), (8, .int .i64 (lentC l x false)), (10, g0), (14, .int .i64 (kAt 1 (lentL l x false) (lentL l x false).length)), (16, z0), (17, _), (18, .int .i64 (lentC l x false))]) (by kernel_rfl) (by repeat (first | exact True.intro | refine And.intro rfl ?_)) ⟨z0, _, rfl, hA.chg (Chg.trans (Ext.chg eb2 _) oe.chg) (by have := Ext.size_le eb2; have := Ext.size_le es; have := Ext.size_le k3; have := Ext.size_le k9; intro b hbb; rw [List.mem_singleton] at hbb; subst hbb; omega) (by have := Ext.size_le es; have := Ext.size_le k3; have := Ext.size_le k9; have := hA.2.size_le; omega) (es.trans eE), hbe, by have := Ext.size_le es; omega⟩
        · refine WO_alloc fun wb hb2 eb2 zb2 => Z31 (at_held ((k3.trans eb2).chg []) ?_)
          have k9 := Ext.trans k3 eb2
          have hSk9 := Ext.chg k9 []
          have sb := Ext.size_le k3
          replace hcr := hcr.ext eb2
          have hlt := hb2.lt
          refine WH_one 4 rfl (by kernel_rfl) ?_
          refine WO_call rfl (ShareCell_ret xr l Fr x _ hcr hn) fun _ wc hAA => Z31 (at_held (by obtain ⟨z0, _, hA⟩ := hAA; exact (k9.trans hA.2).chg []) ?_)
          obtain ⟨z0, rfl, hA⟩ := hAA
          have k4 := Ext.trans k9 hA.2
          have hSk4 := Ext.chg k4 []
          replace hb2 := hb2.ext hA.2
          refine Z82 5 rfl (by kernel_rfl) (by kernel_rfl) (by kernel_rfl) (by assumption) (fun w' hw' => Z56 rfl) ?_
          refine Z82 6 rfl (by kernel_rfl) (by kernel_rfl) (by kernel_rfl) (by assumption) (fun w' hw' => Z56 rfl) ?_
          refine Z82 7 rfl (by kernel_rfl) (by kernel_rfl) (by kernel_rfl) (by assumption) (fun w' hw' => Z56 rfl) ?_
          refine Z82 8 rfl (by kernel_rfl) (by kernel_rfl) (by kernel_rfl) (by assumption) (fun w' hw' => Z56 rfl) ?_
          refine Z82 10 rfl (by kernel_rfl) (by kernel_rfl) (by kernel_rfl) (by assumption) (fun w' hw' => Z56 rfl) ?_
          refine WH_one 11 rfl (by kernel_rfl) (WO_storeS (k := 2) (vs := [.int .i64 (lentP l x false).cell, .int .i64 (lentP l x false).tag]) rfl rfl rfl (by intro v hv; simp at hv; rcases hv with rfl | rfl <;> rfl) hb2 (by decide) fun we hbe oe => Z31 (at_held ((k4.only oe sb).chg []) ?_))
          have eE := Ext.only k4 oe sb
          have hSE := Ext.chg eE []
          refine Z82 12 rfl (by kernel_rfl) (by kernel_rfl) (by kernel_rfl) (by assumption) (fun w' hw' => Z56 rfl) ?_
          exact WH_doneE (τ := [(6, a0), (7, .pointer (some ⟨bp, 0, none⟩)), (8, .int .i64 (lentC l x false)), (10, g0), (14, .int .i64 (kAt 1 (lentL l x false) (lentL l x false).length)), (16, z0), (17, _), (18, .int .i64 (lentC l x false))]) (by kernel_rfl) (by repeat (first | exact True.intro | refine And.intro rfl ?_)) ⟨z0, _, rfl, hA.chg (Chg.trans (Ext.chg (Ext.refl _) _) oe.chg) (by have := Ext.size_le es; have := Ext.size_le k3; have := Ext.size_le k9; intro b hbb; rw [List.mem_singleton] at hbb; subst hbb; omega) (by have := Ext.size_le es; have := Ext.size_le k3; have := Ext.size_le k9; have := hA.2.size_le; omega) (es.trans eE), hbe, by have := Ext.size_le es; omega⟩
      · refine WO_alloc fun wb hb2 eb2 zb2 => Z31 (at_held ((k1.trans eb2).chg []) ?_)
        have k9 := Ext.trans k1 eb2
        have hSk9 := Ext.chg k9 []
        have sb := Ext.size_le k1
        replace hcr := hcr.ext eb2
        have hlt := hb2.lt
        refine WH_one 3 rfl (by kernel_rfl) ?_
        refine WO_call rfl (toPointer_ret x _) fun _ wp hpp => Z31 (at_held ((k9.trans hpp.2).chg []) ?_)
        obtain ⟨rfl, ep⟩ := hpp
        have k3 := Ext.trans k9 ep
        have hSk3 := Ext.chg k3 []
        replace hcr := hcr.ext ep
        refine WH_one 4 rfl (by kernel_rfl) ?_
        refine WO_call rfl (ShareCell_ret xr l Fr x _ hcr hn) fun _ wc hAA => Z31 (at_held (by obtain ⟨z0, _, hA⟩ := hAA; exact (k3.trans hA.2).chg []) ?_)
        obtain ⟨z0, rfl, hA⟩ := hAA
        have k4 := Ext.trans k3 hA.2
        have hSk4 := Ext.chg k4 []
        replace hb2 := (hb2.ext ep).ext hA.2
        have hlt2 := Ext.size_le ep
        refine Z82 5 rfl (by kernel_rfl) (by kernel_rfl) (by kernel_rfl) (by assumption) (fun w' hw' => Z56 rfl) ?_
        refine Z82 6 rfl (by kernel_rfl) (by kernel_rfl) (by kernel_rfl) (by assumption) (fun w' hw' => Z56 rfl) ?_
        refine Z82 7 rfl (by kernel_rfl) (by kernel_rfl) (by kernel_rfl) (by assumption) (fun w' hw' => Z56 rfl) ?_
        refine Z82 8 rfl (by kernel_rfl) (by kernel_rfl) (by kernel_rfl) (by assumption) (fun w' hw' => Z56 rfl) ?_
        refine Z82 10 rfl (by kernel_rfl) (by kernel_rfl) (by kernel_rfl) (by assumption) (fun w' hw' => Z56 rfl) ?_
        refine WH_one 11 rfl (by kernel_rfl) (WO_storeS (k := 2) (vs := [.int .i64 (lentP l x false).cell, .int .i64 (lentP l x false).tag]) rfl rfl rfl (by intro v hv; simp at hv; rcases hv with rfl | rfl <;> rfl) hb2 (by decide) fun we hbe oe => Z31 (at_held ((k4.only oe sb).chg []) ?_))
        have eE := Ext.only k4 oe sb
        have hSE := Ext.chg eE []
        refine Z82 12 rfl (by kernel_rfl) (by kernel_rfl) (by kernel_rfl) (by assumption) (fun w' hw' => Z56 rfl) ?_
        exact WH_doneE (τ := [(6, a0), (7, .pointer (some ⟨bp, 0, none⟩)), (8, .int .i64 (lentC l x false)), (10, g0), (14, .int .i64 (kAt 1 (lentL l x false) (lentL l x false).length)), (16, z0), (17, _), (18, .int .i64 (lentC l x false))]) (by kernel_rfl) (by repeat (first | exact True.intro | refine And.intro rfl ?_)) ⟨z0, _, rfl, hA.chg (Chg.trans (Ext.chg (Ext.refl _) _) oe.chg) (by have := Ext.size_le es; have := Ext.size_le k3; have := Ext.size_le k9; intro b hbb; rw [List.mem_singleton] at hbb; subst hbb; omega) (by have := Ext.size_le es; have := Ext.size_le k3; have := Ext.size_le k9; have := hA.2.size_le; omega) (es.trans eE), hbe, by have := Ext.size_le es; omega⟩
    · refine WO_alloc fun wb hb2 eb2 zb2 => Z31 (at_held (((Ext.refl ws).trans eb2).chg []) ?_)
      have k9 := Ext.trans (Ext.refl ws) eb2
      have hSk9 := Ext.chg k9 []
      have sb := Ext.size_le (Ext.refl ws)
      have hlt := hb2.lt
      refine WH_one 1 rfl (by kernel_rfl) ?_
      refine WO_call rfl (toCellS_ret v l F _ (h.ext (e0.trans (es.trans k9))) hn) fun xr wr hxr => Z31 (at_held ((k9.trans hxr.2).chg []) ?_)
      have k1 := Ext.trans k9 hxr.2
      have hSk1 := Ext.chg k1 []
      obtain ⟨Fr, hcr, _⟩ := hxr.ces
      refine WH_one 3 rfl (by kernel_rfl) ?_
      refine WO_call rfl (toPointer_ret x _) fun _ wp hpp => Z31 (at_held ((k1.trans hpp.2).chg []) ?_)
      obtain ⟨rfl, ep⟩ := hpp
      have k3 := Ext.trans k1 ep
      have hSk3 := Ext.chg k3 []
      replace hcr := hcr.ext ep
      refine WH_one 4 rfl (by kernel_rfl) ?_
      refine WO_call rfl (ShareCell_ret xr l Fr x _ hcr hn) fun _ wc hAA => Z31 (at_held (by obtain ⟨z0, _, hA⟩ := hAA; exact (k3.trans hA.2).chg []) ?_)
      obtain ⟨z0, rfl, hA⟩ := hAA
      have k4 := Ext.trans k3 hA.2
      have hSk4 := Ext.chg k4 []
      replace hb2 := ((hb2.ext hxr.2).ext ep).ext hA.2
      have hlt2 := Nat.le_trans (Ext.size_le hxr.2) (Ext.size_le ep)
      refine Z82 5 rfl (by kernel_rfl) (by kernel_rfl) (by kernel_rfl) (by assumption) (fun w' hw' => Z56 rfl) ?_
      refine Z82 6 rfl (by kernel_rfl) (by kernel_rfl) (by kernel_rfl) (by assumption) (fun w' hw' => Z56 rfl) ?_
      refine Z82 7 rfl (by kernel_rfl) (by kernel_rfl) (by kernel_rfl) (by assumption) (fun w' hw' => Z56 rfl) ?_
      refine Z82 8 rfl (by kernel_rfl) (by kernel_rfl) (by kernel_rfl) (by assumption) (fun w' hw' => Z56 rfl) ?_
      refine Z82 10 rfl (by kernel_rfl) (by kernel_rfl) (by kernel_rfl) (by assumption) (fun w' hw' => Z56 rfl) ?_
      refine WH_one 11 rfl (by kernel_rfl) (WO_storeS (k := 2) (vs := [.int .i64 (lentP l x false).cell, .int .i64 (lentP l x false).tag]) rfl rfl rfl (by intro v hv; simp at hv; rcases hv with rfl | rfl <;> rfl) hb2 (by decide) fun we hbe oe => Z31 (at_held ((k4.only oe sb).chg []) ?_))
      have eE := Ext.only k4 oe sb
      have hSE := Ext.chg eE []
      refine Z82 12 rfl (by kernel_rfl) (by kernel_rfl) (by kernel_rfl) (by assumption) (fun w' hw' => Z56 rfl) ?_
      exact WH_doneE (τ := [(6, a0), (7, .pointer (some ⟨bp, 0, none⟩)), (8, .int .i64 (lentC l x false)), (10, g0), (14, .int .i64 (kAt 1 (lentL l x false) (lentL l x false).length)), (16, z0), (17, _), (18, .int .i64 (lentC l x false))]) (by kernel_rfl) (by repeat (first | exact True.intro | refine And.intro rfl ?_)) ⟨z0, _, rfl, hA.chg (Chg.trans (Ext.chg (Ext.refl _) _) oe.chg) (by have := Ext.size_le es; have := Ext.size_le k3; have := Ext.size_le k9; intro b hbb; rw [List.mem_singleton] at hbb; subst hbb; omega) (by have := Ext.size_le es; have := Ext.size_le k3; have := Ext.size_le k9; have := hA.2.size_le; omega) (es.trans eE), hbe, by have := Ext.size_le es; omega⟩
  obtain ⟨h0, bq, rfl, hA, hq, hqB⟩ := hT
  have ea := hA.2
  replace e0 := e0.trans ea
  replace ha := ha.ext ea
  replace hg := hg.ext ea
  replace hp := hp.ext ea
  have := Ext.size_le ea
  have hh := hA.own
  repeat (first | (refine Z0 ?_; first | refine Z1 rfl ?_ | (refine Z2 ?_; first | refine Z3 rfl rfl (by decide) ?_ | refine Z4 rfl rfl (by decide) ?_ | refine Z5 rfl rfl ?_) | (refine Z6 ?_; first | refine Z7 rfl rfl ?_ | refine Z8 rfl rfl ?_) | (refine Z9 ?_; first | refine Z10 rfl (by assumption) (by rfl) ?_ | refine Z11 rfl (by assumption) ?_) | (refine Z12 ?_; first | refine Z13 (Z14 rfl (by decide) rfl) ?_ | refine Z13 (Z15 rfl (by decide) rfl) ?_) | (refine Z16 ?_; first | refine Z17 rfl ?_ | refine Z18 rfl ?_) | (refine Z19 ?_; first | refine Z20 rfl rfl (by omega) ?_ | refine Z21 rfl rfl (by omega) ?_ | refine Z22 rfl rfl (by omega) ?_ | refine Z23 rfl rfl (by omega) (by omega) ?_ | refine Z24 rfl rfl (by omega) (by omega) (by omega) ?_ | refine Z13 (Z25 rfl rfl) ?_ | refine Z13 (Z26 rfl rfl) ?_) | (refine Z27 ?_; refine Z13 (Z28 rfl (Z53 ⟨by omega, by omega⟩)) ?_) | (refine Z29 ?_; refine Z13 (Z30 rfl (by rfl) (by simp only [Z84, List.set_cons_zero, List.set_cons_succ]; rfl)) ?_) | refine Z31 ?_) | (refine Z32 ?_; first | refine Z33 ?_ | refine Z34 ?_ | refine Z35 ?_ | refine Z36 ?_ | refine Z37 ?_ | refine Z38 rfl ?_ | refine Z39 ?_ | refine Z40 ?_ | refine Z41 ?_) | (refine Z42 ?_; first | refine Z43 ?_ | refine Z44 ?_ | refine Z45 ?_ | refine Z46 ?_ | refine Z47 ?_ | refine Z48 ?_ | refine Z49 rfl (by decide) ?_ | refine Z50 rfl (by decide) ?_))
  obtain ⟨F1, h1⟩ := hh.ces
  obtain ⟨F2, h2⟩ := ha.ces
  refine WO_call rfl (eqCellS_ret _ _ _ _ F1 F2 _ h1 h2) ?_
  rintro _ wq ⟨rfl, eq⟩
  rw [decide_eq_true rfl]
  clear h1 h2
  replace e0 := e0.trans eq
  try replace ha := Own.ext ha eq
  try replace hx := Own.ext hx eq
  try replace hg := Own.ext hg eq
  try replace hp := Blk.ext hp eq
  try replace hq := Blk.ext hq eq
  try replace hb := Blk.ext hb eq
  have := Ext.size_le eq
  repeat (first | (refine Z0 ?_; first | refine Z1 rfl ?_ | (refine Z2 ?_; first | refine Z3 rfl rfl (by decide) ?_ | refine Z4 rfl rfl (by decide) ?_ | refine Z5 rfl rfl ?_) | (refine Z6 ?_; first | refine Z7 rfl rfl ?_ | refine Z8 rfl rfl ?_) | (refine Z9 ?_; first | refine Z10 rfl (by assumption) (by rfl) ?_ | refine Z11 rfl (by assumption) ?_) | (refine Z12 ?_; first | refine Z13 (Z14 rfl (by decide) rfl) ?_ | refine Z13 (Z15 rfl (by decide) rfl) ?_) | (refine Z16 ?_; first | refine Z17 rfl ?_ | refine Z18 rfl ?_) | (refine Z19 ?_; first | refine Z20 rfl rfl (by omega) ?_ | refine Z21 rfl rfl (by omega) ?_ | refine Z22 rfl rfl (by omega) ?_ | refine Z23 rfl rfl (by omega) (by omega) ?_ | refine Z24 rfl rfl (by omega) (by omega) (by omega) ?_ | refine Z13 (Z25 rfl rfl) ?_ | refine Z13 (Z26 rfl rfl) ?_) | (refine Z27 ?_; refine Z13 (Z28 rfl (Z53 ⟨by omega, by omega⟩)) ?_) | (refine Z29 ?_; refine Z13 (Z30 rfl (by rfl) (by simp only [Z84, List.set_cons_zero, List.set_cons_succ]; rfl)) ?_) | refine Z31 ?_) | (refine Z32 ?_; first | refine Z33 ?_ | refine Z34 ?_ | refine Z35 ?_ | refine Z36 ?_ | refine Z37 ?_ | refine Z38 rfl ?_ | refine Z39 ?_ | refine Z40 ?_ | refine Z41 ?_) | (refine Z42 ?_; first | refine Z43 ?_ | refine Z44 ?_ | refine Z45 ?_ | refine Z46 ?_ | refine Z47 ?_ | refine Z48 ?_ | refine Z49 rfl (by decide) ?_ | refine Z50 rfl (by decide) ?_))
  refine WO_loadSB rfl hq rfl ?_
  repeat (first | (refine Z0 ?_; first | refine Z1 rfl ?_ | (refine Z2 ?_; first | refine Z3 rfl rfl (by decide) ?_ | refine Z4 rfl rfl (by decide) ?_ | refine Z5 rfl rfl ?_) | (refine Z6 ?_; first | refine Z7 rfl rfl ?_ | refine Z8 rfl rfl ?_) | (refine Z9 ?_; first | refine Z10 rfl (by assumption) (by rfl) ?_ | refine Z11 rfl (by assumption) ?_) | (refine Z12 ?_; first | refine Z13 (Z14 rfl (by decide) rfl) ?_ | refine Z13 (Z15 rfl (by decide) rfl) ?_) | (refine Z16 ?_; first | refine Z17 rfl ?_ | refine Z18 rfl ?_) | (refine Z19 ?_; first | refine Z20 rfl rfl (by omega) ?_ | refine Z21 rfl rfl (by omega) ?_ | refine Z22 rfl rfl (by omega) ?_ | refine Z23 rfl rfl (by omega) (by omega) ?_ | refine Z24 rfl rfl (by omega) (by omega) (by omega) ?_ | refine Z13 (Z25 rfl rfl) ?_ | refine Z13 (Z26 rfl rfl) ?_) | (refine Z27 ?_; refine Z13 (Z28 rfl (Z53 ⟨by omega, by omega⟩)) ?_) | (refine Z29 ?_; refine Z13 (Z30 rfl (by rfl) (by simp only [Z84, List.set_cons_zero, List.set_cons_succ]; rfl)) ?_) | refine Z31 ?_) | (refine Z32 ?_; first | refine Z33 ?_ | refine Z34 ?_ | refine Z35 ?_ | refine Z36 ?_ | refine Z37 ?_ | refine Z38 rfl ?_ | refine Z39 ?_ | refine Z40 ?_ | refine Z41 ?_) | (refine Z42 ?_; first | refine Z43 ?_ | refine Z44 ?_ | refine Z45 ?_ | refine Z46 ?_ | refine Z47 ?_ | refine Z48 ?_ | refine Z49 rfl (by decide) ?_ | refine Z50 rfl (by decide) ?_))
  refine WO_loadSB rfl hp rfl ?_
  repeat (first | (refine Z0 ?_; first | refine Z1 rfl ?_ | (refine Z2 ?_; first | refine Z3 rfl rfl (by decide) ?_ | refine Z4 rfl rfl (by decide) ?_ | refine Z5 rfl rfl ?_) | (refine Z6 ?_; first | refine Z7 rfl rfl ?_ | refine Z8 rfl rfl ?_) | (refine Z9 ?_; first | refine Z10 rfl (by assumption) (by rfl) ?_ | refine Z11 rfl (by assumption) ?_) | (refine Z12 ?_; first | refine Z13 (Z14 rfl (by decide) rfl) ?_ | refine Z13 (Z15 rfl (by decide) rfl) ?_) | (refine Z16 ?_; first | refine Z17 rfl ?_ | refine Z18 rfl ?_) | (refine Z19 ?_; first | refine Z20 rfl rfl (by omega) ?_ | refine Z21 rfl rfl (by omega) ?_ | refine Z22 rfl rfl (by omega) ?_ | refine Z23 rfl rfl (by omega) (by omega) ?_ | refine Z24 rfl rfl (by omega) (by omega) (by omega) ?_ | refine Z13 (Z25 rfl rfl) ?_ | refine Z13 (Z26 rfl rfl) ?_) | (refine Z27 ?_; refine Z13 (Z28 rfl (Z53 ⟨by omega, by omega⟩)) ?_) | (refine Z29 ?_; refine Z13 (Z30 rfl (by rfl) (by simp only [Z84, List.set_cons_zero, List.set_cons_succ]; rfl)) ?_) | refine Z31 ?_) | (refine Z32 ?_; first | refine Z33 ?_ | refine Z34 ?_ | refine Z35 ?_ | refine Z36 ?_ | refine Z37 ?_ | refine Z38 rfl ?_ | refine Z39 ?_ | refine Z40 ?_ | refine Z41 ?_) | (refine Z42 ?_; first | refine Z43 ?_ | refine Z44 ?_ | refine Z45 ?_ | refine Z46 ?_ | refine Z47 ?_ | refine Z48 ?_ | refine Z49 rfl (by decide) ?_ | refine Z50 rfl (by decide) ?_))
  refine WO_call rfl (eqPointer_ret _ _ _) ?_
  rintro _ wq ⟨rfl, eq⟩
  rw [decide_eq_true rfl]
  replace e0 := e0.trans eq
  try replace ha := Own.ext ha eq
  try replace hx := Own.ext hx eq
  try replace hg := Own.ext hg eq
  try replace hp := Blk.ext hp eq
  try replace hq := Blk.ext hq eq
  try replace hb := Blk.ext hb eq
  have := Ext.size_le eq
  repeat' (first | (refine Z0 ?_; first | refine Z1 rfl ?_ | (refine Z2 ?_; first | refine Z3 rfl rfl (by decide) ?_ | refine Z4 rfl rfl (by decide) ?_ | refine Z5 rfl rfl ?_ | ((refine Z51 rfl rfl (fun c' hc' => ?_)); cases c' <;> (try simp only [decide_eq_true_eq, decide_eq_false_iff_not, beq_iff_eq, beq_eq_false_iff_ne, bne_iff_ne, bne_eq_false_iff_eq, ne_eq, gt_iff_lt, ge_iff_le, Int.not_lt, Int.not_le, Bool.not_eq_true', Bool.not_eq_false', Bool.not_true, Bool.not_false, reduceCtorEq, Decidable.not_not, not_true_eq_false, Bool.true_eq_false, Bool.false_eq_true] at hc') <;> (try (exfalso; omega)))) | (refine Z6 ?_; first | refine Z7 rfl rfl ?_ | refine Z8 rfl rfl ?_) | (refine Z9 ?_; first | refine Z10 rfl (by assumption) (by rfl) ?_ | refine Z11 rfl (by assumption) ?_) | (refine Z12 ?_; first | refine Z13 (Z14 rfl (by decide) rfl) ?_ | refine Z13 (Z15 rfl (by decide) rfl) ?_) | (refine Z16 ?_; first | refine Z17 rfl ?_ | refine Z18 rfl ?_) | (refine Z19 ?_; first | refine Z20 rfl rfl (by omega) ?_ | refine Z21 rfl rfl (by omega) ?_ | refine Z22 rfl rfl (by omega) ?_ | refine Z23 rfl rfl (by omega) (by omega) ?_ | refine Z24 rfl rfl (by omega) (by omega) (by omega) ?_ | refine Z13 (Z25 rfl rfl) ?_ | refine Z13 (Z26 rfl rfl) ?_) | (refine Z27 ?_; refine Z13 (Z28 rfl (Z53 ⟨by omega, by omega⟩)) ?_) | (refine Z29 ?_; refine Z13 (Z30 rfl (by rfl) (by simp only [Z84, List.set_cons_zero, List.set_cons_succ]; rfl)) ?_) | refine Z31 ?_) | (refine Z32 ?_; first | refine Z33 ?_ | refine Z34 ?_ | refine Z35 ?_ | refine Z36 ?_ | refine Z37 ?_ | refine Z38 rfl ?_ | refine Z39 ?_ | refine Z40 ?_ | refine Z41 ?_) | (refine Z42 ?_; first | refine Z43 ?_ | refine Z44 ?_ | refine Z45 ?_ | refine Z46 ?_ | refine Z47 ?_ | refine Z48 ?_ | refine Z49 rfl (by decide) ?_ | refine Z50 rfl (by decide) ?_ | ((refine Z52 rfl (fun hc' => ?_) (fun hc' => ?_)) <;> (try simp only [decide_eq_true_eq, decide_eq_false_iff_not, beq_iff_eq, beq_eq_false_iff_ne, bne_iff_ne, bne_eq_false_iff_eq, ne_eq, gt_iff_lt, ge_iff_le, Int.not_lt, Int.not_le, Bool.not_eq_true', Bool.not_eq_false', Bool.not_true, Bool.not_false, reduceCtorEq, Decidable.not_not, not_true_eq_false, Bool.true_eq_false, Bool.false_eq_true] at hc') <;> (try (exfalso; omega)))))
  obtain ⟨F1, h1⟩ := hg.ces
  refine WO_call rfl (heldCellS_ret _ ((lentL l x false)) F1 1 _ h1 (by decide) (kAt_all ((lentL l x false)) hm).2) ?_
  rintro _ wh ⟨rfl, rfl⟩
  clear h1
  repeat' (first | (refine Z0 ?_; first | refine Z1 rfl ?_ | (refine Z2 ?_; first | refine Z3 rfl rfl (by decide) ?_ | refine Z4 rfl rfl (by decide) ?_ | refine Z5 rfl rfl ?_ | ((refine Z51 rfl rfl (fun c' hc' => ?_)); cases c' <;> (try simp only [decide_eq_true_eq, decide_eq_false_iff_not, beq_iff_eq, beq_eq_false_iff_ne, bne_iff_ne, bne_eq_false_iff_eq, ne_eq, gt_iff_lt, ge_iff_le, Int.not_lt, Int.not_le, Bool.not_eq_true', Bool.not_eq_false', Bool.not_true, Bool.not_false, reduceCtorEq, Decidable.not_not, not_true_eq_false, Bool.true_eq_false, Bool.false_eq_true] at hc') <;> (try (exfalso; omega)))) | (refine Z6 ?_; first | refine Z7 rfl rfl ?_ | refine Z8 rfl rfl ?_) | (refine Z9 ?_; first | refine Z10 rfl (by assumption) (by rfl) ?_ | refine Z11 rfl (by assumption) ?_) | (refine Z12 ?_; first | refine Z13 (Z14 rfl (by decide) rfl) ?_ | refine Z13 (Z15 rfl (by decide) rfl) ?_) | (refine Z16 ?_; first | refine Z17 rfl ?_ | refine Z18 rfl ?_) | (refine Z19 ?_; first | refine Z20 rfl rfl (by omega) ?_ | refine Z21 rfl rfl (by omega) ?_ | refine Z22 rfl rfl (by omega) ?_ | refine Z23 rfl rfl (by omega) (by omega) ?_ | refine Z24 rfl rfl (by omega) (by omega) (by omega) ?_ | refine Z13 (Z25 rfl rfl) ?_ | refine Z13 (Z26 rfl rfl) ?_) | (refine Z27 ?_; refine Z13 (Z28 rfl (Z53 ⟨by omega, by omega⟩)) ?_) | (refine Z29 ?_; refine Z13 (Z30 rfl (by rfl) (by simp only [Z84, List.set_cons_zero, List.set_cons_succ]; rfl)) ?_) | refine Z31 ?_) | (refine Z32 ?_; first | refine Z33 ?_ | refine Z34 ?_ | refine Z35 ?_ | refine Z36 ?_ | refine Z37 ?_ | refine Z38 rfl ?_ | refine Z39 ?_ | refine Z40 ?_ | refine Z41 ?_) | (refine Z42 ?_; first | refine Z43 ?_ | refine Z44 ?_ | refine Z45 ?_ | refine Z46 ?_ | refine Z47 ?_ | refine Z48 ?_ | refine Z49 rfl (by decide) ?_ | refine Z50 rfl (by decide) ?_ | ((refine Z52 rfl (fun hc' => ?_) (fun hc' => ?_)) <;> (try simp only [decide_eq_true_eq, decide_eq_false_iff_not, beq_iff_eq, beq_eq_false_iff_ne, bne_iff_ne, bne_eq_false_iff_eq, ne_eq, gt_iff_lt, ge_iff_le, Int.not_lt, Int.not_le, Bool.not_eq_true', Bool.not_eq_false', Bool.not_true, Bool.not_false, reduceCtorEq, Decidable.not_not, not_true_eq_false, Bool.true_eq_false, Bool.false_eq_true] at hc') <;> (try (exfalso; omega)))))
  exact at_ret1 rfl rfl ⟨rfl, e0⟩
theorem FnExactBorrowCell_ret {w : World} {v : Value} {y : List Ce × List Nat} {pv : Value} (h : CeS w v y.1 y.2) {x : Pt} (hpv : pv = ptV x) :
    Ret Try.prog 9 [v, pv] w fun r w' => r = .bool true ∧ Ext w w' := by
  obtain ⟨l, F⟩ := y
  subst hpv
  simp only at h
  have e0 := Ext.refl w
  refine enter Try.func9 rfl Try.ntmps9 rfl rfl ?_
  refine Z43 (Z44 (WO_box rfl fun w0 hb eb zb => ?_))
  replace hb : Blk w0 w.heap.size [.int .i64 x.cell, .int .i64 x.tag] _ := hb
  replace e0 := e0.trans eb
  repeat (first | (refine Z0 ?_; first | refine Z1 rfl ?_ | (refine Z2 ?_; first | refine Z3 rfl rfl (by decide) ?_ | refine Z4 rfl rfl (by decide) ?_ | refine Z5 rfl rfl ?_) | (refine Z6 ?_; first | refine Z7 rfl rfl ?_ | refine Z8 rfl rfl ?_) | (refine Z9 ?_; first | refine Z10 rfl (by assumption) (by rfl) ?_ | refine Z11 rfl (by assumption) ?_) | (refine Z12 ?_; first | refine Z13 (Z14 rfl (by decide) rfl) ?_ | refine Z13 (Z15 rfl (by decide) rfl) ?_) | (refine Z16 ?_; first | refine Z17 rfl ?_ | refine Z18 rfl ?_) | (refine Z19 ?_; first | refine Z20 rfl rfl (by omega) ?_ | refine Z21 rfl rfl (by omega) ?_ | refine Z22 rfl rfl (by omega) ?_ | refine Z23 rfl rfl (by omega) (by omega) ?_ | refine Z24 rfl rfl (by omega) (by omega) (by omega) ?_ | refine Z13 (Z25 rfl rfl) ?_ | refine Z13 (Z26 rfl rfl) ?_) | (refine Z27 ?_; refine Z13 (Z28 rfl (Z53 ⟨by omega, by omega⟩)) ?_) | (refine Z29 ?_; refine Z13 (Z30 rfl (by rfl) (by simp only [Z84, List.set_cons_zero, List.set_cons_succ]; rfl)) ?_) | refine Z31 ?_) | (refine Z32 ?_; first | refine Z33 ?_ | refine Z34 ?_ | refine Z35 ?_ | refine Z36 ?_ | refine Z37 ?_ | refine Z38 rfl ?_ | refine Z39 ?_ | refine Z40 ?_ | refine Z41 ?_) | (refine Z42 ?_; first | refine Z43 ?_ | refine Z44 ?_ | refine Z45 ?_ | refine Z46 ?_ | refine Z47 ?_ | refine Z48 ?_ | refine Z49 rfl (by decide) ?_ | refine Z50 rfl (by decide) ?_))
  refine WO_call rfl (szCellS_ret v l F 1048576 _ (h.ext e0) (by decide) (by decide)) ?_
  rintro r w1 ⟨⟨left, rfl, hle, hsz⟩, e1⟩
  replace e0 := e0.trans e1
  try replace ha := Own.ext ha e1
  try replace hx := Own.ext hx e1
  try replace hg := Own.ext hg e1
  try replace hp := Blk.ext hp e1
  try replace hq := Blk.ext hq e1
  try replace hb := Blk.ext hb e1
  have := Ext.size_le e1
  repeat' (first | (refine Z0 ?_; first | refine Z1 rfl ?_ | (refine Z2 ?_; first | refine Z3 rfl rfl (by decide) ?_ | refine Z4 rfl rfl (by decide) ?_ | refine Z5 rfl rfl ?_ | ((refine Z51 rfl rfl (fun c' hc' => ?_)); cases c' <;> (try simp only [decide_eq_true_eq, decide_eq_false_iff_not, beq_iff_eq, beq_eq_false_iff_ne, bne_iff_ne, bne_eq_false_iff_eq, ne_eq, gt_iff_lt, ge_iff_le, Int.not_lt, Int.not_le, Bool.not_eq_true', Bool.not_eq_false', Bool.not_true, Bool.not_false, reduceCtorEq, Decidable.not_not, not_true_eq_false, Bool.true_eq_false, Bool.false_eq_true] at hc') <;> (try (exfalso; omega)))) | (refine Z6 ?_; first | refine Z7 rfl rfl ?_ | refine Z8 rfl rfl ?_) | (refine Z9 ?_; first | refine Z10 rfl (by assumption) (by rfl) ?_ | refine Z11 rfl (by assumption) ?_) | (refine Z12 ?_; first | refine Z13 (Z14 rfl (by decide) rfl) ?_ | refine Z13 (Z15 rfl (by decide) rfl) ?_) | (refine Z16 ?_; first | refine Z17 rfl ?_ | refine Z18 rfl ?_) | (refine Z19 ?_; first | refine Z20 rfl rfl (by omega) ?_ | refine Z21 rfl rfl (by omega) ?_ | refine Z22 rfl rfl (by omega) ?_ | refine Z23 rfl rfl (by omega) (by omega) ?_ | refine Z24 rfl rfl (by omega) (by omega) (by omega) ?_ | refine Z13 (Z25 rfl rfl) ?_ | refine Z13 (Z26 rfl rfl) ?_) | (refine Z27 ?_; refine Z13 (Z28 rfl (Z53 ⟨by omega, by omega⟩)) ?_) | (refine Z29 ?_; refine Z13 (Z30 rfl (by rfl) (by simp only [Z84, List.set_cons_zero, List.set_cons_succ]; rfl)) ?_) | refine Z31 ?_) | (refine Z32 ?_; first | refine Z33 ?_ | refine Z34 ?_ | refine Z35 ?_ | refine Z36 ?_ | refine Z37 ?_ | refine Z38 rfl ?_ | refine Z39 ?_ | refine Z40 ?_ | refine Z41 ?_) | (refine Z42 ?_; first | refine Z43 ?_ | refine Z44 ?_ | refine Z45 ?_ | refine Z46 ?_ | refine Z47 ?_ | refine Z48 ?_ | refine Z49 rfl (by decide) ?_ | refine Z50 rfl (by decide) ?_ | ((refine Z52 rfl (fun hc' => ?_) (fun hc' => ?_)) <;> (try simp only [decide_eq_true_eq, decide_eq_false_iff_not, beq_iff_eq, beq_eq_false_iff_ne, bne_iff_ne, bne_eq_false_iff_eq, ne_eq, gt_iff_lt, ge_iff_le, Int.not_lt, Int.not_le, Bool.not_eq_true', Bool.not_eq_false', Bool.not_true, Bool.not_false, reduceCtorEq, Decidable.not_not, not_true_eq_false, Bool.true_eq_false, Bool.false_eq_true] at hc') <;> (try (exfalso; omega)))))
  · exact at_ret1 rfl rfl ⟨rfl, e0⟩
  have hn : cSize l ≤ 1048576 := by have := hsz (by omega); omega
  clear hsz
  have hm := lentL_size (x := x) (u := true) hn
  refine W_held0E [] (fun τ w' => ∃ z0 z1, τ = [(0, v), (3, .pointer (some ⟨w.heap.size, 0, none⟩)), (6, z0), (7, (.pointer (some ⟨z1, 0, none⟩))), (8, .int .i64 (lentC l x true))] ∧ NewCells 58 62 (lentL l x true) w1 z0 w' ∧ Blk w' z1 [.int .i64 (lentP l x true).cell, .int .i64 (lentP l x true).tag] 35 ∧ w1.heap.size ≤ z1) (by kernel_rfl) (fun ws es hS => ?_) (fun τ wt hT => ?_)
  · refine Z82 0 rfl (by kernel_rfl) (by kernel_rfl) (by kernel_rfl) (by assumption) (fun w' hw' => Z56 rfl) ?_
    refine Z82 2 rfl (by kernel_rfl) (by kernel_rfl) (by kernel_rfl) (by assumption) (fun w' hw' => q_loadS (cs := [.int .i64 x.cell, .int .i64 x.tag]) rfl rfl (fun j u hu => by rw [Nat.zero_add]; exact ((hb.ext es).ext hw'.ext).cell hu)) ?_
    refine WH_two 1 9 rfl rfl (by kernel_rfl) ?_ ?_
    · refine WO_call rfl (toCellS_ret v l F _ (h.ext (e0.trans (es.trans (Ext.refl ws)))) hn) fun xr wr hxr => Z31 (at_held (((Ext.refl ws).trans hxr.2).chg []) ?_)
      have k1 := Ext.trans (Ext.refl ws) hxr.2
      have hSk1 := Ext.chg k1 []
      obtain ⟨Fr, hcr, _⟩ := hxr.ces
      refine WH_two 3 9 rfl rfl (by kernel_rfl) ?_ ?_
      · refine WO_call rfl (toPointer_ret x _) fun _ wp hpp => Z31 (at_held ((k1.trans hpp.2).chg []) ?_)
        obtain ⟨rfl, ep⟩ := hpp
        have k3 := Ext.trans k1 ep
        have hSk3 := Ext.chg k3 []
        replace hcr := hcr.ext ep
        refine WH_two 4 9 rfl rfl (by kernel_rfl) ?_ ?_
        · refine WO_call rfl (sBorrowCell_ret xr l Fr x _ hcr hn) fun _ wc hAA => Z31 (at_held (by obtain ⟨z0, _, hA⟩ := hAA; exact (k3.trans hA.2).chg []) ?_)
          obtain ⟨z0, rfl, hA⟩ := hAA
          have k4 := Ext.trans k3 hA.2
          have hSk4 := Ext.chg k4 []
          refine Z82 5 rfl (by kernel_rfl) (by kernel_rfl) (by kernel_rfl) (by assumption) (fun w' hw' => Z56 rfl) ?_
          refine Z82 6 rfl (by kernel_rfl) (by kernel_rfl) (by kernel_rfl) (by assumption) (fun w' hw' => Z56 rfl) ?_
          refine Z82 7 rfl (by kernel_rfl) (by kernel_rfl) (by kernel_rfl) (by assumption) (fun w' hw' => Z56 rfl) ?_
          refine Z82 8 rfl (by kernel_rfl) (by kernel_rfl) (by kernel_rfl) (by assumption) (fun w' hw' => Z56 rfl) ?_
          refine WH_one 9 rfl (by kernel_rfl) ?_
          refine WO_alloc fun wb hb2 eb2 zb2 => Z31 (at_held ((k4.trans eb2).chg []) ?_)
          have k9 := Ext.trans k4 eb2
          have hSk9 := Ext.chg k9 []
          have sb := Ext.size_le k4
          refine Z82 10 rfl (by kernel_rfl) (by kernel_rfl) (by kernel_rfl) (by assumption) (fun w' hw' => Z56 rfl) ?_
          refine WH_one 11 rfl (by kernel_rfl) (WO_storeS (k := 2) (vs := [.int .i64 (lentP l x true).cell, .int .i64 (lentP l x true).tag]) rfl rfl rfl (by intro v hv; simp at hv; rcases hv with rfl | rfl <;> rfl) hb2 (by decide) fun we hbe oe => Z31 (at_held ((k9.only oe sb).chg []) ?_))
          have eE := Ext.only k9 oe sb
          have hSE := Ext.chg eE []
          refine Z82 12 rfl (by kernel_rfl) (by kernel_rfl) (by kernel_rfl) (by assumption) (fun w' hw' => Z56 rfl) ?_
          exact WH_doneE (τ := [(0, v), (3, .pointer (some ⟨w.heap.size, 0, none⟩)), (6, z0), (7, _), (8, .int .i64 (lentC l x true))]) (by kernel_rfl) (by repeat (first | exact True.intro | refine And.intro rfl ?_)) ⟨z0, _, rfl, hA.chg (Chg.trans (Ext.chg eb2 _) oe.chg) (by have := Ext.size_le eb2; have := Ext.size_le es; have := Ext.size_le k3; have := Ext.size_le k9; intro b hbb; rw [List.mem_singleton] at hbb; subst hbb; omega) (by have := Ext.size_le es; have := Ext.size_le k3; have := Ext.size_le k9; have := hA.2.size_le; omega) (es.trans eE), hbe, by have := Ext.size_le es; omega⟩
        · refine WO_alloc fun wb hb2 eb2 zb2 => Z31 (at_held ((k3.trans eb2).chg []) ?_)
          have k9 := Ext.trans k3 eb2
          have hSk9 := Ext.chg k9 []
          have sb := Ext.size_le k3
          replace hcr := hcr.ext eb2
          have hlt := hb2.lt
          refine WH_one 4 rfl (by kernel_rfl) ?_
          refine WO_call rfl (sBorrowCell_ret xr l Fr x _ hcr hn) fun _ wc hAA => Z31 (at_held (by obtain ⟨z0, _, hA⟩ := hAA; exact (k9.trans hA.2).chg []) ?_)
          obtain ⟨z0, rfl, hA⟩ := hAA
          have k4 := Ext.trans k9 hA.2
          have hSk4 := Ext.chg k4 []
          replace hb2 := hb2.ext hA.2
          refine Z82 5 rfl (by kernel_rfl) (by kernel_rfl) (by kernel_rfl) (by assumption) (fun w' hw' => Z56 rfl) ?_
          refine Z82 6 rfl (by kernel_rfl) (by kernel_rfl) (by kernel_rfl) (by assumption) (fun w' hw' => Z56 rfl) ?_
          refine Z82 7 rfl (by kernel_rfl) (by kernel_rfl) (by kernel_rfl) (by assumption) (fun w' hw' => Z56 rfl) ?_
          refine Z82 8 rfl (by kernel_rfl) (by kernel_rfl) (by kernel_rfl) (by assumption) (fun w' hw' => Z56 rfl) ?_
          refine Z82 10 rfl (by kernel_rfl) (by kernel_rfl) (by kernel_rfl) (by assumption) (fun w' hw' => Z56 rfl) ?_
          refine WH_one 11 rfl (by kernel_rfl) (WO_storeS (k := 2) (vs := [.int .i64 (lentP l x true).cell, .int .i64 (lentP l x true).tag]) rfl rfl rfl (by intro v hv; simp at hv; rcases hv with rfl | rfl <;> rfl) hb2 (by decide) fun we hbe oe => Z31 (at_held ((k4.only oe sb).chg []) ?_))
          have eE := Ext.only k4 oe sb
          have hSE := Ext.chg eE []
          refine Z82 12 rfl (by kernel_rfl) (by kernel_rfl) (by kernel_rfl) (by assumption) (fun w' hw' => Z56 rfl) ?_
          exact WH_doneE (τ := [(0, v), (3, .pointer (some ⟨w.heap.size, 0, none⟩)), (6, z0), (7, _), (8, .int .i64 (lentC l x true))]) (by kernel_rfl) (by repeat (first | exact True.intro | refine And.intro rfl ?_)) ⟨z0, _, rfl, hA.chg (Chg.trans (Ext.chg (Ext.refl _) _) oe.chg) (by have := Ext.size_le es; have := Ext.size_le k3; have := Ext.size_le k9; intro b hbb; rw [List.mem_singleton] at hbb; subst hbb; omega) (by have := Ext.size_le es; have := Ext.size_le k3; have := Ext.size_le k9; have := hA.2.size_le; omega) (es.trans eE), hbe, by have := Ext.size_le es; omega⟩
      · refine WO_alloc fun wb hb2 eb2 zb2 => Z31 (at_held ((k1.trans eb2).chg []) ?_)
        have k9 := Ext.trans k1 eb2
        have hSk9 := Ext.chg k9 []
        have sb := Ext.size_le k1
        replace hcr := hcr.ext eb2
        have hlt := hb2.lt
        refine WH_one 3 rfl (by kernel_rfl) ?_
        refine WO_call rfl (toPointer_ret x _) fun _ wp hpp => Z31 (at_held ((k9.trans hpp.2).chg []) ?_)
        obtain ⟨rfl, ep⟩ := hpp
        have k3 := Ext.trans k9 ep
        have hSk3 := Ext.chg k3 []
        replace hcr := hcr.ext ep
        refine WH_one 4 rfl (by kernel_rfl) ?_
        refine WO_call rfl (sBorrowCell_ret xr l Fr x _ hcr hn) fun _ wc hAA => Z31 (at_held (by obtain ⟨z0, _, hA⟩ := hAA; exact (k3.trans hA.2).chg []) ?_)
        obtain ⟨z0, rfl, hA⟩ := hAA
        have k4 := Ext.trans k3 hA.2
        have hSk4 := Ext.chg k4 []
        replace hb2 := (hb2.ext ep).ext hA.2
        have hlt2 := Ext.size_le ep
        refine Z82 5 rfl (by kernel_rfl) (by kernel_rfl) (by kernel_rfl) (by assumption) (fun w' hw' => Z56 rfl) ?_
        refine Z82 6 rfl (by kernel_rfl) (by kernel_rfl) (by kernel_rfl) (by assumption) (fun w' hw' => Z56 rfl) ?_
        refine Z82 7 rfl (by kernel_rfl) (by kernel_rfl) (by kernel_rfl) (by assumption) (fun w' hw' => Z56 rfl) ?_
        refine Z82 8 rfl (by kernel_rfl) (by kernel_rfl) (by kernel_rfl) (by assumption) (fun w' hw' => Z56 rfl) ?_
        refine Z82 10 rfl (by kernel_rfl) (by kernel_rfl) (by kernel_rfl) (by assumption) (fun w' hw' => Z56 rfl) ?_
        refine WH_one 11 rfl (by kernel_rfl) (WO_storeS (k := 2) (vs := [.int .i64 (lentP l x true).cell, .int .i64 (lentP l x true).tag]) rfl rfl rfl (by intro v hv; simp at hv; rcases hv with rfl | rfl <;> rfl) hb2 (by decide) fun we hbe oe => Z31 (at_held ((k4.only oe sb).chg []) ?_))
        have eE := Ext.only k4 oe sb
        have hSE := Ext.chg eE []
        refine Z82 12 rfl (by kernel_rfl) (by kernel_rfl) (by kernel_rfl) (by assumption) (fun w' hw' => Z56 rfl) ?_
        exact WH_doneE (τ := [(0, v), (3, .pointer (some ⟨w.heap.size, 0, none⟩)), (6, z0), (7, _), (8, .int .i64 (lentC l x true))]) (by kernel_rfl) (by repeat (first | exact True.intro | refine And.intro rfl ?_)) ⟨z0, _, rfl, hA.chg (Chg.trans (Ext.chg (Ext.refl _) _) oe.chg) (by have := Ext.size_le es; have := Ext.size_le k3; have := Ext.size_le k9; intro b hbb; rw [List.mem_singleton] at hbb; subst hbb; omega) (by have := Ext.size_le es; have := Ext.size_le k3; have := Ext.size_le k9; have := hA.2.size_le; omega) (es.trans eE), hbe, by have := Ext.size_le es; omega⟩
    · refine WO_alloc fun wb hb2 eb2 zb2 => Z31 (at_held (((Ext.refl ws).trans eb2).chg []) ?_)
      have k9 := Ext.trans (Ext.refl ws) eb2
      have hSk9 := Ext.chg k9 []
      have sb := Ext.size_le (Ext.refl ws)
      have hlt := hb2.lt
      refine WH_one 1 rfl (by kernel_rfl) ?_
      refine WO_call rfl (toCellS_ret v l F _ (h.ext (e0.trans (es.trans k9))) hn) fun xr wr hxr => Z31 (at_held ((k9.trans hxr.2).chg []) ?_)
      have k1 := Ext.trans k9 hxr.2
      have hSk1 := Ext.chg k1 []
      obtain ⟨Fr, hcr, _⟩ := hxr.ces
      refine WH_one 3 rfl (by kernel_rfl) ?_
      refine WO_call rfl (toPointer_ret x _) fun _ wp hpp => Z31 (at_held ((k1.trans hpp.2).chg []) ?_)
      obtain ⟨rfl, ep⟩ := hpp
      have k3 := Ext.trans k1 ep
      have hSk3 := Ext.chg k3 []
      replace hcr := hcr.ext ep
      refine WH_one 4 rfl (by kernel_rfl) ?_
      refine WO_call rfl (sBorrowCell_ret xr l Fr x _ hcr hn) fun _ wc hAA => Z31 (at_held (by obtain ⟨z0, _, hA⟩ := hAA; exact (k3.trans hA.2).chg []) ?_)
      obtain ⟨z0, rfl, hA⟩ := hAA
      have k4 := Ext.trans k3 hA.2
      have hSk4 := Ext.chg k4 []
      replace hb2 := ((hb2.ext hxr.2).ext ep).ext hA.2
      have hlt2 := Nat.le_trans (Ext.size_le hxr.2) (Ext.size_le ep)
      refine Z82 5 rfl (by kernel_rfl) (by kernel_rfl) (by kernel_rfl) (by assumption) (fun w' hw' => Z56 rfl) ?_
      refine Z82 6 rfl (by kernel_rfl) (by kernel_rfl) (by kernel_rfl) (by assumption) (fun w' hw' => Z56 rfl) ?_
      refine Z82 7 rfl (by kernel_rfl) (by kernel_rfl) (by kernel_rfl) (by assumption) (fun w' hw' => Z56 rfl) ?_
      refine Z82 8 rfl (by kernel_rfl) (by kernel_rfl) (by kernel_rfl) (by assumption) (fun w' hw' => Z56 rfl) ?_
      refine Z82 10 rfl (by kernel_rfl) (by kernel_rfl) (by kernel_rfl) (by assumption) (fun w' hw' => Z56 rfl) ?_
      refine WH_one 11 rfl (by kernel_rfl) (WO_storeS (k := 2) (vs := [.int .i64 (lentP l x true).cell, .int .i64 (lentP l x true).tag]) rfl rfl rfl (by intro v hv; simp at hv; rcases hv with rfl | rfl <;> rfl) hb2 (by decide) fun we hbe oe => Z31 (at_held ((k4.only oe sb).chg []) ?_))
      have eE := Ext.only k4 oe sb
      have hSE := Ext.chg eE []
      refine Z82 12 rfl (by kernel_rfl) (by kernel_rfl) (by kernel_rfl) (by assumption) (fun w' hw' => Z56 rfl) ?_
      exact WH_doneE (τ := [(0, v), (3, .pointer (some ⟨w.heap.size, 0, none⟩)), (6, z0), (7, _), (8, .int .i64 (lentC l x true))]) (by kernel_rfl) (by repeat (first | exact True.intro | refine And.intro rfl ?_)) ⟨z0, _, rfl, hA.chg (Chg.trans (Ext.chg (Ext.refl _) _) oe.chg) (by have := Ext.size_le es; have := Ext.size_le k3; have := Ext.size_le k9; intro b hbb; rw [List.mem_singleton] at hbb; subst hbb; omega) (by have := Ext.size_le es; have := Ext.size_le k3; have := Ext.size_le k9; have := hA.2.size_le; omega) (es.trans eE), hbe, by have := Ext.size_le es; omega⟩
  obtain ⟨a0, bp, rfl, hA, hp, hpB⟩ := hT
  have ea := hA.2
  have hplt := hp.lt
  replace e0 := e0.trans ea
  replace hb := hb.ext ea
  have := Ext.size_le ea
  have ha := hA.own
  repeat (first | (refine Z0 ?_; first | refine Z1 rfl ?_ | (refine Z2 ?_; first | refine Z3 rfl rfl (by decide) ?_ | refine Z4 rfl rfl (by decide) ?_ | refine Z5 rfl rfl ?_) | (refine Z6 ?_; first | refine Z7 rfl rfl ?_ | refine Z8 rfl rfl ?_) | (refine Z9 ?_; first | refine Z10 rfl (by assumption) (by rfl) ?_ | refine Z11 rfl (by assumption) ?_) | (refine Z12 ?_; first | refine Z13 (Z14 rfl (by decide) rfl) ?_ | refine Z13 (Z15 rfl (by decide) rfl) ?_) | (refine Z16 ?_; first | refine Z17 rfl ?_ | refine Z18 rfl ?_) | (refine Z19 ?_; first | refine Z20 rfl rfl (by omega) ?_ | refine Z21 rfl rfl (by omega) ?_ | refine Z22 rfl rfl (by omega) ?_ | refine Z23 rfl rfl (by omega) (by omega) ?_ | refine Z24 rfl rfl (by omega) (by omega) (by omega) ?_ | refine Z13 (Z25 rfl rfl) ?_ | refine Z13 (Z26 rfl rfl) ?_) | (refine Z27 ?_; refine Z13 (Z28 rfl (Z53 ⟨by omega, by omega⟩)) ?_) | (refine Z29 ?_; refine Z13 (Z30 rfl (by rfl) (by simp only [Z84, List.set_cons_zero, List.set_cons_succ]; rfl)) ?_) | refine Z31 ?_) | (refine Z32 ?_; first | refine Z33 ?_ | refine Z34 ?_ | refine Z35 ?_ | refine Z36 ?_ | refine Z37 ?_ | refine Z38 rfl ?_ | refine Z39 ?_ | refine Z40 ?_ | refine Z41 ?_) | (refine Z42 ?_; first | refine Z43 ?_ | refine Z44 ?_ | refine Z45 ?_ | refine Z46 ?_ | refine Z47 ?_ | refine Z48 ?_ | refine Z49 rfl (by decide) ?_ | refine Z50 rfl (by decide) ?_))
  refine WO_call rfl (toCellS_ret v l F _ (h.ext e0) hn) ?_
  rintro xr wr hxr
  have er := hxr.2
  replace e0 := e0.trans er
  try replace ha := Own.ext ha er
  try replace hx := Own.ext hx er
  try replace hg := Own.ext hg er
  try replace hp := Blk.ext hp er
  try replace hq := Blk.ext hq er
  try replace hb := Blk.ext hb er
  have := Ext.size_le er
  have hx := hxr.own
  obtain ⟨Fr, hcr, _⟩ := hxr.ces
  repeat (first | (refine Z0 ?_; first | refine Z1 rfl ?_ | (refine Z2 ?_; first | refine Z3 rfl rfl (by decide) ?_ | refine Z4 rfl rfl (by decide) ?_ | refine Z5 rfl rfl ?_) | (refine Z6 ?_; first | refine Z7 rfl rfl ?_ | refine Z8 rfl rfl ?_) | (refine Z9 ?_; first | refine Z10 rfl (by assumption) (by rfl) ?_ | refine Z11 rfl (by assumption) ?_) | (refine Z12 ?_; first | refine Z13 (Z14 rfl (by decide) rfl) ?_ | refine Z13 (Z15 rfl (by decide) rfl) ?_) | (refine Z16 ?_; first | refine Z17 rfl ?_ | refine Z18 rfl ?_) | (refine Z19 ?_; first | refine Z20 rfl rfl (by omega) ?_ | refine Z21 rfl rfl (by omega) ?_ | refine Z22 rfl rfl (by omega) ?_ | refine Z23 rfl rfl (by omega) (by omega) ?_ | refine Z24 rfl rfl (by omega) (by omega) (by omega) ?_ | refine Z13 (Z25 rfl rfl) ?_ | refine Z13 (Z26 rfl rfl) ?_) | (refine Z27 ?_; refine Z13 (Z28 rfl (Z53 ⟨by omega, by omega⟩)) ?_) | (refine Z29 ?_; refine Z13 (Z30 rfl (by rfl) (by simp only [Z84, List.set_cons_zero, List.set_cons_succ]; rfl)) ?_) | refine Z31 ?_) | (refine Z32 ?_; first | refine Z33 ?_ | refine Z34 ?_ | refine Z35 ?_ | refine Z36 ?_ | refine Z37 ?_ | refine Z38 rfl ?_ | refine Z39 ?_ | refine Z40 ?_ | refine Z41 ?_) | (refine Z42 ?_; first | refine Z43 ?_ | refine Z44 ?_ | refine Z45 ?_ | refine Z46 ?_ | refine Z47 ?_ | refine Z48 ?_ | refine Z49 rfl (by decide) ?_ | refine Z50 rfl (by decide) ?_))
  refine WO_loadSB rfl hb rfl ?_
  refine WO_call rfl (toPointer_ret x _) ?_
  rintro _ wp ⟨rfl, ep⟩
  replace e0 := e0.trans ep
  try replace ha := Own.ext ha ep
  try replace hx := Own.ext hx ep
  try replace hg := Own.ext hg ep
  try replace hp := Blk.ext hp ep
  try replace hq := Blk.ext hq ep
  try replace hb := Blk.ext hb ep
  have := Ext.size_le ep
  repeat (first | (refine Z0 ?_; first | refine Z1 rfl ?_ | (refine Z2 ?_; first | refine Z3 rfl rfl (by decide) ?_ | refine Z4 rfl rfl (by decide) ?_ | refine Z5 rfl rfl ?_) | (refine Z6 ?_; first | refine Z7 rfl rfl ?_ | refine Z8 rfl rfl ?_) | (refine Z9 ?_; first | refine Z10 rfl (by assumption) (by rfl) ?_ | refine Z11 rfl (by assumption) ?_) | (refine Z12 ?_; first | refine Z13 (Z14 rfl (by decide) rfl) ?_ | refine Z13 (Z15 rfl (by decide) rfl) ?_) | (refine Z16 ?_; first | refine Z17 rfl ?_ | refine Z18 rfl ?_) | (refine Z19 ?_; first | refine Z20 rfl rfl (by omega) ?_ | refine Z21 rfl rfl (by omega) ?_ | refine Z22 rfl rfl (by omega) ?_ | refine Z23 rfl rfl (by omega) (by omega) ?_ | refine Z24 rfl rfl (by omega) (by omega) (by omega) ?_ | refine Z13 (Z25 rfl rfl) ?_ | refine Z13 (Z26 rfl rfl) ?_) | (refine Z27 ?_; refine Z13 (Z28 rfl (Z53 ⟨by omega, by omega⟩)) ?_) | (refine Z29 ?_; refine Z13 (Z30 rfl (by rfl) (by simp only [Z84, List.set_cons_zero, List.set_cons_succ]; rfl)) ?_) | refine Z31 ?_) | (refine Z32 ?_; first | refine Z33 ?_ | refine Z34 ?_ | refine Z35 ?_ | refine Z36 ?_ | refine Z37 ?_ | refine Z38 rfl ?_ | refine Z39 ?_ | refine Z40 ?_ | refine Z41 ?_) | (refine Z42 ?_; first | refine Z43 ?_ | refine Z44 ?_ | refine Z45 ?_ | refine Z46 ?_ | refine Z47 ?_ | refine Z48 ?_ | refine Z49 rfl (by decide) ?_ | refine Z50 rfl (by decide) ?_))
  refine WO_call rfl (BorrowCell_ret xr l Fr x wp (hcr.ext ep) hn) ?_
  rintro _ wd ⟨g0, rfl, hG⟩
  have ed := hG.2
  replace e0 := e0.trans ed
  try replace ha := Own.ext ha ed
  try replace hx := Own.ext hx ed
  try replace hg := Own.ext hg ed
  try replace hp := Blk.ext hp ed
  try replace hq := Blk.ext hq ed
  try replace hb := Blk.ext hb ed
  have := Ext.size_le ed
  have hg := hG.own
  repeat (first | (refine Z0 ?_; first | refine Z1 rfl ?_ | (refine Z2 ?_; first | refine Z3 rfl rfl (by decide) ?_ | refine Z4 rfl rfl (by decide) ?_ | refine Z5 rfl rfl ?_) | (refine Z6 ?_; first | refine Z7 rfl rfl ?_ | refine Z8 rfl rfl ?_) | (refine Z9 ?_; first | refine Z10 rfl (by assumption) (by rfl) ?_ | refine Z11 rfl (by assumption) ?_) | (refine Z12 ?_; first | refine Z13 (Z14 rfl (by decide) rfl) ?_ | refine Z13 (Z15 rfl (by decide) rfl) ?_) | (refine Z16 ?_; first | refine Z17 rfl ?_ | refine Z18 rfl ?_) | (refine Z19 ?_; first | refine Z20 rfl rfl (by omega) ?_ | refine Z21 rfl rfl (by omega) ?_ | refine Z22 rfl rfl (by omega) ?_ | refine Z23 rfl rfl (by omega) (by omega) ?_ | refine Z24 rfl rfl (by omega) (by omega) (by omega) ?_ | refine Z13 (Z25 rfl rfl) ?_ | refine Z13 (Z26 rfl rfl) ?_) | (refine Z27 ?_; refine Z13 (Z28 rfl (Z53 ⟨by omega, by omega⟩)) ?_) | (refine Z29 ?_; refine Z13 (Z30 rfl (by rfl) (by simp only [Z84, List.set_cons_zero, List.set_cons_succ]; rfl)) ?_) | refine Z31 ?_) | (refine Z32 ?_; first | refine Z33 ?_ | refine Z34 ?_ | refine Z35 ?_ | refine Z36 ?_ | refine Z37 ?_ | refine Z38 rfl ?_ | refine Z39 ?_ | refine Z40 ?_ | refine Z41 ?_) | (refine Z42 ?_; first | refine Z43 ?_ | refine Z44 ?_ | refine Z45 ?_ | refine Z46 ?_ | refine Z47 ?_ | refine Z48 ?_ | refine Z49 rfl (by decide) ?_ | refine Z50 rfl (by decide) ?_))
  refine WO_alloc fun we hq ee ze => ?_
  repeat (first | (refine Z0 ?_; first | refine Z1 rfl ?_ | (refine Z2 ?_; first | refine Z3 rfl rfl (by decide) ?_ | refine Z4 rfl rfl (by decide) ?_ | refine Z5 rfl rfl ?_) | (refine Z6 ?_; first | refine Z7 rfl rfl ?_ | refine Z8 rfl rfl ?_) | (refine Z9 ?_; first | refine Z10 rfl (by assumption) (by rfl) ?_ | refine Z11 rfl (by assumption) ?_) | (refine Z12 ?_; first | refine Z13 (Z14 rfl (by decide) rfl) ?_ | refine Z13 (Z15 rfl (by decide) rfl) ?_) | (refine Z16 ?_; first | refine Z17 rfl ?_ | refine Z18 rfl ?_) | (refine Z19 ?_; first | refine Z20 rfl rfl (by omega) ?_ | refine Z21 rfl rfl (by omega) ?_ | refine Z22 rfl rfl (by omega) ?_ | refine Z23 rfl rfl (by omega) (by omega) ?_ | refine Z24 rfl rfl (by omega) (by omega) (by omega) ?_ | refine Z13 (Z25 rfl rfl) ?_ | refine Z13 (Z26 rfl rfl) ?_) | (refine Z27 ?_; refine Z13 (Z28 rfl (Z53 ⟨by omega, by omega⟩)) ?_) | (refine Z29 ?_; refine Z13 (Z30 rfl (by rfl) (by simp only [Z84, List.set_cons_zero, List.set_cons_succ]; rfl)) ?_) | refine Z31 ?_) | (refine Z32 ?_; first | refine Z33 ?_ | refine Z34 ?_ | refine Z35 ?_ | refine Z36 ?_ | refine Z37 ?_ | refine Z38 rfl ?_ | refine Z39 ?_ | refine Z40 ?_ | refine Z41 ?_) | (refine Z42 ?_; first | refine Z43 ?_ | refine Z44 ?_ | refine Z45 ?_ | refine Z46 ?_ | refine Z47 ?_ | refine Z48 ?_ | refine Z49 rfl (by decide) ?_ | refine Z50 rfl (by decide) ?_))
  refine WO_storeS (k := 2) (vs := [.int .i64 (lentP l x true).cell, .int .i64 (lentP l x true).tag]) rfl rfl rfl (by intro v hv; simp at hv; rcases hv with rfl | rfl <;> rfl) hq (by decide) fun wf hqf of' => ?_
  clear hq
  have ef := ee.only of' (Nat.le_refl _)
  replace e0 := e0.trans ef
  try replace ha := Own.ext ha ef
  try replace hx := Own.ext hx ef
  try replace hg := Own.ext hg ef
  try replace hp := Blk.ext hp ef
  try replace hq := Blk.ext hq ef
  try replace hb := Blk.ext hb ef
  have := Ext.size_le ef
  have hq : Blk wf wd.heap.size [.int .i64 (lentP l x true).cell, .int .i64 (lentP l x true).tag] _ := hqf
  repeat (first | (refine Z0 ?_; first | refine Z1 rfl ?_ | (refine Z2 ?_; first | refine Z3 rfl rfl (by decide) ?_ | refine Z4 rfl rfl (by decide) ?_ | refine Z5 rfl rfl ?_) | (refine Z6 ?_; first | refine Z7 rfl rfl ?_ | refine Z8 rfl rfl ?_) | (refine Z9 ?_; first | refine Z10 rfl (by assumption) (by rfl) ?_ | refine Z11 rfl (by assumption) ?_) | (refine Z12 ?_; first | refine Z13 (Z14 rfl (by decide) rfl) ?_ | refine Z13 (Z15 rfl (by decide) rfl) ?_) | (refine Z16 ?_; first | refine Z17 rfl ?_ | refine Z18 rfl ?_) | (refine Z19 ?_; first | refine Z20 rfl rfl (by omega) ?_ | refine Z21 rfl rfl (by omega) ?_ | refine Z22 rfl rfl (by omega) ?_ | refine Z23 rfl rfl (by omega) (by omega) ?_ | refine Z24 rfl rfl (by omega) (by omega) (by omega) ?_ | refine Z13 (Z25 rfl rfl) ?_ | refine Z13 (Z26 rfl rfl) ?_) | (refine Z27 ?_; refine Z13 (Z28 rfl (Z53 ⟨by omega, by omega⟩)) ?_) | (refine Z29 ?_; refine Z13 (Z30 rfl (by rfl) (by simp only [Z84, List.set_cons_zero, List.set_cons_succ]; rfl)) ?_) | refine Z31 ?_) | (refine Z32 ?_; first | refine Z33 ?_ | refine Z34 ?_ | refine Z35 ?_ | refine Z36 ?_ | refine Z37 ?_ | refine Z38 rfl ?_ | refine Z39 ?_ | refine Z40 ?_ | refine Z41 ?_) | (refine Z42 ?_; first | refine Z43 ?_ | refine Z44 ?_ | refine Z45 ?_ | refine Z46 ?_ | refine Z47 ?_ | refine Z48 ?_ | refine Z49 rfl (by decide) ?_ | refine Z50 rfl (by decide) ?_))
  obtain ⟨F1, h1⟩ := hg.ces
  obtain ⟨F2, h2⟩ := ha.ces
  refine WO_call rfl (eqCellS_ret _ _ _ _ F1 F2 _ h1 h2) ?_
  rintro _ wq ⟨rfl, eq⟩
  rw [decide_eq_true rfl]
  clear h1 h2
  replace e0 := e0.trans eq
  try replace ha := Own.ext ha eq
  try replace hx := Own.ext hx eq
  try replace hg := Own.ext hg eq
  try replace hp := Blk.ext hp eq
  try replace hq := Blk.ext hq eq
  try replace hb := Blk.ext hb eq
  have := Ext.size_le eq
  repeat (first | (refine Z0 ?_; first | refine Z1 rfl ?_ | (refine Z2 ?_; first | refine Z3 rfl rfl (by decide) ?_ | refine Z4 rfl rfl (by decide) ?_ | refine Z5 rfl rfl ?_) | (refine Z6 ?_; first | refine Z7 rfl rfl ?_ | refine Z8 rfl rfl ?_) | (refine Z9 ?_; first | refine Z10 rfl (by assumption) (by rfl) ?_ | refine Z11 rfl (by assumption) ?_) | (refine Z12 ?_; first | refine Z13 (Z14 rfl (by decide) rfl) ?_ | refine Z13 (Z15 rfl (by decide) rfl) ?_) | (refine Z16 ?_; first | refine Z17 rfl ?_ | refine Z18 rfl ?_) | (refine Z19 ?_; first | refine Z20 rfl rfl (by omega) ?_ | refine Z21 rfl rfl (by omega) ?_ | refine Z22 rfl rfl (by omega) ?_ | refine Z23 rfl rfl (by omega) (by omega) ?_ | refine Z24 rfl rfl (by omega) (by omega) (by omega) ?_ | refine Z13 (Z25 rfl rfl) ?_ | refine Z13 (Z26 rfl rfl) ?_) | (refine Z27 ?_; refine Z13 (Z28 rfl (Z53 ⟨by omega, by omega⟩)) ?_) | (refine Z29 ?_; refine Z13 (Z30 rfl (by rfl) (by simp only [Z84, List.set_cons_zero, List.set_cons_succ]; rfl)) ?_) | refine Z31 ?_) | (refine Z32 ?_; first | refine Z33 ?_ | refine Z34 ?_ | refine Z35 ?_ | refine Z36 ?_ | refine Z37 ?_ | refine Z38 rfl ?_ | refine Z39 ?_ | refine Z40 ?_ | refine Z41 ?_) | (refine Z42 ?_; first | refine Z43 ?_ | refine Z44 ?_ | refine Z45 ?_ | refine Z46 ?_ | refine Z47 ?_ | refine Z48 ?_ | refine Z49 rfl (by decide) ?_ | refine Z50 rfl (by decide) ?_))
  refine WO_loadSB rfl hq rfl ?_
  repeat (first | (refine Z0 ?_; first | refine Z1 rfl ?_ | (refine Z2 ?_; first | refine Z3 rfl rfl (by decide) ?_ | refine Z4 rfl rfl (by decide) ?_ | refine Z5 rfl rfl ?_) | (refine Z6 ?_; first | refine Z7 rfl rfl ?_ | refine Z8 rfl rfl ?_) | (refine Z9 ?_; first | refine Z10 rfl (by assumption) (by rfl) ?_ | refine Z11 rfl (by assumption) ?_) | (refine Z12 ?_; first | refine Z13 (Z14 rfl (by decide) rfl) ?_ | refine Z13 (Z15 rfl (by decide) rfl) ?_) | (refine Z16 ?_; first | refine Z17 rfl ?_ | refine Z18 rfl ?_) | (refine Z19 ?_; first | refine Z20 rfl rfl (by omega) ?_ | refine Z21 rfl rfl (by omega) ?_ | refine Z22 rfl rfl (by omega) ?_ | refine Z23 rfl rfl (by omega) (by omega) ?_ | refine Z24 rfl rfl (by omega) (by omega) (by omega) ?_ | refine Z13 (Z25 rfl rfl) ?_ | refine Z13 (Z26 rfl rfl) ?_) | (refine Z27 ?_; refine Z13 (Z28 rfl (Z53 ⟨by omega, by omega⟩)) ?_) | (refine Z29 ?_; refine Z13 (Z30 rfl (by rfl) (by simp only [Z84, List.set_cons_zero, List.set_cons_succ]; rfl)) ?_) | refine Z31 ?_) | (refine Z32 ?_; first | refine Z33 ?_ | refine Z34 ?_ | refine Z35 ?_ | refine Z36 ?_ | refine Z37 ?_ | refine Z38 rfl ?_ | refine Z39 ?_ | refine Z40 ?_ | refine Z41 ?_) | (refine Z42 ?_; first | refine Z43 ?_ | refine Z44 ?_ | refine Z45 ?_ | refine Z46 ?_ | refine Z47 ?_ | refine Z48 ?_ | refine Z49 rfl (by decide) ?_ | refine Z50 rfl (by decide) ?_))
  refine WO_loadSB rfl hp rfl ?_
  repeat (first | (refine Z0 ?_; first | refine Z1 rfl ?_ | (refine Z2 ?_; first | refine Z3 rfl rfl (by decide) ?_ | refine Z4 rfl rfl (by decide) ?_ | refine Z5 rfl rfl ?_) | (refine Z6 ?_; first | refine Z7 rfl rfl ?_ | refine Z8 rfl rfl ?_) | (refine Z9 ?_; first | refine Z10 rfl (by assumption) (by rfl) ?_ | refine Z11 rfl (by assumption) ?_) | (refine Z12 ?_; first | refine Z13 (Z14 rfl (by decide) rfl) ?_ | refine Z13 (Z15 rfl (by decide) rfl) ?_) | (refine Z16 ?_; first | refine Z17 rfl ?_ | refine Z18 rfl ?_) | (refine Z19 ?_; first | refine Z20 rfl rfl (by omega) ?_ | refine Z21 rfl rfl (by omega) ?_ | refine Z22 rfl rfl (by omega) ?_ | refine Z23 rfl rfl (by omega) (by omega) ?_ | refine Z24 rfl rfl (by omega) (by omega) (by omega) ?_ | refine Z13 (Z25 rfl rfl) ?_ | refine Z13 (Z26 rfl rfl) ?_) | (refine Z27 ?_; refine Z13 (Z28 rfl (Z53 ⟨by omega, by omega⟩)) ?_) | (refine Z29 ?_; refine Z13 (Z30 rfl (by rfl) (by simp only [Z84, List.set_cons_zero, List.set_cons_succ]; rfl)) ?_) | refine Z31 ?_) | (refine Z32 ?_; first | refine Z33 ?_ | refine Z34 ?_ | refine Z35 ?_ | refine Z36 ?_ | refine Z37 ?_ | refine Z38 rfl ?_ | refine Z39 ?_ | refine Z40 ?_ | refine Z41 ?_) | (refine Z42 ?_; first | refine Z43 ?_ | refine Z44 ?_ | refine Z45 ?_ | refine Z46 ?_ | refine Z47 ?_ | refine Z48 ?_ | refine Z49 rfl (by decide) ?_ | refine Z50 rfl (by decide) ?_))
  refine WO_call rfl (eqPointer_ret _ _ _) ?_
  rintro _ wq ⟨rfl, eq⟩
  rw [decide_eq_true rfl]
  replace e0 := e0.trans eq
  try replace ha := Own.ext ha eq
  try replace hx := Own.ext hx eq
  try replace hg := Own.ext hg eq
  try replace hp := Blk.ext hp eq
  try replace hq := Blk.ext hq eq
  try replace hb := Blk.ext hb eq
  have := Ext.size_le eq
  repeat' (first | (refine Z0 ?_; first | refine Z1 rfl ?_ | (refine Z2 ?_; first | refine Z3 rfl rfl (by decide) ?_ | refine Z4 rfl rfl (by decide) ?_ | refine Z5 rfl rfl ?_ | ((refine Z51 rfl rfl (fun c' hc' => ?_)); cases c' <;> (try simp only [decide_eq_true_eq, decide_eq_false_iff_not, beq_iff_eq, beq_eq_false_iff_ne, bne_iff_ne, bne_eq_false_iff_eq, ne_eq, gt_iff_lt, ge_iff_le, Int.not_lt, Int.not_le, Bool.not_eq_true', Bool.not_eq_false', Bool.not_true, Bool.not_false, reduceCtorEq, Decidable.not_not, not_true_eq_false, Bool.true_eq_false, Bool.false_eq_true] at hc') <;> (try (exfalso; omega)))) | (refine Z6 ?_; first | refine Z7 rfl rfl ?_ | refine Z8 rfl rfl ?_) | (refine Z9 ?_; first | refine Z10 rfl (by assumption) (by rfl) ?_ | refine Z11 rfl (by assumption) ?_) | (refine Z12 ?_; first | refine Z13 (Z14 rfl (by decide) rfl) ?_ | refine Z13 (Z15 rfl (by decide) rfl) ?_) | (refine Z16 ?_; first | refine Z17 rfl ?_ | refine Z18 rfl ?_) | (refine Z19 ?_; first | refine Z20 rfl rfl (by omega) ?_ | refine Z21 rfl rfl (by omega) ?_ | refine Z22 rfl rfl (by omega) ?_ | refine Z23 rfl rfl (by omega) (by omega) ?_ | refine Z24 rfl rfl (by omega) (by omega) (by omega) ?_ | refine Z13 (Z25 rfl rfl) ?_ | refine Z13 (Z26 rfl rfl) ?_) | (refine Z27 ?_; refine Z13 (Z28 rfl (Z53 ⟨by omega, by omega⟩)) ?_) | (refine Z29 ?_; refine Z13 (Z30 rfl (by rfl) (by simp only [Z84, List.set_cons_zero, List.set_cons_succ]; rfl)) ?_) | refine Z31 ?_) | (refine Z32 ?_; first | refine Z33 ?_ | refine Z34 ?_ | refine Z35 ?_ | refine Z36 ?_ | refine Z37 ?_ | refine Z38 rfl ?_ | refine Z39 ?_ | refine Z40 ?_ | refine Z41 ?_) | (refine Z42 ?_; first | refine Z43 ?_ | refine Z44 ?_ | refine Z45 ?_ | refine Z46 ?_ | refine Z47 ?_ | refine Z48 ?_ | refine Z49 rfl (by decide) ?_ | refine Z50 rfl (by decide) ?_ | ((refine Z52 rfl (fun hc' => ?_) (fun hc' => ?_)) <;> (try simp only [decide_eq_true_eq, decide_eq_false_iff_not, beq_iff_eq, beq_eq_false_iff_ne, bne_iff_ne, bne_eq_false_iff_eq, ne_eq, gt_iff_lt, ge_iff_le, Int.not_lt, Int.not_le, Bool.not_eq_true', Bool.not_eq_false', Bool.not_true, Bool.not_false, reduceCtorEq, Decidable.not_not, not_true_eq_false, Bool.true_eq_false, Bool.false_eq_true] at hc') <;> (try (exfalso; omega)))))
  refine WO_call rfl (toCellS_ret v l F _ (h.ext e0) hn) ?_
  rintro xr wr hxr
  have er := hxr.2
  replace e0 := e0.trans er
  try replace ha := Own.ext ha er
  try replace hx := Own.ext hx er
  try replace hg := Own.ext hg er
  try replace hp := Blk.ext hp er
  try replace hq := Blk.ext hq er
  try replace hb := Blk.ext hb er
  have := Ext.size_le er
  repeat (first | (refine Z0 ?_; first | refine Z1 rfl ?_ | (refine Z2 ?_; first | refine Z3 rfl rfl (by decide) ?_ | refine Z4 rfl rfl (by decide) ?_ | refine Z5 rfl rfl ?_) | (refine Z6 ?_; first | refine Z7 rfl rfl ?_ | refine Z8 rfl rfl ?_) | (refine Z9 ?_; first | refine Z10 rfl (by assumption) (by rfl) ?_ | refine Z11 rfl (by assumption) ?_) | (refine Z12 ?_; first | refine Z13 (Z14 rfl (by decide) rfl) ?_ | refine Z13 (Z15 rfl (by decide) rfl) ?_) | (refine Z16 ?_; first | refine Z17 rfl ?_ | refine Z18 rfl ?_) | (refine Z19 ?_; first | refine Z20 rfl rfl (by omega) ?_ | refine Z21 rfl rfl (by omega) ?_ | refine Z22 rfl rfl (by omega) ?_ | refine Z23 rfl rfl (by omega) (by omega) ?_ | refine Z24 rfl rfl (by omega) (by omega) (by omega) ?_ | refine Z13 (Z25 rfl rfl) ?_ | refine Z13 (Z26 rfl rfl) ?_) | (refine Z27 ?_; refine Z13 (Z28 rfl (Z53 ⟨by omega, by omega⟩)) ?_) | (refine Z29 ?_; refine Z13 (Z30 rfl (by rfl) (by simp only [Z84, List.set_cons_zero, List.set_cons_succ]; rfl)) ?_) | refine Z31 ?_) | (refine Z32 ?_; first | refine Z33 ?_ | refine Z34 ?_ | refine Z35 ?_ | refine Z36 ?_ | refine Z37 ?_ | refine Z38 rfl ?_ | refine Z39 ?_ | refine Z40 ?_ | refine Z41 ?_) | (refine Z42 ?_; first | refine Z43 ?_ | refine Z44 ?_ | refine Z45 ?_ | refine Z46 ?_ | refine Z47 ?_ | refine Z48 ?_ | refine Z49 rfl (by decide) ?_ | refine Z50 rfl (by decide) ?_))
  obtain ⟨Fr, hcr, _⟩ := hxr.ces
  obtain ⟨F1, h1⟩ := hx.ces
  obtain ⟨F2, h2⟩ := (⟨Fr, hcr⟩ : ∃ F, CeS _ _ _ F)
  refine WO_call rfl (eqCellS_ret _ _ _ _ F1 F2 _ h1 h2) ?_
  rintro _ wq ⟨rfl, eq⟩
  rw [decide_eq_true rfl]
  clear h1 h2
  replace e0 := e0.trans eq
  try replace ha := Own.ext ha eq
  try replace hx := Own.ext hx eq
  try replace hg := Own.ext hg eq
  try replace hp := Blk.ext hp eq
  try replace hq := Blk.ext hq eq
  try replace hb := Blk.ext hb eq
  have := Ext.size_le eq
  repeat (first | (refine Z0 ?_; first | refine Z1 rfl ?_ | (refine Z2 ?_; first | refine Z3 rfl rfl (by decide) ?_ | refine Z4 rfl rfl (by decide) ?_ | refine Z5 rfl rfl ?_) | (refine Z6 ?_; first | refine Z7 rfl rfl ?_ | refine Z8 rfl rfl ?_) | (refine Z9 ?_; first | refine Z10 rfl (by assumption) (by rfl) ?_ | refine Z11 rfl (by assumption) ?_) | (refine Z12 ?_; first | refine Z13 (Z14 rfl (by decide) rfl) ?_ | refine Z13 (Z15 rfl (by decide) rfl) ?_) | (refine Z16 ?_; first | refine Z17 rfl ?_ | refine Z18 rfl ?_) | (refine Z19 ?_; first | refine Z20 rfl rfl (by omega) ?_ | refine Z21 rfl rfl (by omega) ?_ | refine Z22 rfl rfl (by omega) ?_ | refine Z23 rfl rfl (by omega) (by omega) ?_ | refine Z24 rfl rfl (by omega) (by omega) (by omega) ?_ | refine Z13 (Z25 rfl rfl) ?_ | refine Z13 (Z26 rfl rfl) ?_) | (refine Z27 ?_; refine Z13 (Z28 rfl (Z53 ⟨by omega, by omega⟩)) ?_) | (refine Z29 ?_; refine Z13 (Z30 rfl (by rfl) (by simp only [Z84, List.set_cons_zero, List.set_cons_succ]; rfl)) ?_) | refine Z31 ?_) | (refine Z32 ?_; first | refine Z33 ?_ | refine Z34 ?_ | refine Z35 ?_ | refine Z36 ?_ | refine Z37 ?_ | refine Z38 rfl ?_ | refine Z39 ?_ | refine Z40 ?_ | refine Z41 ?_) | (refine Z42 ?_; first | refine Z43 ?_ | refine Z44 ?_ | refine Z45 ?_ | refine Z46 ?_ | refine Z47 ?_ | refine Z48 ?_ | refine Z49 rfl (by decide) ?_ | refine Z50 rfl (by decide) ?_))
  obtain ⟨Fx, hxr, hxn, hxb⟩ := hx
  refine WO_call rfl (markCellS_ret _ _ _ l Fx 1 _ hxr hxn (by decide) (kAt_all l hn).2) ?_
  rintro _ wm ⟨rfl, _, cm⟩
  replace cm := cm.toI hxb
  have hk1 := (kAt_all l hn).1
  replace e0 := e0.chgI cm (by omega)
  try replace ha := Own.chgI ha cm (by omega)
  try replace hx := Own.chgI hx cm (by omega)
  try replace hg := Own.chgI hg cm (by omega)
  try replace hp := Blk.chgI hp cm (by omega)
  try replace hq := Blk.chgI hq cm (by omega)
  try replace hb := Blk.chgI hb cm (by omega)
  have := ChgI.size cm
  repeat' (first | (refine Z0 ?_; first | refine Z1 rfl ?_ | (refine Z2 ?_; first | refine Z3 rfl rfl (by decide) ?_ | refine Z4 rfl rfl (by decide) ?_ | refine Z5 rfl rfl ?_ | ((refine Z51 rfl rfl (fun c' hc' => ?_)); cases c' <;> (try simp only [decide_eq_true_eq, decide_eq_false_iff_not, beq_iff_eq, beq_eq_false_iff_ne, bne_iff_ne, bne_eq_false_iff_eq, ne_eq, gt_iff_lt, ge_iff_le, Int.not_lt, Int.not_le, Bool.not_eq_true', Bool.not_eq_false', Bool.not_true, Bool.not_false, reduceCtorEq, Decidable.not_not, not_true_eq_false, Bool.true_eq_false, Bool.false_eq_true] at hc') <;> (try (exfalso; omega)))) | (refine Z6 ?_; first | refine Z7 rfl rfl ?_ | refine Z8 rfl rfl ?_) | (refine Z9 ?_; first | refine Z10 rfl (by assumption) (by rfl) ?_ | refine Z11 rfl (by assumption) ?_) | (refine Z12 ?_; first | refine Z13 (Z14 rfl (by decide) rfl) ?_ | refine Z13 (Z15 rfl (by decide) rfl) ?_) | (refine Z16 ?_; first | refine Z17 rfl ?_ | refine Z18 rfl ?_) | (refine Z19 ?_; first | refine Z20 rfl rfl (by omega) ?_ | refine Z21 rfl rfl (by omega) ?_ | refine Z22 rfl rfl (by omega) ?_ | refine Z23 rfl rfl (by omega) (by omega) ?_ | refine Z24 rfl rfl (by omega) (by omega) (by omega) ?_ | refine Z13 (Z25 rfl rfl) ?_ | refine Z13 (Z26 rfl rfl) ?_) | (refine Z27 ?_; refine Z13 (Z28 rfl (Z53 ⟨by omega, by omega⟩)) ?_) | (refine Z29 ?_; refine Z13 (Z30 rfl (by rfl) (by simp only [Z84, List.set_cons_zero, List.set_cons_succ]; rfl)) ?_) | refine Z31 ?_) | (refine Z32 ?_; first | refine Z33 ?_ | refine Z34 ?_ | refine Z35 ?_ | refine Z36 ?_ | refine Z37 ?_ | refine Z38 rfl ?_ | refine Z39 ?_ | refine Z40 ?_ | refine Z41 ?_) | (refine Z42 ?_; first | refine Z43 ?_ | refine Z44 ?_ | refine Z45 ?_ | refine Z46 ?_ | refine Z47 ?_ | refine Z48 ?_ | refine Z49 rfl (by decide) ?_ | refine Z50 rfl (by decide) ?_ | ((refine Z52 rfl (fun hc' => ?_) (fun hc' => ?_)) <;> (try simp only [decide_eq_true_eq, decide_eq_false_iff_not, beq_iff_eq, beq_eq_false_iff_ne, bne_iff_ne, bne_eq_false_iff_eq, ne_eq, gt_iff_lt, ge_iff_le, Int.not_lt, Int.not_le, Bool.not_eq_true', Bool.not_eq_false', Bool.not_true, Bool.not_false, reduceCtorEq, Decidable.not_not, not_true_eq_false, Bool.true_eq_false, Bool.false_eq_true] at hc') <;> (try (exfalso; omega)))))
  obtain ⟨F1, h1⟩ := hg.ces
  obtain ⟨F2, h2⟩ := ha.ces
  refine WO_call rfl (eqCellS_ret _ _ _ _ F1 F2 _ h1 h2) ?_
  rintro _ wq ⟨rfl, eq⟩
  rw [decide_eq_true rfl]
  clear h1 h2
  replace e0 := e0.trans eq
  try replace ha := Own.ext ha eq
  try replace hx := Own.ext hx eq
  try replace hg := Own.ext hg eq
  try replace hp := Blk.ext hp eq
  try replace hq := Blk.ext hq eq
  try replace hb := Blk.ext hb eq
  have := Ext.size_le eq
  repeat (first | (refine Z0 ?_; first | refine Z1 rfl ?_ | (refine Z2 ?_; first | refine Z3 rfl rfl (by decide) ?_ | refine Z4 rfl rfl (by decide) ?_ | refine Z5 rfl rfl ?_) | (refine Z6 ?_; first | refine Z7 rfl rfl ?_ | refine Z8 rfl rfl ?_) | (refine Z9 ?_; first | refine Z10 rfl (by assumption) (by rfl) ?_ | refine Z11 rfl (by assumption) ?_) | (refine Z12 ?_; first | refine Z13 (Z14 rfl (by decide) rfl) ?_ | refine Z13 (Z15 rfl (by decide) rfl) ?_) | (refine Z16 ?_; first | refine Z17 rfl ?_ | refine Z18 rfl ?_) | (refine Z19 ?_; first | refine Z20 rfl rfl (by omega) ?_ | refine Z21 rfl rfl (by omega) ?_ | refine Z22 rfl rfl (by omega) ?_ | refine Z23 rfl rfl (by omega) (by omega) ?_ | refine Z24 rfl rfl (by omega) (by omega) (by omega) ?_ | refine Z13 (Z25 rfl rfl) ?_ | refine Z13 (Z26 rfl rfl) ?_) | (refine Z27 ?_; refine Z13 (Z28 rfl (Z53 ⟨by omega, by omega⟩)) ?_) | (refine Z29 ?_; refine Z13 (Z30 rfl (by rfl) (by simp only [Z84, List.set_cons_zero, List.set_cons_succ]; rfl)) ?_) | refine Z31 ?_) | (refine Z32 ?_; first | refine Z33 ?_ | refine Z34 ?_ | refine Z35 ?_ | refine Z36 ?_ | refine Z37 ?_ | refine Z38 rfl ?_ | refine Z39 ?_ | refine Z40 ?_ | refine Z41 ?_) | (refine Z42 ?_; first | refine Z43 ?_ | refine Z44 ?_ | refine Z45 ?_ | refine Z46 ?_ | refine Z47 ?_ | refine Z48 ?_ | refine Z49 rfl (by decide) ?_ | refine Z50 rfl (by decide) ?_))
  refine WO_loadSB rfl hq rfl ?_
  repeat (first | (refine Z0 ?_; first | refine Z1 rfl ?_ | (refine Z2 ?_; first | refine Z3 rfl rfl (by decide) ?_ | refine Z4 rfl rfl (by decide) ?_ | refine Z5 rfl rfl ?_) | (refine Z6 ?_; first | refine Z7 rfl rfl ?_ | refine Z8 rfl rfl ?_) | (refine Z9 ?_; first | refine Z10 rfl (by assumption) (by rfl) ?_ | refine Z11 rfl (by assumption) ?_) | (refine Z12 ?_; first | refine Z13 (Z14 rfl (by decide) rfl) ?_ | refine Z13 (Z15 rfl (by decide) rfl) ?_) | (refine Z16 ?_; first | refine Z17 rfl ?_ | refine Z18 rfl ?_) | (refine Z19 ?_; first | refine Z20 rfl rfl (by omega) ?_ | refine Z21 rfl rfl (by omega) ?_ | refine Z22 rfl rfl (by omega) ?_ | refine Z23 rfl rfl (by omega) (by omega) ?_ | refine Z24 rfl rfl (by omega) (by omega) (by omega) ?_ | refine Z13 (Z25 rfl rfl) ?_ | refine Z13 (Z26 rfl rfl) ?_) | (refine Z27 ?_; refine Z13 (Z28 rfl (Z53 ⟨by omega, by omega⟩)) ?_) | (refine Z29 ?_; refine Z13 (Z30 rfl (by rfl) (by simp only [Z84, List.set_cons_zero, List.set_cons_succ]; rfl)) ?_) | refine Z31 ?_) | (refine Z32 ?_; first | refine Z33 ?_ | refine Z34 ?_ | refine Z35 ?_ | refine Z36 ?_ | refine Z37 ?_ | refine Z38 rfl ?_ | refine Z39 ?_ | refine Z40 ?_ | refine Z41 ?_) | (refine Z42 ?_; first | refine Z43 ?_ | refine Z44 ?_ | refine Z45 ?_ | refine Z46 ?_ | refine Z47 ?_ | refine Z48 ?_ | refine Z49 rfl (by decide) ?_ | refine Z50 rfl (by decide) ?_))
  refine WO_loadSB rfl hp rfl ?_
  repeat (first | (refine Z0 ?_; first | refine Z1 rfl ?_ | (refine Z2 ?_; first | refine Z3 rfl rfl (by decide) ?_ | refine Z4 rfl rfl (by decide) ?_ | refine Z5 rfl rfl ?_) | (refine Z6 ?_; first | refine Z7 rfl rfl ?_ | refine Z8 rfl rfl ?_) | (refine Z9 ?_; first | refine Z10 rfl (by assumption) (by rfl) ?_ | refine Z11 rfl (by assumption) ?_) | (refine Z12 ?_; first | refine Z13 (Z14 rfl (by decide) rfl) ?_ | refine Z13 (Z15 rfl (by decide) rfl) ?_) | (refine Z16 ?_; first | refine Z17 rfl ?_ | refine Z18 rfl ?_) | (refine Z19 ?_; first | refine Z20 rfl rfl (by omega) ?_ | refine Z21 rfl rfl (by omega) ?_ | refine Z22 rfl rfl (by omega) ?_ | refine Z23 rfl rfl (by omega) (by omega) ?_ | refine Z24 rfl rfl (by omega) (by omega) (by omega) ?_ | refine Z13 (Z25 rfl rfl) ?_ | refine Z13 (Z26 rfl rfl) ?_) | (refine Z27 ?_; refine Z13 (Z28 rfl (Z53 ⟨by omega, by omega⟩)) ?_) | (refine Z29 ?_; refine Z13 (Z30 rfl (by rfl) (by simp only [Z84, List.set_cons_zero, List.set_cons_succ]; rfl)) ?_) | refine Z31 ?_) | (refine Z32 ?_; first | refine Z33 ?_ | refine Z34 ?_ | refine Z35 ?_ | refine Z36 ?_ | refine Z37 ?_ | refine Z38 rfl ?_ | refine Z39 ?_ | refine Z40 ?_ | refine Z41 ?_) | (refine Z42 ?_; first | refine Z43 ?_ | refine Z44 ?_ | refine Z45 ?_ | refine Z46 ?_ | refine Z47 ?_ | refine Z48 ?_ | refine Z49 rfl (by decide) ?_ | refine Z50 rfl (by decide) ?_))
  refine WO_call rfl (eqPointer_ret _ _ _) ?_
  rintro _ wq ⟨rfl, eq⟩
  rw [decide_eq_true rfl]
  replace e0 := e0.trans eq
  try replace ha := Own.ext ha eq
  try replace hx := Own.ext hx eq
  try replace hg := Own.ext hg eq
  try replace hp := Blk.ext hp eq
  try replace hq := Blk.ext hq eq
  try replace hb := Blk.ext hb eq
  have := Ext.size_le eq
  repeat' (first | (refine Z0 ?_; first | refine Z1 rfl ?_ | (refine Z2 ?_; first | refine Z3 rfl rfl (by decide) ?_ | refine Z4 rfl rfl (by decide) ?_ | refine Z5 rfl rfl ?_ | ((refine Z51 rfl rfl (fun c' hc' => ?_)); cases c' <;> (try simp only [decide_eq_true_eq, decide_eq_false_iff_not, beq_iff_eq, beq_eq_false_iff_ne, bne_iff_ne, bne_eq_false_iff_eq, ne_eq, gt_iff_lt, ge_iff_le, Int.not_lt, Int.not_le, Bool.not_eq_true', Bool.not_eq_false', Bool.not_true, Bool.not_false, reduceCtorEq, Decidable.not_not, not_true_eq_false, Bool.true_eq_false, Bool.false_eq_true] at hc') <;> (try (exfalso; omega)))) | (refine Z6 ?_; first | refine Z7 rfl rfl ?_ | refine Z8 rfl rfl ?_) | (refine Z9 ?_; first | refine Z10 rfl (by assumption) (by rfl) ?_ | refine Z11 rfl (by assumption) ?_) | (refine Z12 ?_; first | refine Z13 (Z14 rfl (by decide) rfl) ?_ | refine Z13 (Z15 rfl (by decide) rfl) ?_) | (refine Z16 ?_; first | refine Z17 rfl ?_ | refine Z18 rfl ?_) | (refine Z19 ?_; first | refine Z20 rfl rfl (by omega) ?_ | refine Z21 rfl rfl (by omega) ?_ | refine Z22 rfl rfl (by omega) ?_ | refine Z23 rfl rfl (by omega) (by omega) ?_ | refine Z24 rfl rfl (by omega) (by omega) (by omega) ?_ | refine Z13 (Z25 rfl rfl) ?_ | refine Z13 (Z26 rfl rfl) ?_) | (refine Z27 ?_; refine Z13 (Z28 rfl (Z53 ⟨by omega, by omega⟩)) ?_) | (refine Z29 ?_; refine Z13 (Z30 rfl (by rfl) (by simp only [Z84, List.set_cons_zero, List.set_cons_succ]; rfl)) ?_) | refine Z31 ?_) | (refine Z32 ?_; first | refine Z33 ?_ | refine Z34 ?_ | refine Z35 ?_ | refine Z36 ?_ | refine Z37 ?_ | refine Z38 rfl ?_ | refine Z39 ?_ | refine Z40 ?_ | refine Z41 ?_) | (refine Z42 ?_; first | refine Z43 ?_ | refine Z44 ?_ | refine Z45 ?_ | refine Z46 ?_ | refine Z47 ?_ | refine Z48 ?_ | refine Z49 rfl (by decide) ?_ | refine Z50 rfl (by decide) ?_ | ((refine Z52 rfl (fun hc' => ?_) (fun hc' => ?_)) <;> (try simp only [decide_eq_true_eq, decide_eq_false_iff_not, beq_iff_eq, beq_eq_false_iff_ne, bne_iff_ne, bne_eq_false_iff_eq, ne_eq, gt_iff_lt, ge_iff_le, Int.not_lt, Int.not_le, Bool.not_eq_true', Bool.not_eq_false', Bool.not_true, Bool.not_false, reduceCtorEq, Decidable.not_not, not_true_eq_false, Bool.true_eq_false, Bool.false_eq_true] at hc') <;> (try (exfalso; omega)))))
  obtain ⟨Fg, hgr, hgn, hgb⟩ := hg
  refine WO_call rfl (markCellS_ret _ _ _ (lentL l x true) Fg 1 _ hgr hgn (by decide) (kAt_all (lentL l x true) hm).2) ?_
  rintro _ wm ⟨rfl, hgr2, cm⟩
  replace cm := cm.toI hgb
  have hg : Own _ _ _ _ (markC 1 (lentL l x true)) wm _ := ⟨Fg, hgr2, hgn, hgb⟩
  replace e0 := e0.chgI cm (by omega)
  replace ha := Own.chgI ha cm (by omega)
  try replace hp := Blk.chgI hp cm (by omega)
  try replace hb := Blk.chgI hb cm (by omega)
  have := ChgI.size cm
  clear hq
  repeat (first | (refine Z0 ?_; first | refine Z1 rfl ?_ | (refine Z2 ?_; first | refine Z3 rfl rfl (by decide) ?_ | refine Z4 rfl rfl (by decide) ?_ | refine Z5 rfl rfl ?_) | (refine Z6 ?_; first | refine Z7 rfl rfl ?_ | refine Z8 rfl rfl ?_) | (refine Z9 ?_; first | refine Z10 rfl (by assumption) (by rfl) ?_ | refine Z11 rfl (by assumption) ?_) | (refine Z12 ?_; first | refine Z13 (Z14 rfl (by decide) rfl) ?_ | refine Z13 (Z15 rfl (by decide) rfl) ?_) | (refine Z16 ?_; first | refine Z17 rfl ?_ | refine Z18 rfl ?_) | (refine Z19 ?_; first | refine Z20 rfl rfl (by omega) ?_ | refine Z21 rfl rfl (by omega) ?_ | refine Z22 rfl rfl (by omega) ?_ | refine Z23 rfl rfl (by omega) (by omega) ?_ | refine Z24 rfl rfl (by omega) (by omega) (by omega) ?_ | refine Z13 (Z25 rfl rfl) ?_ | refine Z13 (Z26 rfl rfl) ?_) | (refine Z27 ?_; refine Z13 (Z28 rfl (Z53 ⟨by omega, by omega⟩)) ?_) | (refine Z29 ?_; refine Z13 (Z30 rfl (by rfl) (by simp only [Z84, List.set_cons_zero, List.set_cons_succ]; rfl)) ?_) | refine Z31 ?_) | (refine Z32 ?_; first | refine Z33 ?_ | refine Z34 ?_ | refine Z35 ?_ | refine Z36 ?_ | refine Z37 ?_ | refine Z38 rfl ?_ | refine Z39 ?_ | refine Z40 ?_ | refine Z41 ?_) | (refine Z42 ?_; first | refine Z43 ?_ | refine Z44 ?_ | refine Z45 ?_ | refine Z46 ?_ | refine Z47 ?_ | refine Z48 ?_ | refine Z49 rfl (by decide) ?_ | refine Z50 rfl (by decide) ?_))
  obtain ⟨F1, h1⟩ := hg.ces
  refine WO_call rfl (heldCellS_ret _ ((lentL l x true)) F1 1 _ h1 (by decide) (kAt_all ((lentL l x true)) hm).2) ?_
  rintro _ wh ⟨rfl, rfl⟩
  clear h1
  have hk2 := (kAt_all (lentL l x true) hm).1
  repeat' (first | (refine Z0 ?_; first | refine Z1 rfl ?_ | (refine Z2 ?_; first | refine Z3 rfl rfl (by decide) ?_ | refine Z4 rfl rfl (by decide) ?_ | refine Z5 rfl rfl ?_ | ((refine Z51 rfl rfl (fun c' hc' => ?_)); cases c' <;> (try simp only [decide_eq_true_eq, decide_eq_false_iff_not, beq_iff_eq, beq_eq_false_iff_ne, bne_iff_ne, bne_eq_false_iff_eq, ne_eq, gt_iff_lt, ge_iff_le, Int.not_lt, Int.not_le, Bool.not_eq_true', Bool.not_eq_false', Bool.not_true, Bool.not_false, reduceCtorEq, Decidable.not_not, not_true_eq_false, Bool.true_eq_false, Bool.false_eq_true] at hc') <;> (try (exfalso; omega)))) | (refine Z6 ?_; first | refine Z7 rfl rfl ?_ | refine Z8 rfl rfl ?_) | (refine Z9 ?_; first | refine Z10 rfl (by assumption) (by rfl) ?_ | refine Z11 rfl (by assumption) ?_) | (refine Z12 ?_; first | refine Z13 (Z14 rfl (by decide) rfl) ?_ | refine Z13 (Z15 rfl (by decide) rfl) ?_) | (refine Z16 ?_; first | refine Z17 rfl ?_ | refine Z18 rfl ?_) | (refine Z19 ?_; first | refine Z20 rfl rfl (by omega) ?_ | refine Z21 rfl rfl (by omega) ?_ | refine Z22 rfl rfl (by omega) ?_ | refine Z23 rfl rfl (by omega) (by omega) ?_ | refine Z24 rfl rfl (by omega) (by omega) (by omega) ?_ | refine Z13 (Z25 rfl rfl) ?_ | refine Z13 (Z26 rfl rfl) ?_) | (refine Z27 ?_; refine Z13 (Z28 rfl (Z53 ⟨by omega, by omega⟩)) ?_) | (refine Z29 ?_; refine Z13 (Z30 rfl (by rfl) (by simp only [Z84, List.set_cons_zero, List.set_cons_succ]; rfl)) ?_) | refine Z31 ?_) | (refine Z32 ?_; first | refine Z33 ?_ | refine Z34 ?_ | refine Z35 ?_ | refine Z36 ?_ | refine Z37 ?_ | refine Z38 rfl ?_ | refine Z39 ?_ | refine Z40 ?_ | refine Z41 ?_) | (refine Z42 ?_; first | refine Z43 ?_ | refine Z44 ?_ | refine Z45 ?_ | refine Z46 ?_ | refine Z47 ?_ | refine Z48 ?_ | refine Z49 rfl (by decide) ?_ | refine Z50 rfl (by decide) ?_ | ((refine Z52 rfl (fun hc' => ?_) (fun hc' => ?_)) <;> (try simp only [decide_eq_true_eq, decide_eq_false_iff_not, beq_iff_eq, beq_eq_false_iff_ne, bne_iff_ne, bne_eq_false_iff_eq, ne_eq, gt_iff_lt, ge_iff_le, Int.not_lt, Int.not_le, Bool.not_eq_true', Bool.not_eq_false', Bool.not_true, Bool.not_false, reduceCtorEq, Decidable.not_not, not_true_eq_false, Bool.true_eq_false, Bool.false_eq_true] at hc') <;> (try (exfalso; omega)))))
  refine W_held0E [] (fun τ w' => ∃ z0 z1, τ = [(6, a0), (7, .pointer (some ⟨bp, 0, none⟩)), (8, .int .i64 (lentC l x true)), (10, g0), (14, .int .i64 (kAt 1 (lentL l x true) (lentL l x true).length)), (16, z0), (17, (.pointer (some ⟨z1, 0, none⟩))), (18, .int .i64 (lentC l x true))] ∧ NewCells 58 62 (lentL l x true) wh z0 w' ∧ Blk w' z1 [.int .i64 (lentP l x true).cell, .int .i64 (lentP l x true).tag] 35 ∧ wh.heap.size ≤ z1) (by kernel_rfl) (fun ws es hS => ?_) (fun τ wt hT => ?_)
  · refine Z82 0 rfl (by kernel_rfl) (by kernel_rfl) (by kernel_rfl) (by assumption) (fun w' hw' => Z56 rfl) ?_
    refine Z82 2 rfl (by kernel_rfl) (by kernel_rfl) (by kernel_rfl) (by assumption) (fun w' hw' => q_loadS (cs := [.int .i64 x.cell, .int .i64 x.tag]) rfl rfl (fun j u hu => by rw [Nat.zero_add]; exact ((hb.ext es).ext hw'.ext).cell hu)) ?_
    refine WH_two 1 9 rfl rfl (by kernel_rfl) ?_ ?_
    · refine WO_call rfl (toCellS_ret v l F _ (h.ext (e0.trans (es.trans (Ext.refl ws)))) hn) fun xr wr hxr => Z31 (at_held (((Ext.refl ws).trans hxr.2).chg []) ?_)
      have k1 := Ext.trans (Ext.refl ws) hxr.2
      have hSk1 := Ext.chg k1 []
      obtain ⟨Fr, hcr, _⟩ := hxr.ces
      refine WH_two 3 9 rfl rfl (by kernel_rfl) ?_ ?_
      · refine WO_call rfl (toPointer_ret x _) fun _ wp hpp => Z31 (at_held ((k1.trans hpp.2).chg []) ?_)
        obtain ⟨rfl, ep⟩ := hpp
        have k3 := Ext.trans k1 ep
        have hSk3 := Ext.chg k3 []
        replace hcr := hcr.ext ep
        refine WH_two 4 9 rfl rfl (by kernel_rfl) ?_ ?_
        · refine WO_call rfl (BorrowCell_ret xr l Fr x _ hcr hn) fun _ wc hAA => Z31 (at_held (by obtain ⟨z0, _, hA⟩ := hAA; exact (k3.trans hA.2).chg []) ?_)
          obtain ⟨z0, rfl, hA⟩ := hAA
          have k4 := Ext.trans k3 hA.2
          have hSk4 := Ext.chg k4 []
          refine Z82 5 rfl (by kernel_rfl) (by kernel_rfl) (by kernel_rfl) (by assumption) (fun w' hw' => Z56 rfl) ?_
          refine Z82 6 rfl (by kernel_rfl) (by kernel_rfl) (by kernel_rfl) (by assumption) (fun w' hw' => Z56 rfl) ?_
          refine Z82 7 rfl (by kernel_rfl) (by kernel_rfl) (by kernel_rfl) (by assumption) (fun w' hw' => Z56 rfl) ?_
          refine Z82 8 rfl (by kernel_rfl) (by kernel_rfl) (by kernel_rfl) (by assumption) (fun w' hw' => Z56 rfl) ?_
          refine WH_one 9 rfl (by kernel_rfl) ?_
          refine WO_alloc fun wb hb2 eb2 zb2 => Z31 (at_held ((k4.trans eb2).chg []) ?_)
          have k9 := Ext.trans k4 eb2
          have hSk9 := Ext.chg k9 []
          have sb := Ext.size_le k4
          refine Z82 10 rfl (by kernel_rfl) (by kernel_rfl) (by kernel_rfl) (by assumption) (fun w' hw' => Z56 rfl) ?_
          refine WH_one 11 rfl (by kernel_rfl) (WO_storeS (k := 2) (vs := [.int .i64 (lentP l x true).cell, .int .i64 (lentP l x true).tag]) rfl rfl rfl (by intro v hv; simp at hv; rcases hv with rfl | rfl <;> rfl) hb2 (by decide) fun we hbe oe => Z31 (at_held ((k9.only oe sb).chg []) ?_))
          have eE := Ext.only k9 oe sb
          have hSE := Ext.chg eE []
          refine Z82 12 rfl (by kernel_rfl) (by kernel_rfl) (by kernel_rfl) (by assumption) (fun w' hw' => Z56 rfl) ?_
          exact WH_doneE (τ := [(6, a0), (7, .pointer (some ⟨bp, 0, none⟩)), (8, .int .i64 (lentC l x true)), (10, g0), (14, .int .i64 (kAt 1 (lentL l x true) (lentL l x true).length)), (16, z0), (17, _), (18, .int .i64 (lentC l x true))]) (by kernel_rfl) (by repeat (first | exact True.intro | refine And.intro rfl ?_)) ⟨z0, _, rfl, hA.chg (Chg.trans (Ext.chg eb2 _) oe.chg) (by have := Ext.size_le eb2; have := Ext.size_le es; have := Ext.size_le k3; have := Ext.size_le k9; intro b hbb; rw [List.mem_singleton] at hbb; subst hbb; omega) (by have := Ext.size_le es; have := Ext.size_le k3; have := Ext.size_le k9; have := hA.2.size_le; omega) (es.trans eE), hbe, by have := Ext.size_le es; omega⟩
        · refine WO_alloc fun wb hb2 eb2 zb2 => Z31 (at_held ((k3.trans eb2).chg []) ?_)
          have k9 := Ext.trans k3 eb2
          have hSk9 := Ext.chg k9 []
          have sb := Ext.size_le k3
          replace hcr := hcr.ext eb2
          have hlt := hb2.lt
          refine WH_one 4 rfl (by kernel_rfl) ?_
          refine WO_call rfl (BorrowCell_ret xr l Fr x _ hcr hn) fun _ wc hAA => Z31 (at_held (by obtain ⟨z0, _, hA⟩ := hAA; exact (k9.trans hA.2).chg []) ?_)
          obtain ⟨z0, rfl, hA⟩ := hAA
          have k4 := Ext.trans k9 hA.2
          have hSk4 := Ext.chg k4 []
          replace hb2 := hb2.ext hA.2
          refine Z82 5 rfl (by kernel_rfl) (by kernel_rfl) (by kernel_rfl) (by assumption) (fun w' hw' => Z56 rfl) ?_
          refine Z82 6 rfl (by kernel_rfl) (by kernel_rfl) (by kernel_rfl) (by assumption) (fun w' hw' => Z56 rfl) ?_
          refine Z82 7 rfl (by kernel_rfl) (by kernel_rfl) (by kernel_rfl) (by assumption) (fun w' hw' => Z56 rfl) ?_
          refine Z82 8 rfl (by kernel_rfl) (by kernel_rfl) (by kernel_rfl) (by assumption) (fun w' hw' => Z56 rfl) ?_
          refine Z82 10 rfl (by kernel_rfl) (by kernel_rfl) (by kernel_rfl) (by assumption) (fun w' hw' => Z56 rfl) ?_
          refine WH_one 11 rfl (by kernel_rfl) (WO_storeS (k := 2) (vs := [.int .i64 (lentP l x true).cell, .int .i64 (lentP l x true).tag]) rfl rfl rfl (by intro v hv; simp at hv; rcases hv with rfl | rfl <;> rfl) hb2 (by decide) fun we hbe oe => Z31 (at_held ((k4.only oe sb).chg []) ?_))
          have eE := Ext.only k4 oe sb
          have hSE := Ext.chg eE []
          refine Z82 12 rfl (by kernel_rfl) (by kernel_rfl) (by kernel_rfl) (by assumption) (fun w' hw' => Z56 rfl) ?_
          exact WH_doneE (τ := [(6, a0), (7, .pointer (some ⟨bp, 0, none⟩)), (8, .int .i64 (lentC l x true)), (10, g0), (14, .int .i64 (kAt 1 (lentL l x true) (lentL l x true).length)), (16, z0), (17, _), (18, .int .i64 (lentC l x true))]) (by kernel_rfl) (by repeat (first | exact True.intro | refine And.intro rfl ?_)) ⟨z0, _, rfl, hA.chg (Chg.trans (Ext.chg (Ext.refl _) _) oe.chg) (by have := Ext.size_le es; have := Ext.size_le k3; have := Ext.size_le k9; intro b hbb; rw [List.mem_singleton] at hbb; subst hbb; omega) (by have := Ext.size_le es; have := Ext.size_le k3; have := Ext.size_le k9; have := hA.2.size_le; omega) (es.trans eE), hbe, by have := Ext.size_le es; omega⟩
      · refine WO_alloc fun wb hb2 eb2 zb2 => Z31 (at_held ((k1.trans eb2).chg []) ?_)
        have k9 := Ext.trans k1 eb2
        have hSk9 := Ext.chg k9 []
        have sb := Ext.size_le k1
        replace hcr := hcr.ext eb2
        have hlt := hb2.lt
        refine WH_one 3 rfl (by kernel_rfl) ?_
        refine WO_call rfl (toPointer_ret x _) fun _ wp hpp => Z31 (at_held ((k9.trans hpp.2).chg []) ?_)
        obtain ⟨rfl, ep⟩ := hpp
        have k3 := Ext.trans k9 ep
        have hSk3 := Ext.chg k3 []
        replace hcr := hcr.ext ep
        refine WH_one 4 rfl (by kernel_rfl) ?_
        refine WO_call rfl (BorrowCell_ret xr l Fr x _ hcr hn) fun _ wc hAA => Z31 (at_held (by obtain ⟨z0, _, hA⟩ := hAA; exact (k3.trans hA.2).chg []) ?_)
        obtain ⟨z0, rfl, hA⟩ := hAA
        have k4 := Ext.trans k3 hA.2
        have hSk4 := Ext.chg k4 []
        replace hb2 := (hb2.ext ep).ext hA.2
        have hlt2 := Ext.size_le ep
        refine Z82 5 rfl (by kernel_rfl) (by kernel_rfl) (by kernel_rfl) (by assumption) (fun w' hw' => Z56 rfl) ?_
        refine Z82 6 rfl (by kernel_rfl) (by kernel_rfl) (by kernel_rfl) (by assumption) (fun w' hw' => Z56 rfl) ?_
        refine Z82 7 rfl (by kernel_rfl) (by kernel_rfl) (by kernel_rfl) (by assumption) (fun w' hw' => Z56 rfl) ?_
        refine Z82 8 rfl (by kernel_rfl) (by kernel_rfl) (by kernel_rfl) (by assumption) (fun w' hw' => Z56 rfl) ?_
        refine Z82 10 rfl (by kernel_rfl) (by kernel_rfl) (by kernel_rfl) (by assumption) (fun w' hw' => Z56 rfl) ?_
        refine WH_one 11 rfl (by kernel_rfl) (WO_storeS (k := 2) (vs := [.int .i64 (lentP l x true).cell, .int .i64 (lentP l x true).tag]) rfl rfl rfl (by intro v hv; simp at hv; rcases hv with rfl | rfl <;> rfl) hb2 (by decide) fun we hbe oe => Z31 (at_held ((k4.only oe sb).chg []) ?_))
        have eE := Ext.only k4 oe sb
        have hSE := Ext.chg eE []
        refine Z82 12 rfl (by kernel_rfl) (by kernel_rfl) (by kernel_rfl) (by assumption) (fun w' hw' => Z56 rfl) ?_
        exact WH_doneE (τ := [(6, a0), (7, .pointer (some ⟨bp, 0, none⟩)), (8, .int .i64 (lentC l x true)), (10, g0), (14, .int .i64 (kAt 1 (lentL l x true) (lentL l x true).length)), (16, z0), (17, _), (18, .int .i64 (lentC l x true))]) (by kernel_rfl) (by repeat (first | exact True.intro | refine And.intro rfl ?_)) ⟨z0, _, rfl, hA.chg (Chg.trans (Ext.chg (Ext.refl _) _) oe.chg) (by have := Ext.size_le es; have := Ext.size_le k3; have := Ext.size_le k9; intro b hbb; rw [List.mem_singleton] at hbb; subst hbb; omega) (by have := Ext.size_le es; have := Ext.size_le k3; have := Ext.size_le k9; have := hA.2.size_le; omega) (es.trans eE), hbe, by have := Ext.size_le es; omega⟩
    · refine WO_alloc fun wb hb2 eb2 zb2 => Z31 (at_held (((Ext.refl ws).trans eb2).chg []) ?_)
      have k9 := Ext.trans (Ext.refl ws) eb2
      have hSk9 := Ext.chg k9 []
      have sb := Ext.size_le (Ext.refl ws)
      have hlt := hb2.lt
      refine WH_one 1 rfl (by kernel_rfl) ?_
      refine WO_call rfl (toCellS_ret v l F _ (h.ext (e0.trans (es.trans k9))) hn) fun xr wr hxr => Z31 (at_held ((k9.trans hxr.2).chg []) ?_)
      have k1 := Ext.trans k9 hxr.2
      have hSk1 := Ext.chg k1 []
      obtain ⟨Fr, hcr, _⟩ := hxr.ces
      refine WH_one 3 rfl (by kernel_rfl) ?_
      refine WO_call rfl (toPointer_ret x _) fun _ wp hpp => Z31 (at_held ((k1.trans hpp.2).chg []) ?_)
      obtain ⟨rfl, ep⟩ := hpp
      have k3 := Ext.trans k1 ep
      have hSk3 := Ext.chg k3 []
      replace hcr := hcr.ext ep
      refine WH_one 4 rfl (by kernel_rfl) ?_
      refine WO_call rfl (BorrowCell_ret xr l Fr x _ hcr hn) fun _ wc hAA => Z31 (at_held (by obtain ⟨z0, _, hA⟩ := hAA; exact (k3.trans hA.2).chg []) ?_)
      obtain ⟨z0, rfl, hA⟩ := hAA
      have k4 := Ext.trans k3 hA.2
      have hSk4 := Ext.chg k4 []
      replace hb2 := ((hb2.ext hxr.2).ext ep).ext hA.2
      have hlt2 := Nat.le_trans (Ext.size_le hxr.2) (Ext.size_le ep)
      refine Z82 5 rfl (by kernel_rfl) (by kernel_rfl) (by kernel_rfl) (by assumption) (fun w' hw' => Z56 rfl) ?_
      refine Z82 6 rfl (by kernel_rfl) (by kernel_rfl) (by kernel_rfl) (by assumption) (fun w' hw' => Z56 rfl) ?_
      refine Z82 7 rfl (by kernel_rfl) (by kernel_rfl) (by kernel_rfl) (by assumption) (fun w' hw' => Z56 rfl) ?_
      refine Z82 8 rfl (by kernel_rfl) (by kernel_rfl) (by kernel_rfl) (by assumption) (fun w' hw' => Z56 rfl) ?_
      refine Z82 10 rfl (by kernel_rfl) (by kernel_rfl) (by kernel_rfl) (by assumption) (fun w' hw' => Z56 rfl) ?_
      refine WH_one 11 rfl (by kernel_rfl) (WO_storeS (k := 2) (vs := [.int .i64 (lentP l x true).cell, .int .i64 (lentP l x true).tag]) rfl rfl rfl (by intro v hv; simp at hv; rcases hv with rfl | rfl <;> rfl) hb2 (by decide) fun we hbe oe => Z31 (at_held ((k4.only oe sb).chg []) ?_))
      have eE := Ext.only k4 oe sb
      have hSE := Ext.chg eE []
      refine Z82 12 rfl (by kernel_rfl) (by kernel_rfl) (by kernel_rfl) (by assumption) (fun w' hw' => Z56 rfl) ?_
      exact WH_doneE (τ := [(6, a0), (7, .pointer (some ⟨bp, 0, none⟩)), (8, .int .i64 (lentC l x true)), (10, g0), (14, .int .i64 (kAt 1 (lentL l x true) (lentL l x true).length)), (16, z0), (17, _), (18, .int .i64 (lentC l x true))]) (by kernel_rfl) (by repeat (first | exact True.intro | refine And.intro rfl ?_)) ⟨z0, _, rfl, hA.chg (Chg.trans (Ext.chg (Ext.refl _) _) oe.chg) (by have := Ext.size_le es; have := Ext.size_le k3; have := Ext.size_le k9; intro b hbb; rw [List.mem_singleton] at hbb; subst hbb; omega) (by have := Ext.size_le es; have := Ext.size_le k3; have := Ext.size_le k9; have := hA.2.size_le; omega) (es.trans eE), hbe, by have := Ext.size_le es; omega⟩
  obtain ⟨h0, bq, rfl, hA, hq, hqB⟩ := hT
  have ea := hA.2
  replace e0 := e0.trans ea
  replace ha := ha.ext ea
  replace hg := hg.ext ea
  replace hp := hp.ext ea
  have := Ext.size_le ea
  have hh := hA.own
  repeat (first | (refine Z0 ?_; first | refine Z1 rfl ?_ | (refine Z2 ?_; first | refine Z3 rfl rfl (by decide) ?_ | refine Z4 rfl rfl (by decide) ?_ | refine Z5 rfl rfl ?_) | (refine Z6 ?_; first | refine Z7 rfl rfl ?_ | refine Z8 rfl rfl ?_) | (refine Z9 ?_; first | refine Z10 rfl (by assumption) (by rfl) ?_ | refine Z11 rfl (by assumption) ?_) | (refine Z12 ?_; first | refine Z13 (Z14 rfl (by decide) rfl) ?_ | refine Z13 (Z15 rfl (by decide) rfl) ?_) | (refine Z16 ?_; first | refine Z17 rfl ?_ | refine Z18 rfl ?_) | (refine Z19 ?_; first | refine Z20 rfl rfl (by omega) ?_ | refine Z21 rfl rfl (by omega) ?_ | refine Z22 rfl rfl (by omega) ?_ | refine Z23 rfl rfl (by omega) (by omega) ?_ | refine Z24 rfl rfl (by omega) (by omega) (by omega) ?_ | refine Z13 (Z25 rfl rfl) ?_ | refine Z13 (Z26 rfl rfl) ?_) | (refine Z27 ?_; refine Z13 (Z28 rfl (Z53 ⟨by omega, by omega⟩)) ?_) | (refine Z29 ?_; refine Z13 (Z30 rfl (by rfl) (by simp only [Z84, List.set_cons_zero, List.set_cons_succ]; rfl)) ?_) | refine Z31 ?_) | (refine Z32 ?_; first | refine Z33 ?_ | refine Z34 ?_ | refine Z35 ?_ | refine Z36 ?_ | refine Z37 ?_ | refine Z38 rfl ?_ | refine Z39 ?_ | refine Z40 ?_ | refine Z41 ?_) | (refine Z42 ?_; first | refine Z43 ?_ | refine Z44 ?_ | refine Z45 ?_ | refine Z46 ?_ | refine Z47 ?_ | refine Z48 ?_ | refine Z49 rfl (by decide) ?_ | refine Z50 rfl (by decide) ?_))
  obtain ⟨F1, h1⟩ := hh.ces
  obtain ⟨F2, h2⟩ := ha.ces
  refine WO_call rfl (eqCellS_ret _ _ _ _ F1 F2 _ h1 h2) ?_
  rintro _ wq ⟨rfl, eq⟩
  rw [decide_eq_true rfl]
  clear h1 h2
  replace e0 := e0.trans eq
  try replace ha := Own.ext ha eq
  try replace hx := Own.ext hx eq
  try replace hg := Own.ext hg eq
  try replace hp := Blk.ext hp eq
  try replace hq := Blk.ext hq eq
  try replace hb := Blk.ext hb eq
  have := Ext.size_le eq
  repeat (first | (refine Z0 ?_; first | refine Z1 rfl ?_ | (refine Z2 ?_; first | refine Z3 rfl rfl (by decide) ?_ | refine Z4 rfl rfl (by decide) ?_ | refine Z5 rfl rfl ?_) | (refine Z6 ?_; first | refine Z7 rfl rfl ?_ | refine Z8 rfl rfl ?_) | (refine Z9 ?_; first | refine Z10 rfl (by assumption) (by rfl) ?_ | refine Z11 rfl (by assumption) ?_) | (refine Z12 ?_; first | refine Z13 (Z14 rfl (by decide) rfl) ?_ | refine Z13 (Z15 rfl (by decide) rfl) ?_) | (refine Z16 ?_; first | refine Z17 rfl ?_ | refine Z18 rfl ?_) | (refine Z19 ?_; first | refine Z20 rfl rfl (by omega) ?_ | refine Z21 rfl rfl (by omega) ?_ | refine Z22 rfl rfl (by omega) ?_ | refine Z23 rfl rfl (by omega) (by omega) ?_ | refine Z24 rfl rfl (by omega) (by omega) (by omega) ?_ | refine Z13 (Z25 rfl rfl) ?_ | refine Z13 (Z26 rfl rfl) ?_) | (refine Z27 ?_; refine Z13 (Z28 rfl (Z53 ⟨by omega, by omega⟩)) ?_) | (refine Z29 ?_; refine Z13 (Z30 rfl (by rfl) (by simp only [Z84, List.set_cons_zero, List.set_cons_succ]; rfl)) ?_) | refine Z31 ?_) | (refine Z32 ?_; first | refine Z33 ?_ | refine Z34 ?_ | refine Z35 ?_ | refine Z36 ?_ | refine Z37 ?_ | refine Z38 rfl ?_ | refine Z39 ?_ | refine Z40 ?_ | refine Z41 ?_) | (refine Z42 ?_; first | refine Z43 ?_ | refine Z44 ?_ | refine Z45 ?_ | refine Z46 ?_ | refine Z47 ?_ | refine Z48 ?_ | refine Z49 rfl (by decide) ?_ | refine Z50 rfl (by decide) ?_))
  refine WO_loadSB rfl hq rfl ?_
  repeat (first | (refine Z0 ?_; first | refine Z1 rfl ?_ | (refine Z2 ?_; first | refine Z3 rfl rfl (by decide) ?_ | refine Z4 rfl rfl (by decide) ?_ | refine Z5 rfl rfl ?_) | (refine Z6 ?_; first | refine Z7 rfl rfl ?_ | refine Z8 rfl rfl ?_) | (refine Z9 ?_; first | refine Z10 rfl (by assumption) (by rfl) ?_ | refine Z11 rfl (by assumption) ?_) | (refine Z12 ?_; first | refine Z13 (Z14 rfl (by decide) rfl) ?_ | refine Z13 (Z15 rfl (by decide) rfl) ?_) | (refine Z16 ?_; first | refine Z17 rfl ?_ | refine Z18 rfl ?_) | (refine Z19 ?_; first | refine Z20 rfl rfl (by omega) ?_ | refine Z21 rfl rfl (by omega) ?_ | refine Z22 rfl rfl (by omega) ?_ | refine Z23 rfl rfl (by omega) (by omega) ?_ | refine Z24 rfl rfl (by omega) (by omega) (by omega) ?_ | refine Z13 (Z25 rfl rfl) ?_ | refine Z13 (Z26 rfl rfl) ?_) | (refine Z27 ?_; refine Z13 (Z28 rfl (Z53 ⟨by omega, by omega⟩)) ?_) | (refine Z29 ?_; refine Z13 (Z30 rfl (by rfl) (by simp only [Z84, List.set_cons_zero, List.set_cons_succ]; rfl)) ?_) | refine Z31 ?_) | (refine Z32 ?_; first | refine Z33 ?_ | refine Z34 ?_ | refine Z35 ?_ | refine Z36 ?_ | refine Z37 ?_ | refine Z38 rfl ?_ | refine Z39 ?_ | refine Z40 ?_ | refine Z41 ?_) | (refine Z42 ?_; first | refine Z43 ?_ | refine Z44 ?_ | refine Z45 ?_ | refine Z46 ?_ | refine Z47 ?_ | refine Z48 ?_ | refine Z49 rfl (by decide) ?_ | refine Z50 rfl (by decide) ?_))
  refine WO_loadSB rfl hp rfl ?_
  repeat (first | (refine Z0 ?_; first | refine Z1 rfl ?_ | (refine Z2 ?_; first | refine Z3 rfl rfl (by decide) ?_ | refine Z4 rfl rfl (by decide) ?_ | refine Z5 rfl rfl ?_) | (refine Z6 ?_; first | refine Z7 rfl rfl ?_ | refine Z8 rfl rfl ?_) | (refine Z9 ?_; first | refine Z10 rfl (by assumption) (by rfl) ?_ | refine Z11 rfl (by assumption) ?_) | (refine Z12 ?_; first | refine Z13 (Z14 rfl (by decide) rfl) ?_ | refine Z13 (Z15 rfl (by decide) rfl) ?_) | (refine Z16 ?_; first | refine Z17 rfl ?_ | refine Z18 rfl ?_) | (refine Z19 ?_; first | refine Z20 rfl rfl (by omega) ?_ | refine Z21 rfl rfl (by omega) ?_ | refine Z22 rfl rfl (by omega) ?_ | refine Z23 rfl rfl (by omega) (by omega) ?_ | refine Z24 rfl rfl (by omega) (by omega) (by omega) ?_ | refine Z13 (Z25 rfl rfl) ?_ | refine Z13 (Z26 rfl rfl) ?_) | (refine Z27 ?_; refine Z13 (Z28 rfl (Z53 ⟨by omega, by omega⟩)) ?_) | (refine Z29 ?_; refine Z13 (Z30 rfl (by rfl) (by simp only [Z84, List.set_cons_zero, List.set_cons_succ]; rfl)) ?_) | refine Z31 ?_) | (refine Z32 ?_; first | refine Z33 ?_ | refine Z34 ?_ | refine Z35 ?_ | refine Z36 ?_ | refine Z37 ?_ | refine Z38 rfl ?_ | refine Z39 ?_ | refine Z40 ?_ | refine Z41 ?_) | (refine Z42 ?_; first | refine Z43 ?_ | refine Z44 ?_ | refine Z45 ?_ | refine Z46 ?_ | refine Z47 ?_ | refine Z48 ?_ | refine Z49 rfl (by decide) ?_ | refine Z50 rfl (by decide) ?_))
  refine WO_call rfl (eqPointer_ret _ _ _) ?_
  rintro _ wq ⟨rfl, eq⟩
  rw [decide_eq_true rfl]
  replace e0 := e0.trans eq
  try replace ha := Own.ext ha eq
  try replace hx := Own.ext hx eq
  try replace hg := Own.ext hg eq
  try replace hp := Blk.ext hp eq
  try replace hq := Blk.ext hq eq
  try replace hb := Blk.ext hb eq
  have := Ext.size_le eq
  repeat' (first | (refine Z0 ?_; first | refine Z1 rfl ?_ | (refine Z2 ?_; first | refine Z3 rfl rfl (by decide) ?_ | refine Z4 rfl rfl (by decide) ?_ | refine Z5 rfl rfl ?_ | ((refine Z51 rfl rfl (fun c' hc' => ?_)); cases c' <;> (try simp only [decide_eq_true_eq, decide_eq_false_iff_not, beq_iff_eq, beq_eq_false_iff_ne, bne_iff_ne, bne_eq_false_iff_eq, ne_eq, gt_iff_lt, ge_iff_le, Int.not_lt, Int.not_le, Bool.not_eq_true', Bool.not_eq_false', Bool.not_true, Bool.not_false, reduceCtorEq, Decidable.not_not, not_true_eq_false, Bool.true_eq_false, Bool.false_eq_true] at hc') <;> (try (exfalso; omega)))) | (refine Z6 ?_; first | refine Z7 rfl rfl ?_ | refine Z8 rfl rfl ?_) | (refine Z9 ?_; first | refine Z10 rfl (by assumption) (by rfl) ?_ | refine Z11 rfl (by assumption) ?_) | (refine Z12 ?_; first | refine Z13 (Z14 rfl (by decide) rfl) ?_ | refine Z13 (Z15 rfl (by decide) rfl) ?_) | (refine Z16 ?_; first | refine Z17 rfl ?_ | refine Z18 rfl ?_) | (refine Z19 ?_; first | refine Z20 rfl rfl (by omega) ?_ | refine Z21 rfl rfl (by omega) ?_ | refine Z22 rfl rfl (by omega) ?_ | refine Z23 rfl rfl (by omega) (by omega) ?_ | refine Z24 rfl rfl (by omega) (by omega) (by omega) ?_ | refine Z13 (Z25 rfl rfl) ?_ | refine Z13 (Z26 rfl rfl) ?_) | (refine Z27 ?_; refine Z13 (Z28 rfl (Z53 ⟨by omega, by omega⟩)) ?_) | (refine Z29 ?_; refine Z13 (Z30 rfl (by rfl) (by simp only [Z84, List.set_cons_zero, List.set_cons_succ]; rfl)) ?_) | refine Z31 ?_) | (refine Z32 ?_; first | refine Z33 ?_ | refine Z34 ?_ | refine Z35 ?_ | refine Z36 ?_ | refine Z37 ?_ | refine Z38 rfl ?_ | refine Z39 ?_ | refine Z40 ?_ | refine Z41 ?_) | (refine Z42 ?_; first | refine Z43 ?_ | refine Z44 ?_ | refine Z45 ?_ | refine Z46 ?_ | refine Z47 ?_ | refine Z48 ?_ | refine Z49 rfl (by decide) ?_ | refine Z50 rfl (by decide) ?_ | ((refine Z52 rfl (fun hc' => ?_) (fun hc' => ?_)) <;> (try simp only [decide_eq_true_eq, decide_eq_false_iff_not, beq_iff_eq, beq_eq_false_iff_ne, bne_iff_ne, bne_eq_false_iff_eq, ne_eq, gt_iff_lt, ge_iff_le, Int.not_lt, Int.not_le, Bool.not_eq_true', Bool.not_eq_false', Bool.not_true, Bool.not_false, reduceCtorEq, Decidable.not_not, not_true_eq_false, Bool.true_eq_false, Bool.false_eq_true] at hc') <;> (try (exfalso; omega)))))
  obtain ⟨F1, h1⟩ := hg.ces
  refine WO_call rfl (heldCellS_ret _ ((lentL l x true)) F1 1 _ h1 (by decide) (kAt_all ((lentL l x true)) hm).2) ?_
  rintro _ wh ⟨rfl, rfl⟩
  clear h1
  repeat' (first | (refine Z0 ?_; first | refine Z1 rfl ?_ | (refine Z2 ?_; first | refine Z3 rfl rfl (by decide) ?_ | refine Z4 rfl rfl (by decide) ?_ | refine Z5 rfl rfl ?_ | ((refine Z51 rfl rfl (fun c' hc' => ?_)); cases c' <;> (try simp only [decide_eq_true_eq, decide_eq_false_iff_not, beq_iff_eq, beq_eq_false_iff_ne, bne_iff_ne, bne_eq_false_iff_eq, ne_eq, gt_iff_lt, ge_iff_le, Int.not_lt, Int.not_le, Bool.not_eq_true', Bool.not_eq_false', Bool.not_true, Bool.not_false, reduceCtorEq, Decidable.not_not, not_true_eq_false, Bool.true_eq_false, Bool.false_eq_true] at hc') <;> (try (exfalso; omega)))) | (refine Z6 ?_; first | refine Z7 rfl rfl ?_ | refine Z8 rfl rfl ?_) | (refine Z9 ?_; first | refine Z10 rfl (by assumption) (by rfl) ?_ | refine Z11 rfl (by assumption) ?_) | (refine Z12 ?_; first | refine Z13 (Z14 rfl (by decide) rfl) ?_ | refine Z13 (Z15 rfl (by decide) rfl) ?_) | (refine Z16 ?_; first | refine Z17 rfl ?_ | refine Z18 rfl ?_) | (refine Z19 ?_; first | refine Z20 rfl rfl (by omega) ?_ | refine Z21 rfl rfl (by omega) ?_ | refine Z22 rfl rfl (by omega) ?_ | refine Z23 rfl rfl (by omega) (by omega) ?_ | refine Z24 rfl rfl (by omega) (by omega) (by omega) ?_ | refine Z13 (Z25 rfl rfl) ?_ | refine Z13 (Z26 rfl rfl) ?_) | (refine Z27 ?_; refine Z13 (Z28 rfl (Z53 ⟨by omega, by omega⟩)) ?_) | (refine Z29 ?_; refine Z13 (Z30 rfl (by rfl) (by simp only [Z84, List.set_cons_zero, List.set_cons_succ]; rfl)) ?_) | refine Z31 ?_) | (refine Z32 ?_; first | refine Z33 ?_ | refine Z34 ?_ | refine Z35 ?_ | refine Z36 ?_ | refine Z37 ?_ | refine Z38 rfl ?_ | refine Z39 ?_ | refine Z40 ?_ | refine Z41 ?_) | (refine Z42 ?_; first | refine Z43 ?_ | refine Z44 ?_ | refine Z45 ?_ | refine Z46 ?_ | refine Z47 ?_ | refine Z48 ?_ | refine Z49 rfl (by decide) ?_ | refine Z50 rfl (by decide) ?_ | ((refine Z52 rfl (fun hc' => ?_) (fun hc' => ?_)) <;> (try simp only [decide_eq_true_eq, decide_eq_false_iff_not, beq_iff_eq, beq_eq_false_iff_ne, bne_iff_ne, bne_eq_false_iff_eq, ne_eq, gt_iff_lt, ge_iff_le, Int.not_lt, Int.not_le, Bool.not_eq_true', Bool.not_eq_false', Bool.not_true, Bool.not_false, reduceCtorEq, Decidable.not_not, not_true_eq_false, Bool.true_eq_false, Bool.false_eq_true] at hc') <;> (try (exfalso; omega)))))
  exact at_ret1 rfl rfl ⟨rfl, e0⟩
end Go.Proofs.Ytginfkgogickcaa
