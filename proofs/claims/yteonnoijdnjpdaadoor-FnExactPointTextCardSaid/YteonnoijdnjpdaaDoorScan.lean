/-
  What is proved here: when the program's scan of statements, StmtValid and ProgramValid answer true.
-/
import Derived.Test.YteonnoijdnjpdaaDoorValid
namespace Go.Proofs.YteonnoijdnjpdaaDoor
set_option linter.unusedVariables false
set_option linter.unusedSimpArgs false
set_option linter.unnecessarySimpa false
open Go.RowKit

theorem ints_of_blk {w : World} {b : Nat} {cs : List Value} {t : TypeId} (zs : List Int) (h : Blk w b cs t) (hc : cs = zs.map (.int .i64)) (hne : zs.length ≤ maxI) : OwnI w (.slice (some ⟨b, 0, none⟩) zs.length zs.length) zs [b] := by
  subst hc
  unfold maxI at hne
  exact ⟨_, zs.length, rfl, by unfold maxI; omega, .inr ⟨b, 0, _, t, rfl, rfl, h, by simp, fun i x hi => by simp [hi]⟩⟩
/-! ### The scan -/
def okS (tl : List Int) (d : Nat) (op x y n : Int) (t e : Ss) : Bool :=
  if op = 9 ∨ op = 10 then decide (d ≠ 0 ∧ x = 0 ∧ y = 0 ∧ n = 0 ∧ ¬ (op = 10 ∧ e.len ≠ 0)) && okL tl (d - 1) t && okL tl (d - 1) e
  else decide (SimpleP tl op x y n t.len e.len)
theorem okL_cons (tl : List Int) (d : Nat) (op x y n : Int) (t e r : Ss) : okL tl d (.cons op x y n t e r) = (okS tl d op x y n t e && okL tl d r) := rfl
/-- What a scan leaves: its answer, and the count where the answer is yes. -/
def ScanR (ok : Bool) (k c : Int) (cb : Nat) (ct : TypeId) (w : World) (v : Value) (w' : World) : Prop :=
  ∃ c', v = .bool (ok && decide (c + k ≤ 30)) ∧ 0 ≤ c' ∧ Blk w' cb [.int .i64 c'] ct ∧ ((ok && decide (c + k ≤ 30)) = true → c' = c + k) ∧ Chg [cb] w w'
def ScanAllP (l : Ss) : Prop := ∀ (tv : Value) (tl : List Int) (F : List Nat) (d : Nat) (nested c : Int) (cb : Nat) (ct : TypeId) (Fl : List Nat) (lv : Value) (w : World), IntF w tv tl F → StS w lv l Fl → cb ∉ F → cb ∉ Fl → Blk w cb [.int .i64 c] ct →
  d ≤ 4 → nested = 4 - (d : Int) → 0 ≤ c → c ≤ 30 → Ret Tryd.prog 48 [tv, lv, .int .i64 nested, .pointer (some ⟨cb, 0, none⟩)] w (ScanR (okL tl d l) (cntL l) c cb ct w)
theorem ne_of_notMem {b : Nat} {F : List Nat} (h : b ∉ F) : ∀ x ∈ F, x ∉ [b] := by
  intro x hx hm
  simp at hm
  subst hm
  exact h hx
theorem StS.slice {w : World} {v : Value} {l : Ss} {F : List Nat} (h : StS w v l F) : ∃ A c, v = .slice A l.len c ∧ l.len ≤ maxI * 2 - 1 ∧ l.len ≤ c := by
  obtain ⟨A, c, e, hl, _⟩ := h
  exact ⟨A, c, e, hl⟩
theorem scan_ret (tv : Value) (tl : List Int) (F : List Nat) (d : Nat) (nested c : Int) (cb : Nat) (ct : TypeId) (op x y n : Int) (t e : Ss) (Ft Fe : List Nat) (vt ve : Value) (w : World)
    (ht : IntF w tv tl F) (hT : StS w vt t Ft) (hE : StS w ve e Fe) (h1 : cb ∉ F) (h2 : cb ∉ Ft) (h3 : cb ∉ Fe) (hb : Blk w cb [.int .i64 c] ct) (hd : d ≤ 4) (hn : nested = 4 - (d : Int)) (hc0 : 0 ≤ c) (hc1 : c ≤ 30)
    (it : ScanAllP t) (ie : ScanAllP e) :
    Ret Tryd.prog 64 [tv, stV op x y n vt ve, .int .i64 nested, .pointer (some ⟨cb, 0, none⟩)] w (ScanR (okS tl d op x y n t e) (1 + cntL t + cntL e) c cb ct w) := by
  obtain ⟨At, ct', rfl, hlt⟩ := hT.slice
  obtain ⟨Ae, ce', rfl, hle⟩ := hE.slice
  refine enter Tryd.func64 rfl Tryd.ntmps64 rfl rfl ?_
  refine goS ?_
  refine WO_box rfl fun w1 hs he hz => ?_
  simp only [stV, Value.cells] at hs
  have hcb := hb.lt
  replace hb := hb.ext he
  refine goS ?_
  refine WO_store1 rfl rfl rfl hb (by simp) fun w2 hb2 ho => ?_
  simp only [List.set_cons_zero] at hb2
  replace hs := hs.only ho (by omega)
  have hch : Chg [cb] w w2 := (he.chg _).trans ho.chg
  refine goS ?_
  refine Z52 rfl (fun hc => ?_) (fun hc => ?_)
  · simp only [decide_eq_true_eq] at hc
    refine goS ?_
    refine at_ret1 rfl rfl ⟨c + 1, ?_, by omega, hb2, ?_, hch⟩
    · rw [decide_eq_false (by omega), Bool.and_false]
    · rw [decide_eq_false (by omega), Bool.and_false]; intro h; cases h
  · simp only [decide_eq_false_iff_not] at hc
    refine goS ?_
    refine WO_call rfl (isBranch_ret op w2) ?_
    rintro v w3 ⟨rfl, rfl⟩
    by_cases hop : op = 9 ∨ op = 10
    · rw [decide_eq_true hop]
      (refine goS ?_; repeat' (first | ((refine Z51 rfl rfl (fun c' hc' => ?_)); cases c' <;> (try simp only [decide_eq_true_eq, decide_eq_false_iff_not, beq_iff_eq, beq_eq_false_iff_ne, bne_iff_ne, bne_eq_false_iff_eq, ne_eq, gt_iff_lt, ge_iff_le, Int.not_lt, Int.not_le, Bool.not_eq_true', Bool.not_eq_false', Bool.not_true, Bool.not_false, reduceCtorEq, Decidable.not_not, not_true_eq_false, Bool.true_eq_false, Bool.false_eq_true] at hc') <;> (try (exfalso; omega)) <;> refine goS ?_) | ((refine Z52 rfl (fun hc' => ?_) (fun hc' => ?_)) <;> (try simp only [decide_eq_true_eq, decide_eq_false_iff_not, beq_iff_eq, beq_eq_false_iff_ne, bne_iff_ne, bne_eq_false_iff_eq, ne_eq, gt_iff_lt, ge_iff_le, Int.not_lt, Int.not_le, Bool.not_eq_true', Bool.not_eq_false', Bool.not_true, Bool.not_false, reduceCtorEq, Decidable.not_not, not_true_eq_false, Bool.true_eq_false, Bool.false_eq_true] at hc') <;> (try (exfalso; omega)) <;> refine goS ?_)))
      all_goals try
        have hnd : ¬ (d ≠ 0 ∧ x = 0 ∧ y = 0 ∧ n = 0 ∧ ¬ (op = 10 ∧ e.len ≠ 0)) := by
          rintro ⟨a1, a2, a3, a4, a5⟩
          first | omega | exact a5 ⟨by assumption, by omega⟩
        have hno : okS tl d op x y n t e = false := by
          unfold okS
          rw [if_pos hop, decide_eq_false hnd, Bool.false_and, Bool.false_and]
        refine at_ret1 rfl rfl ⟨c + 1, ?_, by omega, hb2, ?_, hch⟩
        · rw [hno, Bool.false_and]
        · rw [hno, Bool.false_and]; intro h; cases h
      all_goals
        have hdec : (d ≠ 0 ∧ x = 0 ∧ y = 0 ∧ n = 0 ∧ ¬ (op = 10 ∧ e.len ≠ 0)) := by omega
        have hS : okS tl d op x y n t e = (okL tl (d - 1) t && okL tl (d - 1) e) := by unfold okS; rw [if_pos hop, decide_eq_true hdec, Bool.true_and]
        refine goS ?_
        refine WO_call rfl (it tv tl F (d - 1) (nested + 1) (c + 1) cb ct Ft _ w3 (ht.chg hch (ne_of_notMem h1)) (hT.chg hch (ne_of_notMem h2)) h1 h2 hb2 (by omega) (by omega) (by omega) (by omega)) ?_
        rintro v w4 ⟨c', rfl, hc', hb4, hk, hch2⟩
        by_cases hok : (okL tl (d - 1) t && decide (c + 1 + cntL t ≤ 30)) = true
        · replace hk := hk hok
          rw [hok]
          rw [Bool.and_eq_true, decide_eq_true_eq] at hok
          replace hs := hs.chg hch2 (by simp; omega)
          replace hch := hch.trans hch2
          refine goS ?_
          refine WO_call rfl (ie tv tl F (d - 1) (nested + 1) c' cb ct Fe _ w4 (ht.chg hch (ne_of_notMem h1)) (hE.chg hch (ne_of_notMem h3)) h1 h3 hb4 (by omega) (by omega) (by omega) (by omega)) ?_
          rintro v w5 ⟨c'', rfl, hc'', hb5, hk2, hch3⟩
          refine goS ?_
          have hh : (okL tl (d - 1) e && decide (c' + cntL e ≤ 30)) = (okS tl d op x y n t e && decide (c + (1 + cntL t + cntL e) ≤ 30)) := by
            rw [hS, hok.1, Bool.true_and, hk]
            congr 2
            exact propext (by omega)
          refine at_ret1 rfl rfl ⟨c'', by rw [hh], hc'', hb5, fun h => ?_, hch.trans hch3⟩
          rw [← hh] at h
          rw [hk2 h]
          omega
        · rw [Bool.not_eq_true] at hok
          rw [hok]
          refine goS ?_
          have hh : (okS tl d op x y n t e && decide (c + (1 + cntL t + cntL e) ≤ 30)) = false := by
            rw [hS]
            rw [Bool.and_eq_false_iff, decide_eq_false_iff_not] at hok
            rcases hok with hok | hok
            · rw [hok, Bool.false_and, Bool.false_and]
            · rw [decide_eq_false (by omega), Bool.and_false]
          refine at_ret1 rfl rfl ⟨c', by rw [hh], hc', hb4, fun h => ?_, hch.trans hch2⟩
          rw [hh] at h
          cases h
    · rw [decide_eq_false hop]
      have hS : okS tl d op x y n t e = decide (SimpleP tl op x y n t.len e.len) := by unfold okS; rw [if_neg hop]
      refine goS ?_
      refine WO_loadSB rfl hs rfl ?_
      refine WO_call rfl (simpleOk_ret tv tl F op x y n t.len e.len ct' ce' At Ae w3 (ht.chg hch (ne_of_notMem h1)) hlt.1 hle.1) ?_
      rintro v w4 ⟨rfl, hx⟩
      refine goS ?_
      refine at_ret1 rfl rfl ⟨c + 1, ?_, by omega, hb2.ext hx, fun hk => ?_, hch.trans (hx.chg _)⟩
      · rw [hS]
        by_cases hp : SimpleP tl op x y n t.len e.len
        · have h0 := hp.2.2
          have et := Ss.len_zero h0.1
          have ee := Ss.len_zero h0.2.1
          subst et; subst ee
          rw [decide_eq_true hp, decide_eq_true (by simp only [cntL]; omega)]
          rfl
        · rw [decide_eq_false hp, Bool.false_and]
      · rw [hS, Bool.and_eq_true, decide_eq_true_eq] at hk
        have h0 := hk.1.2.2
        rw [Ss.len_zero h0.1, Ss.len_zero h0.2.1]
        simp only [cntL]
        omega
theorem stS_at {w : World} {A : Option Addr} {m c : Nat} {l : Ss} {F : List Nat} (h : StS w (.slice A m c) l F) : l = .nil ∨ ∃ b o F', A = some ⟨b, o, none⟩ ∧ CsAt w (encS l) b o F' ∧ F = b :: F' := by
  obtain ⟨A', c', e, _, ⟨h0, _⟩ | ⟨b, o, F', e', hF, hs⟩⟩ := h
  · exact .inl (Ss.len_zero h0)
  · cases e
    exact .inr ⟨b, o, F', e', hs, hF⟩
theorem csAt_stmt {w : World} {op x y n : Int} {t e r : Ss} {b o : Nat} {F : List Nat} (h : CsAt w (encS (.cons op x y n t e r)) b o F) :
    ∃ vt ve Ft Fe Fr, F = Ft ++ (Fe ++ Fr) ∧ (∀ (j : Nat) u, [Value.int .i64 op, .int .i64 x, .int .i64 y, .int .i64 n, vt, ve][j]? = some u → w.cell? ⟨b, o + j, none⟩ = some u) ∧ StS w vt t Ft ∧ StS w ve e Fe ∧ CsAt w (encS r) b (o + 6) Fr := by
  obtain ⟨h0, h1, h2, h3, vt, Ft, F1, e1, h4, hT, ve, Fe, Fr, e2, h5, hE, hr⟩ := h
  subst e2; subst e1
  refine ⟨vt, ve, Ft, Fe, Fr, rfl, fun j u hu => ?_, hT, hE, hr⟩
  match j, hu with
  | 0, hu => cases hu; exact h0
  | 1, hu => cases hu; exact h1
  | 2, hu => cases hu; exact h2
  | 3, hu => cases hu; exact h3
  | 4, hu => cases hu; exact h4
  | 5, hu => cases hu; exact h5
  | _ + 6, hu => simp at hu
theorem stmt_one {w : World} {vt ve : Value} {t e : Ss} {Ft Fe : List Nat} (hT : StS w vt t Ft) (hE : StS w ve e Fe) (op x y n : Int) : ∀ v ∈ [Value.int .i64 op, .int .i64 x, .int .i64 y, .int .i64 n, vt, ve], v.oneCell' = true := by
  obtain ⟨_, _, rfl, _⟩ := hT.slice
  obtain ⟨_, _, rfl, _⟩ := hE.slice
  intro v hv
  simp only [List.mem_cons, List.not_mem_nil, or_false] at hv
  rcases hv with rfl | rfl | rfl | rfl | rfl | rfl <;> rfl
theorem scanAll_one (l : Ss) (ih : ∀ s, cntL s < cntL l → ScanAllP s) : ScanAllP l := by
  intro tv tl F d nested c cb ct Fl lv w ht hl h1 h2 hb hd hn hc0 hc1
  obtain ⟨A, cap, rfl, hlen⟩ := hl.slice
  have hat := stS_at hl
  unfold maxI at hlen
  refine enter Tryd.func48 rfl Tryd.ntmps48 rfl rfl ?_
  refine goS ?_
  refine W_loop (α := Nat × Int × Ss) (fun p => [(0, tv), (2, .int .i64 nested), (3, .pointer (some ⟨cb, 0, none⟩)), (11, .slice A l.len cap), (12, .int .i64 (l.len : Int)), (13, .int .i64 (p.1 : Int))])
    (fun p w' => p.1 + p.2.2.len = l.len ∧ c ≤ p.2.1 ∧ p.2.1 ≤ 30 ∧ p.2.1 + cntL p.2.2 = c + cntL l ∧ okL tl d p.2.2 = okL tl d l ∧ Blk w' cb [.int .i64 p.2.1] ct ∧ Chg [cb] w w' ∧
      (p.2.2 = .nil ∨ ∃ b o F', A = some ⟨b, o, none⟩ ∧ CsAt w' (encS p.2.2) b (o + p.1 * 6) F' ∧ b ≠ cb ∧ cb ∉ F')) (fun p => l.len - p.1) (0, c, l) (by repeat (first | exact True.intro | refine And.intro rfl ?_))
    ⟨by simp, Int.le_refl _, hc1, rfl, rfl, hb, Chg.refl _ _, ?_⟩ ?_
  · rcases hat with h | ⟨b, o, F', hA, hs, hF⟩
    · exact .inl h
    · subst hF
      simp only [List.mem_cons, not_or] at h2
      exact .inr ⟨b, o, F', hA, by simpa using hs, fun h => h2.1 h.symm, h2.2⟩
  · rintro ⟨i, c1, r⟩ w1 ⟨hi, ha, hc, hcnt, hok, hb1, hch, hr⟩
    simp only at hi ha hc hcnt hok hb1 hch hr ⊢
    refine goS ?_
    refine Z52 rfl (fun hlt => ?_) (fun hlt => ?_)
    · have hlt : i < l.len := by simpa using hlt
      rcases hr with rfl | ⟨b, o, F', rfl, hs, hne, hnF⟩
      · simp only [Ss.len] at hi; omega
      · cases r with
        | nil => simp only [Ss.len] at hi; omega
        | cons op x y n t e r =>
          obtain ⟨vt, ve, Ft, Fe, Fr, rfl, hcells, hT, hE, hrest⟩ := csAt_stmt hs
          simp only [List.mem_append, not_or] at hnF
          simp only [Ss.len] at hi
          simp only [cntL] at hcnt
          refine goS ?_
          refine Z83 rfl rfl rfl hlt ?_
          refine WO_loadS rfl rfl hcells ?_
          refine WO_alloc fun w2 hb2 he2 hz2 => ?_
          refine WO_storeS rfl rfl rfl (stmt_one hT hE op x y n) hb2 (by simp [Value.cells]) fun w3 hb3 ho3 => ?_
          have hb3' : Blk w3 w1.heap.size [Value.int .i64 op, .int .i64 x, .int .i64 y, .int .i64 n, vt, ve] _ := hb3
          have he3 : Ext w1 w3 := he2.only ho3 (Nat.le_refl _)
          have hch3 : Chg [cb] w w3 := hch.trans (he3.chg _)
          refine goS ?_
          refine WO_loadSB rfl hb3' rfl ?_
          refine goS ?_
          refine WO_call rfl (scan_ret tv tl F d nested c1 cb ct op x y n t e Ft Fe vt ve w3 (ht.chg hch3 (ne_of_notMem h1)) (hT.ext he3) (hE.ext he3) h1 hnF.1 hnF.2.1 (hb1.ext he3) hd hn (by omega) hc (ih t (by omega)) (ih e (by omega))) ?_
          rintro v w4 ⟨c2, rfl, hc2, hb4, hk, hch4⟩
          rw [okL_cons] at hok
          by_cases hyes : (okS tl d op x y n t e && decide (c1 + (1 + cntL t + cntL e) ≤ 30)) = true
          · replace hk := hk hyes
            rw [hyes]
            rw [Bool.and_eq_true, decide_eq_true_eq] at hyes
            rw [hyes.1, Bool.true_and] at hok
            refine goS ?_
            refine at_loop (i + 1, c2, r) (by repeat (first | exact True.intro | refine And.intro rfl ?_)) ⟨by simp only; omega, by simp only; omega, by simp only; omega, by simp only; omega, hok, hb4, hch3.trans hch4, .inr ⟨b, o, Fr, rfl, ?_, hne, hnF.2.2⟩⟩ (by simp only; omega)
            rw [show o + (i + 1) * 6 = o + i * 6 + 6 from by omega]
            exact ((CsAt.ext he3 _ _ _ _ hrest).chg hch4 _ _ _ _ (ne_of_notMem hnF.2.2) (by simpa using hne))
          · rw [Bool.not_eq_true] at hyes
            rw [hyes]
            refine goS ?_
            have hh : (okL tl d l && decide (c + cntL l ≤ 30)) = false := by
              rw [← hok]
              rw [Bool.and_eq_false_iff, decide_eq_false_iff_not] at hyes
              rcases hyes with hyes | hyes
              · rw [hyes, Bool.false_and, Bool.false_and]
              · rw [decide_eq_false (by omega), Bool.and_false]
            refine at_ret1 rfl rfl ⟨c2, by rw [hh], hc2, hb4, fun h => ?_, hch3.trans hch4⟩
            rw [hh] at h
            cases h
    · have hge : i = l.len := by simp at hlt; omega
      have hr0 : r = .nil := Ss.len_zero (by omega)
      subst hr0
      simp only [cntL] at hcnt
      have hok1 : okL tl d l = true := hok.symm
      refine goS ?_
      refine at_ret1 rfl rfl ⟨c1, ?_, by omega, hb1, fun _ => by omega, hch⟩
      rw [hok1, decide_eq_true (by omega)]
      rfl
theorem scanAll_ret : ∀ (k : Nat) (l : Ss), cntL l ≤ k → ScanAllP l := by
  intro k
  induction k with
  | zero =>
    intro l hl
    exact scanAll_one l (fun s hs => by omega)
  | succ k ih => exact fun l hl => scanAll_one l (fun s hs => ih s (by omega))
theorem scanAll_all (l : Ss) : ScanAllP l := scanAll_ret _ l (Nat.le_refl _)

/-- IndexFunc on numbers: no answer below zero exactly where one of them fits. -/
theorem indexFunc_ret {f : FuncId} [Fn0 Tryd.prog f] (first captured : List Value) (p : Int → Bool) (tv : Value) (tl : List Int) (F : List Nat) (w : World) (h : IntF w tv tl F)
    (hp : ∀ x w', Ret Tryd.prog f (first ++ [.int .i64 x] ++ captured) w' fun v w'' => v = .bool (p x) ∧ w'' = w') :
    Ret Tryd.prog 77 [tv, .func (.func f) first.toArray captured.toArray] w fun v w' => (∃ i : Int, v = .int .i64 i ∧ -1 ≤ i ∧ (0 ≤ i ↔ tl.any p = true)) ∧ w' = w := by
  obtain ⟨A, c, rfl, hl, hx⟩ := h
  unfold maxI at hl
  refine enter Tryd.func77 rfl Tryd.ntmps77 rfl rfl ?_
  refine goS ?_
  refine W_loop (α := Nat) (fun i => [(0, .slice A tl.length c), (1, .func (.func f) first.toArray captured.toArray), (6, .slice A tl.length c), (7, .int .i64 (tl.length : Int)), (8, .int .i64 (i : Int))])
    (fun i w' => i ≤ tl.length ∧ (tl.take i).any p = false ∧ w' = w) (fun i => tl.length - i) 0 (by repeat (first | exact True.intro | refine And.intro rfl ?_)) ⟨Nat.zero_le _, rfl, rfl⟩ ?_
  rintro i w1 ⟨hi, ht, rfl⟩
  refine goS ?_
  refine Z52 rfl (fun hc => ?_) (fun hc => ?_)
  · have hlt : i < tl.length := by simpa using hc
    obtain ⟨b, o, rfl, _, hcell⟩ := int_at hx hlt
    have htk : tl.take (i + 1) = tl.take i ++ [tl[i]] := List.take_succ_eq_append_getElem hlt
    refine goS ?_
    refine Z83 rfl rfl rfl hlt ?_
    refine goS ?_
    refine WO_callV (first := first) (captured := captured) rfl rfl (hp tl[i] w1) ?_
    rintro v w2 ⟨rfl, rfl⟩
    cases hpi : p tl[i]
    · refine goS ?_
      refine at_loop (i + 1) (by repeat (first | exact True.intro | refine And.intro rfl ?_)) ⟨hlt, ?_, rfl⟩ (by omega)
      rw [htk, List.any_append, ht]
      simp [hpi]
    · refine goS ?_
      refine at_ret1 rfl rfl ⟨⟨i, rfl, by omega, ⟨fun _ => List.any_eq_true.2 ⟨_, List.getElem_mem hlt, hpi⟩, fun _ => by omega⟩⟩, rfl⟩
  · have hge : i = tl.length := by simp at hc; omega
    subst hge
    rw [List.take_length] at ht
    refine goS ?_
    refine at_ret1 rfl rfl ⟨⟨-1, rfl, by omega, ?_⟩, rfl⟩
    rw [ht]
    simp
theorem containsFunc_ret {f : FuncId} [Fn0 Tryd.prog f] (first captured : List Value) (p : Int → Bool) (tv : Value) (tl : List Int) (F : List Nat) (w : World) (h : IntF w tv tl F)
    (hp : ∀ x w', Ret Tryd.prog f (first ++ [.int .i64 x] ++ captured) w' fun v w'' => v = .bool (p x) ∧ w'' = w') :
    Ret Tryd.prog 62 [tv, .func (.func f) first.toArray captured.toArray] w fun v w' => v = .bool (tl.any p) ∧ w' = w := by
  refine enter Tryd.func62 rfl Tryd.ntmps62 rfl rfl ?_
  refine goS ?_
  refine WO_call rfl (indexFunc_ret first captured p tv tl F w h hp) ?_
  rintro v w1 ⟨⟨i, rfl, hi, hany⟩, rfl⟩
  refine goS ?_
  refine at_ret1 rfl rfl ⟨congrArg Value.bool ?_, rfl⟩
  rw [Bool.eq_iff_iff, decide_eq_true_eq]
  exact hany
theorem typesOk1_ret (x : Int) (w : World) : Ret Tryd.prog 63 [.int .i64 x] w fun v w' => v = .bool (!decide (1 ≤ x ∧ x ≤ 4)) ∧ w' = w := by
  refine enter Tryd.func63 rfl Tryd.ntmps63 rfl rfl ?_
  refine goS ?_
  refine WO_call rfl (within_ret x 1 4 w) ?_
  rintro v w1 ⟨rfl, rfl⟩
  refine goS ?_
  exact at_ret1 rfl rfl ⟨rfl, rfl⟩
theorem typesOk_ret (tv : Value) (tl : List Int) (F : List Nat) (w : World) (h : IntF w tv tl F) : Ret Tryd.prog 47 [tv] w fun v w' => v = .bool (okT tl) ∧ w' = w := by
  obtain ⟨A, c, rfl, hl, hx⟩ := id h
  refine enter Tryd.func47 rfl Tryd.ntmps47 rfl rfl ?_
  have hok : okT tl = (decide (tl.length ≤ 6) && !(tl.any fun x => !decide (1 ≤ x ∧ x ≤ 4))) := by
    unfold okT
    rw [List.not_any_eq_all_not]
    simp
  clear hx
  (refine goS ?_; repeat' (first | ((refine Z51 rfl rfl (fun c' hc' => ?_)); cases c' <;> (try simp only [decide_eq_true_eq, decide_eq_false_iff_not, beq_iff_eq, beq_eq_false_iff_ne, bne_iff_ne, bne_eq_false_iff_eq, ne_eq, gt_iff_lt, ge_iff_le, Int.not_lt, Int.not_le, Bool.not_eq_true', Bool.not_eq_false', Bool.not_true, Bool.not_false, reduceCtorEq, Decidable.not_not, not_true_eq_false, Bool.true_eq_false, Bool.false_eq_true] at hc') <;> (try (exfalso; omega)) <;> refine goS ?_) | ((refine Z52 rfl (fun hc' => ?_) (fun hc' => ?_)) <;> (try simp only [decide_eq_true_eq, decide_eq_false_iff_not, beq_iff_eq, beq_eq_false_iff_ne, bne_iff_ne, bne_eq_false_iff_eq, ne_eq, gt_iff_lt, ge_iff_le, Int.not_lt, Int.not_le, Bool.not_eq_true', Bool.not_eq_false', Bool.not_true, Bool.not_false, reduceCtorEq, Decidable.not_not, not_true_eq_false, Bool.true_eq_false, Bool.false_eq_true] at hc') <;> (try (exfalso; omega)) <;> refine goS ?_)))
  · have h6 : ¬ tl.length ≤ 6 := by omega
    rw [decide_eq_false h6, Bool.false_and] at hok
    exact at_ret1 rfl rfl ⟨by rw [hok], rfl⟩
  · have h6 : tl.length ≤ 6 := by omega
    rw [decide_eq_true h6, Bool.true_and] at hok
    refine WO_call rfl (containsFunc_ret (f := 63) [] [] (fun x => !decide (1 ≤ x ∧ x ≤ 4)) _ tl F w h (fun x w' => typesOk1_ret x w')) ?_
    rintro v w1 ⟨rfl, rfl⟩
    refine goS ?_
    exact at_ret1 rfl rfl ⟨by rw [hok], rfl⟩

end Go.Proofs.YteonnoijdnjpdaaDoor
