/-
  What is proved here: the text that the reference's writer of programs returns.
-/
import Derived.Test.YteonnoijdnjpdaaDoorTxt
import Derived.Test.YteonnoijdnjpdaaDoorStr
import Derived.Test.YteonnoijdnjpdaaDoorStMk
import Derived.Test.YteonnoijdnjpdaaDoorRes
namespace Go.Proofs.YteonnoijdnjpdaaDoor
set_option linter.unusedVariables false
set_option linter.unusedSimpArgs false
set_option linter.unnecessarySimpa false
open Go.RowKit

theorem Ss.app_len0 {a : Ss} (h : a.len = 0) (b : Ss) : a.app b = b := by rw [Ss.len_zero h]; rfl
theorem lsT_app : ∀ a b : Ss, lsT (a.app b) = if a.len = 0 then lsT b else if b.len = 0 then lsT a else lsT a ++ 59 :: lsT b
  | .nil, b => by rw [if_pos (by rfl)]; rfl
  | .cons op x y n t e r, b => by
    have ih := lsT_app r b
    have hl := Ss.len_app r b
    rw [if_neg (by simp [Ss.len])]
    show itT op x y n (lsT t) (lsT e) ++ (if (r.app b).len = 0 then [] else 59 :: lsT (r.app b)) = _
    by_cases hb : b.len = 0
    · rw [if_pos hb, Ss.len_zero hb, Ss.app_nil]
      rfl
    · rw [if_neg hb, if_neg (by omega), ih]
      show _ = (itT op x y n (lsT t) (lsT e) ++ (if r.len = 0 then [] else 59 :: lsT r)) ++ 59 :: lsT b
      by_cases hr : r.len = 0
      · rw [if_pos hr, if_pos hr]
        simp
      · rw [if_neg hr, if_neg hr, if_neg hb]
        simp
theorem simT_len (op x y n : Int) : (simT op x y n).length ≤ 8 := by
  unfold simT
  repeat' split
  all_goals simp [wBox, wMut, wDrop]
theorem lsT_bound : ∀ l : Ss, (lsT l).length ≤ 9 * cntL l
  | .nil => by simp [lsT, cntL]
  | .cons op x y n t e r => by
    have h1 := lsT_bound t
    have h2 := lsT_bound e
    have h3 := lsT_bound r
    have h4 := simT_len op x y n
    have hi : (itT op x y n (lsT t) (lsT e)).length ≤ 8 + 9 * cntL t + 9 * cntL e := by
      unfold itT
      split
      · simp [wIf, wMid]; omega
      · split
        · simp [wLoop]; omega
        · omega
    simp only [lsT, cntL, List.length_append]
    split
    · simp; omega
    · simp; omega
def tyCh (t : Int) : UInt8 := if t = 1 then 105 else if t = 2 then 98 else if t = 3 then 114 else 109
/-- The text of a program. -/
def progT (tl : List Int) (l : Ss) : Tx := tl.map tyCh ++ (58 :: lsT l)
theorem chv_val {v : Int} (h : 0 ≤ v ∧ v ≤ 100) : (chv v).toNat = 97 + v.toNat := by
  unfold chv
  simp
  omega
theorem l1Letter_ret (v : Int) (w : World) (hv : 0 ≤ v ∧ v ≤ 100) : Ret Tryd.prog 57 [.int .i64 v] w fun r w' => r = sV [chv v] ∧ Ext w w' := by
  refine enter Tryd.func57 rfl Tryd.ntmps57 rfl rfl ?_
  refine goT ?_
  refine Z13 (q_toByte rfl (by omega)) ?_
  refine Z13 (q_addU8 rfl rfl (by omega)) ?_
  refine WO_byteStr (e := 5) (b := chv v) rfl (by rw [chv_val hv]; omega) fun w1 e1 z1 => ?_
  refine goT ?_
  exact at_ret1 rfl rfl ⟨rfl, e1⟩
theorem l17Dig_ret (v : Int) (w : World) (hv : 0 ≤ v ∧ v ≤ 9) : Ret Tryd.prog 58 [.int .i64 v] w fun r w' => r = sV [dgv v] ∧ Ext w w' := by
  have hd : (dgv v).toNat = 48 + v.toNat := dgv_nat hv
  refine enter Tryd.func58 rfl Tryd.ntmps58 rfl rfl ?_
  refine goT ?_
  rw [decide_eq_false (show ¬ v < -9223372036854775807 by omega)]
  refine goT ?_
  rw [decide_eq_false (show ¬ v < 0 by omega)]
  refine goT ?_
  refine W_loop (α := Unit) (fun _ => [(0, .int .i64 v), (3, sV [])]) (fun _ w' => w' = w) (fun _ => 0) () (by repeat (first | exact True.intro | refine And.intro rfl ?_)) rfl ?_
  rintro _ w' rfl
  refine goT ?_
  rw [decide_eq_false (show ¬ v > 9 by omega)]
  refine goT ?_
  refine Z13 (q_toByte rfl (by omega)) ?_
  refine WO_byteStr (e := 5) (b := dgv v) rfl (by omega) fun w1 e1 z1 => ?_
  refine goT ?_
  exact at_ret1 rfl rfl ⟨rfl, e1⟩
def LtP (l : Ss) : Prop := ∀ (tl : List Int) (d : Nat) v F w, okL tl d l = true → tl.length ≤ 6 → StS w v l F → cntL l ≤ 1000 → Ret Tryd.prog 45 [v] w fun r w' => r = sV (lsT l) ∧ Ext w w'
theorem l1Text_ret (tl : List Int) (d : Nat) (op x y n : Int) (t e : Ss) (vt ve : Value) (Ft Fe : List Nat) (w : World) (hok : okS tl d op x y n t e = true) (htl : tl.length ≤ 6) (ht : StS w vt t Ft) (he : StS w ve e Fe) (it : LtP t) (ie : LtP e) (ct : cntL t ≤ 1000) (ce : cntL e ≤ 1000) :
    Ret Tryd.prog 38 [stV op x y n vt ve] w fun r w' => r = sV (itT op x y n (lsT t) (lsT e)) ∧ Ext w w' := by
  have bt := lsT_bound t
  have be := lsT_bound e
  refine enter Tryd.func38 rfl Tryd.ntmps38 rfl rfl ?_
  refine Z43 (Z44 (WO_box rfl fun w1 hs e1 z1 => ?_))
  replace hs : Blk w1 w.heap.size [.int .i64 op, .int .i64 x, .int .i64 y, .int .i64 n, vt, ve] _ := hs
  unfold okS at hok
  by_cases h9 : op = 9 ∨ op = 10
  · rw [if_pos h9, Bool.and_eq_true, Bool.and_eq_true, decide_eq_true_eq] at hok
    obtain ⟨⟨⟨hd, hx, hy, hn, hel⟩, hT⟩, hE⟩ := hok
    refine goT ?_
    rw [decide_eq_false (show ¬ op < 9 by omega)]
    refine goT ?_
    rw [show (op == 1) = false from by simp; omega]
    refine goT ?_
    rw [show (op == 2) = false from by simp; omega]
    refine goT ?_
    rw [show (op == 3) = false from by simp; omega]
    refine goT ?_
    rw [show (op == 4) = false from by simp; omega]
    refine goT ?_
    rw [show (op == 5) = false from by simp; omega]
    refine goT ?_
    rw [show (op == 6) = false from by simp; omega]
    refine goT ?_
    rw [show (op == 7) = false from by simp; omega]
    refine goT ?_
    rw [show (op == 8) = false from by simp; omega]
    refine goT ?_
    rcases h9 with rfl | rfl
    · rw [show ((9 : Int) == 10) = false from rfl]
      refine goT ?_
      refine Z54 (by kernel_rfl) (by kernel_rfl) ?_
      repeat' (first | refine Z55 (Z56 rfl) ?_ | (refine Z57 ?_; first | refine Z58 rfl rfl (by decide) ?_ | refine Z59 rfl rfl (by decide) ?_ | refine Z60 rfl rfl ?_ | ((refine Z61 rfl rfl (fun c' hc' => ?_)); cases c' <;> (try simp only [decide_eq_true_eq, decide_eq_false_iff_not, beq_iff_eq, beq_eq_false_iff_ne, bne_iff_ne, bne_eq_false_iff_eq, ne_eq, gt_iff_lt, ge_iff_le, Int.not_lt, Int.not_le, Bool.not_eq_true', Bool.not_eq_false', Bool.not_true, Bool.not_false, reduceCtorEq, Decidable.not_not, not_true_eq_false, Bool.true_eq_false, Bool.false_eq_true] at hc') <;> (try (exfalso; omega)))) | (refine Z62 ?_; first | refine Z55 (Z63 rfl rfl) ?_ | refine Z55 (Z64 rfl rfl) ?_) | (refine Z65 ?_; first | refine Z55 (Z66 rfl (by assumption) (by rfl)) ?_ | refine Z55 (Z67 rfl (by assumption)) ?_) | (refine Z68 ?_; refine Z55 (Z69 rfl rfl rfl (by omega)) ?_) | (refine Z70 ?_; first | refine Z55 (Z14 rfl (by decide) rfl) ?_ | refine Z55 (Z15 rfl (by decide) rfl) ?_) | (refine Z71 ?_; first | refine Z55 (Z72 rfl) ?_ | refine Z55 (Z73 rfl) ?_) | (refine Z74 ?_; first | refine Z55 (Z75 rfl rfl (by omega)) ?_ | refine Z55 (Z76 rfl rfl (by omega)) ?_ | refine Z55 (Z77 rfl rfl (by omega)) ?_ | refine Z55 (Z78 rfl rfl (by omega) (by omega)) ?_ | refine Z55 (Z79 rfl rfl (by omega) (by omega) (by omega)) ?_ | refine Z55 (Z25 rfl rfl) ?_ | refine Z55 (Z26 rfl rfl) ?_) | (refine Z80 ?_; refine Z55 (Z28 rfl (Z53 ⟨by omega, by omega⟩)) ?_) | refine Z81 fun w' hw' => ?_)
      refine WQ_call rfl (fun w' hw' => it tl (d - 1) vt Ft w' hT htl ((ht.ext e1).ext hw') ct) ?_
      refine Z55 (Z87 rfl rfl (by simp; omega)) ?_
      refine Z55 (Z87 rfl rfl (by simp; omega)) ?_
      repeat' (first | refine Z55 (Z56 rfl) ?_ | (refine Z57 ?_; first | refine Z58 rfl rfl (by decide) ?_ | refine Z59 rfl rfl (by decide) ?_ | refine Z60 rfl rfl ?_ | ((refine Z61 rfl rfl (fun c' hc' => ?_)); cases c' <;> (try simp only [decide_eq_true_eq, decide_eq_false_iff_not, beq_iff_eq, beq_eq_false_iff_ne, bne_iff_ne, bne_eq_false_iff_eq, ne_eq, gt_iff_lt, ge_iff_le, Int.not_lt, Int.not_le, Bool.not_eq_true', Bool.not_eq_false', Bool.not_true, Bool.not_false, reduceCtorEq, Decidable.not_not, not_true_eq_false, Bool.true_eq_false, Bool.false_eq_true] at hc') <;> (try (exfalso; omega)))) | (refine Z62 ?_; first | refine Z55 (Z63 rfl rfl) ?_ | refine Z55 (Z64 rfl rfl) ?_) | (refine Z65 ?_; first | refine Z55 (Z66 rfl (by assumption) (by rfl)) ?_ | refine Z55 (Z67 rfl (by assumption)) ?_) | (refine Z68 ?_; refine Z55 (Z69 rfl rfl rfl (by omega)) ?_) | (refine Z70 ?_; first | refine Z55 (Z14 rfl (by decide) rfl) ?_ | refine Z55 (Z15 rfl (by decide) rfl) ?_) | (refine Z71 ?_; first | refine Z55 (Z72 rfl) ?_ | refine Z55 (Z73 rfl) ?_) | (refine Z74 ?_; first | refine Z55 (Z75 rfl rfl (by omega)) ?_ | refine Z55 (Z76 rfl rfl (by omega)) ?_ | refine Z55 (Z77 rfl rfl (by omega)) ?_ | refine Z55 (Z78 rfl rfl (by omega) (by omega)) ?_ | refine Z55 (Z79 rfl rfl (by omega) (by omega) (by omega)) ?_ | refine Z55 (Z25 rfl rfl) ?_ | refine Z55 (Z26 rfl rfl) ?_) | (refine Z80 ?_; refine Z55 (Z28 rfl (Z53 ⟨by omega, by omega⟩)) ?_) | refine Z81 fun w' hw' => ?_)
      refine WQ_call rfl (fun w' hw' => ie tl (d - 1) ve Fe w' hE htl ((he.ext e1).ext hw') ce) ?_
      refine Z55 (Z87 rfl rfl (by simp; omega)) ?_
      refine Z55 (Z87 rfl rfl (by simp; omega)) ?_
      repeat' (first | refine Z55 (Z56 rfl) ?_ | (refine Z57 ?_; first | refine Z58 rfl rfl (by decide) ?_ | refine Z59 rfl rfl (by decide) ?_ | refine Z60 rfl rfl ?_ | ((refine Z61 rfl rfl (fun c' hc' => ?_)); cases c' <;> (try simp only [decide_eq_true_eq, decide_eq_false_iff_not, beq_iff_eq, beq_eq_false_iff_ne, bne_iff_ne, bne_eq_false_iff_eq, ne_eq, gt_iff_lt, ge_iff_le, Int.not_lt, Int.not_le, Bool.not_eq_true', Bool.not_eq_false', Bool.not_true, Bool.not_false, reduceCtorEq, Decidable.not_not, not_true_eq_false, Bool.true_eq_false, Bool.false_eq_true] at hc') <;> (try (exfalso; omega)))) | (refine Z62 ?_; first | refine Z55 (Z63 rfl rfl) ?_ | refine Z55 (Z64 rfl rfl) ?_) | (refine Z65 ?_; first | refine Z55 (Z66 rfl (by assumption) (by rfl)) ?_ | refine Z55 (Z67 rfl (by assumption)) ?_) | (refine Z68 ?_; refine Z55 (Z69 rfl rfl rfl (by omega)) ?_) | (refine Z70 ?_; first | refine Z55 (Z14 rfl (by decide) rfl) ?_ | refine Z55 (Z15 rfl (by decide) rfl) ?_) | (refine Z71 ?_; first | refine Z55 (Z72 rfl) ?_ | refine Z55 (Z73 rfl) ?_) | (refine Z74 ?_; first | refine Z55 (Z75 rfl rfl (by omega)) ?_ | refine Z55 (Z76 rfl rfl (by omega)) ?_ | refine Z55 (Z77 rfl rfl (by omega)) ?_ | refine Z55 (Z78 rfl rfl (by omega) (by omega)) ?_ | refine Z55 (Z79 rfl rfl (by omega) (by omega) (by omega)) ?_ | refine Z55 (Z25 rfl rfl) ?_ | refine Z55 (Z26 rfl rfl) ?_) | (refine Z80 ?_; refine Z55 (Z28 rfl (Z53 ⟨by omega, by omega⟩)) ?_) | refine Z81 fun w' hw' => ?_)
      refine goT ?_
      refine at_ret1 rfl rfl ⟨?_, e1.trans hw'⟩
      exact congrArg sV (by simp [itT, wIf, wMid])
    · refine goT ?_
      refine WO_call rfl (it tl (d - 1) vt Ft w1 hT htl (ht.ext e1) ct) ?_
      rintro _ w2 ⟨rfl, e2⟩
      refine goT ?_
      refine at_ret1 rfl rfl ⟨?_, e1.trans e2⟩
      exact congrArg sV (by simp [itT, wLoop])
  · rw [if_neg h9, decide_eq_true_eq] at hok
    obtain ⟨a1, a2, a3, a4, _, _⟩ := simple_form hok htl
    refine goT ?_
    rw [decide_eq_true (show op < 9 by omega)]
    refine goT ?_
    refine WO_call rfl (l1Letter_ret x w1 (by omega)) ?_
    rintro _ w2 ⟨rfl, e2⟩
    replace hs := hs.ext e2
    refine goT ?_
    refine WO_call rfl (l1Letter_ret y w2 (by omega)) ?_
    rintro _ w3 ⟨rfl, e3⟩
    replace hs := hs.ext e3
    have e0 := (e1.trans e2).trans e3
    have hop' : op = 1 ∨ op = 2 ∨ op = 3 ∨ op = 4 ∨ op = 5 ∨ op = 6 ∨ op = 7 ∨ op = 8 := by omega
    rcases hop' with rfl | rfl | rfl | rfl | rfl | rfl | rfl | rfl
    · refine goT ?_
      refine WO_call rfl (l17Dig_ret n w3 (by omega)) ?_
      rintro _ w4 ⟨rfl, e4⟩
      refine goT ?_
      exact at_ret1 rfl rfl ⟨rfl, e0.trans e4⟩
    · refine goT ?_
      refine WO_call rfl (l17Dig_ret n w3 (by omega)) ?_
      rintro _ w4 ⟨rfl, e4⟩
      refine goT ?_
      exact at_ret1 rfl rfl ⟨rfl, e0.trans e4⟩
    · refine goT ?_
      exact at_ret1 rfl rfl ⟨rfl, e0⟩
    · refine goT ?_
      exact at_ret1 rfl rfl ⟨rfl, e0⟩
    · refine goT ?_
      exact at_ret1 rfl rfl ⟨rfl, e0⟩
    · refine goT ?_
      exact at_ret1 rfl rfl ⟨rfl, e0⟩
    · refine goT ?_
      exact at_ret1 rfl rfl ⟨rfl, e0⟩
    · refine goT ?_
      exact at_ret1 rfl rfl ⟨rfl, e0⟩
theorem l1List_all (l : Ss) : LtP l := Ss.strong (fun l ih => by
  intro tl d v F w hok htl h hn
  obtain ⟨A, c, rfl, hl, _⟩ := h.slice
  have hst := restS_start h
  unfold maxI at hl
  have hlc := len_le_cntL l
  refine enter Tryd.func45 rfl Tryd.ntmps45 rfl rfl ?_
  refine goT ?_
  refine W_loop (α := Nat × Ss × Ss) (fun p => [(0, .slice A l.len c), (3, sV (lsT p.2.1)), (4, .int .i64 (p.1 : Int))])
    (fun p w' => p.2.1.app p.2.2 = l ∧ p.2.1.len = p.1 ∧ RestS w A p.1 p.2.2 ∧ okL tl d p.2.2 = true ∧ Ext w w') (fun p => p.2.2.len) (0, .nil, l) (by repeat (first | exact True.intro | refine And.intro rfl ?_))
    ⟨rfl, rfl, hst, hok, Ext.refl _⟩ ?_
  rintro ⟨i, dl, r⟩ w1 ⟨hap, hdl, hr, hokr, he⟩
  simp only at hap hdl hr hokr he ⊢
  have hlen : dl.len + r.len = l.len := by rw [← hap, Ss.len_app]
  have hcn : cntL dl + cntL r = cntL l := by rw [← hap, cntL_app]
  refine goT ?_
  refine Z52 rfl (fun hc => ?_) (fun hc => ?_)
  · have hlt : i < l.len := by simpa using hc
    cases r with
    | nil => simp only [Ss.len] at hlen; omega
    | cons op x y n t e r =>
      obtain ⟨b, o, vt, ve, Ft, Fe, rfl, hcells, hT, hE, hrest⟩ := restS_cons hr
      simp only [Ss.len, cntL] at hlen hcn
      rw [okL_cons, Bool.and_eq_true] at hokr
      have hbd := lsT_bound dl
      have hbt := lsT_bound t
      have hbe := lsT_bound e
      have hit : (itT op x y n (lsT t) (lsT e)).length ≤ 9 * (1 + cntL t + cntL e) := by
        have := lsT_bound (.cons op x y n t e .nil)
        simpa [lsT, Ss.len, cntL] using this
      have hsn : lsT (dl.snoc op x y n t e) = (if i = 0 then [] else lsT dl ++ [59]) ++ itT op x y n (lsT t) (lsT e) := by
        unfold Ss.snoc
        rw [lsT_app, hdl]
        have h1 : lsT (Ss.one op x y n t e) = itT op x y n (lsT t) (lsT e) := by simp [Ss.one, lsT, Ss.len]
        rw [h1]
        by_cases h0 : i = 0
        · rw [if_pos h0, if_pos h0]; rfl
        · rw [if_neg h0, if_neg h0, if_neg (by simp [Ss.one, Ss.len])]
          simp
      refine goT ?_
      refine W_cut [(0, .slice (some ⟨b, o, none⟩) l.len c), (3, sV (if i = 0 then [] else lsT dl ++ [59])), (4, .int .i64 (i : Int))] (Ext w) ?_ (fun w2 e2 => ?_)
      · by_cases h0 : i = 0
        · rw [if_pos h0]
          subst h0
          have hd0 := Ss.len_zero hdl
          subst hd0
          rw [show decide (((0 : Nat) : Int) > 0) = false from by decide]
          refine goT ?_
          exact at_meets (by repeat (first | exact True.intro | refine And.intro rfl ?_)) he
        · rw [if_neg h0, decide_eq_true (show (i : Int) > 0 by omega)]
          refine goT ?_
          exact at_meets (by repeat (first | exact True.intro | refine And.intro rfl ?_)) he
      · have hql : (if i = 0 then ([] : Tx) else lsT dl ++ [59]).length ≤ 9 * cntL dl + 1 := by
          split
          · simp
          · simp; omega
        have cells : ∀ j u, [Value.int .i64 op, .int .i64 x, .int .i64 y, .int .i64 n, vt, ve][j]? = some u → w2.cell? ⟨b, o + i * 6 + j, none⟩ = some u := fun j u hu => cell_ext (hcells j u hu) e2
        generalize hq : (if i = 0 then ([] : Tx) else lsT dl ++ [59]) = q at hsn hql ⊢
        refine goT ?_
        refine Z83 rfl rfl rfl hlt ?_
        refine WO_loadS rfl rfl cells ?_
        refine WO_call rfl (l1Text_ret tl d op x y n t e vt ve Ft Fe w2 hokr.1 htl (hT.ext e2) (hE.ext e2) (ih t (by omega)) (ih e (by omega)) (by omega) (by omega)) ?_
        rintro _ w3 ⟨rfl, e3⟩
        refine Z13 (Z87 rfl rfl (by omega)) ?_
        rw [← hsn]
        refine goT ?_
        exact at_loop (i + 1, dl.snoc op x y n t e, r) (by repeat (first | exact True.intro | refine And.intro rfl ?_)) ⟨by rw [Ss.snoc_app]; exact hap, by simp only; rw [Ss.len_snoc]; omega, hrest, hokr.2, e2.trans e3⟩ (by simp only [Ss.len]; omega)
  · have hge : i = l.len := by simp at hc; omega
    have hr0 : r = .nil := Ss.len_zero (by omega)
    subst hr0
    rw [Ss.app_nil] at hap
    subst hap
    refine goT ?_
    exact at_ret1 rfl rfl ⟨rfl, he⟩) l
theorem okT_at {tl : List Int} (h : okT tl = true) {i : Nat} (hi : i < tl.length) : 1 ≤ tl[i] ∧ tl[i] ≤ 4 := by
  unfold okT at h
  rw [Bool.and_eq_true, List.all_eq_true] at h
  simpa using h.2 _ (List.getElem_mem hi)
theorem okT_len {tl : List Int} (h : okT tl = true) : tl.length ≤ 6 := by
  unfold okT at h
  rw [Bool.and_eq_true] at h
  simpa using h.1
theorem l1Program_ret (tv bv : Value) (tl : List Int) (l : Ss) (Ft F : List Nat) (w : World) (ht : IntF w tv tl Ft) (h : StS w bv l F) (hv : validP tl l = true) :
    Ret Tryd.prog 23 [prV tv bv] w fun r w' => r = sV (progT tl l) ∧ Ext w w' := by
  unfold validP at hv
  rw [Bool.and_eq_true, Bool.and_eq_true, decide_eq_true_eq] at hv
  obtain ⟨hT, hL, hC⟩ := hv
  have htl := okT_len hT
  obtain ⟨A, c, rfl, hl, hx⟩ := ht
  refine enter Tryd.func23 rfl Tryd.ntmps23 rfl rfl ?_
  refine Z43 (Z44 (WO_box rfl fun w1 hs e1 z1 => ?_))
  replace hs : Blk w1 w.heap.size [.slice A tl.length c, bv] _ := hs
  refine goT ?_
  refine W_loop (α := Nat) (fun i => [(1, .pointer (some ⟨w.heap.size, 0, none⟩)), (3, sV ((tl.take i).map tyCh)), (4, .int .i64 (i : Int))])
    (fun i w' => i ≤ tl.length ∧ Ext w1 w') (fun i => tl.length - i) 0 (by repeat (first | exact True.intro | refine And.intro rfl ?_)) ⟨Nat.zero_le _, Ext.refl _⟩ ?_
  rintro i w2 ⟨hi, he⟩
  have hs2 := hs.ext he
  refine goT ?_
  refine Z52 rfl (fun hc => ?_) (fun hc => ?_)
  · have hlt : i < tl.length := by simpa using hc
    obtain ⟨b, o, rfl, _, hcell⟩ := int_at hx hlt
    have hr := okT_at hT hlt
    refine goT ?_
    refine WO_build (e := 9) (k := 1) [.const (.string ⟨#[]⟩), .const (.string ⟨#[105]⟩), .const (.string ⟨#[98]⟩), .const (.string ⟨#[114]⟩), .const (.string ⟨#[109]⟩)] (vs := [sV [], sV [105], sV [98], sV [114], sV [109]]) (cs := [sV [], sV [105], sV [98], sV [114], sV [109]]) rfl rfl rfl (by decide) (by decide) (by simp [Value.cells]) (by simp [Value.cells]) fun w3 hb3 e3 z3 => ?_
    have hs3 := hs2.ext e3
    have hcell := cell_ext hcell ((e1.trans he).trans e3)
    refine goT ?_
    refine Z83 rfl rfl rfl hlt ?_
    refine goT ?_
    obtain ⟨k, hk⟩ : ∃ k : Nat, tl[i] = (k : Int) := ⟨tl[i].toNat, by omega⟩
    have hk4 : k < 5 := by omega
    refine Z83 (j := k) rfl rfl hk hk4 ?_
    have hcs : [sV [], sV [105], sV [98], sV [114], sV [109]][k]? = some (sV [tyCh tl[i]]) := by
      have h5 : k = 1 ∨ k = 2 ∨ k = 3 ∨ k = 4 := by omega
      rw [hk]
      rcases h5 with rfl | rfl | rfl | rfl <;> rfl
    have hcell2 : w3.cell? ⟨w2.heap.size, 0 + k * 1, none⟩ = some (sV [tyCh tl[i]]) := by rw [Nat.zero_add, Nat.mul_one]; exact hb3.cell hcs
    refine Z11 rfl hcell2 ?_
    refine Z13 (Z87 rfl rfl (by simp; omega)) ?_
    have hsn : (tl.take i).map tyCh ++ [tyCh tl[i]] = (tl.take (i + 1)).map tyCh := by rw [List.take_succ_eq_append_getElem hlt, List.map_append]; rfl
    rw [hsn]
    refine goT ?_
    exact at_loop (i + 1) (by repeat (first | exact True.intro | refine And.intro rfl ?_)) ⟨hlt, he.trans e3⟩ (by omega)
  · have hge : i = tl.length := by simp at hc; omega
    subst hge
    rw [List.take_length]
    have hb := lsT_bound l
    refine goT ?_
    refine Z13 (Z87 rfl rfl (by simp; omega)) ?_
    refine goT ?_
    refine WO_call rfl (l1List_all l tl 4 bv F w2 hL htl (h.ext (e1.trans he)) (by omega)) ?_
    rintro _ w3 ⟨rfl, e3⟩
    refine Z13 (Z87 rfl rfl (by simp; omega)) ?_
    refine goT ?_
    refine at_ret1 rfl rfl ⟨?_, (e1.trans he).trans e3⟩
    exact congrArg sV (by simp [progT])
end Go.Proofs.YteonnoijdnjpdaaDoor
