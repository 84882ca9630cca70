/-
  What is proved here: the text that the reference's writer of programs returns; regions that draw their order and change memory: what yields its value in every world that meets S is taken first; the rest comes up one at a time. No function of the program stands here; regions that draw their order, call and store, where of what stood at the start only some blocks change. No function of the program stands here; regions that append to a slice that a struct's field holds, and store the result back, whatever their order. No function of the program stands here; changes between two places of memory. No function of the program stands here; the laws' copies of programs, what marks do to them, and what held answers; what is appended is an empty slice. No function of the program stands here; the program's and the reference's copies of numbers, statements and programs.
-/
import Derived.Test.YtplcmbipeanjdaaGreatDoorM5
import Derived.Test.YtplcmbipeanjdaaGreatDoorM4
import Derived.OrdersHeld
import Derived.Test.YtplcmbipeanjdaaGreatDoorM3
namespace Go.Proofs.YtplcmbipeanjdaaGreatDoor
set_option linter.unusedVariables false
set_option linter.unusedSimpArgs false
set_option linter.unnecessarySimpa false
open Go.RowKit

theorem Ss.app_len0 {a : Ss} (h : a.len = 0) (b : Ss) : a.app b = b := by rw [Ss.len_zero h]; rfl
theorem lsT_app : ∀ a b : Ss, lsT (a.app b) = if a.len = 0 then lsT b else if b.len = 0 then lsT a else lsT a ++ 59 :: lsT b
  | .nil, b => by rw [if_pos (by rfl)]; rfl
  | .cons op x y n t e r, b => by
    have ih := lsT_app r b
    have hl := Ss.len_app r b
    rw [if_neg (by simp [Ss.len])]
    show itT op x y n (lsT t) (lsT e) ++ (if (r.app b).len = 0 then [] else 59 :: lsT (r.app b)) = _
    by_cases hb : b.len = 0
    · rw [if_pos hb, Ss.len_zero hb, Ss.app_nil]
      rfl
    · rw [if_neg hb, if_neg (by omega), ih]
      show _ = (itT op x y n (lsT t) (lsT e) ++ (if r.len = 0 then [] else 59 :: lsT r)) ++ 59 :: lsT b
      by_cases hr : r.len = 0
      · rw [if_pos hr, if_pos hr]
        simp
      · rw [if_neg hr, if_neg hr, if_neg hb]
        simp
theorem simT_len (op x y n : Int) : (simT op x y n).length ≤ 8 := by
  unfold simT
  repeat' split
  all_goals simp [wBox, wMut, wDrop]
theorem lsT_bound : ∀ l : Ss, (lsT l).length ≤ 9 * cntL l
  | .nil => by simp [lsT, cntL]
  | .cons op x y n t e r => by
    have h1 := lsT_bound t
    have h2 := lsT_bound e
    have h3 := lsT_bound r
    have h4 := simT_len op x y n
    have hi : (itT op x y n (lsT t) (lsT e)).length ≤ 8 + 9 * cntL t + 9 * cntL e := by
      unfold itT
      split
      · simp [wIf, wMid]; omega
      · split
        · simp [wLoop]; omega
        · omega
    simp only [lsT, cntL, List.length_append]
    split
    · simp; omega
    · simp; omega
def tyCh (t : Int) : UInt8 := if t = 1 then 105 else if t = 2 then 98 else if t = 3 then 114 else 109
/-- The text of a program. -/
def progT (tl : List Int) (l : Ss) : Tx := tl.map tyCh ++ (58 :: lsT l)
theorem chv_val {v : Int} (h : 0 ≤ v ∧ v ≤ 100) : (chv v).toNat = 97 + v.toNat := by
  unfold chv
  simp
  omega
theorem l1Letter_ret (v : Int) (w : World) (hv : 0 ≤ v ∧ v ≤ 100) : Ret Tryz.prog 82 [.int .i64 v] w fun r w' => r = sV [chv v] ∧ Ext w w' := by
  refine enter Tryz.func82 rfl Tryz.ntmps82 rfl rfl ?_
  refine goT ?_
  refine Z13 (q_toByte rfl (by omega)) ?_
  refine Z13 (q_addU8 rfl rfl (by omega)) ?_
  refine WO_byteStr (e := 5) (b := chv v) rfl (by rw [chv_val hv]; omega) fun w1 e1 z1 => ?_
  refine goT ?_
  exact at_ret1 rfl rfl ⟨rfl, e1⟩
theorem l17Dig_ret (v : Int) (w : World) (hv : 0 ≤ v ∧ v ≤ 9) : Ret Tryz.prog 83 [.int .i64 v] w fun r w' => r = sV [dgv v] ∧ Ext w w' := by
  have hd : (dgv v).toNat = 48 + v.toNat := dgv_nat hv
  refine enter Tryz.func83 rfl Tryz.ntmps83 rfl rfl ?_
  refine goT ?_
  rw [decide_eq_false (show ¬ v < -9223372036854775807 by omega)]
  refine goT ?_
  rw [decide_eq_false (show ¬ v < 0 by omega)]
  refine goT ?_
  refine W_loop (α := Unit) (fun _ => [(0, .int .i64 v), (3, sV [])]) (fun _ w' => w' = w) (fun _ => 0) () (by repeat (first | exact True.intro | refine And.intro rfl ?_)) rfl ?_
  rintro _ w' rfl
  refine goT ?_
  rw [decide_eq_false (show ¬ v > 9 by omega)]
  refine goT ?_
  refine Z13 (q_toByte rfl (by omega)) ?_
  refine WO_byteStr (e := 5) (b := dgv v) rfl (by omega) fun w1 e1 z1 => ?_
  refine goT ?_
  exact at_ret1 rfl rfl ⟨rfl, e1⟩
def LtP (l : Ss) : Prop := ∀ (tl : List Int) (d : Nat) v F w, okL tl d l = true → tl.length ≤ 6 → StS w v l F → cntL l ≤ 1000 → Ret Tryz.prog 40 [v] w fun r w' => r = sV (lsT l) ∧ Ext w w'
theorem l1Text_ret (tl : List Int) (d : Nat) (op x y n : Int) (t e : Ss) (vt ve : Value) (Ft Fe : List Nat) (w : World) (hok : okS tl d op x y n t e = true) (htl : tl.length ≤ 6) (ht : StS w vt t Ft) (he : StS w ve e Fe) (it : LtP t) (ie : LtP e) (ct : cntL t ≤ 1000) (ce : cntL e ≤ 1000) :
    Ret Tryz.prog 63 [stV op x y n vt ve] w fun r w' => r = sV (itT op x y n (lsT t) (lsT e)) ∧ Ext w w' := by
  have bt := lsT_bound t
  have be := lsT_bound e
  refine enter Tryz.func63 rfl Tryz.ntmps63 rfl rfl ?_
  refine Z43 (Z44 (WO_box rfl fun w1 hs e1 z1 => ?_))
  replace hs : Blk w1 w.heap.size [.int .i64 op, .int .i64 x, .int .i64 y, .int .i64 n, vt, ve] _ := hs
  unfold okS at hok
  by_cases h9 : op = 9 ∨ op = 10
  · rw [if_pos h9, Bool.and_eq_true, Bool.and_eq_true, decide_eq_true_eq] at hok
    obtain ⟨⟨⟨hd, hx, hy, hn, hel⟩, hT⟩, hE⟩ := hok
    refine goT ?_
    rw [decide_eq_false (show ¬ op < 9 by omega)]
    refine goT ?_
    rw [show (op == 1) = false from by simp; omega]
    refine goT ?_
    rw [show (op == 2) = false from by simp; omega]
    refine goT ?_
    rw [show (op == 3) = false from by simp; omega]
    refine goT ?_
    rw [show (op == 4) = false from by simp; omega]
    refine goT ?_
    rw [show (op == 5) = false from by simp; omega]
    refine goT ?_
    rw [show (op == 6) = false from by simp; omega]
    refine goT ?_
    rw [show (op == 7) = false from by simp; omega]
    refine goT ?_
    rw [show (op == 8) = false from by simp; omega]
    refine goT ?_
    rcases h9 with rfl | rfl
    · rw [show ((9 : Int) == 10) = false from rfl]
      refine goT ?_
      refine Z54 (by kernel_rfl) (by kernel_rfl) ?_
      repeat' (first | refine Z55 (Z56 rfl) ?_ | (refine Z57 ?_; first | refine Z58 rfl rfl (by decide) ?_ | refine Z59 rfl rfl (by decide) ?_ | refine Z60 rfl rfl ?_ | ((refine Z61 rfl rfl (fun c' hc' => ?_)); cases c' <;> (try simp only [decide_eq_true_eq, decide_eq_false_iff_not, beq_iff_eq, beq_eq_false_iff_ne, bne_iff_ne, bne_eq_false_iff_eq, ne_eq, gt_iff_lt, ge_iff_le, Int.not_lt, Int.not_le, Bool.not_eq_true', Bool.not_eq_false', Bool.not_true, Bool.not_false, reduceCtorEq, Decidable.not_not, not_true_eq_false, Bool.true_eq_false, Bool.false_eq_true] at hc') <;> (try (exfalso; omega)))) | (refine Z62 ?_; first | refine Z55 (Z63 rfl rfl) ?_ | refine Z55 (Z64 rfl rfl) ?_) | (refine Z65 ?_; first | refine Z55 (Z66 rfl (by assumption) (by rfl)) ?_ | refine Z55 (Z67 rfl (by assumption)) ?_) | (refine Z68 ?_; refine Z55 (Z69 rfl rfl rfl (by omega)) ?_) | (refine Z70 ?_; first | refine Z55 (Z14 rfl (by decide) rfl) ?_ | refine Z55 (Z15 rfl (by decide) rfl) ?_) | (refine Z71 ?_; first | refine Z55 (Z72 rfl) ?_ | refine Z55 (Z73 rfl) ?_) | (refine Z74 ?_; first | refine Z55 (Z75 rfl rfl (by omega)) ?_ | refine Z55 (Z76 rfl rfl (by omega)) ?_ | refine Z55 (Z77 rfl rfl (by omega)) ?_ | refine Z55 (Z78 rfl rfl (by omega) (by omega)) ?_ | refine Z55 (Z79 rfl rfl (by omega) (by omega) (by omega)) ?_ | refine Z55 (Z25 rfl rfl) ?_ | refine Z55 (Z26 rfl rfl) ?_) | (refine Z80 ?_; refine Z55 (Z28 rfl (Z53 ⟨by omega, by omega⟩)) ?_) | refine Z81 fun w' hw' => ?_)
      refine WQ_call rfl (fun w' hw' => it tl (d - 1) vt Ft w' hT htl ((ht.ext e1).ext hw') ct) ?_
      refine Z55 (Z87 rfl rfl (by simp; omega)) ?_
      refine Z55 (Z87 rfl rfl (by simp; omega)) ?_
      repeat' (first | refine Z55 (Z56 rfl) ?_ | (refine Z57 ?_; first | refine Z58 rfl rfl (by decide) ?_ | refine Z59 rfl rfl (by decide) ?_ | refine Z60 rfl rfl ?_ | ((refine Z61 rfl rfl (fun c' hc' => ?_)); cases c' <;> (try simp only [decide_eq_true_eq, decide_eq_false_iff_not, beq_iff_eq, beq_eq_false_iff_ne, bne_iff_ne, bne_eq_false_iff_eq, ne_eq, gt_iff_lt, ge_iff_le, Int.not_lt, Int.not_le, Bool.not_eq_true', Bool.not_eq_false', Bool.not_true, Bool.not_false, reduceCtorEq, Decidable.not_not, not_true_eq_false, Bool.true_eq_false, Bool.false_eq_true] at hc') <;> (try (exfalso; omega)))) | (refine Z62 ?_; first | refine Z55 (Z63 rfl rfl) ?_ | refine Z55 (Z64 rfl rfl) ?_) | (refine Z65 ?_; first | refine Z55 (Z66 rfl (by assumption) (by rfl)) ?_ | refine Z55 (Z67 rfl (by assumption)) ?_) | (refine Z68 ?_; refine Z55 (Z69 rfl rfl rfl (by omega)) ?_) | (refine Z70 ?_; first | refine Z55 (Z14 rfl (by decide) rfl) ?_ | refine Z55 (Z15 rfl (by decide) rfl) ?_) | (refine Z71 ?_; first | refine Z55 (Z72 rfl) ?_ | refine Z55 (Z73 rfl) ?_) | (refine Z74 ?_; first | refine Z55 (Z75 rfl rfl (by omega)) ?_ | refine Z55 (Z76 rfl rfl (by omega)) ?_ | refine Z55 (Z77 rfl rfl (by omega)) ?_ | refine Z55 (Z78 rfl rfl (by omega) (by omega)) ?_ | refine Z55 (Z79 rfl rfl (by omega) (by omega) (by omega)) ?_ | refine Z55 (Z25 rfl rfl) ?_ | refine Z55 (Z26 rfl rfl) ?_) | (refine Z80 ?_; refine Z55 (Z28 rfl (Z53 ⟨by omega, by omega⟩)) ?_) | refine Z81 fun w' hw' => ?_)
      refine WQ_call rfl (fun w' hw' => ie tl (d - 1) ve Fe w' hE htl ((he.ext e1).ext hw') ce) ?_
      refine Z55 (Z87 rfl rfl (by simp; omega)) ?_
      refine Z55 (Z87 rfl rfl (by simp; omega)) ?_
      repeat' (first | refine Z55 (Z56 rfl) ?_ | (refine Z57 ?_; first | refine Z58 rfl rfl (by decide) ?_ | refine Z59 rfl rfl (by decide) ?_ | refine Z60 rfl rfl ?_ | ((refine Z61 rfl rfl (fun c' hc' => ?_)); cases c' <;> (try simp only [decide_eq_true_eq, decide_eq_false_iff_not, beq_iff_eq, beq_eq_false_iff_ne, bne_iff_ne, bne_eq_false_iff_eq, ne_eq, gt_iff_lt, ge_iff_le, Int.not_lt, Int.not_le, Bool.not_eq_true', Bool.not_eq_false', Bool.not_true, Bool.not_false, reduceCtorEq, Decidable.not_not, not_true_eq_false, Bool.true_eq_false, Bool.false_eq_true] at hc') <;> (try (exfalso; omega)))) | (refine Z62 ?_; first | refine Z55 (Z63 rfl rfl) ?_ | refine Z55 (Z64 rfl rfl) ?_) | (refine Z65 ?_; first | refine Z55 (Z66 rfl (by assumption) (by rfl)) ?_ | refine Z55 (Z67 rfl (by assumption)) ?_) | (refine Z68 ?_; refine Z55 (Z69 rfl rfl rfl (by omega)) ?_) | (refine Z70 ?_; first | refine Z55 (Z14 rfl (by decide) rfl) ?_ | refine Z55 (Z15 rfl (by decide) rfl) ?_) | (refine Z71 ?_; first | refine Z55 (Z72 rfl) ?_ | refine Z55 (Z73 rfl) ?_) | (refine Z74 ?_; first | refine Z55 (Z75 rfl rfl (by omega)) ?_ | refine Z55 (Z76 rfl rfl (by omega)) ?_ | refine Z55 (Z77 rfl rfl (by omega)) ?_ | refine Z55 (Z78 rfl rfl (by omega) (by omega)) ?_ | refine Z55 (Z79 rfl rfl (by omega) (by omega) (by omega)) ?_ | refine Z55 (Z25 rfl rfl) ?_ | refine Z55 (Z26 rfl rfl) ?_) | (refine Z80 ?_; refine Z55 (Z28 rfl (Z53 ⟨by omega, by omega⟩)) ?_) | refine Z81 fun w' hw' => ?_)
      refine goT ?_
      refine at_ret1 rfl rfl ⟨?_, e1.trans hw'⟩
      exact congrArg sV (by simp [itT, wIf, wMid])
    · refine goT ?_
      refine WO_call rfl (it tl (d - 1) vt Ft w1 hT htl (ht.ext e1) ct) ?_
      rintro _ w2 ⟨rfl, e2⟩
      refine goT ?_
      refine at_ret1 rfl rfl ⟨?_, e1.trans e2⟩
      exact congrArg sV (by simp [itT, wLoop])
  · rw [if_neg h9, decide_eq_true_eq] at hok
    obtain ⟨a1, a2, a3, a4, _, _⟩ := simple_form hok htl
    refine goT ?_
    rw [decide_eq_true (show op < 9 by omega)]
    refine goT ?_
    refine WO_call rfl (l1Letter_ret x w1 (by omega)) ?_
    rintro _ w2 ⟨rfl, e2⟩
    replace hs := hs.ext e2
    refine goT ?_
    refine WO_call rfl (l1Letter_ret y w2 (by omega)) ?_
    rintro _ w3 ⟨rfl, e3⟩
    replace hs := hs.ext e3
    have e0 := (e1.trans e2).trans e3
    have hop' : op = 1 ∨ op = 2 ∨ op = 3 ∨ op = 4 ∨ op = 5 ∨ op = 6 ∨ op = 7 ∨ op = 8 := by omega
    rcases hop' with rfl | rfl | rfl | rfl | rfl | rfl | rfl | rfl
    · refine goT ?_
      refine WO_call rfl (l17Dig_ret n w3 (by omega)) ?_
      rintro _ w4 ⟨rfl, e4⟩
      refine goT ?_
      exact at_ret1 rfl rfl ⟨rfl, e0.trans e4⟩
    · refine goT ?_
      refine WO_call rfl (l17Dig_ret n w3 (by omega)) ?_
      rintro _ w4 ⟨rfl, e4⟩
      refine goT ?_
      exact at_ret1 rfl rfl ⟨rfl, e0.trans e4⟩
    · refine goT ?_
      exact at_ret1 rfl rfl ⟨rfl, e0⟩
    · refine goT ?_
      exact at_ret1 rfl rfl ⟨rfl, e0⟩
    · refine goT ?_
      exact at_ret1 rfl rfl ⟨rfl, e0⟩
    · refine goT ?_
      exact at_ret1 rfl rfl ⟨rfl, e0⟩
    · refine goT ?_
      exact at_ret1 rfl rfl ⟨rfl, e0⟩
    · refine goT ?_
      exact at_ret1 rfl rfl ⟨rfl, e0⟩
theorem l1List_all (l : Ss) : LtP l := Ss.strong (fun l ih => by
  intro tl d v F w hok htl h hn
  obtain ⟨A, c, rfl, hl, _⟩ := h.slice
  have hst := restS_start h
  unfold maxI at hl
  have hlc := len_le_cntL l
  refine enter Tryz.func40 rfl Tryz.ntmps40 rfl rfl ?_
  refine goT ?_
  refine W_loop (α := Nat × Ss × Ss) (fun p => [(0, .slice A l.len c), (3, sV (lsT p.2.1)), (4, .int .i64 (p.1 : Int))])
    (fun p w' => p.2.1.app p.2.2 = l ∧ p.2.1.len = p.1 ∧ RestS w A p.1 p.2.2 ∧ okL tl d p.2.2 = true ∧ Ext w w') (fun p => p.2.2.len) (0, .nil, l) (by repeat (first | exact True.intro | refine And.intro rfl ?_))
    ⟨rfl, rfl, hst, hok, Ext.refl _⟩ ?_
  rintro ⟨i, dl, r⟩ w1 ⟨hap, hdl, hr, hokr, he⟩
  simp only at hap hdl hr hokr he ⊢
  have hlen : dl.len + r.len = l.len := by rw [← hap, Ss.len_app]
  have hcn : cntL dl + cntL r = cntL l := by rw [← hap, cntL_app]
  refine goT ?_
  refine Z52 rfl (fun hc => ?_) (fun hc => ?_)
  · have hlt : i < l.len := by simpa using hc
    cases r with
    | nil => simp only [Ss.len] at hlen; omega
    | cons op x y n t e r =>
      obtain ⟨b, o, vt, ve, Ft, Fe, rfl, hcells, hT, hE, hrest⟩ := restS_cons hr
      simp only [Ss.len, cntL] at hlen hcn
      rw [okL_cons, Bool.and_eq_true] at hokr
      have hbd := lsT_bound dl
      have hbt := lsT_bound t
      have hbe := lsT_bound e
      have hit : (itT op x y n (lsT t) (lsT e)).length ≤ 9 * (1 + cntL t + cntL e) := by
        have := lsT_bound (.cons op x y n t e .nil)
        simpa [lsT, Ss.len, cntL] using this
      have hsn : lsT (dl.snoc op x y n t e) = (if i = 0 then [] else lsT dl ++ [59]) ++ itT op x y n (lsT t) (lsT e) := by
        unfold Ss.snoc
        rw [lsT_app, hdl]
        have h1 : lsT (Ss.one op x y n t e) = itT op x y n (lsT t) (lsT e) := by simp [Ss.one, lsT, Ss.len]
        rw [h1]
        by_cases h0 : i = 0
        · rw [if_pos h0, if_pos h0]; rfl
        · rw [if_neg h0, if_neg h0, if_neg (by simp [Ss.one, Ss.len])]
          simp
      refine goT ?_
      refine W_cut [(0, .slice (some ⟨b, o, none⟩) l.len c), (3, sV (if i = 0 then [] else lsT dl ++ [59])), (4, .int .i64 (i : Int))] (Ext w) ?_ (fun w2 e2 => ?_)
      · by_cases h0 : i = 0
        · rw [if_pos h0]
          subst h0
          have hd0 := Ss.len_zero hdl
          subst hd0
          rw [show decide (((0 : Nat) : Int) > 0) = false from by decide]
          refine goT ?_
          exact at_meets (by repeat (first | exact True.intro | refine And.intro rfl ?_)) he
        · rw [if_neg h0, decide_eq_true (show (i : Int) > 0 by omega)]
          refine goT ?_
          exact at_meets (by repeat (first | exact True.intro | refine And.intro rfl ?_)) he
      · have hql : (if i = 0 then ([] : Tx) else lsT dl ++ [59]).length ≤ 9 * cntL dl + 1 := by
          split
          · simp
          · simp; omega
        have cells : ∀ j u, [Value.int .i64 op, .int .i64 x, .int .i64 y, .int .i64 n, vt, ve][j]? = some u → w2.cell? ⟨b, o + i * 6 + j, none⟩ = some u := fun j u hu => cell_ext (hcells j u hu) e2
        generalize hq : (if i = 0 then ([] : Tx) else lsT dl ++ [59]) = q at hsn hql ⊢
        refine goT ?_
        refine Z83 rfl rfl rfl hlt ?_
        refine WO_loadS rfl rfl cells ?_
        refine WO_call rfl (l1Text_ret tl d op x y n t e vt ve Ft Fe w2 hokr.1 htl (hT.ext e2) (hE.ext e2) (ih t (by omega)) (ih e (by omega)) (by omega) (by omega)) ?_
        rintro _ w3 ⟨rfl, e3⟩
        refine Z13 (Z87 rfl rfl (by omega)) ?_
        rw [← hsn]
        refine goT ?_
        exact at_loop (i + 1, dl.snoc op x y n t e, r) (by repeat (first | exact True.intro | refine And.intro rfl ?_)) ⟨by rw [Ss.snoc_app]; exact hap, by simp only; rw [Ss.len_snoc]; omega, hrest, hokr.2, e2.trans e3⟩ (by simp only [Ss.len]; omega)
  · have hge : i = l.len := by simp at hc; omega
    have hr0 : r = .nil := Ss.len_zero (by omega)
    subst hr0
    rw [Ss.app_nil] at hap
    subst hap
    refine goT ?_
    exact at_ret1 rfl rfl ⟨rfl, he⟩) l
theorem okT_at {tl : List Int} (h : okT tl = true) {i : Nat} (hi : i < tl.length) : 1 ≤ tl[i] ∧ tl[i] ≤ 4 := by
  unfold okT at h
  rw [Bool.and_eq_true, List.all_eq_true] at h
  simpa using h.2 _ (List.getElem_mem hi)
theorem okT_len {tl : List Int} (h : okT tl = true) : tl.length ≤ 6 := by
  unfold okT at h
  rw [Bool.and_eq_true] at h
  simpa using h.1
theorem l1Program_ret (tv bv : Value) (tl : List Int) (l : Ss) (Ft F : List Nat) (w : World) (ht : IntF w tv tl Ft) (h : StS w bv l F) (hv : validP tl l = true) :
    Ret Tryz.prog 20 [prV tv bv] w fun r w' => r = sV (progT tl l) ∧ Ext w w' := by
  unfold validP at hv
  rw [Bool.and_eq_true, Bool.and_eq_true, decide_eq_true_eq] at hv
  obtain ⟨hT, hL, hC⟩ := hv
  have htl := okT_len hT
  obtain ⟨A, c, rfl, hl, hx⟩ := ht
  refine enter Tryz.func20 rfl Tryz.ntmps20 rfl rfl ?_
  refine Z43 (Z44 (WO_box rfl fun w1 hs e1 z1 => ?_))
  replace hs : Blk w1 w.heap.size [.slice A tl.length c, bv] _ := hs
  refine goT ?_
  refine W_loop (α := Nat) (fun i => [(1, .pointer (some ⟨w.heap.size, 0, none⟩)), (3, sV ((tl.take i).map tyCh)), (4, .int .i64 (i : Int))])
    (fun i w' => i ≤ tl.length ∧ Ext w1 w') (fun i => tl.length - i) 0 (by repeat (first | exact True.intro | refine And.intro rfl ?_)) ⟨Nat.zero_le _, Ext.refl _⟩ ?_
  rintro i w2 ⟨hi, he⟩
  have hs2 := hs.ext he
  refine goT ?_
  refine Z52 rfl (fun hc => ?_) (fun hc => ?_)
  · have hlt : i < tl.length := by simpa using hc
    obtain ⟨b, o, rfl, _, hcell⟩ := int_at hx hlt
    have hr := okT_at hT hlt
    refine goT ?_
    refine WO_build (e := 9) (k := 1) [.const (.string ⟨#[]⟩), .const (.string ⟨#[105]⟩), .const (.string ⟨#[98]⟩), .const (.string ⟨#[114]⟩), .const (.string ⟨#[109]⟩)] (vs := [sV [], sV [105], sV [98], sV [114], sV [109]]) (cs := [sV [], sV [105], sV [98], sV [114], sV [109]]) rfl rfl rfl (by decide) (by decide) (by simp [Value.cells]) (by simp [Value.cells]) fun w3 hb3 e3 z3 => ?_
    have hs3 := hs2.ext e3
    have hcell := cell_ext hcell ((e1.trans he).trans e3)
    refine goT ?_
    refine Z83 rfl rfl rfl hlt ?_
    refine goT ?_
    obtain ⟨k, hk⟩ : ∃ k : Nat, tl[i] = (k : Int) := ⟨tl[i].toNat, by omega⟩
    have hk4 : k < 5 := by omega
    refine Z83 (j := k) rfl rfl hk hk4 ?_
    have hcs : [sV [], sV [105], sV [98], sV [114], sV [109]][k]? = some (sV [tyCh tl[i]]) := by
      have h5 : k = 1 ∨ k = 2 ∨ k = 3 ∨ k = 4 := by omega
      rw [hk]
      rcases h5 with rfl | rfl | rfl | rfl <;> rfl
    have hcell2 : w3.cell? ⟨w2.heap.size, 0 + k * 1, none⟩ = some (sV [tyCh tl[i]]) := by rw [Nat.zero_add, Nat.mul_one]; exact hb3.cell hcs
    refine Z11 rfl hcell2 ?_
    refine Z13 (Z87 rfl rfl (by simp; omega)) ?_
    have hsn : (tl.take i).map tyCh ++ [tyCh tl[i]] = (tl.take (i + 1)).map tyCh := by rw [List.take_succ_eq_append_getElem hlt, List.map_append]; rfl
    rw [hsn]
    refine goT ?_
    exact at_loop (i + 1) (by repeat (first | exact True.intro | refine And.intro rfl ?_)) ⟨hlt, he.trans e3⟩ (by omega)
  · have hge : i = tl.length := by simp at hc; omega
    subst hge
    rw [List.take_length]
    have hb := lsT_bound l
    refine goT ?_
    refine Z13 (Z87 rfl rfl (by simp; omega)) ?_
    refine goT ?_
    refine WO_call rfl (l1List_all l tl 4 bv F w2 hL htl (h.ext (e1.trans he)) (by omega)) ?_
    rintro _ w3 ⟨rfl, e3⟩
    refine Z13 (Z87 rfl rfl (by simp; omega)) ?_
    refine goT ?_
    refine at_ret1 rfl rfl ⟨?_, (e1.trans he).trans e3⟩
    exact congrArg sV (by simp [progT])
end Go.Proofs.YtplcmbipeanjdaaGreatDoor
namespace Go.Proofs.YtplcmbipeanjdaaGreatDoor
set_option linter.unusedVariables false
set_option linter.unusedSimpArgs false
set_option linter.unnecessarySimpa false
open Go.RowKit

/-- A post that gives some frame behind a piece of code. -/
def MeetsE (n : Nat) (T : Env → World → Prop) : Exit → Act → World → Prop
  | .normal, a, w => ∃ τ, Fits n τ a ∧ T τ w
  | _, _, _ => False
theorem W_cutE {P : Program} {n : Nat} {Q : Exit → Act → World → Prop} {σ : Env} {w : World} {x : Code} (T : Env → World → Prop) (h : W P n x (MeetsE n T) σ w) (k : ∀ τ w', T τ w' → AtQ n Q .normal τ w') : W P n x Q σ w := by
  refine ⟨fun hok a hf => ?_⟩
  refine wp_mono (h.run hok a hf) fun e a' w' q => ?_
  cases e with
  | normal =>
    obtain ⟨τ, q1, q2⟩ := q
    exact (k τ w' q2).run a' q1
  | _ => exact q.elim
/-- One frame and a condition on worlds. -/
def TM (τ : Env) (R : World → Prop) : Env → World → Prop := fun τ' w => τ' = τ ∧ R w
/-- The region's operations that are not listed yet come up in whatever order; behind all of them frames fit τ and worlds meet R. -/
structure WH (P : Program) (n : Nat) (ops : List Oper) (T : Env → World → Prop) (S : World → Prop) (fuel : Nat) (listed : List Bool) (σ : Env) (w : World) : Prop where
  run : ops.all (dstOk n) = true → ∀ a, Fits n σ a → wpAnyH P .any ops.toArray (MeetsE n T) S fuel listed.toArray a w
section
variable {P : Program} {n : Nat} {ops : List Oper} {τ σ : Env} {T : Env → World → Prop} {R S : World → Prop} {fuel : Nat} {listed : List Bool} {w : World} {Q : Exit → Act → World → Prop} {v : Value}
theorem W_held {id : Nat} (T : Env → World → Prop) (S : World → Prop) (hm : P.follows .mixedOrders = true) (hS : S w.drew) (h : WH P n ops T S ops.length (List.replicate ops.length false) σ w.drew) (k : ∀ τ w', T τ w' → AtQ n Q .normal τ w') :
    W P n (.region id ops.toArray true) Q σ w := by
  refine W_cutE T ⟨fun hok a hf => ?_⟩ k
  refine wp_region_held (S := S) hm ?_
  have := h.run (by simpa [codeOk] using hok) a hf
  rw [List.size_toArray, ← List.toArray_replicate]
  exact this
theorem meets_no {o : Oper} : ∀ c a w, MeetsE n T (.panic c) (a.put o.dst v) w → MeetsE n T (.panic c) a w := fun _ _ _ h => h.elim
/-- What yields its value in every world that meets S is taken. -/
theorem WH_take (i : Nat) {d : Nat} {op : Op} {ty : TypeId} {pos : String} {af : Array Edge} (hi : ops[i]? = some ⟨some d, op, ty, pos, af, none⟩) (hs : Region.noSelect ops.toArray = true) (hf : Region.free .any ops.toArray listed.toArray i = true)
    (hr : (Region.ready .any ops.toArray listed.toArray).contains i = true) (hS : S w) (hd : ∀ w', S w' → DoesQ P ⟨some d, op, ty, pos, af, none⟩ σ w' v) (h : WH P n ops T S fuel (listed.set i true) ((d, v) :: σ) w) : WH P n ops T S (fuel + 1) listed σ w := by
  refine ⟨fun hok a hfit => ?_⟩
  have hi' : ops.toArray[i]? = some ⟨some d, op, ty, pos, af, none⟩ := by simpa using hi
  have hdst : dstOk n ⟨some d, op, ty, pos, af, none⟩ = true := List.all_eq_true.1 hok _ (List.mem_of_getElem? hi)
  refine wpAnyH_take hi' hs hf hr meets_no (.inl ⟨by simp [Region.wanted], fun w' hw' => ((hd w' hw').run w' (Ext.refl w')).run n a hfit⟩) hS ?_
  have := h.run hok _ (hfit.put (o := ⟨some d, op, ty, pos, af, none⟩) v hdst)
  simpa using this
/-- The next post: S holds and the rest goes on. -/
def HeldQ (P : Program) (n : Nat) (ops : List Oper) (T : Env → World → Prop) (S : World → Prop) (fuel : Nat) (listed : List Bool) : Exit → Act → World → Prop
  | .normal, a, w => S w ∧ (ops.all (dstOk n) = true → wpAnyH P .any ops.toArray (MeetsE n T) S fuel listed.toArray a w)
  | _, _, _ => False
theorem at_held (hS : S w) (h : WH P n ops T S fuel listed σ w) : AtQ n (HeldQ P n ops T S fuel listed) .normal σ w := ⟨fun a hf => ⟨hS, fun hok => h.run hok a hf⟩⟩
theorem wpOp_of_WO {i : Nat} {o : Oper} (hi : ops[i]? = some o) (h : WO P n ops.toArray (HeldQ P n ops T S fuel (listed.set i true)) [o] σ w) (hok : ops.all (dstOk n) = true) {a : Act} (hfit : Fits n σ a) :
    wpOp P ops.toArray (MeetsE n T) i (fun a' w' => S w' ∧ wpAnyH P .any ops.toArray (MeetsE n T) S fuel (listed.toArray.setIfInBounds i true) a' w') a w := by
  have hi' : ops.toArray[i]? = some o := by simpa using hi
  have hw := h.run (by simp [List.all_eq_true.1 hok _ (List.mem_of_getElem? hi)]) a hfit
  unfold wpList at hw
  unfold wpOp
  rw [hi']
  show if Region.wanted o (yielded ops.toArray a.tmps) = true then _ else _
  split
  · rename_i hwt
    rw [if_pos hwt] at hw
    rcases hw with q | ⟨_, a0, w0, q⟩
    · refine .inl ?_
      unfold Oper.wp at q ⊢
      generalize (execOp a.eval o).run P w = r at *
      cases r with
      | ok nx w' =>
        cases nx <;> simp only [Oper.upon] at q ⊢ <;>
          first
            | exact ⟨q.1, by simpa using q.2 hok⟩
            | exact Calls.mono q (fun e w'' he => by
                cases e with
                | returned u => exact ⟨he.1, by simpa using he.2 hok⟩
                | panicked u => exact he.elim
                | outgrown => obtain ⟨_, _, hh⟩ := he; exact hh.elim)
            | exact Go.Rows.mono q (fun _ _ he => ⟨he.1, by simpa using he.2 hok⟩)
      | halt hx w' => cases hx <;> simp only [Oper.upon] at q ⊢ <;> exact q.elim
    · exact q.elim
  · rename_i hwt
    rw [if_neg hwt] at hw
    exact ⟨hw.1, by simpa using hw.2 hok⟩
/-- One operation can come up, and is carried out. -/
theorem WH_one (i : Nat) {o : Oper} (hi : ops[i]? = some o) (hr : Region.ready .any ops.toArray listed.toArray = [i]) (h : WO P n ops.toArray (HeldQ P n ops T S fuel (listed.set i true)) [o] σ w) : WH P n ops T S (fuel + 1) listed σ w :=
  ⟨fun hok a hfit => wpAnyH_all hr (by simp) fun j hj => by
    obtain rfl : j = i := by simpa using hj
    exact wpOp_of_WO hi h hok hfit⟩
/-- One of two operations can come up. -/
theorem WH_two (i k : Nat) {o o' : Oper} (hi : ops[i]? = some o) (hk : ops[k]? = some o') (hr : Region.ready .any ops.toArray listed.toArray = [i, k])
    (h : WO P n ops.toArray (HeldQ P n ops T S fuel (listed.set i true)) [o] σ w) (h' : WO P n ops.toArray (HeldQ P n ops T S fuel (listed.set k true)) [o'] σ w) : WH P n ops T S (fuel + 1) listed σ w :=
  ⟨fun hok a hfit => wpAnyH_all hr (by simp) fun j hj => by
    simp only [List.mem_cons, List.not_mem_nil, or_false] at hj
    rcases hj with rfl | rfl
    · exact wpOp_of_WO hi h hok hfit
    · exact wpOp_of_WO hk h' hok hfit⟩
theorem WH_doneE (hr : Region.ready .any ops.toArray listed.toArray = []) (hs : Sub τ σ) (hT : T τ w) : WH P n ops T S fuel listed σ w := ⟨fun _ a hf => wpAnyH_done hr ⟨τ, hf.sub hs, hT⟩ fuel⟩
theorem WH_done (hr : Region.ready .any ops.toArray listed.toArray = []) (hs : Sub τ σ) (hR : R w) : WH P n ops (TM τ R) S fuel listed σ w := WH_doneE hr hs ⟨rfl, hR⟩
end
end Go.Proofs.YtplcmbipeanjdaaGreatDoor
namespace Go.Proofs.YtplcmbipeanjdaaGreatDoor
set_option linter.unusedVariables false
set_option linter.unusedSimpArgs false
set_option linter.unnecessarySimpa false
open Go.RowKit
section
variable {P : Program} {n : Nat} {ops : List Oper} {τ σ : Env} {T : Env → World → Prop} {R S : World → Prop} {fuel : Nat} {listed : List Bool} {w w0 : World} {Q : Exit → Act → World → Prop} {v : Value} {G : List Nat}
theorem Chg.drew (h : Chg G w0 w) : Chg G w0 w.drew := ⟨h.os, h.tape, h.output, h.size, h.block⟩
theorem W_held0 {id : Nat} (G : List Nat) (τ : Env) (R : World → Prop) (hm : P.follows .mixedOrders = true) (h : ∀ w1, Ext w w1 → Chg G w1 w1 → WH P n ops (TM τ R) (Chg G w1) ops.length (List.replicate ops.length false) σ w1) (k : ∀ w', R w' → AtQ n Q .normal τ w') :
    W P n (.region id ops.toArray true) Q σ w :=
  W_held (TM τ R) (Chg G w.drew) hm (Chg.refl _ _) (h w.drew (Ext.drew (Ext.refl w)) (Chg.refl _ _)) (by rintro τ' w' ⟨rfl, hR⟩; exact k w' hR)
/-- The frame behind it may hold values that come up in it. -/
theorem W_held0E {id : Nat} (G : List Nat) (T : Env → World → Prop) (hm : P.follows .mixedOrders = true) (h : ∀ w1, Ext w w1 → Chg G w1 w1 → WH P n ops T (Chg G w1) ops.length (List.replicate ops.length false) σ w1) (k : ∀ τ w', T τ w' → AtQ n Q .normal τ w') :
    W P n (.region id ops.toArray true) Q σ w :=
  W_held T (Chg G w.drew) hm (Chg.refl _ _) (h w.drew (Ext.drew (Ext.refl w)) (Chg.refl _ _)) k
/-- All that stood before stays; the frame behind it is known. -/
theorem W_heldX {id : Nat} (τ : Env) (hm : P.follows .mixedOrders = true) (h : ∀ w1, Ext w w1 → Chg [] w1 w1 → WH P n ops (TM τ (Ext w)) (Chg [] w1) ops.length (List.replicate ops.length false) σ w1) (k : ∀ w', Ext w w' → AtQ n Q .normal τ w') :
    W P n (.region id ops.toArray true) Q σ w := W_held0 [] τ (Ext w) hm h k
theorem Z82 (i : Nat) {d : Nat} {op : Op} {ty : TypeId} {pos : String} {af : Array Edge} (hi : ops[i]? = some ⟨some d, op, ty, pos, af, none⟩) (hs : Region.noSelect ops.toArray = true) (hf : Region.free .any ops.toArray listed.toArray i = true)
    (hr : (Region.ready .any ops.toArray listed.toArray).contains i = true) (hS : Chg G w0 w) (hd : ∀ w', Chg G w0 w' → DoesQ P ⟨some d, op, ty, pos, af, none⟩ σ w' v) (h : WH P n ops T (Chg G w0) fuel (listed.set i true) ((d, v) :: σ) w) : WH P n ops T (Chg G w0) (fuel + 1) listed σ w :=
  WH_take i hi hs hf hr hS hd h
theorem WX_call (i : Nat) {d : Nat} {ty : TypeId} {pos : String} {af : Array Edge} {f : FuncId} [Fn0 P f] {args : List Operand} {vs : List Value} {ats : Array TypeId} {Post : Value → World → Prop}
    (hi : ops[i]? = some ⟨some d, .call ⟨.value (.func f), args.toArray, ats⟩, ty, pos, af, none⟩) (hr : Region.ready .any ops.toArray listed.toArray = [i]) (ha : evs σ args = some vs) (hc : Ret P f vs w Post)
    (h : ∀ u w', Post u w' → Chg G w0 w' ∧ WH P n ops T (Chg G w0) fuel (listed.set i true) ((d, u) :: σ) w') : WH P n ops T (Chg G w0) (fuel + 1) listed σ w :=
  WH_one i hi hr (WO_call ha hc fun u w' hp => Z31 (at_held (h u w' hp).1 (h u w' hp).2))
end
end Go.Proofs.YtplcmbipeanjdaaGreatDoor
namespace Go.Proofs.YtplcmbipeanjdaaGreatDoor
set_option linter.unusedVariables false
set_option linter.unusedSimpArgs false
set_option linter.unnecessarySimpa false
open Go.RowKit

theorem look_skip {σ : Env} {d s : Nat} {x v : Value} (h : look σ s = some v) (hne : Nat.beq d s = false) : look ((d, x) :: σ) s = some v := by
  simp [look, hne, h]
theorem look_passed {σ : Env} {d s : Nat} {x : Value} (hne : Nat.beq d s = false) : look ((d, x) :: σ) s = look σ s := by
  simp [look, hne]
/-- A frame that was filled at a few slots only. -/
def Kept (ds : List Nat) (σ σ' : Env) : Prop := ∀ s, ds.all (fun d => !Nat.beq d s) = true → look σ' s = look σ s
theorem Kept.refl (ds : List Nat) (σ : Env) : Kept ds σ σ := fun _ _ => rfl
theorem Kept.put {ds : List Nat} {σ σ' : Env} {d : Nat} {v : Value} (h : Kept ds σ σ') (hd : d ∈ ds) : Kept ds σ ((d, v) :: σ') := fun s hs => by
  have h1 : Nat.beq d s = false := by
    have := List.all_eq_true.1 hs d hd
    simpa using this
  rw [look_passed h1, h s hs]
theorem Kept.mono {ds es : List Nat} {σ σ' : Env} (h : Kept ds σ σ') (hs : ∀ d ∈ ds, d ∈ es) : Kept es σ σ' := fun s hq => h s (List.all_eq_true.2 fun d hd => List.all_eq_true.1 hq d (hs d hd))
theorem sub_kept {ds : List Nat} {τ σ σ' : Env} (hs : Sub τ σ) (hk : Kept ds σ σ') (ht : τ.all (fun p => ds.all fun d => !Nat.beq d p.1) = true) : Sub τ σ' := by
  induction τ with
  | nil => trivial
  | cons p τ ih =>
    obtain ⟨d, v⟩ := p
    simp only [List.all_cons, Bool.and_eq_true] at ht
    exact ⟨by rw [hk d ht.1]; exact hs.1, ih hs.2 ht.2⟩
theorem one_of_row {w : World} {B e k m : Nat} {v : Value} {xs : List Value} (h : w.ownsRow B e k v m xs) : v.oneCell' = true := by
  obtain ⟨_, ⟨rfl, _⟩ | ⟨g, cap, cur, rfl, _⟩⟩ := h <;> rfl

section
variable {P : Program} {n : Nat} {ops : List Oper} {σ τ : Env} {T : Env → World → Prop} {fuel : Nat} {listed : List Bool} {w w0 : World} {v u : Value} {G : List Nat}
variable {ty ty' tp tt : TypeId} {pos pos' : String} {af af' : Array Edge}
/-- What is appended is there; then the result is stored. -/
theorem WH_appSt (i3 i5 i4 : Nat) {t e k bytes B m b o mm c d1 d2 d3 da dp pb f ts ks ty5 : Nat} {pos5 : String} {af5 : Array Edge} {z : Value} [TSl P t e k] [TE P e z k bytes] [T1 P tt] [TS P ts ks] {xs news cs : List Value}
    (hi3 : ops[i3]? = some ⟨some d3, .call ⟨.builtin .append, #[.tmp d1, .tmp d2], #[t, t]⟩, ty, pos, af, none⟩)
    (hi5 : ops[i5]? = some ⟨some da, .fieldAddr ts (.tmp dp) f, ty5, pos5, af5, none⟩)
    (hi4 : ops[i4]? = some ⟨none, .store tt (.tmp da) (.tmp d3), ty', pos', af', none⟩)
    (hr3 : Region.ready .any ops.toArray listed.toArray = [i3])
    (hr5 : Region.ready .any ops.toArray (listed.set i3 true).toArray = [i5])
    (hr4 : Region.ready .any ops.toArray ((listed.set i3 true).set i5 true).toArray = [i4])
    (h1 : look σ d1 = some v) (h2 : look σ d2 = some (.slice (some ⟨b, o, none⟩) mm c)) (hdp : look σ dp = some (.pointer (some ⟨pb, 0, none⟩))) (hne : Nat.beq d3 dp = false ∧ Nat.beq da d3 = false) (hfk : Nat.blt f ks = true)
    (hown : w.ownsRow B e k v m xs) (hl : news.length = mm * k) (hc : ∀ j u, news[j]? = some u → w.cell? ⟨b, o + j, none⟩ = some u) (h1c : ∀ u ∈ news, u.oneCell' = true)
    (hB : B ≤ w.heap.size) (hk : 0 < k) (hm : m + mm ≤ 1000000000000) (hby : bytes ≤ 100)
    (hp : Blk w pb cs tp) (hf : f < cs.length) (hvp : v.ownBlock ≠ some pb)
    (hG : ∀ w', Chg (pb :: v.ownBlock.toList) w w' → Chg G w0 w')
    (h : ∀ v' w', Blk w' pb (cs.set f v') tp → w'.ownsRow B e k v' (m + mm) (xs ++ news) → Chg (pb :: v.ownBlock.toList) w w' → (v'.ownBlock = v.ownBlock ∨ v'.ownBlock = some w.heap.size) →
      WH P n ops T (Chg G w0) fuel (((listed.set i3 true).set i5 true).set i4 true) ((da, .pointer (some ⟨pb, f, none⟩)) :: (d3, v') :: σ) w') :
    WH P n ops T (Chg G w0) (fuel + 3) listed σ w := by
  refine WH_one i3 hi3 hr3 (WO_append (B := B) h1 hown h2 hl hc h1c hB hk hm hby fun v' w1 k1 k2 k3 => Z31 (at_held (hG _ ((grown_chg k2).mono (by intro x hx; simp at hx; simp [hx]))) ?_))
  have hp1 : Blk w1 pb cs tp := hp.grown k2 (fun e => hvp e.symm)
  have hvp' : v'.ownBlock ≠ some pb := by
    rcases k3 with k3 | k3
    · rw [k3]; exact hvp
    · rw [k3]
      intro e
      have := hp.lt
      have := Option.some.inj e
      omega
  have c1 : Chg (pb :: v.ownBlock.toList) w w1 := (grown_chg k2).mono (by intro x hx; simp at hx; simp [hx])
  refine WH_one i5 hi5 hr5 (Z7 (look_skip hdp hne.1) hfk (Z31 (at_held (hG _ c1) ?_)))
  refine WH_one i4 hi4 hr4 (WO_store1 (look_cons_same _ _ _) (look_skip (look_cons_same _ _ _) hne.2) (one_of_row k1) hp1 hf fun w2 hp2 o2 => ?_)
  have c2 : Chg (pb :: v.ownBlock.toList) w w2 := c1.trans (o2.chg.mono (by simp))
  exact Z31 (at_held (hG _ c2) (h v' w2 hp2 (ownsRow_only k1 o2 hvp') c2 k3))
/-- The slice is loaded and the literal built, whichever first. -/
theorem WH_loadBuild (i1 i2 : Nat) {t e k bytes d1 d2 dl dx pb f : Nat} {z : Value} [TSl P t e k] [TE P e z k bytes] [T1 P tt] {cs : List Value}
    (hi1 : ops[i1]? = some ⟨some d1, .load tt (.tmp dl), ty, pos, af, none⟩)
    (hi2 : ops[i2]? = some ⟨some d2, .buildSlice t 1 #[(0, .tmp dx)], ty', pos', af', none⟩)
    (hr : Region.ready .any ops.toArray listed.toArray = [i1, i2])
    (hra : Region.ready .any ops.toArray (listed.set i1 true).toArray = [i2])
    (hrb : Region.ready .any ops.toArray (listed.set i2 true).toArray = [i1])
    (hne : i1 ≠ i2) (hd : (Nat.beq d1 d2 = false ∧ Nat.beq d2 d1 = false) ∧ Nat.beq d1 dx = false ∧ Nat.beq d2 dl = false)
    (hdl : look σ dl = some (.pointer (some ⟨pb, f, none⟩))) (hx : look σ dx = some u) (hu : u.cells.size = k) (hk : (0 < k && Nat.ble k 1000) = true)
    (hp : Blk w pb cs tp) (hv : cs[f]? = some v)
    (hG : ∀ w', Ext w w' → Chg G w0 w')
    (h : ∀ σ' w', look σ' d1 = some v → look σ' d2 = some (.slice (some ⟨w.heap.size, 0, none⟩) 1 1) → Kept [d1, d2] σ σ' → Blk w' w.heap.size u.cells.toList e → Ext w w' → w'.heap.size = w.heap.size + 1 →
      WH P n ops T (Chg G w0) fuel ((listed.set i1 true).set i2 true) σ' w') :
    WH P n ops T (Chg G w0) (fuel + 2) listed σ w := by
  simp only [Bool.and_eq_true, decide_eq_true_eq] at hk
  have hk2 := Nat.le_of_ble_eq_true hk.2
  obtain ⟨⟨ha, hb⟩, hc, hd⟩ := hd
  have hS := hG w (Ext.refl w)
  refine WH_two i1 i2 hi1 hi2 hr ?_ ?_
  · refine Z10 (o := f) hdl hp hv (Z31 (at_held hS (WH_one i2 hi2 hra ?_)))
    refine WO_build (e := e) (k := k) [.tmp dx] (vs := [u]) (cs := u.cells.toList) rfl (by simp [evs, ev, look_skip hx hc]) rfl (by rw [Nat.ble_eq]; omega) (by rw [Nat.ble_eq]; omega) (by simp [hu]) (by simp) fun w1 hb1 he1 hz1 => ?_
    exact Z31 (at_held (hG _ he1) (h _ w1 (look_skip (look_cons_same _ _ _) hb) (look_cons_same _ _ _) (((Kept.refl _ _).put (by simp)).put (by simp)) hb1 he1 hz1))
  · refine WO_build (e := e) (k := k) [.tmp dx] (vs := [u]) (cs := u.cells.toList) rfl (by simp [evs, ev, hx]) rfl (by rw [Nat.ble_eq]; omega) (by rw [Nat.ble_eq]; omega) (by simp [hu]) (by simp) fun w1 hb1 he1 hz1 => ?_
    refine Z31 (at_held (hG _ he1) (WH_one i1 hi1 hrb (Z10 (o := f) (look_skip hdl hd) (hp.ext he1) hv (Z31 (at_held (hG _ he1) ?_)))))
    rw [List.set_comm _ _ hne.symm]
    exact h _ w1 (look_cons_same _ _ _) (look_skip (look_cons_same _ _ _) ha) (((Kept.refl _ _).put (by simp)).put (by simp)) hb1 he1 hz1
/-- What is built is there already; the slice is loaded. -/
theorem WH_load (i1 : Nat) {d1 dl pb f : Nat} [T1 P tt] {cs : List Value}
    (hi1 : ops[i1]? = some ⟨some d1, .load tt (.tmp dl), ty, pos, af, none⟩) (hr : Region.ready .any ops.toArray listed.toArray = [i1])
    (hdl : look σ dl = some (.pointer (some ⟨pb, f, none⟩))) (hp : Blk w pb cs tp) (hv : cs[f]? = some v) (hS : Chg G w0 w)
    (h : WH P n ops T (Chg G w0) fuel (listed.set i1 true) ((d1, v) :: σ) w) : WH P n ops T (Chg G w0) (fuel + 1) listed σ w :=
  WH_one i1 hi1 hr (Z10 (o := f) hdl hp hv (Z31 (at_held hS h)))
end
end Go.Proofs.YtplcmbipeanjdaaGreatDoor
namespace Go.Proofs.YtplcmbipeanjdaaGreatDoor
set_option linter.unusedVariables false
set_option linter.unusedSimpArgs false
set_option linter.unnecessarySimpa false
open Go.RowKit

/-- Only blocks from B up to U have changed, of what was there. -/
structure ChgI (B U : Nat) (w w' : World) : Prop where
  os : w'.os = w.os
  tape : w'.tape = w.tape
  output : w'.output = w.output
  size : w.heap.size ≤ w'.heap.size
  block : ∀ k, k < w.heap.size → ¬ (B ≤ k ∧ k < U) → w'.heap[k]? = w.heap[k]?
theorem Chg.toI {F : List Nat} {w w' : World} {B U : Nat} (h : Chg F w w') (hF : ∀ b ∈ F, B ≤ b ∧ b < U) : ChgI B U w w' := ⟨h.os, h.tape, h.output, h.size, fun k hk hn => h.block k hk fun hm => hn (hF k hm)⟩
theorem Ext.chgI {w0 w w' : World} {B U : Nat} (h : Ext w0 w) (k : ChgI B U w w') (hB : w0.heap.size ≤ B) : Ext w0 w' :=
  ⟨k.os.trans h.os, k.tape.trans h.tape, k.output.trans h.output, Nat.le_trans h.size k.size, fun i hi => (k.block i (Nat.lt_of_lt_of_le hi h.size) (by omega)).trans (h.block i hi)⟩
theorem Blk.chgI {w w' : World} {b B U : Nat} {cs : List Value} {t : TypeId} (h : Blk w b cs t) (k : ChgI B U w w') (hb : b < B ∨ U ≤ b) : Blk w' b cs t := (k.block b h.lt (by omega)).trans h
theorem ChgI.toChg {B U : Nat} {w w' : World} (k : ChgI B U w w') : Chg ((List.range w.heap.size).filter fun x => decide (B ≤ x ∧ x < U)) w w' :=
  ⟨k.os, k.tape, k.output, k.size, fun x hx hn => k.block x hx fun hm => hn (by simp; omega)⟩
theorem chgI_away {B U B' U' : Nat} {w : World} {F : List Nat} (hF : ∀ b ∈ F, B ≤ b ∧ b < U) (hd : U ≤ B' ∨ U' ≤ B) : ∀ x ∈ F, x ∉ (List.range w.heap.size).filter fun x => decide (B' ≤ x ∧ x < U') := fun x hx hm => by
  have := hF x hx
  simp at hm
  omega
theorem Only.toI {b : Nat} {w w' : World} (o : Only b w w') : ChgI b (b + 1) w w' := ⟨o.os, o.tape, o.output, by rw [o.size]; exact Nat.le_refl _, fun k _ hn => o.block k (by omega)⟩
end Go.Proofs.YtplcmbipeanjdaaGreatDoor
namespace Go.Proofs.YtplcmbipeanjdaaGreatDoor
set_option linter.unusedVariables false
set_option linter.unusedSimpArgs false
set_option linter.unnecessarySimpa false
open Go.RowKit

/-- Numbers in memory of their own between two places. -/
def OwnN (B U : Nat) (l : List Int) (w : World) (v : Value) : Prop := ∃ F, OwnI w v l F ∧ ∀ b ∈ F, B ≤ b ∧ b < U
/-- A program in memory of its own between two places. -/
def OwnP (e : TypeId) (B U : Nat) (tl : List Int) (l : Ss) (w : World) (tv bv : Value) : Prop := ∃ Ft Fb, OwnI w tv tl Ft ∧ RowS e w bv l Fb ∧ (Ft ++ Fb).Nodup ∧ ∀ b ∈ Ft ++ Fb, B ≤ b ∧ b < U
/-- Two lists of statements in memory of their own between two places. -/
def OwnQ (e : TypeId) (B U : Nat) (t el : Ss) (w : World) (vt ve : Value) : Prop := ∃ Ft Fe, RowS e w vt t Ft ∧ RowS e w ve el Fe ∧ (Ft ++ Fe).Nodup ∧ ∀ b ∈ Ft ++ Fe, B ≤ b ∧ b < U
section
variable {e : TypeId} {B U : Nat} {tl : List Int} {l t el : Ss} {w w' : World} {v tv bv vt ve : Value}
theorem OwnN.ext (h : OwnN B U tl w v) (he : Ext w w') : OwnN B U tl w' v := by
  obtain ⟨F, h1, h2⟩ := h
  exact ⟨F, h1.ext he, h2⟩
theorem OwnN.chgI {B' U' : Nat} (h : OwnN B U tl w v) (k : ChgI B' U' w w') (hd : U ≤ B' ∨ U' ≤ B) : OwnN B U tl w' v := by
  obtain ⟨F, h1, h2⟩ := h
  exact ⟨F, h1.chg k.toChg (chgI_away h2 hd), h2⟩
theorem OwnN.int (h : OwnN B U tl w v) : ∃ F, IntF w v tl F := by
  obtain ⟨F, h1, _⟩ := h
  exact ⟨F, h1.int⟩
theorem NewInts.own (h : NewInts tl w v w') : OwnN w.heap.size w'.heap.size tl w' v := by
  obtain ⟨⟨F, h1, h2⟩, _⟩ := h
  exact ⟨F, h1, fun b hb => ⟨h2 b hb, h1.lt b hb⟩⟩
theorem OwnP.ext (h : OwnP e B U tl l w tv bv) (he : Ext w w') : OwnP e B U tl l w' tv bv := by
  obtain ⟨Ft, Fb, h1, h2, h3, h4⟩ := h
  exact ⟨Ft, Fb, h1.ext he, h2.ext he, h3, h4⟩
theorem OwnP.chgI {B' U' : Nat} (h : OwnP e B U tl l w tv bv) (k : ChgI B' U' w w') (hd : U ≤ B' ∨ U' ≤ B) : OwnP e B U tl l w' tv bv := by
  obtain ⟨Ft, Fb, h1, h2, h3, h4⟩ := h
  have hF := chgI_away (w := w) h4 hd
  exact ⟨Ft, Fb, h1.chg k.toChg fun x hx => hF x (by simp [hx]), h2.chg k.toChg fun x hx => hF x (by simp [hx]), h3, h4⟩
theorem OwnP.wide {B' U' : Nat} (h : OwnP e B U tl l w tv bv) (hB : B' ≤ B) (hU : U ≤ U') : OwnP e B' U' tl l w tv bv := by
  obtain ⟨Ft, Fb, h1, h2, h3, h4⟩ := h
  exact ⟨Ft, Fb, h1, h2, h3, fun b hb => by have := h4 b hb; omega⟩
theorem OwnP.int (h : OwnP e B U tl l w tv bv) : ∃ F, IntF w tv tl F := by
  obtain ⟨Ft, Fb, h1, _⟩ := h
  exact ⟨Ft, h1.int⟩
theorem OwnP.sts (h : OwnP e B U tl l w tv bv) : ∃ F, StS w bv l F := by
  obtain ⟨Ft, Fb, _, h2, _⟩ := h
  exact ⟨Fb, h2.sts⟩
theorem OwnQ.ext (h : OwnQ e B U t el w vt ve) (he : Ext w w') : OwnQ e B U t el w' vt ve := by
  obtain ⟨Ft, Fb, h1, h2, h3, h4⟩ := h
  exact ⟨Ft, Fb, h1.ext he, h2.ext he, h3, h4⟩
theorem OwnQ.chgI {B' U' : Nat} (h : OwnQ e B U t el w vt ve) (k : ChgI B' U' w w') (hd : U ≤ B' ∨ U' ≤ B) : OwnQ e B U t el w' vt ve := by
  obtain ⟨Ft, Fb, h1, h2, h3, h4⟩ := h
  have hF := chgI_away (w := w) h4 hd
  exact ⟨Ft, Fb, h1.chg k.toChg fun x hx => hF x (by simp [hx]), h2.chg k.toChg fun x hx => hF x (by simp [hx]), h3, h4⟩
theorem OwnQ.sts (h : OwnQ e B U t el w vt ve) : (∃ F, StS w vt t F) ∧ ∃ F, StS w ve el F := by
  obtain ⟨Ft, Fb, h1, h2, _⟩ := h
  exact ⟨⟨Ft, h1.sts⟩, ⟨Fb, h2.sts⟩⟩
theorem NewSt.own {op x y n : Int} {r : Value} (h : NewSt e op x y n t el w r w') : ∃ vt ve, r = stV op x y n vt ve ∧ OwnQ e w.heap.size w'.heap.size t el w' vt ve ∧ Ext w w' := by
  obtain ⟨vt, ve, Ft, Fe, rfl, h1, h2, h3, h4, h5⟩ := h
  refine ⟨vt, ve, rfl, ⟨Ft, Fe, h1, h2, h3, fun b hb => ⟨h4 b hb, ?_⟩⟩, h5⟩
  rcases List.mem_append.1 hb with hb | hb
  · exact h1.lt b hb
  · exact h2.lt b hb
end
theorem OwnP.ones {e : TypeId} {B U : Nat} {tl : List Int} {l : Ss} {w : World} {tv bv : Value} (h : OwnP e B U tl l w tv bv) : tv.oneCell' = true ∧ bv.oneCell' = true := by
  obtain ⟨Ft, Fb, ⟨A, c, rfl, _⟩, h2, _⟩ := h
  exact ⟨rfl, h2.one⟩
theorem OwnQ.ones {e : TypeId} {B U : Nat} {t el : Ss} {w : World} {vt ve : Value} (h : OwnQ e B U t el w vt ve) : vt.oneCell' = true ∧ ve.oneCell' = true := by
  obtain ⟨Ft, Fb, h1, h2, _⟩ := h
  exact ⟨h1.one, h2.one⟩
/-- A program by value in new memory, and whether there is one. -/
def PrB (e : TypeId) (tl : List Int) (l : Ss) (b : Bool) (w : World) (r : Value) (w' : World) : Prop := ∃ tv bv, r = .tuple #[prV tv bv, .bool b] ∧ OwnP e w.heap.size w'.heap.size tl l w' tv bv ∧ Ext w w'
/-- A program by value in new memory. -/
def NewPr (e : TypeId) (tl : List Int) (l : Ss) (w : World) (r : Value) (w' : World) : Prop := (∃ tv bv, r = prV tv bv ∧ OwnP e w.heap.size w'.heap.size tl l w' tv bv) ∧ Ext w w'
theorem NewPr.mk {e : TypeId} {tl : List Int} {l : Ss} {w w1 w' : World} {tv bv : Value} {Ft Fb : List Nat} (h1 : OwnI w' tv tl Ft) (h2 : RowS e w' bv l Fb) (h3 : (Ft ++ Fb).Nodup) (h4 : ∀ b ∈ Ft ++ Fb, w.heap.size ≤ b) (he : Ext w w') : NewPr e tl l w (prV tv bv) w' := by
  refine ⟨⟨tv, bv, rfl, Ft, Fb, h1, h2, h3, fun b hb => ⟨h4 b hb, ?_⟩⟩, he⟩
  rcases List.mem_append.1 hb with hb | hb
  · exact h1.lt b hb
  · exact h2.lt b hb
theorem OwnI.nodup {w : World} {v : Value} {l : List Int} {F : List Nat} (h : OwnI w v l F) : F.Nodup := by
  obtain ⟨A, c, rfl, hl, ⟨_, rfl⟩ | ⟨b, o, cs, t, _, rfl, _⟩⟩ := h <;> simp
theorem OwnI.one {w : World} {v : Value} {l : List Int} {F : List Nat} (h : OwnI w v l F) : v.oneCell' = true := by
  obtain ⟨A, c, rfl, _⟩ := h
  rfl
end Go.Proofs.YtplcmbipeanjdaaGreatDoor
namespace Go.Proofs.YtplcmbipeanjdaaGreatDoor
set_option linter.unusedVariables false
set_option linter.unusedSimpArgs false
set_option linter.unnecessarySimpa false
open Go.RowKit

section
variable {P : Program} {n : Nat} {ops : Array Oper} {Q : Exit → Act → World → Prop} {rest : List Oper} {σ : Env} {w w' : World} {v u : Value}
variable {d : Nat} {ty : TypeId} {pos : String} {af : Array Edge} {x y s : Operand}
/-- Nothing is appended. -/
theorem WO_append0 {t e k bytes B m c : Nat} {z : Value} {A : Option Addr} [TSl P t e k] [TE P e z k bytes] {xs : List Value}
    (hs : ev σ s = some v) (hown : w.ownsRow B e k v m xs) (hx : ev σ x = some (.slice A 0 c)) (hB : B ≤ w.heap.size) (hk : 0 < k) (hm : m ≤ 1000000000000) (hby : bytes ≤ 100)
    (h : ∀ v' w', w'.ownsRow B e k v' m xs → w.grownBy w' v.ownBlock → (v'.ownBlock = v.ownBlock ∨ v'.ownBlock = some w.heap.size) → WO P n ops Q rest ((d, v') :: σ) w') :
    WO P n ops Q (⟨some d, .call ⟨.builtin .append, #[s, x], #[t, t]⟩, ty, pos, af, none⟩ :: rest) σ w := by
  obtain ⟨i, hi, hz, hsz, hb⟩ := TE.row (P := P) (e := e) (z := z) (k := k) (bytes := bytes) inferInstance
  cases A with
  | some a =>
    have hbb : (m + 0) * bytes ≤ 140737488355328 := by
      have := Nat.mul_le_mul hm hby
      rw [Nat.add_zero]
      omega
    obtain ⟨v', w', hr, h2, h3, _, h5⟩ := run_append_own_at (P := P) w B t ty e i z k bytes (TSl.und (P := P) (t := t) (e := e) (k := k)) hi hz hsz hb (TE.cells (P := P) (e := e) (k := k) (bytes := bytes)) hk v m xs hown
      a 0 c [] (by simp) (by simp) (by simp) (by simp only [maxLen]; omega) hbb hB
    refine WO.value rfl ⟨fun _ a hf => ?_⟩ (h v' w' (by simpa using h2) h3 h5)
    simp [execOp, resolve, invoke, builtin, fits_ev hf hs, fits_ev hf hx, hr]
  | none =>
    have hr : (Builtin.append_ #[t, t] ty #[v, .slice none 0 c]).run P w = .ok v w := by
      have ht := TSl.und (P := P) (t := t) (e := e) (k := k)
      rcases hown.2 with ⟨rfl, rfl⟩ | ⟨g, cap, cur, rfl, _, _, hnc, _⟩
      · simp [Builtin.append_, run_underlying ht, sizeOf, typeInfo, hi, Builtin.lenOf, Builtin.firstCells]
      · simp [Builtin.append_, run_underlying ht, sizeOf, typeInfo, hi, Builtin.lenOf, Builtin.firstCells, hnc, storeCells]
    refine WO.value rfl ⟨fun _ a hf => ?_⟩ (h v w hown ⟨rfl, rfl, rfl, Nat.le_refl _, fun _ _ _ => rfl⟩ (.inl rfl))
    simp [execOp, resolve, invoke, builtin, fits_ev hf hs, fits_ev hf hx, hr]
end
end Go.Proofs.YtplcmbipeanjdaaGreatDoor
namespace Go.Proofs.YtplcmbipeanjdaaGreatDoor
set_option linter.unusedVariables false
set_option linter.unusedSimpArgs false
set_option linter.unnecessarySimpa false
open Go.RowKit

theorem ints_cells {w : World} {A : Option Addr} {n c : Nat} {l : List Int} {F : List Nat} (h : IntF w (.slice A n c) l F) (h0 : l ≠ []) : ∃ b o, A = some ⟨b, o, none⟩ ∧ n = l.length ∧ ∀ j u, (l.map (Value.int .i64))[j]? = some u → w.cell? ⟨b, o + j, none⟩ = some u := by
  obtain ⟨A', c', e, _, ⟨h1, _⟩ | ⟨b, o, hA, hF, hc⟩⟩ := h
  · exact absurd h1 h0
  · cases e
    refine ⟨b, o, hA, rfl, fun j u hj => ?_⟩
    rw [List.getElem?_map] at hj
    obtain ⟨x, hx, rfl⟩ := Option.map_eq_some_iff.1 hj
    simpa using hc j x hx
theorem ints_one (l : List Int) : ∀ u ∈ l.map (Value.int .i64), u.oneCell' = true := by
  intro u hu
  obtain ⟨x, _, rfl⟩ := List.mem_map.1 hu
  rfl
section
variable {P : Program} {n : Nat} {ops : Array Oper} {Q : Exit → Act → World → Prop} {rest : List Oper} {σ : Env} {w : World} {v u : Value}
variable {d : Nat} {ty : TypeId} {pos : String} {af : Array Edge} {x s : Operand}
/-- Numbers that can be read are appended to an owned row. -/
theorem WO_appI {t e bytes B : Nat} {z : Value} [TSl P t e 1] [TE P e z 1 bytes] {l0 l : List Int} {F : List Nat} (hs : ev σ s = some v) (hown : w.ownsRow B e 1 v l0.length (l0.map (.int .i64))) (hx : ev σ x = some u) (hsrc : IntF w u l F)
    (hB : B ≤ w.heap.size) (hm : l0.length + l.length ≤ 1000000000000) (hby : bytes ≤ 100)
    (h : ∀ v' w', w'.ownsRow B e 1 v' (l0 ++ l).length ((l0 ++ l).map (.int .i64)) → w.grownBy w' v.ownBlock → (v'.ownBlock = v.ownBlock ∨ v'.ownBlock = some w.heap.size) → WO P n ops Q rest ((d, v') :: σ) w') :
    WO P n ops Q (⟨some d, .call ⟨.builtin .append, #[s, x], #[t, t]⟩, ty, pos, af, none⟩ :: rest) σ w := by
  obtain ⟨A, c, rfl, hl, hx2⟩ := id hsrc
  by_cases h0 : l = []
  · subst h0
    exact WO_append0 (e := e) (k := 1) (bytes := bytes) (z := z) hs hown hx hB (by decide) (by simpa using hm) hby fun v' w' h1 h2 h3 => h v' w' (by simpa using h1) h2 h3
  · obtain ⟨b, o, rfl, _, hc⟩ := ints_cells hsrc h0
    exact WO_append (e := e) (k := 1) (bytes := bytes) (z := z) (mm := l.length) (news := l.map (.int .i64)) hs hown hx (by simp) hc (ints_one l) hB (by decide) hm hby fun v' w' h1 h2 h3 => h v' w' (by rw [List.length_append, List.map_append]; exact h1) h2 h3
end
theorem NewInts.of_row {e : TypeId} {w w' : World} {v : Value} {l : List Int} {B : Nat} (h : w'.ownsRow B e 1 v l.length (l.map (.int .i64))) (hB : w.heap.size ≤ B) (he : Ext w w') (hm : l.length ≤ maxI) : NewInts l w v w' := by
  obtain ⟨F, h1, h2, _⟩ := OwnI.of_row h rfl hm
  exact ⟨⟨F, h1, fun b hb => Nat.le_trans hB (h2 b hb)⟩, he⟩
/-- What stands behind the region that makes a copy of a program. -/
def CopyIn (e eP : TypeId) (rb : Nat) (tl : List Int) (l : Ss) (w w' : World) : Prop :=
  ∃ tv bv Ft Fb, Blk w' rb [tv, bv] eP ∧ OwnI w' tv tl Ft ∧ RowS e w' bv l Fb ∧ (Ft ++ Fb).Nodup ∧ (∀ b ∈ Ft ++ Fb, w.heap.size ≤ b) ∧ Chg [rb] w w'
def LcP (l : Ss) : Prop := ∀ v F w, StS w v l F → cntL l ≤ 1048576 → Ret Tryz.prog 69 [v] w (GrowS 59 l w)
theorem l1Copy_all (l : Ss) : LcP l := Ss.strong (fun l ih => by
  intro v F w h hn
  obtain ⟨A, c, rfl, hl, _⟩ := h.slice
  have hst := restS_start h
  unfold maxI at hl
  have hlc := len_le_cntL l
  refine enter Tryz.func69 rfl Tryz.ntmps69 rfl rfl ?_
  refine goS ?_
  refine WO_build0 (e := 59) (k := 6) fun w0 hb0 e0 z0 => ?_
  have hown0 := owns_empty (B := w.heap.size) (k := 6) hb0 (Nat.le_refl _)
  refine goS ?_
  refine W_loop (α := Nat × Ss × Ss × Value) (fun p => [(0, .slice A l.len c), (3, p.2.2.2), (4, .int .i64 (p.1 : Int))])
    (fun p w' => p.2.1.app p.2.2.1 = l ∧ p.2.1.len = p.1 ∧ RestS w A p.1 p.2.2.1 ∧ GrowS 59 p.2.1 w p.2.2.2 w') (fun p => p.2.2.1.len) (0, .nil, l, _) (by repeat (first | exact True.intro | refine And.intro rfl ?_))
    ⟨rfl, rfl, hst, ⟨[], [], hown0, ⟨rfl, rfl⟩, by simp [Value.ownBlock], by simp [Value.ownBlock]⟩, e0⟩ ?_
  rintro ⟨i, d, r, vo⟩ w1 ⟨hap, hdl, hr, hgr, he⟩
  simp only at hap hdl hr hgr ⊢
  have hlen : d.len + r.len = l.len := by rw [← hap, Ss.len_app]
  have hcn : cntL d + cntL r = cntL l := by rw [← hap, cntL_app]
  refine goS ?_
  refine Z52 rfl (fun hc => ?_) (fun hc => ?_)
  · have hlt : i < l.len := by simpa using hc
    obtain ⟨xs, Fs, r1, r2, r3, r4⟩ := hgr
    cases r with
    | nil => simp only [Ss.len] at hlen; omega
    | cons op x y n t e r =>
      obtain ⟨b, o, vt, ve, Ft, Fe, rfl, hcells, hT, hE, hrest⟩ := restS_cons hr
      obtain ⟨A1, k1, rfl, hl1⟩ := hT.slice
      obtain ⟨A2, k2, rfl, hl2⟩ := hE.slice
      simp only [Ss.len, cntL] at hlen hcn
      have c4 := hcells 4 _ rfl
      have c5 := hcells 5 _ rfl
      refine goS ?_
      refine Z83 rfl rfl rfl hlt ?_
      refine WO_loadS rfl rfl (fun j u hu => cell_ext (hcells j u hu) he) ?_
      refine WO_alloc fun w2 hb2 he2 hz2 => ?_
      refine WO_storeS rfl rfl rfl (stmt_one hT hE op x y n) hb2 (by simp [Value.cells]) fun w3 hb3 ho3 => ?_
      replace hb3 : Blk w3 w1.heap.size [Value.int .i64 op, .int .i64 x, .int .i64 y, .int .i64 n, .slice A1 t.len k1, .slice A2 e.len k2] _ := hb3
      have he3 : Ext w1 w3 := he2.only ho3 (Nat.le_refl _)
      have hlt3 := hb3.lt
      clear hb2
      refine goS ?_
      refine WO_store1 rfl rfl rfl hb3 (by simp) fun w4 hb4 o4 => ?_
      simp only [List.set_cons_zero, List.set_cons_succ] at hb4
      refine goS ?_
      refine WO_store1 rfl rfl rfl hb4 (by simp) fun w5 hb5 o5 => ?_
      simp only [List.set_cons_zero, List.set_cons_succ] at hb5
      have he5 : Ext w1 w5 := (he3.only o4 (Nat.le_refl _)).only o5 (Nat.le_refl _)
      have h05 := he.trans he5
      have s5 : w1.heap.size < w5.heap.size := hb5.lt
      have cell4 : ∀ w', Ext w w' → w'.cell? ⟨b, o + i * 6 + 4, none⟩ = some (.slice A1 t.len k1) := fun w' h' => cell_ext c4 h'
      have cell5 : ∀ w', Ext w w' → w'.cell? ⟨b, o + i * 6 + 5, none⟩ = some (.slice A2 e.len k2) := fun w' h' => cell_ext c5 h'
      clear hb3 hb4 c4 c5
      have d4 := cell4 w5 h05
      refine goS ?_
      refine Z83 rfl rfl rfl hlt ?_
      refine goS ?_
      refine W_cut [(0, .slice (some ⟨b, o, none⟩) l.len c), (3, vo), (4, .int .i64 (i : Int)), (5, .pointer (some ⟨w1.heap.size, 0, none⟩))]
        (fun w' => ∃ vt' G1, Blk w' w1.heap.size [Value.int .i64 op, .int .i64 x, .int .i64 y, .int .i64 n, vt', .slice none 0 0] 59 ∧ RowS 59 w' vt' t G1 ∧ G1.Nodup ∧ (∀ b ∈ G1, w1.heap.size < b) ∧ Ext w1 w') ?_ (fun w6 hR => ?_)
      · refine Z52 rfl (fun hc => ?_) (fun hc => ?_)
        · refine goS ?_
          refine Z83 rfl rfl rfl hlt ?_
          refine goS ?_
          refine WO_call rfl (ih t (by omega) _ Ft w5 (hT.ext h05) (by omega)) ?_
          rintro vt' w6 hg
          obtain ⟨⟨G1, q1, n1, b1⟩, e6⟩ := hg.new
          have hone := q1.one
          refine goS ?_
          refine WO_store1 rfl rfl hone (hb5.ext e6) (by simp) fun w7 hb7 o7 => ?_
          simp only [List.set_cons_zero, List.set_cons_succ] at hb7
          refine goS ?_
          exact at_meets (by repeat (first | exact True.intro | refine And.intro rfl ?_)) ⟨vt', G1, hb7, q1.chg o7.chg (fun z hz hm => by simp at hm; subst hm; have := b1 _ hz; omega), n1, fun b hb => by have := b1 b hb; omega, (he5.trans e6).only o7 (Nat.le_refl _)⟩
        · have h0 : t = .nil := Ss.len_zero (by simp at hc; omega)
          subst h0
          refine goS ?_
          exact at_meets (by repeat (first | exact True.intro | refine And.intro rfl ?_)) ⟨_, [], hb5, RowS.nil_ _ _, by simp, by simp, he5⟩
      obtain ⟨vt', G1, hb6, q1, n1, b1, he6⟩ := hR
      have h06 := he.trans he6
      have s6 : w1.heap.size < w6.heap.size := hb6.lt
      have d5 := cell5 w6 h06
      clear d4
      refine goS ?_
      refine Z83 rfl rfl rfl hlt ?_
      refine goS ?_
      refine W_cut [(0, .slice (some ⟨b, o, none⟩) l.len c), (3, vo), (4, .int .i64 (i : Int)), (5, .pointer (some ⟨w1.heap.size, 0, none⟩))]
        (fun w' => ∃ ve' G2, Blk w' w1.heap.size [Value.int .i64 op, .int .i64 x, .int .i64 y, .int .i64 n, vt', ve'] 59 ∧ RowS 59 w' vt' t G1 ∧ RowS 59 w' ve' e G2 ∧ G2.Nodup ∧ (∀ b ∈ G2, w6.heap.size ≤ b) ∧ Ext w1 w') ?_ (fun w7 hR => ?_)
      · refine Z52 rfl (fun hc => ?_) (fun hc => ?_)
        · refine goS ?_
          refine Z83 rfl rfl rfl hlt ?_
          refine goS ?_
          refine WO_call rfl (ih e (by omega) _ Fe w6 (hE.ext h06) (by omega)) ?_
          rintro ve' w7 hg
          obtain ⟨⟨G2, q2, n2, b2⟩, e7⟩ := hg.new
          have hone := q2.one
          refine goS ?_
          refine WO_store1 rfl rfl hone (hb6.ext e7) (by simp) fun w8 hb8 o8 => ?_
          simp only [List.set_cons_zero, List.set_cons_succ] at hb8
          refine goS ?_
          exact at_meets (by repeat (first | exact True.intro | refine And.intro rfl ?_)) ⟨ve', G2, hb8, (q1.ext e7).chg o8.chg (fun z hz hm => by simp at hm; subst hm; have := b1 _ hz; omega), q2.chg o8.chg (fun z hz hm => by simp at hm; subst hm; have := b2 _ hz; omega), n2, b2, (he6.trans e7).only o8 (Nat.le_refl _)⟩
        · have h0 : e = .nil := Ss.len_zero (by simp at hc; omega)
          subst h0
          refine goS ?_
          exact at_meets (by repeat (first | exact True.intro | refine And.intro rfl ?_)) ⟨_, [], hb6, q1, RowS.nil_ _ _, by simp, by simp, he6⟩
      have hlt1 := q1.lt
      obtain ⟨ve', G2, hb7, q1, q2, n2, b2, he7⟩ := hR
      have nd : (G1 ++ G2).Nodup := List.nodup_append.2 ⟨n1, n2, fun a ha b hb e => by subst e; have := hlt1 a ha; have := b2 a hb; omega⟩
      have bd : ∀ b ∈ G1 ++ G2, w1.heap.size < b := fun b hb => by
        rcases List.mem_append.1 hb with hb | hb
        · exact b1 b hb
        · have := b2 b hb; omega
      have r14 := ownsRow_ext r1 he7
      have r24 := StkS.ext he7 r2
      have hone1 := q1.one
      have hone2 := q2.one
      have s7 := he7.size_le
      refine goS ?_
      refine WO_loadSB rfl hb7 rfl ?_
      refine WO_app1 (m := d.len) (u := stV op x y n vt' ve') rfl rfl (by intro v hv; simp [stV, Value.cells] at hv; rcases hv with rfl | rfl | rfl | rfl | rfl | rfl <;> first | rfl | assumption) rfl r14 (he.trans he7).size rfl (by omega) (by decide) fun v' w9 hown9 hg9 hat9 => ?_
      refine goS ?_
      refine at_loop (i + 1, d.snoc op x y n t e, r, v') (by repeat (first | exact True.intro | refine And.intro rfl ?_)) ⟨by rw [Ss.snoc_app]; exact hap, by simp only; rw [Ss.len_snoc]; omega, hrest, ?_⟩ (by simp only [Ss.len]; omega)
      refine GrowS.step r14 r24 r3 r4 (he.trans he7) q1 q2 nd (fun x hx hm => ?_) (fun x hx => ?_) hown9 hg9 ?_
      · have h1 := bd x hx
        have h2 : x < w1.heap.size := by
          rcases List.mem_append.1 hm with hm | hm
          · exact (r1.lt x (by simpa using hm)).2
          · exact StkS.lt _ _ _ r2 x hm
        omega
      · have := bd x hx; have := he.size_le; omega
      · rcases hat9 with h7 | h7
        · exact .inl h7
        · exact .inr ⟨_, h7, by omega⟩
  · have hge : i = l.len := by simp at hc; omega
    have hr0 : r = .nil := Ss.len_zero (by omega)
    subst hr0
    rw [Ss.app_nil] at hap
    subst hap
    refine goS ?_
    exact at_ret1 rfl rfl ⟨hgr, he⟩) l
theorem l1CopyOf_ret (tv bv : Value) (tl : List Int) (l : Ss) (Ft F : List Nat) (w : World) (ht : IntF w tv tl Ft) (h : StS w bv l F) (hn : tl.length ≤ 1048576) (hn2 : cntL l ≤ 1048576) :
    Ret Tryz.prog 51 [prV tv bv] w (NewPr 59 tl l w) := by
  refine enter Tryz.func51 rfl Tryz.ntmps51 rfl rfl ?_
  refine Z43 (Z44 (WO_box rfl fun w1 hs e1 z1 => WO_alloc fun w2 hr e2 z2 => ?_))
  replace hs : Blk w2 w.heap.size [tv, bv] _ := Blk.ext hs e2
  replace hr : Blk w2 w1.heap.size [.slice none 0 0, .slice none 0 0] _ := hr
  have e12 := e1.trans e2
  have s1 := e1.size_le
  have s2 := e2.size_le
  refine goS ?_
  refine W_held0 [w1.heap.size] [(2, .pointer (some ⟨w1.heap.size, 0, none⟩))] (CopyIn 59 26 w1.heap.size tl l w2) (by kernel_rfl) (fun ws es hS => ?_) (fun w4 hR => ?_)
  · have hss := es.size_le
    first | refine Z82 1 rfl (by kernel_rfl) (by kernel_rfl) (by kernel_rfl) (by assumption) (fun w' hw' => Z56 rfl) ?_ | refine Z82 1 rfl (by kernel_rfl) (by kernel_rfl) (by kernel_rfl) (by assumption) (fun w' hw' => Z63 rfl rfl) ?_ | refine Z82 1 rfl (by kernel_rfl) (by kernel_rfl) (by kernel_rfl) (by assumption) (fun w' hw' => Z64 rfl rfl) ?_ | refine Z82 1 rfl (by kernel_rfl) (by kernel_rfl) (by kernel_rfl) (by assumption) (fun w' hw' => Z75 rfl rfl (by omega)) ?_ | refine Z82 1 rfl (by kernel_rfl) (by kernel_rfl) (by kernel_rfl) (by assumption) (fun w' hw' => Z72 rfl) ?_ | refine Z82 1 rfl (by kernel_rfl) (by kernel_rfl) (by kernel_rfl) (by assumption) (fun w' hw' => Z69 rfl rfl rfl (by omega)) ?_ | refine Z82 1 rfl (by kernel_rfl) (by kernel_rfl) (by kernel_rfl) (by assumption) (fun w' hw' => Z30 rfl (by rfl) (by simp only [Z84, List.set_cons_zero, List.set_cons_succ]; rfl)) ?_
    refine Z82 2 rfl (by kernel_rfl) (by kernel_rfl) (by kernel_rfl) (by assumption) (fun w' hw' => Z66 rfl ((hs.ext es).chg hw' (by simp; omega)) rfl) ?_
    first | refine Z82 4 rfl (by kernel_rfl) (by kernel_rfl) (by kernel_rfl) (by assumption) (fun w' hw' => Z56 rfl) ?_ | refine Z82 4 rfl (by kernel_rfl) (by kernel_rfl) (by kernel_rfl) (by assumption) (fun w' hw' => Z63 rfl rfl) ?_ | refine Z82 4 rfl (by kernel_rfl) (by kernel_rfl) (by kernel_rfl) (by assumption) (fun w' hw' => Z64 rfl rfl) ?_ | refine Z82 4 rfl (by kernel_rfl) (by kernel_rfl) (by kernel_rfl) (by assumption) (fun w' hw' => Z75 rfl rfl (by omega)) ?_ | refine Z82 4 rfl (by kernel_rfl) (by kernel_rfl) (by kernel_rfl) (by assumption) (fun w' hw' => Z72 rfl) ?_ | refine Z82 4 rfl (by kernel_rfl) (by kernel_rfl) (by kernel_rfl) (by assumption) (fun w' hw' => Z69 rfl rfl rfl (by omega)) ?_ | refine Z82 4 rfl (by kernel_rfl) (by kernel_rfl) (by kernel_rfl) (by assumption) (fun w' hw' => Z30 rfl (by rfl) (by simp only [Z84, List.set_cons_zero, List.set_cons_succ]; rfl)) ?_
    refine Z82 5 rfl (by kernel_rfl) (by kernel_rfl) (by kernel_rfl) (by assumption) (fun w' hw' => Z66 rfl ((hs.ext es).chg hw' (by simp; omega)) rfl) ?_
    refine WH_one 0 rfl (by kernel_rfl) (WO_build0 (e := 3) (k := 1) fun w0 hb0 e0 z0 => Z31 (at_held (e0.chg _) ?_))
    have hown0 := owns_empty (B := ws.heap.size) (k := 1) hb0 (Nat.le_refl _)
    refine WH_one 3 rfl (by kernel_rfl) (WO_appI (l0 := []) rfl hown0 rfl (ht.ext ((e12.trans es).trans e0)) e0.size (by simp; omega) (by decide) fun tv' wc hown1 hg hat => Z31 (at_held ((grown_below e0 hown0 hg (Nat.le_refl _)).chg _) ?_))
    have ec : Ext ws wc := grown_below e0 hown0 hg (Nat.le_refl _)
    rw [List.nil_append] at hown1
    obtain ⟨⟨G1, q1, b1⟩, _⟩ := NewInts.of_row hown1 (Nat.le_refl _) ec (by unfold maxI; omega)
    refine WX_call 6 rfl (by kernel_rfl) rfl (l1Copy_all l bv F wc (h.ext ((e12.trans es).trans ec)) hn2) ?_
    rintro bv' wd hg2
    obtain ⟨⟨G2, q2, n2, b2⟩, ed⟩ := hg2.new
    have ecd := ec.trans ed
    have hSd : Chg [w1.heap.size] ws wd := ecd.chg _
    refine ⟨hSd, ?_⟩
    have hone1 := q1.one
    have hone2 := q2.one
    have hlt1 := q1.lt
    have hsc := ec.size_le
    refine Z82 7 rfl (by kernel_rfl) (by kernel_rfl) (by kernel_rfl) (by assumption) (fun w' hw' => Z30 (cs := [tv', bv']) rfl (by simp [partsOk, hone1, hone2]) rfl) ?_
    refine WH_one 8 rfl (by kernel_rfl) (WO_storeS (k := 2) (vs := [tv', bv']) rfl rfl rfl (by simp; exact ⟨hone1, hone2⟩) ((hr.ext es).ext ecd) (by decide) fun wf hbf of => Z31 (at_held (hSd.trans of.chg) ?_))
    replace hbf : Blk wf w1.heap.size [tv', bv'] _ := hbf
    refine WH_done (by kernel_rfl) (by repeat (first | exact True.intro | refine And.intro rfl ?_)) ⟨tv', bv', G1, G2, hbf, (q1.ext ed).chg of.chg (fun z hz hm => by simp at hm; subst hm; have := b1 _ hz; omega), q2.chg of.chg (fun z hz hm => by simp at hm; subst hm; have := b2 _ hz; omega), List.nodup_append.2 ⟨q1.nodup, n2, fun a ha b hb e => by subst e; have := hlt1 a ha; have := b2 a hb; omega⟩, fun b hb => ?_, (es.chg _).trans (hSd.trans of.chg)⟩
    rcases List.mem_append.1 hb with hb | hb
    · have := b1 b hb; omega
    · have := b2 b hb; omega
  · obtain ⟨tv', bv', G1, G2, hb4, q1, q2, nd, bd, c4⟩ := hR
    refine goS ?_
    exact at_retC rfl rfl hb4 rfl (NewPr.mk (w1 := w) q1 q2 nd (fun b hb => by have := bd b hb; omega) (c4.ext_of e12 (by simp; omega)))
end Go.Proofs.YtplcmbipeanjdaaGreatDoor
