/-
  What is proved here: the law FormatCells on drawn memories: the text has a line a cell and a mark a freed cell.
-/
import Derived.Test.YtnfapbghkmodeaaDoorCfw
import Derived.Test.YtnfapbghkmodeaaDoorCCase
import Derived.Test.YtnfapbghkmodeaaDoorCAlive
namespace Go.Proofs.YtnfapbghkmodeaaDoor
set_option linter.unusedVariables false
set_option linter.unusedSimpArgs false
set_option linter.unnecessarySimpa false
open Go.RowKit

theorem dec_mem (u : Nat) : ∀ b ∈ Lib.decDigits u, 48 ≤ b.toNat ∧ b.toNat ≤ 57 := by
  induction u using Nat.strongRecOn with
  | ind u ih =>
    intro b hb
    by_cases h : u < 10
    · rw [dec_lt h] at hb
      simp only [List.mem_singleton] at hb
      subst hb
      rw [UInt8.toNat_ofNat']
      omega
    · rw [dec_ge h] at hb
      rcases List.mem_append.1 hb with hb | hb
      · exact ih (u / 10) (by omega) b hb
      · simp only [List.mem_singleton] at hb
        subst hb
        rw [UInt8.toNat_ofNat']
        omega
theorem ne_of_toNat {b : UInt8} {k : UInt8} (h : b.toNat ≠ k.toNat) : b ≠ k := fun e => h (by rw [e])
theorem dec_no {n : Int} {x : UInt8} (hx : x = 10 ∨ x = 33) : (decT n).count x = 0 := by
  refine List.count_eq_zero.2 fun hm => ?_
  have := dec_mem _ x hm
  rcases hx with rfl | rfl <;> simp at this
theorem tag_no {t : Tg} {x : UInt8} (hx : x = 10 ∨ x = 33) : (tagT t).count x = 0 := by
  unfold tagT
  rw [List.count_cons, List.count_append, dec_no hx]
  rcases hx with rfl | rfl <;> split <;> simp
theorem st_no {x : UInt8} (hx : x = 10 ∨ x = 33) : ∀ l : List Tg, (stT l).count x = 0
  | [] => rfl
  | t :: r => by
    have := st_no hx r
    unfold stT at this ⊢
    rw [List.flatMap_cons, List.count_append, tag_no hx, this]
def deadN : List Ce → Nat
  | [] => 0
  | c :: r => (if c.al then 0 else 1) + deadN r
def aliveN : List Ce → Nat
  | [] => 0
  | c :: r => (if c.al then 1 else 0) + aliveN r
theorem dead_alive : ∀ l : List Ce, deadN l + aliveN l = l.length
  | [] => rfl
  | c :: r => by
    have := dead_alive r
    simp only [deadN, aliveN, List.length_cons]
    split <;> omega
theorem aliveN_app : ∀ a b : List Ce, aliveN (a ++ b) = aliveN a + aliveN b
  | [], b => by simp [aliveN]
  | c :: r, b => by
    have := aliveN_app r b
    simp only [List.cons_append, aliveN]
    omega
theorem cell_lines (c : Ce) : (cellT c ++ [10]).count 10 = 1 ∧ (cellT c ++ [10]).count 33 = if c.al then 0 else 1 := by
  unfold cellT
  simp only [List.count_append, dec_no (n := c.val) (.inl rfl), dec_no (n := c.val) (.inr rfl), st_no (.inl rfl), st_no (.inr rfl)]
  cases c.al <;> decide
theorem cells_lines : ∀ l : List Ce, (cellsT l).count 10 = l.length ∧ (cellsT l).count 33 = deadN l
  | [] => ⟨rfl, rfl⟩
  | c :: r => by
    obtain ⟨h1, h2⟩ := cells_lines r
    obtain ⟨h3, h4⟩ := cell_lines c
    unfold cellsT at h1 h2 ⊢
    rw [List.flatMap_cons]
    refine ⟨?_, ?_⟩
    · rw [List.count_append (l₁ := cellT c ++ [10]), h1, h3]
      simp
      omega
    · rw [List.count_append (l₁ := cellT c ++ [10]), h2, h4]
      rfl
theorem alive_len (l : List Ce) : ∀ i, i ≤ l.length → (aliveTo l i).length = aliveN (l.take i)
  | 0, _ => rfl
  | i + 1, h => by
    have hlt : i < l.length := h
    have ih := alive_len l i (by omega)
    unfold aliveTo
    rw [List.length_append, ih, List.take_succ_eq_append_getElem hlt, aliveN_app, List.getElem?_eq_getElem hlt]
    simp only [Option.map_some, aliveN]
    by_cases ha : l[i].al = true
    · simp [ha]
    · simp [ha]
theorem u8eq {b : UInt8} {k : Nat} (hk : k < 256) : ((b.toNat : Int) == (k : Int)) = decide (b = UInt8.ofNat k) := by
  rw [Bool.eq_iff_iff, beq_iff_eq, decide_eq_true_eq]
  constructor
  · intro h
    have : b.toNat = k := by omega
    rw [← this]
    exact UInt8.ofNat_toNat.symm
  · intro h
    rw [h, UInt8.toNat_ofNat']
    omega
theorem count_step {s : Tx} {i : Nat} (h : i < s.length) (x : UInt8) : (s.take (i + 1)).count x = (s.take i).count x + (if s[i] = x then 1 else 0) := by
  rw [List.take_succ_eq_append_getElem h, List.count_append]
  congr 1
  rw [List.count_singleton]
  by_cases hx : s[i] = x
  · rw [if_pos hx, if_pos (by simp [hx])]
  · rw [if_neg hx, if_neg (by simp [hx])]
theorem DrawCellsValid_ret (v : Value) (w : World) (hd : ByD w v) : Ret Tryd.prog 23 [v] w fun r w' => AnyM w.heap.size w' r ∧ Ext w w' := by
  refine enter Tryd.func23 rfl Tryd.ntmps23 rfl rfl ?_
  refine goS ?_
  refine WO_call rfl (l6Case_ret v w hd) ?_
  rintro _ w1 ⟨vm, x, rfl, hA, e1⟩
  refine goS ?_
  refine WO_alloc fun wa hx ea za => ?_
  refine goS ?_
  refine WO_storeS (k := 2) (vs := [.int .i64 x.cell, .int .i64 x.tag]) rfl rfl rfl (by intro v hv; simp at hv; rcases hv with rfl | rfl <;> rfl) hx (by decide) fun w2 hx3 o3 => ?_
  have e2 : Ext w1 w2 := ea.only o3 (Nat.le_refl _)
  refine goS ?_
  exact at_ret1 rfl rfl ⟨hA.ext e2, e1.trans e2⟩
theorem DrawFormatCells_ret (v : Value) (w : World) (hd : ByD w v) : Ret Tryd.prog 10 [v] w fun r w' => AnyM w.heap.size w' r ∧ Ext w w' := by
  refine enter Tryd.func10 rfl Tryd.ntmps10 rfl rfl ?_
  refine goS ?_
  refine WO_call rfl (DrawCellsValid_ret v w hd) ?_
  rintro vm w1 ⟨hA, e1⟩
  refine goS ?_
  exact at_ret1 rfl rfl ⟨hA, e1⟩
theorem FnFormatCells_ret {v : Value} {w : World} (hd : ByD w v) (ht : TabW w) : Ret Tryd.prog 4 [v] w fun r w' => r = .bool true ∧ Ext w w' := by
  have hd0 := hd
  obtain ⟨A0, n0, c0, rfl, _, hn0, _⟩ := hd0
  refine enter Tryd.func4 rfl Tryd.ntmps4 rfl rfl ?_
  (refine goS ?_; repeat' (first | ((refine Z51 rfl rfl (fun c' hc' => ?_)); cases c' <;> (try simp only [decide_eq_true_eq, decide_eq_false_iff_not, beq_iff_eq, beq_eq_false_iff_ne, bne_iff_ne, bne_eq_false_iff_eq, ne_eq, gt_iff_lt, ge_iff_le, Int.not_lt, Int.not_le, Bool.not_eq_true', Bool.not_eq_false', Bool.not_true, Bool.not_false, reduceCtorEq, Decidable.not_not, not_true_eq_false, Bool.true_eq_false, Bool.false_eq_true] at hc') <;> (try (exfalso; omega)) <;> refine goS ?_) | ((refine Z52 rfl (fun hc' => ?_) (fun hc' => ?_)) <;> (try simp only [decide_eq_true_eq, decide_eq_false_iff_not, beq_iff_eq, beq_eq_false_iff_ne, bne_iff_ne, bne_eq_false_iff_eq, ne_eq, gt_iff_lt, ge_iff_le, Int.not_lt, Int.not_le, Bool.not_eq_true', Bool.not_eq_false', Bool.not_true, Bool.not_false, reduceCtorEq, Decidable.not_not, not_true_eq_false, Bool.true_eq_false, Bool.false_eq_true] at hc') <;> (try (exfalso; omega)) <;> refine goS ?_)))
  any_goals (exact at_ret1 rfl rfl ⟨rfl, Ext.refl _⟩)
  refine WO_call rfl (DrawFormatCells_ret _ w hd) ?_
  rintro vm w1 ⟨⟨l, F, hc, hsz, _⟩, e1⟩
  have hll : l.length ≤ 1048576 := by unfold cSize at hsz; omega
  refine goS ?_
  refine WO_call rfl (FormatCells_ret vm l F w1 hc (tab_ext ht e1)) ?_
  rintro _ w2 ⟨rfl, e2⟩
  refine goS ?_
  refine WO_call rfl (CellsValid_ret vm l F w2 (hc.ext e2)) ?_
  rintro _ w3 ⟨rfl, e3⟩
  have e13 := e2.trans e3
  refine goS ?_
  refine WO_call rfl (AliveCells_ret vm l F w3 (hc.ext e13) hll) ?_
  rintro lv w4 ⟨⟨F4, h4, _⟩, e4⟩
  have e14 := e13.trans e4
  refine goS ?_
  refine WO_call rfl (sFormatCells_ret vm l F w4 (hc.ext e14)) ?_
  rintro _ w5 ⟨rfl, e5⟩
  have e15 := e14.trans e5
  refine goT ?_
  rw [show (!decide (fmtC l = fmtC l)) = false from by simp]
  refine goS ?_
  refine WO_call rfl (sCellsValid_ret vm l F w5 (hc.ext e15)) ?_
  rintro _ w6 ⟨rfl, e6⟩
  have e16 := e15.trans e6
  refine goS ?_
  rw [show (!(decide (cellsOk l) == decide (cellsOk l))) = false from by simp]
  refine goS ?_
  refine WO_call rfl (sAliveCells_ret vm l F w6 (hc.ext e16) hll) ?_
  rintro lv2 w7 ⟨⟨F7, h7, _⟩, e7⟩
  have e17 := e16.trans e7
  refine goS ?_
  refine WO_call rfl (bcInts_ret lv lv2 _ _ F4 F7 w7 (h4.int.ext (((e5.trans e6).trans e7))) h7.int) ?_
  rintro _ w8 ⟨rfl, e8⟩
  rw [show (aliveL l == aliveL l) = true from by simp]
  have e08 := e1.trans (e17.trans e8)
  have hfl : (fmtC l).length ≤ 203000 := by
    unfold fmtC
    split
    · rename_i hv
      exact Nat.le_trans (cellsT_len hv.2) (by have := hv.1; omega)
    · simp
  obtain ⟨Av, cv, hlv, _⟩ := h4.int
  obtain ⟨Am, cm, hvm, hmm⟩ := hc.slice
  subst hlv
  subst hvm
  unfold maxI at hmm
  have hal := aliveL_length l
  have hfin : ∀ s, s = fmtC l → (cellsOk l → s.count 10 = l.length ∧ s.count 33 = deadN l ∧ (aliveL l).length = aliveN l) ∧ (¬ cellsOk l → s.count 10 = 0 ∧ (aliveL l).length = 0) := fun s hs => by
    subst hs
    refine ⟨fun hv => ?_, fun hv => ?_⟩
    · obtain ⟨a, b⟩ := cells_lines l
      refine ⟨by unfold fmtC; rw [if_pos hv]; exact a, by unfold fmtC; rw [if_pos hv]; exact b, ?_⟩
      unfold aliveL
      rw [if_pos hv, alive_len l l.length (Nat.le_refl _), List.take_length]
    · exact ⟨by unfold fmtC; rw [if_neg hv]; rfl, by unfold aliveL; rw [if_neg hv]; rfl⟩
  generalize hs : fmtC l = s at hfl
  replace hfin := hfin s hs.symm
  refine goT ?_
  refine W_loop (α := Nat) (fun i => [(3, .slice Am l.length cm), (4, sV s), (5, .bool (decide (cellsOk l))), (6, .slice Av (aliveL l).length cv), (7, .int .i64 ((s.take i).count 10 : Int)), (8, .int .i64 ((s.take i).count 33 : Int)), (9, .int .i64 (i : Int))])
    (fun i w' => i ≤ s.length ∧ w' = w8) (fun i => s.length - i) 0 (by repeat (first | exact True.intro | refine And.intro rfl ?_)) ⟨Nat.zero_le _, rfl⟩ ?_
  rintro i w9 ⟨hi, rfl⟩
  have hc1 : (s.take i).count 10 ≤ i := Nat.le_trans List.count_le_length (by rw [List.length_take]; omega)
  have hc2 : (s.take i).count 33 ≤ i := Nat.le_trans List.count_le_length (by rw [List.length_take]; omega)
  refine goT ?_
  by_cases hlt : i < s.length
  · rw [decide_eq_true (show (i : Int) < (s.length : Int) by omega)]
    have k1 := count_step hlt 10
    have k2 := count_step hlt 33
    refine goT ?_
    refine Z13 (q_strAt (j := i) rfl rfl rfl hlt) ?_
    refine goT ?_
    rw [show (((s[i].toNat : Nat) : Int) == 10) = decide (s[i] = UInt8.ofNat 10) from u8eq (b := s[i]) (k := 10) (by decide)]
    by_cases h1 : s[i] = 10
    · rw [if_pos h1] at k1
      rw [if_neg (by rw [h1]; decide)] at k2
      rw [decide_eq_true (show s[i] = UInt8.ofNat 10 from h1)]
      refine goT ?_
      refine Z13 (q_strAt (j := i) rfl rfl rfl hlt) ?_
      refine goT ?_
      rw [show (((s[i].toNat : Nat) : Int) == 33) = false from by rw [h1]; rfl]
      refine goT ?_
      exact at_loop (i + 1) ⟨rfl, rfl, rfl, rfl, congrArg (fun x => some (Value.int .i64 x)) (by rw [k1]; push_cast; rfl), congrArg (fun x => some (Value.int .i64 x)) (by rw [k2]; simp), rfl, True.intro⟩ ⟨hlt, rfl⟩ (by omega)
    · rw [if_neg h1] at k1
      rw [decide_eq_false (show ¬ s[i] = UInt8.ofNat 10 from h1)]
      refine goT ?_
      refine Z13 (q_strAt (j := i) rfl rfl rfl hlt) ?_
      refine goT ?_
      rw [show (((s[i].toNat : Nat) : Int) == 33) = decide (s[i] = UInt8.ofNat 33) from u8eq (b := s[i]) (k := 33) (by decide)]
      by_cases h2 : s[i] = 33
      · rw [if_pos h2] at k2
        rw [decide_eq_true (show s[i] = UInt8.ofNat 33 from h2)]
        refine goT ?_
        exact at_loop (i + 1) ⟨rfl, rfl, rfl, rfl, congrArg (fun x => some (Value.int .i64 x)) (by rw [k1]; simp), congrArg (fun x => some (Value.int .i64 x)) (by rw [k2]; push_cast; rfl), rfl, True.intro⟩ ⟨hlt, rfl⟩ (by omega)
      · rw [if_neg h2] at k2
        rw [decide_eq_false (show ¬ s[i] = UInt8.ofNat 33 from h2)]
        refine goT ?_
        exact at_loop (i + 1) ⟨rfl, rfl, rfl, rfl, congrArg (fun x => some (Value.int .i64 x)) (by rw [k1]; simp), congrArg (fun x => some (Value.int .i64 x)) (by rw [k2]; simp), rfl, True.intro⟩ ⟨hlt, rfl⟩ (by omega)
  · have hii : i = s.length := by omega
    subst hii
    rw [decide_eq_false (show ¬ (s.length : Int) < (s.length : Int) by omega)]
    rw [List.take_length] at hc1 hc2 ⊢
    by_cases hv : cellsOk l
    · obtain ⟨q1, q2, q3⟩ := hfin.1 hv
      have hda := dead_alive l
      rw [q1, q2, decide_eq_true hv]
      refine goT ?_
      rw [show (((l.length : Nat) : Int) == (l.length : Int)) = true from by simp]
      refine goT ?_
      rw [show (((deadN l : Nat) : Int) == (l.length : Int) - ((aliveL l).length : Int)) = true from by rw [beq_iff_eq]; omega]
      refine goT ?_
      exact at_ret1 rfl rfl ⟨rfl, e08⟩
    · obtain ⟨q1, q2⟩ := hfin.2 hv
      rw [q1, q2, decide_eq_false hv]
      refine goT ?_
      exact at_ret1 rfl rfl ⟨rfl, e08⟩
end Go.Proofs.YtnfapbghkmodeaaDoor
