/-
  What is proved here: what ReadCell of the reference and of the program return.
-/
import Derived.Test.YtnfapbghkmodeaaDoorCTouch
namespace Go.Proofs.YtnfapbghkmodeaaDoor
set_option linter.unusedVariables false
set_option linter.unusedSimpArgs false
set_option linter.unnecessarySimpa false
open Go.RowKit

theorem acc0 {l : List Ce} {x : Pt} (h : accC l x = 0) : ∃ (i : Nat) (hi : i < l.length) (k : Nat) (hk : k < l[i].st.length), x.cell = i ∧ readL l x = l.set i ⟨l[i].val, l[i].al, l[i].nx, readSt l[i].st k⟩ ∧ valAt l x = l[i].val ∧ kOf l x = k ∧ uAt l x = l[i].st[k].u ∧
    stAt l x = l[i].st ∧ (∀ f, setC l x f = l.set i (f l[i])) := by
  rcases acc_cases l x with ⟨ha, _⟩ | ⟨hok, i, hi, hxc, hst, hval, hset, ⟨_, ha⟩ | ⟨_, _, ha⟩ | ⟨_, ha, k, hk, ht, hko, hu⟩⟩
  · omega
  · omega
  · omega
  · refine ⟨i, hi, k, hk, hxc, ?_, hval, hko, hu, hst, hset⟩
    unfold readL
    rw [if_pos h, hset, hko]
theorem wr0 {l : List Ce} {x : Pt} (h : wrC l x = 0) : accC l x = 0 ∧ uAt l x = true ∧ ∃ (i : Nat) (hi : i < l.length) (k : Nat) (hk : k < l[i].st.length), x.cell = i ∧ wrL l x = l.set i ⟨l[i].val, l[i].al, l[i].nx, l[i].st.take (k + 1)⟩ ∧ kOf l x = k := by
  have h0 : accC l x = 0 := by
    unfold wrC at h
    split at h
    · assumption
    · rename_i h1; exact absurd h h1
  obtain ⟨i, hi, k, hk, hxc, _, _, hko, hu, _, hset⟩ := acc0 h0
  have hut : uAt l x = true := by
    unfold wrC at h
    rw [if_pos h0] at h
    cases hu : uAt l x
    · rw [hu] at h; simp at h
    · rfl
  refine ⟨h0, hut, i, hi, k, hk, hxc, ?_, hko⟩
  unfold wrL
  rw [if_pos h, hset, hko]
theorem readL_length (l : List Ce) (x : Pt) : (readL l x).length = l.length := by
  by_cases h : accC l x = 0
  · obtain ⟨i, hi, k, hk, _, hr, _⟩ := acc0 h
    rw [hr, List.length_set]
  · unfold readL; rw [if_neg h]
theorem readL_ne {l : List Ce} {x : Pt} (h : accC l x ≠ 0) : readL l x = l := by unfold readL; rw [if_neg h]
/-- What ReadCell returns. -/
def ReadPost (e eT : TypeId) (l : List Ce) (x : Pt) (w : World) (r : Value) (w' : World) : Prop :=
  ∃ vo, r = .tuple #[vo, .int .i64 (readV l x), .int .i64 (accC l x)] ∧ NewCells e eT (readL l x) w vo w'
theorem NewCells.sl {e eT : TypeId} {l : List Ce} {w w' : World} {v : Value} (h : NewCells e eT l w v w') : ∃ A c, v = .slice A l.length c := by
  obtain ⟨⟨F, hr, _, _⟩, _⟩ := h
  obtain ⟨A, c, rfl, _⟩ := hr.slice
  exact ⟨A, c, rfl⟩
theorem NewCells.ces {e eT : TypeId} {l : List Ce} {w w' : World} {v : Value} (h : NewCells e eT l w v w') : ∃ F, CeS w' v l F ∧ ∀ b ∈ F, w.heap.size ≤ b ∧ b < w'.heap.size := by
  obtain ⟨⟨F, hr, _, hF⟩, _⟩ := h
  exact ⟨F, hr.ces, fun b hb => ⟨hF b hb, hr.lt b hb⟩⟩
theorem sReadCell_ret (v : Value) (l : List Ce) (F : List Nat) (x : Pt) (w : World) (h : CeS w v l F) (hn : cSize l ≤ 1048576) :
    Ret Tryd.prog 57 [v, ptV x] w (ReadPost 43 54 l x w) := by
  have hsum : (l.map fun c => c.st.length).sum ≤ 1048576 := by unfold cSize at hn; omega
  have hlen' : l.length ≤ 1048576 := by unfold cSize at hn; omega
  obtain ⟨A, c, rfl, hl⟩ := h.slice
  refine enter Tryd.func57 rfl Tryd.ntmps57 rfl rfl ?_
  refine Z43 (Z44 (WO_box rfl fun w1 hs e1 z1 => ?_))
  replace hs : Blk w1 w.heap.size [.int .i64 x.cell, .int .i64 x.tag] _ := hs
  refine goS ?_
  refine WO_call rfl (l6Copy_ret _ l F w1 (h.ext e1) hn) ?_
  rintro vo w2 hrow
  have hnc : NewCells 43 54 l w1 vo w2 := NewRow.cells hrow
  clear hrow
  have hs2 := hs.ext hnc.2
  refine goS ?_
  refine WO_loadSB rfl hs2 rfl ?_
  refine WO_call rfl (l6Place_ret _ l F x w2 (h.ext (e1.trans hnc.2))) ?_
  rintro r w3 ⟨⟨k, rfl, hkk⟩, e3⟩
  have hnc3 := hnc.ext e3
  refine goS ?_
  by_cases h0 : accC l x = 0
  · obtain ⟨i, hi, k', hk, hxc, hL, hval, hko, _⟩ := acc0 h0
    rw [hkk h0, hko, h0]
    rw [hxc] at hs
    have hstl : l[i].st.length ≤ 1048576 := Nat.le_trans (st_le l i hi) hsum
    obtain ⟨b, o, vs, Fs, rfl, _, c0, _, _, c3, hts, _⟩ := ces_at (h.ext e1) hi
    obtain ⟨g, cap, cs, us, Fc, rfl, hg, hb, hlen, d0, d1, d2, d3, hst, hgF, hFc, hup⟩ := hnc3.setSt hi
    have hne : ∀ {a : Addr} {u : Value}, w1.cell? a = some u → a.block ∉ [g] := fun ha => by
      have := World.block_lt_of_cell? _ _ ha
      simp
      omega
    refine goS ?_
    refine W_held0 [g] [(0, .slice (some ⟨b, o, none⟩) l.length c), (3, .pointer (some ⟨w.heap.size, 0, none⟩)), (7, .slice (some ⟨g, 0, none⟩) l.length cap)] (fun w' => NewCells 43 54 (readL l x) w1 (.slice (some ⟨g, 0, none⟩) l.length cap) w')
      (by kernel_rfl) (fun w4 e4 hS => ?_) (fun w6 hR => ?_)
    · have e14 := hnc3.2.trans e4
      have hx0 := cell_ext (hs.cell (o := 0) rfl) e14
      first | refine Z82 0 rfl (by kernel_rfl) (by kernel_rfl) (by kernel_rfl) (by assumption) (fun w' hw' => Z56 rfl) ?_ | refine Z82 0 rfl (by kernel_rfl) (by kernel_rfl) (by kernel_rfl) (by assumption) (fun w' hw' => Z63 rfl rfl) ?_ | refine Z82 0 rfl (by kernel_rfl) (by kernel_rfl) (by kernel_rfl) (by assumption) (fun w' hw' => Z64 rfl rfl) ?_ | refine Z82 0 rfl (by kernel_rfl) (by kernel_rfl) (by kernel_rfl) (by assumption) (fun w' hw' => Z75 rfl rfl (by omega)) ?_ | refine Z82 0 rfl (by kernel_rfl) (by kernel_rfl) (by kernel_rfl) (by assumption) (fun w' hw' => Z72 rfl) ?_ | refine Z82 0 rfl (by kernel_rfl) (by kernel_rfl) (by kernel_rfl) (by assumption) (fun w' hw' => Z69 rfl rfl rfl (by omega)) ?_ | refine Z82 0 rfl (by kernel_rfl) (by kernel_rfl) (by kernel_rfl) (by assumption) (fun w' hw' => Z30 rfl (by rfl) (by simp only [Z84, List.set_cons_zero, List.set_cons_succ]; rfl)) ?_
      first | refine Z82 1 rfl (by kernel_rfl) (by kernel_rfl) (by kernel_rfl) (by assumption) (fun w' hw' => Z56 rfl) ?_ | refine Z82 1 rfl (by kernel_rfl) (by kernel_rfl) (by kernel_rfl) (by assumption) (fun w' hw' => Z63 rfl rfl) ?_ | refine Z82 1 rfl (by kernel_rfl) (by kernel_rfl) (by kernel_rfl) (by assumption) (fun w' hw' => Z64 rfl rfl) ?_ | refine Z82 1 rfl (by kernel_rfl) (by kernel_rfl) (by kernel_rfl) (by assumption) (fun w' hw' => Z75 rfl rfl (by omega)) ?_ | refine Z82 1 rfl (by kernel_rfl) (by kernel_rfl) (by kernel_rfl) (by assumption) (fun w' hw' => Z72 rfl) ?_ | refine Z82 1 rfl (by kernel_rfl) (by kernel_rfl) (by kernel_rfl) (by assumption) (fun w' hw' => Z69 rfl rfl rfl (by omega)) ?_ | refine Z82 1 rfl (by kernel_rfl) (by kernel_rfl) (by kernel_rfl) (by assumption) (fun w' hw' => Z30 rfl (by rfl) (by simp only [Z84, List.set_cons_zero, List.set_cons_succ]; rfl)) ?_
      refine Z82 2 rfl (by kernel_rfl) (by kernel_rfl) (by kernel_rfl) (by assumption) (fun w' hw' => Z67 rfl (cell_chg hx0 hw' (hne (hs.cell (o := 0) rfl)))) ?_
      first | refine Z82 3 rfl (by kernel_rfl) (by kernel_rfl) (by kernel_rfl) (by assumption) (fun w' hw' => Z56 rfl) ?_ | refine Z82 3 rfl (by kernel_rfl) (by kernel_rfl) (by kernel_rfl) (by assumption) (fun w' hw' => Z63 rfl rfl) ?_ | refine Z82 3 rfl (by kernel_rfl) (by kernel_rfl) (by kernel_rfl) (by assumption) (fun w' hw' => Z64 rfl rfl) ?_ | refine Z82 3 rfl (by kernel_rfl) (by kernel_rfl) (by kernel_rfl) (by assumption) (fun w' hw' => Z75 rfl rfl (by omega)) ?_ | refine Z82 3 rfl (by kernel_rfl) (by kernel_rfl) (by kernel_rfl) (by assumption) (fun w' hw' => Z72 rfl) ?_ | refine Z82 3 rfl (by kernel_rfl) (by kernel_rfl) (by kernel_rfl) (by assumption) (fun w' hw' => Z69 rfl rfl rfl (by omega)) ?_ | refine Z82 3 rfl (by kernel_rfl) (by kernel_rfl) (by kernel_rfl) (by assumption) (fun w' hw' => Z30 rfl (by rfl) (by simp only [Z84, List.set_cons_zero, List.set_cons_succ]; rfl)) ?_
      first | refine Z82 4 rfl (by kernel_rfl) (by kernel_rfl) (by kernel_rfl) (by assumption) (fun w' hw' => Z56 rfl) ?_ | refine Z82 4 rfl (by kernel_rfl) (by kernel_rfl) (by kernel_rfl) (by assumption) (fun w' hw' => Z63 rfl rfl) ?_ | refine Z82 4 rfl (by kernel_rfl) (by kernel_rfl) (by kernel_rfl) (by assumption) (fun w' hw' => Z64 rfl rfl) ?_ | refine Z82 4 rfl (by kernel_rfl) (by kernel_rfl) (by kernel_rfl) (by assumption) (fun w' hw' => Z75 rfl rfl (by omega)) ?_ | refine Z82 4 rfl (by kernel_rfl) (by kernel_rfl) (by kernel_rfl) (by assumption) (fun w' hw' => Z72 rfl) ?_ | refine Z82 4 rfl (by kernel_rfl) (by kernel_rfl) (by kernel_rfl) (by assumption) (fun w' hw' => Z69 rfl rfl rfl (by omega)) ?_ | refine Z82 4 rfl (by kernel_rfl) (by kernel_rfl) (by kernel_rfl) (by assumption) (fun w' hw' => Z30 rfl (by rfl) (by simp only [Z84, List.set_cons_zero, List.set_cons_succ]; rfl)) ?_
      refine Z82 5 rfl (by kernel_rfl) (by kernel_rfl) (by kernel_rfl) (by assumption) (fun w' hw' => Z67 rfl (cell_chg hx0 hw' (hne (hs.cell (o := 0) rfl)))) ?_
      first | refine Z82 6 rfl (by kernel_rfl) (by kernel_rfl) (by kernel_rfl) (by assumption) (fun w' hw' => Z56 rfl) ?_ | refine Z82 6 rfl (by kernel_rfl) (by kernel_rfl) (by kernel_rfl) (by assumption) (fun w' hw' => Z63 rfl rfl) ?_ | refine Z82 6 rfl (by kernel_rfl) (by kernel_rfl) (by kernel_rfl) (by assumption) (fun w' hw' => Z64 rfl rfl) ?_ | refine Z82 6 rfl (by kernel_rfl) (by kernel_rfl) (by kernel_rfl) (by assumption) (fun w' hw' => Z75 rfl rfl (by omega)) ?_ | refine Z82 6 rfl (by kernel_rfl) (by kernel_rfl) (by kernel_rfl) (by assumption) (fun w' hw' => Z72 rfl) ?_ | refine Z82 6 rfl (by kernel_rfl) (by kernel_rfl) (by kernel_rfl) (by assumption) (fun w' hw' => Z69 rfl rfl rfl (by omega)) ?_ | refine Z82 6 rfl (by kernel_rfl) (by kernel_rfl) (by kernel_rfl) (by assumption) (fun w' hw' => Z30 rfl (by rfl) (by simp only [Z84, List.set_cons_zero, List.set_cons_succ]; rfl)) ?_
      first | refine Z82 7 rfl (by kernel_rfl) (by kernel_rfl) (by kernel_rfl) (by assumption) (fun w' hw' => Z56 rfl) ?_ | refine Z82 7 rfl (by kernel_rfl) (by kernel_rfl) (by kernel_rfl) (by assumption) (fun w' hw' => Z63 rfl rfl) ?_ | refine Z82 7 rfl (by kernel_rfl) (by kernel_rfl) (by kernel_rfl) (by assumption) (fun w' hw' => Z64 rfl rfl) ?_ | refine Z82 7 rfl (by kernel_rfl) (by kernel_rfl) (by kernel_rfl) (by assumption) (fun w' hw' => Z75 rfl rfl (by omega)) ?_ | refine Z82 7 rfl (by kernel_rfl) (by kernel_rfl) (by kernel_rfl) (by assumption) (fun w' hw' => Z72 rfl) ?_ | refine Z82 7 rfl (by kernel_rfl) (by kernel_rfl) (by kernel_rfl) (by assumption) (fun w' hw' => Z69 rfl rfl rfl (by omega)) ?_ | refine Z82 7 rfl (by kernel_rfl) (by kernel_rfl) (by kernel_rfl) (by assumption) (fun w' hw' => Z30 rfl (by rfl) (by simp only [Z84, List.set_cons_zero, List.set_cons_succ]; rfl)) ?_
      refine Z82 8 rfl (by kernel_rfl) (by kernel_rfl) (by kernel_rfl) (by assumption) (fun w' hw' => Z67 rfl (cell_chg (cell_ext c3 e14) hw' (hne c3))) ?_
      first | refine Z82 9 rfl (by kernel_rfl) (by kernel_rfl) (by kernel_rfl) (by assumption) (fun w' hw' => Z56 rfl) ?_ | refine Z82 9 rfl (by kernel_rfl) (by kernel_rfl) (by kernel_rfl) (by assumption) (fun w' hw' => Z63 rfl rfl) ?_ | refine Z82 9 rfl (by kernel_rfl) (by kernel_rfl) (by kernel_rfl) (by assumption) (fun w' hw' => Z64 rfl rfl) ?_ | refine Z82 9 rfl (by kernel_rfl) (by kernel_rfl) (by kernel_rfl) (by assumption) (fun w' hw' => Z75 rfl rfl (by omega)) ?_ | refine Z82 9 rfl (by kernel_rfl) (by kernel_rfl) (by kernel_rfl) (by assumption) (fun w' hw' => Z72 rfl) ?_ | refine Z82 9 rfl (by kernel_rfl) (by kernel_rfl) (by kernel_rfl) (by assumption) (fun w' hw' => Z69 rfl rfl rfl (by omega)) ?_ | refine Z82 9 rfl (by kernel_rfl) (by kernel_rfl) (by kernel_rfl) (by assumption) (fun w' hw' => Z30 rfl (by rfl) (by simp only [Z84, List.set_cons_zero, List.set_cons_succ]; rfl)) ?_
      refine WX_call 10 rfl (by kernel_rfl) rfl (l6Read_ret vs l[i].st Fs k' w4 (hts.ext e14) hk hstl) ?_
      rintro ur w5 ⟨⟨Fu, hu, hFu⟩, e5⟩
      have hone : ur.oneCell' = true := by obtain ⟨_, _, rfl, _⟩ := hu.slice; rfl
      have hS5 := e5.chg [g]
      refine ⟨hS5, ?_⟩
      first | refine Z82 11 rfl (by kernel_rfl) (by kernel_rfl) (by kernel_rfl) (by assumption) (fun w' hw' => Z56 rfl) ?_ | refine Z82 11 rfl (by kernel_rfl) (by kernel_rfl) (by kernel_rfl) (by assumption) (fun w' hw' => Z63 rfl rfl) ?_ | refine Z82 11 rfl (by kernel_rfl) (by kernel_rfl) (by kernel_rfl) (by assumption) (fun w' hw' => Z64 rfl rfl) ?_ | refine Z82 11 rfl (by kernel_rfl) (by kernel_rfl) (by kernel_rfl) (by assumption) (fun w' hw' => Z75 rfl rfl (by omega)) ?_ | refine Z82 11 rfl (by kernel_rfl) (by kernel_rfl) (by kernel_rfl) (by assumption) (fun w' hw' => Z72 rfl) ?_ | refine Z82 11 rfl (by kernel_rfl) (by kernel_rfl) (by kernel_rfl) (by assumption) (fun w' hw' => Z69 rfl rfl rfl (by omega)) ?_ | refine Z82 11 rfl (by kernel_rfl) (by kernel_rfl) (by kernel_rfl) (by assumption) (fun w' hw' => Z30 rfl (by rfl) (by simp only [Z84, List.set_cons_zero, List.set_cons_succ]; rfl)) ?_
      first | refine Z82 12 rfl (by kernel_rfl) (by kernel_rfl) (by kernel_rfl) (by assumption) (fun w' hw' => Z56 rfl) ?_ | refine Z82 12 rfl (by kernel_rfl) (by kernel_rfl) (by kernel_rfl) (by assumption) (fun w' hw' => Z63 rfl rfl) ?_ | refine Z82 12 rfl (by kernel_rfl) (by kernel_rfl) (by kernel_rfl) (by assumption) (fun w' hw' => Z64 rfl rfl) ?_ | refine Z82 12 rfl (by kernel_rfl) (by kernel_rfl) (by kernel_rfl) (by assumption) (fun w' hw' => Z75 rfl rfl (by omega)) ?_ | refine Z82 12 rfl (by kernel_rfl) (by kernel_rfl) (by kernel_rfl) (by assumption) (fun w' hw' => Z72 rfl) ?_ | refine Z82 12 rfl (by kernel_rfl) (by kernel_rfl) (by kernel_rfl) (by assumption) (fun w' hw' => Z69 rfl rfl rfl (by omega)) ?_ | refine Z82 12 rfl (by kernel_rfl) (by kernel_rfl) (by kernel_rfl) (by assumption) (fun w' hw' => Z30 rfl (by rfl) (by simp only [Z84, List.set_cons_zero, List.set_cons_succ]; rfl)) ?_
      refine WH_one 13 rfl (by kernel_rfl) (WO_store1 rfl rfl hone (hb.ext (e4.trans e5)) (by omega) fun w6 hb6 o6 => Z31 (at_held (hS5.trans o6.chg) (WH_done (by kernel_rfl) (by repeat (first | exact True.intro | refine And.intro rfl ?_)) ?_)))
      simp only [Nat.zero_add] at hb6
      rw [hL]
      have hglt := hb.lt
      exact hup w6 ur (readSt l[i].st k') Fu hb6 (hu.chg o6.chg (fun z hz hm => by simp only [List.mem_singleton] at hm; subst hm; have := hFu _ hz; have := e4.size_le; omega)) (((e4.trans e5).chg _).trans (o6.chg.mono (by simp))) (fun z hz => .inr (Nat.le_trans e4.size_le (hFu z hz)))
    · have hs6 := hs.ext hR.2
      replace c0 := cell_ext c0 hR.2
      clear c3
      refine goS ?_
      refine Z54 (by kernel_rfl) (by kernel_rfl) ?_; repeat' (first | refine Z55 (Z56 rfl) ?_ | (refine Z57 ?_; first | refine Z58 rfl rfl (by decide) ?_ | refine Z59 rfl rfl (by decide) ?_ | refine Z60 rfl rfl ?_ | ((refine Z61 rfl rfl (fun c' hc' => ?_)); cases c' <;> (try simp only [decide_eq_true_eq, decide_eq_false_iff_not, beq_iff_eq, beq_eq_false_iff_ne, bne_iff_ne, bne_eq_false_iff_eq, ne_eq, gt_iff_lt, ge_iff_le, Int.not_lt, Int.not_le, Bool.not_eq_true', Bool.not_eq_false', Bool.not_true, Bool.not_false, reduceCtorEq, Decidable.not_not, not_true_eq_false, Bool.true_eq_false, Bool.false_eq_true] at hc') <;> (try (exfalso; omega)))) | (refine Z62 ?_; first | refine Z55 (Z63 rfl rfl) ?_ | refine Z55 (Z64 rfl rfl) ?_) | (refine Z65 ?_; first | refine Z55 (Z66 rfl (by assumption) (by rfl)) ?_ | refine Z55 (Z67 rfl (by assumption)) ?_) | (refine Z68 ?_; refine Z55 (Z69 rfl rfl rfl (by omega)) ?_) | (refine Z70 ?_; first | refine Z55 (Z14 rfl (by decide) rfl) ?_ | refine Z55 (Z15 rfl (by decide) rfl) ?_) | (refine Z71 ?_; first | refine Z55 (Z72 rfl) ?_ | refine Z55 (Z73 rfl) ?_) | (refine Z74 ?_; first | refine Z55 (Z75 rfl rfl (by omega)) ?_ | refine Z55 (Z76 rfl rfl (by omega)) ?_ | refine Z55 (Z77 rfl rfl (by omega)) ?_ | refine Z55 (Z78 rfl rfl (by omega) (by omega)) ?_ | refine Z55 (Z79 rfl rfl (by omega) (by omega) (by omega)) ?_ | refine Z55 (Z25 rfl rfl) ?_ | refine Z55 (Z26 rfl rfl) ?_) | (refine Z80 ?_; refine Z55 (Z28 rfl (Z53 ⟨by omega, by omega⟩)) ?_) | refine Z81 fun w' hw' => ?_)
      refine goS ?_
      refine at_ret3 rfl rfl rfl rfl ⟨_, ?_, (hR.mono e1).ext hw'⟩
      unfold readV
      rw [if_pos h0, hval, h0]
  · refine Z49 rfl (by simpa using h0) ?_
    refine goS ?_
    refine at_ret3 rfl rfl rfl rfl ⟨vo, ?_, by rw [readL_ne h0]; exact hnc3.mono e1⟩
    unfold readV
    rw [if_neg h0]
    rfl
end Go.Proofs.YtnfapbghkmodeaaDoor
