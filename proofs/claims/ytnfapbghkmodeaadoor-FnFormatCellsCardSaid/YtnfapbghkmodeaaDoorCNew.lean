/-
  What is proved here: NewCell of the program and of the reference compute the same; the law FnExactNewCell.
-/
import Derived.Test.YtnfapbghkmodeaaDoorCOwn
import Derived.Test.YtnfapbghkmodeaaDoorRes
import Derived.Test.YtnfapbghkmodeaaDoorWx
namespace Go.Proofs.YtnfapbghkmodeaaDoor
set_option linter.unusedVariables false
set_option linter.unusedSimpArgs false
set_option linter.unnecessarySimpa false
open Go.RowKit

def freshCe (val : Int) : Ce := ⟨val, true, 1, [⟨0, true⟩]⟩
theorem ownsRow_mono {w : World} {v : Value} {B B' e k n : Nat} {xs : List Value} (h : w.ownsRow B e k v n xs) (hB : B' ≤ B) : w.ownsRow B' e k v n xs := by
  obtain ⟨hl, h | ⟨g, cap, cur, hv, hB2, rest⟩⟩ := h
  · exact ⟨hl, .inl h⟩
  · exact ⟨hl, .inr ⟨g, cap, cur, hv, Nat.le_trans hB hB2, rest⟩⟩
theorem NewCells.mono {e eT : TypeId} {l : List Ce} {w0 w w' : World} {v : Value} (h : NewCells e eT l w v w') (he : Ext w0 w) : NewCells e eT l w0 v w' := by
  obtain ⟨⟨F, h1, h2, h3⟩, h4⟩ := h
  exact ⟨⟨F, h1, h2, fun b hb => Nat.le_trans he.size (h3 b hb)⟩, he.trans h4⟩
theorem NewCells.store {e eT : TypeId} {l : List Ce} {w0 w w' w'' : World} {v : Value} {b : Nat} (h : NewCells e eT l w v w') (hs : w0.heap.size ≤ w.heap.size) (ho : Only b w' w'') (hb : b < w.heap.size) (hx : Ext w0 w'') : NewCells e eT l w0 v w'' := by
  obtain ⟨⟨F, h1, h2, h3⟩, h4⟩ := h
  exact ⟨⟨F, h1.chg ho.chg (fun x hx => by have := h3 x hx; simp; omega), h2, fun x hx => Nat.le_trans hs (h3 x hx)⟩, hx⟩
theorem NewCells.ext {e eT : TypeId} {l : List Ce} {w w' w'' : World} {v : Value} (h : NewCells e eT l w v w') (hx : Ext w' w'') : NewCells e eT l w v w'' := by
  obtain ⟨⟨F, h1, h2, h3⟩, h4⟩ := h
  exact ⟨⟨F, h1.ext hx, h2, h3⟩, h4.trans hx⟩
theorem NewCells.nil_ (e eT : TypeId) (w w' : World) (he : Ext w w') : NewCells e eT [] w (.slice none 0 0) w' :=
  ⟨⟨[], ⟨[], [], ownsRow_base0 (World.ownsRow_nil w' 0 _ _), ⟨rfl, rfl⟩, rfl⟩, by simp, by simp⟩, he⟩
theorem NewCells.chg {e eT : TypeId} {l : List Ce} {w0 w w' w'' : World} {v : Value} {G : List Nat} (h : NewCells e eT l w v w') (c : Chg G w' w'') (hG : ∀ x ∈ G, x < w.heap.size ∨ w'.heap.size ≤ x) (hs : w0.heap.size ≤ w.heap.size) (hx : Ext w0 w'') : NewCells e eT l w0 v w'' := by
  obtain ⟨⟨F, h1, h2, h3⟩, h4⟩ := h
  exact ⟨⟨F, h1.chg c (fun x hm hg => by have := h3 x hm; have := h1.lt x hm; have := hG x hg; omega), h2, fun x hx => Nat.le_trans hs (h3 x hx)⟩, hx⟩
theorem NewCells.nil' (e eT : TypeId) {w w' : World} {b : Nat} (hb : Blk w' b [] e) (h : w.heap.size ≤ b) (he : Ext w w') : NewCells e eT [] w (.slice (some ⟨b, 0, none⟩) 0 0) w' :=
  ⟨⟨[b], ⟨[], [], owns_empty hb (Nat.zero_le _), ⟨rfl, rfl⟩, rfl⟩, by simp, by simpa using h⟩, he⟩
def newOk (l : List Ce) (val : Int) : Prop := cellsOk l ∧ 0 ≤ val ∧ val ≤ 9 ∧ l.length ≠ 200
instance (l : List Ce) (val : Int) : Decidable (newOk l val) := by unfold newOk; infer_instance
def newL (l : List Ce) (val : Int) : List Ce := if newOk l val then l ++ [freshCe val] else []
def newP (l : List Ce) (val : Int) : Pt := if newOk l val then ⟨l.length, 0⟩ else ⟨0, 0⟩
/-- What NewCell returns. -/
def NewPost (e eT : TypeId) (l : List Ce) (val : Int) (w : World) (r : Value) (w' : World) : Prop :=
  ∃ vo, r = .tuple #[vo, ptV (newP l val), .bool (decide (newOk l val))] ∧ NewCells e eT (newL l val) w vo w'
theorem sNewCell_ret (v : Value) (l : List Ce) (F : List Nat) (val : Int) (w : World) (h : CeS w v l F) (hn : cSize l ≤ 1048576) :
    Ret Tryd.prog 47 [v, .int .i64 val] w (NewPost 43 54 l val w) := by
  have hlen : l.length ≤ 1048576 := by unfold cSize at hn; omega
  obtain ⟨A, c, rfl, hl⟩ := h.slice
  refine enter Tryd.func47 rfl Tryd.ntmps47 rfl rfl ?_
  refine goS ?_
  refine WO_alloc fun w1 hp e1 z1 => ?_
  replace hp : Blk w1 w.heap.size [.int .i64 0, .int .i64 0] _ := hp
  have fin : ∀ w2 w4 w5, Ext w1 w2 → Blk w4 w2.heap.size [] 43 → Ext w2 w4 → Only w.heap.size w4 w5 → ¬ newOk l val → NewPost 43 54 l val w (.tuple #[.slice (some ⟨w2.heap.size, 0, none⟩) 0 0, .agg #[.int .i64 0, .int .i64 0], .bool false]) w5 :=
    fun w2 w4 w5 e2 hb4 e4 o5 hno => by
      have s1 := e1.size_le
      have s2 := e2.size_le
      refine ⟨.slice (some ⟨w2.heap.size, 0, none⟩) 0 0, by rw [decide_eq_false hno]; unfold newP; rw [if_neg hno]; rfl, ?_⟩
      unfold newL
      rw [if_neg hno]
      exact NewCells.nil' _ _ (hb4.only o5 (by omega)) (by omega) (((e1.trans e2).trans e4).only o5 (Nat.le_refl _))
  refine goS ?_
  refine WO_call rfl (sCellsValid_ret _ l F w1 (h.ext e1)) ?_
  rintro r w2 ⟨rfl, e2⟩
  by_cases hok : cellsOk l
  · rw [decide_eq_true hok]
    (refine goS ?_; repeat' (first | ((refine Z51 rfl rfl (fun c' hc' => ?_)); cases c' <;> (try simp only [decide_eq_true_eq, decide_eq_false_iff_not, beq_iff_eq, beq_eq_false_iff_ne, bne_iff_ne, bne_eq_false_iff_eq, ne_eq, gt_iff_lt, ge_iff_le, Int.not_lt, Int.not_le, Bool.not_eq_true', Bool.not_eq_false', Bool.not_true, Bool.not_false, reduceCtorEq, Decidable.not_not, not_true_eq_false, Bool.true_eq_false, Bool.false_eq_true] at hc') <;> (try (exfalso; omega)) <;> refine goS ?_) | ((refine Z52 rfl (fun hc' => ?_) (fun hc' => ?_)) <;> (try simp only [decide_eq_true_eq, decide_eq_false_iff_not, beq_iff_eq, beq_eq_false_iff_ne, bne_iff_ne, bne_eq_false_iff_eq, ne_eq, gt_iff_lt, ge_iff_le, Int.not_lt, Int.not_le, Bool.not_eq_true', Bool.not_eq_false', Bool.not_true, Bool.not_false, reduceCtorEq, Decidable.not_not, not_true_eq_false, Bool.true_eq_false, Bool.false_eq_true] at hc') <;> (try (exfalso; omega)) <;> refine goS ?_)))
    all_goals first
      | (refine goS ?_
         refine WO_build0 (e := 43) (k := 4) fun w4 hb4 e4 z4 => ?_
         refine goS ?_
         refine WO_storeS (k := 2) (vs := [.int .i64 0, .int .i64 0]) rfl rfl rfl (by intro v hv; simp at hv; subst hv; rfl) (hp.ext (e2.trans e4)) (by decide) fun w5 hp5 o5 => ?_
         refine goS ?_
         exact at_ret3G rfl (.tmp rfl) (.cell (k := 2) inferInstance rfl hp5 rfl) (.tmp rfl) (fin _ _ _ e2 hb4 e4 o5 (by rintro ⟨q1, q2, q3, q4⟩; first | exact hok q1 | omega))
         done)
      | skip
    have hyes : newOk l val := ⟨hok, by assumption, by assumption, by omega⟩
    refine WO_call rfl (l6Copy_ret _ l F w2 (h.ext (e1.trans e2)) hn) ?_
    rintro vo w3 ⟨⟨xs, Fs, r1, r2, r3, r4⟩, e3⟩
    refine goS ?_
    refine WO_build (e := 54) (k := 2) [.tmp 29] (vs := [.agg #[.int .i64 0, .bool true]]) (cs := [.int .i64 0, .bool true]) rfl rfl rfl (by decide) (by decide) (by simp; rfl) rfl fun w4 hb4 e4 z4 => ?_
    have hu4 : RowT 54 w4 (.slice (some ⟨w3.heap.size, 0, none⟩) 1 1) [⟨0, true⟩] [w3.heap.size] := ⟨owns_blk (m := 1) hb4 (Nat.zero_le _) rfl (by decide), rfl⟩
    have r14 := ownsRow_ext r1 e4
    have r24 := r2.imp (fun v l' F' _ hr => hr.ext e4)
    refine goS ?_
    refine WO_app1 (m := l.length) (u := .agg #[.int .i64 val, .bool true, .int .i64 1, .slice (some ⟨w3.heap.size, 0, none⟩) 1 1]) rfl rfl (by intro v hv; simp [Value.cells] at hv; rcases hv with rfl | rfl | rfl | rfl <;> rfl) rfl r14 (e3.trans e4).size rfl (by omega) (by decide) fun v' w5 hown5 hg5 hat5 => ?_
    have hs3 := e3.size
    have hnew : NewRow 43 54 (l ++ [freshCe val]) w2 v' w5 := by
      refine NewRow.step (c := freshCe val) r14 r24 r3 r4 (e3.trans e4) hu4 (fun x hx hm => ?_) (fun x hx => ?_) hown5 hg5 ?_
      · simp at hx
        subst hx
        have h2 : w3.heap.size < w3.heap.size := by
          rcases List.mem_append.1 hm with hm | hm
          · exact (r1.lt _ (by simpa using hm)).2
          · exact r2.lt _ hm
        omega
      · simp at hx; omega
      · rcases hat5 with h4 | h4
        · exact .inl h4
        · exact .inr ⟨_, h4, by omega⟩
    have hnc := hnew.cells
    have e15 := e2.trans hnc.2
    have hp5 := hp.ext e15
    have s1 := e1.size_le
    have s2 := e2.size_le
    refine goS ?_
    refine WO_storeS (k := 2) (vs := [.int .i64 l.length, .int .i64 0]) rfl rfl rfl (by intro v hv; simp at hv; rcases hv with rfl | rfl <;> rfl) hp5 (by decide) fun w6 hp6 o6 => ?_
    replace hp6 : Blk w6 w.heap.size [.int .i64 l.length, .int .i64 0] _ := hp6
    refine goS ?_
    refine at_ret3G rfl (.tmp rfl) (.cell (k := 2) inferInstance rfl hp6 rfl) (.tmp rfl) ⟨v', ?_, ?_⟩
    · rw [decide_eq_true hyes]; unfold newP; rw [if_pos hyes]; rfl
    · unfold newL; rw [if_pos hyes]
      exact hnc.chg o6.chg (by simp; omega) (by omega) ((e1.trans e15).only o6 (Nat.le_refl _))
  · rw [decide_eq_false hok]
    refine goS ?_
    refine WO_build0 (e := 43) (k := 4) fun w4 hb4 e4 z4 => ?_
    refine goS ?_
    refine WO_storeS (k := 2) (vs := [.int .i64 0, .int .i64 0]) rfl rfl rfl (by intro v hv; simp at hv; subst hv; rfl) (hp.ext (e2.trans e4)) (by decide) fun w5 hp5 o5 => ?_
    refine goS ?_
    exact at_ret3G rfl (.tmp rfl) (.cell (k := 2) inferInstance rfl hp5 rfl) (.tmp rfl) (fin _ _ _ e2 hb4 e4 o5 (by rintro ⟨q1, q2, q3, q4⟩; first | exact hok q1 | omega))
end Go.Proofs.YtnfapbghkmodeaaDoor
