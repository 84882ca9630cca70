/-
  What is proved here: the law FnExactPointText.
-/
import Derived.Test.YteonnoijdnjpdaaDoorFp
import Derived.Test.YteonnoijdnjpdaaDoorOpenS
import Derived.Test.YteonnoijdnjpdaaDoorPr
import Derived.Test.YteonnoijdnjpdaaDoorWx
namespace Go.Proofs.YteonnoijdnjpdaaDoor
set_option linter.unusedVariables false
set_option linter.unusedSimpArgs false
set_option linter.unnecessarySimpa false
open Go.RowKit

/-- The text of a point. -/
def pointT (op x y n : Int) : Tx :=
  if op = 11 then [101, 110, 100] else if op = 9 then [105, 102] else if op = 10 ∧ n = 1 then [103, 111] else if op = 10 then [108, 111, 111, 112]
  else if (1 ≤ op ∧ op ≤ 8) ∧ (0 ≤ x ∧ x ≤ 5) ∧ (0 ≤ y ∧ y ≤ 5) ∧ (0 ≤ n ∧ n ≤ 9) then simT op x y n else []
theorem l1TextS_ret (op x y n : Int) (vt ve : Value) (w : World) (a1 : 1 ≤ op ∧ op ≤ 8) (a2 : 0 ≤ x ∧ x < 6) (a3 : 0 ≤ y ∧ y < 6) (a4 : 0 ≤ n ∧ n ≤ 9) :
    Ret Tryd.prog 38 [stV op x y n vt ve] w fun r w' => r = sV (simT op x y n) ∧ Ext w w' := by
  refine enter Tryd.func38 rfl Tryd.ntmps38 rfl rfl ?_
  refine Z43 (Z44 (WO_box rfl fun w1 hs e1 z1 => ?_))
  replace hs : Blk w1 w.heap.size [.int .i64 op, .int .i64 x, .int .i64 y, .int .i64 n, vt, ve] _ := hs
  refine goT ?_
  rw [decide_eq_true (show op < 9 by omega)]
  refine goT ?_
  refine WO_call rfl (l1Letter_ret x w1 (by omega)) ?_
  rintro _ w2 ⟨rfl, e2⟩
  replace hs := hs.ext e2
  refine goT ?_
  refine WO_call rfl (l1Letter_ret y w2 (by omega)) ?_
  rintro _ w3 ⟨rfl, e3⟩
  replace hs := hs.ext e3
  have e0 := (e1.trans e2).trans e3
  have hop' : op = 1 ∨ op = 2 ∨ op = 3 ∨ op = 4 ∨ op = 5 ∨ op = 6 ∨ op = 7 ∨ op = 8 := by omega
  rcases hop' with rfl | rfl | rfl | rfl | rfl | rfl | rfl | rfl
  · refine goT ?_
    refine WO_call rfl (l17Dig_ret n w3 (by omega)) ?_
    rintro _ w4 ⟨rfl, e4⟩
    refine goT ?_
    exact at_ret1 rfl rfl ⟨rfl, e0.trans e4⟩
  · refine goT ?_
    refine WO_call rfl (l17Dig_ret n w3 (by omega)) ?_
    rintro _ w4 ⟨rfl, e4⟩
    refine goT ?_
    exact at_ret1 rfl rfl ⟨rfl, e0.trans e4⟩
  · refine goT ?_
    exact at_ret1 rfl rfl ⟨rfl, e0⟩
  · refine goT ?_
    exact at_ret1 rfl rfl ⟨rfl, e0⟩
  · refine goT ?_
    exact at_ret1 rfl rfl ⟨rfl, e0⟩
  · refine goT ?_
    exact at_ret1 rfl rfl ⟨rfl, e0⟩
  · refine goT ?_
    exact at_ret1 rfl rfl ⟨rfl, e0⟩
  · refine goT ?_
    exact at_ret1 rfl rfl ⟨rfl, e0⟩
theorem PointText_ret (op x y n : Int) (nv : Value) (w : World) : Ret Tryd.prog 18 [pnV op x y n nv] w fun r w' => r = sV (pointT op x y n) ∧ Ext w w' := by
  refine enter Tryd.func18 rfl Tryd.ntmps18 rfl rfl ?_
  refine Z43 (Z44 (WO_box rfl fun w1 hs e1 z1 => ?_))
  replace hs : Blk w1 w.heap.size [.int .i64 op, .int .i64 x, .int .i64 y, .int .i64 n, nv] _ := hs
  unfold pointT
  refine goT ?_
  by_cases h11 : op = 11
  · subst h11
    refine goT ?_
    exact at_ret1 rfl rfl ⟨by rw [if_pos rfl], e1⟩
  rw [show (op == 11) = false from by simp [h11]]
  refine goT ?_
  by_cases h9 : op = 9
  · subst h9
    refine goT ?_
    exact at_ret1 rfl rfl ⟨by rw [if_neg (by decide), if_pos rfl], e1⟩
  rw [show (op == 9) = false from by simp [h9]]
  refine goT ?_
  rw [if_neg h11, if_neg h9]
  by_cases h10 : op = 10
  · subst h10
    refine goT ?_
    by_cases hn : n = 1
    · subst hn
      refine goT ?_
      exact at_ret1 rfl rfl ⟨by rw [if_pos ⟨rfl, rfl⟩], e1⟩
    · rw [show (n == 1) = false from by simp [hn]]
      refine goT ?_
      exact at_ret1 rfl rfl ⟨by rw [if_neg (by omega), if_pos rfl], e1⟩
  rw [show (op == 10) = false from by simp [h10]]
  refine goT ?_
  rw [show (op == 10) = false from by simp [h10]]
  rw [if_neg (by omega), if_neg h10]
  refine goT ?_
  refine WO_call rfl (within_ret op 1 8 w1) ?_
  rintro _ _ ⟨rfl, rfl⟩
  by_cases g1 : 1 ≤ op ∧ op ≤ 8
  rotate_left
  · rw [decide_eq_false g1, if_neg (by omega)]
    refine goT ?_
    exact at_ret1 rfl rfl ⟨rfl, e1⟩
  rw [decide_eq_true g1]
  refine goT ?_
  refine WO_call rfl (within_ret x 0 5 _) ?_
  rintro _ _ ⟨rfl, rfl⟩
  by_cases g2 : 0 ≤ x ∧ x ≤ 5
  rotate_left
  · rw [decide_eq_false g2, if_neg (by omega)]
    refine goT ?_
    exact at_ret1 rfl rfl ⟨rfl, e1⟩
  rw [decide_eq_true g2]
  refine goT ?_
  refine WO_call rfl (within_ret y 0 5 _) ?_
  rintro _ _ ⟨rfl, rfl⟩
  by_cases g3 : 0 ≤ y ∧ y ≤ 5
  rotate_left
  · rw [decide_eq_false g3, if_neg (by omega)]
    refine goT ?_
    exact at_ret1 rfl rfl ⟨rfl, e1⟩
  rw [decide_eq_true g3]
  refine goT ?_
  refine WO_call rfl (within_ret n 0 9 _) ?_
  rintro _ _ ⟨rfl, rfl⟩
  by_cases g4 : 0 ≤ n ∧ n ≤ 9
  rotate_left
  · rw [decide_eq_false g4, if_neg (by omega)]
    refine goT ?_
    exact at_ret1 rfl rfl ⟨rfl, e1⟩
  rw [decide_eq_true g4, if_pos ⟨g1, g2, g3, g4⟩]
  refine goT ?_
  refine WO_call rfl (simpleText_ret op x y n _ _ _ g1 (by omega) (by omega) g4) ?_
  rintro _ w2 ⟨rfl, e2⟩
  refine goT ?_
  exact at_ret1 rfl rfl ⟨rfl, e1.trans e2⟩
theorem sPointText_ret (op x y n : Int) (nv : Value) (w : World) : Ret Tryd.prog 16 [pnV op x y n nv] w fun r w' => r = sV (pointT op x y n) ∧ Ext w w' := by
  refine enter Tryd.func16 rfl Tryd.ntmps16 rfl rfl ?_
  refine Z43 (Z44 (WO_box rfl fun w1 hs e1 z1 => ?_))
  replace hs : Blk w1 w.heap.size [.int .i64 op, .int .i64 x, .int .i64 y, .int .i64 n, nv] _ := hs
  unfold pointT
  refine goT ?_
  by_cases h11 : op = 11
  · subst h11
    refine goT ?_
    exact at_ret1 rfl rfl ⟨by rw [if_pos rfl], e1⟩
  rw [show (op == 11) = false from by simp [h11]]
  refine goT ?_
  by_cases h9 : op = 9
  · subst h9
    refine goT ?_
    exact at_ret1 rfl rfl ⟨by rw [if_neg (by decide), if_pos rfl], e1⟩
  rw [show (op == 9) = false from by simp [h9]]
  refine goT ?_
  rw [if_neg h11, if_neg h9]
  by_cases h10 : op = 10
  · subst h10
    refine goT ?_
    by_cases hn : n = 1
    · subst hn
      refine goT ?_
      exact at_ret1 rfl rfl ⟨by rw [if_pos ⟨rfl, rfl⟩], e1⟩
    · rw [show (n == 1) = false from by simp [hn]]
      refine goT ?_
      exact at_ret1 rfl rfl ⟨by rw [if_neg (by omega), if_pos rfl], e1⟩
  rw [show (op == 10) = false from by simp [h10]]
  refine goT ?_
  rw [show (op == 10) = false from by simp [h10]]
  rw [if_neg (by omega), if_neg h10]
  refine goT ?_
  by_cases g1 : 1 ≤ op ∧ op ≤ 8
  rotate_left
  · rw [if_neg (by omega)]
    (refine goT ?_; repeat' (first | ((refine Z51 rfl rfl (fun c' hc' => ?_)); cases c' <;> (try simp only [decide_eq_true_eq, decide_eq_false_iff_not, beq_iff_eq, beq_eq_false_iff_ne, bne_iff_ne, bne_eq_false_iff_eq, ne_eq, gt_iff_lt, ge_iff_le, Int.not_lt, Int.not_le, Bool.not_eq_true', Bool.not_eq_false', Bool.not_true, Bool.not_false, reduceCtorEq, Decidable.not_not, not_true_eq_false, Bool.true_eq_false, Bool.false_eq_true] at hc') <;> (try (exfalso; omega)) <;> refine goT ?_) | ((refine Z52 rfl (fun hc' => ?_) (fun hc' => ?_)) <;> (try simp only [decide_eq_true_eq, decide_eq_false_iff_not, beq_iff_eq, beq_eq_false_iff_ne, bne_iff_ne, bne_eq_false_iff_eq, ne_eq, gt_iff_lt, ge_iff_le, Int.not_lt, Int.not_le, Bool.not_eq_true', Bool.not_eq_false', Bool.not_true, Bool.not_false, reduceCtorEq, Decidable.not_not, not_true_eq_false, Bool.true_eq_false, Bool.false_eq_true] at hc') <;> (try (exfalso; omega)) <;> refine goT ?_)))
    all_goals first | (exact at_ret1 rfl rfl ⟨rfl, e1⟩) | (exfalso; omega)
  by_cases g2 : 0 ≤ x ∧ x ≤ 5
  rotate_left
  · rw [if_neg (by omega)]
    (refine goT ?_; repeat' (first | ((refine Z51 rfl rfl (fun c' hc' => ?_)); cases c' <;> (try simp only [decide_eq_true_eq, decide_eq_false_iff_not, beq_iff_eq, beq_eq_false_iff_ne, bne_iff_ne, bne_eq_false_iff_eq, ne_eq, gt_iff_lt, ge_iff_le, Int.not_lt, Int.not_le, Bool.not_eq_true', Bool.not_eq_false', Bool.not_true, Bool.not_false, reduceCtorEq, Decidable.not_not, not_true_eq_false, Bool.true_eq_false, Bool.false_eq_true] at hc') <;> (try (exfalso; omega)) <;> refine goT ?_) | ((refine Z52 rfl (fun hc' => ?_) (fun hc' => ?_)) <;> (try simp only [decide_eq_true_eq, decide_eq_false_iff_not, beq_iff_eq, beq_eq_false_iff_ne, bne_iff_ne, bne_eq_false_iff_eq, ne_eq, gt_iff_lt, ge_iff_le, Int.not_lt, Int.not_le, Bool.not_eq_true', Bool.not_eq_false', Bool.not_true, Bool.not_false, reduceCtorEq, Decidable.not_not, not_true_eq_false, Bool.true_eq_false, Bool.false_eq_true] at hc') <;> (try (exfalso; omega)) <;> refine goT ?_)))
    all_goals first | (exact at_ret1 rfl rfl ⟨rfl, e1⟩) | (exfalso; omega)
  by_cases g3 : 0 ≤ y ∧ y ≤ 5
  rotate_left
  · rw [if_neg (by omega)]
    (refine goT ?_; repeat' (first | ((refine Z51 rfl rfl (fun c' hc' => ?_)); cases c' <;> (try simp only [decide_eq_true_eq, decide_eq_false_iff_not, beq_iff_eq, beq_eq_false_iff_ne, bne_iff_ne, bne_eq_false_iff_eq, ne_eq, gt_iff_lt, ge_iff_le, Int.not_lt, Int.not_le, Bool.not_eq_true', Bool.not_eq_false', Bool.not_true, Bool.not_false, reduceCtorEq, Decidable.not_not, not_true_eq_false, Bool.true_eq_false, Bool.false_eq_true] at hc') <;> (try (exfalso; omega)) <;> refine goT ?_) | ((refine Z52 rfl (fun hc' => ?_) (fun hc' => ?_)) <;> (try simp only [decide_eq_true_eq, decide_eq_false_iff_not, beq_iff_eq, beq_eq_false_iff_ne, bne_iff_ne, bne_eq_false_iff_eq, ne_eq, gt_iff_lt, ge_iff_le, Int.not_lt, Int.not_le, Bool.not_eq_true', Bool.not_eq_false', Bool.not_true, Bool.not_false, reduceCtorEq, Decidable.not_not, not_true_eq_false, Bool.true_eq_false, Bool.false_eq_true] at hc') <;> (try (exfalso; omega)) <;> refine goT ?_)))
    all_goals first | (exact at_ret1 rfl rfl ⟨rfl, e1⟩) | (exfalso; omega)
  by_cases g4 : 0 ≤ n ∧ n ≤ 9
  rotate_left
  · rw [if_neg (by omega)]
    (refine goT ?_; repeat' (first | ((refine Z51 rfl rfl (fun c' hc' => ?_)); cases c' <;> (try simp only [decide_eq_true_eq, decide_eq_false_iff_not, beq_iff_eq, beq_eq_false_iff_ne, bne_iff_ne, bne_eq_false_iff_eq, ne_eq, gt_iff_lt, ge_iff_le, Int.not_lt, Int.not_le, Bool.not_eq_true', Bool.not_eq_false', Bool.not_true, Bool.not_false, reduceCtorEq, Decidable.not_not, not_true_eq_false, Bool.true_eq_false, Bool.false_eq_true] at hc') <;> (try (exfalso; omega)) <;> refine goT ?_) | ((refine Z52 rfl (fun hc' => ?_) (fun hc' => ?_)) <;> (try simp only [decide_eq_true_eq, decide_eq_false_iff_not, beq_iff_eq, beq_eq_false_iff_ne, bne_iff_ne, bne_eq_false_iff_eq, ne_eq, gt_iff_lt, ge_iff_le, Int.not_lt, Int.not_le, Bool.not_eq_true', Bool.not_eq_false', Bool.not_true, Bool.not_false, reduceCtorEq, Decidable.not_not, not_true_eq_false, Bool.true_eq_false, Bool.false_eq_true] at hc') <;> (try (exfalso; omega)) <;> refine goT ?_)))
    all_goals first | (exact at_ret1 rfl rfl ⟨rfl, e1⟩) | (exfalso; omega)
  rw [if_pos ⟨g1, g2, g3, g4⟩]
  rw [decide_eq_false (show ¬ op < 1 by omega)]
  refine goT ?_
  rw [decide_eq_false (show ¬ op > 11 by omega)]
  refine goT ?_
  rw [decide_eq_false (show ¬ x < 0 by omega)]
  refine goT ?_
  rw [decide_eq_false (show ¬ x ≥ 6 by omega)]
  refine goT ?_
  rw [decide_eq_false (show ¬ y < 0 by omega)]
  refine goT ?_
  rw [decide_eq_false (show ¬ y ≥ 6 by omega)]
  refine goT ?_
  rw [decide_eq_false (show ¬ n < 0 by omega)]
  refine goT ?_
  rw [decide_eq_false (show ¬ n > 9 by omega)]
  refine goT ?_
  refine WO_call rfl (l1TextS_ret op x y n _ _ _ g1 (by omega) (by omega) g4) ?_
  rintro _ w2 ⟨rfl, e2⟩
  refine goT ?_
  exact at_ret1 rfl rfl ⟨rfl, e1.trans e2⟩
theorem szPoint_ret (op x y n : Int) (nv : Value) (l : List Int) (F : List Nat) (left : Int) (w : World) (h : IntF w nv l F) (h0 : 0 ≤ left) (h1 : left ≤ 1048576) :
    Ret Tryd.prog 15 [pnV op x y n nv, .int .i64 left] w fun r w' => r = .int .i64 (if (l.length : Int) ≤ left then left - l.length else -1) ∧ Ext w w' := by
  refine enter Tryd.func15 rfl Tryd.ntmps15 rfl rfl ?_
  refine Z43 (Z44 (WO_box rfl fun w1 hs e1 z1 => ?_))
  replace hs : Blk w1 w.heap.size [.int .i64 op, .int .i64 x, .int .i64 y, .int .i64 n, nv] _ := hs
  refine goS ?_
  refine WO_call rfl (szIntS_ret nv l F left w1 (h.ext e1) h0 h1) ?_
  rintro r w2 ⟨rfl, rfl⟩
  by_cases hle : (l.length : Int) ≤ left
  · rw [if_pos hle]
    (refine goS ?_; repeat' (first | ((refine Z51 rfl rfl (fun c' hc' => ?_)); cases c' <;> (try simp only [decide_eq_true_eq, decide_eq_false_iff_not, beq_iff_eq, beq_eq_false_iff_ne, bne_iff_ne, bne_eq_false_iff_eq, ne_eq, gt_iff_lt, ge_iff_le, Int.not_lt, Int.not_le, Bool.not_eq_true', Bool.not_eq_false', Bool.not_true, Bool.not_false, reduceCtorEq, Decidable.not_not, not_true_eq_false, Bool.true_eq_false, Bool.false_eq_true] at hc') <;> (try (exfalso; omega)) <;> refine goS ?_) | ((refine Z52 rfl (fun hc' => ?_) (fun hc' => ?_)) <;> (try simp only [decide_eq_true_eq, decide_eq_false_iff_not, beq_iff_eq, beq_eq_false_iff_ne, bne_iff_ne, bne_eq_false_iff_eq, ne_eq, gt_iff_lt, ge_iff_le, Int.not_lt, Int.not_le, Bool.not_eq_true', Bool.not_eq_false', Bool.not_true, Bool.not_false, reduceCtorEq, Decidable.not_not, not_true_eq_false, Bool.true_eq_false, Bool.false_eq_true] at hc') <;> (try (exfalso; omega)) <;> refine goS ?_)))
    exact at_ret1 rfl rfl ⟨rfl, e1⟩
  · rw [if_neg hle]
    (refine goS ?_; repeat' (first | ((refine Z51 rfl rfl (fun c' hc' => ?_)); cases c' <;> (try simp only [decide_eq_true_eq, decide_eq_false_iff_not, beq_iff_eq, beq_eq_false_iff_ne, bne_iff_ne, bne_eq_false_iff_eq, ne_eq, gt_iff_lt, ge_iff_le, Int.not_lt, Int.not_le, Bool.not_eq_true', Bool.not_eq_false', Bool.not_true, Bool.not_false, reduceCtorEq, Decidable.not_not, not_true_eq_false, Bool.true_eq_false, Bool.false_eq_true] at hc') <;> (try (exfalso; omega)) <;> refine goS ?_) | ((refine Z52 rfl (fun hc' => ?_) (fun hc' => ?_)) <;> (try simp only [decide_eq_true_eq, decide_eq_false_iff_not, beq_iff_eq, beq_eq_false_iff_ne, bne_iff_ne, bne_eq_false_iff_eq, ne_eq, gt_iff_lt, ge_iff_le, Int.not_lt, Int.not_le, Bool.not_eq_true', Bool.not_eq_false', Bool.not_true, Bool.not_false, reduceCtorEq, Decidable.not_not, not_true_eq_false, Bool.true_eq_false, Bool.false_eq_true] at hc') <;> (try (exfalso; omega)) <;> refine goS ?_)))
    exact at_ret1 rfl rfl ⟨rfl, e1⟩
/-- A point in new memory. -/
def NewPn (op x y n : Int) (l : List Int) (w : World) (r : Value) (w' : World) : Prop := ∃ nv G, r = pnV op x y n nv ∧ IntF w' nv l G ∧ (∀ b ∈ G, w.heap.size ≤ b) ∧ Ext w w'
theorem toPoint_ret (op x y n : Int) (nv : Value) (l : List Int) (F : List Nat) (w : World) (h : IntF w nv l F) (hn : l.length ≤ 1048576) : Ret Tryd.prog 17 [pnV op x y n nv] w (NewPn op x y n l w) := by
  refine enter Tryd.func17 rfl Tryd.ntmps17 rfl rfl ?_
  refine Z43 (Z44 (WO_box rfl fun w1 hs e1 z1 => WO_alloc fun w2 hr e2 z2 => ?_))
  replace hs : Blk w2 w.heap.size [.int .i64 op, .int .i64 x, .int .i64 y, .int .i64 n, nv] _ := Blk.ext hs e2
  replace hr : Blk w2 w1.heap.size [.int .i64 0, .int .i64 0, .int .i64 0, .int .i64 0, .slice none 0 0] _ := hr
  refine goS ?_
  refine WO_alloc fun w3 ho e3 z3 => ?_
  replace ho : Blk w3 w2.heap.size [.int .i64 0, .int .i64 0, .int .i64 0, .int .i64 0, .slice none 0 0] _ := ho
  replace hs := hs.ext e3
  replace hr := hr.ext e3
  have e0 := e1.trans (e2.trans e3)
  have s1 := e1.size_le
  have s2 := e2.size_le
  refine goS ?_
  refine WO_store1 rfl rfl rfl ho (by simp) fun wq ho oq => ?_
  simp only [List.set_cons_zero, List.set_cons_succ] at ho
  have sq := oq.size
  replace hs := hs.only oq (by omega)
  replace hr := hr.only oq (by omega)
  replace e0 := e0.only oq (by omega)
  refine goS ?_
  refine WO_store1 rfl rfl rfl ho (by simp) fun wq ho oq => ?_
  simp only [List.set_cons_zero, List.set_cons_succ] at ho
  have sq := oq.size
  replace hs := hs.only oq (by omega)
  replace hr := hr.only oq (by omega)
  replace e0 := e0.only oq (by omega)
  refine goS ?_
  refine WO_store1 rfl rfl rfl ho (by simp) fun wq ho oq => ?_
  simp only [List.set_cons_zero, List.set_cons_succ] at ho
  have sq := oq.size
  replace hs := hs.only oq (by omega)
  replace hr := hr.only oq (by omega)
  replace e0 := e0.only oq (by omega)
  refine goS ?_
  refine WO_store1 rfl rfl rfl ho (by simp) fun wq ho oq => ?_
  simp only [List.set_cons_zero, List.set_cons_succ] at ho
  have sq := oq.size
  replace hs := hs.only oq (by omega)
  replace hr := hr.only oq (by omega)
  replace e0 := e0.only oq (by omega)
  refine goS ?_
  refine WO_call rfl (toIntS_ret nv l F _ (h.ext e0) (by omega)) ?_
  rintro nv' w4 ⟨⟨G1, r1, b1⟩, e4⟩
  have hone1 := r1.one
  replace hs := hs.ext e4
  replace hr := hr.ext e4
  replace e0 := e0.trans e4
  refine goS ?_
  refine WO_store1 rfl rfl hone1 (ho.ext e4) (by simp) fun w5 ho5 o5 => ?_
  have s5 := o5.size
  replace hr := hr.only o5 (by omega)
  replace e0 := e0.only o5 (by omega)
  replace r1 := r1.chg o5.chg (fun z hz hm => by simp only [List.mem_singleton] at hm; subst hm; have := b1 _ hz; omega)
  simp only [List.set_cons_zero, List.set_cons_succ] at ho5
  refine goS ?_
  refine WO_loadSB rfl ho5 rfl ?_
  refine WO_storeS (k := 5) (vs := [.int .i64 op, .int .i64 x, .int .i64 y, .int .i64 n, nv']) rfl rfl rfl (by intro v hv; simp at hv; rcases hv with rfl | rfl | rfl | rfl | rfl <;> first | rfl | assumption) hr (by decide) fun w8 hr8 o8 => ?_
  replace hr8 : Blk w8 w1.heap.size [.int .i64 op, .int .i64 x, .int .i64 y, .int .i64 n, nv'] _ := hr8
  refine goS ?_
  exact at_retC rfl rfl hr8 rfl ⟨nv', G1, rfl, (r1.chg o8.chg (fun z hz hm => by simp only [List.mem_singleton] at hm; subst hm; have := b1 _ hz; omega)).int, fun b hb => by have := b1 b hb; omega, e0.only o8 (by omega)⟩
theorem eqPoint_ret (op x y n : Int) (nv nv' : Value) (l : List Int) (F F' : List Nat) (w : World) (h : IntF w nv l F) (h' : IntF w nv' l F') : Ret Tryd.prog 19 [pnV op x y n nv, pnV op x y n nv'] w fun r w' => r = .bool true ∧ Ext w w' := by
  refine enter Tryd.func19 rfl Tryd.ntmps19 rfl rfl ?_
  refine Z43 (Z44 (WO_box rfl fun w1 k1 e1 z1 => WO_box rfl fun w2 k2 e2 z2 => ?_))
  replace k1 : Blk w2 w.heap.size [.int .i64 op, .int .i64 x, .int .i64 y, .int .i64 n, nv] _ := Blk.ext k1 e2
  replace k2 : Blk w2 w1.heap.size [.int .i64 op, .int .i64 x, .int .i64 y, .int .i64 n, nv'] _ := k2
  simp only [z1] at k2
  simp only [z1]
  have e12 := e1.trans e2
  (refine goS ?_; repeat' (first | ((refine Z51 rfl rfl (fun c' hc' => ?_)); cases c' <;> (try simp only [decide_eq_true_eq, decide_eq_false_iff_not, beq_iff_eq, beq_eq_false_iff_ne, bne_iff_ne, bne_eq_false_iff_eq, ne_eq, gt_iff_lt, ge_iff_le, Int.not_lt, Int.not_le, Bool.not_eq_true', Bool.not_eq_false', Bool.not_true, Bool.not_false, reduceCtorEq, Decidable.not_not, not_true_eq_false, Bool.true_eq_false, Bool.false_eq_true] at hc') <;> (try (exfalso; omega)) <;> refine goS ?_) | ((refine Z52 rfl (fun hc' => ?_) (fun hc' => ?_)) <;> (try simp only [decide_eq_true_eq, decide_eq_false_iff_not, beq_iff_eq, beq_eq_false_iff_ne, bne_iff_ne, bne_eq_false_iff_eq, ne_eq, gt_iff_lt, ge_iff_le, Int.not_lt, Int.not_le, Bool.not_eq_true', Bool.not_eq_false', Bool.not_true, Bool.not_false, reduceCtorEq, Decidable.not_not, not_true_eq_false, Bool.true_eq_false, Bool.false_eq_true] at hc') <;> (try (exfalso; omega)) <;> refine goS ?_)))
  refine WO_call rfl (eqIntS_ret nv nv' l l F F' w2 (h.ext e12) (h'.ext e12)) ?_
  rintro r w3 ⟨rfl, e3⟩
  rw [beq_self_eq_true]
  (refine goS ?_; repeat' (first | ((refine Z51 rfl rfl (fun c' hc' => ?_)); cases c' <;> (try simp only [decide_eq_true_eq, decide_eq_false_iff_not, beq_iff_eq, beq_eq_false_iff_ne, bne_iff_ne, bne_eq_false_iff_eq, ne_eq, gt_iff_lt, ge_iff_le, Int.not_lt, Int.not_le, Bool.not_eq_true', Bool.not_eq_false', Bool.not_true, Bool.not_false, reduceCtorEq, Decidable.not_not, not_true_eq_false, Bool.true_eq_false, Bool.false_eq_true] at hc') <;> (try (exfalso; omega)) <;> refine goS ?_) | ((refine Z52 rfl (fun hc' => ?_) (fun hc' => ?_)) <;> (try simp only [decide_eq_true_eq, decide_eq_false_iff_not, beq_iff_eq, beq_eq_false_iff_ne, bne_iff_ne, bne_eq_false_iff_eq, ne_eq, gt_iff_lt, ge_iff_le, Int.not_lt, Int.not_le, Bool.not_eq_true', Bool.not_eq_false', Bool.not_true, Bool.not_false, reduceCtorEq, Decidable.not_not, not_true_eq_false, Bool.true_eq_false, Bool.false_eq_true] at hc') <;> (try (exfalso; omega)) <;> refine goS ?_)))
  exact at_ret1 rfl rfl ⟨rfl, e12.trans e3⟩
theorem FnExactPointText_ret {w : World} {p0 : PoArg} {v0 : Value} (hp0 : p0.In w v0) :
    Ret Tryd.prog 5 [v0] w fun r w' => r = .bool true ∧ Ext w w' := by
  obtain ⟨op, x, y, n, nv0, l0, F0⟩ := p0
  obtain ⟨rfl, hl0⟩ := hp0
  simp only at hl0
  have e0 := Ext.refl w
  refine enter Tryd.func5 rfl Tryd.ntmps5 rfl rfl ?_
  refine Z43 (Z44 ?_)
  refine WO_box rfl fun wB0 hB0 eB0 zB0 => ?_
  replace e0 := Ext.trans e0 eB0
  have z1 := Ext.size_le eB0
  replace hB0 : Blk wB0 w.heap.size [.int .i64 op, .int .i64 x, .int .i64 y, .int .i64 n, nv0] _ := hB0
  refine goS ?_
  refine WO_loadSB rfl hB0 rfl ?_
  refine goS ?_
  refine WO_call rfl (szPoint_ret op x y n nv0 l0 F0 ((1048576 : Int)) _ (hl0.ext e0) (by omega) (by omega)) ?_
  rintro _ wz2 ⟨rfl, ez2⟩
  replace e0 := Ext.trans e0 ez2
  replace hB0 := hB0.ext ez2
  have z3 := Ext.size_le ez2
  by_cases hle0 : (l0.length : Int) ≤ (1048576 : Int)
  rotate_left
  · rw [if_neg hle0]
    (refine goS ?_; repeat' (first | ((refine Z51 rfl rfl (fun c' hc' => ?_)); cases c' <;> (try simp only [decide_eq_true_eq, decide_eq_false_iff_not, beq_iff_eq, beq_eq_false_iff_ne, bne_iff_ne, bne_eq_false_iff_eq, ne_eq, gt_iff_lt, ge_iff_le, Int.not_lt, Int.not_le, Bool.not_eq_true', Bool.not_eq_false', Bool.not_true, Bool.not_false, reduceCtorEq, Decidable.not_not, not_true_eq_false, Bool.true_eq_false, Bool.false_eq_true] at hc') <;> (try (exfalso; omega)) <;> refine goS ?_) | ((refine Z52 rfl (fun hc' => ?_) (fun hc' => ?_)) <;> (try simp only [decide_eq_true_eq, decide_eq_false_iff_not, beq_iff_eq, beq_eq_false_iff_ne, bne_iff_ne, bne_eq_false_iff_eq, ne_eq, gt_iff_lt, ge_iff_le, Int.not_lt, Int.not_le, Bool.not_eq_true', Bool.not_eq_false', Bool.not_true, Bool.not_false, reduceCtorEq, Decidable.not_not, not_true_eq_false, Bool.true_eq_false, Bool.false_eq_true] at hc') <;> (try (exfalso; omega)) <;> refine goS ?_)))
    exact at_ret1 rfl rfl ⟨rfl, e0⟩
  rw [if_pos hle0]
  (refine goS ?_; repeat' (first | ((refine Z51 rfl rfl (fun c' hc' => ?_)); cases c' <;> (try simp only [decide_eq_true_eq, decide_eq_false_iff_not, beq_iff_eq, beq_eq_false_iff_ne, bne_iff_ne, bne_eq_false_iff_eq, ne_eq, gt_iff_lt, ge_iff_le, Int.not_lt, Int.not_le, Bool.not_eq_true', Bool.not_eq_false', Bool.not_true, Bool.not_false, reduceCtorEq, Decidable.not_not, not_true_eq_false, Bool.true_eq_false, Bool.false_eq_true] at hc') <;> (try (exfalso; omega)) <;> refine goS ?_) | ((refine Z52 rfl (fun hc' => ?_) (fun hc' => ?_)) <;> (try simp only [decide_eq_true_eq, decide_eq_false_iff_not, beq_iff_eq, beq_eq_false_iff_ne, bne_iff_ne, bne_eq_false_iff_eq, ne_eq, gt_iff_lt, ge_iff_le, Int.not_lt, Int.not_le, Bool.not_eq_true', Bool.not_eq_false', Bool.not_true, Bool.not_false, reduceCtorEq, Decidable.not_not, not_true_eq_false, Bool.true_eq_false, Bool.false_eq_true] at hc') <;> (try (exfalso; omega)) <;> refine goS ?_)))
  refine WO_loadSB rfl hB0 rfl ?_
  refine goS ?_
  refine WO_call rfl (toPoint_ret op x y n nv0 l0 F0 _ (hl0.ext e0) (by omega)) ?_
  rintro _ wc4 ⟨nc4, Gc4, rfl, hc4, _, ec4⟩
  replace e0 := Ext.trans e0 ec4
  replace hB0 := hB0.ext ec4
  have z5 := Ext.size_le ec4
  refine goS ?_
  refine WO_call rfl (sPointText_ret op x y n nc4 _) ?_
  rintro _ wr7 ⟨rfl, er7⟩
  replace e0 := Ext.trans e0 er7
  replace hB0 := hB0.ext er7
  replace hc4 := hc4.ext er7
  have z8 := Ext.size_le er7
  refine goS ?_
  refine WO_loadSB rfl hB0 rfl ?_
  refine WO_call rfl (toPoint_ret op x y n nv0 l0 F0 _ (hl0.ext e0) (by omega)) ?_
  rintro _ wc9 ⟨nc9, Gc9, rfl, hc9, _, ec9⟩
  replace e0 := Ext.trans e0 ec9
  replace hB0 := hB0.ext ec9
  replace hc4 := hc4.ext ec9
  have z10 := Ext.size_le ec9
  refine goS ?_
  have onq11 := (show nc9.oneCell' = true from by obtain ⟨_, _, rfl, _⟩ := hc9; rfl)
  refine WO_alloc fun wq11 hq11 eq11 zq11 => ?_
  refine goS ?_
  refine WO_storeS (k := 5) (vs := [.int .i64 op, .int .i64 x, .int .i64 y, .int .i64 n, nc9]) rfl rfl rfl (by intro v hv; simp at hv; rcases hv with rfl | rfl | rfl | rfl | rfl <;> first | rfl | assumption) hq11 (by decide) fun wzq11 hzq11 ozq11 => ?_
  have ezq11 := Ext.only eq11 ozq11 (Nat.le_refl _)
  replace e0 := Ext.trans e0 ezq11
  replace hB0 := hB0.ext ezq11
  replace hc4 := hc4.ext ezq11
  replace hc9 := hc9.ext ezq11
  have z12 := Ext.size_le ezq11
  have kq11 : Blk wzq11 wc9.heap.size [.int .i64 op, .int .i64 x, .int .i64 y, .int .i64 n, nc9] _ := hzq11
  refine goS ?_
  refine WO_loadSB rfl kq11 rfl ?_
  refine goS ?_
  refine WO_call rfl (PointText_ret op x y n nc9 _) ?_
  rintro _ wr14 ⟨rfl, er14⟩
  replace e0 := Ext.trans e0 er14
  replace hB0 := hB0.ext er14
  replace hc4 := hc4.ext er14
  replace hc9 := hc9.ext er14
  replace kq11 := kq11.ext er14
  have z15 := Ext.size_le er14
  refine goT ?_
  rw [show (!decide (pointT op x y n = pointT op x y n)) = false from by simp]
  refine goT ?_
  refine W_heldX [(1, .pointer (some ⟨w.heap.size, 0, none⟩)), (4, sV (pointT op x y n)), (5, .pointer (some ⟨wc9.heap.size, 0, none⟩)), (6, sV (pointT op x y n)), (26, .bool false)] (by kernel_rfl) (fun wsd16 esd16 hSd16 => ?_) (fun wtd16 etd16 => ?_)
  · refine Z82 0 rfl (by kernel_rfl) (by kernel_rfl) (by kernel_rfl) (by assumption) (fun w' hw' => q_loadS (cs := [.int .i64 op, .int .i64 x, .int .i64 y, .int .i64 n, nc9]) rfl rfl (fun j u hu => by rw [Nat.zero_add]; exact ((kq11.ext esd16).ext hw'.ext).cell hu)) ?_
    refine Z82 1 rfl (by kernel_rfl) (by kernel_rfl) (by kernel_rfl) (by assumption) (fun w' hw' => q_loadS (cs := [.int .i64 op, .int .i64 x, .int .i64 y, .int .i64 n, nv0]) rfl rfl (fun j u hu => by rw [Nat.zero_add]; exact ((hB0.ext esd16).ext hw'.ext).cell hu)) ?_
    refine WX_call 2 rfl (by kernel_rfl) rfl (toPoint_ret op x y n nv0 l0 F0 _ (hl0.ext (e0.trans esd16)) (by omega)) ?_
    rintro _ wc17 ⟨nc17, Gc17, rfl, hc17, _, ec17⟩
    have S2 := Ext.chg ec17 []
    refine ⟨S2, ?_⟩
    refine WX_call 3 rfl (by kernel_rfl) rfl (eqPoint_ret op x y n nc9 nc17 l0 _ _ _ ((hc9.ext esd16).ext ec17) hc17) ?_
    rintro _ wd16 ⟨rfl, ed16⟩
    have S3 := Ext.chg (Ext.trans ec17 ed16) []
    refine ⟨S3, ?_⟩
    refine Z82 4 rfl (by kernel_rfl) (by kernel_rfl) (by kernel_rfl) (by assumption) (fun w' hw' => Z56 rfl) ?_
    exact WH_done (by kernel_rfl) (by repeat (first | exact True.intro | refine And.intro rfl ?_)) (esd16.trans (ec17.trans ed16))
  replace e0 := Ext.trans e0 etd16
  replace hB0 := hB0.ext etd16
  replace hc4 := hc4.ext etd16
  replace hc9 := hc9.ext etd16
  replace kq11 := kq11.ext etd16
  have z18 := Ext.size_le etd16
  refine goS ?_
  exact at_ret1 rfl rfl ⟨rfl, e0⟩
end Go.Proofs.YteonnoijdnjpdaaDoor
