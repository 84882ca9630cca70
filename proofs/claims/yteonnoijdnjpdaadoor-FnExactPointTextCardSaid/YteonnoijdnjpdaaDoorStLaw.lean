/-
  What is proved here: what the laws' helpers on statements compute: their size, copies, equality.
-/
import Derived.Test.YteonnoijdnjpdaaDoorScan
import Derived.Test.YteonnoijdnjpdaaDoorSt
namespace Go.Proofs.YteonnoijdnjpdaaDoor
set_option linter.unusedVariables false
set_option linter.unusedSimpArgs false
set_option linter.unnecessarySimpa false
open Go.RowKit

/-- What is left of a list of statements, in memory. -/
def RestS (w : World) (A : Option Addr) (i : Nat) (r : Ss) : Prop := r = .nil ∨ ∃ b o F', A = some ⟨b, o, none⟩ ∧ CsAt w (encS r) b (o + i * 6) F'
theorem restS_start {w : World} {A : Option Addr} {m c : Nat} {l : Ss} {F : List Nat} (h : StS w (.slice A m c) l F) : RestS w A 0 l := by
  rcases stS_at h with h | ⟨b, o, F', hA, hs, _⟩
  · exact .inl h
  · exact .inr ⟨b, o, F', hA, by simpa using hs⟩
theorem restS_cons {w : World} {A : Option Addr} {i : Nat} {op x y n : Int} {t e r : Ss} (h : RestS w A i (.cons op x y n t e r)) : ∃ b o vt ve Ft Fe, A = some ⟨b, o, none⟩ ∧
    (∀ (j : Nat) u, [Value.int .i64 op, .int .i64 x, .int .i64 y, .int .i64 n, vt, ve][j]? = some u → w.cell? ⟨b, o + i * 6 + j, none⟩ = some u) ∧ StS w vt t Ft ∧ StS w ve e Fe ∧ RestS w A (i + 1) r := by
  rcases h with h | ⟨b, o, F', rfl, hs⟩
  · cases h
  · obtain ⟨vt, ve, Ft, Fe, Fr, _, hc, ht, he, hr⟩ := csAt_stmt hs
    exact ⟨b, o, vt, ve, Ft, Fe, rfl, hc, ht, he, .inr ⟨b, o, Fr, rfl, by rw [show o + (i + 1) * 6 = o + i * 6 + 6 from by omega]; exact hr⟩⟩
theorem szIntS_ret (v : Value) (l : List Int) (F : List Nat) (left : Int) (w : World) (h : IntF w v l F) (h0 : 0 ≤ left) (h1 : left ≤ 1048576) :
    Ret Tryd.prog 20 [v, .int .i64 left] w fun r w' => r = .int .i64 (if (l.length : Int) ≤ left then left - l.length else -1) ∧ w' = w := by
  obtain ⟨A, c, rfl, hl, _⟩ := h
  unfold maxI at hl
  refine enter Tryd.func20 rfl Tryd.ntmps20 rfl rfl ?_
  (refine goS ?_; repeat' (first | ((refine Z51 rfl rfl (fun c' hc' => ?_)); cases c' <;> (try simp only [decide_eq_true_eq, decide_eq_false_iff_not, beq_iff_eq, beq_eq_false_iff_ne, bne_iff_ne, bne_eq_false_iff_eq, ne_eq, gt_iff_lt, ge_iff_le, Int.not_lt, Int.not_le, Bool.not_eq_true', Bool.not_eq_false', Bool.not_true, Bool.not_false, reduceCtorEq, Decidable.not_not, not_true_eq_false, Bool.true_eq_false, Bool.false_eq_true] at hc') <;> (try (exfalso; omega)) <;> refine goS ?_) | ((refine Z52 rfl (fun hc' => ?_) (fun hc' => ?_)) <;> (try simp only [decide_eq_true_eq, decide_eq_false_iff_not, beq_iff_eq, beq_eq_false_iff_ne, bne_iff_ne, bne_eq_false_iff_eq, ne_eq, gt_iff_lt, ge_iff_le, Int.not_lt, Int.not_le, Bool.not_eq_true', Bool.not_eq_false', Bool.not_true, Bool.not_false, reduceCtorEq, Decidable.not_not, not_true_eq_false, Bool.true_eq_false, Bool.false_eq_true] at hc') <;> (try (exfalso; omega)) <;> refine goS ?_)))
  all_goals (refine at_ret1 rfl rfl ⟨?_, rfl⟩; congr 1; first | (rw [if_pos (by omega)]) | (rw [if_neg (by omega)]))
def SzP (l : Ss) : Prop := ∀ v F (left : Int) w, StS w v l F → 0 ≤ left → left ≤ 1048576 → Ret Tryd.prog 21 [v, .int .i64 left] w fun r w' => r = .int .i64 (if (cntL l : Int) ≤ left then left - cntL l else -1) ∧ Ext w w'
theorem szStmt_ret0 (op x y n : Int) (t e : Ss) (vt ve : Value) (Ft Fe : List Nat) (left : Int) (w : World) (ht : StS w vt t Ft) (he : StS w ve e Fe) (h0 : 0 ≤ left) (h1 : left ≤ 1048576) (it : SzP t) (ie : SzP e) :
    Ret Tryd.prog 41 [stV op x y n vt ve, .int .i64 left] w fun r w' => r = .int .i64 (if ((cntL t + cntL e : Nat) : Int) ≤ left then left - (cntL t + cntL e : Nat) else -1) ∧ Ext w w' := by
  refine enter Tryd.func41 rfl Tryd.ntmps41 rfl rfl ?_
  refine Z43 (Z44 (WO_box rfl fun w1 hs e1 z1 => ?_))
  replace hs : Blk w1 w.heap.size [.int .i64 op, .int .i64 x, .int .i64 y, .int .i64 n, vt, ve] _ := hs
  refine goS ?_
  refine WO_call rfl (it vt Ft left w1 (ht.ext e1) h0 h1) ?_
  rintro r w2 ⟨rfl, e2⟩
  replace hs := hs.ext e2
  have e12 := e1.trans e2
  by_cases hle : (cntL t : Int) ≤ left
  · rw [if_pos hle]
    (refine goS ?_; repeat' (first | ((refine Z51 rfl rfl (fun c' hc' => ?_)); cases c' <;> (try simp only [decide_eq_true_eq, decide_eq_false_iff_not, beq_iff_eq, beq_eq_false_iff_ne, bne_iff_ne, bne_eq_false_iff_eq, ne_eq, gt_iff_lt, ge_iff_le, Int.not_lt, Int.not_le, Bool.not_eq_true', Bool.not_eq_false', Bool.not_true, Bool.not_false, reduceCtorEq, Decidable.not_not, not_true_eq_false, Bool.true_eq_false, Bool.false_eq_true] at hc') <;> (try (exfalso; omega)) <;> refine goS ?_) | ((refine Z52 rfl (fun hc' => ?_) (fun hc' => ?_)) <;> (try simp only [decide_eq_true_eq, decide_eq_false_iff_not, beq_iff_eq, beq_eq_false_iff_ne, bne_iff_ne, bne_eq_false_iff_eq, ne_eq, gt_iff_lt, ge_iff_le, Int.not_lt, Int.not_le, Bool.not_eq_true', Bool.not_eq_false', Bool.not_true, Bool.not_false, reduceCtorEq, Decidable.not_not, not_true_eq_false, Bool.true_eq_false, Bool.false_eq_true] at hc') <;> (try (exfalso; omega)) <;> refine goS ?_)))
    refine WO_call rfl (ie ve Fe (left - cntL t) w2 (he.ext e12) (by omega) (by omega)) ?_
    rintro r w3 ⟨rfl, e3⟩
    by_cases hle2 : (cntL e : Int) ≤ left - cntL t
    · rw [if_pos hle2]
      (refine goS ?_; repeat' (first | ((refine Z51 rfl rfl (fun c' hc' => ?_)); cases c' <;> (try simp only [decide_eq_true_eq, decide_eq_false_iff_not, beq_iff_eq, beq_eq_false_iff_ne, bne_iff_ne, bne_eq_false_iff_eq, ne_eq, gt_iff_lt, ge_iff_le, Int.not_lt, Int.not_le, Bool.not_eq_true', Bool.not_eq_false', Bool.not_true, Bool.not_false, reduceCtorEq, Decidable.not_not, not_true_eq_false, Bool.true_eq_false, Bool.false_eq_true] at hc') <;> (try (exfalso; omega)) <;> refine goS ?_) | ((refine Z52 rfl (fun hc' => ?_) (fun hc' => ?_)) <;> (try simp only [decide_eq_true_eq, decide_eq_false_iff_not, beq_iff_eq, beq_eq_false_iff_ne, bne_iff_ne, bne_eq_false_iff_eq, ne_eq, gt_iff_lt, ge_iff_le, Int.not_lt, Int.not_le, Bool.not_eq_true', Bool.not_eq_false', Bool.not_true, Bool.not_false, reduceCtorEq, Decidable.not_not, not_true_eq_false, Bool.true_eq_false, Bool.false_eq_true] at hc') <;> (try (exfalso; omega)) <;> refine goS ?_)))
      refine at_ret1 rfl rfl ⟨?_, e12.trans e3⟩
      rw [if_pos (by omega)]
      congr 1
      omega
    · rw [if_neg hle2]
      (refine goS ?_; repeat' (first | ((refine Z51 rfl rfl (fun c' hc' => ?_)); cases c' <;> (try simp only [decide_eq_true_eq, decide_eq_false_iff_not, beq_iff_eq, beq_eq_false_iff_ne, bne_iff_ne, bne_eq_false_iff_eq, ne_eq, gt_iff_lt, ge_iff_le, Int.not_lt, Int.not_le, Bool.not_eq_true', Bool.not_eq_false', Bool.not_true, Bool.not_false, reduceCtorEq, Decidable.not_not, not_true_eq_false, Bool.true_eq_false, Bool.false_eq_true] at hc') <;> (try (exfalso; omega)) <;> refine goS ?_) | ((refine Z52 rfl (fun hc' => ?_) (fun hc' => ?_)) <;> (try simp only [decide_eq_true_eq, decide_eq_false_iff_not, beq_iff_eq, beq_eq_false_iff_ne, bne_iff_ne, bne_eq_false_iff_eq, ne_eq, gt_iff_lt, ge_iff_le, Int.not_lt, Int.not_le, Bool.not_eq_true', Bool.not_eq_false', Bool.not_true, Bool.not_false, reduceCtorEq, Decidable.not_not, not_true_eq_false, Bool.true_eq_false, Bool.false_eq_true] at hc') <;> (try (exfalso; omega)) <;> refine goS ?_)))
      refine at_ret1 rfl rfl ⟨?_, e12.trans e3⟩
      rw [if_neg (by omega)]
  · rw [if_neg hle]
    (refine goS ?_; repeat' (first | ((refine Z51 rfl rfl (fun c' hc' => ?_)); cases c' <;> (try simp only [decide_eq_true_eq, decide_eq_false_iff_not, beq_iff_eq, beq_eq_false_iff_ne, bne_iff_ne, bne_eq_false_iff_eq, ne_eq, gt_iff_lt, ge_iff_le, Int.not_lt, Int.not_le, Bool.not_eq_true', Bool.not_eq_false', Bool.not_true, Bool.not_false, reduceCtorEq, Decidable.not_not, not_true_eq_false, Bool.true_eq_false, Bool.false_eq_true] at hc') <;> (try (exfalso; omega)) <;> refine goS ?_) | ((refine Z52 rfl (fun hc' => ?_) (fun hc' => ?_)) <;> (try simp only [decide_eq_true_eq, decide_eq_false_iff_not, beq_iff_eq, beq_eq_false_iff_ne, bne_iff_ne, bne_eq_false_iff_eq, ne_eq, gt_iff_lt, ge_iff_le, Int.not_lt, Int.not_le, Bool.not_eq_true', Bool.not_eq_false', Bool.not_true, Bool.not_false, reduceCtorEq, Decidable.not_not, not_true_eq_false, Bool.true_eq_false, Bool.false_eq_true] at hc') <;> (try (exfalso; omega)) <;> refine goS ?_)))
    refine at_ret1 rfl rfl ⟨?_, e12⟩
    rw [if_neg (by omega)]
theorem szStmtS_all (l : Ss) : SzP l := Ss.strong (fun l ih => by
  intro v F left w h h0 h1
  obtain ⟨A, c, rfl, hl⟩ := h.slice
  have hst := restS_start h
  unfold maxI at hl
  have hlc := len_le_cntL l
  refine enter Tryd.func21 rfl Tryd.ntmps21 rfl rfl ?_
  (refine goS ?_; repeat' (first | ((refine Z51 rfl rfl (fun c' hc' => ?_)); cases c' <;> (try simp only [decide_eq_true_eq, decide_eq_false_iff_not, beq_iff_eq, beq_eq_false_iff_ne, bne_iff_ne, bne_eq_false_iff_eq, ne_eq, gt_iff_lt, ge_iff_le, Int.not_lt, Int.not_le, Bool.not_eq_true', Bool.not_eq_false', Bool.not_true, Bool.not_false, reduceCtorEq, Decidable.not_not, not_true_eq_false, Bool.true_eq_false, Bool.false_eq_true] at hc') <;> (try (exfalso; omega)) <;> refine goS ?_) | ((refine Z52 rfl (fun hc' => ?_) (fun hc' => ?_)) <;> (try simp only [decide_eq_true_eq, decide_eq_false_iff_not, beq_iff_eq, beq_eq_false_iff_ne, bne_iff_ne, bne_eq_false_iff_eq, ne_eq, gt_iff_lt, ge_iff_le, Int.not_lt, Int.not_le, Bool.not_eq_true', Bool.not_eq_false', Bool.not_true, Bool.not_false, reduceCtorEq, Decidable.not_not, not_true_eq_false, Bool.true_eq_false, Bool.false_eq_true] at hc') <;> (try (exfalso; omega)) <;> refine goS ?_)))
  · refine at_ret1 rfl rfl ⟨?_, Ext.refl _⟩
    rw [if_neg (by omega)]
  · refine W_loop (α := Nat × Int × Ss) (fun p => [(0, .slice A l.len c), (1, .int .i64 p.2.1), (5, .int .i64 (p.1 : Int))])
      (fun p w' => p.1 + p.2.2.len = l.len ∧ 0 ≤ p.2.1 ∧ p.2.1 ≤ 1048576 ∧ p.2.1 + p.2.2.len + cntL l = left + cntL p.2.2 ∧ cntL p.2.2 ≤ cntL l ∧ RestS w A p.1 p.2.2 ∧ Ext w w') (fun p => p.2.2.len) (0, left - l.len, l) (by repeat (first | exact True.intro | refine And.intro rfl ?_)) ⟨by simp, by omega, by simp only; omega, by simp only; omega, Nat.le_refl _, hst, Ext.refl _⟩ ?_
    rintro ⟨i, lf, r⟩ w1 ⟨hi, hp, hp1, hsum, hcl, hr, he⟩
    simp only at hi hp hp1 hsum hcl hr ⊢
    refine goS ?_
    refine Z52 rfl (fun hc => ?_) (fun hc => ?_)
    · have hlt : i < l.len := by simpa using hc
      cases r with
      | nil => simp only [Ss.len] at hi; omega
      | cons op x y n t e r =>
        obtain ⟨b, o, vt, ve, Ft, Fe, rfl, hcells, hT, hE, hrest⟩ := restS_cons hr
        simp only [Ss.len, cntL] at hi hsum hcl
        have hrl := len_le_cntL r
        refine goS ?_
        refine Z83 rfl rfl rfl hlt ?_
        refine WO_loadS rfl rfl (fun j u hu => cell_ext (hcells j u hu) he) ?_
        refine goS ?_
        refine WO_call rfl (szStmt_ret0 op x y n t e vt ve Ft Fe lf w1 (hT.ext he) (hE.ext he) hp hp1 (ih t (by omega)) (ih e (by omega))) ?_
        rintro q w2 ⟨rfl, e2⟩
        by_cases hle : ((cntL t + cntL e : Nat) : Int) ≤ lf
        · rw [if_pos hle]
          (refine goS ?_; repeat' (first | ((refine Z51 rfl rfl (fun c' hc' => ?_)); cases c' <;> (try simp only [decide_eq_true_eq, decide_eq_false_iff_not, beq_iff_eq, beq_eq_false_iff_ne, bne_iff_ne, bne_eq_false_iff_eq, ne_eq, gt_iff_lt, ge_iff_le, Int.not_lt, Int.not_le, Bool.not_eq_true', Bool.not_eq_false', Bool.not_true, Bool.not_false, reduceCtorEq, Decidable.not_not, not_true_eq_false, Bool.true_eq_false, Bool.false_eq_true] at hc') <;> (try (exfalso; omega)) <;> refine goS ?_) | ((refine Z52 rfl (fun hc' => ?_) (fun hc' => ?_)) <;> (try simp only [decide_eq_true_eq, decide_eq_false_iff_not, beq_iff_eq, beq_eq_false_iff_ne, bne_iff_ne, bne_eq_false_iff_eq, ne_eq, gt_iff_lt, ge_iff_le, Int.not_lt, Int.not_le, Bool.not_eq_true', Bool.not_eq_false', Bool.not_true, Bool.not_false, reduceCtorEq, Decidable.not_not, not_true_eq_false, Bool.true_eq_false, Bool.false_eq_true] at hc') <;> (try (exfalso; omega)) <;> refine goS ?_)))
          refine at_loop (i + 1, lf - (cntL t + cntL e : Nat), r) (by repeat (first | exact True.intro | refine And.intro rfl ?_)) ⟨by simp only; omega, by simp only; omega, by simp only; omega, by simp only; omega, by simp only; omega, hrest, he.trans e2⟩ (by simp only [Ss.len]; omega)
        · rw [if_neg hle]
          (refine goS ?_; repeat' (first | ((refine Z51 rfl rfl (fun c' hc' => ?_)); cases c' <;> (try simp only [decide_eq_true_eq, decide_eq_false_iff_not, beq_iff_eq, beq_eq_false_iff_ne, bne_iff_ne, bne_eq_false_iff_eq, ne_eq, gt_iff_lt, ge_iff_le, Int.not_lt, Int.not_le, Bool.not_eq_true', Bool.not_eq_false', Bool.not_true, Bool.not_false, reduceCtorEq, Decidable.not_not, not_true_eq_false, Bool.true_eq_false, Bool.false_eq_true] at hc') <;> (try (exfalso; omega)) <;> refine goS ?_) | ((refine Z52 rfl (fun hc' => ?_) (fun hc' => ?_)) <;> (try simp only [decide_eq_true_eq, decide_eq_false_iff_not, beq_iff_eq, beq_eq_false_iff_ne, bne_iff_ne, bne_eq_false_iff_eq, ne_eq, gt_iff_lt, ge_iff_le, Int.not_lt, Int.not_le, Bool.not_eq_true', Bool.not_eq_false', Bool.not_true, Bool.not_false, reduceCtorEq, Decidable.not_not, not_true_eq_false, Bool.true_eq_false, Bool.false_eq_true] at hc') <;> (try (exfalso; omega)) <;> refine goS ?_)))
          refine at_ret1 rfl rfl ⟨?_, he.trans e2⟩
          rw [if_neg (by omega)]
    · have hge : i = l.len := by simp at hc; omega
      have hr0 : r = .nil := Ss.len_zero (by omega)
      subst hr0
      simp only [Ss.len, cntL] at hsum
      refine goS ?_
      refine at_ret1 rfl rfl ⟨?_, he⟩
      rw [if_pos (by omega)]
      congr 1
      omega) l
theorem szStmtS_ret (v : Value) (l : Ss) (F : List Nat) (left : Int) (w : World) (h : StS w v l F) (h0 : 0 ≤ left) (h1 : left ≤ 1048576) :
    Ret Tryd.prog 21 [v, .int .i64 left] w fun r w' => r = .int .i64 (if (cntL l : Int) ≤ left then left - cntL l else -1) ∧ Ext w w' := szStmtS_all l v F left w h h0 h1
theorem szStmt_ret (op x y n : Int) (t e : Ss) (vt ve : Value) (Ft Fe : List Nat) (left : Int) (w : World) (ht : StS w vt t Ft) (he : StS w ve e Fe) (h0 : 0 ≤ left) (h1 : left ≤ 1048576) :
    Ret Tryd.prog 41 [stV op x y n vt ve, .int .i64 left] w fun r w' => r = .int .i64 (if ((cntL t + cntL e : Nat) : Int) ≤ left then left - (cntL t + cntL e : Nat) else -1) ∧ Ext w w' :=
  szStmt_ret0 op x y n t e vt ve Ft Fe left w ht he h0 h1 (szStmtS_all t) (szStmtS_all e)
/-- A program by value. -/
def prV (tv bv : Value) : Value := .agg #[tv, bv]
theorem szProgram_ret (tv bv : Value) (tl : List Int) (l : Ss) (Ft F : List Nat) (left : Int) (w : World) (ht : IntF w tv tl Ft) (h : StS w bv l F) (h0 : 0 ≤ left) (h1 : left ≤ 1048576) :
    Ret Tryd.prog 6 [prV tv bv, .int .i64 left] w fun r w' => r = .int .i64 (if ((tl.length + cntL l : Nat) : Int) ≤ left then left - (tl.length + cntL l : Nat) else -1) ∧ Ext w w' := by
  refine enter Tryd.func6 rfl Tryd.ntmps6 rfl rfl ?_
  refine Z43 (Z44 (WO_box rfl fun w1 hs e1 z1 => ?_))
  replace hs : Blk w1 w.heap.size [tv, bv] _ := hs
  refine goS ?_
  refine WO_call rfl (szIntS_ret tv tl Ft left w1 (ht.ext e1) h0 h1) ?_
  rintro r w2 ⟨rfl, rfl⟩
  by_cases hle : (tl.length : Int) ≤ left
  · rw [if_pos hle]
    (refine goS ?_; repeat' (first | ((refine Z51 rfl rfl (fun c' hc' => ?_)); cases c' <;> (try simp only [decide_eq_true_eq, decide_eq_false_iff_not, beq_iff_eq, beq_eq_false_iff_ne, bne_iff_ne, bne_eq_false_iff_eq, ne_eq, gt_iff_lt, ge_iff_le, Int.not_lt, Int.not_le, Bool.not_eq_true', Bool.not_eq_false', Bool.not_true, Bool.not_false, reduceCtorEq, Decidable.not_not, not_true_eq_false, Bool.true_eq_false, Bool.false_eq_true] at hc') <;> (try (exfalso; omega)) <;> refine goS ?_) | ((refine Z52 rfl (fun hc' => ?_) (fun hc' => ?_)) <;> (try simp only [decide_eq_true_eq, decide_eq_false_iff_not, beq_iff_eq, beq_eq_false_iff_ne, bne_iff_ne, bne_eq_false_iff_eq, ne_eq, gt_iff_lt, ge_iff_le, Int.not_lt, Int.not_le, Bool.not_eq_true', Bool.not_eq_false', Bool.not_true, Bool.not_false, reduceCtorEq, Decidable.not_not, not_true_eq_false, Bool.true_eq_false, Bool.false_eq_true] at hc') <;> (try (exfalso; omega)) <;> refine goS ?_)))
    refine WO_call rfl (szStmtS_ret bv l F (left - tl.length) w2 (h.ext e1) (by omega) (by omega)) ?_
    rintro r w3 ⟨rfl, e3⟩
    by_cases hle2 : (cntL l : Int) ≤ left - tl.length
    · rw [if_pos hle2]
      (refine goS ?_; repeat' (first | ((refine Z51 rfl rfl (fun c' hc' => ?_)); cases c' <;> (try simp only [decide_eq_true_eq, decide_eq_false_iff_not, beq_iff_eq, beq_eq_false_iff_ne, bne_iff_ne, bne_eq_false_iff_eq, ne_eq, gt_iff_lt, ge_iff_le, Int.not_lt, Int.not_le, Bool.not_eq_true', Bool.not_eq_false', Bool.not_true, Bool.not_false, reduceCtorEq, Decidable.not_not, not_true_eq_false, Bool.true_eq_false, Bool.false_eq_true] at hc') <;> (try (exfalso; omega)) <;> refine goS ?_) | ((refine Z52 rfl (fun hc' => ?_) (fun hc' => ?_)) <;> (try simp only [decide_eq_true_eq, decide_eq_false_iff_not, beq_iff_eq, beq_eq_false_iff_ne, bne_iff_ne, bne_eq_false_iff_eq, ne_eq, gt_iff_lt, ge_iff_le, Int.not_lt, Int.not_le, Bool.not_eq_true', Bool.not_eq_false', Bool.not_true, Bool.not_false, reduceCtorEq, Decidable.not_not, not_true_eq_false, Bool.true_eq_false, Bool.false_eq_true] at hc') <;> (try (exfalso; omega)) <;> refine goS ?_)))
      refine at_ret1 rfl rfl ⟨?_, e1.trans e3⟩
      rw [if_pos (by omega)]
      congr 1
      omega
    · rw [if_neg hle2]
      (refine goS ?_; repeat' (first | ((refine Z51 rfl rfl (fun c' hc' => ?_)); cases c' <;> (try simp only [decide_eq_true_eq, decide_eq_false_iff_not, beq_iff_eq, beq_eq_false_iff_ne, bne_iff_ne, bne_eq_false_iff_eq, ne_eq, gt_iff_lt, ge_iff_le, Int.not_lt, Int.not_le, Bool.not_eq_true', Bool.not_eq_false', Bool.not_true, Bool.not_false, reduceCtorEq, Decidable.not_not, not_true_eq_false, Bool.true_eq_false, Bool.false_eq_true] at hc') <;> (try (exfalso; omega)) <;> refine goS ?_) | ((refine Z52 rfl (fun hc' => ?_) (fun hc' => ?_)) <;> (try simp only [decide_eq_true_eq, decide_eq_false_iff_not, beq_iff_eq, beq_eq_false_iff_ne, bne_iff_ne, bne_eq_false_iff_eq, ne_eq, gt_iff_lt, ge_iff_le, Int.not_lt, Int.not_le, Bool.not_eq_true', Bool.not_eq_false', Bool.not_true, Bool.not_false, reduceCtorEq, Decidable.not_not, not_true_eq_false, Bool.true_eq_false, Bool.false_eq_true] at hc') <;> (try (exfalso; omega)) <;> refine goS ?_)))
      refine at_ret1 rfl rfl ⟨?_, e1.trans e3⟩
      rw [if_neg (by omega)]
  · rw [if_neg hle]
    (refine goS ?_; repeat' (first | ((refine Z51 rfl rfl (fun c' hc' => ?_)); cases c' <;> (try simp only [decide_eq_true_eq, decide_eq_false_iff_not, beq_iff_eq, beq_eq_false_iff_ne, bne_iff_ne, bne_eq_false_iff_eq, ne_eq, gt_iff_lt, ge_iff_le, Int.not_lt, Int.not_le, Bool.not_eq_true', Bool.not_eq_false', Bool.not_true, Bool.not_false, reduceCtorEq, Decidable.not_not, not_true_eq_false, Bool.true_eq_false, Bool.false_eq_true] at hc') <;> (try (exfalso; omega)) <;> refine goS ?_) | ((refine Z52 rfl (fun hc' => ?_) (fun hc' => ?_)) <;> (try simp only [decide_eq_true_eq, decide_eq_false_iff_not, beq_iff_eq, beq_eq_false_iff_ne, bne_iff_ne, bne_eq_false_iff_eq, ne_eq, gt_iff_lt, ge_iff_le, Int.not_lt, Int.not_le, Bool.not_eq_true', Bool.not_eq_false', Bool.not_true, Bool.not_false, reduceCtorEq, Decidable.not_not, not_true_eq_false, Bool.true_eq_false, Bool.false_eq_true] at hc') <;> (try (exfalso; omega)) <;> refine goS ?_)))
    refine at_ret1 rfl rfl ⟨?_, e1⟩
    rw [if_neg (by omega)]
/-! ### Equality -/
def EqP (la : Ss) : Prop := ∀ (lb : Ss) va vb Fa Fb w, StS w va la Fa → StS w vb lb Fb → Ret Tryd.prog 29 [va, vb] w fun r w' => r = .bool (decide (la = lb)) ∧ Ext w w'
theorem eqStmt_ret0 (op x y n op' x' y' n' : Int) (t e t' e' : Ss) (vt ve vt' ve' : Value) (Ft Fe Ft' Fe' : List Nat) (w : World) (ht : StS w vt t Ft) (he : StS w ve e Fe) (ht' : StS w vt' t' Ft') (he' : StS w ve' e' Fe') (it : EqP t) (ie : EqP e) :
    Ret Tryd.prog 50 [stV op x y n vt ve, stV op' x' y' n' vt' ve'] w fun r w' => r = .bool (decide (op = op' ∧ x = x' ∧ y = y' ∧ n = n' ∧ t = t' ∧ e = e')) ∧ Ext w w' := by
  refine enter Tryd.func50 rfl Tryd.ntmps50 rfl rfl ?_
  refine Z43 (Z44 (WO_box rfl fun w1 h1 e1 z1 => WO_box rfl fun w2 h2 e2 z2 => ?_))
  replace h1 : Blk w2 w.heap.size [.int .i64 op, .int .i64 x, .int .i64 y, .int .i64 n, vt, ve] _ := Blk.ext h1 e2
  replace h2 : Blk w2 w1.heap.size [.int .i64 op', .int .i64 x', .int .i64 y', .int .i64 n', vt', ve'] _ := h2
  simp only [z1] at h2
  simp only [z1]
  have e12 := e1.trans e2
  (refine goS ?_; repeat' (first | ((refine Z51 rfl rfl (fun c' hc' => ?_)); cases c' <;> (try simp only [decide_eq_true_eq, decide_eq_false_iff_not, beq_iff_eq, beq_eq_false_iff_ne, bne_iff_ne, bne_eq_false_iff_eq, ne_eq, gt_iff_lt, ge_iff_le, Int.not_lt, Int.not_le, Bool.not_eq_true', Bool.not_eq_false', Bool.not_true, Bool.not_false, reduceCtorEq, Decidable.not_not, not_true_eq_false, Bool.true_eq_false, Bool.false_eq_true] at hc') <;> (try (exfalso; omega)) <;> refine goS ?_) | ((refine Z52 rfl (fun hc' => ?_) (fun hc' => ?_)) <;> (try simp only [decide_eq_true_eq, decide_eq_false_iff_not, beq_iff_eq, beq_eq_false_iff_ne, bne_iff_ne, bne_eq_false_iff_eq, ne_eq, gt_iff_lt, ge_iff_le, Int.not_lt, Int.not_le, Bool.not_eq_true', Bool.not_eq_false', Bool.not_true, Bool.not_false, reduceCtorEq, Decidable.not_not, not_true_eq_false, Bool.true_eq_false, Bool.false_eq_true] at hc') <;> (try (exfalso; omega)) <;> refine goS ?_)))
  all_goals first
    | (refine at_ret1 rfl rfl ⟨congrArg Value.bool ?_, e12⟩; simp_all; done)
    | skip
  refine WO_call rfl (it t' vt vt' Ft Ft' w2 (ht.ext e12) (ht'.ext e12)) ?_
  rintro r w3 ⟨rfl, e3⟩
  replace h1 := h1.ext e3
  replace h2 := h2.ext e3
  have e13 := e12.trans e3
  by_cases hs : t = t'
  · rw [decide_eq_true hs]
    (refine goS ?_; repeat' (first | ((refine Z51 rfl rfl (fun c' hc' => ?_)); cases c' <;> (try simp only [decide_eq_true_eq, decide_eq_false_iff_not, beq_iff_eq, beq_eq_false_iff_ne, bne_iff_ne, bne_eq_false_iff_eq, ne_eq, gt_iff_lt, ge_iff_le, Int.not_lt, Int.not_le, Bool.not_eq_true', Bool.not_eq_false', Bool.not_true, Bool.not_false, reduceCtorEq, Decidable.not_not, not_true_eq_false, Bool.true_eq_false, Bool.false_eq_true] at hc') <;> (try (exfalso; omega)) <;> refine goS ?_) | ((refine Z52 rfl (fun hc' => ?_) (fun hc' => ?_)) <;> (try simp only [decide_eq_true_eq, decide_eq_false_iff_not, beq_iff_eq, beq_eq_false_iff_ne, bne_iff_ne, bne_eq_false_iff_eq, ne_eq, gt_iff_lt, ge_iff_le, Int.not_lt, Int.not_le, Bool.not_eq_true', Bool.not_eq_false', Bool.not_true, Bool.not_false, reduceCtorEq, Decidable.not_not, not_true_eq_false, Bool.true_eq_false, Bool.false_eq_true] at hc') <;> (try (exfalso; omega)) <;> refine goS ?_)))
    refine WO_call rfl (ie e' ve ve' Fe Fe' w3 (he.ext e13) (he'.ext e13)) ?_
    rintro r w4 ⟨rfl, e4⟩
    by_cases hs2 : e = e'
    · rw [decide_eq_true hs2]
      (refine goS ?_; repeat' (first | ((refine Z51 rfl rfl (fun c' hc' => ?_)); cases c' <;> (try simp only [decide_eq_true_eq, decide_eq_false_iff_not, beq_iff_eq, beq_eq_false_iff_ne, bne_iff_ne, bne_eq_false_iff_eq, ne_eq, gt_iff_lt, ge_iff_le, Int.not_lt, Int.not_le, Bool.not_eq_true', Bool.not_eq_false', Bool.not_true, Bool.not_false, reduceCtorEq, Decidable.not_not, not_true_eq_false, Bool.true_eq_false, Bool.false_eq_true] at hc') <;> (try (exfalso; omega)) <;> refine goS ?_) | ((refine Z52 rfl (fun hc' => ?_) (fun hc' => ?_)) <;> (try simp only [decide_eq_true_eq, decide_eq_false_iff_not, beq_iff_eq, beq_eq_false_iff_ne, bne_iff_ne, bne_eq_false_iff_eq, ne_eq, gt_iff_lt, ge_iff_le, Int.not_lt, Int.not_le, Bool.not_eq_true', Bool.not_eq_false', Bool.not_true, Bool.not_false, reduceCtorEq, Decidable.not_not, not_true_eq_false, Bool.true_eq_false, Bool.false_eq_true] at hc') <;> (try (exfalso; omega)) <;> refine goS ?_)))
      refine at_ret1 rfl rfl ⟨congrArg Value.bool ?_, e13.trans e4⟩
      simp_all
    · rw [decide_eq_false hs2]
      (refine goS ?_; repeat' (first | ((refine Z51 rfl rfl (fun c' hc' => ?_)); cases c' <;> (try simp only [decide_eq_true_eq, decide_eq_false_iff_not, beq_iff_eq, beq_eq_false_iff_ne, bne_iff_ne, bne_eq_false_iff_eq, ne_eq, gt_iff_lt, ge_iff_le, Int.not_lt, Int.not_le, Bool.not_eq_true', Bool.not_eq_false', Bool.not_true, Bool.not_false, reduceCtorEq, Decidable.not_not, not_true_eq_false, Bool.true_eq_false, Bool.false_eq_true] at hc') <;> (try (exfalso; omega)) <;> refine goS ?_) | ((refine Z52 rfl (fun hc' => ?_) (fun hc' => ?_)) <;> (try simp only [decide_eq_true_eq, decide_eq_false_iff_not, beq_iff_eq, beq_eq_false_iff_ne, bne_iff_ne, bne_eq_false_iff_eq, ne_eq, gt_iff_lt, ge_iff_le, Int.not_lt, Int.not_le, Bool.not_eq_true', Bool.not_eq_false', Bool.not_true, Bool.not_false, reduceCtorEq, Decidable.not_not, not_true_eq_false, Bool.true_eq_false, Bool.false_eq_true] at hc') <;> (try (exfalso; omega)) <;> refine goS ?_)))
      refine at_ret1 rfl rfl ⟨congrArg Value.bool ?_, e13.trans e4⟩
      simp_all
  · rw [decide_eq_false hs]
    (refine goS ?_; repeat' (first | ((refine Z51 rfl rfl (fun c' hc' => ?_)); cases c' <;> (try simp only [decide_eq_true_eq, decide_eq_false_iff_not, beq_iff_eq, beq_eq_false_iff_ne, bne_iff_ne, bne_eq_false_iff_eq, ne_eq, gt_iff_lt, ge_iff_le, Int.not_lt, Int.not_le, Bool.not_eq_true', Bool.not_eq_false', Bool.not_true, Bool.not_false, reduceCtorEq, Decidable.not_not, not_true_eq_false, Bool.true_eq_false, Bool.false_eq_true] at hc') <;> (try (exfalso; omega)) <;> refine goS ?_) | ((refine Z52 rfl (fun hc' => ?_) (fun hc' => ?_)) <;> (try simp only [decide_eq_true_eq, decide_eq_false_iff_not, beq_iff_eq, beq_eq_false_iff_ne, bne_iff_ne, bne_eq_false_iff_eq, ne_eq, gt_iff_lt, ge_iff_le, Int.not_lt, Int.not_le, Bool.not_eq_true', Bool.not_eq_false', Bool.not_true, Bool.not_false, reduceCtorEq, Decidable.not_not, not_true_eq_false, Bool.true_eq_false, Bool.false_eq_true] at hc') <;> (try (exfalso; omega)) <;> refine goS ?_)))
    refine at_ret1 rfl rfl ⟨congrArg Value.bool ?_, e13⟩
    simp_all
theorem eqStmtS_all (l : Ss) : EqP l := Ss.strong (fun la ih => by
  intro lb va vb Fa Fb w ha hb
  obtain ⟨A, ca, rfl, hla⟩ := ha.slice
  obtain ⟨B, cb, rfl, hlb⟩ := hb.slice
  have hra := restS_start ha
  have hrb := restS_start hb
  unfold maxI at hla hlb
  refine enter Tryd.func29 rfl Tryd.ntmps29 rfl rfl ?_
  refine goS ?_
  refine Z52 rfl (fun hc => ?_) (fun hc => ?_)
  · refine goS ?_
    refine at_ret1 rfl rfl ⟨?_, Ext.refl _⟩
    have : la ≠ lb := by rintro rfl; simp at hc
    simp [this]
  · have hlen : la.len = lb.len := by simp at hc; omega
    refine goS ?_
    refine W_loop (α := Nat × Ss × Ss) (fun p => [(0, .slice A la.len ca), (1, .slice B lb.len cb), (5, .int .i64 (p.1 : Int))])
      (fun p w' => p.1 + p.2.1.len = la.len ∧ p.2.1.len = p.2.2.len ∧ cntL p.2.1 ≤ cntL la ∧ (la = lb ↔ p.2.1 = p.2.2) ∧ RestS w A p.1 p.2.1 ∧ RestS w B p.1 p.2.2 ∧ Ext w w') (fun p => p.2.1.len) (0, la, lb) (by repeat (first | exact True.intro | refine And.intro rfl ?_)) ⟨by simp, hlen, Nat.le_refl _, Iff.rfl, hra, hrb, Ext.refl _⟩ ?_
    rintro ⟨i, ra, rb⟩ w1 ⟨hi, hl, hcl, hiff, hra, hrb, he⟩
    simp only at hi hl hcl hiff hra hrb ⊢
    refine goS ?_
    refine Z52 rfl (fun hc => ?_) (fun hc => ?_)
    · have hlt : i < la.len := by simpa using hc
      have hlt2 : i < lb.len := by omega
      cases ra with
      | nil => simp only [Ss.len] at hi; omega
      | cons op x y n t e ra =>
        cases rb with
        | nil => simp only [Ss.len] at hl; omega
        | cons op' x' y' n' t' e' rb =>
          obtain ⟨b, o, vt, ve, Ft, Fe, rfl, hcells, hT, hE, hra⟩ := restS_cons hra
          obtain ⟨b', o', vt', ve', Ft', Fe', rfl, hcells', hT', hE', hrb⟩ := restS_cons hrb
          simp only [Ss.len, cntL] at hi hl hcl
          refine goS ?_
          refine Z54 (by kernel_rfl) (by kernel_rfl) ?_
          repeat' (first | refine Z55 (Z56 rfl) ?_ | (refine Z57 ?_; first | refine Z58 rfl rfl (by decide) ?_ | refine Z59 rfl rfl (by decide) ?_ | refine Z60 rfl rfl ?_ | ((refine Z61 rfl rfl (fun c' hc' => ?_)); cases c' <;> (try simp only [decide_eq_true_eq, decide_eq_false_iff_not, beq_iff_eq, beq_eq_false_iff_ne, bne_iff_ne, bne_eq_false_iff_eq, ne_eq, gt_iff_lt, ge_iff_le, Int.not_lt, Int.not_le, Bool.not_eq_true', Bool.not_eq_false', Bool.not_true, Bool.not_false, reduceCtorEq, Decidable.not_not, not_true_eq_false, Bool.true_eq_false, Bool.false_eq_true] at hc') <;> (try (exfalso; omega)))) | (refine Z62 ?_; first | refine Z55 (Z63 rfl rfl) ?_ | refine Z55 (Z64 rfl rfl) ?_) | (refine Z65 ?_; first | refine Z55 (Z66 rfl (by assumption) (by rfl)) ?_ | refine Z55 (Z67 rfl (by assumption)) ?_) | (refine Z68 ?_; refine Z55 (Z69 rfl rfl rfl (by omega)) ?_) | (refine Z70 ?_; first | refine Z55 (Z14 rfl (by decide) rfl) ?_ | refine Z55 (Z15 rfl (by decide) rfl) ?_) | (refine Z71 ?_; first | refine Z55 (Z72 rfl) ?_ | refine Z55 (Z73 rfl) ?_) | (refine Z74 ?_; first | refine Z55 (Z75 rfl rfl (by omega)) ?_ | refine Z55 (Z76 rfl rfl (by omega)) ?_ | refine Z55 (Z77 rfl rfl (by omega)) ?_ | refine Z55 (Z78 rfl rfl (by omega) (by omega)) ?_ | refine Z55 (Z79 rfl rfl (by omega) (by omega) (by omega)) ?_ | refine Z55 (Z25 rfl rfl) ?_ | refine Z55 (Z26 rfl rfl) ?_) | (refine Z80 ?_; refine Z55 (Z28 rfl (Z53 ⟨by omega, by omega⟩)) ?_) | refine Z81 fun w' hw' => ?_)
          refine Z55 (q_loadS rfl rfl (fun j u hu => cell_ext (hcells j u hu) he)) ?_
          repeat' (first | refine Z55 (Z56 rfl) ?_ | (refine Z57 ?_; first | refine Z58 rfl rfl (by decide) ?_ | refine Z59 rfl rfl (by decide) ?_ | refine Z60 rfl rfl ?_ | ((refine Z61 rfl rfl (fun c' hc' => ?_)); cases c' <;> (try simp only [decide_eq_true_eq, decide_eq_false_iff_not, beq_iff_eq, beq_eq_false_iff_ne, bne_iff_ne, bne_eq_false_iff_eq, ne_eq, gt_iff_lt, ge_iff_le, Int.not_lt, Int.not_le, Bool.not_eq_true', Bool.not_eq_false', Bool.not_true, Bool.not_false, reduceCtorEq, Decidable.not_not, not_true_eq_false, Bool.true_eq_false, Bool.false_eq_true] at hc') <;> (try (exfalso; omega)))) | (refine Z62 ?_; first | refine Z55 (Z63 rfl rfl) ?_ | refine Z55 (Z64 rfl rfl) ?_) | (refine Z65 ?_; first | refine Z55 (Z66 rfl (by assumption) (by rfl)) ?_ | refine Z55 (Z67 rfl (by assumption)) ?_) | (refine Z68 ?_; refine Z55 (Z69 rfl rfl rfl (by omega)) ?_) | (refine Z70 ?_; first | refine Z55 (Z14 rfl (by decide) rfl) ?_ | refine Z55 (Z15 rfl (by decide) rfl) ?_) | (refine Z71 ?_; first | refine Z55 (Z72 rfl) ?_ | refine Z55 (Z73 rfl) ?_) | (refine Z74 ?_; first | refine Z55 (Z75 rfl rfl (by omega)) ?_ | refine Z55 (Z76 rfl rfl (by omega)) ?_ | refine Z55 (Z77 rfl rfl (by omega)) ?_ | refine Z55 (Z78 rfl rfl (by omega) (by omega)) ?_ | refine Z55 (Z79 rfl rfl (by omega) (by omega) (by omega)) ?_ | refine Z55 (Z25 rfl rfl) ?_ | refine Z55 (Z26 rfl rfl) ?_) | (refine Z80 ?_; refine Z55 (Z28 rfl (Z53 ⟨by omega, by omega⟩)) ?_) | refine Z81 fun w' hw' => ?_)
          refine Z55 (q_loadS rfl rfl (fun j u hu => cell_ext (hcells' j u hu) he)) ?_
          refine WQ_call rfl (fun w' ew => (eqStmt_ret0 op x y n op' x' y' n' t e t' e' vt ve vt' ve' Ft Fe Ft' Fe' w' (hT.ext (he.trans ew)) (hE.ext (he.trans ew)) (hT'.ext (he.trans ew)) (hE'.ext (he.trans ew)) (ih t (by omega)) (ih e (by omega))).mono (by rintro u w'' ⟨rfl, h⟩; exact ⟨rfl, h⟩)) ?_
          repeat' (first | refine Z55 (Z56 rfl) ?_ | (refine Z57 ?_; first | refine Z58 rfl rfl (by decide) ?_ | refine Z59 rfl rfl (by decide) ?_ | refine Z60 rfl rfl ?_ | ((refine Z61 rfl rfl (fun c' hc' => ?_)); cases c' <;> (try simp only [decide_eq_true_eq, decide_eq_false_iff_not, beq_iff_eq, beq_eq_false_iff_ne, bne_iff_ne, bne_eq_false_iff_eq, ne_eq, gt_iff_lt, ge_iff_le, Int.not_lt, Int.not_le, Bool.not_eq_true', Bool.not_eq_false', Bool.not_true, Bool.not_false, reduceCtorEq, Decidable.not_not, not_true_eq_false, Bool.true_eq_false, Bool.false_eq_true] at hc') <;> (try (exfalso; omega)))) | (refine Z62 ?_; first | refine Z55 (Z63 rfl rfl) ?_ | refine Z55 (Z64 rfl rfl) ?_) | (refine Z65 ?_; first | refine Z55 (Z66 rfl (by assumption) (by rfl)) ?_ | refine Z55 (Z67 rfl (by assumption)) ?_) | (refine Z68 ?_; refine Z55 (Z69 rfl rfl rfl (by omega)) ?_) | (refine Z70 ?_; first | refine Z55 (Z14 rfl (by decide) rfl) ?_ | refine Z55 (Z15 rfl (by decide) rfl) ?_) | (refine Z71 ?_; first | refine Z55 (Z72 rfl) ?_ | refine Z55 (Z73 rfl) ?_) | (refine Z74 ?_; first | refine Z55 (Z75 rfl rfl (by omega)) ?_ | refine Z55 (Z76 rfl rfl (by omega)) ?_ | refine Z55 (Z77 rfl rfl (by omega)) ?_ | refine Z55 (Z78 rfl rfl (by omega) (by omega)) ?_ | refine Z55 (Z79 rfl rfl (by omega) (by omega) (by omega)) ?_ | refine Z55 (Z25 rfl rfl) ?_ | refine Z55 (Z26 rfl rfl) ?_) | (refine Z80 ?_; refine Z55 (Z28 rfl (Z53 ⟨by omega, by omega⟩)) ?_) | refine Z81 fun w' hw' => ?_)
          refine goS ?_
          refine Z52 rfl (fun hc => ?_) (fun hc => ?_)
          · refine goS ?_
            refine at_ret1 rfl rfl ⟨?_, he.trans hw'⟩
            have : la ≠ lb := fun h => by
              have := hiff.1 h
              simp at hc
              simp only [Ss.cons.injEq] at this
              obtain ⟨q1, q2, q3, q4, q5, q6, q7⟩ := this
              rcases hc with hc | hc | hc | hc | hc | hc
              · exact hc q1
              · exact hc q2
              · exact hc q3
              · exact hc q4
              · exact hc q5
              · exact hc q6
            simp [this]
          · refine goS ?_
            refine at_loop (i + 1, ra, rb) (by repeat (first | exact True.intro | refine And.intro rfl ?_)) ⟨by simp only; omega, by simp only; omega, by simp only; omega, ?_, hra, hrb, he.trans hw'⟩ (by simp only [Ss.len]; omega)
            simp at hc
            obtain ⟨q1, q2, q3, q4, q5, q6⟩ := hc
            rw [hiff]
            simp [q1, q2, q3, q4, q5, q6]
    · have hge : i = la.len := by simp at hc; omega
      have hr0 : ra = .nil := Ss.len_zero (by omega)
      have hr1 : rb = .nil := Ss.len_zero (by omega)
      subst hr0; subst hr1
      refine goS ?_
      refine at_ret1 rfl rfl ⟨?_, he⟩
      simp [hiff]) l
theorem eqStmtS_ret (va vb : Value) (la lb : Ss) (Fa Fb : List Nat) (w : World) (ha : StS w va la Fa) (hb : StS w vb lb Fb) : Ret Tryd.prog 29 [va, vb] w fun r w' => r = .bool (decide (la = lb)) ∧ Ext w w' := eqStmtS_all la lb va vb Fa Fb w ha hb
theorem eqStmt_ret (op x y n : Int) (t e : Ss) (vt ve vt' ve' : Value) (Ft Fe Ft' Fe' : List Nat) (w : World) (ht : StS w vt t Ft) (he : StS w ve e Fe) (ht' : StS w vt' t Ft') (he' : StS w ve' e Fe') :
    Ret Tryd.prog 50 [stV op x y n vt ve, stV op x y n vt' ve'] w fun r w' => r = .bool true ∧ Ext w w' :=
  (eqStmt_ret0 op x y n op x y n t e t e vt ve vt' ve' Ft Fe Ft' Fe' w ht he ht' he' (eqStmtS_all t) (eqStmtS_all e)).mono (by rintro r w' ⟨rfl, h⟩; exact ⟨by simp, h⟩)
theorem eqProgram_ret (tv bv tv' bv' : Value) (tl tl' : List Int) (l l' : Ss) (F1 F2 F3 F4 : List Nat) (w : World) (h1 : IntF w tv tl F1) (h2 : StS w bv l F2) (h3 : IntF w tv' tl' F3) (h4 : StS w bv' l' F4) :
    Ret Tryd.prog 10 [prV tv bv, prV tv' bv'] w fun r w' => r = .bool (decide (tl = tl' ∧ l = l')) ∧ Ext w w' := by
  refine enter Tryd.func10 rfl Tryd.ntmps10 rfl rfl ?_
  refine Z43 (Z44 (WO_box rfl fun w1 k1 e1 z1 => WO_box rfl fun w2 k2 e2 z2 => ?_))
  replace k1 : Blk w2 w.heap.size [tv, bv] _ := Blk.ext k1 e2
  replace k2 : Blk w2 w1.heap.size [tv', bv'] _ := k2
  simp only [z1] at k2
  simp only [z1]
  have e12 := e1.trans e2
  refine goS ?_
  refine WO_call rfl (eqIntS_ret tv tv' tl tl' F1 F3 w2 (h1.ext e12) (h3.ext e12)) ?_
  rintro r w3 ⟨rfl, e3⟩
  replace k1 := k1.ext e3
  replace k2 := k2.ext e3
  have e13 := e12.trans e3
  by_cases hs : tl = tl'
  · subst hs
    rw [beq_self_eq_true]
    (refine goS ?_; repeat' (first | ((refine Z51 rfl rfl (fun c' hc' => ?_)); cases c' <;> (try simp only [decide_eq_true_eq, decide_eq_false_iff_not, beq_iff_eq, beq_eq_false_iff_ne, bne_iff_ne, bne_eq_false_iff_eq, ne_eq, gt_iff_lt, ge_iff_le, Int.not_lt, Int.not_le, Bool.not_eq_true', Bool.not_eq_false', Bool.not_true, Bool.not_false, reduceCtorEq, Decidable.not_not, not_true_eq_false, Bool.true_eq_false, Bool.false_eq_true] at hc') <;> (try (exfalso; omega)) <;> refine goS ?_) | ((refine Z52 rfl (fun hc' => ?_) (fun hc' => ?_)) <;> (try simp only [decide_eq_true_eq, decide_eq_false_iff_not, beq_iff_eq, beq_eq_false_iff_ne, bne_iff_ne, bne_eq_false_iff_eq, ne_eq, gt_iff_lt, ge_iff_le, Int.not_lt, Int.not_le, Bool.not_eq_true', Bool.not_eq_false', Bool.not_true, Bool.not_false, reduceCtorEq, Decidable.not_not, not_true_eq_false, Bool.true_eq_false, Bool.false_eq_true] at hc') <;> (try (exfalso; omega)) <;> refine goS ?_)))
    refine WO_call rfl (eqStmtS_ret bv bv' l l' F2 F4 w3 (h2.ext e13) (h4.ext e13)) ?_
    rintro r w4 ⟨rfl, e4⟩
    by_cases hs2 : l = l'
    · rw [decide_eq_true hs2]
      (refine goS ?_; repeat' (first | ((refine Z51 rfl rfl (fun c' hc' => ?_)); cases c' <;> (try simp only [decide_eq_true_eq, decide_eq_false_iff_not, beq_iff_eq, beq_eq_false_iff_ne, bne_iff_ne, bne_eq_false_iff_eq, ne_eq, gt_iff_lt, ge_iff_le, Int.not_lt, Int.not_le, Bool.not_eq_true', Bool.not_eq_false', Bool.not_true, Bool.not_false, reduceCtorEq, Decidable.not_not, not_true_eq_false, Bool.true_eq_false, Bool.false_eq_true] at hc') <;> (try (exfalso; omega)) <;> refine goS ?_) | ((refine Z52 rfl (fun hc' => ?_) (fun hc' => ?_)) <;> (try simp only [decide_eq_true_eq, decide_eq_false_iff_not, beq_iff_eq, beq_eq_false_iff_ne, bne_iff_ne, bne_eq_false_iff_eq, ne_eq, gt_iff_lt, ge_iff_le, Int.not_lt, Int.not_le, Bool.not_eq_true', Bool.not_eq_false', Bool.not_true, Bool.not_false, reduceCtorEq, Decidable.not_not, not_true_eq_false, Bool.true_eq_false, Bool.false_eq_true] at hc') <;> (try (exfalso; omega)) <;> refine goS ?_)))
      refine at_ret1 rfl rfl ⟨congrArg Value.bool ?_, e13.trans e4⟩
      simp_all
    · rw [decide_eq_false hs2]
      (refine goS ?_; repeat' (first | ((refine Z51 rfl rfl (fun c' hc' => ?_)); cases c' <;> (try simp only [decide_eq_true_eq, decide_eq_false_iff_not, beq_iff_eq, beq_eq_false_iff_ne, bne_iff_ne, bne_eq_false_iff_eq, ne_eq, gt_iff_lt, ge_iff_le, Int.not_lt, Int.not_le, Bool.not_eq_true', Bool.not_eq_false', Bool.not_true, Bool.not_false, reduceCtorEq, Decidable.not_not, not_true_eq_false, Bool.true_eq_false, Bool.false_eq_true] at hc') <;> (try (exfalso; omega)) <;> refine goS ?_) | ((refine Z52 rfl (fun hc' => ?_) (fun hc' => ?_)) <;> (try simp only [decide_eq_true_eq, decide_eq_false_iff_not, beq_iff_eq, beq_eq_false_iff_ne, bne_iff_ne, bne_eq_false_iff_eq, ne_eq, gt_iff_lt, ge_iff_le, Int.not_lt, Int.not_le, Bool.not_eq_true', Bool.not_eq_false', Bool.not_true, Bool.not_false, reduceCtorEq, Decidable.not_not, not_true_eq_false, Bool.true_eq_false, Bool.false_eq_true] at hc') <;> (try (exfalso; omega)) <;> refine goS ?_)))
      refine at_ret1 rfl rfl ⟨congrArg Value.bool ?_, e13.trans e4⟩
      simp_all
  · rw [show (tl == tl') = false from by simpa using hs]
    (refine goS ?_; repeat' (first | ((refine Z51 rfl rfl (fun c' hc' => ?_)); cases c' <;> (try simp only [decide_eq_true_eq, decide_eq_false_iff_not, beq_iff_eq, beq_eq_false_iff_ne, bne_iff_ne, bne_eq_false_iff_eq, ne_eq, gt_iff_lt, ge_iff_le, Int.not_lt, Int.not_le, Bool.not_eq_true', Bool.not_eq_false', Bool.not_true, Bool.not_false, reduceCtorEq, Decidable.not_not, not_true_eq_false, Bool.true_eq_false, Bool.false_eq_true] at hc') <;> (try (exfalso; omega)) <;> refine goS ?_) | ((refine Z52 rfl (fun hc' => ?_) (fun hc' => ?_)) <;> (try simp only [decide_eq_true_eq, decide_eq_false_iff_not, beq_iff_eq, beq_eq_false_iff_ne, bne_iff_ne, bne_eq_false_iff_eq, ne_eq, gt_iff_lt, ge_iff_le, Int.not_lt, Int.not_le, Bool.not_eq_true', Bool.not_eq_false', Bool.not_true, Bool.not_false, reduceCtorEq, Decidable.not_not, not_true_eq_false, Bool.true_eq_false, Bool.false_eq_true] at hc') <;> (try (exfalso; omega)) <;> refine goS ?_)))
    refine at_ret1 rfl rfl ⟨congrArg Value.bool ?_, e13⟩
    simp_all
end Go.Proofs.YteonnoijdnjpdaaDoor
