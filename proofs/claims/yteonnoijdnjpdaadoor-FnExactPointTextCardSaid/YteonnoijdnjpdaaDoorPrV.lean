/-
  What is proved here: when the program's and the reference's ProgramValid and StmtValid answer true; how statements are counted.
-/
import Derived.Test.YteonnoijdnjpdaaDoorStLaw
namespace Go.Proofs.YteonnoijdnjpdaaDoor
set_option linter.unusedVariables false
set_option linter.unusedSimpArgs false
set_option linter.unnecessarySimpa false
open Go.RowKit

theorem IntF.small {w : World} {v : Value} {l : List Int} {F : List Nat} (h : IntF w v l F) : ∃ F', IntF w v l F' ∧ ∀ b ∈ F', b < w.heap.size := by
  obtain ⟨A, c, rfl, hl, h⟩ := h
  by_cases h0 : l = []
  · exact ⟨[], ⟨A, c, rfl, hl, .inl ⟨h0, rfl⟩⟩, by simp⟩
  · obtain ⟨h1, _⟩ | ⟨b, o, hA, hF, hc⟩ := h
    · exact absurd h1 h0
    · refine ⟨F, ⟨A, c, rfl, hl, .inr ⟨b, o, hA, hF, hc⟩⟩, fun x hx => ?_⟩
      rw [hF] at hx
      simp at hx
      subst hx
      have hp : 0 < l.length := List.length_pos_iff.2 h0
      exact World.block_lt_of_cell? _ _ (hc 0 _ (List.getElem?_eq_getElem hp))
theorem slS_small {w : World} {l : Ss} {v : Value} {F : List Nat} (h : SlV (CsAt w (encS l)) l.len v F) (ih : ∀ b o F, CsAt w (encS l) b o F → ∃ F', CsAt w (encS l) b o F' ∧ ∀ x ∈ F', x < w.heap.size) :
    ∃ F', SlV (CsAt w (encS l)) l.len v F' ∧ ∀ x ∈ F', x < w.heap.size := by
  obtain ⟨A, c, rfl, hm, h⟩ := h
  cases l with
  | nil => exact ⟨[], ⟨A, c, rfl, hm, .inl ⟨rfl, rfl⟩⟩, by simp⟩
  | cons op x y n t e r =>
    obtain ⟨h0, _⟩ | ⟨b, o, F', hA, hF, hs⟩ := h
    · simp [Ss.len] at h0
    · obtain ⟨F2, h2, h3⟩ := ih b o F' hs
      refine ⟨b :: F2, ⟨A, c, rfl, hm, .inr ⟨b, o, F2, hA, rfl, h2⟩⟩, fun z hz => ?_⟩
      rcases List.mem_cons.1 hz with rfl | hz
      · exact World.block_lt_of_cell? _ _ hs.1
      · exact h3 z hz
theorem csS_small {w : World} : ∀ (l : Ss) (b o : Nat) (F : List Nat), CsAt w (encS l) b o F → ∃ F', CsAt w (encS l) b o F' ∧ ∀ x ∈ F', x < w.heap.size
  | .nil, _, _, _, _ => ⟨[], rfl, by simp⟩
  | .cons op x y n t e r, b, o, F, ⟨h0, h1, h2, h3, vt, Ft, F1, e1, h4, hT, ve, Fe, Fr, e2, h5, hE, hr⟩ => by
    obtain ⟨Gt, t1, t2⟩ := slS_small hT (fun b o F h => csS_small t b o F h)
    obtain ⟨Ge, g1, g2⟩ := slS_small hE (fun b o F h => csS_small e b o F h)
    obtain ⟨Gr, r1, r2⟩ := csS_small r _ _ _ hr
    refine ⟨Gt ++ (Ge ++ Gr), ⟨h0, h1, h2, h3, vt, Gt, _, rfl, h4, t1, ve, Ge, Gr, rfl, h5, g1, r1⟩, fun z hz => ?_⟩
    simp only [List.mem_append] at hz
    rcases hz with hz | hz | hz
    · exact t2 z hz
    · exact g2 z hz
    · exact r2 z hz
theorem StS.small {w : World} {v : Value} {l : Ss} {F : List Nat} (h : StS w v l F) : ∃ F', StS w v l F' ∧ ∀ b ∈ F', b < w.heap.size := slS_small h (csS_small l)
theorem ProgramValid_ret (tv bv : Value) (tl : List Int) (l : Ss) (F F2 : List Nat) (w : World) (ht : IntF w tv tl F) (hb : StS w bv l F2) : Ret Tryd.prog 26 [prV tv bv] w fun v w' => v = .bool (validP tl l) ∧ Ext w w' := by
  obtain ⟨F, ht, h1⟩ := ht.small
  obtain ⟨F2, hb, h2⟩ := hb.small
  refine enter Tryd.func26 rfl Tryd.ntmps26 rfl rfl ?_
  refine Z43 (Z44 (WO_box rfl fun w1 hs he1 hz1 => ?_))
  replace hs : Blk w1 w.heap.size [tv, bv] _ := hs
  refine goS ?_
  refine WO_alloc fun w2 hk he2 hz2 => ?_
  refine WO_store1 rfl rfl rfl hk (by simp [Value.cells]) fun w3 hk3 ho3 => ?_
  replace hk3 : Blk w3 w1.heap.size [.int .i64 0] _ := hk3
  have he3 : Ext w1 w3 := he2.only ho3 (Nat.le_refl _)
  have he : Ext w w3 := he1.trans he3
  have fresh : ∀ {G : List Nat}, (∀ b ∈ G, b < w.heap.size) → w1.heap.size ∉ G := fun hG hm => by have := hG _ hm; omega
  replace hs := hs.ext he3
  refine goS ?_
  refine WO_call rfl (typesOk_ret tv tl F w3 (ht.ext he)) ?_
  rintro v w4 ⟨rfl, rfl⟩
  unfold validP
  cases okT tl
  · refine goS ?_
    exact at_ret1 rfl rfl ⟨rfl, he⟩
  · refine goS ?_
    refine WO_call rfl (scanAll_all l tv tl F 4 0 0 w1.heap.size _ F2 bv w4 (ht.ext he) (hb.ext he) (fresh h1) (fresh h2) hk3 (Nat.le_refl _) (by decide) (Int.le_refl _) (by decide)) ?_
    rintro v w5 ⟨c', rfl, _, _, _, hch⟩
    refine goS ?_
    refine at_ret1 rfl rfl ⟨?_, hch.ext_of he (by simp; have := he1.size_le; omega)⟩
    rw [Bool.true_and]
    congr 2
    rw [Bool.eq_iff_iff, decide_eq_true_eq, decide_eq_true_eq]
    omega
theorem typeOfL_range {tl : List Int} (h : okT tl = true) (v : Int) : 0 ≤ typeOfL tl v ∧ typeOfL tl v ≤ 4 := by
  unfold typeOfL
  split
  · rename_i hv
    unfold okT at h
    simp only [Bool.and_eq_true, List.all_eq_true, decide_eq_true_eq] at h
    have hlt : v.toNat < tl.length := by omega
    rw [List.getD_eq_getElem?_getD, List.getElem?_eq_getElem hlt]
    have := h.2 tl[v.toNat] (List.getElem_mem hlt)
    simp only [Option.getD_some]
    omega
  · omega
theorem l1Type_ret (tv : Value) (tl : List Int) (F : List Nat) (v : Int) (w : World) (h : IntF w tv tl F) : Ret Tryd.prog 89 [tv, .int .i64 v] w fun r w' => r = .int .i64 (typeOfL tl v) ∧ w' = w := by
  obtain ⟨A, c, rfl, hl, hx⟩ := h
  unfold maxI at hl
  refine enter Tryd.func89 rfl Tryd.ntmps89 rfl rfl ?_
  by_cases hv : 0 ≤ v ∧ v < tl.length
  · obtain ⟨m, rfl⟩ := Int.eq_ofNat_of_zero_le hv.1
    have hm : m < tl.length := by omega
    obtain ⟨b, o, rfl, rfl, hcell⟩ := int_at hx hm
    clear hx
    (refine goS ?_; repeat' (first | ((refine Z51 rfl rfl (fun c' hc' => ?_)); cases c' <;> (try simp only [decide_eq_true_eq, decide_eq_false_iff_not, beq_iff_eq, beq_eq_false_iff_ne, bne_iff_ne, bne_eq_false_iff_eq, ne_eq, gt_iff_lt, ge_iff_le, Int.not_lt, Int.not_le, Bool.not_eq_true', Bool.not_eq_false', Bool.not_true, Bool.not_false, reduceCtorEq, Decidable.not_not, not_true_eq_false, Bool.true_eq_false, Bool.false_eq_true] at hc') <;> (try (exfalso; omega)) <;> refine goS ?_) | ((refine Z52 rfl (fun hc' => ?_) (fun hc' => ?_)) <;> (try simp only [decide_eq_true_eq, decide_eq_false_iff_not, beq_iff_eq, beq_eq_false_iff_ne, bne_iff_ne, bne_eq_false_iff_eq, ne_eq, gt_iff_lt, ge_iff_le, Int.not_lt, Int.not_le, Bool.not_eq_true', Bool.not_eq_false', Bool.not_true, Bool.not_false, reduceCtorEq, Decidable.not_not, not_true_eq_false, Bool.true_eq_false, Bool.false_eq_true] at hc') <;> (try (exfalso; omega)) <;> refine goS ?_)))
    refine Z83 rfl rfl rfl hm ?_
    refine goS ?_
    refine at_ret1 rfl rfl ⟨?_, rfl⟩
    unfold typeOfL
    rw [if_pos hv, Int.toNat_natCast, List.getD_eq_getElem?_getD, List.getElem?_eq_getElem hm]
    rfl
  · clear hx
    (refine goS ?_; repeat' (first | ((refine Z51 rfl rfl (fun c' hc' => ?_)); cases c' <;> (try simp only [decide_eq_true_eq, decide_eq_false_iff_not, beq_iff_eq, beq_eq_false_iff_ne, bne_iff_ne, bne_eq_false_iff_eq, ne_eq, gt_iff_lt, ge_iff_le, Int.not_lt, Int.not_le, Bool.not_eq_true', Bool.not_eq_false', Bool.not_true, Bool.not_false, reduceCtorEq, Decidable.not_not, not_true_eq_false, Bool.true_eq_false, Bool.false_eq_true] at hc') <;> (try (exfalso; omega)) <;> refine goS ?_) | ((refine Z52 rfl (fun hc' => ?_) (fun hc' => ?_)) <;> (try simp only [decide_eq_true_eq, decide_eq_false_iff_not, beq_iff_eq, beq_eq_false_iff_ne, bne_iff_ne, bne_eq_false_iff_eq, ne_eq, gt_iff_lt, ge_iff_le, Int.not_lt, Int.not_le, Bool.not_eq_true', Bool.not_eq_false', Bool.not_true, Bool.not_false, reduceCtorEq, Decidable.not_not, not_true_eq_false, Bool.true_eq_false, Bool.false_eq_true] at hc') <;> (try (exfalso; omega)) <;> refine goS ?_)))
    all_goals
      refine at_ret1 rfl rfl ⟨?_, rfl⟩
      unfold typeOfL
      rw [if_neg hv]
theorem l1Types_ret (tv : Value) (tl : List Int) (F : List Nat) (w : World) (h : IntF w tv tl F) : Ret Tryd.prog 42 [tv] w fun v w' => v = .bool (okT tl) ∧ w' = w := by
  obtain ⟨A, c, rfl, hl, hx⟩ := h
  unfold maxI at hl
  refine enter Tryd.func42 rfl Tryd.ntmps42 rfl rfl ?_
  refine goS ?_
  refine W_loop (α := Nat) (fun i => [(0, .slice A tl.length c), (3, .int .i64 (i : Int))]) (fun i w' => i ≤ tl.length ∧ (∀ t ∈ tl.take i, 1 ≤ t ∧ t ≤ 4) ∧ w' = w) (fun i => tl.length - i) 0 (by repeat (first | exact True.intro | refine And.intro rfl ?_)) ⟨Nat.zero_le _, by simp, rfl⟩ ?_
  rintro i w1 ⟨hi, hall, rfl⟩
  refine goS ?_
  refine Z52 rfl (fun hc => ?_) (fun hc => ?_)
  · have hlt : i < tl.length := by simpa using hc
    obtain ⟨b, o, rfl, _, hcell⟩ := int_at hx hlt
    have htk : tl.take (i + 1) = tl.take i ++ [tl[i]] := List.take_succ_eq_append_getElem hlt
    have hbad : ¬ (1 ≤ tl[i] ∧ tl[i] ≤ 4) → okT tl = false := fun hn => by
      unfold okT
      rw [Bool.and_eq_false_iff]
      right
      rw [List.all_eq_false]
      exact ⟨tl[i], List.getElem_mem hlt, by simpa using hn⟩
    clear hx
    refine goS ?_
    refine Z83 rfl rfl rfl hlt ?_
    by_cases h1 : tl[i] < 1
    · (refine goS ?_; repeat' (first | ((refine Z51 rfl rfl (fun c' hc' => ?_)); cases c' <;> (try simp only [decide_eq_true_eq, decide_eq_false_iff_not, beq_iff_eq, beq_eq_false_iff_ne, bne_iff_ne, bne_eq_false_iff_eq, ne_eq, gt_iff_lt, ge_iff_le, Int.not_lt, Int.not_le, Bool.not_eq_true', Bool.not_eq_false', Bool.not_true, Bool.not_false, reduceCtorEq, Decidable.not_not, not_true_eq_false, Bool.true_eq_false, Bool.false_eq_true] at hc') <;> (try (exfalso; omega)) <;> refine goS ?_) | ((refine Z52 rfl (fun hc' => ?_) (fun hc' => ?_)) <;> (try simp only [decide_eq_true_eq, decide_eq_false_iff_not, beq_iff_eq, beq_eq_false_iff_ne, bne_iff_ne, bne_eq_false_iff_eq, ne_eq, gt_iff_lt, ge_iff_le, Int.not_lt, Int.not_le, Bool.not_eq_true', Bool.not_eq_false', Bool.not_true, Bool.not_false, reduceCtorEq, Decidable.not_not, not_true_eq_false, Bool.true_eq_false, Bool.false_eq_true] at hc') <;> (try (exfalso; omega)) <;> refine goS ?_)))
      exact at_ret1 rfl rfl ⟨by rw [hbad (by omega)], rfl⟩
    · (refine goS ?_; repeat' (first | ((refine Z51 rfl rfl (fun c' hc' => ?_)); cases c' <;> (try simp only [decide_eq_true_eq, decide_eq_false_iff_not, beq_iff_eq, beq_eq_false_iff_ne, bne_iff_ne, bne_eq_false_iff_eq, ne_eq, gt_iff_lt, ge_iff_le, Int.not_lt, Int.not_le, Bool.not_eq_true', Bool.not_eq_false', Bool.not_true, Bool.not_false, reduceCtorEq, Decidable.not_not, not_true_eq_false, Bool.true_eq_false, Bool.false_eq_true] at hc') <;> (try (exfalso; omega)) <;> refine goS ?_) | ((refine Z52 rfl (fun hc' => ?_) (fun hc' => ?_)) <;> (try simp only [decide_eq_true_eq, decide_eq_false_iff_not, beq_iff_eq, beq_eq_false_iff_ne, bne_iff_ne, bne_eq_false_iff_eq, ne_eq, gt_iff_lt, ge_iff_le, Int.not_lt, Int.not_le, Bool.not_eq_true', Bool.not_eq_false', Bool.not_true, Bool.not_false, reduceCtorEq, Decidable.not_not, not_true_eq_false, Bool.true_eq_false, Bool.false_eq_true] at hc') <;> (try (exfalso; omega)) <;> refine goS ?_)))
      refine Z83 rfl rfl rfl hlt ?_
      (refine goS ?_; repeat' (first | ((refine Z51 rfl rfl (fun c' hc' => ?_)); cases c' <;> (try simp only [decide_eq_true_eq, decide_eq_false_iff_not, beq_iff_eq, beq_eq_false_iff_ne, bne_iff_ne, bne_eq_false_iff_eq, ne_eq, gt_iff_lt, ge_iff_le, Int.not_lt, Int.not_le, Bool.not_eq_true', Bool.not_eq_false', Bool.not_true, Bool.not_false, reduceCtorEq, Decidable.not_not, not_true_eq_false, Bool.true_eq_false, Bool.false_eq_true] at hc') <;> (try (exfalso; omega)) <;> refine goS ?_) | ((refine Z52 rfl (fun hc' => ?_) (fun hc' => ?_)) <;> (try simp only [decide_eq_true_eq, decide_eq_false_iff_not, beq_iff_eq, beq_eq_false_iff_ne, bne_iff_ne, bne_eq_false_iff_eq, ne_eq, gt_iff_lt, ge_iff_le, Int.not_lt, Int.not_le, Bool.not_eq_true', Bool.not_eq_false', Bool.not_true, Bool.not_false, reduceCtorEq, Decidable.not_not, not_true_eq_false, Bool.true_eq_false, Bool.false_eq_true] at hc') <;> (try (exfalso; omega)) <;> refine goS ?_)))
      · exact at_ret1 rfl rfl ⟨by rw [hbad (by omega)], rfl⟩
      · refine at_loop (i + 1) (by repeat (first | exact True.intro | refine And.intro rfl ?_)) ⟨hlt, ?_, rfl⟩ (by omega)
        rw [htk]
        intro t ht
        rcases List.mem_append.1 ht with ht | ht
        · exact hall t ht
        · simp at ht; subst ht; omega
  · have hge : i = tl.length := by simp at hc; omega
    subst hge
    rw [List.take_length] at hall
    refine goS ?_
    refine at_ret1 rfl rfl ⟨?_, rfl⟩
    have : (tl.all fun t => decide (1 ≤ t ∧ t ≤ 4)) = true := List.all_eq_true.2 fun t ht => by simpa using hall t ht
    unfold okT
    rw [this, Bool.and_true]
    congr 1
    rw [Bool.eq_iff_iff]
    simp
    omega
set_option maxHeartbeats 2000000 in
theorem l1Simple_ret (tv : Value) (tl : List Int) (F : List Nat) (op x y n : Int) (vt ve : Value) (w : World) (h : IntF w tv tl F) (hT : okT tl = true) :
    Ret Tryd.prog 76 [tv, stV op x y n vt ve] w fun r w' => r = .bool (decide (SimpleP tl op x y n 0 0)) ∧ Ext w w' := by
  have hx := typeOfL_range hT x
  have hy := typeOfL_range hT y
  refine enter Tryd.func76 rfl Tryd.ntmps76 rfl rfl ?_
  refine Z43 (Z44 (WO_box rfl fun w1 hs e1 z1 => ?_))
  replace hs : Blk w1 w.heap.size [.int .i64 op, .int .i64 x, .int .i64 y, .int .i64 n, vt, ve] _ := hs
  refine goS ?_
  refine WO_call rfl (l1Type_ret tv tl F x w1 (h.ext e1)) ?_
  rintro _ w1 ⟨rfl, rfl⟩
  refine goS ?_
  refine WO_call rfl (l1Type_ret tv tl F y w1 (h.ext e1)) ?_
  rintro _ w1 ⟨rfl, rfl⟩
  generalize hX : typeOfL tl x = X at hx ⊢
  generalize hY : typeOfL tl y = Y at hy ⊢
  clear h
  (refine goS ?_; repeat' (first | ((refine Z51 rfl rfl (fun c' hc' => ?_)); cases c' <;> (try simp only [decide_eq_true_eq, decide_eq_false_iff_not, beq_iff_eq, beq_eq_false_iff_ne, bne_iff_ne, bne_eq_false_iff_eq, ne_eq, gt_iff_lt, ge_iff_le, Int.not_lt, Int.not_le, Bool.not_eq_true', Bool.not_eq_false', Bool.not_true, Bool.not_false, reduceCtorEq, Decidable.not_not, not_true_eq_false, Bool.true_eq_false, Bool.false_eq_true] at hc') <;> (try (exfalso; omega)) <;> refine goS ?_) | ((refine Z52 rfl (fun hc' => ?_) (fun hc' => ?_)) <;> (try simp only [decide_eq_true_eq, decide_eq_false_iff_not, beq_iff_eq, beq_eq_false_iff_ne, bne_iff_ne, bne_eq_false_iff_eq, ne_eq, gt_iff_lt, ge_iff_le, Int.not_lt, Int.not_le, Bool.not_eq_true', Bool.not_eq_false', Bool.not_true, Bool.not_false, reduceCtorEq, Decidable.not_not, not_true_eq_false, Bool.true_eq_false, Bool.false_eq_true] at hc') <;> (try (exfalso; omega)) <;> refine goS ?_)))
  all_goals refine at_ret1 rfl rfl ⟨congrArg Value.bool (bool_dec ?_), e1⟩
  all_goals unfold SimpleP
  all_goals rw [hX, hY]
  all_goals clear hs e1
  all_goals (simp only [beq_iff_eq, bne_iff_ne, decide_eq_true_eq, ne_eq, Bool.false_eq_true, false_iff, ge_iff_le, gt_iff_lt, true_and, and_true]; first | omega | (constructor <;> intro hh <;> omega))
def BdP (l : Ss) : Prop := ∀ tv tl F (d : Nat) lv Fl w, okT tl = true → IntF w tv tl F → StS w lv l Fl → d ≤ 4 → Ret Tryd.prog 43 [tv, lv, .int .i64 (d : Int)] w fun r w' => r = .bool (okL tl d l) ∧ Ext w w'
theorem l1Stmt_ret0 (tv : Value) (tl : List Int) (F : List Nat) (d : Nat) (op x y n : Int) (t e : Ss) (vt ve : Value) (Ft Fe : List Nat) (w : World) (hok : okT tl = true) (h : IntF w tv tl F) (ht : StS w vt t Ft) (he : StS w ve e Fe) (hd : d ≤ 4) (it : BdP t) (ie : BdP e) :
    Ret Tryd.prog 61 [tv, stV op x y n vt ve, .int .i64 (d : Int)] w fun r w' => r = .bool (okS tl d op x y n t e) ∧ Ext w w' := by
  obtain ⟨At, ct, rfl, hlt, _⟩ := ht.slice
  obtain ⟨Ae, ce, rfl, hle, _⟩ := he.slice
  refine enter Tryd.func61 rfl Tryd.ntmps61 rfl rfl ?_
  refine Z43 (Z44 (WO_box rfl fun w1 hs e1 z1 => ?_))
  replace hs : Blk w1 w.heap.size [.int .i64 op, .int .i64 x, .int .i64 y, .int .i64 n, .slice At t.len ct, .slice Ae e.len ce] _ := hs
  by_cases hop : op = 9 ∨ op = 10
  · have hS : okS tl d op x y n t e = (decide (d ≠ 0 ∧ x = 0 ∧ y = 0 ∧ n = 0 ∧ ¬ (op = 10 ∧ e.len ≠ 0)) && okL tl (d - 1) t && okL tl (d - 1) e) := by unfold okS; rw [if_pos hop]
    (refine goS ?_; repeat' (first | ((refine Z51 rfl rfl (fun c' hc' => ?_)); cases c' <;> (try simp only [decide_eq_true_eq, decide_eq_false_iff_not, beq_iff_eq, beq_eq_false_iff_ne, bne_iff_ne, bne_eq_false_iff_eq, ne_eq, gt_iff_lt, ge_iff_le, Int.not_lt, Int.not_le, Bool.not_eq_true', Bool.not_eq_false', Bool.not_true, Bool.not_false, reduceCtorEq, Decidable.not_not, not_true_eq_false, Bool.true_eq_false, Bool.false_eq_true] at hc') <;> (try (exfalso; omega)) <;> refine goS ?_) | ((refine Z52 rfl (fun hc' => ?_) (fun hc' => ?_)) <;> (try simp only [decide_eq_true_eq, decide_eq_false_iff_not, beq_iff_eq, beq_eq_false_iff_ne, bne_iff_ne, bne_eq_false_iff_eq, ne_eq, gt_iff_lt, ge_iff_le, Int.not_lt, Int.not_le, Bool.not_eq_true', Bool.not_eq_false', Bool.not_true, Bool.not_false, reduceCtorEq, Decidable.not_not, not_true_eq_false, Bool.true_eq_false, Bool.false_eq_true] at hc') <;> (try (exfalso; omega)) <;> refine goS ?_)))
    all_goals first
      | (refine at_ret1 rfl rfl ⟨?_, e1⟩
         rw [hS, decide_eq_false (by rintro ⟨a1, a2, a3, a4, a5⟩; first | omega | exact a5 ⟨by omega, by omega⟩), Bool.false_and, Bool.false_and]
         done)
      | skip
    all_goals
      have hdec : d ≠ 0 ∧ x = 0 ∧ y = 0 ∧ n = 0 ∧ ¬ (op = 10 ∧ e.len ≠ 0) := ⟨by omega, by omega, by omega, by omega, by rintro ⟨b1, b2⟩; omega⟩
      rw [decide_eq_true hdec, Bool.true_and] at hS
      have hd1 : (d : Int) - 1 = ((d - 1 : Nat) : Int) := by omega
      refine WO_call rfl (by rw [hd1]; exact it tv tl F (d - 1) _ Ft w1 hok (h.ext e1) (ht.ext e1) (by omega)) ?_
      rintro _ w2 ⟨rfl, e2⟩
      replace hs := hs.ext e2
      cases hb : okL tl (d - 1) t
      · refine goS ?_
        refine at_ret1 rfl rfl ⟨?_, e1.trans e2⟩
        rw [hS, hb, Bool.false_and]
      · refine goS ?_
        refine WO_call rfl (by rw [hd1]; exact ie tv tl F (d - 1) _ Fe w2 hok (h.ext (e1.trans e2)) (he.ext (e1.trans e2)) (by omega)) ?_
        rintro _ w3 ⟨rfl, e3⟩
        refine goS ?_
        refine at_ret1 rfl rfl ⟨?_, (e1.trans e2).trans e3⟩
        rw [hS, hb, Bool.true_and]
  · have hS : okS tl d op x y n t e = decide (SimpleP tl op x y n t.len e.len) := by unfold okS; rw [if_neg hop]
    have hno : (t.len ≠ 0 ∨ e.len ≠ 0) → okS tl d op x y n t e = false := fun hn => by
      rw [hS, decide_eq_false]
      rintro ⟨_, _, h3, h4, _⟩
      omega
    by_cases h0 : t.len = 0 ∧ e.len = 0
    · rw [h0.1, h0.2] at hS
      (refine goS ?_; repeat' (first | ((refine Z51 rfl rfl (fun c' hc' => ?_)); cases c' <;> (try simp only [decide_eq_true_eq, decide_eq_false_iff_not, beq_iff_eq, beq_eq_false_iff_ne, bne_iff_ne, bne_eq_false_iff_eq, ne_eq, gt_iff_lt, ge_iff_le, Int.not_lt, Int.not_le, Bool.not_eq_true', Bool.not_eq_false', Bool.not_true, Bool.not_false, reduceCtorEq, Decidable.not_not, not_true_eq_false, Bool.true_eq_false, Bool.false_eq_true] at hc') <;> (try (exfalso; omega)) <;> refine goS ?_) | ((refine Z52 rfl (fun hc' => ?_) (fun hc' => ?_)) <;> (try simp only [decide_eq_true_eq, decide_eq_false_iff_not, beq_iff_eq, beq_eq_false_iff_ne, bne_iff_ne, bne_eq_false_iff_eq, ne_eq, gt_iff_lt, ge_iff_le, Int.not_lt, Int.not_le, Bool.not_eq_true', Bool.not_eq_false', Bool.not_true, Bool.not_false, reduceCtorEq, Decidable.not_not, not_true_eq_false, Bool.true_eq_false, Bool.false_eq_true] at hc') <;> (try (exfalso; omega)) <;> refine goS ?_)))
      refine WO_loadSB rfl hs rfl ?_
      refine goS ?_
      refine WO_call rfl (l1Simple_ret tv tl F op x y n (.slice At t.len ct) (.slice Ae e.len ce) w1 (h.ext e1) hok) ?_
      rintro _ w2 ⟨rfl, e2⟩
      refine goS ?_
      exact at_ret1 rfl rfl ⟨by rw [hS], e1.trans e2⟩
    · have hn := hno (by omega)
      (refine goS ?_; repeat' (first | ((refine Z51 rfl rfl (fun c' hc' => ?_)); cases c' <;> (try simp only [decide_eq_true_eq, decide_eq_false_iff_not, beq_iff_eq, beq_eq_false_iff_ne, bne_iff_ne, bne_eq_false_iff_eq, ne_eq, gt_iff_lt, ge_iff_le, Int.not_lt, Int.not_le, Bool.not_eq_true', Bool.not_eq_false', Bool.not_true, Bool.not_false, reduceCtorEq, Decidable.not_not, not_true_eq_false, Bool.true_eq_false, Bool.false_eq_true] at hc') <;> (try (exfalso; omega)) <;> refine goS ?_) | ((refine Z52 rfl (fun hc' => ?_) (fun hc' => ?_)) <;> (try simp only [decide_eq_true_eq, decide_eq_false_iff_not, beq_iff_eq, beq_eq_false_iff_ne, bne_iff_ne, bne_eq_false_iff_eq, ne_eq, gt_iff_lt, ge_iff_le, Int.not_lt, Int.not_le, Bool.not_eq_true', Bool.not_eq_false', Bool.not_true, Bool.not_false, reduceCtorEq, Decidable.not_not, not_true_eq_false, Bool.true_eq_false, Bool.false_eq_true] at hc') <;> (try (exfalso; omega)) <;> refine goS ?_)))
      all_goals (refine at_ret1 rfl rfl ⟨?_, e1⟩; first | (rw [hn]; done) | (rw [hn]; simp; done) | (rw [hn]; simp; omega))
theorem l1Body_all (l : Ss) : BdP l := Ss.strong (fun l ih => by
  intro tv tl F d lv Fl w hok h hl hd
  obtain ⟨A, cap, rfl, hlen, _⟩ := hl.slice
  have hst := restS_start hl
  unfold maxI at hlen
  refine enter Tryd.func43 rfl Tryd.ntmps43 rfl rfl ?_
  refine goS ?_
  refine W_loop (α := Nat × Ss) (fun p => [(0, tv), (1, .slice A l.len cap), (2, .int .i64 (d : Int)), (7, .int .i64 (p.1 : Int))])
    (fun p w' => p.1 + p.2.len = l.len ∧ cntL p.2 ≤ cntL l ∧ okL tl d p.2 = okL tl d l ∧ RestS w A p.1 p.2 ∧ Ext w w') (fun p => p.2.len) (0, l) (by repeat (first | exact True.intro | refine And.intro rfl ?_)) ⟨by simp, Nat.le_refl _, rfl, hst, Ext.refl _⟩ ?_
  rintro ⟨i, r⟩ w1 ⟨hi, hcl, hokr, hr, he⟩
  simp only at hi hcl hokr hr ⊢
  refine goS ?_
  refine Z52 rfl (fun hc => ?_) (fun hc => ?_)
  · have hlt : i < l.len := by simpa using hc
    cases r with
    | nil => simp only [Ss.len] at hi; omega
    | cons op x y n t e r =>
      obtain ⟨b, o, vt, ve, Ft, Fe, rfl, hcells, hT, hE, hrest⟩ := restS_cons hr
      simp only [Ss.len, cntL] at hi hcl
      rw [okL_cons] at hokr
      refine goS ?_
      refine Z83 rfl rfl rfl hlt ?_
      refine WO_loadS rfl rfl (fun j u hu => cell_ext (hcells j u hu) he) ?_
      refine goS ?_
      refine WO_call rfl (l1Stmt_ret0 tv tl F d op x y n t e vt ve Ft Fe w1 hok (h.ext he) (hT.ext he) (hE.ext he) hd (ih t (by omega)) (ih e (by omega))) ?_
      rintro _ w2 ⟨rfl, e2⟩
      cases hb : okS tl d op x y n t e
      · rw [hb, Bool.false_and] at hokr
        refine goS ?_
        exact at_ret1 rfl rfl ⟨by rw [← hokr], he.trans e2⟩
      · rw [hb, Bool.true_and] at hokr
        refine goS ?_
        refine at_loop (i + 1, r) (by repeat (first | exact True.intro | refine And.intro rfl ?_)) ⟨by simp only; omega, by simp only; omega, hokr, hrest, he.trans e2⟩ (by simp only [Ss.len]; omega)
  · have hge : i = l.len := by simp at hc; omega
    have hr0 : r = .nil := Ss.len_zero (by omega)
    subst hr0
    refine goS ?_
    exact at_ret1 rfl rfl ⟨by rw [← hokr]; rfl, he⟩) l
def CtP (l : Ss) : Prop := ∀ lv F (most : Nat) w, StS w lv l F → most ≤ 30 → cntL l ≤ 1073741824 → Ret Tryd.prog 44 [lv, .int .i64 (most : Int)] w fun r w' => (∃ c : Nat, r = .int .i64 (c : Int) ∧ c ≤ cntL l ∧ (cntL l ≤ most → c = cntL l) ∧ (most < cntL l → most < c)) ∧ w' = w
theorem l1Count_all (l : Ss) : CtP l := Ss.strong (fun l ih => by
  intro lv F most w h hm hcb
  obtain ⟨A, cap, rfl, hlen, _⟩ := h.slice
  have hst := restS_start h
  unfold maxI at hlen
  refine enter Tryd.func44 rfl Tryd.ntmps44 rfl rfl ?_
  refine goS ?_
  refine W_loop (α := Nat × Nat × Ss) (fun p => [(0, .slice A l.len cap), (1, .int .i64 (most : Int)), (5, .int .i64 (p.2.1 : Int)), (6, .int .i64 (p.1 : Int))])
    (fun p w' => p.1 + p.2.2.len = l.len ∧ cntL p.2.2 ≤ cntL l ∧ p.2.1 + cntL p.2.2 ≤ cntL l ∧ (p.2.1 ≤ most → p.2.1 + cntL p.2.2 = cntL l) ∧ RestS w A p.1 p.2.2 ∧ w' = w) (fun p => p.2.2.len) (0, 0, l) (by repeat (first | exact True.intro | refine And.intro rfl ?_)) ⟨by simp, Nat.le_refl _, by simp, by simp, hst, rfl⟩ ?_
  rintro ⟨i, n', r⟩ w1 ⟨hi, hcl, hn1, hn2, hr, rfl⟩
  simp only at hi hcl hn1 hn2 hr ⊢
  by_cases hgo : i < l.len ∧ n' ≤ most
  · obtain ⟨hlt, hle⟩ := hgo
    have hn2 := hn2 hle
    cases r with
    | nil => simp only [Ss.len] at hi; omega
    | cons op x y n t e r =>
      obtain ⟨b, o, vt, ve, Ft, Fe, rfl, hcells, hT, hE, hrest⟩ := restS_cons hr
      have c4 := hcells 4 _ rfl
      have c5 := hcells 5 _ rfl
      simp only [Ss.len, cntL] at hi hcl hn1 hn2
      (refine goS ?_; repeat' (first | ((refine Z51 rfl rfl (fun c' hc' => ?_)); cases c' <;> (try simp only [decide_eq_true_eq, decide_eq_false_iff_not, beq_iff_eq, beq_eq_false_iff_ne, bne_iff_ne, bne_eq_false_iff_eq, ne_eq, gt_iff_lt, ge_iff_le, Int.not_lt, Int.not_le, Bool.not_eq_true', Bool.not_eq_false', Bool.not_true, Bool.not_false, reduceCtorEq, Decidable.not_not, not_true_eq_false, Bool.true_eq_false, Bool.false_eq_true] at hc') <;> (try (exfalso; omega)) <;> refine goS ?_) | ((refine Z52 rfl (fun hc' => ?_) (fun hc' => ?_)) <;> (try simp only [decide_eq_true_eq, decide_eq_false_iff_not, beq_iff_eq, beq_eq_false_iff_ne, bne_iff_ne, bne_eq_false_iff_eq, ne_eq, gt_iff_lt, ge_iff_le, Int.not_lt, Int.not_le, Bool.not_eq_true', Bool.not_eq_false', Bool.not_true, Bool.not_false, reduceCtorEq, Decidable.not_not, not_true_eq_false, Bool.true_eq_false, Bool.false_eq_true] at hc') <;> (try (exfalso; omega)) <;> refine goS ?_)))
      refine Z83 rfl rfl rfl hlt ?_
      refine goS ?_
      refine WO_call rfl (by rw [show (most : Int) - (n' : Int) = ((most - n' : Nat) : Int) from by omega]; exact ih t (by omega) vt Ft (most - n') w1 hT (by omega) (by omega)) ?_
      rintro _ w2 ⟨⟨q, rfl, k1, k2, k3⟩, rfl⟩
      by_cases hmore : n' + 1 + q ≤ most
      · have hq : q = cntL t := k2 (by omega)
        (refine goS ?_; repeat' (first | ((refine Z51 rfl rfl (fun c' hc' => ?_)); cases c' <;> (try simp only [decide_eq_true_eq, decide_eq_false_iff_not, beq_iff_eq, beq_eq_false_iff_ne, bne_iff_ne, bne_eq_false_iff_eq, ne_eq, gt_iff_lt, ge_iff_le, Int.not_lt, Int.not_le, Bool.not_eq_true', Bool.not_eq_false', Bool.not_true, Bool.not_false, reduceCtorEq, Decidable.not_not, not_true_eq_false, Bool.true_eq_false, Bool.false_eq_true] at hc') <;> (try (exfalso; omega)) <;> refine goS ?_) | ((refine Z52 rfl (fun hc' => ?_) (fun hc' => ?_)) <;> (try simp only [decide_eq_true_eq, decide_eq_false_iff_not, beq_iff_eq, beq_eq_false_iff_ne, bne_iff_ne, bne_eq_false_iff_eq, ne_eq, gt_iff_lt, ge_iff_le, Int.not_lt, Int.not_le, Bool.not_eq_true', Bool.not_eq_false', Bool.not_true, Bool.not_false, reduceCtorEq, Decidable.not_not, not_true_eq_false, Bool.true_eq_false, Bool.false_eq_true] at hc') <;> (try (exfalso; omega)) <;> refine goS ?_)))
        refine Z83 rfl rfl rfl hlt ?_
        refine goS ?_
        refine WO_call rfl (by rw [show (most : Int) - ((n' : Int) + 1 + (q : Int)) = ((most - (n' + 1 + q) : Nat) : Int) from by omega]; exact ih e (by omega) ve Fe (most - (n' + 1 + q)) w2 hE (by omega) (by omega)) ?_
        rintro _ w3 ⟨⟨q2, rfl, j1, j2, j3⟩, rfl⟩
        refine goS ?_
        refine at_loop (i + 1, n' + 1 + q + q2, r) (And.intro rfl (And.intro rfl (And.intro (congrArg (fun z => some (Value.int .i64 z)) (by simp only; omega)) (And.intro rfl trivial)))) ⟨by simp only; omega, by simp only; omega, by simp only; omega, fun hx => ?_, hrest, rfl⟩ (by simp only [Ss.len]; omega)
        simp only at hx ⊢
        have : q2 = cntL e := j2 (by omega)
        omega
      · (refine goS ?_; repeat' (first | ((refine Z51 rfl rfl (fun c' hc' => ?_)); cases c' <;> (try simp only [decide_eq_true_eq, decide_eq_false_iff_not, beq_iff_eq, beq_eq_false_iff_ne, bne_iff_ne, bne_eq_false_iff_eq, ne_eq, gt_iff_lt, ge_iff_le, Int.not_lt, Int.not_le, Bool.not_eq_true', Bool.not_eq_false', Bool.not_true, Bool.not_false, reduceCtorEq, Decidable.not_not, not_true_eq_false, Bool.true_eq_false, Bool.false_eq_true] at hc') <;> (try (exfalso; omega)) <;> refine goS ?_) | ((refine Z52 rfl (fun hc' => ?_) (fun hc' => ?_)) <;> (try simp only [decide_eq_true_eq, decide_eq_false_iff_not, beq_iff_eq, beq_eq_false_iff_ne, bne_iff_ne, bne_eq_false_iff_eq, ne_eq, gt_iff_lt, ge_iff_le, Int.not_lt, Int.not_le, Bool.not_eq_true', Bool.not_eq_false', Bool.not_true, Bool.not_false, reduceCtorEq, Decidable.not_not, not_true_eq_false, Bool.true_eq_false, Bool.false_eq_true] at hc') <;> (try (exfalso; omega)) <;> refine goS ?_)))
        refine at_loop (i + 1, n' + 1 + q, r) (And.intro rfl (And.intro rfl (And.intro (congrArg (fun z => some (Value.int .i64 z)) (by simp only; omega)) (And.intro rfl trivial)))) ⟨by simp only; omega, by simp only; omega, by simp only; omega, fun hx => ?_, hrest, rfl⟩ (by simp only [Ss.len]; omega)
        simp only at hx
        omega
  · have hfin : (∃ c : Nat, Value.int .i64 (n' : Int) = .int .i64 (c : Int) ∧ c ≤ cntL l ∧ (cntL l ≤ most → c = cntL l) ∧ (most < cntL l → most < c)) ∧ w1 = w1 := by
      refine ⟨⟨n', rfl, by omega, fun hx => ?_, fun hx => ?_⟩, rfl⟩
      · have := hn2 (by omega)
        have hr0 : r = .nil := Ss.len_zero (by omega)
        subst hr0
        simp only [cntL] at this
        omega
      · by_cases hy : n' ≤ most
        · have := hn2 hy
          have hr0 : r = .nil := Ss.len_zero (by omega)
          subst hr0
          simp only [cntL] at this
          omega
        · omega
    (refine goS ?_; repeat' (first | ((refine Z51 rfl rfl (fun c' hc' => ?_)); cases c' <;> (try simp only [decide_eq_true_eq, decide_eq_false_iff_not, beq_iff_eq, beq_eq_false_iff_ne, bne_iff_ne, bne_eq_false_iff_eq, ne_eq, gt_iff_lt, ge_iff_le, Int.not_lt, Int.not_le, Bool.not_eq_true', Bool.not_eq_false', Bool.not_true, Bool.not_false, reduceCtorEq, Decidable.not_not, not_true_eq_false, Bool.true_eq_false, Bool.false_eq_true] at hc') <;> (try (exfalso; omega)) <;> refine goS ?_) | ((refine Z52 rfl (fun hc' => ?_) (fun hc' => ?_)) <;> (try simp only [decide_eq_true_eq, decide_eq_false_iff_not, beq_iff_eq, beq_eq_false_iff_ne, bne_iff_ne, bne_eq_false_iff_eq, ne_eq, gt_iff_lt, ge_iff_le, Int.not_lt, Int.not_le, Bool.not_eq_true', Bool.not_eq_false', Bool.not_true, Bool.not_false, reduceCtorEq, Decidable.not_not, not_true_eq_false, Bool.true_eq_false, Bool.false_eq_true] at hc') <;> (try (exfalso; omega)) <;> refine goS ?_)))
    all_goals exact at_ret1 rfl rfl hfin) l
theorem sProgramValid_ret (tv bv : Value) (tl : List Int) (l : Ss) (F F2 : List Nat) (w : World) (ht : IntF w tv tl F) (hb : StS w bv l F2) (hn : cntL l ≤ 1073741824) : Ret Tryd.prog 22 [prV tv bv] w fun v w' => v = .bool (validP tl l) ∧ Ext w w' := by
  refine enter Tryd.func22 rfl Tryd.ntmps22 rfl rfl ?_
  refine Z43 (Z44 (WO_box rfl fun w1 hs he1 hz1 => ?_))
  replace hs : Blk w1 w.heap.size [tv, bv] _ := hs
  refine goS ?_
  refine WO_call rfl (l1Types_ret tv tl F w1 (ht.ext he1)) ?_
  rintro v w1 ⟨rfl, rfl⟩
  unfold validP
  cases hok : okT tl
  · refine goS ?_
    exact at_ret1 rfl rfl ⟨rfl, he1⟩
  · refine goS ?_
    refine WO_call rfl (l1Body_all l tv tl F 4 bv F2 w1 hok (ht.ext he1) (hb.ext he1) (Nat.le_refl _)) ?_
    rintro v w2 ⟨rfl, e2⟩
    replace hs := hs.ext e2
    cases hb2 : okL tl 4 l
    · refine goS ?_
      exact at_ret1 rfl rfl ⟨rfl, he1.trans e2⟩
    · refine goS ?_
      refine WO_call rfl (l1Count_all l bv F2 30 w2 (hb.ext (he1.trans e2)) (by decide) hn) ?_
      rintro _ w3 ⟨⟨q, rfl, k1, k2, k3⟩, rfl⟩
      refine goS ?_
      refine at_ret1 rfl rfl ⟨?_, he1.trans e2⟩
      rw [Bool.true_and, Bool.true_and]
      congr 2
      rw [eq_iff_iff]
      constructor
      · intro hq
        rcases Nat.lt_or_ge 30 (cntL l) with hx | hx
        · have := k3 hx; omega
        · exact hx
      · intro hq
        have := k2 hq
        omega
def countP (tl : List Int) (l : Ss) : Int := if validP tl l then cntL l else 0
theorem validP_cnt {tl : List Int} {l : Ss} (h : validP tl l = true) : okT tl = true ∧ okL tl 4 l = true ∧ cntL l ≤ 30 := by
  unfold validP at h
  simp only [Bool.and_eq_true, decide_eq_true_eq] at h
  exact ⟨h.1, h.2.1, h.2.2⟩
end Go.Proofs.YteonnoijdnjpdaaDoor
