/-
  What is proved here: when the program's and the reference's ProgramValid and StmtValid answer true; how statements are counted; heads and tails of lists of statements, in memory; a statement of an owned row is replaced; guarded operations in regions that draw their order; parts of slices; single statements in memory; what the functions strings.Join, strconv.Itoa (of small numbers) and others of the library return in this program; each is the library contract of the kit at this program. No other condition than each theorem names.
-/
import Derived.Test.YtplcmbipeanjdaaGreatDoorM5
import Derived.Test.YtplcmbipeanjdaaGreatDoorM6
import Derived.Shelf.Strings.OnBuilder
import Derived.Shelf.Small.Strs
import Derived.Shelf.Small.Wraps
import Derived.Shelf.LaysM
import Derived.Shelf.Strconv.Itoa3
import Derived.Shelf.Strings.Cut
import Derived.Test.YtplcmbipeanjdaaGreatDoorProg
namespace Go.Proofs.YtplcmbipeanjdaaGreatDoor
set_option linter.unusedVariables false
set_option linter.unusedSimpArgs false
set_option linter.unnecessarySimpa false
open Go.RowKit

theorem IntF.small {w : World} {v : Value} {l : List Int} {F : List Nat} (h : IntF w v l F) : ∃ F', IntF w v l F' ∧ ∀ b ∈ F', b < w.heap.size := by
  obtain ⟨A, c, rfl, hl, h⟩ := h
  by_cases h0 : l = []
  · exact ⟨[], ⟨A, c, rfl, hl, .inl ⟨h0, rfl⟩⟩, by simp⟩
  · obtain ⟨h1, _⟩ | ⟨b, o, hA, hF, hc⟩ := h
    · exact absurd h1 h0
    · refine ⟨F, ⟨A, c, rfl, hl, .inr ⟨b, o, hA, hF, hc⟩⟩, fun x hx => ?_⟩
      rw [hF] at hx
      simp at hx
      subst hx
      have hp : 0 < l.length := List.length_pos_iff.2 h0
      exact World.block_lt_of_cell? _ _ (hc 0 _ (List.getElem?_eq_getElem hp))
theorem slS_small {w : World} {l : Ss} {v : Value} {F : List Nat} (h : SlV (CsAt w (encS l)) l.len v F) (ih : ∀ b o F, CsAt w (encS l) b o F → ∃ F', CsAt w (encS l) b o F' ∧ ∀ x ∈ F', x < w.heap.size) :
    ∃ F', SlV (CsAt w (encS l)) l.len v F' ∧ ∀ x ∈ F', x < w.heap.size := by
  obtain ⟨A, c, rfl, hm, h⟩ := h
  cases l with
  | nil => exact ⟨[], ⟨A, c, rfl, hm, .inl ⟨rfl, rfl⟩⟩, by simp⟩
  | cons op x y n t e r =>
    obtain ⟨h0, _⟩ | ⟨b, o, F', hA, hF, hs⟩ := h
    · simp [Ss.len] at h0
    · obtain ⟨F2, h2, h3⟩ := ih b o F' hs
      refine ⟨b :: F2, ⟨A, c, rfl, hm, .inr ⟨b, o, F2, hA, rfl, h2⟩⟩, fun z hz => ?_⟩
      rcases List.mem_cons.1 hz with rfl | hz
      · exact World.block_lt_of_cell? _ _ hs.1
      · exact h3 z hz
theorem csS_small {w : World} : ∀ (l : Ss) (b o : Nat) (F : List Nat), CsAt w (encS l) b o F → ∃ F', CsAt w (encS l) b o F' ∧ ∀ x ∈ F', x < w.heap.size
  | .nil, _, _, _, _ => ⟨[], rfl, by simp⟩
  | .cons op x y n t e r, b, o, F, ⟨h0, h1, h2, h3, vt, Ft, F1, e1, h4, hT, ve, Fe, Fr, e2, h5, hE, hr⟩ => by
    obtain ⟨Gt, t1, t2⟩ := slS_small hT (fun b o F h => csS_small t b o F h)
    obtain ⟨Ge, g1, g2⟩ := slS_small hE (fun b o F h => csS_small e b o F h)
    obtain ⟨Gr, r1, r2⟩ := csS_small r _ _ _ hr
    refine ⟨Gt ++ (Ge ++ Gr), ⟨h0, h1, h2, h3, vt, Gt, _, rfl, h4, t1, ve, Ge, Gr, rfl, h5, g1, r1⟩, fun z hz => ?_⟩
    simp only [List.mem_append] at hz
    rcases hz with hz | hz | hz
    · exact t2 z hz
    · exact g2 z hz
    · exact r2 z hz
theorem StS.small {w : World} {v : Value} {l : Ss} {F : List Nat} (h : StS w v l F) : ∃ F', StS w v l F' ∧ ∀ b ∈ F', b < w.heap.size := slS_small h (csS_small l)
theorem ProgramValid_ret (tv bv : Value) (tl : List Int) (l : Ss) (F F2 : List Nat) (w : World) (ht : IntF w tv tl F) (hb : StS w bv l F2) : Ret Tryz.prog 7 [prV tv bv] w fun v w' => v = .bool (validP tl l) ∧ Ext w w' := by
  obtain ⟨F, ht, h1⟩ := ht.small
  obtain ⟨F2, hb, h2⟩ := hb.small
  refine enter Tryz.func7 rfl Tryz.ntmps7 rfl rfl ?_
  refine Z43 (Z44 (WO_box rfl fun w1 hs he1 hz1 => ?_))
  replace hs : Blk w1 w.heap.size [tv, bv] _ := hs
  refine goS ?_
  refine WO_alloc fun w2 hk he2 hz2 => ?_
  refine WO_store1 rfl rfl rfl hk (by simp [Value.cells]) fun w3 hk3 ho3 => ?_
  replace hk3 : Blk w3 w1.heap.size [.int .i64 0] _ := hk3
  have he3 : Ext w1 w3 := he2.only ho3 (Nat.le_refl _)
  have he : Ext w w3 := he1.trans he3
  have fresh : ∀ {G : List Nat}, (∀ b ∈ G, b < w.heap.size) → w1.heap.size ∉ G := fun hG hm => by have := hG _ hm; omega
  replace hs := hs.ext he3
  refine goS ?_
  refine WO_call rfl (typesOk_ret tv tl F w3 (ht.ext he)) ?_
  rintro v w4 ⟨rfl, rfl⟩
  unfold validP
  cases okT tl
  · refine goS ?_
    exact at_ret1 rfl rfl ⟨rfl, he⟩
  · refine goS ?_
    refine WO_call rfl (scanAll_all l tv tl F 4 0 0 w1.heap.size _ F2 bv w4 (ht.ext he) (hb.ext he) (fresh h1) (fresh h2) hk3 (Nat.le_refl _) (by decide) (Int.le_refl _) (by decide)) ?_
    rintro v w5 ⟨c', rfl, _, _, _, hch⟩
    refine goS ?_
    refine at_ret1 rfl rfl ⟨?_, hch.ext_of he (by simp; have := he1.size_le; omega)⟩
    rw [Bool.true_and]
    congr 2
    rw [Bool.eq_iff_iff, decide_eq_true_eq, decide_eq_true_eq]
    omega
theorem typeOfL_range {tl : List Int} (h : okT tl = true) (v : Int) : 0 ≤ typeOfL tl v ∧ typeOfL tl v ≤ 4 := by
  unfold typeOfL
  split
  · rename_i hv
    unfold okT at h
    simp only [Bool.and_eq_true, List.all_eq_true, decide_eq_true_eq] at h
    have hlt : v.toNat < tl.length := by omega
    rw [List.getD_eq_getElem?_getD, List.getElem?_eq_getElem hlt]
    have := h.2 tl[v.toNat] (List.getElem_mem hlt)
    simp only [Option.getD_some]
    omega
  · omega
theorem l1Type_ret (tv : Value) (tl : List Int) (F : List Nat) (v : Int) (w : World) (h : IntF w tv tl F) : Ret Tryz.prog 84 [tv, .int .i64 v] w fun r w' => r = .int .i64 (typeOfL tl v) ∧ w' = w := by
  obtain ⟨A, c, rfl, hl, hx⟩ := h
  unfold maxI at hl
  refine enter Tryz.func84 rfl Tryz.ntmps84 rfl rfl ?_
  by_cases hv : 0 ≤ v ∧ v < tl.length
  · obtain ⟨m, rfl⟩ := Int.eq_ofNat_of_zero_le hv.1
    have hm : m < tl.length := by omega
    obtain ⟨b, o, rfl, rfl, hcell⟩ := int_at hx hm
    clear hx
    (refine goS ?_; repeat' (first | ((refine Z51 rfl rfl (fun c' hc' => ?_)); cases c' <;> (try simp only [decide_eq_true_eq, decide_eq_false_iff_not, beq_iff_eq, beq_eq_false_iff_ne, bne_iff_ne, bne_eq_false_iff_eq, ne_eq, gt_iff_lt, ge_iff_le, Int.not_lt, Int.not_le, Bool.not_eq_true', Bool.not_eq_false', Bool.not_true, Bool.not_false, reduceCtorEq, Decidable.not_not, not_true_eq_false, Bool.true_eq_false, Bool.false_eq_true] at hc') <;> (try (exfalso; omega)) <;> refine goS ?_) | ((refine Z52 rfl (fun hc' => ?_) (fun hc' => ?_)) <;> (try simp only [decide_eq_true_eq, decide_eq_false_iff_not, beq_iff_eq, beq_eq_false_iff_ne, bne_iff_ne, bne_eq_false_iff_eq, ne_eq, gt_iff_lt, ge_iff_le, Int.not_lt, Int.not_le, Bool.not_eq_true', Bool.not_eq_false', Bool.not_true, Bool.not_false, reduceCtorEq, Decidable.not_not, not_true_eq_false, Bool.true_eq_false, Bool.false_eq_true] at hc') <;> (try (exfalso; omega)) <;> refine goS ?_)))
    refine Z83 rfl rfl rfl hm ?_
    refine goS ?_
    refine at_ret1 rfl rfl ⟨?_, rfl⟩
    unfold typeOfL
    rw [if_pos hv, Int.toNat_natCast, List.getD_eq_getElem?_getD, List.getElem?_eq_getElem hm]
    rfl
  · clear hx
    (refine goS ?_; repeat' (first | ((refine Z51 rfl rfl (fun c' hc' => ?_)); cases c' <;> (try simp only [decide_eq_true_eq, decide_eq_false_iff_not, beq_iff_eq, beq_eq_false_iff_ne, bne_iff_ne, bne_eq_false_iff_eq, ne_eq, gt_iff_lt, ge_iff_le, Int.not_lt, Int.not_le, Bool.not_eq_true', Bool.not_eq_false', Bool.not_true, Bool.not_false, reduceCtorEq, Decidable.not_not, not_true_eq_false, Bool.true_eq_false, Bool.false_eq_true] at hc') <;> (try (exfalso; omega)) <;> refine goS ?_) | ((refine Z52 rfl (fun hc' => ?_) (fun hc' => ?_)) <;> (try simp only [decide_eq_true_eq, decide_eq_false_iff_not, beq_iff_eq, beq_eq_false_iff_ne, bne_iff_ne, bne_eq_false_iff_eq, ne_eq, gt_iff_lt, ge_iff_le, Int.not_lt, Int.not_le, Bool.not_eq_true', Bool.not_eq_false', Bool.not_true, Bool.not_false, reduceCtorEq, Decidable.not_not, not_true_eq_false, Bool.true_eq_false, Bool.false_eq_true] at hc') <;> (try (exfalso; omega)) <;> refine goS ?_)))
    all_goals
      refine at_ret1 rfl rfl ⟨?_, rfl⟩
      unfold typeOfL
      rw [if_neg hv]
theorem l1Types_ret (tv : Value) (tl : List Int) (F : List Nat) (w : World) (h : IntF w tv tl F) : Ret Tryz.prog 21 [tv] w fun v w' => v = .bool (okT tl) ∧ w' = w := by
  obtain ⟨A, c, rfl, hl, hx⟩ := h
  unfold maxI at hl
  refine enter Tryz.func21 rfl Tryz.ntmps21 rfl rfl ?_
  refine goS ?_
  refine W_loop (α := Nat) (fun i => [(0, .slice A tl.length c), (3, .int .i64 (i : Int))]) (fun i w' => i ≤ tl.length ∧ (∀ t ∈ tl.take i, 1 ≤ t ∧ t ≤ 4) ∧ w' = w) (fun i => tl.length - i) 0 (by repeat (first | exact True.intro | refine And.intro rfl ?_)) ⟨Nat.zero_le _, by simp, rfl⟩ ?_
  rintro i w1 ⟨hi, hall, rfl⟩
  refine goS ?_
  refine Z52 rfl (fun hc => ?_) (fun hc => ?_)
  · have hlt : i < tl.length := by simpa using hc
    obtain ⟨b, o, rfl, _, hcell⟩ := int_at hx hlt
    have htk : tl.take (i + 1) = tl.take i ++ [tl[i]] := List.take_succ_eq_append_getElem hlt
    have hbad : ¬ (1 ≤ tl[i] ∧ tl[i] ≤ 4) → okT tl = false := fun hn => by
      unfold okT
      rw [Bool.and_eq_false_iff]
      right
      rw [List.all_eq_false]
      exact ⟨tl[i], List.getElem_mem hlt, by simpa using hn⟩
    clear hx
    refine goS ?_
    refine Z83 rfl rfl rfl hlt ?_
    by_cases h1 : tl[i] < 1
    · (refine goS ?_; repeat' (first | ((refine Z51 rfl rfl (fun c' hc' => ?_)); cases c' <;> (try simp only [decide_eq_true_eq, decide_eq_false_iff_not, beq_iff_eq, beq_eq_false_iff_ne, bne_iff_ne, bne_eq_false_iff_eq, ne_eq, gt_iff_lt, ge_iff_le, Int.not_lt, Int.not_le, Bool.not_eq_true', Bool.not_eq_false', Bool.not_true, Bool.not_false, reduceCtorEq, Decidable.not_not, not_true_eq_false, Bool.true_eq_false, Bool.false_eq_true] at hc') <;> (try (exfalso; omega)) <;> refine goS ?_) | ((refine Z52 rfl (fun hc' => ?_) (fun hc' => ?_)) <;> (try simp only [decide_eq_true_eq, decide_eq_false_iff_not, beq_iff_eq, beq_eq_false_iff_ne, bne_iff_ne, bne_eq_false_iff_eq, ne_eq, gt_iff_lt, ge_iff_le, Int.not_lt, Int.not_le, Bool.not_eq_true', Bool.not_eq_false', Bool.not_true, Bool.not_false, reduceCtorEq, Decidable.not_not, not_true_eq_false, Bool.true_eq_false, Bool.false_eq_true] at hc') <;> (try (exfalso; omega)) <;> refine goS ?_)))
      exact at_ret1 rfl rfl ⟨by rw [hbad (by omega)], rfl⟩
    · (refine goS ?_; repeat' (first | ((refine Z51 rfl rfl (fun c' hc' => ?_)); cases c' <;> (try simp only [decide_eq_true_eq, decide_eq_false_iff_not, beq_iff_eq, beq_eq_false_iff_ne, bne_iff_ne, bne_eq_false_iff_eq, ne_eq, gt_iff_lt, ge_iff_le, Int.not_lt, Int.not_le, Bool.not_eq_true', Bool.not_eq_false', Bool.not_true, Bool.not_false, reduceCtorEq, Decidable.not_not, not_true_eq_false, Bool.true_eq_false, Bool.false_eq_true] at hc') <;> (try (exfalso; omega)) <;> refine goS ?_) | ((refine Z52 rfl (fun hc' => ?_) (fun hc' => ?_)) <;> (try simp only [decide_eq_true_eq, decide_eq_false_iff_not, beq_iff_eq, beq_eq_false_iff_ne, bne_iff_ne, bne_eq_false_iff_eq, ne_eq, gt_iff_lt, ge_iff_le, Int.not_lt, Int.not_le, Bool.not_eq_true', Bool.not_eq_false', Bool.not_true, Bool.not_false, reduceCtorEq, Decidable.not_not, not_true_eq_false, Bool.true_eq_false, Bool.false_eq_true] at hc') <;> (try (exfalso; omega)) <;> refine goS ?_)))
      refine Z83 rfl rfl rfl hlt ?_
      (refine goS ?_; repeat' (first | ((refine Z51 rfl rfl (fun c' hc' => ?_)); cases c' <;> (try simp only [decide_eq_true_eq, decide_eq_false_iff_not, beq_iff_eq, beq_eq_false_iff_ne, bne_iff_ne, bne_eq_false_iff_eq, ne_eq, gt_iff_lt, ge_iff_le, Int.not_lt, Int.not_le, Bool.not_eq_true', Bool.not_eq_false', Bool.not_true, Bool.not_false, reduceCtorEq, Decidable.not_not, not_true_eq_false, Bool.true_eq_false, Bool.false_eq_true] at hc') <;> (try (exfalso; omega)) <;> refine goS ?_) | ((refine Z52 rfl (fun hc' => ?_) (fun hc' => ?_)) <;> (try simp only [decide_eq_true_eq, decide_eq_false_iff_not, beq_iff_eq, beq_eq_false_iff_ne, bne_iff_ne, bne_eq_false_iff_eq, ne_eq, gt_iff_lt, ge_iff_le, Int.not_lt, Int.not_le, Bool.not_eq_true', Bool.not_eq_false', Bool.not_true, Bool.not_false, reduceCtorEq, Decidable.not_not, not_true_eq_false, Bool.true_eq_false, Bool.false_eq_true] at hc') <;> (try (exfalso; omega)) <;> refine goS ?_)))
      · exact at_ret1 rfl rfl ⟨by rw [hbad (by omega)], rfl⟩
      · refine at_loop (i + 1) (by repeat (first | exact True.intro | refine And.intro rfl ?_)) ⟨hlt, ?_, rfl⟩ (by omega)
        rw [htk]
        intro t ht
        rcases List.mem_append.1 ht with ht | ht
        · exact hall t ht
        · simp at ht; subst ht; omega
  · have hge : i = tl.length := by simp at hc; omega
    subst hge
    rw [List.take_length] at hall
    refine goS ?_
    refine at_ret1 rfl rfl ⟨?_, rfl⟩
    have : (tl.all fun t => decide (1 ≤ t ∧ t ≤ 4)) = true := List.all_eq_true.2 fun t ht => by simpa using hall t ht
    unfold okT
    rw [this, Bool.and_true]
    congr 1
    rw [Bool.eq_iff_iff]
    simp
    omega
set_option maxHeartbeats 2000000 in
theorem l1Simple_ret (tv : Value) (tl : List Int) (F : List Nat) (op x y n : Int) (vt ve : Value) (w : World) (h : IntF w tv tl F) (hT : okT tl = true) :
    Ret Tryz.prog 64 [tv, stV op x y n vt ve] w fun r w' => r = .bool (decide (SimpleP tl op x y n 0 0)) ∧ Ext w w' := by
  have hx := typeOfL_range hT x
  have hy := typeOfL_range hT y
  refine enter Tryz.func64 rfl Tryz.ntmps64 rfl rfl ?_
  refine Z43 (Z44 (WO_box rfl fun w1 hs e1 z1 => ?_))
  replace hs : Blk w1 w.heap.size [.int .i64 op, .int .i64 x, .int .i64 y, .int .i64 n, vt, ve] _ := hs
  refine goS ?_
  refine WO_call rfl (l1Type_ret tv tl F x w1 (h.ext e1)) ?_
  rintro _ w1 ⟨rfl, rfl⟩
  refine goS ?_
  refine WO_call rfl (l1Type_ret tv tl F y w1 (h.ext e1)) ?_
  rintro _ w1 ⟨rfl, rfl⟩
  generalize hX : typeOfL tl x = X at hx ⊢
  generalize hY : typeOfL tl y = Y at hy ⊢
  clear h
  (refine goS ?_; repeat' (first | ((refine Z51 rfl rfl (fun c' hc' => ?_)); cases c' <;> (try simp only [decide_eq_true_eq, decide_eq_false_iff_not, beq_iff_eq, beq_eq_false_iff_ne, bne_iff_ne, bne_eq_false_iff_eq, ne_eq, gt_iff_lt, ge_iff_le, Int.not_lt, Int.not_le, Bool.not_eq_true', Bool.not_eq_false', Bool.not_true, Bool.not_false, reduceCtorEq, Decidable.not_not, not_true_eq_false, Bool.true_eq_false, Bool.false_eq_true] at hc') <;> (try (exfalso; omega)) <;> refine goS ?_) | ((refine Z52 rfl (fun hc' => ?_) (fun hc' => ?_)) <;> (try simp only [decide_eq_true_eq, decide_eq_false_iff_not, beq_iff_eq, beq_eq_false_iff_ne, bne_iff_ne, bne_eq_false_iff_eq, ne_eq, gt_iff_lt, ge_iff_le, Int.not_lt, Int.not_le, Bool.not_eq_true', Bool.not_eq_false', Bool.not_true, Bool.not_false, reduceCtorEq, Decidable.not_not, not_true_eq_false, Bool.true_eq_false, Bool.false_eq_true] at hc') <;> (try (exfalso; omega)) <;> refine goS ?_)))
  all_goals refine at_ret1 rfl rfl ⟨congrArg Value.bool (bool_dec ?_), e1⟩
  all_goals unfold SimpleP
  all_goals rw [hX, hY]
  all_goals clear hs e1
  all_goals (simp only [beq_iff_eq, bne_iff_ne, decide_eq_true_eq, ne_eq, Bool.false_eq_true, false_iff, ge_iff_le, gt_iff_lt, true_and, and_true]; first | omega | (constructor <;> intro hh <;> omega))
def BdP (l : Ss) : Prop := ∀ tv tl F (d : Nat) lv Fl w, okT tl = true → IntF w tv tl F → StS w lv l Fl → d ≤ 4 → Ret Tryz.prog 22 [tv, lv, .int .i64 (d : Int)] w fun r w' => r = .bool (okL tl d l) ∧ Ext w w'
theorem l1Stmt_ret0 (tv : Value) (tl : List Int) (F : List Nat) (d : Nat) (op x y n : Int) (t e : Ss) (vt ve : Value) (Ft Fe : List Nat) (w : World) (hok : okT tl = true) (h : IntF w tv tl F) (ht : StS w vt t Ft) (he : StS w ve e Fe) (hd : d ≤ 4) (it : BdP t) (ie : BdP e) :
    Ret Tryz.prog 41 [tv, stV op x y n vt ve, .int .i64 (d : Int)] w fun r w' => r = .bool (okS tl d op x y n t e) ∧ Ext w w' := by
  obtain ⟨At, ct, rfl, hlt, _⟩ := ht.slice
  obtain ⟨Ae, ce, rfl, hle, _⟩ := he.slice
  refine enter Tryz.func41 rfl Tryz.ntmps41 rfl rfl ?_
  refine Z43 (Z44 (WO_box rfl fun w1 hs e1 z1 => ?_))
  replace hs : Blk w1 w.heap.size [.int .i64 op, .int .i64 x, .int .i64 y, .int .i64 n, .slice At t.len ct, .slice Ae e.len ce] _ := hs
  by_cases hop : op = 9 ∨ op = 10
  · have hS : okS tl d op x y n t e = (decide (d ≠ 0 ∧ x = 0 ∧ y = 0 ∧ n = 0 ∧ ¬ (op = 10 ∧ e.len ≠ 0)) && okL tl (d - 1) t && okL tl (d - 1) e) := by unfold okS; rw [if_pos hop]
    (refine goS ?_; repeat' (first | ((refine Z51 rfl rfl (fun c' hc' => ?_)); cases c' <;> (try simp only [decide_eq_true_eq, decide_eq_false_iff_not, beq_iff_eq, beq_eq_false_iff_ne, bne_iff_ne, bne_eq_false_iff_eq, ne_eq, gt_iff_lt, ge_iff_le, Int.not_lt, Int.not_le, Bool.not_eq_true', Bool.not_eq_false', Bool.not_true, Bool.not_false, reduceCtorEq, Decidable.not_not, not_true_eq_false, Bool.true_eq_false, Bool.false_eq_true] at hc') <;> (try (exfalso; omega)) <;> refine goS ?_) | ((refine Z52 rfl (fun hc' => ?_) (fun hc' => ?_)) <;> (try simp only [decide_eq_true_eq, decide_eq_false_iff_not, beq_iff_eq, beq_eq_false_iff_ne, bne_iff_ne, bne_eq_false_iff_eq, ne_eq, gt_iff_lt, ge_iff_le, Int.not_lt, Int.not_le, Bool.not_eq_true', Bool.not_eq_false', Bool.not_true, Bool.not_false, reduceCtorEq, Decidable.not_not, not_true_eq_false, Bool.true_eq_false, Bool.false_eq_true] at hc') <;> (try (exfalso; omega)) <;> refine goS ?_)))
    all_goals first
      | (refine at_ret1 rfl rfl ⟨?_, e1⟩
         rw [hS, decide_eq_false (by rintro ⟨a1, a2, a3, a4, a5⟩; first | omega | exact a5 ⟨by omega, by omega⟩), Bool.false_and, Bool.false_and]
         done)
      | skip
    all_goals
      have hdec : d ≠ 0 ∧ x = 0 ∧ y = 0 ∧ n = 0 ∧ ¬ (op = 10 ∧ e.len ≠ 0) := ⟨by omega, by omega, by omega, by omega, by rintro ⟨b1, b2⟩; omega⟩
      rw [decide_eq_true hdec, Bool.true_and] at hS
      have hd1 : (d : Int) - 1 = ((d - 1 : Nat) : Int) := by omega
      refine WO_call rfl (by rw [hd1]; exact it tv tl F (d - 1) _ Ft w1 hok (h.ext e1) (ht.ext e1) (by omega)) ?_
      rintro _ w2 ⟨rfl, e2⟩
      replace hs := hs.ext e2
      cases hb : okL tl (d - 1) t
      · refine goS ?_
        refine at_ret1 rfl rfl ⟨?_, e1.trans e2⟩
        rw [hS, hb, Bool.false_and]
      · refine goS ?_
        refine WO_call rfl (by rw [hd1]; exact ie tv tl F (d - 1) _ Fe w2 hok (h.ext (e1.trans e2)) (he.ext (e1.trans e2)) (by omega)) ?_
        rintro _ w3 ⟨rfl, e3⟩
        refine goS ?_
        refine at_ret1 rfl rfl ⟨?_, (e1.trans e2).trans e3⟩
        rw [hS, hb, Bool.true_and]
  · have hS : okS tl d op x y n t e = decide (SimpleP tl op x y n t.len e.len) := by unfold okS; rw [if_neg hop]
    have hno : (t.len ≠ 0 ∨ e.len ≠ 0) → okS tl d op x y n t e = false := fun hn => by
      rw [hS, decide_eq_false]
      rintro ⟨_, _, h3, h4, _⟩
      omega
    by_cases h0 : t.len = 0 ∧ e.len = 0
    · rw [h0.1, h0.2] at hS
      (refine goS ?_; repeat' (first | ((refine Z51 rfl rfl (fun c' hc' => ?_)); cases c' <;> (try simp only [decide_eq_true_eq, decide_eq_false_iff_not, beq_iff_eq, beq_eq_false_iff_ne, bne_iff_ne, bne_eq_false_iff_eq, ne_eq, gt_iff_lt, ge_iff_le, Int.not_lt, Int.not_le, Bool.not_eq_true', Bool.not_eq_false', Bool.not_true, Bool.not_false, reduceCtorEq, Decidable.not_not, not_true_eq_false, Bool.true_eq_false, Bool.false_eq_true] at hc') <;> (try (exfalso; omega)) <;> refine goS ?_) | ((refine Z52 rfl (fun hc' => ?_) (fun hc' => ?_)) <;> (try simp only [decide_eq_true_eq, decide_eq_false_iff_not, beq_iff_eq, beq_eq_false_iff_ne, bne_iff_ne, bne_eq_false_iff_eq, ne_eq, gt_iff_lt, ge_iff_le, Int.not_lt, Int.not_le, Bool.not_eq_true', Bool.not_eq_false', Bool.not_true, Bool.not_false, reduceCtorEq, Decidable.not_not, not_true_eq_false, Bool.true_eq_false, Bool.false_eq_true] at hc') <;> (try (exfalso; omega)) <;> refine goS ?_)))
      refine WO_loadSB rfl hs rfl ?_
      refine goS ?_
      refine WO_call rfl (l1Simple_ret tv tl F op x y n (.slice At t.len ct) (.slice Ae e.len ce) w1 (h.ext e1) hok) ?_
      rintro _ w2 ⟨rfl, e2⟩
      refine goS ?_
      exact at_ret1 rfl rfl ⟨by rw [hS], e1.trans e2⟩
    · have hn := hno (by omega)
      (refine goS ?_; repeat' (first | ((refine Z51 rfl rfl (fun c' hc' => ?_)); cases c' <;> (try simp only [decide_eq_true_eq, decide_eq_false_iff_not, beq_iff_eq, beq_eq_false_iff_ne, bne_iff_ne, bne_eq_false_iff_eq, ne_eq, gt_iff_lt, ge_iff_le, Int.not_lt, Int.not_le, Bool.not_eq_true', Bool.not_eq_false', Bool.not_true, Bool.not_false, reduceCtorEq, Decidable.not_not, not_true_eq_false, Bool.true_eq_false, Bool.false_eq_true] at hc') <;> (try (exfalso; omega)) <;> refine goS ?_) | ((refine Z52 rfl (fun hc' => ?_) (fun hc' => ?_)) <;> (try simp only [decide_eq_true_eq, decide_eq_false_iff_not, beq_iff_eq, beq_eq_false_iff_ne, bne_iff_ne, bne_eq_false_iff_eq, ne_eq, gt_iff_lt, ge_iff_le, Int.not_lt, Int.not_le, Bool.not_eq_true', Bool.not_eq_false', Bool.not_true, Bool.not_false, reduceCtorEq, Decidable.not_not, not_true_eq_false, Bool.true_eq_false, Bool.false_eq_true] at hc') <;> (try (exfalso; omega)) <;> refine goS ?_)))
      all_goals (refine at_ret1 rfl rfl ⟨?_, e1⟩; first | (rw [hn]; done) | (rw [hn]; simp; done) | (rw [hn]; simp; omega))
theorem l1Body_all (l : Ss) : BdP l := Ss.strong (fun l ih => by
  intro tv tl F d lv Fl w hok h hl hd
  obtain ⟨A, cap, rfl, hlen, _⟩ := hl.slice
  have hst := restS_start hl
  unfold maxI at hlen
  refine enter Tryz.func22 rfl Tryz.ntmps22 rfl rfl ?_
  refine goS ?_
  refine W_loop (α := Nat × Ss) (fun p => [(0, tv), (1, .slice A l.len cap), (2, .int .i64 (d : Int)), (7, .int .i64 (p.1 : Int))])
    (fun p w' => p.1 + p.2.len = l.len ∧ cntL p.2 ≤ cntL l ∧ okL tl d p.2 = okL tl d l ∧ RestS w A p.1 p.2 ∧ Ext w w') (fun p => p.2.len) (0, l) (by repeat (first | exact True.intro | refine And.intro rfl ?_)) ⟨by simp, Nat.le_refl _, rfl, hst, Ext.refl _⟩ ?_
  rintro ⟨i, r⟩ w1 ⟨hi, hcl, hokr, hr, he⟩
  simp only at hi hcl hokr hr ⊢
  refine goS ?_
  refine Z52 rfl (fun hc => ?_) (fun hc => ?_)
  · have hlt : i < l.len := by simpa using hc
    cases r with
    | nil => simp only [Ss.len] at hi; omega
    | cons op x y n t e r =>
      obtain ⟨b, o, vt, ve, Ft, Fe, rfl, hcells, hT, hE, hrest⟩ := restS_cons hr
      simp only [Ss.len, cntL] at hi hcl
      rw [okL_cons] at hokr
      refine goS ?_
      refine Z83 rfl rfl rfl hlt ?_
      refine WO_loadS rfl rfl (fun j u hu => cell_ext (hcells j u hu) he) ?_
      refine goS ?_
      refine WO_call rfl (l1Stmt_ret0 tv tl F d op x y n t e vt ve Ft Fe w1 hok (h.ext he) (hT.ext he) (hE.ext he) hd (ih t (by omega)) (ih e (by omega))) ?_
      rintro _ w2 ⟨rfl, e2⟩
      cases hb : okS tl d op x y n t e
      · rw [hb, Bool.false_and] at hokr
        refine goS ?_
        exact at_ret1 rfl rfl ⟨by rw [← hokr], he.trans e2⟩
      · rw [hb, Bool.true_and] at hokr
        refine goS ?_
        refine at_loop (i + 1, r) (by repeat (first | exact True.intro | refine And.intro rfl ?_)) ⟨by simp only; omega, by simp only; omega, hokr, hrest, he.trans e2⟩ (by simp only [Ss.len]; omega)
  · have hge : i = l.len := by simp at hc; omega
    have hr0 : r = .nil := Ss.len_zero (by omega)
    subst hr0
    refine goS ?_
    exact at_ret1 rfl rfl ⟨by rw [← hokr]; rfl, he⟩) l
def CtP (l : Ss) : Prop := ∀ lv F (most : Nat) w, StS w lv l F → most ≤ 30 → cntL l ≤ 1073741824 → Ret Tryz.prog 23 [lv, .int .i64 (most : Int)] w fun r w' => (∃ c : Nat, r = .int .i64 (c : Int) ∧ c ≤ cntL l ∧ (cntL l ≤ most → c = cntL l) ∧ (most < cntL l → most < c)) ∧ w' = w
theorem l1Count_all (l : Ss) : CtP l := Ss.strong (fun l ih => by
  intro lv F most w h hm hcb
  obtain ⟨A, cap, rfl, hlen, _⟩ := h.slice
  have hst := restS_start h
  unfold maxI at hlen
  refine enter Tryz.func23 rfl Tryz.ntmps23 rfl rfl ?_
  refine goS ?_
  refine W_loop (α := Nat × Nat × Ss) (fun p => [(0, .slice A l.len cap), (1, .int .i64 (most : Int)), (5, .int .i64 (p.2.1 : Int)), (6, .int .i64 (p.1 : Int))])
    (fun p w' => p.1 + p.2.2.len = l.len ∧ cntL p.2.2 ≤ cntL l ∧ p.2.1 + cntL p.2.2 ≤ cntL l ∧ (p.2.1 ≤ most → p.2.1 + cntL p.2.2 = cntL l) ∧ RestS w A p.1 p.2.2 ∧ w' = w) (fun p => p.2.2.len) (0, 0, l) (by repeat (first | exact True.intro | refine And.intro rfl ?_)) ⟨by simp, Nat.le_refl _, by simp, by simp, hst, rfl⟩ ?_
  rintro ⟨i, n', r⟩ w1 ⟨hi, hcl, hn1, hn2, hr, rfl⟩
  simp only at hi hcl hn1 hn2 hr ⊢
  by_cases hgo : i < l.len ∧ n' ≤ most
  · obtain ⟨hlt, hle⟩ := hgo
    have hn2 := hn2 hle
    cases r with
    | nil => simp only [Ss.len] at hi; omega
    | cons op x y n t e r =>
      obtain ⟨b, o, vt, ve, Ft, Fe, rfl, hcells, hT, hE, hrest⟩ := restS_cons hr
      have c4 := hcells 4 _ rfl
      have c5 := hcells 5 _ rfl
      simp only [Ss.len, cntL] at hi hcl hn1 hn2
      (refine goS ?_; repeat' (first | ((refine Z51 rfl rfl (fun c' hc' => ?_)); cases c' <;> (try simp only [decide_eq_true_eq, decide_eq_false_iff_not, beq_iff_eq, beq_eq_false_iff_ne, bne_iff_ne, bne_eq_false_iff_eq, ne_eq, gt_iff_lt, ge_iff_le, Int.not_lt, Int.not_le, Bool.not_eq_true', Bool.not_eq_false', Bool.not_true, Bool.not_false, reduceCtorEq, Decidable.not_not, not_true_eq_false, Bool.true_eq_false, Bool.false_eq_true] at hc') <;> (try (exfalso; omega)) <;> refine goS ?_) | ((refine Z52 rfl (fun hc' => ?_) (fun hc' => ?_)) <;> (try simp only [decide_eq_true_eq, decide_eq_false_iff_not, beq_iff_eq, beq_eq_false_iff_ne, bne_iff_ne, bne_eq_false_iff_eq, ne_eq, gt_iff_lt, ge_iff_le, Int.not_lt, Int.not_le, Bool.not_eq_true', Bool.not_eq_false', Bool.not_true, Bool.not_false, reduceCtorEq, Decidable.not_not, not_true_eq_false, Bool.true_eq_false, Bool.false_eq_true] at hc') <;> (try (exfalso; omega)) <;> refine goS ?_)))
      refine Z83 rfl rfl rfl hlt ?_
      refine goS ?_
      refine WO_call rfl (by rw [show (most : Int) - (n' : Int) = ((most - n' : Nat) : Int) from by omega]; exact ih t (by omega) vt Ft (most - n') w1 hT (by omega) (by omega)) ?_
      rintro _ w2 ⟨⟨q, rfl, k1, k2, k3⟩, rfl⟩
      by_cases hmore : n' + 1 + q ≤ most
      · have hq : q = cntL t := k2 (by omega)
        (refine goS ?_; repeat' (first | ((refine Z51 rfl rfl (fun c' hc' => ?_)); cases c' <;> (try simp only [decide_eq_true_eq, decide_eq_false_iff_not, beq_iff_eq, beq_eq_false_iff_ne, bne_iff_ne, bne_eq_false_iff_eq, ne_eq, gt_iff_lt, ge_iff_le, Int.not_lt, Int.not_le, Bool.not_eq_true', Bool.not_eq_false', Bool.not_true, Bool.not_false, reduceCtorEq, Decidable.not_not, not_true_eq_false, Bool.true_eq_false, Bool.false_eq_true] at hc') <;> (try (exfalso; omega)) <;> refine goS ?_) | ((refine Z52 rfl (fun hc' => ?_) (fun hc' => ?_)) <;> (try simp only [decide_eq_true_eq, decide_eq_false_iff_not, beq_iff_eq, beq_eq_false_iff_ne, bne_iff_ne, bne_eq_false_iff_eq, ne_eq, gt_iff_lt, ge_iff_le, Int.not_lt, Int.not_le, Bool.not_eq_true', Bool.not_eq_false', Bool.not_true, Bool.not_false, reduceCtorEq, Decidable.not_not, not_true_eq_false, Bool.true_eq_false, Bool.false_eq_true] at hc') <;> (try (exfalso; omega)) <;> refine goS ?_)))
        refine Z83 rfl rfl rfl hlt ?_
        refine goS ?_
        refine WO_call rfl (by rw [show (most : Int) - ((n' : Int) + 1 + (q : Int)) = ((most - (n' + 1 + q) : Nat) : Int) from by omega]; exact ih e (by omega) ve Fe (most - (n' + 1 + q)) w2 hE (by omega) (by omega)) ?_
        rintro _ w3 ⟨⟨q2, rfl, j1, j2, j3⟩, rfl⟩
        refine goS ?_
        refine at_loop (i + 1, n' + 1 + q + q2, r) (And.intro rfl (And.intro rfl (And.intro (congrArg (fun z => some (Value.int .i64 z)) (by simp only; omega)) (And.intro rfl trivial)))) ⟨by simp only; omega, by simp only; omega, by simp only; omega, fun hx => ?_, hrest, rfl⟩ (by simp only [Ss.len]; omega)
        simp only at hx ⊢
        have : q2 = cntL e := j2 (by omega)
        omega
      · (refine goS ?_; repeat' (first | ((refine Z51 rfl rfl (fun c' hc' => ?_)); cases c' <;> (try simp only [decide_eq_true_eq, decide_eq_false_iff_not, beq_iff_eq, beq_eq_false_iff_ne, bne_iff_ne, bne_eq_false_iff_eq, ne_eq, gt_iff_lt, ge_iff_le, Int.not_lt, Int.not_le, Bool.not_eq_true', Bool.not_eq_false', Bool.not_true, Bool.not_false, reduceCtorEq, Decidable.not_not, not_true_eq_false, Bool.true_eq_false, Bool.false_eq_true] at hc') <;> (try (exfalso; omega)) <;> refine goS ?_) | ((refine Z52 rfl (fun hc' => ?_) (fun hc' => ?_)) <;> (try simp only [decide_eq_true_eq, decide_eq_false_iff_not, beq_iff_eq, beq_eq_false_iff_ne, bne_iff_ne, bne_eq_false_iff_eq, ne_eq, gt_iff_lt, ge_iff_le, Int.not_lt, Int.not_le, Bool.not_eq_true', Bool.not_eq_false', Bool.not_true, Bool.not_false, reduceCtorEq, Decidable.not_not, not_true_eq_false, Bool.true_eq_false, Bool.false_eq_true] at hc') <;> (try (exfalso; omega)) <;> refine goS ?_)))
        refine at_loop (i + 1, n' + 1 + q, r) (And.intro rfl (And.intro rfl (And.intro (congrArg (fun z => some (Value.int .i64 z)) (by simp only; omega)) (And.intro rfl trivial)))) ⟨by simp only; omega, by simp only; omega, by simp only; omega, fun hx => ?_, hrest, rfl⟩ (by simp only [Ss.len]; omega)
        simp only at hx
        omega
  · have hfin : (∃ c : Nat, Value.int .i64 (n' : Int) = .int .i64 (c : Int) ∧ c ≤ cntL l ∧ (cntL l ≤ most → c = cntL l) ∧ (most < cntL l → most < c)) ∧ w1 = w1 := by
      refine ⟨⟨n', rfl, by omega, fun hx => ?_, fun hx => ?_⟩, rfl⟩
      · have := hn2 (by omega)
        have hr0 : r = .nil := Ss.len_zero (by omega)
        subst hr0
        simp only [cntL] at this
        omega
      · by_cases hy : n' ≤ most
        · have := hn2 hy
          have hr0 : r = .nil := Ss.len_zero (by omega)
          subst hr0
          simp only [cntL] at this
          omega
        · omega
    (refine goS ?_; repeat' (first | ((refine Z51 rfl rfl (fun c' hc' => ?_)); cases c' <;> (try simp only [decide_eq_true_eq, decide_eq_false_iff_not, beq_iff_eq, beq_eq_false_iff_ne, bne_iff_ne, bne_eq_false_iff_eq, ne_eq, gt_iff_lt, ge_iff_le, Int.not_lt, Int.not_le, Bool.not_eq_true', Bool.not_eq_false', Bool.not_true, Bool.not_false, reduceCtorEq, Decidable.not_not, not_true_eq_false, Bool.true_eq_false, Bool.false_eq_true] at hc') <;> (try (exfalso; omega)) <;> refine goS ?_) | ((refine Z52 rfl (fun hc' => ?_) (fun hc' => ?_)) <;> (try simp only [decide_eq_true_eq, decide_eq_false_iff_not, beq_iff_eq, beq_eq_false_iff_ne, bne_iff_ne, bne_eq_false_iff_eq, ne_eq, gt_iff_lt, ge_iff_le, Int.not_lt, Int.not_le, Bool.not_eq_true', Bool.not_eq_false', Bool.not_true, Bool.not_false, reduceCtorEq, Decidable.not_not, not_true_eq_false, Bool.true_eq_false, Bool.false_eq_true] at hc') <;> (try (exfalso; omega)) <;> refine goS ?_)))
    all_goals exact at_ret1 rfl rfl hfin) l
theorem sProgramValid_ret (tv bv : Value) (tl : List Int) (l : Ss) (F F2 : List Nat) (w : World) (ht : IntF w tv tl F) (hb : StS w bv l F2) (hn : cntL l ≤ 1073741824) : Ret Tryz.prog 9 [prV tv bv] w fun v w' => v = .bool (validP tl l) ∧ Ext w w' := by
  refine enter Tryz.func9 rfl Tryz.ntmps9 rfl rfl ?_
  refine Z43 (Z44 (WO_box rfl fun w1 hs he1 hz1 => ?_))
  replace hs : Blk w1 w.heap.size [tv, bv] _ := hs
  refine goS ?_
  refine WO_call rfl (l1Types_ret tv tl F w1 (ht.ext he1)) ?_
  rintro v w1 ⟨rfl, rfl⟩
  unfold validP
  cases hok : okT tl
  · refine goS ?_
    exact at_ret1 rfl rfl ⟨rfl, he1⟩
  · refine goS ?_
    refine WO_call rfl (l1Body_all l tv tl F 4 bv F2 w1 hok (ht.ext he1) (hb.ext he1) (Nat.le_refl _)) ?_
    rintro v w2 ⟨rfl, e2⟩
    replace hs := hs.ext e2
    cases hb2 : okL tl 4 l
    · refine goS ?_
      exact at_ret1 rfl rfl ⟨rfl, he1.trans e2⟩
    · refine goS ?_
      refine WO_call rfl (l1Count_all l bv F2 30 w2 (hb.ext (he1.trans e2)) (by decide) hn) ?_
      rintro _ w3 ⟨⟨q, rfl, k1, k2, k3⟩, rfl⟩
      refine goS ?_
      refine at_ret1 rfl rfl ⟨?_, he1.trans e2⟩
      rw [Bool.true_and, Bool.true_and]
      congr 2
      rw [eq_iff_iff]
      constructor
      · intro hq
        rcases Nat.lt_or_ge 30 (cntL l) with hx | hx
        · have := k3 hx; omega
        · exact hx
      · intro hq
        have := k2 hq
        omega
def countP (tl : List Int) (l : Ss) : Int := if validP tl l then cntL l else 0
theorem validP_cnt {tl : List Int} {l : Ss} (h : validP tl l = true) : okT tl = true ∧ okL tl 4 l = true ∧ cntL l ≤ 30 := by
  unfold validP at h
  simp only [Bool.and_eq_true, decide_eq_true_eq] at h
  exact ⟨h.1, h.2.1, h.2.2⟩
end Go.Proofs.YtplcmbipeanjdaaGreatDoor
namespace Go.Proofs.YtplcmbipeanjdaaGreatDoor
set_option linter.unusedVariables false
set_option linter.unusedSimpArgs false
set_option linter.unnecessarySimpa false
open Go.RowKit

def Ss.take : Nat → Ss → Ss
  | 0, _ => .nil
  | _ + 1, .nil => .nil
  | k + 1, .cons op x y n t e r => .cons op x y n t e (r.take k)
def Ss.drop : Nat → Ss → Ss
  | 0, l => l
  | _ + 1, .nil => .nil
  | k + 1, .cons _ _ _ _ _ _ r => r.drop k
theorem Ss.take_drop : ∀ (k : Nat) (l : Ss), (l.take k).app (l.drop k) = l
  | 0, _ => rfl
  | _ + 1, .nil => rfl
  | k + 1, .cons op x y n t e r => by simp [Ss.take, Ss.drop, Ss.app, Ss.take_drop k r]
theorem Ss.len_take : ∀ (k : Nat) (l : Ss), k ≤ l.len → (l.take k).len = k
  | 0, _, _ => rfl
  | k + 1, .nil, h => by simp [Ss.len] at h
  | k + 1, .cons op x y n t e r, h => by simp only [Ss.len] at h; simp [Ss.take, Ss.len, Ss.len_take k r (by omega)]
theorem Ss.len_drop : ∀ (k : Nat) (l : Ss), (l.drop k).len = l.len - k
  | 0, _ => rfl
  | k + 1, .nil => by simp [Ss.drop, Ss.len]
  | k + 1, .cons op x y n t e r => by simp [Ss.drop, Ss.len, Ss.len_drop k r]
theorem cnt_take_drop (k : Nat) (l : Ss) : cntL (l.take k) + cntL (l.drop k) = cntL l := by rw [← cntL_app, Ss.take_drop]
theorem Ss.drop_app : ∀ (d r : Ss), (d.app r).drop d.len = r
  | .nil, _ => rfl
  | .cons op x y n t e d, r => by simp [Ss.app, Ss.len, Ss.drop, Ss.drop_app d r]
theorem Ss.take_app : ∀ (d r : Ss), (d.app r).take d.len = d
  | .nil, r => by cases r <;> rfl
  | .cons op x y n t e d, r => by simp [Ss.app, Ss.len, Ss.take, Ss.take_app d r]
/-- A list around one of its statements. -/
theorem Ss.at_ {l : Ss} {k : Nat} (h : k < l.len) : ∃ op x y n t e r, l = (l.take k).app (.cons op x y n t e r) ∧ (l.take k).len = k ∧ l.drop k = .cons op x y n t e r ∧ l.drop (k + 1) = r := by
  have h1 := Ss.len_drop k l
  have h2 := Ss.take_drop k l
  have h3 : ∀ (k : Nat) (l : Ss) op x y n t e r, l.drop k = .cons op x y n t e r → l.drop (k + 1) = r := by
    intro k
    induction k with
    | zero => intro l op x y n t e r h; cases l <;> cases h; rfl
    | succ k ih =>
      intro l op x y n t e r h
      cases l with
      | nil => cases h
      | cons => exact ih _ _ _ _ _ _ _ _ h
  cases hd : l.drop k with
  | nil => rw [hd] at h1; simp only [Ss.len] at h1; omega
  | cons op x y n t e r => exact ⟨op, x, y, n, t, e, r, by rw [← hd, h2], Ss.len_take k l (by omega), rfl, h3 _ _ _ _ _ _ _ _ _ hd⟩
theorem csAt_take {w : World} : ∀ (k : Nat) (l : Ss) (b o : Nat) (F : List Nat), CsAt w (encS l) b o F → ∃ F', CsAt w (encS (l.take k)) b o F'
  | 0, _, _, _, _, _ => ⟨[], rfl⟩
  | _ + 1, .nil, _, _, _, _ => ⟨[], rfl⟩
  | k + 1, .cons op x y n t e r, b, o, F, ⟨h0, h1, h2, h3, vt, Ft, F1, e1, h4, hT, ve, Fe, Fr, e2, h5, hE, hr⟩ => by
    obtain ⟨F', h⟩ := csAt_take k r _ _ _ hr
    exact ⟨_, h0, h1, h2, h3, vt, Ft, _, rfl, h4, hT, ve, Fe, F', rfl, h5, hE, h⟩
theorem csAt_drop {w : World} : ∀ (k : Nat) (l : Ss) (b o : Nat) (F : List Nat), k ≤ l.len → CsAt w (encS l) b o F → ∃ F', CsAt w (encS (l.drop k)) b (o + k * 6) F'
  | 0, _, _, _, F, _, h => ⟨F, by rw [Nat.zero_mul, Nat.add_zero]; exact h⟩
  | k + 1, .nil, _, _, _, hk, _ => by simp [Ss.len] at hk
  | k + 1, .cons op x y n t e r, b, o, F, hk, h => by
    obtain ⟨vt, ve, Ft, Fe, Fr, _, _, _, _, hr⟩ := csAt_stmt h
    simp only [Ss.len] at hk
    obtain ⟨F', h'⟩ := csAt_drop k r b (o + 6) Fr (by omega) hr
    exact ⟨F', by rw [show o + (k + 1) * 6 = o + 6 + k * 6 from by omega]; exact h'⟩
theorem StS.take_ {w : World} {A : Option Addr} {m c : Nat} {l : Ss} {F : List Nat} (h : StS w (.slice A m c) l F) (k : Nat) (hk : k ≤ l.len) : ∃ F', StS w (.slice A k c) (l.take k) F' := by
  obtain ⟨A', c', e, ⟨hm, hmc⟩, hs⟩ := h
  cases e
  have hl := Ss.len_take k l hk
  rcases hs with ⟨h0, _⟩ | ⟨b, o, F', hA, hF, hs⟩
  · exact ⟨[], A, c, by rw [hl], ⟨by omega, by omega⟩, .inl ⟨by omega, rfl⟩⟩
  · obtain ⟨F2, h2⟩ := csAt_take k l b o F' hs
    exact ⟨_, A, c, by rw [hl], ⟨by omega, by omega⟩, .inr ⟨b, o, F2, hA, rfl, h2⟩⟩
theorem StS.drop_ {w : World} {A : Option Addr} {m c : Nat} {l : Ss} {F : List Nat} (h : StS w (.slice A m c) l F) (k : Nat) (hk : k ≤ l.len) : ∃ F', StS w (.slice (if c = k then A else A.map (·.add (k * 6))) (l.len - k) (c - k)) (l.drop k) F' := by
  obtain ⟨A', c', e, ⟨hm, hmc⟩, hs⟩ := h
  cases e
  have hl := Ss.len_drop k l
  by_cases h0 : l.len = k
  · exact ⟨[], _, c - k, by rw [hl], ⟨by omega, by omega⟩, .inl ⟨by omega, rfl⟩⟩
  · rcases hs with ⟨h1, _⟩ | ⟨b, o, F', hA, hF, hs⟩
    · omega
    · obtain ⟨F2, h2⟩ := csAt_drop k l b o F' hk hs
      subst hA
      refine ⟨_, _, c - k, by rw [hl], ⟨by omega, by omega⟩, .inr ⟨b, o + k * 6, F2, ?_, rfl, h2⟩⟩
      rw [if_neg (by omega)]
      simp [add_some]
/-- One statement of a slice, in memory. -/
theorem StS.one_ {w : World} {A : Option Addr} {m c : Nat} {l d r t e : Ss} {op x y n : Int} {F : List Nat} (h : StS w (.slice A m c) l F) (hl : l = d.app (.cons op x y n t e r)) : ∃ b o vt ve Ft Fe, A = some ⟨b, o, none⟩ ∧ m = l.len ∧
    (∀ (j : Nat) u, [Value.int .i64 op, .int .i64 x, .int .i64 y, .int .i64 n, vt, ve][j]? = some u → w.cell? ⟨b, o + d.len * 6 + j, none⟩ = some u) ∧ StS w vt t Ft ∧ StS w ve e Fe := by
  obtain ⟨A', c', e', ⟨hm, hmc⟩, hs⟩ := h
  cases e'
  have hlen : l.len = d.len + 1 + r.len := by rw [hl, Ss.len_app]; simp [Ss.len]; omega
  rcases hs with ⟨h0, _⟩ | ⟨b, o, F', hA, hF, hs⟩
  · omega
  · obtain ⟨F2, h2⟩ := csAt_drop d.len l b o F' (by omega) hs
    rw [hl, Ss.drop_app] at h2
    obtain ⟨vt, ve, Ft, Fe, Fr, _, hc, hT, hE, _⟩ := csAt_stmt h2
    exact ⟨b, o, vt, ve, Ft, Fe, hA, rfl, hc, hT, hE⟩
theorem Ss.take_succ {op x y n : Int} {t e r : Ss} : ∀ {k : Nat} {l : Ss}, l.drop k = .cons op x y n t e r → l.take (k + 1) = (l.take k).snoc op x y n t e
  | 0, .nil, h => by cases h
  | 0, .cons _ _ _ _ _ _ _, h => by cases h; cases r <;> rfl
  | k + 1, .nil, h => by cases h
  | k + 1, .cons op' x' y' n' t' e' r', h => by
    have := Ss.take_succ (k := k) (l := r') h
    simp only [Ss.take, Ss.snoc, Ss.app, Ss.one] at this ⊢
    rw [this]
/-- A statement of a row that is owned is replaced. -/
theorem RowS.put {e : TypeId} {l r t el : Ss} {op x y n : Int} {w : World} {v : Value} {F : List Nat} (h : RowS e w v (l.app (.cons op x y n t el r)) F) :
    ∃ g cap cs vt ve F1 Ft Fe F2, v = .slice (some ⟨g, 0, none⟩) (l.app (.cons op x y n t el r)).len cap ∧ F = g :: (F1 ++ (Ft ++ (Fe ++ F2))) ∧ Blk w g cs e ∧ l.len * 6 + 6 ≤ cs.length ∧
    (∀ (j : Nat) u, [Value.int .i64 op, .int .i64 x, .int .i64 y, .int .i64 n, vt, ve][j]? = some u → cs[l.len * 6 + j]? = some u) ∧ RowS e w vt t Ft ∧ RowS e w ve el Fe ∧
    ∀ w' op' x' y' n' t' el' vt' ve' Ft' Fe', Blk w' g (cs.take (0 + l.len * 6) ++ [.int .i64 op', .int .i64 x', .int .i64 y', .int .i64 n', vt', ve'] ++ cs.drop (0 + l.len * 6 + 6)) e →
      RowS e w' vt' t' Ft' → RowS e w' ve' el' Fe' → Chg [g] w w' → g ∉ F1 ++ F2 → RowS e w' v (l.app (.cons op' x' y' n' t' el' r)) (g :: (F1 ++ (Ft' ++ (Fe' ++ F2)))) := by
  obtain ⟨g, cap, cs, vt, ve, F1, Ft, Fe, F2, h1, h2, h3, h4, h5, h6, h7, hup⟩ := h.upd
  refine ⟨g, cap, cs, vt, ve, F1, Ft, Fe, F2, h1, h2, h3, h4, h5, h6, h7, fun w' op' x' y' n' t' el' vt' ve' Ft' Fe' hb hT hE hc hg => ?_⟩
  rw [Nat.zero_add] at hb
  have hlt : (cs.take (l.len * 6)).length = l.len * 6 := by rw [List.length_take]; omega
  refine hup w' _ op' x' y' n' t' el' vt' ve' Ft' Fe' [g] hb (by simp; omega) (fun p hp => ?_) (fun j u hu => ?_) hT hE hc (fun z hz hm => by simp at hm; subst hm; exact hg hz)
  · rcases hp with hp | hp
    · rw [List.append_assoc, List.getElem?_append_left (by omega), List.getElem?_take, if_pos hp]
    · rw [List.getElem?_append_right (by simp; omega), List.getElem?_drop]
      congr 1
      simp
      omega
  · have hj : j < 6 := (List.getElem?_eq_some_iff.1 hu).1
    rw [List.append_assoc, List.getElem?_append_right (by omega), hlt, show l.len * 6 + j - l.len * 6 = j from by omega, List.getElem?_append_left (by simpa using hj)]
    exact hu
/-- A change that is made, or not. -/
def chT (tl : List Int) (R : Option Ss) : List Int := if R.isSome then tl else []
def chL (R : Option Ss) : Ss := R.getD .nil
theorem chT_len (tl : List Int) (R : Option Ss) : (chT tl R).length ≤ tl.length := by unfold chT; split <;> simp
def PrO (e : TypeId) (tl : List Int) (R : Option Ss) (w : World) (r : Value) (w' : World) : Prop := PrB e (chT tl R) (chL R) R.isSome w r w'
theorem PrO.none_ {e : TypeId} {tl : List Int} {w w' : World} (he : Ext w w') : PrO e tl none w (.tuple #[prV (.slice none 0 0) (.slice none 0 0), .bool false]) w' :=
  ⟨_, _, rfl, ⟨[], [], ⟨none, 0, rfl, ⟨by simp [chT], Nat.le_refl _⟩, .inl ⟨rfl, rfl⟩⟩, RowS.nil_ e w', by simp, by simp⟩, he⟩
theorem PrO.some_ {e : TypeId} {tl : List Int} {l : Ss} {w w' : World} {tv bv : Value} {Ft Fb : List Nat} (h1 : OwnI w' tv tl Ft) (h2 : RowS e w' bv l Fb) (h3 : (Ft ++ Fb).Nodup) (h4 : ∀ b ∈ Ft ++ Fb, w.heap.size ≤ b) (he : Ext w w') : PrO e tl (some l) w (.tuple #[prV tv bv, .bool true]) w' := by
  refine ⟨tv, bv, rfl, ⟨Ft, Fb, h1, h2, h3, fun b hb => ⟨h4 b hb, ?_⟩⟩, he⟩
  rcases List.mem_append.1 hb with hb | hb
  · exact h1.lt b hb
  · exact h2.lt b hb
/-- The statement behind a store is a load of the same variable: it becomes a move. -/
def fwdAt : Ss → Option Ss
  | .cons op x y n t e (.cons op' x' y' _ _ _ r) => if op = 7 ∧ op' = 6 ∧ y' = x ∧ x' ≠ y then some (.cons op x y n t e (.cons 3 x' y 0 .nil .nil r)) else none
  | _ => none
def fwdR (tl : List Int) (l : Ss) (k : Int) : Option Ss := if validP tl l = true ∧ 0 ≤ k then (fwdAt (l.drop k.toNat)).map (fun z => (l.take k.toNat).app z) else none
theorem fwdR_cnt (tl : List Int) (l : Ss) (k : Int) : cntL (chL (fwdR tl l k)) ≤ cntL l := by
  unfold fwdR chL
  split
  · cases hd : l.drop k.toNat with
    | nil => simp [fwdAt, cntL]
    | cons op x y n t e r =>
      cases r with
      | nil => simp [fwdAt, cntL]
      | cons op' x' y' n' t' e' r =>
        have := cnt_take_drop k.toNat l
        rw [hd] at this
        simp only [fwdAt]
        split
        · simp only [Option.map_some, Option.getD_some, cntL_app, cntL] at *
          omega
        · simp [cntL]
  · simp [cntL]
theorem fwdR_none {tl : List Int} {l : Ss} {k : Int} (hyes : ¬ (validP tl l = true ∧ 0 ≤ k ∧ k ≤ (l.len : Int) - 2)) : fwdR tl l k = none := by
  unfold fwdR
  by_cases hv : validP tl l = true ∧ 0 ≤ k
  · rw [if_pos hv]
    have hd : (l.drop k.toNat).len ≤ 1 := by
      rw [Ss.len_drop]
      have : ¬ (k ≤ (l.len : Int) - 2) := fun h => hyes ⟨hv.1, hv.2, h⟩
      omega
    cases hq : l.drop k.toNat with
    | nil => rfl
    | cons op x y n t e r =>
      cases r with
      | nil => rfl
      | cons op' x' y' n' t' e' r' => rw [hq] at hd; simp [Ss.len] at hd
  · rw [if_neg hv]
theorem fwdR_some {tl : List Int} {l : Ss} {i : Nat} {op x y n op' x' y' n' : Int} {t e r t' e' r' : Ss} (hv : validP tl l = true) (q3 : l.drop i = .cons op x y n t e r) (hr2 : r = .cons op' x' y' n' t' e' r') :
    fwdR tl l (i : Int) = (if op = 7 ∧ op' = 6 ∧ y' = x ∧ x' ≠ y then some ((l.take i).app (.cons op x y n t e (.cons 3 x' y 0 .nil .nil r'))) else none) := by
  unfold fwdR
  rw [if_pos ⟨hv, by omega⟩, Int.toNat_natCast, q3, hr2]
  simp only [fwdAt]
  split <;> rfl
/-- Two statements of the argument in blocks of their own. -/
def TwoIn (e : TypeId) (d1 d2 : Nat) (base : Env) (u1 u2 : List Value) (w : World) (τ : Env) (w' : World) : Prop :=
  ∃ a1 a2, τ = (d1, .pointer (some ⟨a1, 0, none⟩)) :: (d2, .pointer (some ⟨a2, 0, none⟩)) :: base ∧ Blk w' a1 u1 e ∧ Blk w' a2 u2 e ∧ Ext w w'
end Go.Proofs.YtplcmbipeanjdaaGreatDoor
namespace Go.Proofs.YtplcmbipeanjdaaGreatDoor
set_option linter.unusedVariables false
set_option linter.unusedSimpArgs false
set_option linter.unnecessarySimpa false
open Go.RowKit

section
variable {P : Program} {n : Nat} {ops : List Oper} {τ σ : Env} {T : Env → World → Prop} {S : World → Prop} {fuel : Nat} {listed : List Bool} {w w0 : World} {v : Value} {G : List Nat}
/-- A guarded operation whose guard is met is taken. -/
theorem WX_takeG (i : Nat) {d j s : Nat} {b c : Bool} {op : Op} {ty : TypeId} {pos : String} {af : Array Edge} (hi : ops[i]? = some ⟨some d, op, ty, pos, af, some (j, b)⟩) (hs : Region.noSelect ops.toArray = true) (hf : Region.free .any ops.toArray listed.toArray i = true)
    (hr : (Region.ready .any ops.toArray listed.toArray).contains i = true) (hS : Chg G w0 w) (hj : (ops.toArray[j]?).bind (·.dst) = some s) (hv : look σ s = some (.bool c)) (hc : c = b)
    (hd : ∀ w', Chg G w0 w' → DoesQ P ⟨some d, op, ty, pos, af, some (j, b)⟩ σ w' v) (h : WH P n ops T (Chg G w0) fuel (listed.set i true) ((d, v) :: σ) w) : WH P n ops T (Chg G w0) (fuel + 1) listed σ w := by
  refine ⟨fun hok a hfit => ?_⟩
  have hi' : ops.toArray[i]? = some ⟨some d, op, ty, pos, af, some (j, b)⟩ := by simpa using hi
  have hdst : dstOk n ⟨some d, op, ty, pos, af, some (j, b)⟩ = true := List.all_eq_true.1 hok _ (List.mem_of_getElem? hi)
  have hw : Region.wanted ⟨some d, op, ty, pos, af, some (j, b)⟩ (yielded ops.toArray a.tmps) = true := (wanted_of (o := ⟨some d, op, ty, pos, af, some (j, b)⟩) hfit rfl hj hv).trans (by subst hc; cases c <;> rfl)
  refine wpAnyH_take hi' hs hf hr meets_no (.inl ⟨hw, fun w' hw' => ((hd w' hw').run w' (Ext.refl w')).run n a hfit⟩) hS ?_
  have := h.run hok _ (hfit.put (o := ⟨some d, op, ty, pos, af, some (j, b)⟩) v hdst)
  simpa using this
/-- A guarded operation whose guard is not met is passed over. -/
theorem WX_skipG (i : Nat) {d j s : Nat} {b c : Bool} {op : Op} {ty : TypeId} {pos : String} {af : Array Edge} (hi : ops[i]? = some ⟨some d, op, ty, pos, af, some (j, b)⟩) (hs : Region.noSelect ops.toArray = true) (hf : Region.free .any ops.toArray listed.toArray i = true)
    (hr : (Region.ready .any ops.toArray listed.toArray).contains i = true) (hS : Chg G w0 w) (hj : (ops.toArray[j]?).bind (·.dst) = some s) (hv : look σ s = some (.bool c)) (hc : c = !b)
    (h : WH P n ops T (Chg G w0) fuel (listed.set i true) ((d, undef) :: σ) w) : WH P n ops T (Chg G w0) (fuel + 1) listed σ w := by
  refine ⟨fun hok a hfit => ?_⟩
  have hi' : ops.toArray[i]? = some ⟨some d, op, ty, pos, af, some (j, b)⟩ := by simpa using hi
  have hdst : dstOk n ⟨some d, op, ty, pos, af, some (j, b)⟩ = true := List.all_eq_true.1 hok _ (List.mem_of_getElem? hi)
  have hw : Region.wanted ⟨some d, op, ty, pos, af, some (j, b)⟩ (yielded ops.toArray a.tmps) = false := (wanted_of (o := ⟨some d, op, ty, pos, af, some (j, b)⟩) hfit rfl hj hv).trans (by subst hc; cases b <;> rfl)
  refine wpAnyH_take hi' hs hf hr meets_no (.inr ⟨hw, rfl⟩) hS ?_
  have := h.run hok _ (hfit.put (o := ⟨some d, op, ty, pos, af, some (j, b)⟩) undef hdst)
  simpa using this
end
section
variable {P : Program} {σ : Env} {w : World} {d : Nat} {ty : TypeId} {pos : String} {af : Array Edge} {x y z : Operand}
/-- s[l:h] of a slice. -/
theorem q_slMid {g : Option (Nat × Bool)} {t e k len cap l h : Nat} {A : Option Addr} {i j : Int} [TSl P t e k] (hx : ev σ x = some (.slice A len cap)) (hy : ev σ y = some (.int .i64 i)) (hz : ev σ z = some (.int .i64 j)) (hi : i = (l : Int)) (hj : j = (h : Int)) (hl : l ≤ h) (hh : h ≤ cap) :
    DoesQ P ⟨some d, .slice t x (some y) (some z) none, ty, pos, af, g⟩ σ w (.slice (if cap = l then A else A.map (·.add (l * k))) (h - l) (cap - l)) := ⟨fun w2 he => ⟨fun m c hf => by
  subst hi; subst hj
  have h1 : (l : Int) ≤ (h : Int) := by omega
  have h2 : ¬ h < l := by omega
  have h3 : (h : Int) ≤ (cap : Int) := by omega
  have h4 : ¬ cap < h := by omega
  simp [execOp, fits_ev hf hx, fits_ev hf hy, fits_ev hf hz, Instr.sliceAt, Instr.slice, run_underlying (TSl.und (P := P) (t := t) (e := e) (k := k)), Instr.sliceBounds, Instr.sliceBound, asIntOf, h1, h2, h3, h4, hl, hh, TSl.run_sizeOf (P := P) (t := t) (e := e) (k := k) inferInstance]⟩⟩
end
/-- Some statements of a slice. -/
theorem StS.mid_ {w : World} {A : Option Addr} {m c : Nat} {l : Ss} {F : List Nat} (h : StS w (.slice A m c) l F) {j i : Nat} (hj : j ≤ i) (hi : i ≤ l.len) : ∃ F', StS w (.slice (if c = j then A else A.map (·.add (j * 6))) (i - j) (c - j)) ((l.drop j).take (i - j)) F' := by
  obtain ⟨F1, h1⟩ := h.drop_ j (by omega)
  exact h1.take_ (i - j) (by rw [Ss.len_drop]; omega)
/-- One statement, in memory. -/
theorem one_sts {w : World} {b o c : Nat} {op x y n : Int} {t e : Ss} {vt ve : Value} {Ft Fe : List Nat} (hc : ∀ (j : Nat) u, [Value.int .i64 op, .int .i64 x, .int .i64 y, .int .i64 n, vt, ve][j]? = some u → w.cell? ⟨b, o + j, none⟩ = some u) (hT : StS w vt t Ft) (hE : StS w ve e Fe) (h1 : 1 ≤ c) :
    StS w (.slice (some ⟨b, o, none⟩) 1 c) (Ss.one op x y n t e) (b :: (Ft ++ (Fe ++ []))) :=
  ⟨_, c, rfl, ⟨by unfold maxI; simp [Ss.one, Ss.len], h1⟩, .inr ⟨_, o, _, rfl, rfl, hc 0 _ rfl, hc 1 _ rfl, hc 2 _ rfl, hc 3 _ rfl, vt, Ft, _, rfl, hc 4 _ rfl, hT, ve, Fe, [], rfl, hc 5 _ rfl, hE, rfl⟩⟩
theorem blk_cells {w : World} {b : Nat} {cs : List Value} {ty : TypeId} (hb : Blk w b cs ty) : ∀ (j : Nat) u, cs[j]? = some u → w.cell? ⟨b, 0 + j, none⟩ = some u := fun j u hu => by rw [Nat.zero_add]; exact hb.cell hu
theorem stk_one {e : TypeId} {w : World} {op x y n : Int} {t el : Ss} {vt ve : Value} {Ft Fe : List Nat} (h1 : RowS e w vt t Ft) (h2 : RowS e w ve el Fe) : StkS e w (Ss.one op x y n t el) [.int .i64 op, .int .i64 x, .int .i64 y, .int .i64 n, vt, ve] (Ft ++ Fe) := by
  have := StkS.mk (op := op) (x := x) (y := y) (n := n) h1 h2 (r := .nil) (xr := []) (Fr := []) ⟨rfl, rfl⟩
  rwa [List.append_nil] at this
theorem row_cells {B e k m : Nat} {w : World} {v : Value} {xs : List Value} (h : w.ownsRow B e k v m xs) (h0 : 0 < m) : ∃ g cap, v = .slice (some ⟨g, 0, none⟩) m cap ∧ ∀ j u, xs[j]? = some u → w.cell? ⟨g, 0 + j, none⟩ = some u := by
  obtain ⟨hl, ⟨h3, hm⟩ | ⟨g, cap, cur, h3, hB, hg, hnc, hm, hcs, ht⟩⟩ := h
  · omega
  · refine ⟨g, cap, h3, fun j u hu => ?_⟩
    rw [← ht, List.getElem?_take] at hu
    split at hu
    · have hb : Blk w g cur.toList e := by simpa [Blk] using hg
      rw [Nat.zero_add]
      exact hb.cell hu
    · cases hu
end Go.Proofs.YtplcmbipeanjdaaGreatDoor
namespace Go.Proofs
open Go.Shelf
def Tryz.lays156_ren : Go.Shelf.Ren := ⟨fun | 156 => 53 | 165 => 72 | 166 => 73 | 169 => 74 | 240 => 86 | 241 => 87 | 276 => 92 | 277 => 93 | n => n, fun | 31 => 53 | 9 => 9 | 3 => 3 | 4 => 4 | 0 => 0 | 20 => 20 | 72 => 95 | 76 => 99 | 70 => 93 | 37 => 22 | 75 => 98 | 127 => 105 | 164 => 111 | 5 => 5 | 80 => 101 | n => n, fun | n => n⟩
theorem Tryz.lays156 : Go.Proofs.Lays.n156 Tryz.prog Tryz.lays156_ren := {
  mixed := by kernel_rfl
  f156 := Tryz.func53.trans (congrArg some (by kernel_rfl))
  f165 := Tryz.func72.trans (congrArg some (by kernel_rfl))
  f166 := Tryz.func73.trans (congrArg some (by kernel_rfl))
  f169 := Tryz.func74.trans (congrArg some (by kernel_rfl))
  f240 := Tryz.func86.trans (congrArg some (by kernel_rfl))
  f241 := Tryz.func87.trans (congrArg some (by kernel_rfl))
  f276 := Tryz.func92.trans (congrArg some (by kernel_rfl))
  f277 := Tryz.func93.trans (congrArg some (by kernel_rfl))
  t0 := Tryz.underlying0
  a0 := Tryz.isAgg0
  z0 := Tryz.sizeOf0
  v0 := Tryz.zeroValue0
  t3 := Tryz.underlying3
  a3 := Tryz.isAgg3
  z3 := Tryz.sizeOf3
  v3 := Tryz.zeroValue3
  t4 := Tryz.underlying4
  a4 := Tryz.isAgg4
  z4 := Tryz.sizeOf4
  v4 := Tryz.zeroValue4
  t9 := Tryz.underlying9
  a9 := Tryz.isAgg9
  z9 := Tryz.sizeOf9
  v9 := Tryz.zeroValue9
  t20 := Tryz.underlying20
  a20 := Tryz.isAgg20
  z20 := Tryz.sizeOf20
  v20 := Tryz.zeroValue20
  t31 := Tryz.underlying53
  a31 := Tryz.isAgg53
  z31 := Tryz.sizeOf53
  v31 := Tryz.zeroValue53
  t37 := Tryz.underlying22
  a37 := Tryz.isAgg22
  z37 := Tryz.sizeOf22
  v37 := Tryz.zeroValue22
  t70 := Tryz.underlying93
  a70 := Tryz.isAgg93
  z70 := Tryz.sizeOf93
  v70 := Tryz.zeroValue93
  t72 := Tryz.underlying95
  a72 := Tryz.isAgg95
  z72 := Tryz.sizeOf95
  v72 := Tryz.zeroValue95
  t75 := Tryz.underlying98
  a75 := Tryz.isAgg98
  z75 := Tryz.sizeOf98
  v75 := Tryz.zeroValue98
  t76 := Tryz.underlying99
  a76 := Tryz.isAgg99
  z76 := Tryz.sizeOf99
  v76 := Tryz.zeroValue99
  t127 := Tryz.underlying105
  a127 := Tryz.isAgg105
  z127 := Tryz.sizeOf105
  v127 := Tryz.zeroValue105
  t164 := Tryz.underlying111
  a164 := Tryz.isAgg111
  z164 := Tryz.sizeOf111
  v164 := Tryz.zeroValue111 }
theorem Tryz.Builder_Extra_156 : Builder.Extra Tryz.prog Tryz.lays156_ren := {
  sizeBuilder := by kernel_rfl
  liesBuilder := by kernel_rfl
  t5 := Tryz.underlying5
  a5 := Tryz.isAgg5
  z5 := Tryz.sizeOf5
  v5 := Tryz.zeroValue5
  infoByte := by kernel_rfl
  cellsByte := by kernel_rfl
  sizeByte := by kernel_rfl
  neB5 := by decide }
open Go.RowKit in
/-- No element: the empty string; the world is as it was. (Whatever the slice's address and capacity: a nil slice too.) (LAID: no walk: one application.) -/
theorem Tryz.strings_Join_none (a : Option Addr) (c : Nat) (sep : ByteArray) (w : World) :
    Calls Tryz.prog 53 #[.slice a 0 c, .string sep] w fun e w' => e = .returned (.string ⟨#[]⟩) ∧ w' = w := Any.strings_Join_none Tryz.lays156 Tryz.Builder_Extra_156 a c sep w
open Go.RowKit in
/-- strings.Join: "Join concatenates the elements of its first argument to create a single string. The separator string sep is placed between elements in the resulting string.": HOWEVER MANY ELEMENTS. Below the heap's end the world is as it was. (LAID: no walk: one application.) -/
theorem Tryz.strings_Join (bk o c : Nat) (xs : List ByteArray) (sep : ByteArray) (w : World) (hcells : ∀ (j : Nat) x, xs[j]? = some x → w.cell? ⟨bk, o + j, none⟩ = some (.string x)) (hbk : bk < w.heap.size) (hN : xs.length ≤ 140737488355328) (hcap : xs.length ≤ c) (hlen : (Lib.join (xs.map (·.data.toList)) sep.data.toList).length ≤ 140737488355328) :
    Calls Tryz.prog 53 #[.slice (some ⟨bk, o, none⟩) xs.length c, .string sep] w fun e w' => e = .returned (.string ⟨(Lib.join (xs.map (·.data.toList)) sep.data.toList).toArray⟩) ∧ Below w.heap.size w w' := Any.strings_Join Tryz.lays156 Tryz.Builder_Extra_156 bk o c xs sep w hcells hbk hN hcap hlen
def Tryz.lays137_ren : Go.Shelf.Ren := ⟨fun | 137 => 16 | 217 => 33 | 266 => 55 | n => n, fun | 9 => 9 | 5 => 5 | 3 => 3 | n => n, fun | n => n⟩
theorem Tryz.lays137 : Go.Proofs.Lays.n137 Tryz.prog Tryz.lays137_ren := {
  mixed := by kernel_rfl
  f137 := Tryz.func16.trans (congrArg some (by kernel_rfl))
  f217 := Tryz.func33.trans (congrArg some (by kernel_rfl))
  f266 := Tryz.func55.trans (congrArg some (by kernel_rfl))
  t3 := Tryz.underlying3
  a3 := Tryz.isAgg3
  z3 := Tryz.sizeOf3
  v3 := Tryz.zeroValue3
  t5 := Tryz.underlying5
  a5 := Tryz.isAgg5
  z5 := Tryz.sizeOf5
  v5 := Tryz.zeroValue5
  t9 := Tryz.underlying9
  a9 := Tryz.isAgg9
  z9 := Tryz.sizeOf9
  v9 := Tryz.zeroValue9 }
open Go.RowKit in
/-- strings.IndexByte: "IndexByte returns the index of the first instance of c in s, or -1 if c is not present in s.": IT RETURNS 'Lib.indexByte s c'; the world is as it was. (LAID: no walk: one application.) -/
theorem Tryz.strings_IndexByte (s : ByteArray) (c : Int) (w : World) :
    Calls Tryz.prog 16 #[.string s, .int .u8 c] w fun e w' => e = .returned (.int .i64 (Lib.indexByte s.data.toList c.toNat.toUInt8)) ∧ w' = w := Any.strings_IndexByte Tryz.lays137 s c w
def Tryz.lays103_ren : Go.Shelf.Ren := ⟨fun | 103 => 59 | 210 => 79 | 206 => 89 | n => n, fun | 9 => 9 | 4 => 4 | 24 => 85 | 3 => 3 | n => n, fun | n => n⟩
theorem Tryz.lays103 : Go.Proofs.Lays.n103 Tryz.prog Tryz.lays103_ren := {
  mixed := by kernel_rfl
  f103 := Tryz.func59.trans (congrArg some (by kernel_rfl))
  f206 := Tryz.func89.trans (congrArg some (by kernel_rfl))
  f210 := Tryz.func79.trans (congrArg some (by kernel_rfl))
  t3 := Tryz.underlying3
  a3 := Tryz.isAgg3
  z3 := Tryz.sizeOf3
  v3 := Tryz.zeroValue3
  t4 := Tryz.underlying4
  a4 := Tryz.isAgg4
  z4 := Tryz.sizeOf4
  v4 := Tryz.zeroValue4
  t9 := Tryz.underlying9
  a9 := Tryz.isAgg9
  z9 := Tryz.sizeOf9
  v9 := Tryz.zeroValue9
  t24 := Tryz.underlying85
  a24 := Tryz.isAgg85
  z24 := Tryz.sizeOf85
  v24 := Tryz.zeroValue85 }
open Go.RowKit in
/-- strings.CutPrefix: "CutPrefix returns s without the provided leading prefix string and reports whether it found the prefix. If s doesn't start with prefix, CutPrefix returns s, false. If prefix is the empty string, CutPrefix returns s, true.": IT RETURNS '(Lib.trimPrefix s p, Lib.hasPrefix s p)'; the world is as it was. (LAID: no walk: one application.) -/
theorem Tryz.strings_CutPrefix (s p : ByteArray) (w : World) :
    Calls Tryz.prog 59 #[.string s, .string p] w fun e w' => e = .returned (.tuple #[.string ⟨(Lib.trimPrefix s.data.toList p.data.toList).toArray⟩, .bool (Lib.hasPrefix s.data.toList p.data.toList)]) ∧ w' = w := Any.strings_CutPrefix Tryz.lays103 s p w
def Tryz.lays171_ren : Go.Shelf.Ren := ⟨fun | 171 => 71 | 243 => 85 | 246 => 91 | 283 => 94 | 284 => 95 | 285 => 96 | 286 => 97 | 129 => 99 | 317 => 98 | 318 => 100 | 319 => 101 | 320 => 102 | 337 => 103 | 338 => 104 | n => n, fun | 3 => 3 | 9 => 9 | 2 => 2 | 4 => 4 | 171 => 114 | 0 => 0 | 53 => 115 | 37 => 22 | 5 => 5 | 173 => 118 | 212 => 121 | 51 => 106 | 20 => 20 | 213 => 122 | 46 => 102 | 232 => 125 | 233 => 126 | n => n, fun | 17 => 1 | 18 => 2 | 19 => 3 | n => n⟩
theorem Tryz.lays171 : Go.Proofs.Lays.n171 Tryz.prog Tryz.lays171_ren := {
  mixed := by kernel_rfl
  f129 := Tryz.func99.trans (congrArg some (by kernel_rfl))
  f171 := Tryz.func71.trans (congrArg some (by kernel_rfl))
  f243 := Tryz.func85.trans (congrArg some (by kernel_rfl))
  f246 := Tryz.func91.trans (congrArg some (by kernel_rfl))
  f283 := Tryz.func94.trans (congrArg some (by kernel_rfl))
  f284 := Tryz.func95.trans (congrArg some (by kernel_rfl))
  f285 := Tryz.func96.trans (congrArg some (by kernel_rfl))
  f286 := Tryz.func97.trans (congrArg some (by kernel_rfl))
  f317 := Tryz.func98.trans (congrArg some (by kernel_rfl))
  f318 := Tryz.func100.trans (congrArg some (by kernel_rfl))
  f319 := Tryz.func101.trans (congrArg some (by kernel_rfl))
  f320 := Tryz.func102.trans (congrArg some (by kernel_rfl))
  f337 := Tryz.func103.trans (congrArg some (by kernel_rfl))
  f338 := Tryz.func104.trans (congrArg some (by kernel_rfl))
  t0 := Tryz.underlying0
  a0 := Tryz.isAgg0
  z0 := Tryz.sizeOf0
  v0 := Tryz.zeroValue0
  t2 := Tryz.underlying2
  a2 := Tryz.isAgg2
  z2 := Tryz.sizeOf2
  v2 := Tryz.zeroValue2
  t3 := Tryz.underlying3
  a3 := Tryz.isAgg3
  z3 := Tryz.sizeOf3
  v3 := Tryz.zeroValue3
  t4 := Tryz.underlying4
  a4 := Tryz.isAgg4
  z4 := Tryz.sizeOf4
  v4 := Tryz.zeroValue4
  t5 := Tryz.underlying5
  a5 := Tryz.isAgg5
  z5 := Tryz.sizeOf5
  v5 := Tryz.zeroValue5
  t9 := Tryz.underlying9
  a9 := Tryz.isAgg9
  z9 := Tryz.sizeOf9
  v9 := Tryz.zeroValue9
  t20 := Tryz.underlying20
  a20 := Tryz.isAgg20
  z20 := Tryz.sizeOf20
  v20 := Tryz.zeroValue20
  t37 := Tryz.underlying22
  a37 := Tryz.isAgg22
  z37 := Tryz.sizeOf22
  v37 := Tryz.zeroValue22
  t46 := Tryz.underlying102
  a46 := Tryz.isAgg102
  z46 := Tryz.sizeOf102
  v46 := Tryz.zeroValue102
  t51 := Tryz.underlying106
  a51 := Tryz.isAgg106
  z51 := Tryz.sizeOf106
  v51 := Tryz.zeroValue106
  t53 := Tryz.underlying115
  a53 := Tryz.isAgg115
  z53 := Tryz.sizeOf115
  v53 := Tryz.zeroValue115
  t171 := Tryz.underlying114
  a171 := Tryz.isAgg114
  z171 := Tryz.sizeOf114
  v171 := Tryz.zeroValue114
  t173 := Tryz.underlying118
  a173 := Tryz.isAgg118
  z173 := Tryz.sizeOf118
  v173 := Tryz.zeroValue118
  t212 := Tryz.underlying121
  a212 := Tryz.isAgg121
  z212 := Tryz.sizeOf121
  v212 := Tryz.zeroValue121
  t213 := Tryz.underlying122
  a213 := Tryz.isAgg122
  z213 := Tryz.sizeOf122
  t232 := Tryz.underlying125
  a232 := Tryz.isAgg125
  z232 := Tryz.sizeOf125
  v232 := Tryz.zeroValue125
  t233 := Tryz.underlying126
  a233 := Tryz.isAgg126
  z233 := Tryz.sizeOf126
  v233 := Tryz.zeroValue126
  g17 := by kernel_rfl
  g18 := by kernel_rfl
  g19 := by kernel_rfl }
open Go.RowKit Go.Sort Go.Lib in
/-- THE ROAD WITHOUT THE TABLE: 0 <= i < 100: NO PREMISE ON THE WORLD, AND THE WORLD IS AS IT WAS: a row that keeps its argument in that range need list no table ('laid = []'). (LAID: no walk: one application.) -/
theorem Tryz.strconv_Itoa_small (i : Nat) (hi : i < 100) (w : World) :
    Calls Tryz.prog 71 #[.int .i64 i] w fun e w' => e = .returned (.string ⟨(Lib.decDigits i).toArray⟩) ∧ w' = w := Any.strconv_Itoa_small Tryz.lays171 i hi w
def Tryz.lays145_ren : Go.Shelf.Ren := ⟨fun | 145 => 15 | 220 => 32 | 219 => 54 | 217 => 33 | 225 => 75 | 224 => 76 | 267 => 77 | 266 => 55 | 314 => 88 | n => n, fun | 9 => 9 | 4 => 4 | 59 => 35 | 3 => 3 | 5 => 5 | 46 => 102 | 146 => 107 | 51 => 106 | n => n, fun | 1 => 0 | n => n⟩
theorem Tryz.lays145 : Go.Proofs.Lays.n145 Tryz.prog Tryz.lays145_ren := {
  mixed := by kernel_rfl
  f145 := Tryz.func15.trans (congrArg some (by kernel_rfl))
  f217 := Tryz.func33.trans (congrArg some (by kernel_rfl))
  f219 := Tryz.func54.trans (congrArg some (by kernel_rfl))
  f220 := Tryz.func32.trans (congrArg some (by kernel_rfl))
  f224 := Tryz.func76.trans (congrArg some (by kernel_rfl))
  f225 := Tryz.func75.trans (congrArg some (by kernel_rfl))
  f266 := Tryz.func55.trans (congrArg some (by kernel_rfl))
  f267 := Tryz.func77.trans (congrArg some (by kernel_rfl))
  f314 := Tryz.func88.trans (congrArg some (by kernel_rfl))
  t3 := Tryz.underlying3
  a3 := Tryz.isAgg3
  z3 := Tryz.sizeOf3
  v3 := Tryz.zeroValue3
  t4 := Tryz.underlying4
  a4 := Tryz.isAgg4
  z4 := Tryz.sizeOf4
  v4 := Tryz.zeroValue4
  t5 := Tryz.underlying5
  a5 := Tryz.isAgg5
  z5 := Tryz.sizeOf5
  v5 := Tryz.zeroValue5
  t9 := Tryz.underlying9
  a9 := Tryz.isAgg9
  z9 := Tryz.sizeOf9
  v9 := Tryz.zeroValue9
  t46 := Tryz.underlying102
  a46 := Tryz.isAgg102
  z46 := Tryz.sizeOf102
  v46 := Tryz.zeroValue102
  t51 := Tryz.underlying106
  a51 := Tryz.isAgg106
  z51 := Tryz.sizeOf106
  v51 := Tryz.zeroValue106
  t59 := Tryz.underlying35
  a59 := Tryz.isAgg35
  z59 := Tryz.sizeOf35
  v59 := Tryz.zeroValue35
  t146 := Tryz.underlying107
  a146 := Tryz.isAgg107
  z146 := Tryz.sizeOf107
  v146 := Tryz.zeroValue107
  g1 := by kernel_rfl }
open Go.RowKit Go.Lib in
/-- strings.Cut: "Cut slices s around the first instance of sep, returning the text before and after sep. The found result reports whether sep appears in s. If sep does not appear in s, cut returns s, "", false.": IT RETURNS 'Lib.cut s sep'; the world is as it was but for the count of draws. (LAID: no walk: one application.) -/
theorem Tryz.strings_Cut (s sep : ByteArray) (m : Int) (w : World) (hs : s.size < 4294967281) (hm : w.cell? ⟨0, 0, none⟩ = some (.int .i64 m)) :
    Calls Tryz.prog 15 #[.string s, .string sep] w fun e w' => e = .returned (.tuple #[.string ⟨(Lib.cut s.data.toList sep.data.toList).1.toArray⟩, .string ⟨(Lib.cut s.data.toList sep.data.toList).2.1.toArray⟩, .bool (Lib.cut s.data.toList sep.data.toList).2.2]) ∧ ∃ n, w' = w.drewN n := Any.strings_Cut Tryz.lays145 s sep m w hs hm
end Go.Proofs
