/-
  What is proved here: the laws VarsParts and VarsOf on drawn statements.
-/
import Derived.Test.YtplcmbipeanjdaaDrS
import Derived.Test.YtplcmbipeanjdaaSv
import Derived.Test.YtplcmbipeanjdaaVrP
namespace Go.Proofs.Ytplcmbipeanjdaa
set_option linter.unusedVariables false
set_option linter.unusedSimpArgs false
set_option linter.unnecessarySimpa false
open Go.RowKit

theorem DrawVarsOf_ret (v : Value) (w : World) (hd : ByD w v) : Ret Try.prog 29 [v] w (AnyS1 w) := by
  refine enter Try.func29 rfl Try.ntmps29 rfl rfl ?_
  refine Z43 (Z44 (WO_alloc fun w0 hz ez zz => ?_))
  replace hz : Blk w0 w.heap.size [.int .i64 0, .int .i64 0, .int .i64 0, .int .i64 0, .slice none 0 0, .slice none 0 0] _ := hz
  have s0 := hz.lt
  refine goS ?_
  refine WO_call rfl (DrawStmtValid_ret v w0 (hd.ext ez)) ?_
  rintro _ w1 ⟨tv, tl, Ft, op, x, y, n, vt, ve, t, e, F1, F2, rfl, i1, hT, hE, hF, ⟨htl, hcl⟩, e1⟩
  have oT := hT.one
  have oE := hE.one
  have s1 := e1.size_le
  refine goS ?_
  refine WO_alloc fun w2 hb2 e2 z2 => ?_
  refine goS ?_
  refine WO_storeS (k := 6) (vs := [.int .i64 op, .int .i64 x, .int .i64 y, .int .i64 n, vt, ve]) rfl rfl rfl (by intro u hu; simp at hu; rcases hu with rfl | rfl | rfl | rfl | rfl | rfl <;> first | rfl | assumption) hb2 (by decide) fun w3 hs o3 => ?_
  replace hs : Blk w3 w1.heap.size [.int .i64 op, .int .i64 x, .int .i64 y, .int .i64 n, vt, ve] _ := hs
  have e3 : Ext w1 w3 := e2.only o3 (Nat.le_refl _)
  replace hT := hT.ext e3
  replace hE := hE.ext e3
  have s3 := e3.size_le
  refine goS ?_
  refine WO_loadSB rfl hs rfl ?_
  refine WO_storeS (k := 6) (vs := [.int .i64 op, .int .i64 x, .int .i64 y, .int .i64 n, vt, ve]) rfl rfl rfl (by intro u hu; simp at hu; rcases hu with rfl | rfl | rfl | rfl | rfl | rfl <;> first | rfl | assumption) ((hz.ext e1).ext e3) (by decide) fun w4 hz4 o4 => ?_
  replace hz4 : Blk w4 w.heap.size [.int .i64 op, .int .i64 x, .int .i64 y, .int .i64 n, vt, ve] _ := hz4
  have s4 := o4.size
  refine goS ?_
  exact at_retC rfl rfl hz4 rfl ⟨op, x, y, n, vt, ve, t, e, F1, F2, rfl, hT.chg o4.chg (fun z hz => by have := hF z (by simp [hz]); simp; omega), hE.chg o4.chg (fun z hz => by have := hF z (by simp [hz]); simp; omega), fun z hz => by have := hF z (by simp only [List.mem_append]; exact .inr (List.mem_append.1 hz)); omega, hcl, ((ez.trans e1).trans e3).only o4 (Nat.le_refl _)⟩
theorem bcIn_ret (va : Value) (la : List Int) (Fa : List Nat) (k : Int) (w : World) (ha : IntF w va la Fa) (hl : la.length ≤ 1000000) : Ret Try.prog 32 [va, .int .i64 k] w fun r w' => r = .bool (decide (k ∈ la)) ∧ w' = w := by
  obtain ⟨A, c, rfl, hlm, hx⟩ := ha
  refine enter Try.func32 rfl Try.ntmps32 rfl rfl ?_
  refine goS ?_
  refine W_loop (α := Nat) (fun i => [(0, .slice A la.length c), (1, .int .i64 k), (5, .int .i64 (i : Int))])
    (fun i w' => i ≤ la.length ∧ (∀ j (hj : j < la.length), j < i → la[j] ≠ k) ∧ w' = w) (fun i => la.length - i) 0 (by repeat (first | exact True.intro | refine And.intro rfl ?_)) ⟨Nat.zero_le _, fun j _ h => by omega, rfl⟩ ?_
  rintro i w1 ⟨hi, hno, rfl⟩
  refine goS ?_
  by_cases hlt : i < la.length
  · rw [decide_eq_true (show (i : Int) < (la.length : Int) by omega)]
    obtain ⟨b, o, rfl, _, hcell⟩ := int_at hx hlt
    refine goS ?_
    refine Z83 rfl rfl rfl hlt ?_
    refine goS ?_
    by_cases hk : la[i] = k
    · rw [show (la[i] == k) = true from by simp [hk]]
      refine goS ?_
      exact at_ret1 rfl rfl ⟨by rw [decide_eq_true (by rw [← hk]; exact List.getElem_mem hlt)], rfl⟩
    · rw [show (la[i] == k) = false from by simp [hk]]
      refine goS ?_
      refine at_loop (i + 1) (by repeat (first | exact True.intro | refine And.intro rfl ?_)) ⟨hlt, fun j hj hji => ?_, rfl⟩ (by omega)
      by_cases hjj : j = i
      · subst hjj; exact hk
      · exact hno j hj (by omega)
  · rw [decide_eq_false (show ¬ (i : Int) < (la.length : Int) by omega)]
    refine goS ?_
    refine at_ret1 rfl rfl ⟨?_, rfl⟩
    rw [decide_eq_false]
    intro hm
    obtain ⟨j, hj, he⟩ := List.getElem_of_mem hm
    exact hno j hj (by omega) he
theorem varsL_len (op x y : Int) (t e : Ss) : (varsL op x y t e).length ≤ 6 := truesTo_length _ _
theorem parts_mem (op x y n : Int) (t e : Ss) (v : Int) : v ∈ varsL 9 0 0 (Ss.one op x y n t e) (Ss.one 8 5 0 0 .nil .nil) ↔ v = 5 ∨ v ∈ varsL op x y t e := by
  rw [varsL_mem, varsL_mem]
  have h1 : usesS noVars 9 0 0 (Ss.one op x y n t e) (Ss.one 8 5 0 0 .nil .nil) = (usesS noVars op x y t e).set 5 true := rfl
  have hl : (usesS noVars op x y t e).length = 6 := usesS_length _ _ _ _ _ _
  rw [h1]
  constructor
  · rintro ⟨i, h2, rfl, h3⟩
    rw [List.getElem?_set] at h3
    by_cases h5 : 5 = i
    · exact .inl (by omega)
    · rw [if_neg h5] at h3
      exact .inr ⟨i, h2, rfl, h3⟩
  · rintro (rfl | ⟨i, h2, rfl, h3⟩)
    · exact ⟨5, by decide, rfl, by rw [List.getElem?_set, if_pos rfl, if_pos (by omega)]⟩
    · refine ⟨i, h2, rfl, ?_⟩
      rw [List.getElem?_set]
      split
      · rw [if_pos (by omega)]
      · exact h3
theorem FnVarsParts_ret {v : Value} {w : World} (hd : ByD w v) : Ret Try.prog 7 [v] w fun r w' => r = .bool true ∧ Ext w w' := by
  have hd0 := hd
  obtain ⟨A0, n0, c0, rfl, _, hn0, _⟩ := hd0
  refine enter Try.func7 rfl Try.ntmps7 rfl rfl ?_
  (refine goS ?_; repeat' (first | ((refine Z51 rfl rfl (fun c' hc' => ?_)); cases c' <;> (try simp only [decide_eq_true_eq, decide_eq_false_iff_not, beq_iff_eq, beq_eq_false_iff_ne, bne_iff_ne, bne_eq_false_iff_eq, ne_eq, gt_iff_lt, ge_iff_le, Int.not_lt, Int.not_le, Bool.not_eq_true', Bool.not_eq_false', Bool.not_true, Bool.not_false, reduceCtorEq, Decidable.not_not, not_true_eq_false, Bool.true_eq_false, Bool.false_eq_true] at hc') <;> (try (exfalso; omega)) <;> refine goS ?_) | ((refine Z52 rfl (fun hc' => ?_) (fun hc' => ?_)) <;> (try simp only [decide_eq_true_eq, decide_eq_false_iff_not, beq_iff_eq, beq_eq_false_iff_ne, bne_iff_ne, bne_eq_false_iff_eq, ne_eq, gt_iff_lt, ge_iff_le, Int.not_lt, Int.not_le, Bool.not_eq_true', Bool.not_eq_false', Bool.not_true, Bool.not_false, reduceCtorEq, Decidable.not_not, not_true_eq_false, Bool.true_eq_false, Bool.false_eq_true] at hc') <;> (try (exfalso; omega)) <;> refine goS ?_)))
  any_goals (exact at_ret1 rfl rfl ⟨rfl, Ext.refl _⟩)
  refine WO_call rfl (DrawVarsOf_ret _ w hd) ?_
  rintro _ w1 ⟨op, x, y, n, vt, ve, t, e, F1, F2, rfl, hT, hE, _, hcl, e1⟩
  have oT := hT.one
  have oE := hE.one
  refine goS ?_
  refine WO_alloc fun w2 hb2 e2 z2 => ?_
  refine WO_storeS (k := 6) (vs := [.int .i64 op, .int .i64 x, .int .i64 y, .int .i64 n, vt, ve]) rfl rfl rfl (by intro u hu; simp at hu; rcases hu with rfl | rfl | rfl | rfl | rfl | rfl <;> first | rfl | assumption) hb2 (by decide) fun w3 hs o3 => ?_
  replace hs : Blk w3 w1.heap.size [.int .i64 op, .int .i64 x, .int .i64 y, .int .i64 n, vt, ve] _ := hs
  have e3 : Ext w1 w3 := e2.only o3 (Nat.le_refl _)
  replace hT := hT.ext e3
  replace hE := hE.ext e3
  have e0 := e1.trans e3
  refine goS ?_
  refine WO_loadSB rfl hs rfl ?_
  refine WO_call rfl (VarsOf_ret op x y n t e vt ve F1 F2 w3 hT hE) ?_
  rintro v1 w4 ⟨⟨G1, r1, b1⟩, e4⟩
  have i1 := r1.int
  have hl1 := varsL_len op x y t e
  obtain ⟨A1, c1, rfl, hm1, hx1⟩ := i1
  have i1 : IntF w4 (.slice A1 (varsL op x y t e).length c1) (varsL op x y t e) G1 := ⟨A1, c1, rfl, hm1, hx1⟩
  refine goS ?_
  refine WO_loadSB rfl (hs.ext e4) rfl ?_
  refine WO_call rfl (sVarsOf_ret op x y n t e vt ve F1 F2 w4 (hT.ext e4) (hE.ext e4)) ?_
  rintro v2 w5 ⟨⟨G2, r2, b2⟩, e5⟩
  refine WO_call rfl (bcInts_ret _ v2 _ _ G1 G2 w5 (i1.ext e5) r2.int) ?_
  rintro _ w6 ⟨rfl, e6⟩
  have e46 := e4.trans (e5.trans e6)
  have i16 := i1.ext (e5.trans e6)
  rw [show (varsL op x y t e == varsL op x y t e) = true from by simp]
  refine goS ?_
  refine WO_loadSB rfl (hs.ext e46) rfl ?_
  refine WO_build (e := 38) (k := 6) [.tmp 19] (vs := [stV op x y n vt ve]) (cs := [.int .i64 op, .int .i64 x, .int .i64 y, .int .i64 n, vt, ve]) rfl rfl rfl (by decide) (by decide) (by simp [stV, Value.cells]) (by simp [stV, Value.cells]) fun w7 hb7 e7 z7 => ?_
  refine goS ?_
  refine WO_build (e := 38) (k := 6) [.tmp 21] (vs := [stV 8 5 0 0 (.slice none 0 0) (.slice none 0 0)]) (cs := [.int .i64 8, .int .i64 5, .int .i64 0, .int .i64 0, .slice none 0 0, .slice none 0 0]) rfl rfl rfl (by decide) (by decide) (by simp [stV, Value.cells]) (by simp [stV, Value.cells]) fun w8 hb8 e8 z8 => ?_
  refine Z13 (Z30 (cs := [.int .i64 9, .int .i64 0, .int .i64 0, .int .i64 0, .slice (some ⟨w6.heap.size, 0, none⟩) 1 1, .slice (some ⟨w7.heap.size, 0, none⟩) 1 1]) rfl (by rfl) rfl) ?_
  have e48 := e46.trans (e7.trans e8)
  have st1 := (stS_mk1 hb7 (hT.ext (e46.trans e7)) (hE.ext (e46.trans e7))).ext e8
  have st2 := stS_mk1 hb8 (StS.nil_ w8 none 0) (StS.nil_ w8 none 0)
  refine WO_call rfl (VarsOf_ret 9 0 0 0 (Ss.one op x y n t e) (Ss.one 8 5 0 0 .nil .nil) _ _ _ _ w8 st1 st2) ?_
  rintro v3 w9 ⟨⟨G3, r3, b3⟩, e9⟩
  have i3 := r3.int
  have hl3 := varsL_len 9 0 0 (Ss.one op x y n t e) (Ss.one 8 5 0 0 .nil .nil)
  have i19 := i16.ext ((e7.trans e8).trans e9)
  have e09 := (e0.trans e48).trans e9
  refine goS ?_
  refine W_loop (α := Nat) (fun i => [(4, .slice A1 (varsL op x y t e).length c1), (5, v3), (6, .int .i64 (i : Int))])
    (fun i w' => i ≤ 6 ∧ w' = w9) (fun i => 6 - i) 0 (by repeat (first | exact True.intro | refine And.intro rfl ?_)) ⟨Nat.zero_le _, rfl⟩ ?_
  rintro i w10 ⟨hi, rfl⟩
  refine goS ?_
  by_cases hlt : i < 6
  · rw [decide_eq_true (show (i : Int) < 6 by omega)]
    refine goS ?_
    refine WO_call rfl (bcIn_ret v3 _ G3 (i : Int) w10 i3 (by omega)) ?_
    rintro _ w11 ⟨rfl, rfl⟩
    refine goS ?_
    by_cases h5 : i = 5
    · rw [show (((i : Nat) : Int) == 5) = true from by rw [beq_iff_eq]; omega]
      refine goS ?_
      rw [decide_eq_true ((parts_mem op x y n t e (i : Int)).2 (.inl (by omega)))]
      refine goS ?_
      exact at_loop (i + 1) (by repeat (first | exact True.intro | refine And.intro rfl ?_)) ⟨hlt, rfl⟩ (by omega)
    · rw [show (((i : Nat) : Int) == 5) = false from by rw [beq_eq_false_iff_ne]; omega]
      refine goS ?_
      refine WO_call rfl (bcIn_ret _ _ G1 (i : Int) _ i19 (by omega)) ?_
      rintro _ w12 ⟨rfl, rfl⟩
      refine goS ?_
      rw [show (!(decide ((i : Int) ∈ varsL 9 0 0 (Ss.one op x y n t e) (Ss.one 8 5 0 0 .nil .nil)) == decide ((i : Int) ∈ varsL op x y t e))) = false from by
        have h1 := parts_mem op x y n t e (i : Int)
        have h2 : decide ((i : Int) ∈ varsL 9 0 0 (Ss.one op x y n t e) (Ss.one 8 5 0 0 .nil .nil)) = decide ((i : Int) ∈ varsL op x y t e) := by
          rw [Bool.eq_iff_iff, decide_eq_true_eq, decide_eq_true_eq, h1]
          exact ⟨fun h => h.resolve_left (by omega), .inr⟩
        rw [h2]
        simp]
      refine goS ?_
      exact at_loop (i + 1) (by repeat (first | exact True.intro | refine And.intro rfl ?_)) ⟨hlt, rfl⟩ (by omega)
  · rw [decide_eq_false (show ¬ (i : Int) < 6 by omega)]
    refine goS ?_
    exact at_ret1 rfl rfl ⟨rfl, e09⟩
theorem vars_in {tl : List Int} {op x y n : Int} {t e : Ss} (hv : stmtValidB tl op x y n t e = true) {v : Int} (h : v ∈ varsL op x y t e) : 0 ≤ v ∧ v < tl.length := by
  unfold stmtValidB at hv
  rw [Bool.and_eq_true, Bool.and_eq_true] at hv
  obtain ⟨hT, hS, _⟩ := hv
  have hl6 : tl.length ≤ 6 := by
    unfold okT at hT
    rw [Bool.and_eq_true] at hT
    simpa using hT.1
  obtain ⟨i, _, rfl, hi⟩ := varsL_mem.1 h
  have hL : okL tl 4 (Ss.one op x y n t e) = true := by
    unfold Ss.one
    rw [okL_cons, hS]
    rfl
  have h0 : Below6 tl.length noVars := fun i hi => by
    rcases i with _ | _ | _ | _ | _ | _ | i <;> simp [noVars] at hi
  have := usesL_out hl6 (Ss.one op x y n t e) 4 noVars hL h0 i hi
  omega
theorem vars_sorted (op x y : Int) (t e : Ss) : (varsL op x y t e).Pairwise (· < ·) := truesTo_sorted _ _
theorem valid_narrow {tl : List Int} {op x y n : Int} {t e : Ss} {m : Nat} (hv : stmtValidB tl op x y n t e = true) (h : ∀ v ∈ varsL op x y t e, v < (m : Int)) : stmtValidB (tl.take m) op x y n t e = true := by
  unfold stmtValidB at hv ⊢
  rw [Bool.and_eq_true, Bool.and_eq_true] at hv ⊢
  obtain ⟨hT, hS, hC⟩ := hv
  have hl6 : tl.length ≤ 6 := by
    unfold okT at hT
    rw [Bool.and_eq_true] at hT
    simpa using hT.1
  refine ⟨?_, ?_, hC⟩
  · unfold okT at hT ⊢
    rw [Bool.and_eq_true, List.all_eq_true] at hT ⊢
    refine ⟨?_, fun a ha => hT.2 a (List.mem_of_mem_take ha)⟩
    rw [decide_eq_true_eq, List.length_take]
    omega
  · have hb : Below6 m (usesS noVars op x y t e) := fun i hi => by
      have hi6 : i < 6 := by
        have := (List.getElem?_eq_some_iff.1 hi).1
        rw [usesS_length] at this
        exact this
      have := h i (varsL_mem.2 ⟨i, hi6, rfl, hi⟩)
      omega
    exact okS_narrow (fl := noVars) hl6 rfl hS hb (fun gl hg ho hbl => okL_narrow hl6 t _ gl hg ho hbl) (fun gl hg ho hbl => okL_narrow hl6 e _ gl hg ho hbl)
def mostOf (l : List Int) : Nat → Int
  | 0 => -1
  | k + 1 => l.getD k (-1)
theorem mostOf_succ {l : List Int} {i : Nat} (h : i < l.length) : mostOf l (i + 1) = l[i] := by
  show l.getD i (-1) = l[i]
  rw [List.getD_eq_getElem?_getD, List.getElem?_eq_getElem h]
  rfl
theorem mostOf_lt {l : List Int} {i : Nat} (hs : l.Pairwise (· < ·)) (h0 : ∀ v ∈ l, 0 ≤ v) (h : i < l.length) : mostOf l i < l[i] := by
  cases i with
  | zero =>
    have := h0 l[0] (List.getElem_mem h)
    show (-1 : Int) < l[0]
    omega
  | succ k =>
    rw [mostOf_succ (by omega)]
    exact List.pairwise_iff_getElem.1 hs k (k + 1) (by omega) h (by omega)
theorem mostOf_last {l : List Int} (hs : l.Pairwise (· < ·)) (h : l.length ≠ 0) : mostOf l l.length ∈ l ∧ ∀ v ∈ l, v ≤ mostOf l l.length := by
  obtain ⟨k, hk⟩ : ∃ k, l.length = k + 1 := ⟨l.length - 1, by omega⟩
  rw [hk, mostOf_succ (by omega)]
  refine ⟨List.getElem_mem _, fun v hv => ?_⟩
  obtain ⟨j, hj, rfl⟩ := List.getElem_of_mem hv
  by_cases hjk : j = k
  · subst hjk; exact Int.le_refl _
  · have := List.pairwise_iff_getElem.1 hs j k hj (by omega) (by omega)
    omega
theorem IntF.takeF {w : World} {A : Option Addr} {c : Nat} {l : List Int} {F : List Nat} (h : IntF w (.slice A l.length c) l F) {k : Nat} (h0 : 0 < k) (hk : k ≤ l.length) : IntF w (.slice A k c) (l.take k) F := by
  obtain ⟨A', c', hv, ⟨h1, h2⟩, hx⟩ := h
  injection hv with hA _ hc
  subst hA; subst hc
  have hlen : (l.take k).length = k := by rw [List.length_take]; omega
  refine ⟨A, c, by rw [hlen], ⟨by omega, by omega⟩, ?_⟩
  rcases hx with ⟨rfl, _⟩ | ⟨b, o, hA, hF, hc⟩
  · simp at hk
    omega
  · refine .inr ⟨b, o, hA, hF, fun i x hx => hc i x ?_⟩
    rw [List.getElem?_take] at hx
    split at hx
    · exact hx
    · cases hx
theorem FnVarsOf_ret {v v' : Value} {w : World} (hd : ByD w v) (hd' : ByD w v') : Ret Try.prog 11 [v, v'] w fun r w' => r = .bool true ∧ Ext w w' := by
  have hd0 := hd
  obtain ⟨A0, n0, c0, rfl, _, hn0, _⟩ := hd0
  have hd1 := hd'
  obtain ⟨A0', n0', c0', rfl, _, hn0', _⟩ := hd1
  refine enter Try.func11 rfl Try.ntmps11 rfl rfl ?_
  (refine goS ?_; repeat' (first | ((refine Z51 rfl rfl (fun c' hc' => ?_)); cases c' <;> (try simp only [decide_eq_true_eq, decide_eq_false_iff_not, beq_iff_eq, beq_eq_false_iff_ne, bne_iff_ne, bne_eq_false_iff_eq, ne_eq, gt_iff_lt, ge_iff_le, Int.not_lt, Int.not_le, Bool.not_eq_true', Bool.not_eq_false', Bool.not_true, Bool.not_false, reduceCtorEq, Decidable.not_not, not_true_eq_false, Bool.true_eq_false, Bool.false_eq_true] at hc') <;> (try (exfalso; omega)) <;> refine goS ?_) | ((refine Z52 rfl (fun hc' => ?_) (fun hc' => ?_)) <;> (try simp only [decide_eq_true_eq, decide_eq_false_iff_not, beq_iff_eq, beq_eq_false_iff_ne, bne_iff_ne, bne_eq_false_iff_eq, ne_eq, gt_iff_lt, ge_iff_le, Int.not_lt, Int.not_le, Bool.not_eq_true', Bool.not_eq_false', Bool.not_true, Bool.not_false, reduceCtorEq, Decidable.not_not, not_true_eq_false, Bool.true_eq_false, Bool.false_eq_true] at hc') <;> (try (exfalso; omega)) <;> refine goS ?_)))
  any_goals (exact at_ret1 rfl rfl ⟨rfl, Ext.refl _⟩)
  refine WO_call rfl (DrawVarsOf_ret _ w hd) ?_
  rintro _ w1 ⟨op0, x0, y0, n0', vt0, ve0, t0, e0', G1, G2, rfl, hT0, hE0, _, hcl0, e1⟩
  have oT0 := hT0.one
  have oE0 := hE0.one
  refine goS ?_
  refine WO_alloc fun w2 hb2 e2 z2 => ?_
  refine WO_storeS (k := 6) (vs := [.int .i64 op0, .int .i64 x0, .int .i64 y0, .int .i64 n0', vt0, ve0]) rfl rfl rfl (by intro u hu; simp at hu; rcases hu with rfl | rfl | rfl | rfl | rfl | rfl <;> first | rfl | assumption) hb2 (by decide) fun w3 hs0 o3 => ?_
  replace hs0 : Blk w3 w1.heap.size [.int .i64 op0, .int .i64 x0, .int .i64 y0, .int .i64 n0', vt0, ve0] _ := hs0
  have e3 : Ext w1 w3 := e2.only o3 (Nat.le_refl _)
  replace hT0 := hT0.ext e3
  replace hE0 := hE0.ext e3
  have e03 := e1.trans e3
  refine goS ?_
  refine WO_loadSB rfl hs0 rfl ?_
  refine WO_call rfl (VarsOf_ret op0 x0 y0 n0' t0 e0' vt0 ve0 G1 G2 w3 hT0 hE0) ?_
  rintro vl w4 ⟨⟨H1, r1, b1⟩, e4⟩
  have i0 := r1.int
  have ol := i0.one
  have e04 := e03.trans e4
  refine goS ?_
  refine WO_call rfl (DrawStmtValid_ret _ w4 (hd'.ext e04)) ?_
  rintro _ w5 ⟨tv, tl, Ft, op, x, y, n, vt, ve, t, e, F1, F2, rfl, i1, hT, hE, _, ⟨htl, hcl⟩, e5⟩
  have oT := hT.one
  have oE := hE.one
  have oV := i1.one
  refine goS ?_
  refine WO_alloc fun w6 hb6 e6 z6 => ?_
  refine goS ?_
  refine WO_storeS (k := 6) (vs := [.int .i64 op, .int .i64 x, .int .i64 y, .int .i64 n, vt, ve]) rfl rfl rfl (by intro u hu; simp at hu; rcases hu with rfl | rfl | rfl | rfl | rfl | rfl <;> first | rfl | assumption) hb6 (by decide) fun w7 hs o7 => ?_
  replace hs : Blk w7 w5.heap.size [.int .i64 op, .int .i64 x, .int .i64 y, .int .i64 n, vt, ve] _ := hs
  have e7 : Ext w5 w7 := e6.only o7 (Nat.le_refl _)
  replace i1 := i1.ext e7
  replace hT := hT.ext e7
  replace hE := hE.ext e7
  have e57 := e5.trans e7
  have e07 := e04.trans e57
  replace i0 := i0.ext e57
  replace hs0 := hs0.ext (e4.trans e57)
  replace hT0 := hT0.ext (e4.trans e57)
  replace hE0 := hE0.ext (e4.trans e57)
  refine goS ?_
  refine WO_loadSB rfl hs rfl ?_
  refine WO_call rfl (VarsOf_ret op x y n t e vt ve F1 F2 w7 hT hE) ?_
  rintro vm w8 ⟨⟨H2, r2, b2⟩, e8⟩
  have i2 := r2.int
  obtain ⟨A1, c1, rfl, hm1, hx1⟩ := i2
  have i2 : IntF w8 (.slice A1 (varsL op x y t e).length c1) (varsL op x y t e) H2 := ⟨A1, c1, rfl, hm1, hx1⟩
  refine goS ?_
  refine WO_loadSB rfl (hs0.ext e8) rfl ?_
  refine WO_call rfl (sVarsOf_ret op0 x0 y0 n0' t0 e0' vt0 ve0 G1 G2 w8 (hT0.ext e8) (hE0.ext e8)) ?_
  rintro v3 w9 ⟨⟨H3, r3, b3⟩, e9⟩
  refine WO_call rfl (bcInts_ret _ v3 _ _ H1 H3 w9 (i0.ext (e8.trans e9)) r3.int) ?_
  rintro _ w10 ⟨rfl, e10⟩
  have e8a := e8.trans (e9.trans e10)
  have e8b := e9.trans e10
  rw [show (varsL op0 x0 y0 t0 e0' == varsL op0 x0 y0 t0 e0') = true from by simp]
  refine goS ?_
  refine WO_loadSB rfl (hs.ext e8a) rfl ?_
  refine goS ?_
  refine WO_call rfl (sVarsOf_ret op x y n t e vt ve F1 F2 w10 (hT.ext e8a) (hE.ext e8a)) ?_
  rintro v4 w11 ⟨⟨H4, r4, b4⟩, e11⟩
  refine goS ?_
  refine WO_call rfl (bcInts_ret _ v4 _ _ H2 H4 w11 (i2.ext (e8b.trans e11)) r4.int) ?_
  rintro _ w12 ⟨rfl, e12⟩
  have e8c := e8a.trans (e11.trans e12)
  have e8d := e8b.trans (e11.trans e12)
  rw [show (varsL op x y t e == varsL op x y t e) = true from by simp]
  refine goS ?_
  refine WO_loadSB rfl (hs.ext e8c) rfl ?_
  refine goS ?_
  refine WO_call rfl (StmtValid_retS tv tl Ft op x y n t e F1 F2 vt ve w12 (i1.ext e8c) (hT.ext e8c) (hE.ext e8c)) ?_
  rintro _ w13 ⟨rfl, e13⟩
  have e8e := e8c.trans e13
  have e0e := e07.trans e8e
  have i2e := i2.ext (e8d.trans e13)
  have hse := hs.ext e8e
  have hTe := hT.ext e8e
  have hEe := hE.ext e8e
  have i1e := i1.ext e8e
  have hlen := varsL_len op x y t e
  by_cases hv : stmtValidB tl op x y n t e = true
  · rw [hv]
    obtain ⟨A, c, rfl, hlm, hix⟩ := i1e
    have i1e : IntF w13 (.slice A tl.length c) tl Ft := ⟨A, c, rfl, hlm, hix⟩
    have hin := fun v (h : v ∈ varsL op x y t e) => vars_in hv h
    have hsort := vars_sorted op x y t e
    refine goS ?_
    refine W_loop (α := Nat) (fun i => [(7, .slice A tl.length c), (8, .pointer (some ⟨w5.heap.size, 0, none⟩)), (9, .slice A1 (varsL op x y t e).length c1), (10, .int .i64 (mostOf (varsL op x y t e) i)), (11, .int .i64 (i : Int))])
      (fun i w' => i ≤ (varsL op x y t e).length ∧ w' = w13) (fun i => (varsL op x y t e).length - i) 0 (by repeat (first | exact True.intro | refine And.intro rfl ?_)) ⟨Nat.zero_le _, rfl⟩ ?_
    rintro i w14 ⟨hi, rfl⟩
    refine goS ?_
    by_cases hlt : i < (varsL op x y t e).length
    · rw [decide_eq_true (show (i : Int) < ((varsL op x y t e).length : Int) by omega)]
      obtain ⟨A2, c2, hve, _, hx2⟩ := i2e
      injection hve with hA2 _ _
      subst hA2
      obtain ⟨b, o, rfl, _, hcell⟩ := int_at hx2 hlt
      have hlo := mostOf_lt hsort (fun v h => (hin v h).1) hlt
      have hhi := (hin _ (List.getElem_mem hlt)).2
      have hlo0 := (hin _ (List.getElem_mem hlt)).1
      refine goS ?_
      refine Z83 rfl rfl rfl hlt ?_
      refine goS ?_
      rw [decide_eq_false (show ¬ (varsL op x y t e)[i] ≤ mostOf (varsL op x y t e) i by omega)]
      refine goS ?_
      refine Z83 rfl rfl rfl hlt ?_
      refine goS ?_
      rw [decide_eq_false (show ¬ (varsL op x y t e)[i] ≥ (tl.length : Int) by omega)]
      refine goS ?_
      refine Z83 rfl rfl rfl hlt ?_
      refine goS ?_
      rw [← mostOf_succ hlt]
      exact at_loop (i + 1) (by repeat (first | exact True.intro | refine And.intro rfl ?_)) ⟨hlt, rfl⟩ (by omega)
    · rw [decide_eq_false (show ¬ (i : Int) < ((varsL op x y t e).length : Int) by omega)]
      have hie : i = (varsL op x y t e).length := by omega
      subst hie
      refine goS ?_
      by_cases h0 : (varsL op x y t e).length = 0
      · have hm : mostOf (varsL op x y t e) (varsL op x y t e).length = -1 := by rw [h0]; rfl
        rw [hm]
        refine Z54 (by kernel_rfl) (by kernel_rfl) ?_
        repeat' (first | refine Z55 (Z56 rfl) ?_ | (refine Z57 ?_; first | refine Z58 rfl rfl (by decide) ?_ | refine Z59 rfl rfl (by decide) ?_ | refine Z60 rfl rfl ?_ | ((refine Z61 rfl rfl (fun c' hc' => ?_)); cases c' <;> (try simp only [decide_eq_true_eq, decide_eq_false_iff_not, beq_iff_eq, beq_eq_false_iff_ne, bne_iff_ne, bne_eq_false_iff_eq, ne_eq, gt_iff_lt, ge_iff_le, Int.not_lt, Int.not_le, Bool.not_eq_true', Bool.not_eq_false', Bool.not_true, Bool.not_false, reduceCtorEq, Decidable.not_not, not_true_eq_false, Bool.true_eq_false, Bool.false_eq_true] at hc') <;> (try (exfalso; omega)))) | (refine Z62 ?_; first | refine Z55 (Z63 rfl rfl) ?_ | refine Z55 (Z64 rfl rfl) ?_) | (refine Z65 ?_; first | refine Z55 (Z66 rfl (by assumption) (by rfl)) ?_ | refine Z55 (Z67 rfl (by assumption)) ?_) | (refine Z68 ?_; refine Z55 (Z69 rfl rfl rfl (by omega)) ?_) | (refine Z70 ?_; first | refine Z55 (Z14 rfl (by decide) rfl) ?_ | refine Z55 (Z15 rfl (by decide) rfl) ?_) | (refine Z71 ?_; first | refine Z55 (Z72 rfl) ?_ | refine Z55 (Z73 rfl) ?_) | (refine Z74 ?_; first | refine Z55 (Z75 rfl rfl (by omega)) ?_ | refine Z55 (Z76 rfl rfl (by omega)) ?_ | refine Z55 (Z77 rfl rfl (by omega)) ?_ | refine Z55 (Z78 rfl rfl (by omega) (by omega)) ?_ | refine Z55 (Z79 rfl rfl (by omega) (by omega) (by omega)) ?_ | refine Z55 (Z25 rfl rfl) ?_ | refine Z55 (Z26 rfl rfl) ?_) | (refine Z80 ?_; refine Z55 (Z28 rfl (Z53 ⟨by omega, by omega⟩)) ?_) | refine Z81 fun w' hw' => ?_)
        refine goS ?_
        exact at_ret1 rfl rfl ⟨rfl, e0e.trans hw'⟩
      · obtain ⟨k1, k2⟩ := mostOf_last hsort h0
        have k3 := hin _ k1
        obtain ⟨m, hm⟩ : ∃ m : Nat, mostOf (varsL op x y t e) (varsL op x y t e).length = (m : Int) := ⟨_, (Int.toNat_of_nonneg k3.1).symm⟩
        rw [hm] at k2 k3 ⊢
        have hok := valid_narrow (m := m + 1) hv (fun v h => by have := k2 v h; omega)
        have htake := i1e.takeF (k := m + 1) (by omega) (by omega)
        refine Z54 (by kernel_rfl) (by kernel_rfl) ?_
        repeat' (first | refine Z55 (Z56 rfl) ?_ | (refine Z57 ?_; first | refine Z58 rfl rfl (by decide) ?_ | refine Z59 rfl rfl (by decide) ?_ | refine Z60 rfl rfl ?_ | ((refine Z61 rfl rfl (fun c' hc' => ?_)); cases c' <;> (try simp only [decide_eq_true_eq, decide_eq_false_iff_not, beq_iff_eq, beq_eq_false_iff_ne, bne_iff_ne, bne_eq_false_iff_eq, ne_eq, gt_iff_lt, ge_iff_le, Int.not_lt, Int.not_le, Bool.not_eq_true', Bool.not_eq_false', Bool.not_true, Bool.not_false, reduceCtorEq, Decidable.not_not, not_true_eq_false, Bool.true_eq_false, Bool.false_eq_true] at hc') <;> (try (exfalso; omega)))) | (refine Z62 ?_; first | refine Z55 (Z63 rfl rfl) ?_ | refine Z55 (Z64 rfl rfl) ?_) | (refine Z65 ?_; first | refine Z55 (Z66 rfl (by assumption) (by rfl)) ?_ | refine Z55 (Z67 rfl (by assumption)) ?_) | (refine Z68 ?_; refine Z55 (Z69 rfl rfl rfl (by omega)) ?_) | (refine Z70 ?_; first | refine Z55 (Z14 rfl (by decide) rfl) ?_ | refine Z55 (Z15 rfl (by decide) rfl) ?_) | (refine Z71 ?_; first | refine Z55 (Z72 rfl) ?_ | refine Z55 (Z73 rfl) ?_) | (refine Z74 ?_; first | refine Z55 (Z75 rfl rfl (by omega)) ?_ | refine Z55 (Z76 rfl rfl (by omega)) ?_ | refine Z55 (Z77 rfl rfl (by omega)) ?_ | refine Z55 (Z78 rfl rfl (by omega) (by omega)) ?_ | refine Z55 (Z79 rfl rfl (by omega) (by omega) (by omega)) ?_ | refine Z55 (Z25 rfl rfl) ?_ | refine Z55 (Z26 rfl rfl) ?_) | (refine Z80 ?_; refine Z55 (Z28 rfl (Z53 ⟨by omega, by omega⟩)) ?_) | refine Z81 fun w' hw' => ?_)
        refine Z55 (q_slTo (h := m + 1) rfl rfl (by omega) (by omega)) ?_
        refine Z58 rfl rfl (by decide) ?_
        refine Z55 (q_loadS (cs := [.int .i64 op, .int .i64 x, .int .i64 y, .int .i64 n, vt, ve]) rfl rfl (blk_cells hse)) ?_
        refine Z58 rfl rfl (by decide) ?_
        refine WQ_call rfl (fun w' hw' => StmtValid_retS (.slice A (m + 1) c) (tl.take (m + 1)) Ft op x y n t e F1 F2 vt ve w' (htake.ext hw') (hTe.ext hw') (hEe.ext hw')) ?_
        rw [hok]
        repeat' (first | refine Z55 (Z56 rfl) ?_ | (refine Z57 ?_; first | refine Z58 rfl rfl (by decide) ?_ | refine Z59 rfl rfl (by decide) ?_ | refine Z60 rfl rfl ?_ | ((refine Z61 rfl rfl (fun c' hc' => ?_)); cases c' <;> (try simp only [decide_eq_true_eq, decide_eq_false_iff_not, beq_iff_eq, beq_eq_false_iff_ne, bne_iff_ne, bne_eq_false_iff_eq, ne_eq, gt_iff_lt, ge_iff_le, Int.not_lt, Int.not_le, Bool.not_eq_true', Bool.not_eq_false', Bool.not_true, Bool.not_false, reduceCtorEq, Decidable.not_not, not_true_eq_false, Bool.true_eq_false, Bool.false_eq_true] at hc') <;> (try (exfalso; omega)))) | (refine Z62 ?_; first | refine Z55 (Z63 rfl rfl) ?_ | refine Z55 (Z64 rfl rfl) ?_) | (refine Z65 ?_; first | refine Z55 (Z66 rfl (by assumption) (by rfl)) ?_ | refine Z55 (Z67 rfl (by assumption)) ?_) | (refine Z68 ?_; refine Z55 (Z69 rfl rfl rfl (by omega)) ?_) | (refine Z70 ?_; first | refine Z55 (Z14 rfl (by decide) rfl) ?_ | refine Z55 (Z15 rfl (by decide) rfl) ?_) | (refine Z71 ?_; first | refine Z55 (Z72 rfl) ?_ | refine Z55 (Z73 rfl) ?_) | (refine Z74 ?_; first | refine Z55 (Z75 rfl rfl (by omega)) ?_ | refine Z55 (Z76 rfl rfl (by omega)) ?_ | refine Z55 (Z77 rfl rfl (by omega)) ?_ | refine Z55 (Z78 rfl rfl (by omega) (by omega)) ?_ | refine Z55 (Z79 rfl rfl (by omega) (by omega) (by omega)) ?_ | refine Z55 (Z25 rfl rfl) ?_ | refine Z55 (Z26 rfl rfl) ?_) | (refine Z80 ?_; refine Z55 (Z28 rfl (Z53 ⟨by omega, by omega⟩)) ?_) | refine Z81 fun w' hw' => ?_)
        refine goS ?_
        exact at_ret1 rfl rfl ⟨rfl, e0e.trans hw'⟩
  · have hv' : stmtValidB tl op x y n t e = false := by simpa using hv
    rw [hv']
    refine goS ?_
    refine WO_loadSB rfl (hs0.ext e8e) rfl ?_
    refine WO_call rfl (sVarsOf_ret op0 x0 y0 n0' t0 e0' vt0 ve0 G1 G2 w13 (hT0.ext e8e) (hE0.ext e8e)) ?_
    rintro v5 w14 ⟨⟨H5, r5, b5⟩, e14⟩
    refine WO_call rfl (bcInts_ret _ v5 _ _ H1 H5 w14 (i0.ext (e8e.trans e14)) r5.int) ?_
    rintro _ w15 ⟨rfl, e15⟩
    have e8f := e8e.trans (e14.trans e15)
    rw [show (varsL op0 x0 y0 t0 e0' == varsL op0 x0 y0 t0 e0') = true from by simp]
    refine goS ?_
    refine WO_loadSB rfl (hs.ext e8f) rfl ?_
    refine goS ?_
    refine WO_call rfl (sVarsOf_ret op x y n t e vt ve F1 F2 w15 (hT.ext e8f) (hE.ext e8f)) ?_
    rintro v6 w16 ⟨⟨H6, r6, b6⟩, e16⟩
    refine goS ?_
    refine WO_call rfl (bcInts_ret _ v6 _ _ H2 H6 w16 ((i2e.ext (e14.trans e15)).ext e16) r6.int) ?_
    rintro _ w17 ⟨rfl, e17⟩
    rw [show (varsL op x y t e == varsL op x y t e) = true from by simp]
    refine goS ?_
    exact at_ret1 rfl rfl ⟨rfl, (e07.trans e8f).trans (e16.trans e17)⟩
end Go.Proofs.Ytplcmbipeanjdaa
