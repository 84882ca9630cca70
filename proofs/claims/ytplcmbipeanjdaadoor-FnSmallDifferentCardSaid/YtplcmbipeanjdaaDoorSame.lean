/-
  What is proved here: when the program's and the reference's comparisons of statements and programs answer true.
-/
import Derived.Test.YtplcmbipeanjdaaDoorStLaw
namespace Go.Proofs.YtplcmbipeanjdaaDoor
set_option linter.unusedVariables false
set_option linter.unusedSimpArgs false
set_option linter.unnecessarySimpa false
open Go.RowKit

theorem slEqual_ret (va vb : Value) (la lb : List Int) (Fa Fb : List Nat) (w : World) (ha : IntF w va la Fa) (hb : IntF w vb lb Fb) :
    Ret Tryd.prog 16 [va, vb] w fun v w' => v = .bool (decide (la = lb)) ∧ Ext w w' := by
  obtain ⟨A, ca, rfl, hla, hA⟩ := ha
  obtain ⟨B, cb, rfl, hlb, hB⟩ := hb
  unfold maxI at hla hlb
  refine enter Tryd.func16 rfl Tryd.ntmps16 rfl rfl ?_
  refine goS ?_
  refine Z52 rfl (fun hc => ?_) (fun hc => ?_)
  · refine goS ?_
    refine at_ret1 rfl rfl ⟨?_, Ext.refl _⟩
    have : la ≠ lb := by rintro rfl; simp at hc
    simp [this]
  · have hlen : la.length = lb.length := by simp at hc; omega
    refine goS ?_
    refine W_loop (α := Nat) (fun i => [(0, .slice A la.length ca), (1, .slice B lb.length cb), (12, .int .i64 (la.length : Int)), (13, .int .i64 (i : Int))])
      (fun i w' => i ≤ la.length ∧ la.take i = lb.take i ∧ Ext w w') (fun i => la.length - i) 0 (by repeat (first | exact True.intro | refine And.intro rfl ?_)) ⟨Nat.zero_le _, rfl, Ext.refl _⟩ ?_
    rintro i w1 ⟨hi, ht, he⟩
    refine goS ?_
    refine Z52 rfl (fun hc => ?_) (fun hc => ?_)
    · have hlt : i < la.length := by simpa using hc
      have hlt2 : i < lb.length := by omega
      obtain ⟨ba, oa, rfl, _, hca⟩ := int_at hA hlt
      obtain ⟨bb, ob, rfl, _, hcb⟩ := int_at hB hlt2
      have hca := cell_ext hca he
      have hcb := cell_ext hcb he
      refine goS ?_
      refine Z54 (by kernel_rfl) (by kernel_rfl) ?_; repeat' (first | refine Z55 (Z56 rfl) ?_ | (refine Z57 ?_; first | refine Z58 rfl rfl (by decide) ?_ | refine Z59 rfl rfl (by decide) ?_ | refine Z60 rfl rfl ?_ | ((refine Z61 rfl rfl (fun c' hc' => ?_)); cases c' <;> (try simp only [decide_eq_true_eq, decide_eq_false_iff_not, beq_iff_eq, beq_eq_false_iff_ne, bne_iff_ne, bne_eq_false_iff_eq, ne_eq, gt_iff_lt, ge_iff_le, Int.not_lt, Int.not_le, Bool.not_eq_true', Bool.not_eq_false', Bool.not_true, Bool.not_false, reduceCtorEq, Decidable.not_not, not_true_eq_false, Bool.true_eq_false, Bool.false_eq_true] at hc') <;> (try (exfalso; omega)))) | (refine Z62 ?_; first | refine Z55 (Z63 rfl rfl) ?_ | refine Z55 (Z64 rfl rfl) ?_) | (refine Z65 ?_; first | refine Z55 (Z66 rfl (by assumption) (by rfl)) ?_ | refine Z55 (Z67 rfl (by assumption)) ?_) | (refine Z68 ?_; refine Z55 (Z69 rfl rfl rfl (by omega)) ?_) | (refine Z70 ?_; first | refine Z55 (Z14 rfl (by decide) rfl) ?_ | refine Z55 (Z15 rfl (by decide) rfl) ?_) | (refine Z71 ?_; first | refine Z55 (Z72 rfl) ?_ | refine Z55 (Z73 rfl) ?_) | (refine Z74 ?_; first | refine Z55 (Z75 rfl rfl (by omega)) ?_ | refine Z55 (Z76 rfl rfl (by omega)) ?_ | refine Z55 (Z77 rfl rfl (by omega)) ?_ | refine Z55 (Z78 rfl rfl (by omega) (by omega)) ?_ | refine Z55 (Z79 rfl rfl (by omega) (by omega) (by omega)) ?_ | refine Z55 (Z25 rfl rfl) ?_ | refine Z55 (Z26 rfl rfl) ?_) | (refine Z80 ?_; refine Z55 (Z28 rfl (Z53 ⟨by omega, by omega⟩)) ?_) | refine Z81 fun w' hw' => ?_)
      refine goS ?_
      refine Z52 rfl (fun hc => ?_) (fun hc => ?_)
      · refine goS ?_
        refine at_ret1 rfl rfl ⟨?_, he.trans hw'⟩
        have : la ≠ lb := by rintro rfl; simp at hc
        simp [this]
      · have heq : la[i] = lb[i] := by simpa using hc
        refine goS ?_
        refine at_loop (i + 1) (by repeat (first | exact True.intro | refine And.intro rfl ?_)) ⟨by omega, take_succ_eq hlt hlt2 ht heq, he.trans hw'⟩ (by omega)
    · have hge : i = la.length := by simp at hc; omega
      refine goS ?_
      refine at_ret1 rfl rfl ⟨?_, he⟩
      subst hge
      rw [List.take_length, hlen, List.take_length] at ht
      simp [ht]
def SmP (la : Ss) : Prop := ∀ (lb : Ss) va vb Fa Fb w, StS w va la Fa → StS w vb lb Fb → Ret Tryd.prog 17 [va, vb] w fun r w' => r = .bool (decide (la = lb)) ∧ Ext w w'
theorem same1_ret (op x y n op' x' y' n' : Int) (t e t' e' : Ss) (vt ve vt' ve' : Value) (Ft Fe Ft' Fe' : List Nat) (w : World) (ht : StS w vt t Ft) (he : StS w ve e Fe) (ht' : StS w vt' t' Ft') (he' : StS w ve' e' Fe') (it : SmP t) (ie : SmP e) :
    Ret Tryd.prog 32 [stV op x y n vt ve, stV op' x' y' n' vt' ve'] w fun r w' => r = .bool (decide (op = op' ∧ x = x' ∧ y = y' ∧ n = n' ∧ t = t' ∧ e = e')) ∧ Ext w w' := by
  refine enter Tryd.func32 rfl Tryd.ntmps32 rfl rfl ?_
  refine Z43 (Z44 (WO_box rfl fun w1 h1 e1 z1 => WO_box rfl fun w2 h2 e2 z2 => ?_))
  replace h1 : Blk w2 w.heap.size [.int .i64 op, .int .i64 x, .int .i64 y, .int .i64 n, vt, ve] _ := Blk.ext h1 e2
  replace h2 : Blk w2 w1.heap.size [.int .i64 op', .int .i64 x', .int .i64 y', .int .i64 n', vt', ve'] _ := h2
  simp only [z1] at h2
  simp only [z1]
  have e12 := e1.trans e2
  by_cases h4 : op = op' ∧ x = x' ∧ y = y' ∧ n = n'
  · obtain ⟨q1, q2, q3, q4⟩ := id h4
    (refine goS ?_; repeat' (first | ((refine Z51 rfl rfl (fun c' hc' => ?_)); cases c' <;> (try simp only [decide_eq_true_eq, decide_eq_false_iff_not, beq_iff_eq, beq_eq_false_iff_ne, bne_iff_ne, bne_eq_false_iff_eq, ne_eq, gt_iff_lt, ge_iff_le, Int.not_lt, Int.not_le, Bool.not_eq_true', Bool.not_eq_false', Bool.not_true, Bool.not_false, reduceCtorEq, Decidable.not_not, not_true_eq_false, Bool.true_eq_false, Bool.false_eq_true] at hc') <;> (try (exfalso; omega)) <;> refine goS ?_) | ((refine Z52 rfl (fun hc' => ?_) (fun hc' => ?_)) <;> (try simp only [decide_eq_true_eq, decide_eq_false_iff_not, beq_iff_eq, beq_eq_false_iff_ne, bne_iff_ne, bne_eq_false_iff_eq, ne_eq, gt_iff_lt, ge_iff_le, Int.not_lt, Int.not_le, Bool.not_eq_true', Bool.not_eq_false', Bool.not_true, Bool.not_false, reduceCtorEq, Decidable.not_not, not_true_eq_false, Bool.true_eq_false, Bool.false_eq_true] at hc') <;> (try (exfalso; omega)) <;> refine goS ?_)))
    refine WO_call rfl (it t' vt vt' Ft Ft' w2 (ht.ext e12) (ht'.ext e12)) ?_
    rintro r w3 ⟨rfl, e3⟩
    replace h1 := h1.ext e3
    replace h2 := h2.ext e3
    have e13 := e12.trans e3
    by_cases hs : t = t'
    · rw [decide_eq_true hs]
      (refine goS ?_; repeat' (first | ((refine Z51 rfl rfl (fun c' hc' => ?_)); cases c' <;> (try simp only [decide_eq_true_eq, decide_eq_false_iff_not, beq_iff_eq, beq_eq_false_iff_ne, bne_iff_ne, bne_eq_false_iff_eq, ne_eq, gt_iff_lt, ge_iff_le, Int.not_lt, Int.not_le, Bool.not_eq_true', Bool.not_eq_false', Bool.not_true, Bool.not_false, reduceCtorEq, Decidable.not_not, not_true_eq_false, Bool.true_eq_false, Bool.false_eq_true] at hc') <;> (try (exfalso; omega)) <;> refine goS ?_) | ((refine Z52 rfl (fun hc' => ?_) (fun hc' => ?_)) <;> (try simp only [decide_eq_true_eq, decide_eq_false_iff_not, beq_iff_eq, beq_eq_false_iff_ne, bne_iff_ne, bne_eq_false_iff_eq, ne_eq, gt_iff_lt, ge_iff_le, Int.not_lt, Int.not_le, Bool.not_eq_true', Bool.not_eq_false', Bool.not_true, Bool.not_false, reduceCtorEq, Decidable.not_not, not_true_eq_false, Bool.true_eq_false, Bool.false_eq_true] at hc') <;> (try (exfalso; omega)) <;> refine goS ?_)))
      refine WO_call rfl (ie e' ve ve' Fe Fe' w3 (he.ext e13) (he'.ext e13)) ?_
      rintro r w4 ⟨rfl, e4⟩
      refine goS ?_
      refine at_ret1 rfl rfl ⟨congrArg Value.bool ?_, e13.trans e4⟩
      simp [q1, q2, q3, q4, hs]
    · rw [decide_eq_false hs]
      (refine goS ?_; repeat' (first | ((refine Z51 rfl rfl (fun c' hc' => ?_)); cases c' <;> (try simp only [decide_eq_true_eq, decide_eq_false_iff_not, beq_iff_eq, beq_eq_false_iff_ne, bne_iff_ne, bne_eq_false_iff_eq, ne_eq, gt_iff_lt, ge_iff_le, Int.not_lt, Int.not_le, Bool.not_eq_true', Bool.not_eq_false', Bool.not_true, Bool.not_false, reduceCtorEq, Decidable.not_not, not_true_eq_false, Bool.true_eq_false, Bool.false_eq_true] at hc') <;> (try (exfalso; omega)) <;> refine goS ?_) | ((refine Z52 rfl (fun hc' => ?_) (fun hc' => ?_)) <;> (try simp only [decide_eq_true_eq, decide_eq_false_iff_not, beq_iff_eq, beq_eq_false_iff_ne, bne_iff_ne, bne_eq_false_iff_eq, ne_eq, gt_iff_lt, ge_iff_le, Int.not_lt, Int.not_le, Bool.not_eq_true', Bool.not_eq_false', Bool.not_true, Bool.not_false, reduceCtorEq, Decidable.not_not, not_true_eq_false, Bool.true_eq_false, Bool.false_eq_true] at hc') <;> (try (exfalso; omega)) <;> refine goS ?_)))
      refine at_ret1 rfl rfl ⟨congrArg Value.bool ?_, e13⟩
      simp [hs]
  · have hno : decide (op = op' ∧ x = x' ∧ y = y' ∧ n = n' ∧ t = t' ∧ e = e') = false := decide_eq_false fun h => h4 ⟨h.1, h.2.1, h.2.2.1, h.2.2.2.1⟩
    rw [hno]
    (refine goS ?_; repeat' (first | ((refine Z51 rfl rfl (fun c' hc' => ?_)); cases c' <;> (try simp only [decide_eq_true_eq, decide_eq_false_iff_not, beq_iff_eq, beq_eq_false_iff_ne, bne_iff_ne, bne_eq_false_iff_eq, ne_eq, gt_iff_lt, ge_iff_le, Int.not_lt, Int.not_le, Bool.not_eq_true', Bool.not_eq_false', Bool.not_true, Bool.not_false, reduceCtorEq, Decidable.not_not, not_true_eq_false, Bool.true_eq_false, Bool.false_eq_true] at hc') <;> (try (exfalso; omega)) <;> refine goS ?_) | ((refine Z52 rfl (fun hc' => ?_) (fun hc' => ?_)) <;> (try simp only [decide_eq_true_eq, decide_eq_false_iff_not, beq_iff_eq, beq_eq_false_iff_ne, bne_iff_ne, bne_eq_false_iff_eq, ne_eq, gt_iff_lt, ge_iff_le, Int.not_lt, Int.not_le, Bool.not_eq_true', Bool.not_eq_false', Bool.not_true, Bool.not_false, reduceCtorEq, Decidable.not_not, not_true_eq_false, Bool.true_eq_false, Bool.false_eq_true] at hc') <;> (try (exfalso; omega)) <;> refine goS ?_)))
    all_goals first
      | exact at_ret1 rfl rfl ⟨rfl, e12⟩
      | (exfalso; exact h4 ⟨by omega, by omega, by omega, by omega⟩)
      | (refine at_ret1 rfl rfl ⟨congrArg Value.bool ?_, e12⟩; simp; omega)
theorem sameStmts_all (l : Ss) : SmP l := Ss.strong (fun la ih => by
  intro lb va vb Fa Fb w ha hb
  have key : Ret Tryd.prog 31 [va, vb, .func (.func 32) #[] #[]] w fun r w' => r = .bool (decide (la = lb)) ∧ Ext w w' := by
    obtain ⟨A, ca, rfl, hla⟩ := ha.slice
    obtain ⟨B, cb, rfl, hlb⟩ := hb.slice
    have hra := restS_start ha
    have hrb := restS_start hb
    unfold maxI at hla hlb
    refine enter Tryd.func31 rfl Tryd.ntmps31 rfl rfl ?_
    refine goS ?_
    refine Z52 rfl (fun hc => ?_) (fun hc => ?_)
    · refine goS ?_
      refine at_ret1 rfl rfl ⟨?_, Ext.refl _⟩
      have : la ≠ lb := by rintro rfl; simp at hc
      simp [this]
    · have hlen : la.len = lb.len := by simp at hc; omega
      refine goS ?_
      refine W_loop (α := Nat × Ss × Ss) (fun p => [(1, .slice B lb.len cb), (2, .func (.func 32) #[] #[]), (15, .slice A la.len ca), (16, .int .i64 (la.len : Int)), (17, .int .i64 (p.1 : Int))])
        (fun p w' => p.1 + p.2.1.len = la.len ∧ p.2.1.len = p.2.2.len ∧ cntL p.2.1 ≤ cntL la ∧ (la = lb ↔ p.2.1 = p.2.2) ∧ RestS w A p.1 p.2.1 ∧ RestS w B p.1 p.2.2 ∧ Ext w w') (fun p => p.2.1.len) (0, la, lb) (by repeat (first | exact True.intro | refine And.intro rfl ?_)) ⟨by simp, hlen, Nat.le_refl _, Iff.rfl, hra, hrb, Ext.refl _⟩ ?_
      rintro ⟨i, ra, rb⟩ w1 ⟨hi, hl, hcl, hiff, hra, hrb, he⟩
      simp only at hi hl hcl hiff hra hrb ⊢
      refine goS ?_
      refine Z52 rfl (fun hc => ?_) (fun hc => ?_)
      · have hlt : i < la.len := by simpa using hc
        have hlt2 : i < lb.len := by omega
        cases ra with
        | nil => simp only [Ss.len] at hi; omega
        | cons op x y n t e ra =>
          cases rb with
          | nil => simp only [Ss.len] at hl; omega
          | cons op' x' y' n' t' e' rb =>
            obtain ⟨b, o, vt, ve, Ft, Fe, rfl, hcells, hT, hE, hra⟩ := restS_cons hra
            obtain ⟨b', o', vt', ve', Ft', Fe', rfl, hcells', hT', hE', hrb⟩ := restS_cons hrb
            simp only [Ss.len, cntL] at hi hl hcl
            refine goS ?_
            refine Z83 rfl rfl rfl hlt ?_
            refine WO_loadS rfl rfl (fun j u hu => cell_ext (hcells j u hu) he) ?_
            refine WO_alloc fun w2 hb2 he2 hz2 => ?_
            refine goS ?_
            refine WO_storeS rfl rfl rfl (stmt_one hT hE op x y n) hb2 (by simp [Value.cells]) fun w3 hb3 ho3 => ?_
            replace hb3 : Blk w3 w1.heap.size [Value.int .i64 op, .int .i64 x, .int .i64 y, .int .i64 n, vt, ve] _ := hb3
            have he3 : Ext w1 w3 := he2.only ho3 (Nat.le_refl _)
            have he03 := he.trans he3
            refine goS ?_
            refine Z83 rfl rfl rfl hlt2 ?_
            refine WO_loadS rfl rfl (fun j u hu => cell_ext (hcells' j u hu) he03) ?_
            refine WO_alloc fun w4 hb4 he4 hz4 => ?_
            refine WO_storeS rfl rfl rfl (stmt_one hT' hE' op' x' y' n') hb4 (by simp [Value.cells]) fun w5 hb5 ho5 => ?_
            replace hb5 : Blk w5 w3.heap.size [Value.int .i64 op', .int .i64 x', .int .i64 y', .int .i64 n', vt', ve'] _ := hb5
            have he5 : Ext w3 w5 := he4.only ho5 (Nat.le_refl _)
            have he05 := he03.trans he5
            refine goS ?_
            refine WO_loadSB rfl (hb3.ext he5) rfl ?_
            refine WO_loadSB rfl hb5 rfl ?_
            refine WO_callV (first := []) (captured := []) rfl rfl (same1_ret op x y n op' x' y' n' t e t' e' vt ve vt' ve' Ft Fe Ft' Fe' w5 (hT.ext he05) (hE.ext he05) (hT'.ext he05) (hE'.ext he05) (ih t (by omega)) (ih e (by omega))) ?_
            rintro _ w6 ⟨rfl, e6⟩
            by_cases hyes : op = op' ∧ x = x' ∧ y = y' ∧ n = n' ∧ t = t' ∧ e = e'
            · rw [decide_eq_true hyes]
              refine goS ?_
              refine at_loop (i + 1, ra, rb) (by repeat (first | exact True.intro | refine And.intro rfl ?_)) ⟨by simp only; omega, by simp only; omega, by simp only; omega, ?_, hra, hrb, he05.trans e6⟩ (by simp only [Ss.len]; omega)
              obtain ⟨q1, q2, q3, q4, q5, q6⟩ := hyes
              rw [hiff]
              simp [q1, q2, q3, q4, q5, q6]
            · rw [decide_eq_false hyes]
              refine goS ?_
              refine at_ret1 rfl rfl ⟨?_, he05.trans e6⟩
              have : la ≠ lb := fun h => by
                have := hiff.1 h
                simp only [Ss.cons.injEq] at this
                exact hyes ⟨this.1, this.2.1, this.2.2.1, this.2.2.2.1, this.2.2.2.2.1, this.2.2.2.2.2.1⟩
              simp [this]
      · have hge : i = la.len := by simp at hc; omega
        have hr0 : ra = .nil := Ss.len_zero (by omega)
        have hr1 : rb = .nil := Ss.len_zero (by omega)
        subst hr0; subst hr1
        refine goS ?_
        refine at_ret1 rfl rfl ⟨?_, he⟩
        simp [hiff]
  refine enter Tryd.func17 rfl Tryd.ntmps17 rfl rfl ?_
  refine goS ?_
  refine WO_call rfl key ?_
  rintro _ w1 ⟨rfl, e1⟩
  refine goS ?_
  exact at_ret1 rfl rfl ⟨rfl, e1⟩) l
theorem ProgramSame_ret (tv bv tv' bv' : Value) (tl tl' : List Int) (l l' : Ss) (F1 F2 F3 F4 : List Nat) (w : World) (h1 : IntF w tv tl F1) (h2 : StS w bv l F2) (h3 : IntF w tv' tl' F3) (h4 : StS w bv' l' F4) :
    Ret Tryd.prog 6 [prV tv bv, prV tv' bv'] w fun r w' => r = .bool (decide (tl = tl' ∧ l = l')) ∧ Ext w w' := by
  refine enter Tryd.func6 rfl Tryd.ntmps6 rfl rfl ?_
  refine Z43 (Z44 (WO_box rfl fun w1 k1 e1 z1 => WO_box rfl fun w2 k2 e2 z2 => ?_))
  replace k1 : Blk w2 w.heap.size [tv, bv] _ := Blk.ext k1 e2
  replace k2 : Blk w2 w1.heap.size [tv', bv'] _ := k2
  simp only [z1] at k2
  simp only [z1]
  have e12 := e1.trans e2
  refine goS ?_
  refine WO_call rfl (slEqual_ret tv tv' tl tl' F1 F3 w2 (h1.ext e12) (h3.ext e12)) ?_
  rintro r w3 ⟨rfl, e3⟩
  replace k1 := k1.ext e3
  replace k2 := k2.ext e3
  have e13 := e12.trans e3
  by_cases hs : tl = tl'
  · rw [decide_eq_true hs]
    refine goS ?_
    refine WO_call rfl (sameStmts_all l l' bv bv' F2 F4 w3 (h2.ext e13) (h4.ext e13)) ?_
    rintro r w4 ⟨rfl, e4⟩
    refine goS ?_
    refine at_ret1 rfl rfl ⟨congrArg Value.bool ?_, e13.trans e4⟩
    simp [hs]
  · rw [decide_eq_false hs]
    refine goS ?_
    refine at_ret1 rfl rfl ⟨congrArg Value.bool ?_, e13⟩
    simp [hs]
def SlP (la : Ss) : Prop := ∀ (lb : Ss) va vb Fa Fb w, StS w va la Fa → StS w vb lb Fb → Ret Tryd.prog 18 [va, vb] w fun r w' => r = .bool (decide (la = lb)) ∧ Ext w w'
theorem l1SameList_all (l : Ss) : SlP l := Ss.strong (fun la ih => by
  intro lb va vb Fa Fb w ha hb
  obtain ⟨A, ca, rfl, hla⟩ := ha.slice
  obtain ⟨B, cb, rfl, hlb⟩ := hb.slice
  have hra := restS_start ha
  have hrb := restS_start hb
  unfold maxI at hla hlb
  refine enter Tryd.func18 rfl Tryd.ntmps18 rfl rfl ?_
  refine goS ?_
  refine Z52 rfl (fun hc => ?_) (fun hc => ?_)
  · refine goS ?_
    refine at_ret1 rfl rfl ⟨?_, Ext.refl _⟩
    have : la ≠ lb := by rintro rfl; simp at hc
    simp [this]
  · have hlen : la.len = lb.len := by simp at hc; omega
    refine goS ?_
    refine W_loop (α := Nat × Ss × Ss) (fun p => [(0, .slice A la.len ca), (1, .slice B lb.len cb), (5, .int .i64 (p.1 : Int))])
      (fun p w' => p.1 + p.2.1.len = la.len ∧ p.2.1.len = p.2.2.len ∧ cntL p.2.1 ≤ cntL la ∧ (la = lb ↔ p.2.1 = p.2.2) ∧ RestS w A p.1 p.2.1 ∧ RestS w B p.1 p.2.2 ∧ Ext w w') (fun p => p.2.1.len) (0, la, lb) (by repeat (first | exact True.intro | refine And.intro rfl ?_)) ⟨by simp, hlen, Nat.le_refl _, Iff.rfl, hra, hrb, Ext.refl _⟩ ?_
    rintro ⟨i, ra, rb⟩ w1 ⟨hi, hl, hcl, hiff, hra, hrb, he⟩
    simp only at hi hl hcl hiff hra hrb ⊢
    refine goS ?_
    refine Z52 rfl (fun hc => ?_) (fun hc => ?_)
    · have hlt : i < la.len := by simpa using hc
      have hlt2 : i < lb.len := by omega
      cases ra with
      | nil => simp only [Ss.len] at hi; omega
      | cons op x y n t e ra =>
        cases rb with
        | nil => simp only [Ss.len] at hl; omega
        | cons op' x' y' n' t' e' rb =>
          obtain ⟨b, o, vt, ve, Ft, Fe, rfl, hcells, hT, hE, hra⟩ := restS_cons hra
          obtain ⟨b', o', vt', ve', Ft', Fe', rfl, hcells', hT', hE', hrb⟩ := restS_cons hrb
          simp only [Ss.len, cntL] at hi hl hcl
          refine goS ?_
          refine Z83 rfl rfl rfl hlt ?_
          refine WO_loadS rfl rfl (fun j u hu => cell_ext (hcells j u hu) he) ?_
          refine WO_alloc fun w2 hb2 he2 hz2 => ?_
          refine WO_storeS rfl rfl rfl (stmt_one hT hE op x y n) hb2 (by simp [Value.cells]) fun w3 hb3 ho3 => ?_
          replace hb3 : Blk w3 w1.heap.size [Value.int .i64 op, .int .i64 x, .int .i64 y, .int .i64 n, vt, ve] _ := hb3
          have he3 : Ext w1 w3 := he2.only ho3 (Nat.le_refl _)
          have he03 := he.trans he3
          clear hb2
          refine goS ?_
          refine Z83 rfl rfl rfl hlt2 ?_
          refine WO_loadS rfl rfl (fun j u hu => cell_ext (hcells' j u hu) he03) ?_
          refine WO_alloc fun w4 hb4 he4 hz4 => ?_
          refine WO_storeS rfl rfl rfl (stmt_one hT' hE' op' x' y' n') hb4 (by simp [Value.cells]) fun w5 hb5 ho5 => ?_
          replace hb5 : Blk w5 w3.heap.size [Value.int .i64 op', .int .i64 x', .int .i64 y', .int .i64 n', vt', ve'] _ := hb5
          have he5 : Ext w3 w5 := he4.only ho5 (Nat.le_refl _)
          have he05 := he03.trans he5
          replace hb3 := hb3.ext he5
          clear hb4
          have hne : ¬ (op = op' ∧ x = x' ∧ y = y' ∧ n = n' ∧ t = t' ∧ e = e') → la ≠ lb := fun hyes h => by
            have := hiff.1 h
            simp only [Ss.cons.injEq] at this
            exact hyes ⟨this.1, this.2.1, this.2.2.1, this.2.2.2.1, this.2.2.2.2.1, this.2.2.2.2.2.1⟩
          by_cases h4 : op = op' ∧ x = x' ∧ y = y' ∧ n = n'
          · obtain ⟨q1, q2, q3, q4⟩ := h4
            (refine goS ?_; repeat' (first | ((refine Z51 rfl rfl (fun c' hc' => ?_)); cases c' <;> (try simp only [decide_eq_true_eq, decide_eq_false_iff_not, beq_iff_eq, beq_eq_false_iff_ne, bne_iff_ne, bne_eq_false_iff_eq, ne_eq, gt_iff_lt, ge_iff_le, Int.not_lt, Int.not_le, Bool.not_eq_true', Bool.not_eq_false', Bool.not_true, Bool.not_false, reduceCtorEq, Decidable.not_not, not_true_eq_false, Bool.true_eq_false, Bool.false_eq_true] at hc') <;> (try (exfalso; omega)) <;> refine goS ?_) | ((refine Z52 rfl (fun hc' => ?_) (fun hc' => ?_)) <;> (try simp only [decide_eq_true_eq, decide_eq_false_iff_not, beq_iff_eq, beq_eq_false_iff_ne, bne_iff_ne, bne_eq_false_iff_eq, ne_eq, gt_iff_lt, ge_iff_le, Int.not_lt, Int.not_le, Bool.not_eq_true', Bool.not_eq_false', Bool.not_true, Bool.not_false, reduceCtorEq, Decidable.not_not, not_true_eq_false, Bool.true_eq_false, Bool.false_eq_true] at hc') <;> (try (exfalso; omega)) <;> refine goS ?_)))
            refine WO_call rfl (ih t (by omega) t' vt vt' Ft Ft' w5 (hT.ext he05) (hT'.ext he05)) ?_
            rintro r w6 ⟨rfl, e6⟩
            replace hb3 := hb3.ext e6
            replace hb5 := hb5.ext e6
            have he06 := he05.trans e6
            by_cases hs : t = t'
            · rw [decide_eq_true hs]
              refine goS ?_
              refine WO_call rfl (ih e (by omega) e' ve ve' Fe Fe' w6 (hE.ext he06) (hE'.ext he06)) ?_
              rintro r w7 ⟨rfl, e7⟩
              by_cases hs2 : e = e'
              · rw [decide_eq_true hs2]
                refine goS ?_
                refine at_loop (i + 1, ra, rb) (by repeat (first | exact True.intro | refine And.intro rfl ?_)) ⟨by simp only; omega, by simp only; omega, by simp only; omega, ?_, hra, hrb, he06.trans e7⟩ (by simp only [Ss.len]; omega)
                rw [hiff]
                simp [q1, q2, q3, q4, hs, hs2]
              · rw [decide_eq_false hs2]
                refine goS ?_
                refine at_ret1 rfl rfl ⟨?_, he06.trans e7⟩
                simp [hne (fun h => hs2 h.2.2.2.2.2)]
            · rw [decide_eq_false hs]
              refine goS ?_
              refine at_ret1 rfl rfl ⟨?_, he06⟩
              simp [hne (fun h => hs h.2.2.2.2.1)]
          · have hn := hne (fun h => h4 ⟨h.1, h.2.1, h.2.2.1, h.2.2.2.1⟩)
            rw [decide_eq_false hn]
            (refine goS ?_; repeat' (first | ((refine Z51 rfl rfl (fun c' hc' => ?_)); cases c' <;> (try simp only [decide_eq_true_eq, decide_eq_false_iff_not, beq_iff_eq, beq_eq_false_iff_ne, bne_iff_ne, bne_eq_false_iff_eq, ne_eq, gt_iff_lt, ge_iff_le, Int.not_lt, Int.not_le, Bool.not_eq_true', Bool.not_eq_false', Bool.not_true, Bool.not_false, reduceCtorEq, Decidable.not_not, not_true_eq_false, Bool.true_eq_false, Bool.false_eq_true] at hc') <;> (try (exfalso; omega)) <;> refine goS ?_) | ((refine Z52 rfl (fun hc' => ?_) (fun hc' => ?_)) <;> (try simp only [decide_eq_true_eq, decide_eq_false_iff_not, beq_iff_eq, beq_eq_false_iff_ne, bne_iff_ne, bne_eq_false_iff_eq, ne_eq, gt_iff_lt, ge_iff_le, Int.not_lt, Int.not_le, Bool.not_eq_true', Bool.not_eq_false', Bool.not_true, Bool.not_false, reduceCtorEq, Decidable.not_not, not_true_eq_false, Bool.true_eq_false, Bool.false_eq_true] at hc') <;> (try (exfalso; omega)) <;> refine goS ?_)))
            all_goals first
              | exact at_ret1 rfl rfl ⟨rfl, he05⟩
              | (exfalso; exact h4 ⟨by omega, by omega, by omega, by omega⟩)
    · have hge : i = la.len := by simp at hc; omega
      have hr0 : ra = .nil := Ss.len_zero (by omega)
      have hr1 : rb = .nil := Ss.len_zero (by omega)
      subst hr0; subst hr1
      refine goS ?_
      refine at_ret1 rfl rfl ⟨?_, he⟩
      simp [hiff]) l
theorem sProgramSame_ret (tv bv tv' bv' : Value) (tl tl' : List Int) (l l' : Ss) (F1 F2 F3 F4 : List Nat) (w : World) (h1 : IntF w tv tl F1) (h2 : StS w bv l F2) (h3 : IntF w tv' tl' F3) (h4 : StS w bv' l' F4) :
    Ret Tryd.prog 7 [prV tv bv, prV tv' bv'] w fun r w' => r = .bool (decide (tl = tl' ∧ l = l')) ∧ Ext w w' := by
  obtain ⟨A, ca, rfl, hla, hA⟩ := h1
  obtain ⟨B, cb, rfl, hlb, hB⟩ := h3
  unfold maxI at hla hlb
  refine enter Tryd.func7 rfl Tryd.ntmps7 rfl rfl ?_
  refine Z43 (Z44 (WO_box rfl fun w1 k1 e1 z1 => WO_box rfl fun w2 k2 e2 z2 => ?_))
  replace k1 : Blk w2 w.heap.size [.slice A tl.length ca, bv] _ := Blk.ext k1 e2
  replace k2 : Blk w2 w1.heap.size [.slice B tl'.length cb, bv'] _ := k2
  simp only [z1] at k2
  simp only [z1]
  have e12 := e1.trans e2
  refine goS ?_
  refine Z52 rfl (fun hc => ?_) (fun hc => ?_)
  · refine goS ?_
    refine at_ret1 rfl rfl ⟨?_, e12⟩
    have : tl ≠ tl' := by rintro rfl; simp at hc
    simp [this]
  · have hlen : tl.length = tl'.length := by simp at hc; omega
    refine goS ?_
    refine W_loop (α := Nat) (fun i => [(2, .pointer (some ⟨w.heap.size, 0, none⟩)), (3, .pointer (some ⟨w.heap.size + 1, 0, none⟩)), (5, .int .i64 (i : Int))])
      (fun i w' => i ≤ tl.length ∧ tl.take i = tl'.take i ∧ Ext w2 w') (fun i => tl.length - i) 0 (by repeat (first | exact True.intro | refine And.intro rfl ?_)) ⟨Nat.zero_le _, rfl, Ext.refl _⟩ ?_
    rintro i w3 ⟨hi, ht, he⟩
    replace k1 := k1.ext he
    replace k2 := k2.ext he
    refine goS ?_
    refine Z52 rfl (fun hc => ?_) (fun hc => ?_)
    · have hlt : i < tl.length := by simpa using hc
      have hlt2 : i < tl'.length := by omega
      obtain ⟨ba, oa, rfl, _, hca⟩ := int_at hA hlt
      obtain ⟨bb, ob, rfl, _, hcb⟩ := int_at hB hlt2
      have hca := cell_ext hca (e12.trans he)
      have hcb := cell_ext hcb (e12.trans he)
      refine goS ?_
      refine Z54 (by kernel_rfl) (by kernel_rfl) ?_; repeat' (first | refine Z55 (Z56 rfl) ?_ | (refine Z57 ?_; first | refine Z58 rfl rfl (by decide) ?_ | refine Z59 rfl rfl (by decide) ?_ | refine Z60 rfl rfl ?_ | ((refine Z61 rfl rfl (fun c' hc' => ?_)); cases c' <;> (try simp only [decide_eq_true_eq, decide_eq_false_iff_not, beq_iff_eq, beq_eq_false_iff_ne, bne_iff_ne, bne_eq_false_iff_eq, ne_eq, gt_iff_lt, ge_iff_le, Int.not_lt, Int.not_le, Bool.not_eq_true', Bool.not_eq_false', Bool.not_true, Bool.not_false, reduceCtorEq, Decidable.not_not, not_true_eq_false, Bool.true_eq_false, Bool.false_eq_true] at hc') <;> (try (exfalso; omega)))) | (refine Z62 ?_; first | refine Z55 (Z63 rfl rfl) ?_ | refine Z55 (Z64 rfl rfl) ?_) | (refine Z65 ?_; first | refine Z55 (Z66 rfl (by assumption) (by rfl)) ?_ | refine Z55 (Z67 rfl (by assumption)) ?_) | (refine Z68 ?_; refine Z55 (Z69 rfl rfl rfl (by omega)) ?_) | (refine Z70 ?_; first | refine Z55 (Z14 rfl (by decide) rfl) ?_ | refine Z55 (Z15 rfl (by decide) rfl) ?_) | (refine Z71 ?_; first | refine Z55 (Z72 rfl) ?_ | refine Z55 (Z73 rfl) ?_) | (refine Z74 ?_; first | refine Z55 (Z75 rfl rfl (by omega)) ?_ | refine Z55 (Z76 rfl rfl (by omega)) ?_ | refine Z55 (Z77 rfl rfl (by omega)) ?_ | refine Z55 (Z78 rfl rfl (by omega) (by omega)) ?_ | refine Z55 (Z79 rfl rfl (by omega) (by omega) (by omega)) ?_ | refine Z55 (Z25 rfl rfl) ?_ | refine Z55 (Z26 rfl rfl) ?_) | (refine Z80 ?_; refine Z55 (Z28 rfl (Z53 ⟨by omega, by omega⟩)) ?_) | refine Z81 fun w' hw' => ?_)
      refine goS ?_
      refine Z52 rfl (fun hc => ?_) (fun hc => ?_)
      · refine goS ?_
        refine at_ret1 rfl rfl ⟨?_, (e12.trans he).trans hw'⟩
        have : tl ≠ tl' := by rintro rfl; simp at hc
        simp [this]
      · have heq : tl[i] = tl'[i] := by simpa using hc
        refine goS ?_
        refine at_loop (i + 1) (by repeat (first | exact True.intro | refine And.intro rfl ?_)) ⟨by omega, take_succ_eq hlt hlt2 ht heq, he.trans hw'⟩ (by omega)
    · have hge : i = tl.length := by simp at hc; omega
      have heq : tl = tl' := by
        subst hge
        rwa [List.take_length, hlen, List.take_length] at ht
      refine goS ?_
      refine WO_call rfl (l1SameList_all l l' bv bv' F2 F4 w3 (h2.ext (e12.trans he)) (h4.ext (e12.trans he))) ?_
      rintro r w4 ⟨rfl, e4⟩
      refine goS ?_
      refine at_ret1 rfl rfl ⟨congrArg Value.bool ?_, (e12.trans he).trans e4⟩
      simp [heq]
end Go.Proofs.YtplcmbipeanjdaaDoor
