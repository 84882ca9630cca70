/-
  What is proved here: when the program's and the reference's comparisons of statements and programs answer true; the law ProgramText on drawn programs and texts: a valid program is read back from its text, and what is read from a text has that text; the last step of a row whose call leaves all old memory as it was: the arguments read as they did; an argument that is a slice of bytes or of numbers, read as data, is what the walks ask.
-/
import Derived.Test.YtplcmbipeanjdaaGreatDoorM5
import Derived.Test.YtplcmbipeanjdaaGreatDoorM13
import Derived.Test.YtplcmbipeanjdaaGreatDoorM15
import Derived.Test.YtplcmbipeanjdaaGreatDoorM16
import Derived.Test.YtplcmbipeanjdaaGreatDoorRows
import Derived.ProofKit
import Derived.OpenShut
import Derived.Below
import Derived.ChangeSame
import Derived.Test.YtplcmbipeanjdaaGreatDoorM10
namespace Go.Proofs.YtplcmbipeanjdaaGreatDoor
set_option linter.unusedVariables false
set_option linter.unusedSimpArgs false
set_option linter.unnecessarySimpa false
open Go.RowKit

theorem slEqual_ret (va vb : Value) (la lb : List Int) (Fa Fb : List Nat) (w : World) (ha : IntF w va la Fa) (hb : IntF w vb lb Fb) :
    Ret Tryz.prog 24 [va, vb] w fun v w' => v = .bool (decide (la = lb)) ∧ Ext w w' := by
  obtain ⟨A, ca, rfl, hla, hA⟩ := ha
  obtain ⟨B, cb, rfl, hlb, hB⟩ := hb
  unfold maxI at hla hlb
  refine enter Tryz.func24 rfl Tryz.ntmps24 rfl rfl ?_
  refine goS ?_
  refine Z52 rfl (fun hc => ?_) (fun hc => ?_)
  · refine goS ?_
    refine at_ret1 rfl rfl ⟨?_, Ext.refl _⟩
    have : la ≠ lb := by rintro rfl; simp at hc
    simp [this]
  · have hlen : la.length = lb.length := by simp at hc; omega
    refine goS ?_
    refine W_loop (α := Nat) (fun i => [(0, .slice A la.length ca), (1, .slice B lb.length cb), (12, .int .i64 (la.length : Int)), (13, .int .i64 (i : Int))])
      (fun i w' => i ≤ la.length ∧ la.take i = lb.take i ∧ Ext w w') (fun i => la.length - i) 0 (by repeat (first | exact True.intro | refine And.intro rfl ?_)) ⟨Nat.zero_le _, rfl, Ext.refl _⟩ ?_
    rintro i w1 ⟨hi, ht, he⟩
    refine goS ?_
    refine Z52 rfl (fun hc => ?_) (fun hc => ?_)
    · have hlt : i < la.length := by simpa using hc
      have hlt2 : i < lb.length := by omega
      obtain ⟨ba, oa, rfl, _, hca⟩ := int_at hA hlt
      obtain ⟨bb, ob, rfl, _, hcb⟩ := int_at hB hlt2
      have hca := cell_ext hca he
      have hcb := cell_ext hcb he
      refine goS ?_
      refine Z54 (by kernel_rfl) (by kernel_rfl) ?_; repeat' (first | refine Z55 (Z56 rfl) ?_ | (refine Z57 ?_; first | refine Z58 rfl rfl (by decide) ?_ | refine Z59 rfl rfl (by decide) ?_ | refine Z60 rfl rfl ?_ | ((refine Z61 rfl rfl (fun c' hc' => ?_)); cases c' <;> (try simp only [decide_eq_true_eq, decide_eq_false_iff_not, beq_iff_eq, beq_eq_false_iff_ne, bne_iff_ne, bne_eq_false_iff_eq, ne_eq, gt_iff_lt, ge_iff_le, Int.not_lt, Int.not_le, Bool.not_eq_true', Bool.not_eq_false', Bool.not_true, Bool.not_false, reduceCtorEq, Decidable.not_not, not_true_eq_false, Bool.true_eq_false, Bool.false_eq_true] at hc') <;> (try (exfalso; omega)))) | (refine Z62 ?_; first | refine Z55 (Z63 rfl rfl) ?_ | refine Z55 (Z64 rfl rfl) ?_) | (refine Z65 ?_; first | refine Z55 (Z66 rfl (by assumption) (by rfl)) ?_ | refine Z55 (Z67 rfl (by assumption)) ?_) | (refine Z68 ?_; refine Z55 (Z69 rfl rfl rfl (by omega)) ?_) | (refine Z70 ?_; first | refine Z55 (Z14 rfl (by decide) rfl) ?_ | refine Z55 (Z15 rfl (by decide) rfl) ?_) | (refine Z71 ?_; first | refine Z55 (Z72 rfl) ?_ | refine Z55 (Z73 rfl) ?_) | (refine Z74 ?_; first | refine Z55 (Z75 rfl rfl (by omega)) ?_ | refine Z55 (Z76 rfl rfl (by omega)) ?_ | refine Z55 (Z77 rfl rfl (by omega)) ?_ | refine Z55 (Z78 rfl rfl (by omega) (by omega)) ?_ | refine Z55 (Z79 rfl rfl (by omega) (by omega) (by omega)) ?_ | refine Z55 (Z25 rfl rfl) ?_ | refine Z55 (Z26 rfl rfl) ?_) | (refine Z80 ?_; refine Z55 (Z28 rfl (Z53 ⟨by omega, by omega⟩)) ?_) | refine Z81 fun w' hw' => ?_)
      refine goS ?_
      refine Z52 rfl (fun hc => ?_) (fun hc => ?_)
      · refine goS ?_
        refine at_ret1 rfl rfl ⟨?_, he.trans hw'⟩
        have : la ≠ lb := by rintro rfl; simp at hc
        simp [this]
      · have heq : la[i] = lb[i] := by simpa using hc
        refine goS ?_
        refine at_loop (i + 1) (by repeat (first | exact True.intro | refine And.intro rfl ?_)) ⟨by omega, take_succ_eq hlt hlt2 ht heq, he.trans hw'⟩ (by omega)
    · have hge : i = la.length := by simp at hc; omega
      refine goS ?_
      refine at_ret1 rfl rfl ⟨?_, he⟩
      subst hge
      rw [List.take_length, hlen, List.take_length] at ht
      simp [ht]
def SmP (la : Ss) : Prop := ∀ (lb : Ss) va vb Fa Fb w, StS w va la Fa → StS w vb lb Fb → Ret Tryz.prog 25 [va, vb] w fun r w' => r = .bool (decide (la = lb)) ∧ Ext w w'
theorem same1_ret (op x y n op' x' y' n' : Int) (t e t' e' : Ss) (vt ve vt' ve' : Value) (Ft Fe Ft' Fe' : List Nat) (w : World) (ht : StS w vt t Ft) (he : StS w ve e Fe) (ht' : StS w vt' t' Ft') (he' : StS w ve' e' Fe') (it : SmP t) (ie : SmP e) :
    Ret Tryz.prog 43 [stV op x y n vt ve, stV op' x' y' n' vt' ve'] w fun r w' => r = .bool (decide (op = op' ∧ x = x' ∧ y = y' ∧ n = n' ∧ t = t' ∧ e = e')) ∧ Ext w w' := by
  refine enter Tryz.func43 rfl Tryz.ntmps43 rfl rfl ?_
  refine Z43 (Z44 (WO_box rfl fun w1 h1 e1 z1 => WO_box rfl fun w2 h2 e2 z2 => ?_))
  replace h1 : Blk w2 w.heap.size [.int .i64 op, .int .i64 x, .int .i64 y, .int .i64 n, vt, ve] _ := Blk.ext h1 e2
  replace h2 : Blk w2 w1.heap.size [.int .i64 op', .int .i64 x', .int .i64 y', .int .i64 n', vt', ve'] _ := h2
  simp only [z1] at h2
  simp only [z1]
  have e12 := e1.trans e2
  by_cases h4 : op = op' ∧ x = x' ∧ y = y' ∧ n = n'
  · obtain ⟨q1, q2, q3, q4⟩ := id h4
    (refine goS ?_; repeat' (first | ((refine Z51 rfl rfl (fun c' hc' => ?_)); cases c' <;> (try simp only [decide_eq_true_eq, decide_eq_false_iff_not, beq_iff_eq, beq_eq_false_iff_ne, bne_iff_ne, bne_eq_false_iff_eq, ne_eq, gt_iff_lt, ge_iff_le, Int.not_lt, Int.not_le, Bool.not_eq_true', Bool.not_eq_false', Bool.not_true, Bool.not_false, reduceCtorEq, Decidable.not_not, not_true_eq_false, Bool.true_eq_false, Bool.false_eq_true] at hc') <;> (try (exfalso; omega)) <;> refine goS ?_) | ((refine Z52 rfl (fun hc' => ?_) (fun hc' => ?_)) <;> (try simp only [decide_eq_true_eq, decide_eq_false_iff_not, beq_iff_eq, beq_eq_false_iff_ne, bne_iff_ne, bne_eq_false_iff_eq, ne_eq, gt_iff_lt, ge_iff_le, Int.not_lt, Int.not_le, Bool.not_eq_true', Bool.not_eq_false', Bool.not_true, Bool.not_false, reduceCtorEq, Decidable.not_not, not_true_eq_false, Bool.true_eq_false, Bool.false_eq_true] at hc') <;> (try (exfalso; omega)) <;> refine goS ?_)))
    refine WO_call rfl (it t' vt vt' Ft Ft' w2 (ht.ext e12) (ht'.ext e12)) ?_
    rintro r w3 ⟨rfl, e3⟩
    replace h1 := h1.ext e3
    replace h2 := h2.ext e3
    have e13 := e12.trans e3
    by_cases hs : t = t'
    · rw [decide_eq_true hs]
      (refine goS ?_; repeat' (first | ((refine Z51 rfl rfl (fun c' hc' => ?_)); cases c' <;> (try simp only [decide_eq_true_eq, decide_eq_false_iff_not, beq_iff_eq, beq_eq_false_iff_ne, bne_iff_ne, bne_eq_false_iff_eq, ne_eq, gt_iff_lt, ge_iff_le, Int.not_lt, Int.not_le, Bool.not_eq_true', Bool.not_eq_false', Bool.not_true, Bool.not_false, reduceCtorEq, Decidable.not_not, not_true_eq_false, Bool.true_eq_false, Bool.false_eq_true] at hc') <;> (try (exfalso; omega)) <;> refine goS ?_) | ((refine Z52 rfl (fun hc' => ?_) (fun hc' => ?_)) <;> (try simp only [decide_eq_true_eq, decide_eq_false_iff_not, beq_iff_eq, beq_eq_false_iff_ne, bne_iff_ne, bne_eq_false_iff_eq, ne_eq, gt_iff_lt, ge_iff_le, Int.not_lt, Int.not_le, Bool.not_eq_true', Bool.not_eq_false', Bool.not_true, Bool.not_false, reduceCtorEq, Decidable.not_not, not_true_eq_false, Bool.true_eq_false, Bool.false_eq_true] at hc') <;> (try (exfalso; omega)) <;> refine goS ?_)))
      refine WO_call rfl (ie e' ve ve' Fe Fe' w3 (he.ext e13) (he'.ext e13)) ?_
      rintro r w4 ⟨rfl, e4⟩
      refine goS ?_
      refine at_ret1 rfl rfl ⟨congrArg Value.bool ?_, e13.trans e4⟩
      simp [q1, q2, q3, q4, hs]
    · rw [decide_eq_false hs]
      (refine goS ?_; repeat' (first | ((refine Z51 rfl rfl (fun c' hc' => ?_)); cases c' <;> (try simp only [decide_eq_true_eq, decide_eq_false_iff_not, beq_iff_eq, beq_eq_false_iff_ne, bne_iff_ne, bne_eq_false_iff_eq, ne_eq, gt_iff_lt, ge_iff_le, Int.not_lt, Int.not_le, Bool.not_eq_true', Bool.not_eq_false', Bool.not_true, Bool.not_false, reduceCtorEq, Decidable.not_not, not_true_eq_false, Bool.true_eq_false, Bool.false_eq_true] at hc') <;> (try (exfalso; omega)) <;> refine goS ?_) | ((refine Z52 rfl (fun hc' => ?_) (fun hc' => ?_)) <;> (try simp only [decide_eq_true_eq, decide_eq_false_iff_not, beq_iff_eq, beq_eq_false_iff_ne, bne_iff_ne, bne_eq_false_iff_eq, ne_eq, gt_iff_lt, ge_iff_le, Int.not_lt, Int.not_le, Bool.not_eq_true', Bool.not_eq_false', Bool.not_true, Bool.not_false, reduceCtorEq, Decidable.not_not, not_true_eq_false, Bool.true_eq_false, Bool.false_eq_true] at hc') <;> (try (exfalso; omega)) <;> refine goS ?_)))
      refine at_ret1 rfl rfl ⟨congrArg Value.bool ?_, e13⟩
      simp [hs]
  · have hno : decide (op = op' ∧ x = x' ∧ y = y' ∧ n = n' ∧ t = t' ∧ e = e') = false := decide_eq_false fun h => h4 ⟨h.1, h.2.1, h.2.2.1, h.2.2.2.1⟩
    rw [hno]
    (refine goS ?_; repeat' (first | ((refine Z51 rfl rfl (fun c' hc' => ?_)); cases c' <;> (try simp only [decide_eq_true_eq, decide_eq_false_iff_not, beq_iff_eq, beq_eq_false_iff_ne, bne_iff_ne, bne_eq_false_iff_eq, ne_eq, gt_iff_lt, ge_iff_le, Int.not_lt, Int.not_le, Bool.not_eq_true', Bool.not_eq_false', Bool.not_true, Bool.not_false, reduceCtorEq, Decidable.not_not, not_true_eq_false, Bool.true_eq_false, Bool.false_eq_true] at hc') <;> (try (exfalso; omega)) <;> refine goS ?_) | ((refine Z52 rfl (fun hc' => ?_) (fun hc' => ?_)) <;> (try simp only [decide_eq_true_eq, decide_eq_false_iff_not, beq_iff_eq, beq_eq_false_iff_ne, bne_iff_ne, bne_eq_false_iff_eq, ne_eq, gt_iff_lt, ge_iff_le, Int.not_lt, Int.not_le, Bool.not_eq_true', Bool.not_eq_false', Bool.not_true, Bool.not_false, reduceCtorEq, Decidable.not_not, not_true_eq_false, Bool.true_eq_false, Bool.false_eq_true] at hc') <;> (try (exfalso; omega)) <;> refine goS ?_)))
    all_goals first
      | exact at_ret1 rfl rfl ⟨rfl, e12⟩
      | (exfalso; exact h4 ⟨by omega, by omega, by omega, by omega⟩)
      | (refine at_ret1 rfl rfl ⟨congrArg Value.bool ?_, e12⟩; simp; omega)
theorem sameStmts_all (l : Ss) : SmP l := Ss.strong (fun la ih => by
  intro lb va vb Fa Fb w ha hb
  have key : Ret Tryz.prog 42 [va, vb, .func (.func 43) #[] #[]] w fun r w' => r = .bool (decide (la = lb)) ∧ Ext w w' := by
    obtain ⟨A, ca, rfl, hla⟩ := ha.slice
    obtain ⟨B, cb, rfl, hlb⟩ := hb.slice
    have hra := restS_start ha
    have hrb := restS_start hb
    unfold maxI at hla hlb
    refine enter Tryz.func42 rfl Tryz.ntmps42 rfl rfl ?_
    refine goS ?_
    refine Z52 rfl (fun hc => ?_) (fun hc => ?_)
    · refine goS ?_
      refine at_ret1 rfl rfl ⟨?_, Ext.refl _⟩
      have : la ≠ lb := by rintro rfl; simp at hc
      simp [this]
    · have hlen : la.len = lb.len := by simp at hc; omega
      refine goS ?_
      refine W_loop (α := Nat × Ss × Ss) (fun p => [(1, .slice B lb.len cb), (2, .func (.func 43) #[] #[]), (15, .slice A la.len ca), (16, .int .i64 (la.len : Int)), (17, .int .i64 (p.1 : Int))])
        (fun p w' => p.1 + p.2.1.len = la.len ∧ p.2.1.len = p.2.2.len ∧ cntL p.2.1 ≤ cntL la ∧ (la = lb ↔ p.2.1 = p.2.2) ∧ RestS w A p.1 p.2.1 ∧ RestS w B p.1 p.2.2 ∧ Ext w w') (fun p => p.2.1.len) (0, la, lb) (by repeat (first | exact True.intro | refine And.intro rfl ?_)) ⟨by simp, hlen, Nat.le_refl _, Iff.rfl, hra, hrb, Ext.refl _⟩ ?_
      rintro ⟨i, ra, rb⟩ w1 ⟨hi, hl, hcl, hiff, hra, hrb, he⟩
      simp only at hi hl hcl hiff hra hrb ⊢
      refine goS ?_
      refine Z52 rfl (fun hc => ?_) (fun hc => ?_)
      · have hlt : i < la.len := by simpa using hc
        have hlt2 : i < lb.len := by omega
        cases ra with
        | nil => simp only [Ss.len] at hi; omega
        | cons op x y n t e ra =>
          cases rb with
          | nil => simp only [Ss.len] at hl; omega
          | cons op' x' y' n' t' e' rb =>
            obtain ⟨b, o, vt, ve, Ft, Fe, rfl, hcells, hT, hE, hra⟩ := restS_cons hra
            obtain ⟨b', o', vt', ve', Ft', Fe', rfl, hcells', hT', hE', hrb⟩ := restS_cons hrb
            simp only [Ss.len, cntL] at hi hl hcl
            refine goS ?_
            refine Z83 rfl rfl rfl hlt ?_
            refine WO_loadS rfl rfl (fun j u hu => cell_ext (hcells j u hu) he) ?_
            refine WO_alloc fun w2 hb2 he2 hz2 => ?_
            refine goS ?_
            refine WO_storeS rfl rfl rfl (stmt_one hT hE op x y n) hb2 (by simp [Value.cells]) fun w3 hb3 ho3 => ?_
            replace hb3 : Blk w3 w1.heap.size [Value.int .i64 op, .int .i64 x, .int .i64 y, .int .i64 n, vt, ve] _ := hb3
            have he3 : Ext w1 w3 := he2.only ho3 (Nat.le_refl _)
            have he03 := he.trans he3
            refine goS ?_
            refine Z83 rfl rfl rfl hlt2 ?_
            refine WO_loadS rfl rfl (fun j u hu => cell_ext (hcells' j u hu) he03) ?_
            refine WO_alloc fun w4 hb4 he4 hz4 => ?_
            refine WO_storeS rfl rfl rfl (stmt_one hT' hE' op' x' y' n') hb4 (by simp [Value.cells]) fun w5 hb5 ho5 => ?_
            replace hb5 : Blk w5 w3.heap.size [Value.int .i64 op', .int .i64 x', .int .i64 y', .int .i64 n', vt', ve'] _ := hb5
            have he5 : Ext w3 w5 := he4.only ho5 (Nat.le_refl _)
            have he05 := he03.trans he5
            refine goS ?_
            refine WO_loadSB rfl (hb3.ext he5) rfl ?_
            refine WO_loadSB rfl hb5 rfl ?_
            refine WO_callV (first := []) (captured := []) rfl rfl (same1_ret op x y n op' x' y' n' t e t' e' vt ve vt' ve' Ft Fe Ft' Fe' w5 (hT.ext he05) (hE.ext he05) (hT'.ext he05) (hE'.ext he05) (ih t (by omega)) (ih e (by omega))) ?_
            rintro _ w6 ⟨rfl, e6⟩
            by_cases hyes : op = op' ∧ x = x' ∧ y = y' ∧ n = n' ∧ t = t' ∧ e = e'
            · rw [decide_eq_true hyes]
              refine goS ?_
              refine at_loop (i + 1, ra, rb) (by repeat (first | exact True.intro | refine And.intro rfl ?_)) ⟨by simp only; omega, by simp only; omega, by simp only; omega, ?_, hra, hrb, he05.trans e6⟩ (by simp only [Ss.len]; omega)
              obtain ⟨q1, q2, q3, q4, q5, q6⟩ := hyes
              rw [hiff]
              simp [q1, q2, q3, q4, q5, q6]
            · rw [decide_eq_false hyes]
              refine goS ?_
              refine at_ret1 rfl rfl ⟨?_, he05.trans e6⟩
              have : la ≠ lb := fun h => by
                have := hiff.1 h
                simp only [Ss.cons.injEq] at this
                exact hyes ⟨this.1, this.2.1, this.2.2.1, this.2.2.2.1, this.2.2.2.2.1, this.2.2.2.2.2.1⟩
              simp [this]
      · have hge : i = la.len := by simp at hc; omega
        have hr0 : ra = .nil := Ss.len_zero (by omega)
        have hr1 : rb = .nil := Ss.len_zero (by omega)
        subst hr0; subst hr1
        refine goS ?_
        refine at_ret1 rfl rfl ⟨?_, he⟩
        simp [hiff]
  refine enter Tryz.func25 rfl Tryz.ntmps25 rfl rfl ?_
  refine goS ?_
  refine WO_call rfl key ?_
  rintro _ w1 ⟨rfl, e1⟩
  refine goS ?_
  exact at_ret1 rfl rfl ⟨rfl, e1⟩) l
theorem ProgramSame_ret (tv bv tv' bv' : Value) (tl tl' : List Int) (l l' : Ss) (F1 F2 F3 F4 : List Nat) (w : World) (h1 : IntF w tv tl F1) (h2 : StS w bv l F2) (h3 : IntF w tv' tl' F3) (h4 : StS w bv' l' F4) :
    Ret Tryz.prog 10 [prV tv bv, prV tv' bv'] w fun r w' => r = .bool (decide (tl = tl' ∧ l = l')) ∧ Ext w w' := by
  refine enter Tryz.func10 rfl Tryz.ntmps10 rfl rfl ?_
  refine Z43 (Z44 (WO_box rfl fun w1 k1 e1 z1 => WO_box rfl fun w2 k2 e2 z2 => ?_))
  replace k1 : Blk w2 w.heap.size [tv, bv] _ := Blk.ext k1 e2
  replace k2 : Blk w2 w1.heap.size [tv', bv'] _ := k2
  simp only [z1] at k2
  simp only [z1]
  have e12 := e1.trans e2
  refine goS ?_
  refine WO_call rfl (slEqual_ret tv tv' tl tl' F1 F3 w2 (h1.ext e12) (h3.ext e12)) ?_
  rintro r w3 ⟨rfl, e3⟩
  replace k1 := k1.ext e3
  replace k2 := k2.ext e3
  have e13 := e12.trans e3
  by_cases hs : tl = tl'
  · rw [decide_eq_true hs]
    refine goS ?_
    refine WO_call rfl (sameStmts_all l l' bv bv' F2 F4 w3 (h2.ext e13) (h4.ext e13)) ?_
    rintro r w4 ⟨rfl, e4⟩
    refine goS ?_
    refine at_ret1 rfl rfl ⟨congrArg Value.bool ?_, e13.trans e4⟩
    simp [hs]
  · rw [decide_eq_false hs]
    refine goS ?_
    refine at_ret1 rfl rfl ⟨congrArg Value.bool ?_, e13⟩
    simp [hs]
end Go.Proofs.YtplcmbipeanjdaaGreatDoor
namespace Go.Proofs.YtplcmbipeanjdaaGreatDoor
set_option linter.unusedVariables false
set_option linter.unusedSimpArgs false
set_option linter.unnecessarySimpa false
open Go.RowKit

theorem parse_fmt {tl : List Int} {l : Ss} (hv : validP tl l = true) : parseS (fmtT tl l) = some (tl, l) := by
  rw [fmtT_of hv]
  obtain ⟨v1, v2, v3⟩ := vp_parts hv
  have hb := lsT_bound l
  have ht := okT_len v1
  exact parseS_prog hv (by unfold progT; simp; omega)
theorem FnProgramText_ret {v u : Value} {w : World} (hd : ByD w v) (hu : ByD w u) (hm : ∃ m, w.cell? ⟨0, 0, none⟩ = some (.int .i64 m)) : Ret Tryz.prog 3 [v, u] w fun r w' => r = .bool true ∧ Ext w w' := by
  obtain ⟨m, hm⟩ := hm
  have hd0 := hd
  obtain ⟨A0, n0, c0, rfl, _, hn0, _⟩ := hd0
  have hu0 := hu
  obtain ⟨A1, n1, c1, rfl, _, hn1, _⟩ := hu0
  generalize hue : Value.slice A1 n1 c1 = u at hu
  refine enter Tryz.func3 rfl Tryz.ntmps3 rfl rfl ?_
  subst hue
  (refine goS ?_; repeat' (first | ((refine Z51 rfl rfl (fun c' hc' => ?_)); cases c' <;> (try simp only [decide_eq_true_eq, decide_eq_false_iff_not, beq_iff_eq, beq_eq_false_iff_ne, bne_iff_ne, bne_eq_false_iff_eq, ne_eq, gt_iff_lt, ge_iff_le, Int.not_lt, Int.not_le, Bool.not_eq_true', Bool.not_eq_false', Bool.not_true, Bool.not_false, reduceCtorEq, Decidable.not_not, not_true_eq_false, Bool.true_eq_false, Bool.false_eq_true] at hc') <;> (try (exfalso; omega)) <;> refine goS ?_) | ((refine Z52 rfl (fun hc' => ?_) (fun hc' => ?_)) <;> (try simp only [decide_eq_true_eq, decide_eq_false_iff_not, beq_iff_eq, beq_eq_false_iff_ne, bne_iff_ne, bne_eq_false_iff_eq, ne_eq, gt_iff_lt, ge_iff_le, Int.not_lt, Int.not_le, Bool.not_eq_true', Bool.not_eq_false', Bool.not_true, Bool.not_false, reduceCtorEq, Decidable.not_not, not_true_eq_false, Bool.true_eq_false, Bool.false_eq_true] at hc') <;> (try (exfalso; omega)) <;> refine goS ?_)))
  any_goals (exact at_ret1 rfl rfl ⟨rfl, Ext.refl _⟩)
  generalize hue : Value.slice A1 n1 c1 = u at hu ⊢
  refine WO_call rfl (DrawFormatProgram_ret _ w hd) ?_
  rintro _ w1 ⟨tv, bv, tl, l, Ft, Fb, rfl, i1, j1, _, ⟨htl, hcl⟩, e1⟩
  have oT := i1.one
  have oB := j1.one
  refine goS ?_
  refine WO_alloc fun w2 hb2 e2 z2 => ?_
  refine WO_storeS (k := 2) (vs := [tv, bv]) rfl rfl rfl (by simp; exact ⟨oT, oB⟩) hb2 (by decide) fun w3 hp o3 => ?_
  replace hp : Blk w3 w1.heap.size [tv, bv] _ := hp
  have e3 : Ext w1 w3 := e2.only o3 (Nat.le_refl _)
  replace i1 := i1.ext e3
  replace j1 := j1.ext e3
  have e0 := e1.trans e3
  refine goS ?_
  refine WO_loadSB rfl hp rfl ?_
  refine WO_call rfl (FormatProgram_ret tv bv tl l Ft Fb w3 i1 j1) ?_
  rintro _ w4 ⟨rfl, e4⟩
  replace e0 := e0.trans e4
  refine goS ?_
  refine WO_call rfl (ParseProgram_ret (fmtT tl l) m w4 (cell_ext hm e0)) ?_
  rintro _ w5 ⟨tv5, bv5, rfl, h5, e5⟩
  obtain ⟨o5, p5⟩ := h5.ones
  refine goS ?_
  refine WO_alloc fun wq hq eq zq => ?_
  refine WO_storeS (k := 2) (vs := [tv5, bv5]) rfl rfl rfl (by simp; exact ⟨o5, p5⟩) hq (by decide) fun w6 hq6 o6 => ?_
  replace hq6 : Blk w6 w5.heap.size [tv5, bv5] _ := hq6
  have e6 : Ext w5 w6 := eq.only o6 (Nat.le_refl _)
  have e46 := (e4.trans e5).trans e6
  replace h5 := h5.ext e6
  replace e0 := (e0.trans e5).trans e6
  replace hp := hp.ext e46
  replace i1 := i1.ext e46
  replace j1 := j1.ext e46
  refine goS ?_
  refine WO_loadSB rfl hp rfl ?_
  refine WO_call rfl (ProgramValid_ret tv bv tl l Ft Fb w6 i1 j1) ?_
  rintro _ w7 ⟨rfl, e7⟩
  refine goS ?_
  refine WO_loadSB rfl (hp.ext e7) rfl ?_
  refine WO_call rfl (sFormatProgram_ret tv bv tl l Ft Fb w7 (i1.ext e7) (j1.ext e7) (by omega)) ?_
  rintro _ w8 ⟨rfl, e8⟩
  refine goT ?_
  rw [show (!decide (fmtT tl l = fmtT tl l)) = false from by simp]
  refine goS ?_
  refine WO_loadSB rfl ((hp.ext e7).ext e8) rfl ?_
  refine goS ?_
  refine WO_call rfl (sProgramValid_ret tv bv tl l Ft Fb w8 ((i1.ext e7).ext e8) ((j1.ext e7).ext e8) (by omega)) ?_
  rintro _ w9 ⟨rfl, e9⟩
  have e69 := (e7.trans e8).trans e9
  refine goS ?_
  rw [show (!(validP tl l == validP tl l)) = false from by simp]
  refine goS ?_
  replace hp := hp.ext e69
  replace i1 := i1.ext e69
  replace j1 := j1.ext e69
  replace hq6 := hq6.ext e69
  replace h5 := h5.ext e69
  replace e0 := e0.trans e69
  by_cases hv : validP tl l = true
  · have hps := parse_fmt hv
    rw [hps] at h5
    rw [hv, hps]
    simp only [Option.isSome_some]
    refine goS ?_
    refine WO_loadSB rfl hq6 rfl ?_
    refine goS ?_
    refine WO_loadSB rfl hp rfl ?_
    refine goS ?_
    obtain ⟨f5, i5⟩ := h5.int
    obtain ⟨g5, j5⟩ := h5.sts
    refine WO_call rfl (ProgramSame_ret tv5 bv5 tv bv tl tl l l f5 g5 Ft Fb w9 i5 j5 i1 j1) ?_
    rintro _ w10 ⟨rfl, e10⟩
    rw [decide_eq_true (show tl = tl ∧ l = l from ⟨rfl, rfl⟩)]
    clear hps i5 j5
    refine goS ?_
    refine WO_call rfl (DrawParseProgram_ret u _ (hu.ext (e0.trans e10))) ?_
    rintro _ wa ⟨t, rfl, ht, ea⟩
    refine goT ?_
    refine WO_call rfl (ParseProgram_ret t m wa (cell_ext hm (((e0.trans e10)).trans ea))) ?_
    rintro _ wb ⟨tg, bg, rfl, hg, eb⟩
    obtain ⟨og, pg⟩ := hg.ones
    refine goS ?_
    refine WO_alloc fun wc hc ec zc => ?_
    refine WO_storeS (k := 2) (vs := [tg, bg]) rfl rfl rfl (by simp; exact ⟨og, pg⟩) hc (by decide) fun wd hgB od => ?_
    replace hgB : Blk wd wb.heap.size [tg, bg] _ := hgB
    have ed : Ext wb wd := ec.only od (Nat.le_refl _)
    replace hg := hg.ext ed
    refine goS ?_
    refine WO_call rfl (sParseProgram_ret t wd (by omega)) ?_
    rintro _ we ⟨tw, bw, rfl, hw, ee⟩
    obtain ⟨ow, pw⟩ := hw.ones
    replace hgB := hgB.ext ee
    replace hg := hg.ext ee
    refine goS ?_
    refine WO_alloc fun wf hf ef zf => ?_
    refine WO_storeS (k := 2) (vs := [tw, bw]) rfl rfl rfl (by simp; exact ⟨ow, pw⟩) hf (by decide) fun wg hwB og => ?_
    replace hwB : Blk wg we.heap.size [tw, bw] _ := hwB
    have eg : Ext we wg := ef.only og (Nat.le_refl _)
    replace hgB := hgB.ext eg
    replace hg := hg.ext eg
    replace hw := hw.ext eg
    have e0g := ((((((e0.trans e10)).trans ea).trans eb).trans ed).trans ee).trans eg
    obtain ⟨f1, i1⟩ := hg.int
    obtain ⟨g1, j1⟩ := hg.sts
    obtain ⟨f2, i2⟩ := hw.int
    obtain ⟨g2, j2⟩ := hw.sts
    refine goS ?_
    rw [show ((parseS t).isSome == (parseS t).isSome) = true from by simp]
    refine goS ?_
    refine WO_loadSB rfl hgB rfl ?_
    refine goS ?_
    refine WO_loadSB rfl hwB rfl ?_
    refine goS ?_
    refine WO_call rfl (ProgramSame_ret tg bg tw bw _ _ _ _ _ _ _ _ wg i1 j1 i2 j2) ?_
    rintro _ wh ⟨rfl, eh⟩
    rw [decide_eq_true (show paT (parseS t) = paT (parseS t) ∧ paL (parseS t) = paL (parseS t) from ⟨rfl, rfl⟩)]
    have e0h := e0g.trans eh
    cases hps : parseS t with
    | none =>
      simp only [Option.isSome_none]
      refine goT ?_
      exact at_ret1 rfl rfl ⟨rfl, e0h⟩
    | some p =>
      obtain ⟨tl2, l2⟩ := p
      obtain ⟨q1, q2, _⟩ := parseS_valid hps
      rw [hps] at i1 j1
      simp only [Option.isSome_some]
      refine goT ?_
      refine WO_loadSB rfl (hgB.ext eh) rfl ?_
      refine goT ?_
      refine WO_call rfl (FormatProgram_ret tg bg tl2 l2 f1 g1 wh (i1.ext eh) (j1.ext eh)) ?_
      rintro _ wi ⟨rfl, ei⟩
      rw [fmtT_of q1, q2]
      refine goT ?_
      rw [decide_eq_true (show t = t from rfl)]
      refine goT ?_
      exact at_ret1 rfl rfl ⟨rfl, e0h.trans ei⟩
  · have hv' : validP tl l = false := by simpa using hv
    rw [hv']
    refine goS ?_
    refine WO_call rfl (DrawParseProgram_ret u _ (hu.ext e0)) ?_
    rintro _ wa ⟨t, rfl, ht, ea⟩
    refine goT ?_
    refine WO_call rfl (ParseProgram_ret t m wa (cell_ext hm ((e0).trans ea))) ?_
    rintro _ wb ⟨tg, bg, rfl, hg, eb⟩
    obtain ⟨og, pg⟩ := hg.ones
    refine goS ?_
    refine WO_alloc fun wc hc ec zc => ?_
    refine WO_storeS (k := 2) (vs := [tg, bg]) rfl rfl rfl (by simp; exact ⟨og, pg⟩) hc (by decide) fun wd hgB od => ?_
    replace hgB : Blk wd wb.heap.size [tg, bg] _ := hgB
    have ed : Ext wb wd := ec.only od (Nat.le_refl _)
    replace hg := hg.ext ed
    refine goS ?_
    refine WO_call rfl (sParseProgram_ret t wd (by omega)) ?_
    rintro _ we ⟨tw, bw, rfl, hw, ee⟩
    obtain ⟨ow, pw⟩ := hw.ones
    replace hgB := hgB.ext ee
    replace hg := hg.ext ee
    refine goS ?_
    refine WO_alloc fun wf hf ef zf => ?_
    refine WO_storeS (k := 2) (vs := [tw, bw]) rfl rfl rfl (by simp; exact ⟨ow, pw⟩) hf (by decide) fun wg hwB og => ?_
    replace hwB : Blk wg we.heap.size [tw, bw] _ := hwB
    have eg : Ext we wg := ef.only og (Nat.le_refl _)
    replace hgB := hgB.ext eg
    replace hg := hg.ext eg
    replace hw := hw.ext eg
    have e0g := (((((e0).trans ea).trans eb).trans ed).trans ee).trans eg
    obtain ⟨f1, i1⟩ := hg.int
    obtain ⟨g1, j1⟩ := hg.sts
    obtain ⟨f2, i2⟩ := hw.int
    obtain ⟨g2, j2⟩ := hw.sts
    refine goS ?_
    rw [show ((parseS t).isSome == (parseS t).isSome) = true from by simp]
    refine goS ?_
    refine WO_loadSB rfl hgB rfl ?_
    refine goS ?_
    refine WO_loadSB rfl hwB rfl ?_
    refine goS ?_
    refine WO_call rfl (ProgramSame_ret tg bg tw bw _ _ _ _ _ _ _ _ wg i1 j1 i2 j2) ?_
    rintro _ wh ⟨rfl, eh⟩
    rw [decide_eq_true (show paT (parseS t) = paT (parseS t) ∧ paL (parseS t) = paL (parseS t) from ⟨rfl, rfl⟩)]
    have e0h := e0g.trans eh
    cases hps : parseS t with
    | none =>
      simp only [Option.isSome_none]
      refine goT ?_
      exact at_ret1 rfl rfl ⟨rfl, e0h⟩
    | some p =>
      obtain ⟨tl2, l2⟩ := p
      obtain ⟨q1, q2, _⟩ := parseS_valid hps
      rw [hps] at i1 j1
      simp only [Option.isSome_some]
      refine goT ?_
      refine WO_loadSB rfl (hgB.ext eh) rfl ?_
      refine goT ?_
      refine WO_call rfl (FormatProgram_ret tg bg tl2 l2 f1 g1 wh (i1.ext eh) (j1.ext eh)) ?_
      rintro _ wi ⟨rfl, ei⟩
      rw [fmtT_of q1, q2]
      refine goT ?_
      rw [decide_eq_true (show t = t from rfl)]
      refine goT ?_
      exact at_ret1 rfl rfl ⟨rfl, e0h.trans ei⟩
end Go.Proofs.YtplcmbipeanjdaaGreatDoor
namespace Go.Proofs.YtplcmbipeanjdaaGreatDoor
set_option linter.unusedVariables false
set_option linter.unusedSimpArgs false
set_option linter.unnecessarySimpa false
open Go.RowKit Go.WideShapes Go.ChangeShapes
theorem int_bounds {a : Int} (h : (Lit.int .i64 a).wf = true) : -9223372036854775808 ≤ a ∧ a ≤ 9223372036854775807 := by
  have h1 : IntKind.i64.min = -9223372036854775808 := rfl
  have h2 : IntKind.i64.max = 9223372036854775807 := rfl
  simp only [Lit.wf, Bool.and_eq_true, decide_eq_true_eq, h1, h2] at h
  exact h
theorem own : ownKnob Tryz.prog.godebug = none := by kernel_rfl
theorem laidOut : laidOutB Tryz.prog = true := by kernel_rfl
section
variable {H : Type} {enc : TypeId × Value → H} {P : Program}
theorem post_of_below {f : Func} {s : ChangeSpec} {apart fresh handsOn again : Bool} {W W' : World} {args : Array Value} {v : Value} {ds gs : List (DataW H)} {before pa pv : List MemPlace}
    (hW : DataW.Whole enc P f.params.toList s.vars apart W args.toList ds gs before)
    (hres : ∀ (b : Nat) (sp : Nat → Bool) (hd : Bool), DataW.TrodAll enc P W' b sp hd f.resultTypes.toList (v.resultList f.resultTypes.size) (s.fn H (ds ++ gs)).results [])
    (hargs : ∀ sp : Nat → Bool, (∀ p ∈ before, sp p.block = true) → DataW.TrodAll enc P W' 0 sp true f.params.toList args.toList (s.fn H (ds ++ gs)).args pa)
    (hvars : ∀ sp : Nat → Bool, (∀ p ∈ before, sp p.block = true) → DataW.TrodVars enc P W' sp s.vars (s.fn H (ds ++ gs)).vars pv)
    (hps : before = pa ++ pv) (hb : Below W.heap.size W W')
    (hok : ∀ (j : Nat) (t : TypeId) (r : Value), f.resultTypes[j]? = some t → (v.resultList f.resultTypes.size)[j]? = some r → Value.okWide P W' .any 0 t r) :
    s.post enc P f apart fresh handsOn again W args v W' := by
  have hlt : ∀ p ∈ before, p.block < W.heap.size := fun p hp => hW.lt p hp
  have hold : ∀ p ∈ before, (fun b => decide (b < W.heap.size)) p.block = true := fun p hp => by simpa using hlt p hp
  refine ⟨ds, gs, before, [], pa, pv, hW, hres _ _ _, hargs _ hold, hvars _ hold, World.keptBut_mono (fun p hp => ⟨hp, ?_⟩) (hb.frame (· ∈ before)), fun _ => ?_⟩
  · rw [hps, List.mem_append] at hp
    exact Or.inr hp
  · obtain ⟨_, _, _, _, _, hz, hn⟩ := hW
    refine ⟨hok, _, _, ([] ++ pa) ++ pv, ⟨[] ++ pa, pv, trodAll_append (hargs _ (fun _ _ => rfl)) (hres _ _ _), hvars _ (fun _ _ => rfl), rfl, ?_, ?_⟩, ?_⟩
    · intro b off hp
      have hin : MemPlace.cell b off ∈ before := by rw [hps]; simpa using hp
      rw [hb.frozen (hlt _ hin)]
      exact hz b off hin
    · intro ha
      have := hn ha
      rw [hps] at this
      simpa using this
    · intro p hp _
      rw [hps]
      simpa using hp
/-- An argument reads as it did. -/
theorem trod_sp {t : TypeId} (hl : laidOutB P = true) (hr : P.readableRec t = true) (hrow : t < P.types.size) {W W' : World} {v : Value} {d : DataW H} {ps : List MemPlace} {sp : Nat → Bool}
    (h : DataW.Trod enc P W 0 (fun _ => true) true t v d ps) (hb : Below W.heap.size W W') (hlt : ∀ x ∈ ps, x.block < W.heap.size) (hsp : ∀ x ∈ ps, sp x.block = true) :
    DataW.Trod enc P W' 0 sp true t v d ps :=
  WideElems.Trod_stays hl hr hrow h (fun x hx => hb.same (hlt x hx)) hsp
end
end Go.Proofs.YtplcmbipeanjdaaGreatDoor
namespace Go.Proofs.YtplcmbipeanjdaaGreatDoor
set_option linter.unusedVariables false
set_option linter.unusedSimpArgs false
set_option linter.unnecessarySimpa false
open Go.ChangeShapes Go.WideShapes Go.ChangeAt Go.RowKit
section
variable {H : Type} {enc : TypeId × Value → H} {W : World} {base b0 : Nat} {sp : Nat → Bool} {hd : Bool} {r : Reach} {v : Value} {d : DataW H} {ps : List MemPlace}
theorem addr_plain {w : World} {a : Addr} {v : Value} (h : w.cell? a = some v) : a.spot = none := by
  unfold World.cell? at h
  split at h
  · cases hs : a.spot <;> simp_all
  · cases h
set_option maxRecDepth 100000 in
theorem open_Bytes (hv : Value.okWide Tryz.prog W r b0 22 v) (h : DataW.Trod enc Tryz.prog W base sp hd 22 v d ps) : ∃ u : Unit, ByD W v := by
  obtain ⟨a0, len, cap, rfl⟩ := okWide_slice Tryz.underlying22 hv
  obtain ⟨fuel, hf⟩ := h
  rcases open_ints Tryz.underlying22 Tryz.underlying5 (by kernel_rfl) hf with ⟨hcs, _⟩ | ⟨a, len', cap', zs, hcs, _, hl, hm, hz, _, hcell, hwz⟩
  · simp [Value.cells] at hcs
    obtain ⟨rfl, rfl, rfl⟩ := hcs
    exact ⟨(), none, 0, 0, rfl, by simp, by simp, .inl rfl⟩
  · simp [Value.cells] at hcs
    obtain ⟨rfl, rfl, rfl⟩ := hcs
    unfold maxLen at hm
    refine ⟨(), some a, len, cap, rfl, hl, by omega, ?_⟩
    rcases Nat.eq_zero_or_pos len with h0 | h0
    · exact .inl h0
    · have hzl : len ≤ zs.length := by rw [hz]; split <;> omega
      have h1 := hcell 0 (by omega)
      obtain ⟨b, o, s⟩ := a
      have hs : s = none := by
        have := addr_plain h1
        simpa [Addr.add] using this
      subst hs
      refine .inr ⟨b, o, rfl, fun i hi => ?_⟩
      have h2 := hcell i (by omega)
      rw [add_some] at h2
      have hmem : zs.getD i 0 ∈ zs := by
        rw [List.getD_eq_getElem?_getD, List.getElem?_eq_getElem (by omega)]
        exact List.getElem_mem _
      have hb := hwz _ hmem
      have hb1 : 0 ≤ zs.getD i 0 ∧ zs.getD i 0 ≤ 255 := by
        have e1 : IntKind.u8.min = 0 := rfl
        have e2 : IntKind.u8.max = 255 := rfl
        simp only [Lit.wf, Bool.and_eq_true, decide_eq_true_eq, e1, e2] at hb
        exact hb
      refine ⟨(zs.getD i 0).toNat, by omega, ?_⟩
      rw [Int.toNat_of_nonneg hb1.1, Nat.mul_one]
      exact h2
end
end Go.Proofs.YtplcmbipeanjdaaGreatDoor
