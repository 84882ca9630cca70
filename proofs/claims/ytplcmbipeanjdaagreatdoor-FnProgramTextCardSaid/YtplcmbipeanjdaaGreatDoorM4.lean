/-
  What is proved here: when the program's StmtValid, ProgramValid and their helpers answer true; when the program's scan of statements, StmtValid and ProgramValid answer true; maps with keys of type int: made, looked up, updated. No function of the program stands here; what it is for memory to hold stacks of tags and cells, read only or owned; elements are read and set.
-/
import Derived.Test.YtplcmbipeanjdaaGreatDoorM3
import Derived.MapKept
namespace Go.Proofs.YtplcmbipeanjdaaGreatDoor
set_option linter.unusedVariables false
set_option linter.unusedSimpArgs false
set_option linter.unnecessarySimpa false
open Go.RowKit

def typeOfL (tl : List Int) (v : Int) : Int := if 0 ≤ v ∧ v < tl.length then tl.getD v.toNat 0 else 0
theorem bool_dec {b : Bool} {p : Prop} [Decidable p] (h : b = true ↔ p) : b = decide p := by
  rw [Bool.eq_iff_iff, decide_eq_true_eq]; exact h
/-- A simple statement is right for these types. -/
def SimpleP (tl : List Int) (op x y n : Int) (lt le : Nat) : Prop :=
  (((op = 1 ∨ op = 2) ∧ 0 ≤ n ∧ n ≤ 9) ∨ (op ≠ 1 ∧ op ≠ 2 ∧ n = 0)) ∧ ((op ≠ 1 ∧ op ≠ 2 ∧ op ≠ 8) ∨ y = 0) ∧ lt = 0 ∧ le = 0 ∧
  ((op = 1 ∧ typeOfL tl x = 1) ∨ ((op = 2 ∨ op = 8) ∧ typeOfL tl x = 2) ∨ (op = 3 ∧ typeOfL tl x ≠ 0 ∧ typeOfL tl x = typeOfL tl y ∧ x ≠ y) ∨
   (op = 4 ∧ typeOfL tl x = 3 ∧ (typeOfL tl y = 2 ∨ typeOfL tl y = 3 ∨ typeOfL tl y = 4) ∧ x ≠ y) ∨ (op = 5 ∧ typeOfL tl x = 4 ∧ (typeOfL tl y = 2 ∨ typeOfL tl y = 4) ∧ x ≠ y) ∨
   (op = 6 ∧ typeOfL tl x = 1 ∧ (typeOfL tl y = 2 ∨ typeOfL tl y = 3 ∨ typeOfL tl y = 4)) ∨ (op = 7 ∧ (typeOfL tl x = 2 ∨ typeOfL tl x = 4) ∧ typeOfL tl y = 1))
instance (tl : List Int) (op x y n : Int) (lt le : Nat) : Decidable (SimpleP tl op x y n lt le) := by unfold SimpleP; infer_instance
/-- Statements are right for these types, with at most d branches in each other. -/
def okL (tl : List Int) : Nat → Ss → Bool
  | _, .nil => true
  | d, .cons op x y n t e r =>
    (if op = 9 ∨ op = 10 then decide (d ≠ 0 ∧ x = 0 ∧ y = 0 ∧ n = 0 ∧ ¬ (op = 10 ∧ e.len ≠ 0)) && okL tl (d - 1) t && okL tl (d - 1) e
     else decide (SimpleP tl op x y n t.len e.len)) && okL tl d r
def cntL : Ss → Nat
  | .nil => 0
  | .cons _ _ _ _ t e r => 1 + cntL t + cntL e + cntL r
def okT (tl : List Int) : Bool := decide (tl.length ≤ 6) && tl.all fun t => decide (1 ≤ t ∧ t ≤ 4)
def validP (tl : List Int) (l : Ss) : Bool := okT tl && (okL tl 4 l && decide (cntL l ≤ 30))

theorem typeOf_ret (tv : Value) (tl : List Int) (F : List Nat) (v : Int) (w : World) (h : IntF w tv tl F) : Ret Tryz.prog 80 [tv, .int .i64 v] w fun r w' => r = .int .i64 (typeOfL tl v) ∧ w' = w := by
  obtain ⟨A, c, rfl, hl, hx⟩ := h
  unfold maxI at hl
  refine enter Tryz.func80 rfl Tryz.ntmps80 rfl rfl ?_
  refine goS ?_
  refine WO_call rfl (within_ret v 0 ((tl.length : Int) - 1) w) ?_
  rintro r w1 ⟨rfl, rfl⟩
  by_cases hv : 0 ≤ v ∧ v < tl.length
  · have hv' : 0 ≤ v ∧ v ≤ (tl.length : Int) - 1 := ⟨hv.1, by omega⟩
    simp only [hv', decide_true, and_self]
    obtain ⟨m, rfl⟩ := Int.eq_ofNat_of_zero_le hv.1
    have hm : m < tl.length := by omega
    obtain ⟨b, o, rfl, rfl, hcell⟩ := int_at hx hm
    refine goS ?_
    refine Z83 rfl rfl rfl hm ?_
    refine goS ?_
    refine at_ret1 rfl rfl ⟨?_, rfl⟩
    unfold typeOfL
    rw [if_pos hv, Int.toNat_natCast, List.getD_eq_getElem?_getD, List.getElem?_eq_getElem hm]
    rfl
  · have hv' : ¬ (0 ≤ v ∧ v ≤ (tl.length : Int) - 1) := by omega
    rw [decide_eq_false hv']
    refine goS ?_
    refine at_ret1 rfl rfl ⟨?_, rfl⟩
    unfold typeOfL
    rw [if_neg hv]
theorem isHolder_ret (t : Int) (w : World) : Ret Tryz.prog 81 [.int .i64 t] w fun v w' => v = .bool (decide (t = 2 ∨ t = 3 ∨ t = 4)) ∧ w' = w := by
  refine enter Tryz.func81 rfl Tryz.ntmps81 rfl rfl ?_
  (refine goS ?_; repeat' (first | ((refine Z51 rfl rfl (fun c' hc' => ?_)); cases c' <;> (try simp only [decide_eq_true_eq, decide_eq_false_iff_not, beq_iff_eq, beq_eq_false_iff_ne, bne_iff_ne, bne_eq_false_iff_eq, ne_eq, gt_iff_lt, ge_iff_le, Int.not_lt, Int.not_le, Bool.not_eq_true', Bool.not_eq_false', Bool.not_true, Bool.not_false, reduceCtorEq, Decidable.not_not, not_true_eq_false, Bool.true_eq_false, Bool.false_eq_true] at hc') <;> (try (exfalso; omega)) <;> refine goS ?_) | ((refine Z52 rfl (fun hc' => ?_) (fun hc' => ?_)) <;> (try simp only [decide_eq_true_eq, decide_eq_false_iff_not, beq_iff_eq, beq_eq_false_iff_ne, bne_iff_ne, bne_eq_false_iff_eq, ne_eq, gt_iff_lt, ge_iff_le, Int.not_lt, Int.not_le, Bool.not_eq_true', Bool.not_eq_false', Bool.not_true, Bool.not_false, reduceCtorEq, Decidable.not_not, not_true_eq_false, Bool.true_eq_false, Bool.false_eq_true] at hc') <;> (try (exfalso; omega)) <;> refine goS ?_)))
  all_goals first
    | (refine at_ret1 rfl rfl ⟨?_, rfl⟩; refine congrArg Value.bool ?_; rw [Bool.eq_iff_iff]; simp <;> omega)
    | (refine WO_call rfl (isReference_ret t w) ?_
       rintro v w' ⟨rfl, rfl⟩
       refine goS ?_
       refine at_ret1 rfl rfl ⟨?_, rfl⟩; refine congrArg Value.bool ?_; rw [Bool.eq_iff_iff]; simp <;> omega)
theorem isBranch_ret (t : Int) (w : World) : Ret Tryz.prog 61 [.int .i64 t] w fun v w' => v = .bool (decide (t = 9 ∨ t = 10)) ∧ w' = w := by
  refine enter Tryz.func61 rfl Tryz.ntmps61 rfl rfl ?_
  (refine goS ?_; repeat' (first | ((refine Z51 rfl rfl (fun c' hc' => ?_)); cases c' <;> (try simp only [decide_eq_true_eq, decide_eq_false_iff_not, beq_iff_eq, beq_eq_false_iff_ne, bne_iff_ne, bne_eq_false_iff_eq, ne_eq, gt_iff_lt, ge_iff_le, Int.not_lt, Int.not_le, Bool.not_eq_true', Bool.not_eq_false', Bool.not_true, Bool.not_false, reduceCtorEq, Decidable.not_not, not_true_eq_false, Bool.true_eq_false, Bool.false_eq_true] at hc') <;> (try (exfalso; omega)) <;> refine goS ?_) | ((refine Z52 rfl (fun hc' => ?_) (fun hc' => ?_)) <;> (try simp only [decide_eq_true_eq, decide_eq_false_iff_not, beq_iff_eq, beq_eq_false_iff_ne, bne_iff_ne, bne_eq_false_iff_eq, ne_eq, gt_iff_lt, ge_iff_le, Int.not_lt, Int.not_le, Bool.not_eq_true', Bool.not_eq_false', Bool.not_true, Bool.not_false, reduceCtorEq, Decidable.not_not, not_true_eq_false, Bool.true_eq_false, Bool.false_eq_true] at hc') <;> (try (exfalso; omega)) <;> refine goS ?_)))
  all_goals (refine at_ret1 rfl rfl ⟨?_, rfl⟩; refine congrArg Value.bool ?_; rw [Bool.eq_iff_iff]; simp <;> omega)
set_option maxHeartbeats 2000000 in
theorem simpleOk_ret (tv : Value) (tl : List Int) (F : List Nat) (op x y n : Int) (lt le ct ce : Nat) (At Ae : Option Addr) (w : World) (h : IntF w tv tl F) (hlt : lt ≤ maxI * 2 - 1) (hle : le ≤ maxI * 2 - 1) :
    Ret Tryz.prog 62 [tv, stV op x y n (.slice At lt ct) (.slice Ae le ce)] w fun r w' => r = .bool (decide (SimpleP tl op x y n lt le)) ∧ Ext w w' := by
  refine enter Tryz.func62 rfl Tryz.ntmps62 rfl rfl ?_
  refine goS ?_
  refine WO_box rfl fun w1 hb he hz => ?_
  simp only [stV, Value.cells] at hb
  have h1 := h.ext he
  refine goS ?_
  refine Z54 (by kernel_rfl) (by kernel_rfl) ?_
  repeat' (first | refine Z55 (Z56 rfl) ?_ | (refine Z57 ?_; first | refine Z58 rfl rfl (by decide) ?_ | refine Z59 rfl rfl (by decide) ?_ | refine Z60 rfl rfl ?_ | ((refine Z61 rfl rfl (fun c' hc' => ?_)); cases c' <;> (try simp only [decide_eq_true_eq, decide_eq_false_iff_not, beq_iff_eq, beq_eq_false_iff_ne, bne_iff_ne, bne_eq_false_iff_eq, ne_eq, gt_iff_lt, ge_iff_le, Int.not_lt, Int.not_le, Bool.not_eq_true', Bool.not_eq_false', Bool.not_true, Bool.not_false, reduceCtorEq, Decidable.not_not, not_true_eq_false, Bool.true_eq_false, Bool.false_eq_true] at hc') <;> (try (exfalso; omega)))) | (refine Z62 ?_; first | refine Z55 (Z63 rfl rfl) ?_ | refine Z55 (Z64 rfl rfl) ?_) | (refine Z65 ?_; first | refine Z55 (Z66 rfl (by assumption) (by rfl)) ?_ | refine Z55 (Z67 rfl (by assumption)) ?_) | (refine Z68 ?_; refine Z55 (Z69 rfl rfl rfl (by omega)) ?_) | (refine Z70 ?_; first | refine Z55 (Z14 rfl (by decide) rfl) ?_ | refine Z55 (Z15 rfl (by decide) rfl) ?_) | (refine Z71 ?_; first | refine Z55 (Z72 rfl) ?_ | refine Z55 (Z73 rfl) ?_) | (refine Z74 ?_; first | refine Z55 (Z75 rfl rfl (by omega)) ?_ | refine Z55 (Z76 rfl rfl (by omega)) ?_ | refine Z55 (Z77 rfl rfl (by omega)) ?_ | refine Z55 (Z78 rfl rfl (by omega) (by omega)) ?_ | refine Z55 (Z79 rfl rfl (by omega) (by omega) (by omega)) ?_ | refine Z55 (Z25 rfl rfl) ?_ | refine Z55 (Z26 rfl rfl) ?_) | (refine Z80 ?_; refine Z55 (Z28 rfl (Z53 ⟨by omega, by omega⟩)) ?_) | refine Z81 fun w' hw' => ?_)
  refine WQ_call rfl (fun w' hw' => (typeOf_ret tv tl F x w' (h1.ext hw')).mono (by rintro u w'' ⟨rfl, rfl⟩; exact ⟨rfl, Ext.refl _⟩)) ?_
  repeat' (first | refine Z55 (Z56 rfl) ?_ | (refine Z57 ?_; first | refine Z58 rfl rfl (by decide) ?_ | refine Z59 rfl rfl (by decide) ?_ | refine Z60 rfl rfl ?_ | ((refine Z61 rfl rfl (fun c' hc' => ?_)); cases c' <;> (try simp only [decide_eq_true_eq, decide_eq_false_iff_not, beq_iff_eq, beq_eq_false_iff_ne, bne_iff_ne, bne_eq_false_iff_eq, ne_eq, gt_iff_lt, ge_iff_le, Int.not_lt, Int.not_le, Bool.not_eq_true', Bool.not_eq_false', Bool.not_true, Bool.not_false, reduceCtorEq, Decidable.not_not, not_true_eq_false, Bool.true_eq_false, Bool.false_eq_true] at hc') <;> (try (exfalso; omega)))) | (refine Z62 ?_; first | refine Z55 (Z63 rfl rfl) ?_ | refine Z55 (Z64 rfl rfl) ?_) | (refine Z65 ?_; first | refine Z55 (Z66 rfl (by assumption) (by rfl)) ?_ | refine Z55 (Z67 rfl (by assumption)) ?_) | (refine Z68 ?_; refine Z55 (Z69 rfl rfl rfl (by omega)) ?_) | (refine Z70 ?_; first | refine Z55 (Z14 rfl (by decide) rfl) ?_ | refine Z55 (Z15 rfl (by decide) rfl) ?_) | (refine Z71 ?_; first | refine Z55 (Z72 rfl) ?_ | refine Z55 (Z73 rfl) ?_) | (refine Z74 ?_; first | refine Z55 (Z75 rfl rfl (by omega)) ?_ | refine Z55 (Z76 rfl rfl (by omega)) ?_ | refine Z55 (Z77 rfl rfl (by omega)) ?_ | refine Z55 (Z78 rfl rfl (by omega) (by omega)) ?_ | refine Z55 (Z79 rfl rfl (by omega) (by omega) (by omega)) ?_ | refine Z55 (Z25 rfl rfl) ?_ | refine Z55 (Z26 rfl rfl) ?_) | (refine Z80 ?_; refine Z55 (Z28 rfl (Z53 ⟨by omega, by omega⟩)) ?_) | refine Z81 fun w' hw' => ?_)
  refine WQ_call rfl (fun w' hw' => (typeOf_ret tv tl F y w' (h1.ext hw')).mono (by rintro u w'' ⟨rfl, rfl⟩; exact ⟨rfl, Ext.refl _⟩)) ?_
  repeat' (first | refine Z55 (Z56 rfl) ?_ | (refine Z57 ?_; first | refine Z58 rfl rfl (by decide) ?_ | refine Z59 rfl rfl (by decide) ?_ | refine Z60 rfl rfl ?_ | ((refine Z61 rfl rfl (fun c' hc' => ?_)); cases c' <;> (try simp only [decide_eq_true_eq, decide_eq_false_iff_not, beq_iff_eq, beq_eq_false_iff_ne, bne_iff_ne, bne_eq_false_iff_eq, ne_eq, gt_iff_lt, ge_iff_le, Int.not_lt, Int.not_le, Bool.not_eq_true', Bool.not_eq_false', Bool.not_true, Bool.not_false, reduceCtorEq, Decidable.not_not, not_true_eq_false, Bool.true_eq_false, Bool.false_eq_true] at hc') <;> (try (exfalso; omega)))) | (refine Z62 ?_; first | refine Z55 (Z63 rfl rfl) ?_ | refine Z55 (Z64 rfl rfl) ?_) | (refine Z65 ?_; first | refine Z55 (Z66 rfl (by assumption) (by rfl)) ?_ | refine Z55 (Z67 rfl (by assumption)) ?_) | (refine Z68 ?_; refine Z55 (Z69 rfl rfl rfl (by omega)) ?_) | (refine Z70 ?_; first | refine Z55 (Z14 rfl (by decide) rfl) ?_ | refine Z55 (Z15 rfl (by decide) rfl) ?_) | (refine Z71 ?_; first | refine Z55 (Z72 rfl) ?_ | refine Z55 (Z73 rfl) ?_) | (refine Z74 ?_; first | refine Z55 (Z75 rfl rfl (by omega)) ?_ | refine Z55 (Z76 rfl rfl (by omega)) ?_ | refine Z55 (Z77 rfl rfl (by omega)) ?_ | refine Z55 (Z78 rfl rfl (by omega) (by omega)) ?_ | refine Z55 (Z79 rfl rfl (by omega) (by omega) (by omega)) ?_ | refine Z55 (Z25 rfl rfl) ?_ | refine Z55 (Z26 rfl rfl) ?_) | (refine Z80 ?_; refine Z55 (Z28 rfl (Z53 ⟨by omega, by omega⟩)) ?_) | refine Z81 fun w' hw' => ?_)
  replace hb := hb.ext hw'
  have hx := he.trans hw'
  clear h1 he hz h
  repeat' (first
    | first | (refine Z0 ?_; first | refine Z1 rfl ?_ | (refine Z2 ?_; first | refine Z3 rfl rfl (by decide) ?_ | refine Z4 rfl rfl (by decide) ?_ | refine Z5 rfl rfl ?_ | ((refine Z51 rfl rfl (fun c' hc' => ?_)); cases c' <;> (try simp only [decide_eq_true_eq, decide_eq_false_iff_not, beq_iff_eq, beq_eq_false_iff_ne, bne_iff_ne, bne_eq_false_iff_eq, ne_eq, gt_iff_lt, ge_iff_le, Int.not_lt, Int.not_le, Bool.not_eq_true', Bool.not_eq_false', Bool.not_true, Bool.not_false, reduceCtorEq, Decidable.not_not, not_true_eq_false, Bool.true_eq_false, Bool.false_eq_true] at hc') <;> (try (exfalso; omega)))) | (refine Z6 ?_; first | refine Z7 rfl rfl ?_ | refine Z8 rfl rfl ?_) | (refine Z9 ?_; first | refine Z10 rfl (by assumption) (by rfl) ?_ | refine Z11 rfl (by assumption) ?_) | (refine Z12 ?_; first | refine Z13 (Z14 rfl (by decide) rfl) ?_ | refine Z13 (Z15 rfl (by decide) rfl) ?_) | (refine Z16 ?_; first | refine Z17 rfl ?_ | refine Z18 rfl ?_) | (refine Z19 ?_; first | refine Z20 rfl rfl (by omega) ?_ | refine Z21 rfl rfl (by omega) ?_ | refine Z22 rfl rfl (by omega) ?_ | refine Z23 rfl rfl (by omega) (by omega) ?_ | refine Z24 rfl rfl (by omega) (by omega) (by omega) ?_ | refine Z13 (Z25 rfl rfl) ?_ | refine Z13 (Z26 rfl rfl) ?_) | (refine Z27 ?_; refine Z13 (Z28 rfl (Z53 ⟨by omega, by omega⟩)) ?_) | (refine Z29 ?_; refine Z13 (Z30 rfl (by rfl) (by simp only [Z84, List.set_cons_zero, List.set_cons_succ]; rfl)) ?_) | refine Z31 ?_) | (refine Z32 ?_; first | refine Z33 ?_ | refine Z34 ?_ | refine Z35 ?_ | refine Z36 ?_ | refine Z37 ?_ | refine Z38 rfl ?_ | refine Z39 ?_ | refine Z40 ?_ | refine Z41 ?_) | (refine Z42 ?_; first | refine Z43 ?_ | refine Z44 ?_ | refine Z45 ?_ | refine Z46 ?_ | refine Z47 ?_ | refine Z48 ?_ | refine Z49 rfl (by decide) ?_ | refine Z50 rfl (by decide) ?_ | ((refine Z52 rfl (fun hc' => ?_) (fun hc' => ?_)) <;> (try simp only [decide_eq_true_eq, decide_eq_false_iff_not, beq_iff_eq, beq_eq_false_iff_ne, bne_iff_ne, bne_eq_false_iff_eq, ne_eq, gt_iff_lt, ge_iff_le, Int.not_lt, Int.not_le, Bool.not_eq_true', Bool.not_eq_false', Bool.not_true, Bool.not_false, reduceCtorEq, Decidable.not_not, not_true_eq_false, Bool.true_eq_false, Bool.false_eq_true] at hc') <;> (try (exfalso; omega))))
    | (refine WO_call rfl (within_ret _ _ _ _) ?_; rintro _ _ ⟨rfl, rfl⟩)
    | (refine WO_call rfl (isHolder_ret _ _) ?_; rintro _ _ ⟨rfl, rfl⟩))
  all_goals refine at_ret1 rfl rfl ⟨congrArg Value.bool (bool_dec ?_), hx⟩
  all_goals unfold SimpleP
  all_goals clear hb hx
  all_goals (simp only [beq_iff_eq, bne_iff_ne, decide_eq_true_eq, ne_eq, Bool.false_eq_true, false_iff]; omega)

end Go.Proofs.YtplcmbipeanjdaaGreatDoor
namespace Go.Proofs.YtplcmbipeanjdaaGreatDoor
set_option linter.unusedVariables false
set_option linter.unusedSimpArgs false
set_option linter.unnecessarySimpa false
open Go.RowKit

theorem ints_of_blk {w : World} {b : Nat} {cs : List Value} {t : TypeId} (zs : List Int) (h : Blk w b cs t) (hc : cs = zs.map (.int .i64)) (hne : zs.length ≤ maxI) : OwnI w (.slice (some ⟨b, 0, none⟩) zs.length zs.length) zs [b] := by
  subst hc
  unfold maxI at hne
  exact ⟨_, zs.length, rfl, by unfold maxI; omega, .inr ⟨b, 0, _, t, rfl, rfl, h, by simp, fun i x hi => by simp [hi]⟩⟩
/-! ### The scan -/
def okS (tl : List Int) (d : Nat) (op x y n : Int) (t e : Ss) : Bool :=
  if op = 9 ∨ op = 10 then decide (d ≠ 0 ∧ x = 0 ∧ y = 0 ∧ n = 0 ∧ ¬ (op = 10 ∧ e.len ≠ 0)) && okL tl (d - 1) t && okL tl (d - 1) e
  else decide (SimpleP tl op x y n t.len e.len)
theorem okL_cons (tl : List Int) (d : Nat) (op x y n : Int) (t e r : Ss) : okL tl d (.cons op x y n t e r) = (okS tl d op x y n t e && okL tl d r) := rfl
/-- What a scan leaves: its answer, and the count where the answer is yes. -/
def ScanR (ok : Bool) (k c : Int) (cb : Nat) (ct : TypeId) (w : World) (v : Value) (w' : World) : Prop :=
  ∃ c', v = .bool (ok && decide (c + k ≤ 30)) ∧ 0 ≤ c' ∧ Blk w' cb [.int .i64 c'] ct ∧ ((ok && decide (c + k ≤ 30)) = true → c' = c + k) ∧ Chg [cb] w w'
def ScanAllP (l : Ss) : Prop := ∀ (tv : Value) (tl : List Int) (F : List Nat) (d : Nat) (nested c : Int) (cb : Nat) (ct : TypeId) (Fl : List Nat) (lv : Value) (w : World), IntF w tv tl F → StS w lv l Fl → cb ∉ F → cb ∉ Fl → Blk w cb [.int .i64 c] ct →
  d ≤ 4 → nested = 4 - (d : Int) → 0 ≤ c → c ≤ 30 → Ret Tryz.prog 19 [tv, lv, .int .i64 nested, .pointer (some ⟨cb, 0, none⟩)] w (ScanR (okL tl d l) (cntL l) c cb ct w)
theorem ne_of_notMem {b : Nat} {F : List Nat} (h : b ∉ F) : ∀ x ∈ F, x ∉ [b] := by
  intro x hx hm
  simp at hm
  subst hm
  exact h hx
theorem StS.slice {w : World} {v : Value} {l : Ss} {F : List Nat} (h : StS w v l F) : ∃ A c, v = .slice A l.len c ∧ l.len ≤ maxI * 2 - 1 ∧ l.len ≤ c := by
  obtain ⟨A, c, e, hl, _⟩ := h
  exact ⟨A, c, e, hl⟩
theorem scan_ret (tv : Value) (tl : List Int) (F : List Nat) (d : Nat) (nested c : Int) (cb : Nat) (ct : TypeId) (op x y n : Int) (t e : Ss) (Ft Fe : List Nat) (vt ve : Value) (w : World)
    (ht : IntF w tv tl F) (hT : StS w vt t Ft) (hE : StS w ve e Fe) (h1 : cb ∉ F) (h2 : cb ∉ Ft) (h3 : cb ∉ Fe) (hb : Blk w cb [.int .i64 c] ct) (hd : d ≤ 4) (hn : nested = 4 - (d : Int)) (hc0 : 0 ≤ c) (hc1 : c ≤ 30)
    (it : ScanAllP t) (ie : ScanAllP e) :
    Ret Tryz.prog 39 [tv, stV op x y n vt ve, .int .i64 nested, .pointer (some ⟨cb, 0, none⟩)] w (ScanR (okS tl d op x y n t e) (1 + cntL t + cntL e) c cb ct w) := by
  obtain ⟨At, ct', rfl, hlt⟩ := hT.slice
  obtain ⟨Ae, ce', rfl, hle⟩ := hE.slice
  refine enter Tryz.func39 rfl Tryz.ntmps39 rfl rfl ?_
  refine goS ?_
  refine WO_box rfl fun w1 hs he hz => ?_
  simp only [stV, Value.cells] at hs
  have hcb := hb.lt
  replace hb := hb.ext he
  refine goS ?_
  refine WO_store1 rfl rfl rfl hb (by simp) fun w2 hb2 ho => ?_
  simp only [List.set_cons_zero] at hb2
  replace hs := hs.only ho (by omega)
  have hch : Chg [cb] w w2 := (he.chg _).trans ho.chg
  refine goS ?_
  refine Z52 rfl (fun hc => ?_) (fun hc => ?_)
  · simp only [decide_eq_true_eq] at hc
    refine goS ?_
    refine at_ret1 rfl rfl ⟨c + 1, ?_, by omega, hb2, ?_, hch⟩
    · rw [decide_eq_false (by omega), Bool.and_false]
    · rw [decide_eq_false (by omega), Bool.and_false]; intro h; cases h
  · simp only [decide_eq_false_iff_not] at hc
    refine goS ?_
    refine WO_call rfl (isBranch_ret op w2) ?_
    rintro v w3 ⟨rfl, rfl⟩
    by_cases hop : op = 9 ∨ op = 10
    · rw [decide_eq_true hop]
      (refine goS ?_; repeat' (first | ((refine Z51 rfl rfl (fun c' hc' => ?_)); cases c' <;> (try simp only [decide_eq_true_eq, decide_eq_false_iff_not, beq_iff_eq, beq_eq_false_iff_ne, bne_iff_ne, bne_eq_false_iff_eq, ne_eq, gt_iff_lt, ge_iff_le, Int.not_lt, Int.not_le, Bool.not_eq_true', Bool.not_eq_false', Bool.not_true, Bool.not_false, reduceCtorEq, Decidable.not_not, not_true_eq_false, Bool.true_eq_false, Bool.false_eq_true] at hc') <;> (try (exfalso; omega)) <;> refine goS ?_) | ((refine Z52 rfl (fun hc' => ?_) (fun hc' => ?_)) <;> (try simp only [decide_eq_true_eq, decide_eq_false_iff_not, beq_iff_eq, beq_eq_false_iff_ne, bne_iff_ne, bne_eq_false_iff_eq, ne_eq, gt_iff_lt, ge_iff_le, Int.not_lt, Int.not_le, Bool.not_eq_true', Bool.not_eq_false', Bool.not_true, Bool.not_false, reduceCtorEq, Decidable.not_not, not_true_eq_false, Bool.true_eq_false, Bool.false_eq_true] at hc') <;> (try (exfalso; omega)) <;> refine goS ?_)))
      all_goals try
        have hnd : ¬ (d ≠ 0 ∧ x = 0 ∧ y = 0 ∧ n = 0 ∧ ¬ (op = 10 ∧ e.len ≠ 0)) := by
          rintro ⟨a1, a2, a3, a4, a5⟩
          first | omega | exact a5 ⟨by assumption, by omega⟩
        have hno : okS tl d op x y n t e = false := by
          unfold okS
          rw [if_pos hop, decide_eq_false hnd, Bool.false_and, Bool.false_and]
        refine at_ret1 rfl rfl ⟨c + 1, ?_, by omega, hb2, ?_, hch⟩
        · rw [hno, Bool.false_and]
        · rw [hno, Bool.false_and]; intro h; cases h
      all_goals
        have hdec : (d ≠ 0 ∧ x = 0 ∧ y = 0 ∧ n = 0 ∧ ¬ (op = 10 ∧ e.len ≠ 0)) := by omega
        have hS : okS tl d op x y n t e = (okL tl (d - 1) t && okL tl (d - 1) e) := by unfold okS; rw [if_pos hop, decide_eq_true hdec, Bool.true_and]
        refine goS ?_
        refine WO_call rfl (it tv tl F (d - 1) (nested + 1) (c + 1) cb ct Ft _ w3 (ht.chg hch (ne_of_notMem h1)) (hT.chg hch (ne_of_notMem h2)) h1 h2 hb2 (by omega) (by omega) (by omega) (by omega)) ?_
        rintro v w4 ⟨c', rfl, hc', hb4, hk, hch2⟩
        by_cases hok : (okL tl (d - 1) t && decide (c + 1 + cntL t ≤ 30)) = true
        · replace hk := hk hok
          rw [hok]
          rw [Bool.and_eq_true, decide_eq_true_eq] at hok
          replace hs := hs.chg hch2 (by simp; omega)
          replace hch := hch.trans hch2
          refine goS ?_
          refine WO_call rfl (ie tv tl F (d - 1) (nested + 1) c' cb ct Fe _ w4 (ht.chg hch (ne_of_notMem h1)) (hE.chg hch (ne_of_notMem h3)) h1 h3 hb4 (by omega) (by omega) (by omega) (by omega)) ?_
          rintro v w5 ⟨c'', rfl, hc'', hb5, hk2, hch3⟩
          refine goS ?_
          have hh : (okL tl (d - 1) e && decide (c' + cntL e ≤ 30)) = (okS tl d op x y n t e && decide (c + (1 + cntL t + cntL e) ≤ 30)) := by
            rw [hS, hok.1, Bool.true_and, hk]
            congr 2
            exact propext (by omega)
          refine at_ret1 rfl rfl ⟨c'', by rw [hh], hc'', hb5, fun h => ?_, hch.trans hch3⟩
          rw [← hh] at h
          rw [hk2 h]
          omega
        · rw [Bool.not_eq_true] at hok
          rw [hok]
          refine goS ?_
          have hh : (okS tl d op x y n t e && decide (c + (1 + cntL t + cntL e) ≤ 30)) = false := by
            rw [hS]
            rw [Bool.and_eq_false_iff, decide_eq_false_iff_not] at hok
            rcases hok with hok | hok
            · rw [hok, Bool.false_and, Bool.false_and]
            · rw [decide_eq_false (by omega), Bool.and_false]
          refine at_ret1 rfl rfl ⟨c', by rw [hh], hc', hb4, fun h => ?_, hch.trans hch2⟩
          rw [hh] at h
          cases h
    · rw [decide_eq_false hop]
      have hS : okS tl d op x y n t e = decide (SimpleP tl op x y n t.len e.len) := by unfold okS; rw [if_neg hop]
      refine goS ?_
      refine WO_loadSB rfl hs rfl ?_
      refine WO_call rfl (simpleOk_ret tv tl F op x y n t.len e.len ct' ce' At Ae w3 (ht.chg hch (ne_of_notMem h1)) hlt.1 hle.1) ?_
      rintro v w4 ⟨rfl, hx⟩
      refine goS ?_
      refine at_ret1 rfl rfl ⟨c + 1, ?_, by omega, hb2.ext hx, fun hk => ?_, hch.trans (hx.chg _)⟩
      · rw [hS]
        by_cases hp : SimpleP tl op x y n t.len e.len
        · have h0 := hp.2.2
          have et := Ss.len_zero h0.1
          have ee := Ss.len_zero h0.2.1
          subst et; subst ee
          rw [decide_eq_true hp, decide_eq_true (by simp only [cntL]; omega)]
          rfl
        · rw [decide_eq_false hp, Bool.false_and]
      · rw [hS, Bool.and_eq_true, decide_eq_true_eq] at hk
        have h0 := hk.1.2.2
        rw [Ss.len_zero h0.1, Ss.len_zero h0.2.1]
        simp only [cntL]
        omega
theorem stS_at {w : World} {A : Option Addr} {m c : Nat} {l : Ss} {F : List Nat} (h : StS w (.slice A m c) l F) : l = .nil ∨ ∃ b o F', A = some ⟨b, o, none⟩ ∧ CsAt w (encS l) b o F' ∧ F = b :: F' := by
  obtain ⟨A', c', e, _, ⟨h0, _⟩ | ⟨b, o, F', e', hF, hs⟩⟩ := h
  · exact .inl (Ss.len_zero h0)
  · cases e
    exact .inr ⟨b, o, F', e', hs, hF⟩
theorem csAt_stmt {w : World} {op x y n : Int} {t e r : Ss} {b o : Nat} {F : List Nat} (h : CsAt w (encS (.cons op x y n t e r)) b o F) :
    ∃ vt ve Ft Fe Fr, F = Ft ++ (Fe ++ Fr) ∧ (∀ (j : Nat) u, [Value.int .i64 op, .int .i64 x, .int .i64 y, .int .i64 n, vt, ve][j]? = some u → w.cell? ⟨b, o + j, none⟩ = some u) ∧ StS w vt t Ft ∧ StS w ve e Fe ∧ CsAt w (encS r) b (o + 6) Fr := by
  obtain ⟨h0, h1, h2, h3, vt, Ft, F1, e1, h4, hT, ve, Fe, Fr, e2, h5, hE, hr⟩ := h
  subst e2; subst e1
  refine ⟨vt, ve, Ft, Fe, Fr, rfl, fun j u hu => ?_, hT, hE, hr⟩
  match j, hu with
  | 0, hu => cases hu; exact h0
  | 1, hu => cases hu; exact h1
  | 2, hu => cases hu; exact h2
  | 3, hu => cases hu; exact h3
  | 4, hu => cases hu; exact h4
  | 5, hu => cases hu; exact h5
  | _ + 6, hu => simp at hu
theorem stmt_one {w : World} {vt ve : Value} {t e : Ss} {Ft Fe : List Nat} (hT : StS w vt t Ft) (hE : StS w ve e Fe) (op x y n : Int) : ∀ v ∈ [Value.int .i64 op, .int .i64 x, .int .i64 y, .int .i64 n, vt, ve], v.oneCell' = true := by
  obtain ⟨_, _, rfl, _⟩ := hT.slice
  obtain ⟨_, _, rfl, _⟩ := hE.slice
  intro v hv
  simp only [List.mem_cons, List.not_mem_nil, or_false] at hv
  rcases hv with rfl | rfl | rfl | rfl | rfl | rfl <;> rfl
theorem scanAll_one (l : Ss) (ih : ∀ s, cntL s < cntL l → ScanAllP s) : ScanAllP l := by
  intro tv tl F d nested c cb ct Fl lv w ht hl h1 h2 hb hd hn hc0 hc1
  obtain ⟨A, cap, rfl, hlen⟩ := hl.slice
  have hat := stS_at hl
  unfold maxI at hlen
  refine enter Tryz.func19 rfl Tryz.ntmps19 rfl rfl ?_
  refine goS ?_
  refine W_loop (α := Nat × Int × Ss) (fun p => [(0, tv), (2, .int .i64 nested), (3, .pointer (some ⟨cb, 0, none⟩)), (11, .slice A l.len cap), (12, .int .i64 (l.len : Int)), (13, .int .i64 (p.1 : Int))])
    (fun p w' => p.1 + p.2.2.len = l.len ∧ c ≤ p.2.1 ∧ p.2.1 ≤ 30 ∧ p.2.1 + cntL p.2.2 = c + cntL l ∧ okL tl d p.2.2 = okL tl d l ∧ Blk w' cb [.int .i64 p.2.1] ct ∧ Chg [cb] w w' ∧
      (p.2.2 = .nil ∨ ∃ b o F', A = some ⟨b, o, none⟩ ∧ CsAt w' (encS p.2.2) b (o + p.1 * 6) F' ∧ b ≠ cb ∧ cb ∉ F')) (fun p => l.len - p.1) (0, c, l) (by repeat (first | exact True.intro | refine And.intro rfl ?_))
    ⟨by simp, Int.le_refl _, hc1, rfl, rfl, hb, Chg.refl _ _, ?_⟩ ?_
  · rcases hat with h | ⟨b, o, F', hA, hs, hF⟩
    · exact .inl h
    · subst hF
      simp only [List.mem_cons, not_or] at h2
      exact .inr ⟨b, o, F', hA, by simpa using hs, fun h => h2.1 h.symm, h2.2⟩
  · rintro ⟨i, c1, r⟩ w1 ⟨hi, ha, hc, hcnt, hok, hb1, hch, hr⟩
    simp only at hi ha hc hcnt hok hb1 hch hr ⊢
    refine goS ?_
    refine Z52 rfl (fun hlt => ?_) (fun hlt => ?_)
    · have hlt : i < l.len := by simpa using hlt
      rcases hr with rfl | ⟨b, o, F', rfl, hs, hne, hnF⟩
      · simp only [Ss.len] at hi; omega
      · cases r with
        | nil => simp only [Ss.len] at hi; omega
        | cons op x y n t e r =>
          obtain ⟨vt, ve, Ft, Fe, Fr, rfl, hcells, hT, hE, hrest⟩ := csAt_stmt hs
          simp only [List.mem_append, not_or] at hnF
          simp only [Ss.len] at hi
          simp only [cntL] at hcnt
          refine goS ?_
          refine Z83 rfl rfl rfl hlt ?_
          refine WO_loadS rfl rfl hcells ?_
          refine WO_alloc fun w2 hb2 he2 hz2 => ?_
          refine WO_storeS rfl rfl rfl (stmt_one hT hE op x y n) hb2 (by simp [Value.cells]) fun w3 hb3 ho3 => ?_
          have hb3' : Blk w3 w1.heap.size [Value.int .i64 op, .int .i64 x, .int .i64 y, .int .i64 n, vt, ve] _ := hb3
          have he3 : Ext w1 w3 := he2.only ho3 (Nat.le_refl _)
          have hch3 : Chg [cb] w w3 := hch.trans (he3.chg _)
          refine goS ?_
          refine WO_loadSB rfl hb3' rfl ?_
          refine goS ?_
          refine WO_call rfl (scan_ret tv tl F d nested c1 cb ct op x y n t e Ft Fe vt ve w3 (ht.chg hch3 (ne_of_notMem h1)) (hT.ext he3) (hE.ext he3) h1 hnF.1 hnF.2.1 (hb1.ext he3) hd hn (by omega) hc (ih t (by omega)) (ih e (by omega))) ?_
          rintro v w4 ⟨c2, rfl, hc2, hb4, hk, hch4⟩
          rw [okL_cons] at hok
          by_cases hyes : (okS tl d op x y n t e && decide (c1 + (1 + cntL t + cntL e) ≤ 30)) = true
          · replace hk := hk hyes
            rw [hyes]
            rw [Bool.and_eq_true, decide_eq_true_eq] at hyes
            rw [hyes.1, Bool.true_and] at hok
            refine goS ?_
            refine at_loop (i + 1, c2, r) (by repeat (first | exact True.intro | refine And.intro rfl ?_)) ⟨by simp only; omega, by simp only; omega, by simp only; omega, by simp only; omega, hok, hb4, hch3.trans hch4, .inr ⟨b, o, Fr, rfl, ?_, hne, hnF.2.2⟩⟩ (by simp only; omega)
            rw [show o + (i + 1) * 6 = o + i * 6 + 6 from by omega]
            exact ((CsAt.ext he3 _ _ _ _ hrest).chg hch4 _ _ _ _ (ne_of_notMem hnF.2.2) (by simpa using hne))
          · rw [Bool.not_eq_true] at hyes
            rw [hyes]
            refine goS ?_
            have hh : (okL tl d l && decide (c + cntL l ≤ 30)) = false := by
              rw [← hok]
              rw [Bool.and_eq_false_iff, decide_eq_false_iff_not] at hyes
              rcases hyes with hyes | hyes
              · rw [hyes, Bool.false_and, Bool.false_and]
              · rw [decide_eq_false (by omega), Bool.and_false]
            refine at_ret1 rfl rfl ⟨c2, by rw [hh], hc2, hb4, fun h => ?_, hch3.trans hch4⟩
            rw [hh] at h
            cases h
    · have hge : i = l.len := by simp at hlt; omega
      have hr0 : r = .nil := Ss.len_zero (by omega)
      subst hr0
      simp only [cntL] at hcnt
      have hok1 : okL tl d l = true := hok.symm
      refine goS ?_
      refine at_ret1 rfl rfl ⟨c1, ?_, by omega, hb1, fun _ => by omega, hch⟩
      rw [hok1, decide_eq_true (by omega)]
      rfl
theorem scanAll_ret : ∀ (k : Nat) (l : Ss), cntL l ≤ k → ScanAllP l := by
  intro k
  induction k with
  | zero =>
    intro l hl
    exact scanAll_one l (fun s hs => by omega)
  | succ k ih => exact fun l hl => scanAll_one l (fun s hs => ih s (by omega))
theorem scanAll_all (l : Ss) : ScanAllP l := scanAll_ret _ l (Nat.le_refl _)

/-- IndexFunc on numbers: no answer below zero exactly where one of them fits. -/
theorem indexFunc_ret {f : FuncId} [Fn0 Tryz.prog f] (first captured : List Value) (p : Int → Bool) (tv : Value) (tl : List Int) (F : List Nat) (w : World) (h : IntF w tv tl F)
    (hp : ∀ x w', Ret Tryz.prog f (first ++ [.int .i64 x] ++ captured) w' fun v w'' => v = .bool (p x) ∧ w'' = w') :
    Ret Tryz.prog 60 [tv, .func (.func f) first.toArray captured.toArray] w fun v w' => (∃ i : Int, v = .int .i64 i ∧ -1 ≤ i ∧ (0 ≤ i ↔ tl.any p = true)) ∧ w' = w := by
  obtain ⟨A, c, rfl, hl, hx⟩ := h
  unfold maxI at hl
  refine enter Tryz.func60 rfl Tryz.ntmps60 rfl rfl ?_
  refine goS ?_
  refine W_loop (α := Nat) (fun i => [(0, .slice A tl.length c), (1, .func (.func f) first.toArray captured.toArray), (6, .slice A tl.length c), (7, .int .i64 (tl.length : Int)), (8, .int .i64 (i : Int))])
    (fun i w' => i ≤ tl.length ∧ (tl.take i).any p = false ∧ w' = w) (fun i => tl.length - i) 0 (by repeat (first | exact True.intro | refine And.intro rfl ?_)) ⟨Nat.zero_le _, rfl, rfl⟩ ?_
  rintro i w1 ⟨hi, ht, rfl⟩
  refine goS ?_
  refine Z52 rfl (fun hc => ?_) (fun hc => ?_)
  · have hlt : i < tl.length := by simpa using hc
    obtain ⟨b, o, rfl, _, hcell⟩ := int_at hx hlt
    have htk : tl.take (i + 1) = tl.take i ++ [tl[i]] := List.take_succ_eq_append_getElem hlt
    refine goS ?_
    refine Z83 rfl rfl rfl hlt ?_
    refine goS ?_
    refine WO_callV (first := first) (captured := captured) rfl rfl (hp tl[i] w1) ?_
    rintro v w2 ⟨rfl, rfl⟩
    cases hpi : p tl[i]
    · refine goS ?_
      refine at_loop (i + 1) (by repeat (first | exact True.intro | refine And.intro rfl ?_)) ⟨hlt, ?_, rfl⟩ (by omega)
      rw [htk, List.any_append, ht]
      simp [hpi]
    · refine goS ?_
      refine at_ret1 rfl rfl ⟨⟨i, rfl, by omega, ⟨fun _ => List.any_eq_true.2 ⟨_, List.getElem_mem hlt, hpi⟩, fun _ => by omega⟩⟩, rfl⟩
  · have hge : i = tl.length := by simp at hc; omega
    subst hge
    rw [List.take_length] at ht
    refine goS ?_
    refine at_ret1 rfl rfl ⟨⟨-1, rfl, by omega, ?_⟩, rfl⟩
    rw [ht]
    simp
theorem containsFunc_ret {f : FuncId} [Fn0 Tryz.prog f] (first captured : List Value) (p : Int → Bool) (tv : Value) (tl : List Int) (F : List Nat) (w : World) (h : IntF w tv tl F)
    (hp : ∀ x w', Ret Tryz.prog f (first ++ [.int .i64 x] ++ captured) w' fun v w'' => v = .bool (p x) ∧ w'' = w') :
    Ret Tryz.prog 36 [tv, .func (.func f) first.toArray captured.toArray] w fun v w' => v = .bool (tl.any p) ∧ w' = w := by
  refine enter Tryz.func36 rfl Tryz.ntmps36 rfl rfl ?_
  refine goS ?_
  refine WO_call rfl (indexFunc_ret first captured p tv tl F w h hp) ?_
  rintro v w1 ⟨⟨i, rfl, hi, hany⟩, rfl⟩
  refine goS ?_
  refine at_ret1 rfl rfl ⟨congrArg Value.bool ?_, rfl⟩
  rw [Bool.eq_iff_iff, decide_eq_true_eq]
  exact hany
theorem typesOk1_ret (x : Int) (w : World) : Ret Tryz.prog 37 [.int .i64 x] w fun v w' => v = .bool (!decide (1 ≤ x ∧ x ≤ 4)) ∧ w' = w := by
  refine enter Tryz.func37 rfl Tryz.ntmps37 rfl rfl ?_
  refine goS ?_
  refine WO_call rfl (within_ret x 1 4 w) ?_
  rintro v w1 ⟨rfl, rfl⟩
  refine goS ?_
  exact at_ret1 rfl rfl ⟨rfl, rfl⟩
theorem typesOk_ret (tv : Value) (tl : List Int) (F : List Nat) (w : World) (h : IntF w tv tl F) : Ret Tryz.prog 18 [tv] w fun v w' => v = .bool (okT tl) ∧ w' = w := by
  obtain ⟨A, c, rfl, hl, hx⟩ := id h
  refine enter Tryz.func18 rfl Tryz.ntmps18 rfl rfl ?_
  have hok : okT tl = (decide (tl.length ≤ 6) && !(tl.any fun x => !decide (1 ≤ x ∧ x ≤ 4))) := by
    unfold okT
    rw [List.not_any_eq_all_not]
    simp
  clear hx
  (refine goS ?_; repeat' (first | ((refine Z51 rfl rfl (fun c' hc' => ?_)); cases c' <;> (try simp only [decide_eq_true_eq, decide_eq_false_iff_not, beq_iff_eq, beq_eq_false_iff_ne, bne_iff_ne, bne_eq_false_iff_eq, ne_eq, gt_iff_lt, ge_iff_le, Int.not_lt, Int.not_le, Bool.not_eq_true', Bool.not_eq_false', Bool.not_true, Bool.not_false, reduceCtorEq, Decidable.not_not, not_true_eq_false, Bool.true_eq_false, Bool.false_eq_true] at hc') <;> (try (exfalso; omega)) <;> refine goS ?_) | ((refine Z52 rfl (fun hc' => ?_) (fun hc' => ?_)) <;> (try simp only [decide_eq_true_eq, decide_eq_false_iff_not, beq_iff_eq, beq_eq_false_iff_ne, bne_iff_ne, bne_eq_false_iff_eq, ne_eq, gt_iff_lt, ge_iff_le, Int.not_lt, Int.not_le, Bool.not_eq_true', Bool.not_eq_false', Bool.not_true, Bool.not_false, reduceCtorEq, Decidable.not_not, not_true_eq_false, Bool.true_eq_false, Bool.false_eq_true] at hc') <;> (try (exfalso; omega)) <;> refine goS ?_)))
  · have h6 : ¬ tl.length ≤ 6 := by omega
    rw [decide_eq_false h6, Bool.false_and] at hok
    exact at_ret1 rfl rfl ⟨by rw [hok], rfl⟩
  · have h6 : tl.length ≤ 6 := by omega
    rw [decide_eq_true h6, Bool.true_and] at hok
    refine WO_call rfl (containsFunc_ret (f := 37) [] [] (fun x => !decide (1 ≤ x ∧ x ≤ 4)) _ tl F w h (fun x w' => typesOk1_ret x w')) ?_
    rintro v w1 ⟨rfl, rfl⟩
    refine goS ?_
    exact at_ret1 rfl rfl ⟨by rw [hok], rfl⟩

end Go.Proofs.YtplcmbipeanjdaaGreatDoor
namespace Go.Proofs.YtplcmbipeanjdaaGreatDoor
set_option linter.unusedVariables false
set_option linter.unusedSimpArgs false
set_option linter.unnecessarySimpa false
open Go.RowKit

def lookI : List (Int × Value) → Int → Option Value
  | [], _ => none
  | x :: r, k => if k = x.1 then some x.2 else lookI r k
def updI : List (Int × Value) → Int → Value → List (Int × Value)
  | [], k, v => [(k, v)]
  | x :: r, k, v => if k = x.1 then (k, v) :: r else x :: updI r k v
theorem lookI_updI (k : Int) (v : Value) (k' : Int) : ∀ l, lookI (updI l k v) k' = if k' = k then some v else lookI l k'
  | [] => by simp [lookI, updI]
  | x :: r => by
    have ih := lookI_updI k v k' r
    simp only [updI]
    split
    · rename_i h
      subst h
      simp only [lookI]
      split <;> rfl
    · rename_i h
      simp only [lookI, ih]
      by_cases h1 : k' = x.1
      · rw [if_pos h1, if_pos h1, if_neg (by omega)]
      · rw [if_neg h1, if_neg h1]
def kvE (e : MapEntry) : Value × Value := (e.key, e.val)
def kvI (x : Int × Value) : Value × Value := (.int .i64 x.1, x.2)
theorem find_kv (k : Int) : ∀ (es : List MapEntry) (l : List (Int × Value)) (i : Nat), es.map kvE = l.map kvI →
    (Instr.findNow (.int .i64) (.int .i64 k) es i = some none ∧ lookI l k = none ∧ ∀ v, updI l k v = l ++ [(k, v)]) ∨
    ∃ j e, Instr.findNow (.int .i64) (.int .i64 k) es i = some (some (i + j, e.val)) ∧ es[j]? = some e ∧ e.key = .int .i64 k ∧ lookI l k = some e.val ∧
      ∀ v, (es.modify j fun e => { e with key := .int .i64 k, val := v }).map kvE = (updI l k v).map kvI
  | [], [], i, _ => .inl ⟨rfl, rfl, fun _ => rfl⟩
  | [], _ :: _, _, h => by simp at h
  | _ :: _, [], _, h => by simp at h
  | e :: es, x :: l, i, h => by
    simp only [List.map_cons, List.cons.injEq] at h
    obtain ⟨h1, h2⟩ := h
    simp only [kvE, kvI, Prod.mk.injEq] at h1
    by_cases hk : k = x.1
    · refine .inr ⟨0, e, ?_, rfl, by rw [h1.1, hk], ?_, fun v => ?_⟩
      · simp [Instr.findNow, h1.1, Instr.sameNow, hk]
      · simp [lookI, hk, h1.2]
      · simp [updI, hk, kvE, kvI, ← h2, List.modify_cons]
    · have hne : Instr.sameNow (.int .i64) (.int .i64 k) e.key = some false := by simp [h1.1, Instr.sameNow, hk]
      rcases find_kv k es l (i + 1) h2 with ⟨a, b, c⟩ | ⟨j, e', a, b, c, d, u⟩
      · exact .inl ⟨by simp [Instr.findNow, hne, a], by simp [lookI, hk, b], fun v => by simp [updI, hk, c v]⟩
      · refine .inr ⟨j + 1, e', by simp [Instr.findNow, hne, a]; omega, by simpa using b, c, by simp [lookI, hk, d], fun v => ?_⟩
        simp only [List.modify_succ_cons, List.map_cons, updI, if_neg hk, u v]
        simp [kvE, kvI, h1]
/-- The block holds a map with these values at these keys. -/
def MapI (w : World) (b : Nat) (l : List (Int × Value)) : Prop := ∃ es clock, w.heap[b]? = some (.map es clock) ∧ es.toList.map kvE = l.map kvI
theorem MapI.lt {w : World} {b : Nat} {l : List (Int × Value)} (h : MapI w b l) : b < w.heap.size := by
  obtain ⟨es, clock, hb, _⟩ := h
  exact (Array.getElem?_eq_some_iff.1 hb).1
theorem MapI.chg {w w' : World} {b : Nat} {l : List (Int × Value)} {F : List Nat} (h : MapI w b l) (k : Chg F w w') (hn : b ∉ F) : MapI w' b l := by
  obtain ⟨es, clock, hb, he⟩ := id h
  exact ⟨es, clock, (k.block b h.lt hn).trans hb, he⟩
theorem MapI.ext {w w' : World} {b : Nat} {l : List (Int × Value)} (h : MapI w b l) (he : Ext w w') : MapI w' b l := h.chg (he.chg []) (by simp)

section
variable {P : Program} {n : Nat} {ops : Array Oper} {Q : Exit → Act → World → Prop} {rest : List Oper} {σ : Env} {w w' : World} {v u : Value}
variable {d : Nat} {ty : TypeId} {pos : String} {af : Array Edge} {x y s : Operand}
theorem WO_makeMap {t : TypeId} (h : ∀ w', MapI w' w.heap.size [] → Ext w w' → w'.heap.size = w.heap.size + 1 → WO P n ops Q rest ((d, .map (some w.heap.size)) :: σ) w') :
    WO P n ops Q (⟨some d, .makeMap t none, ty, pos, af, none⟩ :: rest) σ w :=
  WO.value rfl (w' := w.alloc (.map #[] 0)) ⟨fun m c hf => by
    simp [execOp, Instr.makeMap]⟩ (h _ ⟨#[], 0, (MapKept.heap_alloc w (.map #[] 0)).1, rfl⟩ (ext_alloc w _) (by simp))
theorem run_lookI {t kt e k' bytes b : Nat} {z : Value} [TMap P t kt e] [TInt P kt .i64] [TE P e z k' bytes] {l : List (Int × Value)} {k : Int} (hb : MapI w b l) :
    (Instr.lookup t (.map (some b)) (.int .i64 k) false).run P w = .ok ((lookI l k).getD z) w := by
  obtain ⟨es, clock, hb, hl⟩ := hb
  have hc := MapKept.run_checkKey (P := P) (w := w) (kt := kt) (d := .int .i64) (k := .int .i64 k) (TInt.und (P := P) (t := kt) (k := .i64)) rfl (es.isEmpty) 9999
  unfold Instr.lookup
  rcases find_kv k es.toList l 0 hl with ⟨a, c, _⟩ | ⟨j, e', a, b', c, d', _⟩
  · have hf := MapKept.run_findKey (P := P) (w := w) (TInt.und (P := P) (t := kt) (k := .i64)) a
    have hz := TE.run_zero (P := P) (e := e) (z := z) (k := k') (bytes := bytes) inferInstance w
    simp [run_underlying (TMap.und (P := P) (t := t) (k := kt) (e := e)), MapKept.run_getObj_map hb, hc, hf, hz, c]
  · have hf := MapKept.run_findKey (P := P) (w := w) (TInt.und (P := P) (t := kt) (k := .i64)) a
    simp [run_underlying (TMap.und (P := P) (t := t) (k := kt) (e := e)), MapKept.run_getObj_map hb, hc, hf, d']
theorem q_lookI {g : Option (Nat × Bool)} {t kt e k' bytes b : Nat} {z : Value} [TMap P t kt e] [TInt P kt .i64] [TE P e z k' bytes] {l : List (Int × Value)} {k : Int} (hx : ev σ x = some (.map (some b))) (hy : ev σ y = some (.int .i64 k)) (hb : MapI w b l) :
    DoesQ P ⟨some d, .lookup t x y false, ty, pos, af, g⟩ σ w ((lookI l k).getD z) := ⟨fun w2 he => ⟨fun m c hf => by
    simp [execOp, fits_ev hf hx, fits_ev hf hy, run_lookI (P := P) (t := t) (kt := kt) (e := e) (z := z) (k' := k') (bytes := bytes) (k := k) (hb.ext he)]⟩⟩
theorem WO_mapUpdate {t kt e b : Nat} [TMap P t kt e] [TInt P kt .i64] {l : List (Int × Value)} {k : Int} (hx : ev σ x = some (.map (some b))) (hy : ev σ y = some (.int .i64 k)) (hv : ev σ s = some v) (hb : MapI w b l)
    (h : ∀ w', MapI w' b (updI l k v) → Only b w w' → WO P n ops Q rest σ w') : WO P n ops Q (⟨none, .mapUpdate t x y s, ty, pos, af, none⟩ :: rest) σ w := by
  obtain ⟨es, clock, hb, hl⟩ := hb
  have hc := MapKept.run_checkKey (P := P) (w := w) (kt := kt) (d := .int .i64) (k := .int .i64 k) (TInt.und (P := P) (t := kt) (k := .i64)) rfl false 9999
  have hon : ∀ o, Only b w { w with heap := w.heap.setIfInBounds b o } := fun o =>
    ⟨rfl, rfl, rfl, by simp, fun i hi => (MapKept.heap_set (o' := o) hb).2 i hi⟩
  rcases find_kv k es.toList l 0 hl with ⟨a, _, u⟩ | ⟨j, e', a, b', c, _, u⟩
  · have hf := MapKept.run_findKey (P := P) (w := w) (TInt.und (P := P) (t := kt) (k := .i64)) a
    refine WO.unit rfl (w' := { w with heap := w.heap.setIfInBounds b (.map (es.push { key := .int .i64 k, val := v, born := clock }) (clock + 1)) }) ⟨fun m c hf' => ?_⟩ rfl
      (h _ ⟨_, _, (MapKept.heap_set hb).1, ?_⟩ (hon _))
    · simp [execOp, fits_ev hf' hx, fits_ev hf' hy, fits_ev hf' hv, Instr.mapUpdate, run_underlying (TMap.und (P := P) (t := t) (k := kt) (e := e)), MapKept.run_getObj_map hb, hc, hf, MapKept.run_setObj_map _ hb]
    · rw [u v]; simp [hl, kvE, kvI]
  · have hf := MapKept.run_findKey (P := P) (w := w) (TInt.und (P := P) (t := kt) (k := .i64)) a
    have hs := MapKept.run_keyThatStays (P := P) (w := w) (d := .int .i64) (k := .int .i64 k) rfl
    refine WO.unit rfl (w' := { w with heap := w.heap.setIfInBounds b (.map (es.modify j fun e => { e with key := .int .i64 k, val := v }) clock) }) ⟨fun m c' hf' => ?_⟩ rfl
      (h _ ⟨_, _, (MapKept.heap_set hb).1, ?_⟩ (hon _))
    · have hj : es[j]? = some e' := by rw [← Array.getElem?_toList]; exact b'
      simp [execOp, fits_ev hf' hx, fits_ev hf' hy, fits_ev hf' hv, Instr.mapUpdate, run_underlying (TMap.und (P := P) (t := t) (k := kt) (e := e)), MapKept.run_getObj_map hb, hc, hf, MapKept.run_setObj_map _ hb, hj, c, hs]
    · rw [← u v]; simp
/-! ### Further operations -/
theorem q_slFrom {g : Option (Nat × Bool)} {t e k len cap l : Nat} {A : Option Addr} {i : Int} [TSl P t e k] (hx : ev σ x = some (.slice A len cap)) (hy : ev σ y = some (.int .i64 i)) (hi : i = (l : Int)) (hl : l ≤ len) (hc : len ≤ cap) :
    DoesQ P ⟨some d, .slice t x (some y) none none, ty, pos, af, g⟩ σ w (.slice (if cap = l then A else A.map (·.add (l * k))) (len - l) (cap - l)) := ⟨fun w2 he => ⟨fun m c hf => by
  subst hi
  have h1 : (l : Int) ≤ (len : Int) := by omega
  have h2 : ¬ len < l := by omega
  simp [execOp, fits_ev hf hx, fits_ev hf hy, Instr.sliceAt, Instr.slice, run_underlying (TSl.und (P := P) (t := t) (e := e) (k := k)), Instr.sliceBounds, Instr.sliceBound, asIntOf, h1, h2, TSl.run_sizeOf (P := P) (t := t) (e := e) (k := k) inferInstance]⟩⟩
theorem run_equalIn_slNil (j : Nat) {t e k len cap a b : Nat} {A : Option Addr} [TSl P t e k] (w : World) : (Op.equalIn (j + 1) t (.slice A len cap) (.slice none a b)).run P w = .ok A.isNone w := by
  cases A <;> simp [Op.equalIn, run_underlying (TSl.und (P := P) (t := t) (e := e) (k := k))]
theorem q_slNil {g : Option (Nat × Bool)} {t e k len cap a b : Nat} {A : Option Addr} {t' : TypeId} [TSl P t e k] (hx : ev σ x = some (.slice A len cap)) :
    DoesQ P ⟨some d, .binOp .eql t x (.const (.slice none a b)) t', ty, pos, af, g⟩ σ w (.bool A.isNone) := ⟨fun w2 he => ⟨fun m c hf => by
  have hr : (Op.equal t (.slice A len cap) (.slice none a b)).run P w2 = .ok A.isNone w2 := run_equalIn_slNil 9999 w2
  have hy : ev σ (.const (.slice none a b)) = some (.slice none a b) := rfl
  simp [execOp, fits_ev hf hx, fits_ev hf hy, binOp, eqGuard, hr]⟩⟩
theorem q_makeFunc {g : Option (Nat × Bool)} {f : FuncId} {first captured : Array Operand} {fv cv : List Value} (h1 : evs σ first.toList = some fv) (h2 : evs σ captured.toList = some cv) :
    DoesQ P ⟨some d, .makeFunc (.func f) first captured, ty, pos, af, g⟩ σ w (.func (.func f) fv.toArray cv.toArray) := ⟨fun w2 he => ⟨fun m c hf => by
  have e1 : first.map c.eval = fv.toArray := by rw [← fits_evs hf h1, ← Array.toList_map, Array.toArray_toList]
  have e2 : captured.map c.eval = cv.toArray := by rw [← fits_evs hf h2, ← Array.toList_map, Array.toArray_toList]
  simp [execOp, Instr.makeFunc, e1, e2]⟩⟩
end
section
variable {P : Program} {n : Nat} {σ : Env} {w : World} {fn : Func} {Post : Value → World → Prop}
theorem at_retC {a b : Nat} {t : TypeId} {k : Nat} {cs : List Value} {t' : TypeId} [TS P t k] (hr : fn.results = #[.cell a t]) (hv : look σ a = some (.pointer (some ⟨b, 0, none⟩))) (hb : Blk w b cs t') (hl : cs.length = k) (h : Post (.agg cs.toArray) w) :
    AtQ n (bodyPost P fn fun e w' => ∃ v, e = .returned v ∧ Post v w') .ret σ w := ⟨fun c hf =>
  ⟨hf.defers, .agg cs.toArray, by
    have hrun := run_loadVar_cells (P := P) (t := t) (w := w) (b := b) (o := 0) hl (fun j u hu => by rw [Nat.zero_add]; exact hb.cell hu)
    simp [results, hr, hf.has a _ hv, asAddr, hrun], _, rfl, h⟩⟩
end
end Go.Proofs.YtplcmbipeanjdaaGreatDoor
namespace Go.Proofs.YtplcmbipeanjdaaGreatDoor
set_option linter.unusedVariables false
set_option linter.unusedSimpArgs false
set_option linter.unnecessarySimpa false
open Go.RowKit

structure Tg where
  id : Int
  u : Bool
deriving DecidableEq, Inhabited
structure Ce where
  val : Int
  al : Bool
  nx : Int
  st : List Tg
deriving DecidableEq, Inhabited
structure Pt where
  cell : Int
  tag : Int
deriving DecidableEq
def ptV (p : Pt) : Value := .agg #[.int .i64 p.cell, .int .i64 p.tag]
def encT : List Tg → Cs
  | [] => .nil
  | t :: r => .int t.id (.bool t.u (encT r))
def encC : List Ce → Cs
  | [] => .nil
  | c :: r => .int c.val (.bool c.al (.int c.nx (.sl c.st.length (encT c.st) (encC r))))
/-- The slice holds these tags; these cells. -/
def TgS (w : World) (v : Value) (l : List Tg) (F : List Nat) : Prop := SlV (CsAt w (encT l)) l.length v F
def CeS (w : World) (v : Value) (l : List Ce) (F : List Nat) : Prop := SlV (CsAt w (encC l)) l.length v F
section
variable {w w' : World} {v : Value} {F G : List Nat}
theorem TgS.chg {l : List Tg} (h : TgS w v l F) (k : Chg G w w') (hd : ∀ x ∈ F, x ∉ G) : TgS w' v l F := SlV.chg h k hd
theorem TgS.ext {l : List Tg} (h : TgS w v l F) (he : Ext w w') : TgS w' v l F := SlV.ext h he
theorem CeS.chg {l : List Ce} (h : CeS w v l F) (k : Chg G w w') (hd : ∀ x ∈ F, x ∉ G) : CeS w' v l F := SlV.chg h k hd
theorem CeS.ext {l : List Ce} (h : CeS w v l F) (he : Ext w w') : CeS w' v l F := SlV.ext h he
theorem TgS.slice {l : List Tg} (h : TgS w v l F) : ∃ A c, v = .slice A l.length c ∧ l.length ≤ maxI * 2 - 1 ∧ l.length ≤ c := by obtain ⟨A, c, e, hl, _⟩ := h; exact ⟨A, c, e, hl⟩
theorem CeS.slice {l : List Ce} (h : CeS w v l F) : ∃ A c, v = .slice A l.length c ∧ l.length ≤ maxI * 2 - 1 ∧ l.length ≤ c := by obtain ⟨A, c, e, hl, _⟩ := h; exact ⟨A, c, e, hl⟩
theorem encT_at : ∀ (l : List Tg) (b o : Nat) (F : List Nat), CsAt w (encT l) b o F → ∀ (i : Nat) (hi : i < l.length),
    w.cell? ⟨b, o + i * 2, none⟩ = some (.int .i64 l[i].id) ∧ w.cell? ⟨b, o + i * 2 + 1, none⟩ = some (.bool l[i].u)
  | t :: r, b, o, F, h, 0, _ => by simpa using ⟨h.1, h.2.1⟩
  | t :: r, b, o, F, h, i + 1, hi => by
    have := encT_at r b (o + 1 + 1) F h.2.2 i (by simpa using hi)
    rw [show o + (i + 1) * 2 = o + 1 + 1 + i * 2 from by omega]
    simpa using this
theorem encC_at : ∀ (l : List Ce) (b o : Nat) (F : List Nat), CsAt w (encC l) b o F → ∀ (i : Nat) (hi : i < l.length), ∃ vs Fs,
    w.cell? ⟨b, o + i * 4, none⟩ = some (.int .i64 l[i].val) ∧ w.cell? ⟨b, o + i * 4 + 1, none⟩ = some (.bool l[i].al) ∧ w.cell? ⟨b, o + i * 4 + 2, none⟩ = some (.int .i64 l[i].nx) ∧
    w.cell? ⟨b, o + i * 4 + 3, none⟩ = some vs ∧ TgS w vs l[i].st Fs ∧ ∀ x ∈ Fs, x ∈ F
  | c :: r, b, o, F, ⟨h1, h2, h3, vs, F1, F2, e, h4, hs, _⟩, 0, _ => ⟨vs, F1, by simpa using h1, by simpa using h2, by simpa using h3, by simpa using h4, hs, by subst e; intro x hx; simp [hx]⟩
  | c :: r, b, o, F, ⟨_, _, _, _, F1, F2, e, _, _, hr⟩, i + 1, hi => by
    obtain ⟨vs, Fs, a1, a2, a3, a4, a5, a6⟩ := encC_at r b (o + 1 + 1 + 1 + 1) F2 hr i (by simpa using hi)
    rw [show o + (i + 1) * 4 = o + 1 + 1 + 1 + 1 + i * 4 from by omega]
    exact ⟨vs, Fs, by simpa using a1, by simpa using a2, by simpa using a3, by simpa using a4, by simpa using a5, fun x hx => by subst e; simp [a6 x hx]⟩
theorem four {b o : Nat} {c0 c1 c2 c3 : Value} (h0 : w.cell? ⟨b, o, none⟩ = some c0) (h1 : w.cell? ⟨b, o + 1, none⟩ = some c1) (h2 : w.cell? ⟨b, o + 2, none⟩ = some c2) (h3 : w.cell? ⟨b, o + 3, none⟩ = some c3) :
    ∀ (j : Nat) (u : Value), [c0, c1, c2, c3][j]? = some u → w.cell? ⟨b, o + j, none⟩ = some u := fun j u hu => by
  match j, hu with
  | 0, hu => cases hu; exact h0
  | 1, hu => cases hu; exact h1
  | 2, hu => cases hu; exact h2
  | 3, hu => cases hu; exact h3
  | _ + 4, hu => simp at hu
theorem two {b o : Nat} {c0 c1 : Value} (h0 : w.cell? ⟨b, o, none⟩ = some c0) (h1 : w.cell? ⟨b, o + 1, none⟩ = some c1) :
    ∀ (j : Nat) (u : Value), [c0, c1][j]? = some u → w.cell? ⟨b, o + j, none⟩ = some u := fun j u hu => by
  match j, hu with
  | 0, hu => cases hu; exact h0
  | 1, hu => cases hu; exact h1
  | _ + 2, hu => simp at hu
theorem tgs_at {A : Option Addr} {n c i : Nat} {l : List Tg} (h : TgS w (.slice A n c) l F) (hi : i < l.length) :
    ∃ b o, A = some ⟨b, o, none⟩ ∧ b ∈ F ∧ w.cell? ⟨b, o + i * 2, none⟩ = some (.int .i64 l[i].id) ∧ w.cell? ⟨b, o + i * 2 + 1, none⟩ = some (.bool l[i].u) := by
  obtain ⟨A', c', e, _, ⟨h0, _⟩ | ⟨b, o, F', hA, hF, hc⟩⟩ := h
  · omega
  · cases e
    obtain ⟨a1, a2⟩ := encT_at l b o F' hc i hi
    exact ⟨b, o, hA, by simp [hF], a1, a2⟩
theorem ces_at {A : Option Addr} {n c i : Nat} {l : List Ce} (h : CeS w (.slice A n c) l F) (hi : i < l.length) :
    ∃ b o vs Fs, A = some ⟨b, o, none⟩ ∧ b ∈ F ∧ w.cell? ⟨b, o + i * 4, none⟩ = some (.int .i64 l[i].val) ∧ w.cell? ⟨b, o + i * 4 + 1, none⟩ = some (.bool l[i].al) ∧ w.cell? ⟨b, o + i * 4 + 2, none⟩ = some (.int .i64 l[i].nx) ∧
      w.cell? ⟨b, o + i * 4 + 3, none⟩ = some vs ∧ TgS w vs l[i].st Fs ∧ ∀ x ∈ Fs, x ∈ F := by
  obtain ⟨A', c', e, _, ⟨h0, _⟩ | ⟨b, o, F', hA, hF, hc⟩⟩ := h
  · omega
  · cases e
    obtain ⟨vs, Fs, a1, a2, a3, a4, a5, a6⟩ := encC_at l b o F' hc i hi
    exact ⟨b, o, vs, Fs, hA, by simp [hF], a1, a2, a3, a4, a5, fun x hx => by simp [hF, a6 x hx]⟩
end

/-! ### Owned rows -/
theorem ownsRow_chg {w w' : World} {G : List Nat} {v : Value} {B e k n : Nat} {xs : List Value} (h : w.ownsRow B e k v n xs) (c : Chg G w w') (hd : ∀ x ∈ v.ownBlock.toList, x ∉ G) : w'.ownsRow B e k v n xs := by
  obtain ⟨hl, ⟨rfl, h0⟩ | ⟨g, cap, cur, rfl, hB, hg, rest⟩⟩ := h
  · exact ⟨hl, .inl ⟨rfl, h0⟩⟩
  · refine ⟨hl, .inr ⟨g, cap, cur, rfl, hB, ?_, rest⟩⟩
    rw [c.block g (Array.getElem?_eq_some_iff.1 hg).1 (hd g (by simp [Value.ownBlock]))]
    exact hg
theorem ownsRow_base0 {w : World} {v : Value} {B e k n : Nat} {xs : List Value} (h : w.ownsRow B e k v n xs) : w.ownsRow 0 e k v n xs := by
  obtain ⟨hl, h | ⟨g, cap, cur, hv, hB, rest⟩⟩ := h
  · exact ⟨hl, .inl h⟩
  · exact ⟨hl, .inr ⟨g, cap, cur, hv, Nat.zero_le _, rest⟩⟩
theorem ownsRow_upd {w : World} {v : Value} {B e k n : Nat} {xs : List Value} (h : w.ownsRow B e k v n xs) (hn : 0 < n) :
    ∃ g cap cs, v = .slice (some ⟨g, 0, none⟩) n cap ∧ Blk w g cs e ∧ n * k ≤ cs.length ∧ xs = cs.take (n * k) ∧ ∀ w' cs', Blk w' g cs' e → cs'.length = cs.length → w'.ownsRow B e k v n (cs'.take (n * k)) := by
  obtain ⟨hl, ⟨_, h0⟩ | ⟨g, cap, cur, rfl, hB, hg, hnc, hm, hs, ht⟩⟩ := h
  · omega
  · have hle : n * k ≤ cap * k := Nat.mul_le_mul_right k hnc
    refine ⟨g, cap, cur.toList, rfl, by simpa [Blk] using hg, by simp; omega, ht.symm, fun w' cs' hb hlen => ⟨?_, .inr ⟨g, cap, cs'.toArray, rfl, hB, hb, hnc, hm, ?_, rfl⟩⟩⟩
    · simp at hlen ⊢; omega
    · simp at hlen ⊢; omega
def tagCells : List Tg → List Value
  | [] => []
  | t :: r => .int .i64 t.id :: .bool t.u :: tagCells r
theorem tagCells_length : ∀ l, (tagCells l).length = l.length * 2
  | [] => rfl
  | t :: r => by simp [tagCells, tagCells_length r]; omega
theorem tagCells_append : ∀ l m, tagCells (l ++ m) = tagCells l ++ tagCells m
  | [], m => rfl
  | t :: r, m => by simp [tagCells, tagCells_append r m]
theorem tagCells_get : ∀ (l : List Tg) (i : Nat) (hi : i < l.length), (tagCells l)[i * 2]? = some (.int .i64 l[i].id) ∧ (tagCells l)[i * 2 + 1]? = some (.bool l[i].u)
  | t :: r, 0, _ => by simp [tagCells]
  | t :: r, i + 1, hi => by
    have := tagCells_get r i (by simpa using hi)
    rw [show (i + 1) * 2 = i * 2 + 1 + 1 from by omega]
    simpa [tagCells] using this
theorem tagCells_set : ∀ (l : List Tg) (i : Nat) (t' : Tg) (xs : List Value), i < l.length → xs.length = l.length * 2 → (∀ p, (p < i * 2 ∨ i * 2 + 2 ≤ p) → xs[p]? = (tagCells l)[p]?) → xs[i * 2]? = some (.int .i64 t'.id) → xs[i * 2 + 1]? = some (.bool t'.u) →
    xs = tagCells (l.set i t')
  | t :: r, 0, t', xs, _, hl, ho, h0, h1 => by
    match xs, hl, h0, h1, ho with
    | [], hl, _, _, _ => exfalso; simp only [List.length_cons, List.length_nil] at hl; omega
    | [_], hl, _, _, _ => exfalso; simp only [List.length_cons, List.length_nil] at hl; omega
    | a :: b :: ys, hl, h0, h1, ho =>
      simp at h0 h1
      have : ys = tagCells r := List.ext_getElem? fun p => by simpa [tagCells] using ho (p + 2) (by omega)
      simp [tagCells, h0, h1, this]
  | t :: r, i + 1, t', xs, hi, hl, ho, h0, h1 => by
    match xs, hl, h0, h1, ho with
    | [], hl, _, _, _ => exfalso; simp only [List.length_cons, List.length_nil] at hl; omega
    | [_], hl, _, _, _ => exfalso; simp only [List.length_cons, List.length_nil] at hl; omega
    | a :: b :: ys, hl, h0, h1, ho =>
      have ha := ho 0 (by omega)
      have hb := ho 1 (by omega)
      simp [tagCells] at ha hb
      have := tagCells_set r i t' ys (by simpa using hi) (by simp at hl; omega) (fun p hp => by simpa [tagCells] using ho (p + 2) (by omega)) (by
        rw [show (i + 1) * 2 = i * 2 + 1 + 1 from by omega] at h0; simpa using h0) (by
        rw [show (i + 1) * 2 = i * 2 + 1 + 1 from by omega] at h1; simpa using h1)
      simp [tagCells, ha, hb, this]
/-- The slice owns a row of tags. -/
structure RowT (e : TypeId) (w : World) (v : Value) (l : List Tg) (F : List Nat) : Prop where
  own : w.ownsRow 0 e 2 v l.length (tagCells l)
  foot : F = v.ownBlock.toList
section
variable {e e' : TypeId} {w w' : World} {v : Value} {l : List Tg} {F G : List Nat}
theorem RowT.chg (h : RowT e w v l F) (k : Chg G w w') (hd : ∀ x ∈ F, x ∉ G) : RowT e w' v l F := ⟨ownsRow_chg h.own k (by rw [← h.foot]; exact hd), h.foot⟩
theorem RowT.ext (h : RowT e w v l F) (he : Ext w w') : RowT e w' v l F := h.chg (he.chg []) (by simp)
theorem RowT.lt (h : RowT e w v l F) : ∀ x ∈ F, x < w.heap.size := fun x hx => by rw [h.foot] at hx; exact (h.own.lt x (by simpa using hx)).2
theorem RowT.slice (h : RowT e w v l F) : ∃ A c, v = .slice A l.length c ∧ l.length ≤ c := by
  obtain ⟨hl, ⟨rfl, h0⟩ | ⟨g, cap, cur, rfl, hB, hg, hnc, _⟩⟩ := h.own
  · exact ⟨none, 0, by rw [h0], by omega⟩
  · exact ⟨_, cap, rfl, hnc⟩
theorem cs_of_tagCells {b o : Nat} (hc : ∀ j u, (tagCells l)[j]? = some u → w.cell? ⟨b, o + j, none⟩ = some u) : CsAt w (encT l) b o [] := by
  induction l generalizing o with
  | nil => rfl
  | cons t r ih =>
    refine ⟨by simpa using hc 0 _ rfl, by simpa using hc 1 _ rfl, ih fun j u hj => ?_⟩
    have := hc (j + 2) u (by simpa [tagCells] using hj)
    rw [show o + 1 + 1 + j = o + (j + 2) from by omega]
    exact this
theorem RowT.tgs (h : RowT e w v l F) : TgS w v l F := by
  obtain ⟨hl, ⟨rfl, h0⟩ | ⟨g, cap, cur, rfl, hB, hg, hnc, hcm, hs, ht⟩⟩ := h.own
  · exact ⟨none, 0, by rw [h0], by omega, .inl ⟨h0, by rw [h.foot]; rfl⟩⟩
  · have hb : Blk w g cur.toList e := by simpa [Blk] using hg
    refine ⟨_, cap, rfl, by unfold maxI; unfold maxLen at hcm; omega, .inr ⟨g, 0, [], rfl, by rw [h.foot]; rfl, cs_of_tagCells fun j u hj => ?_⟩⟩
    rw [← ht, List.getElem?_take] at hj
    split at hj
    · rw [Nat.zero_add]; exact hb.cell hj
    · cases hj
theorem RowT.upd {i : Nat} (h : RowT e w v l F) (hi : i < l.length) : ∃ g cap cs, v = .slice (some ⟨g, 0, none⟩) l.length cap ∧ F = [g] ∧ Blk w g cs e ∧ i * 2 + 2 ≤ cs.length ∧ cs[i * 2]? = some (.int .i64 l[i].id) ∧ cs[i * 2 + 1]? = some (.bool l[i].u) ∧
    ∀ w' cs' t', Blk w' g cs' e → cs'.length = cs.length → (∀ p, (p < i * 2 ∨ i * 2 + 2 ≤ p) → cs'[p]? = cs[p]?) → cs'[i * 2]? = some (.int .i64 t'.id) → cs'[i * 2 + 1]? = some (.bool t'.u) → RowT e w' v (l.set i t') F := by
  obtain ⟨g, cap, cs, rfl, hb, hle, hxs, hup⟩ := ownsRow_upd h.own (by omega)
  have hF : F = [g] := by rw [h.foot]; rfl
  obtain ⟨g0, g1⟩ := tagCells_get l i hi
  rw [hxs, List.getElem?_take, if_pos (by omega)] at g0 g1
  refine ⟨g, cap, cs, rfl, hF, hb, by omega, g0, g1, fun w' cs' t' hb' hlen ho h0 h1 => ⟨?_, by rw [h.foot]⟩⟩
  have := hup w' cs' hb' hlen
  rw [List.length_set, ← tagCells_set l i t' (cs'.take (l.length * 2)) hi (by simp; omega) (fun p hp => ?_) (by rw [List.getElem?_take, if_pos (by omega)]; exact h0) (by rw [List.getElem?_take, if_pos (by omega)]; exact h1)]
  · exact this
  · rw [hxs, List.getElem?_take, List.getElem?_take, ho p hp]
/-- The cells of a row of cells: their stacks are owned rows. -/
def Stk (e : TypeId) (w : World) : List Ce → List Value → List Nat → Prop
  | [], xs, F => xs = [] ∧ F = []
  | c :: r, xs, F => ∃ vs F1 F2 xr, xs = .int .i64 c.val :: .bool c.al :: .int .i64 c.nx :: vs :: xr ∧ F = F1 ++ F2 ∧ RowT e w vs c.st F1 ∧ Stk e w r xr F2
theorem Stk.imp {e : TypeId} {w w' : World} : ∀ {l : List Ce} {xs : List Value} {F : List Nat}, Stk e w l xs F → (∀ v l' F', (∀ x ∈ F', x ∈ F) → RowT e w v l' F' → RowT e w' v l' F') → Stk e w' l xs F
  | [], _, _, h, _ => h
  | c :: r, _, _, ⟨vs, F1, F2, xr, e1, e2, h1, h2⟩, hk => by
    subst e2
    exact ⟨vs, F1, F2, xr, e1, rfl, hk _ _ _ (fun x hx => by simp [hx]) h1, h2.imp fun v l' F' hF hr => hk _ _ _ (fun x hx => by simp [hF x hx]) hr⟩
theorem Stk.length {e : TypeId} {w : World} : ∀ {l : List Ce} {xs : List Value} {F : List Nat}, Stk e w l xs F → xs.length = l.length * 4
  | [], _, _, h => by simp [h.1]
  | c :: r, _, _, ⟨vs, F1, F2, xr, e1, e2, h1, h2⟩ => by
    have := h2.length
    subst e1
    simp [this]
    omega
theorem Stk.append {e : TypeId} {w : World} : ∀ {l m : List Ce} {xs ys : List Value} {F G : List Nat}, Stk e w l xs F → Stk e w m ys G → Stk e w (l ++ m) (xs ++ ys) (F ++ G)
  | [], _, _, _, _, _, h, hm => by obtain ⟨rfl, rfl⟩ := h; exact hm
  | c :: r, _, _, _, _, _, ⟨vs, F1, F2, xr, e1, e2, h1, h2⟩, hm => by
    subst e1; subst e2
    exact ⟨vs, F1, F2 ++ _, xr ++ _, rfl, by simp, h1, h2.append hm⟩
theorem Stk.upd {e : TypeId} {w : World} : ∀ {l : List Ce} {xs : List Value} {F : List Nat} {i : Nat}, Stk e w l xs F → (hi : i < l.length) → ∃ vs F1 Fc F2,
    xs[i * 4]? = some (.int .i64 l[i].val) ∧ xs[i * 4 + 1]? = some (.bool l[i].al) ∧ xs[i * 4 + 2]? = some (.int .i64 l[i].nx) ∧ xs[i * 4 + 3]? = some vs ∧ RowT e w vs l[i].st Fc ∧ F = F1 ++ (Fc ++ F2) ∧
    ∀ w' xs' c' vs' Fc', xs'.length = xs.length → (∀ p, (p < i * 4 ∨ i * 4 + 4 ≤ p) → xs'[p]? = xs[p]?) → xs'[i * 4]? = some (.int .i64 c'.val) → xs'[i * 4 + 1]? = some (.bool c'.al) → xs'[i * 4 + 2]? = some (.int .i64 c'.nx) → xs'[i * 4 + 3]? = some vs' →
      RowT e w' vs' c'.st Fc' → (∀ v l' F', (∀ x ∈ F', x ∈ F1 ++ F2) → RowT e w v l' F' → RowT e w' v l' F') → Stk e w' (l.set i c') xs' (F1 ++ (Fc' ++ F2))
  | c :: r, xs, F, 0, ⟨vs, F1, F2, xr, e1, e2, h1, h2⟩, _ => by
    subst e1; subst e2
    refine ⟨vs, [], F1, F2, rfl, rfl, rfl, rfl, h1, rfl, fun w' xs' c' vs' Fc' hl ho a0 a1 a2 a3 hr hk => ?_⟩
    match xs', hl, ho, a0, a1, a2, a3 with
    | [], hl, _, _, _, _, _ => simp at hl
    | [_], hl, _, _, _, _, _ => simp at hl
    | [_, _], hl, _, _, _, _, _ => simp at hl
    | [_, _, _], hl, _, _, _, _, _ => simp at hl
    | x0 :: x1 :: x2 :: x3 :: ys, hl, ho, a0, a1, a2, a3 =>
      simp at a0 a1 a2 a3
      have hy : ys = xr := List.ext_getElem? fun p => by simpa using ho (p + 4) (by omega)
      subst hy
      exact ⟨vs', Fc', F2, ys, by rw [a0, a1, a2, a3], rfl, hr, h2.imp fun v l' F' hF hr' => hk _ _ _ (by simpa using hF) hr'⟩
  | c :: r, xs, F, i + 1, ⟨vs, F1, F2, xr, e1, e2, h1, h2⟩, hi => by
    subst e1; subst e2
    obtain ⟨us, G1, Gc, G2, b0, b1, b2, b3, hr, hG, hup⟩ := h2.upd (i := i) (by simpa using hi)
    subst hG
    have sh : ∀ (a0 a1 a2 a3 : Value) (zs : List Value) (j : Nat), (a0 :: a1 :: a2 :: a3 :: zs)[(i + 1) * 4 + j]? = zs[i * 4 + j]? := fun a0 a1 a2 a3 zs j => by
      rw [show (i + 1) * 4 + j = i * 4 + j + 1 + 1 + 1 + 1 from by omega]; simp
    have sh0 : ∀ (a0 a1 a2 a3 : Value) (zs : List Value), (a0 :: a1 :: a2 :: a3 :: zs)[(i + 1) * 4]? = zs[i * 4]? := fun a0 a1 a2 a3 zs => sh a0 a1 a2 a3 zs 0
    refine ⟨us, F1 ++ G1, Gc, G2, by rw [sh0]; simpa using b0, by rw [sh]; simpa using b1, by rw [sh]; simpa using b2, by rw [sh]; simpa using b3, by simpa using hr, by simp, fun w' xs' c' vs' Fc' hl ho a0 a1 a2 a3 hr' hk => ?_⟩
    match xs', hl, ho, a0, a1, a2, a3 with
    | [], hl, _, _, _, _, _ => simp at hl
    | [_], hl, _, _, _, _, _ => simp at hl
    | [_, _], hl, _, _, _, _, _ => simp at hl
    | [_, _, _], hl, _, _, _, _, _ => simp at hl
    | x0 :: x1 :: x2 :: x3 :: ys, hl, ho, a0, a1, a2, a3 =>
      rw [sh0] at a0
      rw [sh] at a1 a2 a3
      have q0 := ho 0 (by omega)
      have q1 := ho 1 (by omega)
      have q2 := ho 2 (by omega)
      have q3 := ho 3 (by omega)
      simp at q0 q1 q2 q3
      refine ⟨vs, F1, G1 ++ (Fc' ++ G2), ys, by rw [q0, q1, q2, q3], by simp, hk _ _ _ (fun x hx => by simp [hx]) h1, hup w' ys c' vs' Fc' (by simpa using hl) (fun p hp => by simpa using ho (p + 4) (by omega)) a0 a1 a2 a3 hr' fun v l' F' hF hr'' => hk _ _ _ (fun x hx => ?_) hr''⟩
      have := hF x hx
      simp at this ⊢
      exact .inr this
/-- The slice owns a row of cells, and their stacks. -/
def RowC (e eT : TypeId) (w : World) (v : Value) (l : List Ce) (F : List Nat) : Prop := ∃ xs Fs, w.ownsRow 0 e 4 v l.length xs ∧ Stk eT w l xs Fs ∧ F = v.ownBlock.toList ++ Fs
theorem cs_of_stk {eT : TypeId} : ∀ {l : List Ce} {xs : List Value} {F : List Nat} {b o : Nat}, Stk eT w l xs F → (∀ j u, xs[j]? = some u → w.cell? ⟨b, o + j, none⟩ = some u) → CsAt w (encC l) b o F
  | [], _, _, _, _, h, _ => h.2
  | c :: r, _, _, b, o, ⟨vs, F1, F2, xr, e1, e2, h1, h2⟩, hc => by
    subst e1; subst e2
    refine ⟨by simpa using hc 0 _ rfl, by simpa using hc 1 _ rfl, by simpa using hc 2 _ rfl, vs, F1, F2, rfl, by simpa using hc 3 _ rfl, h1.tgs, cs_of_stk h2 fun j u hj => ?_⟩
    rw [show o + 1 + 1 + 1 + 1 + j = o + (j + 4) from by omega]
    exact hc (j + 4) u (by simpa using hj)
theorem Stk.lt {eT : TypeId} : ∀ {l : List Ce} {xs : List Value} {F : List Nat}, Stk eT w l xs F → ∀ x ∈ F, x < w.heap.size
  | [], _, _, h => by rw [h.2]; simp
  | c :: r, _, _, ⟨vs, F1, F2, xr, e1, e2, h1, h2⟩ => by
    subst e2
    intro x hx
    rcases List.mem_append.1 hx with hx | hx
    · exact h1.lt x hx
    · exact h2.lt x hx
section
variable {eT : TypeId} {l : List Ce}
theorem RowC.chg (h : RowC e eT w v l F) (k : Chg G w w') (hd : ∀ x ∈ F, x ∉ G) : RowC e eT w' v l F := by
  obtain ⟨xs, Fs, h1, h2, rfl⟩ := h
  exact ⟨xs, Fs, ownsRow_chg h1 k (fun x hx => hd x (by simp [hx])), h2.imp fun v l' F' hF hr => hr.chg k fun x hx => hd x (by simp [hF x hx]), rfl⟩
theorem RowC.ext (h : RowC e eT w v l F) (he : Ext w w') : RowC e eT w' v l F := h.chg (he.chg []) (by simp)
theorem RowC.lt (h : RowC e eT w v l F) : ∀ x ∈ F, x < w.heap.size := by
  obtain ⟨xs, Fs, h1, h2, rfl⟩ := h
  intro x hx
  rcases List.mem_append.1 hx with hx | hx
  · exact (h1.lt x (by simpa using hx)).2
  · exact h2.lt x hx
theorem RowC.slice (h : RowC e eT w v l F) : ∃ A c, v = .slice A l.length c ∧ l.length ≤ c ∧ c ≤ maxI * 2 - 1 := by
  obtain ⟨xs, Fs, ⟨hl, ⟨rfl, h0⟩ | ⟨g, cap, cur, rfl, hB, hg, hnc, hm, _⟩⟩, h2, _⟩ := h
  · exact ⟨none, 0, by rw [h0], by omega, by omega⟩
  · exact ⟨_, cap, rfl, hnc, by unfold maxI; unfold maxLen at hm; omega⟩
theorem RowC.ces (h : RowC e eT w v l F) : CeS w v l F := by
  obtain ⟨xs, Fs, ⟨hl, ⟨rfl, h0⟩ | ⟨g, cap, cur, rfl, hB, hg, hnc, hm, hs, ht⟩⟩, h2, rfl⟩ := h
  · have : l = [] := List.eq_nil_of_length_eq_zero h0
    subst this
    exact ⟨none, 0, rfl, by omega, .inl ⟨rfl, by simp [h2.2, Value.ownBlock]⟩⟩
  · have hb : Blk w g cur.toList e := by simpa [Blk] using hg
    refine ⟨_, cap, rfl, by unfold maxI; unfold maxLen at hm; omega, .inr ⟨g, 0, Fs, rfl, rfl, cs_of_stk h2 fun j u hj => ?_⟩⟩
    rw [← ht, List.getElem?_take] at hj
    split at hj
    · rw [Nat.zero_add]; exact hb.cell hj
    · cases hj
/-- A cell of the row can be set, to a stack in other memory if that is owned. -/
theorem RowC.upd {i : Nat} (h : RowC e eT w v l F) (hi : i < l.length) : ∃ g cap cs vs F1 Fc F2, v = .slice (some ⟨g, 0, none⟩) l.length cap ∧ F = g :: (F1 ++ (Fc ++ F2)) ∧ Blk w g cs e ∧ i * 4 + 4 ≤ cs.length ∧
    cs[i * 4]? = some (.int .i64 l[i].val) ∧ cs[i * 4 + 1]? = some (.bool l[i].al) ∧ cs[i * 4 + 2]? = some (.int .i64 l[i].nx) ∧ cs[i * 4 + 3]? = some vs ∧ RowT eT w vs l[i].st Fc ∧
    ∀ w' cs' c' vs' Fc' G, Blk w' g cs' e → cs'.length = cs.length → (∀ p, (p < i * 4 ∨ i * 4 + 4 ≤ p) → cs'[p]? = cs[p]?) → cs'[i * 4]? = some (.int .i64 c'.val) → cs'[i * 4 + 1]? = some (.bool c'.al) → cs'[i * 4 + 2]? = some (.int .i64 c'.nx) → cs'[i * 4 + 3]? = some vs' →
      RowT eT w' vs' c'.st Fc' → Chg G w w' → (∀ x ∈ F1 ++ F2, x ∉ G) → RowC e eT w' v (l.set i c') (g :: (F1 ++ (Fc' ++ F2))) := by
  obtain ⟨xs, Fs, h1, h2, rfl⟩ := h
  obtain ⟨g, cap, cs, rfl, hb, hle, hxs, hup⟩ := ownsRow_upd h1 (by omega)
  obtain ⟨vs, F1, Fc, F2, b0, b1, b2, b3, hr, rfl, hst⟩ := h2.upd hi
  have tk : ∀ (zs : List Value) (j : Nat), j < 4 → (zs.take (l.length * 4))[i * 4 + j]? = zs[i * 4 + j]? := fun zs j hj => by rw [List.getElem?_take, if_pos (by omega)]
  have tk0 : ∀ (zs : List Value), (zs.take (l.length * 4))[i * 4]? = zs[i * 4]? := fun zs => tk zs 0 (by omega)
  rw [hxs] at b0 b1 b2 b3
  rw [tk0] at b0
  rw [tk _ _ (by omega)] at b1 b2 b3
  refine ⟨g, cap, cs, vs, F1, Fc, F2, rfl, rfl, hb, by omega, b0, b1, b2, b3, hr, fun w' cs' c' vs' Fc' G hb' hlen ho a0 a1 a2 a3 hr' hk hG => ?_⟩
  refine ⟨cs'.take (l.length * 4), F1 ++ (Fc' ++ F2), by rw [List.length_set]; exact hup w' cs' hb' hlen, hst w' _ c' vs' Fc' ?_ ?_ (by rw [tk0]; exact a0) (by rw [tk _ _ (by omega)]; exact a1) (by rw [tk _ _ (by omega)]; exact a2) (by rw [tk _ _ (by omega)]; exact a3) hr' ?_, rfl⟩
  · rw [hxs]; simp; omega
  · intro p hp
    rw [hxs, List.getElem?_take, List.getElem?_take, ho p hp]
  · intro v l' F' hF hv
    exact hv.chg hk fun x hx => hG x (hF x hx)
end
end
end Go.Proofs.YtplcmbipeanjdaaGreatDoor
