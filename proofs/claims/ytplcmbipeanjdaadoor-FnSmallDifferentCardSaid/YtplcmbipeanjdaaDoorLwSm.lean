/-
  What is proved here: the laws SmallProgram and NumberOfSmall on drawn numbers and programs.
-/
import Derived.Test.YtplcmbipeanjdaaDoorRdU
import Derived.Test.YtplcmbipeanjdaaDoorNum
import Derived.Test.YtplcmbipeanjdaaDoorPrV
import Derived.Test.YtplcmbipeanjdaaDoorSame
import Derived.Test.YtplcmbipeanjdaaDoorSmall
import Derived.Test.YtplcmbipeanjdaaDoorFld
namespace Go.Proofs.YtplcmbipeanjdaaDoor
set_option linter.unusedVariables false
set_option linter.unusedSimpArgs false
set_option linter.unnecessarySimpa false
open Go.RowKit

theorem okL_sm : ∀ i n, okL smTypes 4 (smL i n) = true
  | 0, _ => rfl
  | i + 1, n => by
    have hc : ∀ c, c < 8 → ∀ r, okL smTypes 4 r = true → okL smTypes 4 (smSt c r) = true := by
      intro c hc r hr
      unfold smSt
      rw [okL_cons, hr, Bool.and_true]
      have : c = 0 ∨ c = 1 ∨ c = 2 ∨ c = 3 ∨ c = 4 ∨ c = 5 ∨ c = 6 ∨ c = 7 := by omega
      rcases this with rfl | rfl | rfl | rfl | rfl | rfl | rfl | rfl <;> decide
    exact hc (n % 8) (Nat.mod_lt _ (by omega)) _ (okL_sm i (n / 8))
theorem smBody_len (n : Nat) : (smBody n).len = 6 := by simp [smBody, Ss.len, smL, smSt]
theorem valid_sm (n : Nat) : validP smTypes (smBody n) = true := by
  unfold validP
  rw [smBody_cnt]
  have h : okL smTypes 4 (smBody n) = true := by
    unfold smBody
    rw [okL_cons, okL_cons, okL_sm]
    decide
  rw [h]
  decide
theorem num_sm {a : Int} (h : smOk a) : numN (smT a) (smB a) = a ∧ numB (smT a) (smB a) = true := by
  have hf : numF (smT a) (smB a) = some a.toNat := numF_some ⟨by have := h.2; omega, by unfold smT; rw [if_pos h], by unfold smB; rw [if_pos h]⟩
  unfold numN numB
  rw [hf]
  have := h.1
  exact ⟨by simp; omega, rfl⟩
theorem num_no {a : Int} (h : ¬ smOk a) : numN (smT a) (smB a) = 0 ∧ numB (smT a) (smB a) = false := by
  have hf : numF (smT a) (smB a) = none := numF_none fun n hn => by
    have := hn.2.1
    unfold smT at this
    rw [if_neg h] at this
    cases this
  unfold numN numB
  rw [hf]
  exact ⟨rfl, rfl⟩
theorem DrawSmallProgram_ret (v : Value) (w : World) (hd : ByD w v) : Ret Tryd.prog 9 [v] w fun r w' => ∃ z : Int, r = .int .i64 z ∧ (-1 ≤ z ∧ z ≤ 4096) ∧ Ext w w' := by
  refine enter Tryd.func9 rfl Tryd.ntmps9 rfl rfl ?_
  refine goS ?_
  refine WO_call rfl (openU_ret v w hd) ?_
  rintro _ w1 ⟨rb, rfl, hrb, hr, e1⟩
  refine goS ?_
  refine WO_call rfl (pickU_ret rb 0 12 w1 hr (by omega) (by decide)) ?_
  rintro _ w2 ⟨k, rfl, hk, hr2, c2⟩
  have e2 : Ext w w2 := c2.ext_of e1 (by simpa using hrb)
  by_cases hk0 : k = 0
  · subst hk0
    refine goS ?_
    refine WO_ints [0, 4095, 4096, -1] rfl rfl (by decide) (by decide) fun w3 hi e3 z3 => ?_
    have hlt := hr2.lt
    refine WO_call rfl (numU_ret rb 1 _ [0, 4095, 4096, -1] _ w3 (hr2.ext e3) (by omega) hi.int (by decide) (by simp; omega)) ?_
    rintro _ w4 ⟨z, hz, rfl, hr4, c4⟩
    refine goS ?_
    refine at_ret1 rfl rfl ⟨z, rfl, ?_, c4.ext_of (e2.trans e3) (by simpa using hrb)⟩
    simp at hz
    omega
  · refine goS ?_
    refine Z50 rfl (by simp; omega) ?_
    refine goS ?_
    refine WO_call rfl (pickU_ret rb 1 64 w2 hr2 (by omega) (by decide)) ?_
    rintro _ w3 ⟨i, rfl, hi, hr3, c3⟩
    refine goS ?_
    refine WO_call rfl (pickU_ret rb 2 64 w3 hr3 (by omega) (by decide)) ?_
    rintro _ w4 ⟨j, rfl, hj, hr4, c4⟩
    refine goS ?_
    exact at_ret1 rfl rfl ⟨_, rfl, by omega, c4.ext_of (c3.ext_of e2 (by simpa using hrb)) (by simpa using hrb)⟩
end Go.Proofs.YtplcmbipeanjdaaDoor
