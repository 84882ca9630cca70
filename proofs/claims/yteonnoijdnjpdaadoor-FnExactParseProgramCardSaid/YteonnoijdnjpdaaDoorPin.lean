/-
  What is proved here: a text has one program at most, said of lists of bytes. No function of the program stands here.
-/
import Derived.Test.YteonnoijdnjpdaaDoorTw
namespace Go.Proofs.YteonnoijdnjpdaaDoor
set_option linter.unusedVariables false
set_option linter.unusedSimpArgs false
set_option linter.unnecessarySimpa false
open Go.RowKit

def kindOf (b : UInt8) : Int := if b = 105 then 1 else if b = 98 then 2 else if b = 114 then 3 else if b = 109 then 4 else 0
def headLen (t : Tx) : Nat := t.findIdx (fun b => b == 58)
def headT (t : Tx) : List Int := (t.take (headLen t)).map kindOf
theorem headLen_le (t : Tx) : headLen t ≤ t.length := List.findIdx_le_length
theorem headLen_ne {t : Tx} {i : Nat} (h : i < headLen t) (hi : i < t.length) : t[i] ≠ 58 := by
  have := List.not_of_lt_findIdx h
  simpa using this
theorem headLen_at {t : Tx} (h : headLen t < t.length) : t[headLen t] = 58 := by
  have h2 : headLen t = t.findIdx (fun b => b == 58) := rfl
  have := List.findIdx_getElem (xs := t) (p := fun b => b == 58) (w := h)
  simp only [beq_iff_eq] at this
  exact this
def bodyT (t : Tx) : Tx := t.drop (headLen t + 1)
theorem okT_elem {tl : List Int} (h : okT tl = true) {a : Int} (ha : a ∈ tl) : 1 ≤ a ∧ a ≤ 4 := by
  obtain ⟨i, hi, rfl⟩ := List.getElem_of_mem ha
  exact okT_at h hi
theorem tyCh_ne (a : Int) : tyCh a ≠ 58 := by
  unfold tyCh
  split
  · decide
  · split
    · decide
    · split <;> decide
theorem kindOf_tyCh {a : Int} (h : 1 ≤ a ∧ a ≤ 4) : kindOf (tyCh a) = a := by
  have : a = 1 ∨ a = 2 ∨ a = 3 ∨ a = 4 := by omega
  rcases this with rfl | rfl | rfl | rfl <;> rfl
theorem headLen_prog (tl : List Int) (l : Ss) : headLen (progT tl l) = tl.length := by
  unfold headLen progT
  induction tl with
  | nil => rfl
  | cons a r ih =>
    rw [List.map_cons, List.cons_append, List.findIdx_cons, ih]
    have : (tyCh a == 58) = false := by simpa using tyCh_ne a
    rw [this]
    rfl
theorem headT_prog {tl : List Int} (h : okT tl = true) (l : Ss) : headT (progT tl l) = tl := by
  unfold headT
  rw [headLen_prog]
  have h1 : (progT tl l).take tl.length = tl.map tyCh := by
    unfold progT
    rw [List.take_append_of_le_length (by simp)]
    exact List.take_of_length_le (by simp)
  rw [h1, List.map_map]
  conv => rhs; rw [← List.map_id tl]
  exact List.map_congr_left fun a ha => kindOf_tyCh (okT_elem h ha)
theorem bodyT_prog (tl : List Int) (l : Ss) : bodyT (progT tl l) = lsT l := by
  unfold bodyT
  rw [headLen_prog]
  unfold progT
  rw [← List.drop_drop]
  have : (tl.map tyCh ++ 58 :: lsT l).drop tl.length = 58 :: lsT l := by
    rw [List.drop_append_of_le_length (by simp), List.drop_of_length_le (by simp)]
    rfl
  rw [this]
  rfl
theorem vp_parts {tl : List Int} {l : Ss} (h : validP tl l = true) : okT tl = true ∧ okL tl 4 l = true ∧ cntL l ≤ 30 := by
  unfold validP at h
  rw [Bool.and_eq_true, Bool.and_eq_true, decide_eq_true_eq] at h
  exact ⟨h.1, h.2.1, h.2.2⟩
/-- A text has one program at most. -/
theorem progT_inj {tl tl' : List Int} {l l' : Ss} (hv : validP tl l = true) (hv' : validP tl' l' = true) (h : progT tl l = progT tl' l') : tl = tl' ∧ l = l' := by
  obtain ⟨h1, h2, h3⟩ := vp_parts hv
  obtain ⟨h1', h2', h3'⟩ := vp_parts hv'
  have ht : tl = tl' := by rw [← headT_prog h1 l, h, headT_prog h1' l']
  have hb : lsT l = lsT l' := by rw [← bodyT_prog tl l, h, bodyT_prog]
  have hr := (read_all l 4 tl [] h2 (okT_len h1) (.inl rfl)).1
  have hr' := (read_all l' 4 tl' [] h2' (okT_len h1') (.inl rfl)).1
  rw [hb] at hr
  exact ⟨ht, congrArg Prod.fst (hr.symm.trans hr')⟩
end Go.Proofs.YteonnoijdnjpdaaDoor
