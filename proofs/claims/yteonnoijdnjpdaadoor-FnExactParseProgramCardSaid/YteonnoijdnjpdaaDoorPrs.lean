/-
  What is proved here: the program's reader and the reference's reader read the same programs, said of lists of bytes. No function of the program stands here.
-/
import Derived.Test.YteonnoijdnjpdaaDoorSPr
import Derived.Test.YteonnoijdnjpdaaDoorPsp
namespace Go.Proofs.YteonnoijdnjpdaaDoor
set_option linter.unusedVariables false
set_option linter.unusedSimpArgs false
set_option linter.unnecessarySimpa false
open Go.RowKit

/-- The program that the program's own reader reads from a text. -/
def parseI (t : Tx) : Option (List Int × Ss) :=
  if t.length > 600 then none
  else if (stmtsF 5 (bodyT t, false)).2 ≠ ([], false) then none
  else if validP (headT t) (stmtsF 5 (bodyT t, false)).1 = false then none
  else if progT (headT t) (stmtsF 5 (bodyT t, false)).1 ≠ t then none
  else some (headT t, (stmtsF 5 (bodyT t, false)).1)
theorem parseI_prog {tl : List Int} {l : Ss} (hv : validP tl l = true) (hl : (progT tl l).length ≤ 600) : parseI (progT tl l) = some (tl, l) := by
  obtain ⟨h1, h2, h3⟩ := vp_parts hv
  have hr := (read_all l 4 tl [] h2 (okT_len h1) (.inl rfl)).1
  rw [List.append_nil] at hr
  unfold parseI
  rw [if_neg (by omega), bodyT_prog, headT_prog h1, hr]
  simp only
  rw [if_neg (by simp), if_neg (by rw [hv]; simp), if_neg (by simp)]
theorem parseS_prog {tl : List Int} {l : Ss} (hv : validP tl l = true) (hl : (progT tl l).length ≤ 600) : parseS (progT tl l) = some (tl, l) := by
  obtain ⟨h1, h2, h3⟩ := vp_parts hv
  have hlen : (progT tl l).length = tl.length + 1 + (lsT l).length := by unfold progT; simp; omega
  have hb : (progT tl l).drop ((tl.length : Int) + 1).toNat = lsT l ++ [] := by
    rw [List.append_nil, ← bodyT_prog tl l]
    unfold bodyT
    rw [headLen_prog]
    congr 1
  have hr := (readS_all l 4 tl (progT tl l) [] ((tl.length : Int) + 1) (by omega) (by omega) hb h2 (okT_len h1) (.inl rfl)).1
  unfold parseS
  rw [headLen_prog, headT_prog h1, hr, if_neg (by omega)]
  simp only
  rw [if_neg (by omega), if_neg (by rw [hv]; simp), if_neg (by simp)]
theorem parseI_valid {t : Tx} {tl : List Int} {l : Ss} (h : parseI t = some (tl, l)) : validP tl l = true ∧ progT tl l = t ∧ t.length ≤ 600 := by
  unfold parseI at h
  split at h
  · cases h
  · split at h
    · cases h
    · split at h
      · cases h
      · split at h
        · cases h
        · rename_i h1 h2 h3 h4
          have h5 := Option.some.inj h
          have h6 : headT t = tl := congrArg Prod.fst h5
          have h7 : (stmtsF 5 (bodyT t, false)).1 = l := congrArg Prod.snd h5
          rw [h6, h7] at h3 h4
          exact ⟨by simpa using h3, Decidable.not_not.1 h4, by omega⟩
theorem parse_same (t : Tx) : parseI t = parseS t := by
  cases h : parseI t with
  | some p =>
    obtain ⟨tl, l⟩ := p
    obtain ⟨h1, h2, h3⟩ := parseI_valid h
    rw [← h2, parseS_prog h1 (by rw [h2]; exact h3)]
  | none =>
    cases h' : parseS t with
    | none => rfl
    | some p =>
      obtain ⟨tl, l⟩ := p
      obtain ⟨h1, h2, h3⟩ := parseS_valid h'
      rw [← h2, parseI_prog h1 (by rw [h2]; exact h3)] at h
      cases h
end Go.Proofs.YteonnoijdnjpdaaDoor
