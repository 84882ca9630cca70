/-
  What is proved here: what the reference's parser does with texts, said of lists of bytes: it reads no further than the text, and reads a valid program back from its text. No function of the program stands here.
-/
import Derived.Test.YteonnoijdnjpdaaDoorTxt
namespace Go.Proofs.YteonnoijdnjpdaaDoor
set_option linter.unusedVariables false
set_option linter.unusedSimpArgs false
set_option linter.unnecessarySimpa false
open Go.RowKit

/-- Whether a word stands at a place of a text. -/
def atB (s : Tx) (p : Int) (w : Tx) : Bool := decide (0 ≤ p) && w.isPrefixOf (s.drop p.toNat)
def byS (lo hi : Nat) (s : Tx) (p : Int) : Int := if 0 ≤ p then (match s.drop p.toNat with
  | [] => -1
  | b :: _ => if lo ≤ b.toNat ∧ b.toNat ≤ hi then ((b.toNat - lo : Nat) : Int) else -1) else -1
def varS : Tx → Int → Int := byS 97 122
def digS : Tx → Int → Int := byS 48 57
abbrev PR := Ss × Int
def bracS (s : Tx) (L : Option (Int → PR)) (p : Int) : PR :=
  match L with
  | none => (.nil, -1)
  | some f => if atB s p [123] = true then (if atB s (f (p + 1)).2 [125] = true then ((f (p + 1)).1, (f (p + 1)).2 + 1) else (.nil, -1)) else (.nil, -1)
def parS (s : Tx) (L : Option (Int → PR)) (p : Int) : One × Int :=
  if atB s p wDrop = true then ((8, varS s (p + 5), 0, 0, .nil, .nil), p + 6)
  else if atB s p wLoop = true then ((10, 0, 0, 0, (bracS s L (p + 4)).1, .nil), (bracS s L (p + 4)).2)
  else if atB s p wIf = true then ((9, 0, 0, 0, (bracS s L (p + 2)).1, (bracS s L (bracS s L (p + 2)).2).1), (bracS s L (bracS s L (p + 2)).2).2)
  else if atB s p [42] = true then ((7, varS s (p + 1), varS s (p + 3), 0, .nil, .nil), p + 4)
  else if varS s p < 0 ∨ atB s (p + 1) [61] = false then ((0, 0, 0, 0, .nil, .nil), -1)
  else if atB s (p + 2) wBox = true then ((2, varS s p, 0, digS s (p + 6), .nil, .nil), p + 7)
  else if atB s (p + 2) wMut = true then ((5, varS s p, varS s (p + 7), 0, .nil, .nil), p + 8)
  else if atB s (p + 2) [38] = true then ((4, varS s p, varS s (p + 3), 0, .nil, .nil), p + 4)
  else if atB s (p + 2) [42] = true then ((6, varS s p, varS s (p + 3), 0, .nil, .nil), p + 4)
  else if 0 ≤ digS s (p + 2) then ((1, varS s p, 0, digS s (p + 2), .nil, .nil), p + 3)
  else ((3, varS s p, varS s (p + 2), 0, .nil, .nil), p + 3)
def lopS (s : Tx) (g : Int → One × Int) : Nat → Int → PR
  | 0, _ => (.nil, -1)
  | k + 1, p => if (g p).2 < 0 ∨ (s.length : Int) < (g p).2 then (.nil, -1)
    else if atB s (g p).2 [59] = true then (if (lopS s g k ((g p).2 + 1)).2 < 0 then (.nil, -1) else (consO (g p).1 (lopS s g k ((g p).2 + 1)).1, (lopS s g k ((g p).2 + 1)).2))
    else (consO (g p).1 .nil, (g p).2)
def lisS (s : Tx) : Nat → Int → PR
  | 0, p => if p = s.length ∨ atB s p [125] = true then (.nil, p) else lopS s (parS s none) (s.length + 1) p
  | d + 1, p => if p = s.length ∨ atB s p [125] = true then (.nil, p) else lopS s (parS s (some (lisS s d))) (s.length + 1) p
def subS (s : Tx) : Nat → Option (Int → PR)
  | 0 => none
  | d + 1 => some (lisS s d)
theorem lisS_eq (s : Tx) (d : Nat) (p : Int) : lisS s d p = if p = s.length ∨ atB s p [125] = true then (.nil, p) else lopS s (parS s (subS s d)) (s.length + 1) p := by cases d <;> rfl
/-! ### Bounds -/
theorem atB_in {s w : Tx} {p : Int} (h : atB s p w = true) : 0 ≤ p ∧ p + w.length ≤ max p s.length := by
  unfold atB at h
  simp only [Bool.and_eq_true, decide_eq_true_eq] at h
  have := (List.isPrefixOf_iff_prefix.1 h.2).length_le
  rw [List.length_drop] at this
  omega
theorem atB_lt {s w : Tx} {p : Int} (h : atB s p w = true) (hw : 0 < w.length) : 0 ≤ p ∧ p + w.length ≤ s.length := by
  have := atB_in h
  omega
theorem byS_in (lo hi : Nat) (s : Tx) (p : Int) (h : hi ≤ 300) : -1 ≤ byS lo hi s p ∧ byS lo hi s p ≤ 300 := by
  unfold byS
  split
  · split
    · omega
    · split <;> omega
  · omega
/-- What a reader of lists gives, in bounds. -/
def InB (s : Tx) (p : Int) (r : PR) : Prop := (r.2 = -1 ∧ r.1 = .nil) ∨ (p ≤ r.2 ∧ r.2 ≤ s.length ∧ (cntL r.1 : Int) ≤ r.2 - p)
def InL (s : Tx) (L : Option (Int → PR)) : Prop := ∀ f, L = some f → ∀ p : Int, 0 ≤ p → p ≤ s.length → InB s p (f p)
theorem bracS_in {s : Tx} {L : Option (Int → PR)} (hL : InL s L) (p : Int) : ((bracS s L p).2 = -1 ∧ (bracS s L p).1 = .nil) ∨ (0 ≤ p ∧ p + 2 ≤ (bracS s L p).2 ∧ (bracS s L p).2 ≤ s.length ∧ (cntL (bracS s L p).1 : Int) ≤ (bracS s L p).2 - p - 2) := by
  unfold bracS
  cases L with
  | none => exact .inl ⟨rfl, rfl⟩
  | some f =>
    simp only
    split
    · rename_i h1
      have q1 := atB_lt h1 (by decide)
      simp only [List.length_cons, List.length_nil] at q1
      split
      · rename_i h2
        have q2 := atB_lt h2 (by decide)
        simp only [List.length_cons, List.length_nil] at q2
        have := hL f rfl (p + 1) (by omega) (by omega)
        rcases this with ⟨h3, _⟩ | ⟨h3, h4, h5⟩
        · omega
        · refine .inr ⟨by omega, ?_, ?_, ?_⟩ <;> simp only <;> omega
      · exact .inl ⟨rfl, rfl⟩
    · exact .inl ⟨rfl, rfl⟩
def cntO (a : One) : Nat := 1 + cntL a.2.2.2.2.1 + cntL a.2.2.2.2.2
theorem cntL_consO (a : One) (r : Ss) : cntL (consO a r) = cntO a + cntL r := by simp only [consO, cntL, cntO]
theorem parS_in {s : Tx} {L : Option (Int → PR)} (hL : InL s L) {p : Int} (hp : 0 ≤ p) : (parS s L p).2 = -1 ∨ (p < (parS s L p).2 ∧ (parS s L p).2 ≤ max (p + 8) s.length ∧ (cntO (parS s L p).1 : Int) ≤ (parS s L p).2 - p) := by
  have b1 := bracS_in hL (p + 4)
  have b2 := bracS_in hL (p + 2)
  have b3 := bracS_in hL (bracS s L (p + 2)).2
  have fin : ∀ (a : One) (k : Int), 0 < k → k ≤ 8 → cntO a = 1 → (a, p + k).2 = -1 ∨ (p < (a, p + k).2 ∧ (a, p + k).2 ≤ max (p + 8) s.length ∧ (cntO (a, p + k).1 : Int) ≤ (a, p + k).2 - p) := fun a k h1 h2 h3 => .inr (by simp only [h3]; omega)
  unfold parS
  split
  · exact fin _ 6 (by decide) (by decide) rfl
  · split
    · rcases b1 with ⟨h1, _⟩ | ⟨h1, h2, h3, h4⟩
      · exact .inl h1
      · refine .inr ⟨by simp only; omega, by simp only; omega, ?_⟩
        simp only [cntO, cntL]
        omega
    · split
      · rcases b3 with ⟨h1, _⟩ | ⟨h1, h2, h3, h4⟩
        · exact .inl h1
        · rcases b2 with ⟨q1, _⟩ | ⟨q1, q2, q3, q4⟩
          · omega
          · refine .inr ⟨by simp only; omega, by simp only; omega, ?_⟩
            simp only [cntO]
            omega
      · split
        · exact fin _ 4 (by decide) (by decide) rfl
        · split
          · exact .inl rfl
          · split
            · exact fin _ 7 (by decide) (by decide) rfl
            · split
              · exact fin _ 8 (by decide) (by decide) rfl
              · split
                · exact fin _ 4 (by decide) (by decide) rfl
                · split
                  · exact fin _ 4 (by decide) (by decide) rfl
                  · split
                    · exact fin _ 3 (by decide) (by decide) rfl
                    · exact fin _ 3 (by decide) (by decide) rfl
theorem lopS_in {s : Tx} {L : Option (Int → PR)} (hL : InL s L) : ∀ (k : Nat) (p : Int), 0 ≤ p → p ≤ s.length → InB s p (lopS s (parS s L) k p)
  | 0, _, _, _ => .inl ⟨rfl, rfl⟩
  | k + 1, p, h0, h1 => by
    have hg := parS_in hL h0
    unfold lopS
    split
    · exact .inl ⟨rfl, rfl⟩
    · rename_i hno
      rcases hg with hg | ⟨g1, g2, g3⟩
      · omega
      · split
        · rename_i hsep
          have q := atB_lt hsep (by decide)
          simp only [List.length_cons, List.length_nil] at q
          split
          · exact .inl ⟨rfl, rfl⟩
          · rename_i hn
            rcases lopS_in hL k ((parS s L p).2 + 1) (by omega) (by omega) with ⟨r1, _⟩ | ⟨r1, r2, r3⟩
            · omega
            · refine .inr ⟨by simp only; omega, by simp only; omega, ?_⟩
              simp only [cntL_consO]
              omega
        · refine .inr ⟨by simp only; omega, by simp only; omega, ?_⟩
          simp only [cntL_consO, cntL]
          omega
theorem lisS_in (s : Tx) : ∀ (d : Nat) (p : Int), 0 ≤ p → p ≤ s.length → InB s p (lisS s d p) := by
  intro d
  induction d with
  | zero =>
    intro p h0 h1
    rw [lisS_eq]
    split
    · exact .inr ⟨Int.le_refl _, h1, by simp [cntL]⟩
    · exact lopS_in (fun f hf => by cases hf) _ _ h0 h1
  | succ d ih =>
    intro p h0 h1
    rw [lisS_eq]
    split
    · exact .inr ⟨Int.le_refl _, h1, by simp [cntL]⟩
    · exact lopS_in (fun f hf => by cases hf; exact ih) _ _ h0 h1
theorem subS_in (s : Tx) (d : Nat) : InL s (subS s d) := by
  cases d with
  | zero => exact fun f hf => by cases hf
  | succ d => exact fun f hf => by cases hf; exact lisS_in s d
/-! ### A valid program is read back -/
theorem atB_at {s q w : Tx} {p : Int} (h0 : 0 ≤ p) (hs : s.drop p.toNat = q) (k : Nat) : atB s (p + k) w = w.isPrefixOf (q.drop k) := by
  unfold atB
  rw [decide_eq_true (by omega), Bool.true_and, ← hs, List.drop_drop]
  congr 2
  omega
theorem atB_at0 {s q w : Tx} {p : Int} (h0 : 0 ≤ p) (hs : s.drop p.toNat = q) : atB s p w = w.isPrefixOf q := by
  have := atB_at (w := w) h0 hs 0
  simpa using this
theorem byS_at {lo hi : Nat} {s q : Tx} {p : Int} (h0 : 0 ≤ p) (hs : s.drop p.toNat = q) (k : Nat) (b : UInt8) (r : Tx) (hq : q.drop k = b :: r) (hb : lo ≤ b.toNat ∧ b.toNat ≤ hi) : byS lo hi s (p + k) = ((b.toNat - lo : Nat) : Int) := by
  unfold byS
  rw [if_pos (by omega), show (p + k).toNat = p.toNat + k from by omega, ← List.drop_drop, hs, hq]
  simp only
  rw [if_pos hb]
theorem varS_at {s q : Tx} {p x : Int} (h0 : 0 ≤ p) (hs : s.drop p.toNat = q) (k : Nat) (r : Tx) (hq : q.drop k = chv x :: r) (hx : 0 ≤ x ∧ x < 6) : varS s (p + k) = x := by
  have := chv_nat hx
  unfold varS
  rw [byS_at h0 hs k (chv x) r hq (by omega)]
  omega
theorem digS_at {s q : Tx} {p n : Int} (h0 : 0 ≤ p) (hs : s.drop p.toNat = q) (k : Nat) (r : Tx) (hq : q.drop k = dgv n :: r) (hn : 0 ≤ n ∧ n ≤ 9) : digS s (p + k) = n := by
  have := dgv_nat hn
  unfold digS
  rw [byS_at h0 hs k (dgv n) r hq (by omega)]
  omega
end Go.Proofs.YteonnoijdnjpdaaDoor
