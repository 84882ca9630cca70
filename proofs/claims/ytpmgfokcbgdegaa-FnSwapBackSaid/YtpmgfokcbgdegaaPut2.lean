/-
  What is proved here: two statements of an owned row, one behind the other, are replaced. No function of the program stands here.
-/
import Derived.Test.YtpmgfokcbgdegaaChg
namespace Go.Proofs.Ytpmgfokcbgdegaa
set_option linter.unusedVariables false
set_option linter.unusedSimpArgs false
set_option linter.unnecessarySimpa false
open Go.RowKit

theorem six_get {a0 a1 a2 a3 a4 a5 : Value} {xr : List Value} {j : Nat} (h : j < 6) : (a0 :: a1 :: a2 :: a3 :: a4 :: a5 :: xr)[j]? = [a0, a1, a2, a3, a4, a5][j]? := by
  match j, h with
  | 0, _ => rfl
  | 1, _ => rfl
  | 2, _ => rfl
  | 3, _ => rfl
  | 4, _ => rfl
  | 5, _ => rfl
theorem six_drop {a0 a1 a2 a3 a4 a5 : Value} {xr : List Value} {j : Nat} (h : 6 ≤ j) : (a0 :: a1 :: a2 :: a3 :: a4 :: a5 :: xr)[j]? = xr[j - 6]? := by
  obtain ⟨k, rfl⟩ : ∃ k, j = k + 1 + 1 + 1 + 1 + 1 + 1 := ⟨j - 6, by omega⟩
  simp
/-- A statement by its cells. -/
structure St1 where
  op : Int
  x : Int
  y : Int
  n : Int
  t : Ss
  e : Ss
def St1.cons (a : St1) (r : Ss) : Ss := .cons a.op a.x a.y a.n a.t a.e r
def St1.cells (a : St1) (vt ve : Value) : List Value := [.int .i64 a.op, .int .i64 a.x, .int .i64 a.y, .int .i64 a.n, vt, ve]
theorem RowS.put2 {e : TypeId} {d r : Ss} {a b : St1} {w : World} {v : Value} {F : List Nat} (h : RowS e w v (d.app (a.cons (b.cons r))) F) :
    ∃ g cap cs vt ve vt' ve' F1 Ft Fe Ft' Fe' F2, v = .slice (some ⟨g, 0, none⟩) (d.app (a.cons (b.cons r))).len cap ∧ F = g :: (F1 ++ (Ft ++ (Fe ++ (Ft' ++ (Fe' ++ F2))))) ∧ Blk w g cs e ∧ d.len * 6 + 12 ≤ cs.length ∧
    (∀ (j : Nat) u, (a.cells vt ve)[j]? = some u → cs[d.len * 6 + j]? = some u) ∧ (∀ (j : Nat) u, (b.cells vt' ve')[j]? = some u → cs[d.len * 6 + 6 + j]? = some u) ∧ RowS e w vt a.t Ft ∧ RowS e w ve a.e Fe ∧ RowS e w vt' b.t Ft' ∧ RowS e w ve' b.e Fe' ∧
    ∀ w' cs' (a' b' : St1) ut ue ut' ue' Gt Ge Gt' Ge', Blk w' g cs' e → cs'.length = cs.length → (∀ p, (p < d.len * 6 ∨ d.len * 6 + 12 ≤ p) → cs'[p]? = cs[p]?) →
      (∀ (j : Nat) u, (a'.cells ut ue)[j]? = some u → cs'[d.len * 6 + j]? = some u) → (∀ (j : Nat) u, (b'.cells ut' ue')[j]? = some u → cs'[d.len * 6 + 6 + j]? = some u) →
      RowS e w' ut a'.t Gt → RowS e w' ue a'.e Ge → RowS e w' ut' b'.t Gt' → RowS e w' ue' b'.e Ge' → Chg [g] w w' → g ∉ F1 ++ F2 → RowS e w' v (d.app (a'.cons (b'.cons r))) (g :: (F1 ++ (Gt ++ (Ge ++ (Gt' ++ (Ge' ++ F2)))))) := by
  obtain ⟨xs, Fs, h1, h2, rfl⟩ := h
  obtain ⟨xs1, xs2, F1, F2', rfl, rfl, a1, a2⟩ := StkS.split d _ xs Fs h2
  obtain ⟨vt, ve, Ft, Fe, F2'', xr', rfl, rfl, b1, b2, b3⟩ := StkS.cons_ a2
  obtain ⟨vt', ve', Ft', Fe', F2, xr, rfl, rfl, c1, c2, c3⟩ := StkS.cons_ b3
  have hl1 := StkS.length _ _ _ a1
  have hlen : (d.app (a.cons (b.cons r))).len = d.len + 2 + r.len := by simp [Ss.len_app, St1.cons, Ss.len]; omega
  obtain ⟨g, cap, cs, rfl, hb, hle, hxs, hup⟩ := ownsRow_upd h1 (by omega)
  have hget : ∀ j, j < 12 → cs[d.len * 6 + j]? = (Value.int .i64 a.op :: .int .i64 a.x :: .int .i64 a.y :: .int .i64 a.n :: vt :: ve :: .int .i64 b.op :: .int .i64 b.x :: .int .i64 b.y :: .int .i64 b.n :: vt' :: ve' :: xr)[j]? := fun j hj => by
    have e1 : (cs.take ((d.app (a.cons (b.cons r))).len * 6))[d.len * 6 + j]? = cs[d.len * 6 + j]? := by rw [List.getElem?_take, if_pos (by omega)]
    rw [← e1, ← hxs, List.getElem?_append_right (by omega), hl1, show d.len * 6 + j - d.len * 6 = j from by omega]
  refine ⟨g, cap, cs, vt, ve, vt', ve', F1, Ft, Fe, Ft', Fe', F2, rfl, by simp [Value.ownBlock], hb, by omega, fun j u hu => ?_, fun j u hu => ?_, b1, b2, c1, c2, fun w' cs' a' b' ut ue ut' ue' Gt Ge Gt' Ge' hb' hl' ho hin1 hin2 r1 r2 r3 r4 hc hg => ?_⟩
  · have hj : j < 6 := (List.getElem?_eq_some_iff.1 hu).1
    rw [hget j (by omega), six_get hj]
    exact hu
  · have hj : j < 6 := (List.getElem?_eq_some_iff.1 hu).1
    rw [Nat.add_assoc, hget (6 + j) (by omega), six_drop (by omega), show 6 + j - 6 = j from by omega, six_get hj]
    exact hu
  · have hl3 := StkS.length _ _ _ c3
    have hlen' : (d.app (a'.cons (b'.cons r))).len = (d.app (a.cons (b.cons r))).len := by simp [Ss.len_app, St1.cons, Ss.len]
    have hcs : cs'.take ((d.app (a.cons (b.cons r))).len * 6) = xs1 ++ (.int .i64 a'.op :: .int .i64 a'.x :: .int .i64 a'.y :: .int .i64 a'.n :: ut :: ue :: .int .i64 b'.op :: .int .i64 b'.x :: .int .i64 b'.y :: .int .i64 b'.n :: ut' :: ue' :: xr) := by
      apply List.ext_getElem?
      intro p
      have hx := congrArg (fun z => z[p]?) hxs
      by_cases hp : p < (d.app (a.cons (b.cons r))).len * 6
      · rw [List.getElem?_take, if_pos hp]
        simp only [List.getElem?_take, if_pos hp] at hx
        by_cases hp1 : p < d.len * 6
        · rw [ho p (.inl hp1), ← hx, List.getElem?_append_left (by omega), List.getElem?_append_left (by omega)]
        · rw [List.getElem?_append_right (by omega), hl1] at hx ⊢
          by_cases hp2 : p < d.len * 6 + 6
          · obtain ⟨j, rfl⟩ : ∃ j, p = d.len * 6 + j := ⟨p - d.len * 6, by omega⟩
            rw [show d.len * 6 + j - d.len * 6 = j from by omega, six_get (by omega)]
            have hj : j < (a'.cells ut ue).length := by simp [St1.cells]; omega
            have := hin1 j _ (List.getElem?_eq_getElem hj)
            rw [this]
            exact (List.getElem?_eq_getElem hj).symm
          · by_cases hp3 : p < d.len * 6 + 12
            · obtain ⟨j, rfl⟩ : ∃ j, p = d.len * 6 + 6 + j := ⟨p - (d.len * 6 + 6), by omega⟩
              rw [show d.len * 6 + 6 + j - d.len * 6 = 6 + j from by omega, six_drop (by omega), show 6 + j - 6 = j from by omega, six_get (by omega)]
              have hj : j < (b'.cells ut' ue').length := by simp [St1.cells]; omega
              have := hin2 j _ (List.getElem?_eq_getElem hj)
              rw [this]
              exact (List.getElem?_eq_getElem hj).symm
            · rw [six_drop (by omega), six_drop (by omega)] at hx ⊢
              rw [ho p (.inr (by omega)), ← hx]
      · rw [List.getElem?_eq_none (by simp; omega), List.getElem?_eq_none (by simp; omega)]
    have hrow := hup w' cs' hb' hl'
    rw [hcs] at hrow
    simp only [List.mem_append, not_or] at hg
    refine ⟨_, F1 ++ (Gt ++ (Ge ++ (Gt' ++ (Ge' ++ F2)))), by rw [hlen']; exact hrow, ?_, by simp [Value.ownBlock]⟩
    have k1 := StkS.chg hc _ _ _ a1 (by simp; exact fun z hz e => hg.1 (e ▸ hz))
    have k2 := StkS.chg hc _ _ _ c3 (by simp; exact fun z hz e => hg.2 (e ▸ hz))
    exact StkS.append _ _ _ _ _ _ k1 (StkS.mk r1 r2 (StkS.mk r3 r4 k2))
end Go.Proofs.Ytpmgfokcbgdegaa
