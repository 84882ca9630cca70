/-
  What is proved here: a number of a statement of an owned row is set; heads and tails of lists in memory stay within the blocks of the list.
-/
import Derived.Test.YtplcmbipeanjdaaDoorChg
namespace Go.Proofs.YtplcmbipeanjdaaDoor
set_option linter.unusedVariables false
set_option linter.unusedSimpArgs false
set_option linter.unnecessarySimpa false
open Go.RowKit

theorem fld_in {cs a : List Value} {o f : Nat} {v : Value} (h : ∀ (j : Nat) u, a[j]? = some u → cs[o + j]? = some u) : ∀ (j : Nat) u, (a.set f v)[j]? = some u → (cs.set (o + f) v)[o + j]? = some u := by
  intro j u hu
  rw [List.getElem?_set] at hu ⊢
  by_cases hj : f = j
  · subst hj
    rw [if_pos rfl] at hu ⊢
    by_cases hf : f < a.length
    · rw [if_pos hf] at hu
      have := (List.getElem?_eq_some_iff.1 (h f _ (List.getElem?_eq_getElem hf))).1
      rw [if_pos this]
      exact hu
    · rw [if_neg hf] at hu
      cases hu
  · rw [if_neg hj] at hu
    rw [if_neg (by omega)]
    exact h j u hu
theorem fld_out {cs : List Value} {o f p : Nat} {v : Value} (hf : f < 6) (hp : p < o ∨ o + 6 ≤ p) : (cs.set (o + f) v)[p]? = cs[p]? := List.getElem?_set_ne (by omega)
/-- A number of a statement can be set. -/
theorem row_fld {e : TypeId} {w : World} {v : Value} {l : Ss} {F : List Nat} (h : RowS e w v l F) (hnd : F.Nodup) {i : Nat} (hi : i < l.len) : ∃ g cap cs, v = .slice (some ⟨g, 0, none⟩) l.len cap ∧ l.len ≤ cap ∧ g ∈ F ∧ Blk w g cs e ∧ i * 6 + 6 ≤ cs.length ∧
    ∀ f z w' G, f < 4 → Blk w' g (cs.set (i * 6 + f) (.int .i64 z)) e → Chg G w w' → (∀ x ∈ F, x ≠ g → x ∉ G) → ∃ l', RowS e w' v l' F ∧ l'.len = l.len ∧ cntL l' = cntL l := by
  obtain ⟨op, x, y, n, t, el, r, q1, q2, q3, q4⟩ := Ss.at_ hi
  have hsl := h.slice
  have hlen : (l.take i).len = i := q2
  generalize l.take i = d at q1 hlen
  subst q1
  obtain ⟨g, cap, cs, vt, ve, F1, Ft, Fe, F2, hv, rfl, hb, hcl, hcells, hT, hE, hup⟩ := h.upd
  rw [hlen] at hcl hcells hup
  obtain ⟨A, c, hv2, hlc, _⟩ := hsl
  have hcc : c = cap := by rw [hv] at hv2; injection hv2 with _ _ h3; exact h3.symm
  subst hcc
  have hgF := (List.nodup_cons.1 hnd).1
  simp only [List.mem_append, not_or] at hgF
  refine ⟨g, c, cs, hv, hlc, by simp, hb, hcl, fun f z w' G hf hb' hc hG => ?_⟩
  have hin := fld_in (f := f) (v := .int .i64 z) hcells
  have hTk := hT.chg hc (fun z hz => hG z (by simp [hz]) (fun e => hgF.2.1 (e ▸ hz)))
  have hEk := hE.chg hc (fun z hz => hG z (by simp [hz]) (fun e => hgF.2.2.1 (e ▸ hz)))
  have hd : ∀ z ∈ F1 ++ F2, z ∉ G := fun z hz => by
    rcases List.mem_append.1 hz with h | h
    · exact hG z (by simp [h]) (fun e => hgF.1 (e ▸ h))
    · exact hG z (by simp [h]) (fun e => hgF.2.2.2 (e ▸ h))
  have ho : ∀ p, (p < i * 6 ∨ i * 6 + 6 ≤ p) → (cs.set (i * 6 + f) (.int .i64 z))[p]? = cs[p]? := fun p hp => fld_out (by omega) hp
  have fin : ∀ op' x' y' n', RowS e w' v (d.app (.cons op' x' y' n' t el r)) (g :: (F1 ++ (Ft ++ (Fe ++ F2)))) → ∃ l', RowS e w' v l' (g :: (F1 ++ (Ft ++ (Fe ++ F2)))) ∧ l'.len = (d.app (.cons op x y n t el r)).len ∧ cntL l' = cntL (d.app (.cons op x y n t el r)) :=
    fun op' x' y' n' h => ⟨_, h, by simp [Ss.len_app, Ss.len], by simp [cntL_app, cntL]⟩
  match f, hf with
  | 0, _ => exact fin z x y n (hup w' _ z x y n t el vt ve Ft Fe G hb' (by simp) ho hin hTk hEk hc hd)
  | 1, _ => exact fin op z y n (hup w' _ op z y n t el vt ve Ft Fe G hb' (by simp) ho hin hTk hEk hc hd)
  | 2, _ => exact fin op x z n (hup w' _ op x z n t el vt ve Ft Fe G hb' (by simp) ho hin hTk hEk hc hd)
  | 3, _ => exact fin op x y z (hup w' _ op x y z t el vt ve Ft Fe G hb' (by simp) ho hin hTk hEk hc hd)
theorem csAt_takeS {w : World} : ∀ (k : Nat) (l : Ss) (b o : Nat) (F : List Nat), CsAt w (encS l) b o F → ∃ F', CsAt w (encS (l.take k)) b o F' ∧ ∀ x ∈ F', x ∈ F
  | 0, _, _, _, _, _ => ⟨[], rfl, by simp⟩
  | _ + 1, .nil, _, _, _, _ => ⟨[], rfl, by simp⟩
  | k + 1, .cons op x y n t e r, b, o, F, ⟨h0, h1, h2, h3, vt, Ft, F1, e1, h4, hT, ve, Fe, Fr, e2, h5, hE, hr⟩ => by
    obtain ⟨F', h, hs⟩ := csAt_takeS k r _ _ _ hr
    refine ⟨_, ⟨h0, h1, h2, h3, vt, Ft, _, rfl, h4, hT, ve, Fe, F', rfl, h5, hE, h⟩, fun z hz => ?_⟩
    subst e1; subst e2
    simp only [List.mem_append] at hz ⊢
    rcases hz with h | h | h
    · exact .inl h
    · exact .inr (.inl h)
    · exact .inr (.inr (hs z h))
theorem StS.takeS {w : World} {A : Option Addr} {m c : Nat} {l : Ss} {F : List Nat} (h : StS w (.slice A m c) l F) (k : Nat) (hk : k ≤ l.len) : ∃ F', StS w (.slice A k c) (l.take k) F' ∧ ∀ x ∈ F', x ∈ F := by
  obtain ⟨A', c', e, ⟨hm, hmc⟩, hs⟩ := h
  cases e
  have hl := Ss.len_take k l hk
  rcases hs with ⟨h0, _⟩ | ⟨b, o, F', hA, hF, hs⟩
  · exact ⟨[], ⟨A, c, by rw [hl], ⟨by omega, by omega⟩, .inl ⟨by omega, rfl⟩⟩, by simp⟩
  · obtain ⟨F2, h2, hsub⟩ := csAt_takeS k l b o F' hs
    refine ⟨_, ⟨A, c, by rw [hl], ⟨by omega, by omega⟩, .inr ⟨b, o, F2, hA, rfl, h2⟩⟩, fun x hx => ?_⟩
    rw [hF]
    rcases List.mem_cons.1 hx with h | h
    · simp [h]
    · simp [hsub x h]
end Go.Proofs.YtplcmbipeanjdaaDoor
