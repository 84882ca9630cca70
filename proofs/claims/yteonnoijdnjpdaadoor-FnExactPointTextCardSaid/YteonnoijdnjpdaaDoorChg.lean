/-
  What is proved here: heads and tails of lists of statements, in memory; a statement of an owned row is replaced.
-/
import Derived.Test.YteonnoijdnjpdaaDoorCopy
import Derived.Test.YteonnoijdnjpdaaDoorPrV
namespace Go.Proofs.YteonnoijdnjpdaaDoor
set_option linter.unusedVariables false
set_option linter.unusedSimpArgs false
set_option linter.unnecessarySimpa false
open Go.RowKit

def Ss.take : Nat → Ss → Ss
  | 0, _ => .nil
  | _ + 1, .nil => .nil
  | k + 1, .cons op x y n t e r => .cons op x y n t e (r.take k)
def Ss.drop : Nat → Ss → Ss
  | 0, l => l
  | _ + 1, .nil => .nil
  | k + 1, .cons _ _ _ _ _ _ r => r.drop k
theorem Ss.take_drop : ∀ (k : Nat) (l : Ss), (l.take k).app (l.drop k) = l
  | 0, _ => rfl
  | _ + 1, .nil => rfl
  | k + 1, .cons op x y n t e r => by simp [Ss.take, Ss.drop, Ss.app, Ss.take_drop k r]
theorem Ss.len_take : ∀ (k : Nat) (l : Ss), k ≤ l.len → (l.take k).len = k
  | 0, _, _ => rfl
  | k + 1, .nil, h => by simp [Ss.len] at h
  | k + 1, .cons op x y n t e r, h => by simp only [Ss.len] at h; simp [Ss.take, Ss.len, Ss.len_take k r (by omega)]
theorem Ss.len_drop : ∀ (k : Nat) (l : Ss), (l.drop k).len = l.len - k
  | 0, _ => rfl
  | k + 1, .nil => by simp [Ss.drop, Ss.len]
  | k + 1, .cons op x y n t e r => by simp [Ss.drop, Ss.len, Ss.len_drop k r]
theorem cnt_take_drop (k : Nat) (l : Ss) : cntL (l.take k) + cntL (l.drop k) = cntL l := by rw [← cntL_app, Ss.take_drop]
theorem Ss.drop_app : ∀ (d r : Ss), (d.app r).drop d.len = r
  | .nil, _ => rfl
  | .cons op x y n t e d, r => by simp [Ss.app, Ss.len, Ss.drop, Ss.drop_app d r]
theorem Ss.take_app : ∀ (d r : Ss), (d.app r).take d.len = d
  | .nil, r => by cases r <;> rfl
  | .cons op x y n t e d, r => by simp [Ss.app, Ss.len, Ss.take, Ss.take_app d r]
/-- A list around one of its statements. -/
theorem Ss.at_ {l : Ss} {k : Nat} (h : k < l.len) : ∃ op x y n t e r, l = (l.take k).app (.cons op x y n t e r) ∧ (l.take k).len = k ∧ l.drop k = .cons op x y n t e r ∧ l.drop (k + 1) = r := by
  have h1 := Ss.len_drop k l
  have h2 := Ss.take_drop k l
  have h3 : ∀ (k : Nat) (l : Ss) op x y n t e r, l.drop k = .cons op x y n t e r → l.drop (k + 1) = r := by
    intro k
    induction k with
    | zero => intro l op x y n t e r h; cases l <;> cases h; rfl
    | succ k ih =>
      intro l op x y n t e r h
      cases l with
      | nil => cases h
      | cons => exact ih _ _ _ _ _ _ _ _ h
  cases hd : l.drop k with
  | nil => rw [hd] at h1; simp only [Ss.len] at h1; omega
  | cons op x y n t e r => exact ⟨op, x, y, n, t, e, r, by rw [← hd, h2], Ss.len_take k l (by omega), rfl, h3 _ _ _ _ _ _ _ _ _ hd⟩
theorem csAt_take {w : World} : ∀ (k : Nat) (l : Ss) (b o : Nat) (F : List Nat), CsAt w (encS l) b o F → ∃ F', CsAt w (encS (l.take k)) b o F'
  | 0, _, _, _, _, _ => ⟨[], rfl⟩
  | _ + 1, .nil, _, _, _, _ => ⟨[], rfl⟩
  | k + 1, .cons op x y n t e r, b, o, F, ⟨h0, h1, h2, h3, vt, Ft, F1, e1, h4, hT, ve, Fe, Fr, e2, h5, hE, hr⟩ => by
    obtain ⟨F', h⟩ := csAt_take k r _ _ _ hr
    exact ⟨_, h0, h1, h2, h3, vt, Ft, _, rfl, h4, hT, ve, Fe, F', rfl, h5, hE, h⟩
theorem csAt_drop {w : World} : ∀ (k : Nat) (l : Ss) (b o : Nat) (F : List Nat), k ≤ l.len → CsAt w (encS l) b o F → ∃ F', CsAt w (encS (l.drop k)) b (o + k * 6) F'
  | 0, _, _, _, F, _, h => ⟨F, by rw [Nat.zero_mul, Nat.add_zero]; exact h⟩
  | k + 1, .nil, _, _, _, hk, _ => by simp [Ss.len] at hk
  | k + 1, .cons op x y n t e r, b, o, F, hk, h => by
    obtain ⟨vt, ve, Ft, Fe, Fr, _, _, _, _, hr⟩ := csAt_stmt h
    simp only [Ss.len] at hk
    obtain ⟨F', h'⟩ := csAt_drop k r b (o + 6) Fr (by omega) hr
    exact ⟨F', by rw [show o + (k + 1) * 6 = o + 6 + k * 6 from by omega]; exact h'⟩
theorem StS.take_ {w : World} {A : Option Addr} {m c : Nat} {l : Ss} {F : List Nat} (h : StS w (.slice A m c) l F) (k : Nat) (hk : k ≤ l.len) : ∃ F', StS w (.slice A k c) (l.take k) F' := by
  obtain ⟨A', c', e, ⟨hm, hmc⟩, hs⟩ := h
  cases e
  have hl := Ss.len_take k l hk
  rcases hs with ⟨h0, _⟩ | ⟨b, o, F', hA, hF, hs⟩
  · exact ⟨[], A, c, by rw [hl], ⟨by omega, by omega⟩, .inl ⟨by omega, rfl⟩⟩
  · obtain ⟨F2, h2⟩ := csAt_take k l b o F' hs
    exact ⟨_, A, c, by rw [hl], ⟨by omega, by omega⟩, .inr ⟨b, o, F2, hA, rfl, h2⟩⟩
theorem StS.drop_ {w : World} {A : Option Addr} {m c : Nat} {l : Ss} {F : List Nat} (h : StS w (.slice A m c) l F) (k : Nat) (hk : k ≤ l.len) : ∃ F', StS w (.slice (if c = k then A else A.map (·.add (k * 6))) (l.len - k) (c - k)) (l.drop k) F' := by
  obtain ⟨A', c', e, ⟨hm, hmc⟩, hs⟩ := h
  cases e
  have hl := Ss.len_drop k l
  by_cases h0 : l.len = k
  · exact ⟨[], _, c - k, by rw [hl], ⟨by omega, by omega⟩, .inl ⟨by omega, rfl⟩⟩
  · rcases hs with ⟨h1, _⟩ | ⟨b, o, F', hA, hF, hs⟩
    · omega
    · obtain ⟨F2, h2⟩ := csAt_drop k l b o F' hk hs
      subst hA
      refine ⟨_, _, c - k, by rw [hl], ⟨by omega, by omega⟩, .inr ⟨b, o + k * 6, F2, ?_, rfl, h2⟩⟩
      rw [if_neg (by omega)]
      simp [add_some]
/-- One statement of a slice, in memory. -/
theorem StS.one_ {w : World} {A : Option Addr} {m c : Nat} {l d r t e : Ss} {op x y n : Int} {F : List Nat} (h : StS w (.slice A m c) l F) (hl : l = d.app (.cons op x y n t e r)) : ∃ b o vt ve Ft Fe, A = some ⟨b, o, none⟩ ∧ m = l.len ∧
    (∀ (j : Nat) u, [Value.int .i64 op, .int .i64 x, .int .i64 y, .int .i64 n, vt, ve][j]? = some u → w.cell? ⟨b, o + d.len * 6 + j, none⟩ = some u) ∧ StS w vt t Ft ∧ StS w ve e Fe := by
  obtain ⟨A', c', e', ⟨hm, hmc⟩, hs⟩ := h
  cases e'
  have hlen : l.len = d.len + 1 + r.len := by rw [hl, Ss.len_app]; simp [Ss.len]; omega
  rcases hs with ⟨h0, _⟩ | ⟨b, o, F', hA, hF, hs⟩
  · omega
  · obtain ⟨F2, h2⟩ := csAt_drop d.len l b o F' (by omega) hs
    rw [hl, Ss.drop_app] at h2
    obtain ⟨vt, ve, Ft, Fe, Fr, _, hc, hT, hE, _⟩ := csAt_stmt h2
    exact ⟨b, o, vt, ve, Ft, Fe, hA, rfl, hc, hT, hE⟩
theorem Ss.take_succ {op x y n : Int} {t e r : Ss} : ∀ {k : Nat} {l : Ss}, l.drop k = .cons op x y n t e r → l.take (k + 1) = (l.take k).snoc op x y n t e
  | 0, .nil, h => by cases h
  | 0, .cons _ _ _ _ _ _ _, h => by cases h; cases r <;> rfl
  | k + 1, .nil, h => by cases h
  | k + 1, .cons op' x' y' n' t' e' r', h => by
    have := Ss.take_succ (k := k) (l := r') h
    simp only [Ss.take, Ss.snoc, Ss.app, Ss.one] at this ⊢
    rw [this]
/-- A statement of a row that is owned is replaced. -/
theorem RowS.put {e : TypeId} {l r t el : Ss} {op x y n : Int} {w : World} {v : Value} {F : List Nat} (h : RowS e w v (l.app (.cons op x y n t el r)) F) :
    ∃ g cap cs vt ve F1 Ft Fe F2, v = .slice (some ⟨g, 0, none⟩) (l.app (.cons op x y n t el r)).len cap ∧ F = g :: (F1 ++ (Ft ++ (Fe ++ F2))) ∧ Blk w g cs e ∧ l.len * 6 + 6 ≤ cs.length ∧
    (∀ (j : Nat) u, [Value.int .i64 op, .int .i64 x, .int .i64 y, .int .i64 n, vt, ve][j]? = some u → cs[l.len * 6 + j]? = some u) ∧ RowS e w vt t Ft ∧ RowS e w ve el Fe ∧
    ∀ w' op' x' y' n' t' el' vt' ve' Ft' Fe', Blk w' g (cs.take (0 + l.len * 6) ++ [.int .i64 op', .int .i64 x', .int .i64 y', .int .i64 n', vt', ve'] ++ cs.drop (0 + l.len * 6 + 6)) e →
      RowS e w' vt' t' Ft' → RowS e w' ve' el' Fe' → Chg [g] w w' → g ∉ F1 ++ F2 → RowS e w' v (l.app (.cons op' x' y' n' t' el' r)) (g :: (F1 ++ (Ft' ++ (Fe' ++ F2)))) := by
  obtain ⟨g, cap, cs, vt, ve, F1, Ft, Fe, F2, h1, h2, h3, h4, h5, h6, h7, hup⟩ := h.upd
  refine ⟨g, cap, cs, vt, ve, F1, Ft, Fe, F2, h1, h2, h3, h4, h5, h6, h7, fun w' op' x' y' n' t' el' vt' ve' Ft' Fe' hb hT hE hc hg => ?_⟩
  rw [Nat.zero_add] at hb
  have hlt : (cs.take (l.len * 6)).length = l.len * 6 := by rw [List.length_take]; omega
  refine hup w' _ op' x' y' n' t' el' vt' ve' Ft' Fe' [g] hb (by simp; omega) (fun p hp => ?_) (fun j u hu => ?_) hT hE hc (fun z hz hm => by simp at hm; subst hm; exact hg hz)
  · rcases hp with hp | hp
    · rw [List.append_assoc, List.getElem?_append_left (by omega), List.getElem?_take, if_pos hp]
    · rw [List.getElem?_append_right (by simp; omega), List.getElem?_drop]
      congr 1
      simp
      omega
  · have hj : j < 6 := (List.getElem?_eq_some_iff.1 hu).1
    rw [List.append_assoc, List.getElem?_append_right (by omega), hlt, show l.len * 6 + j - l.len * 6 = j from by omega, List.getElem?_append_left (by simpa using hj)]
    exact hu
/-- A change that is made, or not. -/
def chT (tl : List Int) (R : Option Ss) : List Int := if R.isSome then tl else []
def chL (R : Option Ss) : Ss := R.getD .nil
theorem chT_len (tl : List Int) (R : Option Ss) : (chT tl R).length ≤ tl.length := by unfold chT; split <;> simp
def PrO (e : TypeId) (tl : List Int) (R : Option Ss) (w : World) (r : Value) (w' : World) : Prop := PrB e (chT tl R) (chL R) R.isSome w r w'
theorem PrO.none_ {e : TypeId} {tl : List Int} {w w' : World} (he : Ext w w') : PrO e tl none w (.tuple #[prV (.slice none 0 0) (.slice none 0 0), .bool false]) w' :=
  ⟨_, _, rfl, ⟨[], [], ⟨none, 0, rfl, ⟨by simp [chT], Nat.le_refl _⟩, .inl ⟨rfl, rfl⟩⟩, RowS.nil_ e w', by simp, by simp⟩, he⟩
theorem PrO.some_ {e : TypeId} {tl : List Int} {l : Ss} {w w' : World} {tv bv : Value} {Ft Fb : List Nat} (h1 : OwnI w' tv tl Ft) (h2 : RowS e w' bv l Fb) (h3 : (Ft ++ Fb).Nodup) (h4 : ∀ b ∈ Ft ++ Fb, w.heap.size ≤ b) (he : Ext w w') : PrO e tl (some l) w (.tuple #[prV tv bv, .bool true]) w' := by
  refine ⟨tv, bv, rfl, ⟨Ft, Fb, h1, h2, h3, fun b hb => ⟨h4 b hb, ?_⟩⟩, he⟩
  rcases List.mem_append.1 hb with hb | hb
  · exact h1.lt b hb
  · exact h2.lt b hb
/-- The statement behind a store is a load of the same variable: it becomes a move. -/
def fwdAt : Ss → Option Ss
  | .cons op x y n t e (.cons op' x' y' _ _ _ r) => if op = 7 ∧ op' = 6 ∧ y' = x ∧ x' ≠ y then some (.cons op x y n t e (.cons 3 x' y 0 .nil .nil r)) else none
  | _ => none
def fwdR (tl : List Int) (l : Ss) (k : Int) : Option Ss := if validP tl l = true ∧ 0 ≤ k then (fwdAt (l.drop k.toNat)).map (fun z => (l.take k.toNat).app z) else none
theorem fwdR_cnt (tl : List Int) (l : Ss) (k : Int) : cntL (chL (fwdR tl l k)) ≤ cntL l := by
  unfold fwdR chL
  split
  · cases hd : l.drop k.toNat with
    | nil => simp [fwdAt, cntL]
    | cons op x y n t e r =>
      cases r with
      | nil => simp [fwdAt, cntL]
      | cons op' x' y' n' t' e' r =>
        have := cnt_take_drop k.toNat l
        rw [hd] at this
        simp only [fwdAt]
        split
        · simp only [Option.map_some, Option.getD_some, cntL_app, cntL] at *
          omega
        · simp [cntL]
  · simp [cntL]
theorem fwdR_none {tl : List Int} {l : Ss} {k : Int} (hyes : ¬ (validP tl l = true ∧ 0 ≤ k ∧ k ≤ (l.len : Int) - 2)) : fwdR tl l k = none := by
  unfold fwdR
  by_cases hv : validP tl l = true ∧ 0 ≤ k
  · rw [if_pos hv]
    have hd : (l.drop k.toNat).len ≤ 1 := by
      rw [Ss.len_drop]
      have : ¬ (k ≤ (l.len : Int) - 2) := fun h => hyes ⟨hv.1, hv.2, h⟩
      omega
    cases hq : l.drop k.toNat with
    | nil => rfl
    | cons op x y n t e r =>
      cases r with
      | nil => rfl
      | cons op' x' y' n' t' e' r' => rw [hq] at hd; simp [Ss.len] at hd
  · rw [if_neg hv]
theorem fwdR_some {tl : List Int} {l : Ss} {i : Nat} {op x y n op' x' y' n' : Int} {t e r t' e' r' : Ss} (hv : validP tl l = true) (q3 : l.drop i = .cons op x y n t e r) (hr2 : r = .cons op' x' y' n' t' e' r') :
    fwdR tl l (i : Int) = (if op = 7 ∧ op' = 6 ∧ y' = x ∧ x' ≠ y then some ((l.take i).app (.cons op x y n t e (.cons 3 x' y 0 .nil .nil r'))) else none) := by
  unfold fwdR
  rw [if_pos ⟨hv, by omega⟩, Int.toNat_natCast, q3, hr2]
  simp only [fwdAt]
  split <;> rfl
/-- Two statements of the argument in blocks of their own. -/
def TwoIn (e : TypeId) (d1 d2 : Nat) (base : Env) (u1 u2 : List Value) (w : World) (τ : Env) (w' : World) : Prop :=
  ∃ a1 a2, τ = (d1, .pointer (some ⟨a1, 0, none⟩)) :: (d2, .pointer (some ⟨a2, 0, none⟩)) :: base ∧ Blk w' a1 u1 e ∧ Blk w' a2 u2 e ∧ Ext w w'
end Go.Proofs.YteonnoijdnjpdaaDoor
