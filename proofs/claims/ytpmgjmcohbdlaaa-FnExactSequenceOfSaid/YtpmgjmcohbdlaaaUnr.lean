/-
  What is proved here: which program UnrollLoop of the program and of the reference make.
-/
import Derived.Test.YtpmgjmcohbdlaaaNum
namespace Go.Proofs.Ytpmgjmcohbdlaaa
set_option linter.unusedVariables false
set_option linter.unusedSimpArgs false
set_option linter.unnecessarySimpa false
open Go.RowKit

theorem row_app {B : Nat} {e : TypeId} {w1 w2 : World} {l m : Ss} {v v' : Value} {xs ys : List Value} {Fs Fm : List Nat} (h2 : StkS e w1 l xs Fs) (hm : StkS e w1 m ys Fm) (hc : Chg v.ownBlock.toList w1 w2) (hd : ∀ z ∈ Fs ++ Fm, z ∉ v.ownBlock.toList)
    (k1 : w2.ownsRow B e 6 v' (l.len + m.len) (xs ++ ys)) : RowS e w2 v' (l.app m) (v'.ownBlock.toList ++ (Fs ++ Fm)) :=
  ⟨xs ++ ys, Fs ++ Fm, by rw [Ss.len_app]; exact ownsRow_base0 k1, StkS.append _ _ _ _ _ _ (StkS.chg hc _ _ _ h2 fun x hx => hd x (by simp [hx])) (StkS.chg hc _ _ _ hm fun x hx => hd x (by simp [hx])), rfl⟩
theorem stk_one {e : TypeId} {w : World} {op x y n : Int} {t el : Ss} {vt ve : Value} {Ft Fe : List Nat} (h1 : RowS e w vt t Ft) (h2 : RowS e w ve el Fe) : StkS e w (Ss.one op x y n t el) [.int .i64 op, .int .i64 x, .int .i64 y, .int .i64 n, vt, ve] (Ft ++ Fe) := by
  have := StkS.mk (op := op) (x := x) (y := y) (n := n) h1 h2 (r := .nil) (xr := []) (Fr := []) ⟨rfl, rfl⟩
  rwa [List.append_nil] at this
theorem row_cells {B e k m : Nat} {w : World} {v : Value} {xs : List Value} (h : w.ownsRow B e k v m xs) (h0 : 0 < m) : ∃ g cap, v = .slice (some ⟨g, 0, none⟩) m cap ∧ ∀ j u, xs[j]? = some u → w.cell? ⟨g, 0 + j, none⟩ = some u := by
  obtain ⟨hl, ⟨h3, hm⟩ | ⟨g, cap, cur, h3, hB, hg, hnc, hm, hcs, ht⟩⟩ := h
  · omega
  · refine ⟨g, cap, h3, fun j u hu => ?_⟩
    rw [← ht, List.getElem?_take] at hu
    split at hu
    · have hb : Blk w g cur.toList e := by simpa [Blk] using hg
      rw [Nat.zero_add]
      exact hb.cell hu
    · cases hu
def unrAt (tl : List Int) (d : Ss) : Ss → Option Ss
  | .cons op x y n t e r => if op = 10 ∧ validP tl (d.app (.cons 9 0 0 0 (t.snoc op x y n t e) .nil r)) = true then some (d.app (.cons 9 0 0 0 (t.snoc op x y n t e) .nil r)) else none
  | .nil => none
def unrR (tl : List Int) (l : Ss) (k : Int) : Option Ss := if validP tl l = true ∧ 0 ≤ k then unrAt tl (l.take k.toNat) (l.drop k.toNat) else none
theorem unrR_cnt (tl : List Int) (l : Ss) (k : Int) : cntL (chL (unrR tl l k)) ≤ 30 := by
  unfold unrR chL
  split
  · cases hd : l.drop k.toNat with
    | nil => simp [unrAt, cntL]
    | cons op x y n t e r =>
      simp only [unrAt]
      split
      · rename_i h
        exact (validP_cnt h.2).2.2
      · simp [cntL]
  · simp [cntL]
theorem unrR_none {tl : List Int} {l : Ss} {k : Int} (h : ¬ (validP tl l = true ∧ 0 ≤ k ∧ k ≤ (l.len : Int) - 1)) : unrR tl l k = none := by
  unfold unrR
  by_cases hv : validP tl l = true ∧ 0 ≤ k
  · rw [if_pos hv]
    have h1 := Ss.len_drop k.toNat l
    have h2 : ¬ (k ≤ (l.len : Int) - 1) := fun h2 => h ⟨hv.1, hv.2, h2⟩
    rw [Ss.len_zero (l := l.drop k.toNat) (by omega)]
    rfl
  · rw [if_neg hv]
theorem unrR_some {tl : List Int} {l : Ss} {i : Nat} {op x y n : Int} {t e r : Ss} (hv : validP tl l = true) (q3 : l.drop i = .cons op x y n t e r) : unrR tl l (i : Int) = unrAt tl (l.take i) (.cons op x y n t e r) := by
  unfold unrR
  rw [if_pos ⟨hv, by omega⟩, Int.toNat_natCast, q3]
/-- What stands behind the statement that puts the choice in the loop's place. -/
def UnrIn (e : TypeId) (g i : Nat) (cs : List Value) (t' : Ss) (Old : List Nat) (w w' : World) : Prop :=
  ∃ v3 F3, Blk w' g (cs.take (0 + i * 6) ++ [.int .i64 9, .int .i64 0, .int .i64 0, .int .i64 0, v3, .slice none 0 0] ++ cs.drop (0 + i * 6 + 6)) e ∧ RowS e w' v3 t' F3 ∧ F3.Nodup ∧ (∀ b ∈ F3, b ∈ Old ∨ w.heap.size ≤ b) ∧ Chg [g] w w'
/-- What stands behind the region that makes the statements of the choice. -/
def UnrB (e : TypeId) (base : Env) (t' : Ss) (w : World) (τ : Env) (w' : World) : Prop := ∃ v3 F3, τ = (7, v3) :: base ∧ RowS e w' v3 t' F3 ∧ F3.Nodup ∧ (∀ b ∈ F3, w.heap.size ≤ b) ∧ Ext w w'
end Go.Proofs.Ytpmgjmcohbdlaaa
