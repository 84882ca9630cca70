/-
  What is proved here: the reference draws programs: some program of its texts, or some statements of bounded number, in new memory.
-/
import Derived.Test.YteonnoijdnjpdaaDoorPsp
import Derived.Test.YteonnoijdnjpdaaDoorRdU
namespace Go.Proofs.YteonnoijdnjpdaaDoor
set_option linter.unusedVariables false
set_option linter.unusedSimpArgs false
set_option linter.unnecessarySimpa false
open Go.RowKit

/-- A world of a given size that the present one extends. -/
theorem cutW {B : Nat} {w' : World} (h : B ≤ w'.heap.size) : ∃ W0 : World, W0.heap.size = B ∧ Ext W0 w' := by
  have hs : (w'.heap.extract 0 B).size = B := by simp; omega
  refine ⟨{ w' with heap := w'.heap.extract 0 B }, hs, rfl, rfl, rfl, ?_, ?_⟩
  · show (w'.heap.extract 0 B).size ≤ _
    rw [hs]; exact h
  · intro i hi
    replace hi : i < (w'.heap.extract 0 B).size := hi
    rw [hs] at hi
    show w'.heap[i]? = (w'.heap.extract 0 B)[i]?
    rw [Array.getElem?_extract]
    rw [if_pos (by omega)]
    simp
theorem Chg.freshS {G H : List Nat} {w w' w'' : World} (h : Chg G w w') (k : Chg H w' w'') (hH : ∀ b ∈ H, b ∈ G ∨ w.heap.size ≤ b) : Chg G w w'' :=
  ⟨k.os.trans h.os, k.tape.trans h.tape, k.output.trans h.output, Nat.le_trans h.size k.size, fun i hi hn => (k.block i (Nat.lt_of_lt_of_le hi h.size) fun hm => by
    rcases hH i hm with h1 | h1
    · exact hn h1
    · omega).trans (h.block i hi hn)⟩
theorem row_one1 {e : TypeId} {w : World} {b : Nat} {op x y n : Int} {t el : Ss} {vt ve : Value} {Ft Fe : List Nat} (hb : Blk w b [.int .i64 op, .int .i64 x, .int .i64 y, .int .i64 n, vt, ve] e) (h1 : RowS e w vt t Ft) (h2 : RowS e w ve el Fe) :
    RowS e w (.slice (some ⟨b, 0, none⟩) 1 1) (Ss.one op x y n t el) (b :: (Ft ++ (Fe ++ []))) :=
  ⟨_, Ft ++ (Fe ++ []), owns_blk hb (Nat.zero_le _) (by simp) (by decide), StkS.mk h1 h2 ⟨rfl, rfl⟩, rfl⟩
theorem row_two2 {e : TypeId} {w : World} {b : Nat} {op x y n op' x' y' n' : Int} {t el t' el' : Ss} {vt ve vt' ve' : Value} {Ft Fe Ft' Fe' : List Nat} (hb : Blk w b [.int .i64 op, .int .i64 x, .int .i64 y, .int .i64 n, vt, ve, .int .i64 op', .int .i64 x', .int .i64 y', .int .i64 n', vt', ve'] e) (h1 : RowS e w vt t Ft) (h2 : RowS e w ve el Fe) (h3 : RowS e w vt' t' Ft') (h4 : RowS e w ve' el' Fe') :
    RowS e w (.slice (some ⟨b, 0, none⟩) 2 2) (.cons op x y n t el (Ss.one op' x' y' n' t' el')) (b :: (Ft ++ (Fe ++ (Ft' ++ (Fe' ++ []))))) :=
  ⟨_, Ft ++ (Fe ++ (Ft' ++ (Fe' ++ []))), owns_blk hb (Nat.zero_le _) (by simp) (by decide), StkS.mk h1 h2 (StkS.mk h3 h4 ⟨rfl, rfl⟩), rfl⟩
/-- A statement in memory from B on, of so many statements at most. -/
def StB (e : TypeId) (B k : Nat) (w : World) (r : Value) : Prop :=
  ∃ op x y n t el vt ve Ft Fe, r = stV op x y n vt ve ∧ RowS e w vt t Ft ∧ RowS e w ve el Fe ∧ (Ft ++ Fe).Nodup ∧ (∀ b ∈ Ft ++ Fe, B ≤ b) ∧ 1 + cntL t + cntL el ≤ k
/-- Statements in memory from B on, of so many statements at most. -/
def LsB (e : TypeId) (B k : Nat) (w : World) (v : Value) : Prop := ∃ l xs Fs, w.ownsRow B e 6 v l.len xs ∧ StkS e w l xs Fs ∧ (v.ownBlock.toList ++ Fs).Nodup ∧ (∀ b ∈ v.ownBlock.toList ++ Fs, B ≤ b) ∧ cntL l ≤ k
section
variable {e : TypeId} {B k : Nat} {w w' : World} {r v : Value} {G : List Nat}
theorem StB.chg (h : StB e B k w r) (c : Chg G w w') (hG : ∀ x ∈ G, x < B) : StB e B k w' r := by
  obtain ⟨op, x, y, n, t, el, vt, ve, Ft, Fe, h1, h2, h3, h4, h5, h6⟩ := h
  exact ⟨op, x, y, n, t, el, vt, ve, Ft, Fe, h1, h2.chg c (fun z hz hm => by have := h5 z (by simp [hz]); have := hG z hm; omega), h3.chg c (fun z hz hm => by have := h5 z (by simp [hz]); have := hG z hm; omega), h4, h5, h6⟩
theorem StB.ext (h : StB e B k w r) (c : Ext w w') : StB e B k w' r := h.chg (c.chg []) (by simp)
theorem LsB.chg (h : LsB e B k w v) (c : Chg G w w') (hG : ∀ x ∈ G, x < B) : LsB e B k w' v := by
  obtain ⟨l, xs, Fs, h1, h2, h3, h4, h5⟩ := h
  exact ⟨l, xs, Fs, ownsRow_chg h1 c (fun z hz hm => by have := h4 z (by simp [hz]); have := hG z hm; omega), StkS.chg c _ _ _ h2 (fun z hz hm => by have := h4 z (by simp [hz]); have := hG z hm; omega), h3, h4, h5⟩
theorem LsB.ext (h : LsB e B k w v) (c : Ext w w') : LsB e B k w' v := h.chg (c.chg []) (by simp)
theorem LsB.one (h : LsB e B k w v) : v.oneCell' = true := by
  obtain ⟨l, xs, Fs, h1, _⟩ := h
  exact row_one (ownsRow_base0 h1)
theorem LsB.row (h : LsB e B k w v) : ∃ l F, RowS e w v l F ∧ F.Nodup ∧ (∀ b ∈ F, B ≤ b) ∧ cntL l ≤ k := by
  obtain ⟨l, xs, Fs, h1, h2, h3, h4, h5⟩ := h
  exact ⟨l, _, ⟨xs, Fs, ownsRow_base0 h1, h2, rfl⟩, h3, h4, h5⟩
theorem StB.flat {op x y n : Int} (h : 1 ≤ k) : StB e B k w (stV op x y n (.slice none 0 0) (.slice none 0 0)) :=
  ⟨op, x, y, n, .nil, .nil, _, _, [], [], rfl, RowS.nil_ _ _, RowS.nil_ _ _, by simp, by simp, by simpa [cntL] using h⟩
theorem StB.cells (h : StB e B k w r) : ∃ op x y n vt ve, r = stV op x y n vt ve ∧ vt.oneCell' = true ∧ ve.oneCell' = true := by
  obtain ⟨op, x, y, n, t, el, vt, ve, Ft, Fe, h1, h2, h3, h4, h5, h6⟩ := h
  exact ⟨op, x, y, n, vt, ve, h1, h2.one, h3.one⟩
end
theorem LsB.mono {e : TypeId} {B k k' : Nat} {w : World} {v : Value} (h : LsB e B k w v) (hk : k ≤ k') : LsB e B k' w v := by
  obtain ⟨l, xs, Fs, h1, h2, h3, h4, h5⟩ := h
  exact ⟨l, xs, Fs, h1, h2, h3, h4, by omega⟩
/-- One more statement, in memory from some place on. -/
theorem LsB.step {e : TypeId} {l : Ss} {B B2 k m : Nat} {w1 w2 : World} {v v' r : Value} {xs Fs} (h1 : w1.ownsRow B e 6 v l.len xs) (h2 : StkS e w1 l xs Fs) (h3 : (v.ownBlock.toList ++ Fs).Nodup) (h4 : ∀ b ∈ v.ownBlock.toList ++ Fs, B ≤ b ∧ b < B2) (h5 : cntL l ≤ k) (hB : B ≤ B2) (hB2 : B2 ≤ w1.heap.size) (hs : StB e B2 m w1 r)
    (k1 : w2.ownsRow B e 6 v' (l.len + 1) (xs ++ r.cells.toList)) (k2 : w1.grownBy w2 v.ownBlock) (k3 : v'.ownBlock = v.ownBlock ∨ ∃ b, v'.ownBlock = some b ∧ w1.heap.size ≤ b) : LsB e B (k + m) w2 v' := by
  obtain ⟨op, x, y, n, t, el, vt, ve, Ft, Fe, rfl, q1, q2, q3, q4, q5⟩ := hs
  obtain ⟨W0, hWB, hE⟩ := cutW (B := B) (w' := w1) (by omega)
  have hg := GrowS.step (e := e) (l := l) (t := t) (el := el) (op := op) (x := x) (y := y) (n := n) (w := W0) (by rw [hWB]; exact h1) h2 h3 (fun b hb => by rw [hWB]; exact (h4 b hb).1) hE q1 q2 q3 (fun z hz hm => by have := q4 z hz; have := (h4 z hm).2; omega) (fun z hz => by have := q4 z hz; omega) (by rw [hWB]; exact k1) k2 k3
  obtain ⟨⟨ys, Gs, g1, g2, g3, g4⟩, _⟩ := hg
  rw [hWB] at g1 g4
  exact ⟨_, ys, Gs, g1, g2, g3, g4, by simp only [Ss.snoc, cntL_app, Ss.one, cntL]; omega⟩
theorem sl_one (A : Option Addr) (m c : Nat) : (Value.slice A m c).oneCell' = true := rfl
def oneB : Nat → Nat
  | 0 => 1
  | d + 1 => 3 + 2 * oneB d
def oneQ : Nat → Nat
  | 0 => 8
  | d + 1 => 20 + 2 * oneQ d
end Go.Proofs.YteonnoijdnjpdaaDoor
