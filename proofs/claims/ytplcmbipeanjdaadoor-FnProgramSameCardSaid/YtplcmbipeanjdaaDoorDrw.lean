/-
  What is proved here: the reference draws programs: some program of its texts, or some statements of bounded number, in new memory.
-/
import Derived.Test.YtplcmbipeanjdaaDoorPsp
import Derived.Test.YtplcmbipeanjdaaDoorRdU
namespace Go.Proofs.YtplcmbipeanjdaaDoor
set_option linter.unusedVariables false
set_option linter.unusedSimpArgs false
set_option linter.unnecessarySimpa false
open Go.RowKit

/-- A world of a given size that the present one extends. -/
theorem cutW {B : Nat} {w' : World} (h : B ≤ w'.heap.size) : ∃ W0 : World, W0.heap.size = B ∧ Ext W0 w' := by
  have hs : (w'.heap.extract 0 B).size = B := by simp; omega
  refine ⟨{ w' with heap := w'.heap.extract 0 B }, hs, rfl, rfl, rfl, ?_, ?_⟩
  · show (w'.heap.extract 0 B).size ≤ _
    rw [hs]; exact h
  · intro i hi
    replace hi : i < (w'.heap.extract 0 B).size := hi
    rw [hs] at hi
    show w'.heap[i]? = (w'.heap.extract 0 B)[i]?
    rw [Array.getElem?_extract]
    rw [if_pos (by omega)]
    simp
theorem Chg.freshS {G H : List Nat} {w w' w'' : World} (h : Chg G w w') (k : Chg H w' w'') (hH : ∀ b ∈ H, b ∈ G ∨ w.heap.size ≤ b) : Chg G w w'' :=
  ⟨k.os.trans h.os, k.tape.trans h.tape, k.output.trans h.output, Nat.le_trans h.size k.size, fun i hi hn => (k.block i (Nat.lt_of_lt_of_le hi h.size) fun hm => by
    rcases hH i hm with h1 | h1
    · exact hn h1
    · omega).trans (h.block i hi hn)⟩
theorem row_one1 {e : TypeId} {w : World} {b : Nat} {op x y n : Int} {t el : Ss} {vt ve : Value} {Ft Fe : List Nat} (hb : Blk w b [.int .i64 op, .int .i64 x, .int .i64 y, .int .i64 n, vt, ve] e) (h1 : RowS e w vt t Ft) (h2 : RowS e w ve el Fe) :
    RowS e w (.slice (some ⟨b, 0, none⟩) 1 1) (Ss.one op x y n t el) (b :: (Ft ++ (Fe ++ []))) :=
  ⟨_, Ft ++ (Fe ++ []), owns_blk hb (Nat.zero_le _) (by simp) (by decide), StkS.mk h1 h2 ⟨rfl, rfl⟩, rfl⟩
theorem row_two2 {e : TypeId} {w : World} {b : Nat} {op x y n op' x' y' n' : Int} {t el t' el' : Ss} {vt ve vt' ve' : Value} {Ft Fe Ft' Fe' : List Nat} (hb : Blk w b [.int .i64 op, .int .i64 x, .int .i64 y, .int .i64 n, vt, ve, .int .i64 op', .int .i64 x', .int .i64 y', .int .i64 n', vt', ve'] e) (h1 : RowS e w vt t Ft) (h2 : RowS e w ve el Fe) (h3 : RowS e w vt' t' Ft') (h4 : RowS e w ve' el' Fe') :
    RowS e w (.slice (some ⟨b, 0, none⟩) 2 2) (.cons op x y n t el (Ss.one op' x' y' n' t' el')) (b :: (Ft ++ (Fe ++ (Ft' ++ (Fe' ++ []))))) :=
  ⟨_, Ft ++ (Fe ++ (Ft' ++ (Fe' ++ []))), owns_blk hb (Nat.zero_le _) (by simp) (by decide), StkS.mk h1 h2 (StkS.mk h3 h4 ⟨rfl, rfl⟩), rfl⟩
/-- A statement in memory from B on, of so many statements at most. -/
def StB (e : TypeId) (B k : Nat) (w : World) (r : Value) : Prop :=
  ∃ op x y n t el vt ve Ft Fe, r = stV op x y n vt ve ∧ RowS e w vt t Ft ∧ RowS e w ve el Fe ∧ (Ft ++ Fe).Nodup ∧ (∀ b ∈ Ft ++ Fe, B ≤ b) ∧ 1 + cntL t + cntL el ≤ k
/-- Statements in memory from B on, of so many statements at most. -/
def LsB (e : TypeId) (B k : Nat) (w : World) (v : Value) : Prop := ∃ l xs Fs, w.ownsRow B e 6 v l.len xs ∧ StkS e w l xs Fs ∧ (v.ownBlock.toList ++ Fs).Nodup ∧ (∀ b ∈ v.ownBlock.toList ++ Fs, B ≤ b) ∧ cntL l ≤ k
section
variable {e : TypeId} {B k : Nat} {w w' : World} {r v : Value} {G : List Nat}
theorem StB.chg (h : StB e B k w r) (c : Chg G w w') (hG : ∀ x ∈ G, x < B) : StB e B k w' r := by
  obtain ⟨op, x, y, n, t, el, vt, ve, Ft, Fe, h1, h2, h3, h4, h5, h6⟩ := h
  exact ⟨op, x, y, n, t, el, vt, ve, Ft, Fe, h1, h2.chg c (fun z hz hm => by have := h5 z (by simp [hz]); have := hG z hm; omega), h3.chg c (fun z hz hm => by have := h5 z (by simp [hz]); have := hG z hm; omega), h4, h5, h6⟩
theorem StB.ext (h : StB e B k w r) (c : Ext w w') : StB e B k w' r := h.chg (c.chg []) (by simp)
theorem LsB.chg (h : LsB e B k w v) (c : Chg G w w') (hG : ∀ x ∈ G, x < B) : LsB e B k w' v := by
  obtain ⟨l, xs, Fs, h1, h2, h3, h4, h5⟩ := h
  exact ⟨l, xs, Fs, ownsRow_chg h1 c (fun z hz hm => by have := h4 z (by simp [hz]); have := hG z hm; omega), StkS.chg c _ _ _ h2 (fun z hz hm => by have := h4 z (by simp [hz]); have := hG z hm; omega), h3, h4, h5⟩
theorem LsB.ext (h : LsB e B k w v) (c : Ext w w') : LsB e B k w' v := h.chg (c.chg []) (by simp)
theorem LsB.one (h : LsB e B k w v) : v.oneCell' = true := by
  obtain ⟨l, xs, Fs, h1, _⟩ := h
  exact row_one (ownsRow_base0 h1)
theorem LsB.row (h : LsB e B k w v) : ∃ l F, RowS e w v l F ∧ F.Nodup ∧ (∀ b ∈ F, B ≤ b) ∧ cntL l ≤ k := by
  obtain ⟨l, xs, Fs, h1, h2, h3, h4, h5⟩ := h
  exact ⟨l, _, ⟨xs, Fs, ownsRow_base0 h1, h2, rfl⟩, h3, h4, h5⟩
theorem StB.flat {op x y n : Int} (h : 1 ≤ k) : StB e B k w (stV op x y n (.slice none 0 0) (.slice none 0 0)) :=
  ⟨op, x, y, n, .nil, .nil, _, _, [], [], rfl, RowS.nil_ _ _, RowS.nil_ _ _, by simp, by simp, by simpa [cntL] using h⟩
theorem StB.cells (h : StB e B k w r) : ∃ op x y n vt ve, r = stV op x y n vt ve ∧ vt.oneCell' = true ∧ ve.oneCell' = true := by
  obtain ⟨op, x, y, n, t, el, vt, ve, Ft, Fe, h1, h2, h3, h4, h5, h6⟩ := h
  exact ⟨op, x, y, n, vt, ve, h1, h2.one, h3.one⟩
end
theorem LsB.mono {e : TypeId} {B k k' : Nat} {w : World} {v : Value} (h : LsB e B k w v) (hk : k ≤ k') : LsB e B k' w v := by
  obtain ⟨l, xs, Fs, h1, h2, h3, h4, h5⟩ := h
  exact ⟨l, xs, Fs, h1, h2, h3, h4, by omega⟩
/-- One more statement, in memory from some place on. -/
theorem LsB.step {e : TypeId} {l : Ss} {B B2 k m : Nat} {w1 w2 : World} {v v' r : Value} {xs Fs} (h1 : w1.ownsRow B e 6 v l.len xs) (h2 : StkS e w1 l xs Fs) (h3 : (v.ownBlock.toList ++ Fs).Nodup) (h4 : ∀ b ∈ v.ownBlock.toList ++ Fs, B ≤ b ∧ b < B2) (h5 : cntL l ≤ k) (hB : B ≤ B2) (hB2 : B2 ≤ w1.heap.size) (hs : StB e B2 m w1 r)
    (k1 : w2.ownsRow B e 6 v' (l.len + 1) (xs ++ r.cells.toList)) (k2 : w1.grownBy w2 v.ownBlock) (k3 : v'.ownBlock = v.ownBlock ∨ ∃ b, v'.ownBlock = some b ∧ w1.heap.size ≤ b) : LsB e B (k + m) w2 v' := by
  obtain ⟨op, x, y, n, t, el, vt, ve, Ft, Fe, rfl, q1, q2, q3, q4, q5⟩ := hs
  obtain ⟨W0, hWB, hE⟩ := cutW (B := B) (w' := w1) (by omega)
  have hg := GrowS.step (e := e) (l := l) (t := t) (el := el) (op := op) (x := x) (y := y) (n := n) (w := W0) (by rw [hWB]; exact h1) h2 h3 (fun b hb => by rw [hWB]; exact (h4 b hb).1) hE q1 q2 q3 (fun z hz hm => by have := q4 z hz; have := (h4 z hm).2; omega) (fun z hz => by have := q4 z hz; omega) (by rw [hWB]; exact k1) k2 k3
  obtain ⟨⟨ys, Gs, g1, g2, g3, g4⟩, _⟩ := hg
  rw [hWB] at g1 g4
  exact ⟨_, ys, Gs, g1, g2, g3, g4, by simp only [Ss.snoc, cntL_app, Ss.one, cntL]; omega⟩
theorem sl_one (A : Option Addr) (m c : Nat) : (Value.slice A m c).oneCell' = true := rfl
def oneB : Nat → Nat
  | 0 => 1
  | d + 1 => 3 + 2 * oneB d
def oneQ : Nat → Nat
  | 0 => 8
  | d + 1 => 20 + 2 * oneQ d
def DoP (d : Nat) : Prop := ∀ (rb q : Nat) (tv : Value) (w : World), RdU w rb q → q + 10000 * d ≤ 1000000000 → Ret Tryd.prog 43 [.pointer (some ⟨rb, 0, none⟩), tv, .int .i64 (d : Int)] w fun r w' => StB 56 w.heap.size (oneB d) w' r ∧ RdU w' rb (q + oneQ d) ∧ Chg [rb] w w'
def DsP (d : Nat) : Prop := ∀ (rb q n : Nat) (tv : Value) (w : World), RdU w rb q → q + 1000 + 10000 * d ≤ 1000000000 → n ≤ 8 → Ret Tryd.prog 29 [.pointer (some ⟨rb, 0, none⟩), tv, .int .i64 (d : Int), .int .i64 (n : Int)] w fun r w' => LsB 56 w.heap.size (1 + n * oneB d) w' r ∧ RdU w' rb (q + 1 + n * oneQ d) ∧ Chg [rb] w w'
theorem l1Some_ret (d : Nat) (hd : d ≤ 2) (ih : DoP d) : DsP d := by
  intro rb q n tv w hr hq hn
  have hQ : oneQ d ≤ 92 := by have : d = 0 ∨ d = 1 ∨ d = 2 := by omega
                              rcases this with rfl | rfl | rfl <;> decide
  have hO : oneB d ≤ 13 := by have : d = 0 ∨ d = 1 ∨ d = 2 := by omega
                              rcases this with rfl | rfl | rfl <;> decide
  refine enter Tryd.func29 rfl Tryd.ntmps29 rfl rfl ?_
  refine goS ?_
  refine WO_call rfl (pickU_ret rb q 10 w hr (by omega) (by decide)) ?_
  rintro _ w1 ⟨z, rfl, hz, hr1, c1⟩
  refine goS ?_
  refine WO_build (e := 56) (k := 6) [.tmp 13] (vs := [stV 2 1 0 z (.slice none 0 0) (.slice none 0 0)]) (cs := [.int .i64 2, .int .i64 1, .int .i64 0, .int .i64 (z : Int), .slice none 0 0, .slice none 0 0]) rfl rfl rfl (by decide) (by decide) (by simp [stV, Value.cells]) (by simp [stV, Value.cells]) fun w2 hb2 e2 z2 => ?_
  have s1 := c1.size
  have hrl := hr.lt
  have hst : StkS 56 w2 (Ss.one 2 1 0 z .nil .nil) [.int .i64 2, .int .i64 1, .int .i64 0, .int .i64 (z : Int), .slice none 0 0, .slice none 0 0] ([] ++ ([] ++ [])) := StkS.mk (RowS.nil_ _ _) (RowS.nil_ _ _) ⟨rfl, rfl⟩
  have hL2 : LsB 56 w.heap.size 1 w2 (.slice (some ⟨w1.heap.size, 0, none⟩) 1 1) :=
    ⟨Ss.one 2 1 0 z .nil .nil, _, [], owns_blk hb2 (by omega) (by simp) (by decide), hst, by simp [Value.ownBlock], by simp [Value.ownBlock]; omega, by simp [Ss.one, cntL]⟩
  have hc2 : Chg [rb] w w2 := c1.trans (e2.chg _)
  have hr2 := hr1.ext e2
  refine goS ?_
  refine W_loop (α := Nat × Value) (fun p => [(0, .pointer (some ⟨rb, 0, none⟩)), (1, tv), (2, .int .i64 (d : Int)), (3, .int .i64 (n : Int)), (9, p.2), (10, .int .i64 (p.1 : Int))])
    (fun p w' => p.1 ≤ n ∧ LsB 56 w.heap.size (1 + p.1 * oneB d) w' p.2 ∧ RdU w' rb (q + 1 + p.1 * oneQ d) ∧ Chg [rb] w w') (fun p => n - p.1) (0, _) (by repeat (first | exact True.intro | refine And.intro rfl ?_)) ⟨Nat.zero_le _, by simpa using hL2, by simpa using hr2, hc2⟩ ?_
  rintro ⟨i, v⟩ w3 ⟨hi, hL, hr3, c3⟩
  simp only at hi hL hr3 c3 ⊢
  have hiq : i * oneQ d ≤ 8 * 92 := Nat.mul_le_mul (by omega) hQ
  have hib : i * oneB d ≤ 8 * 13 := Nat.mul_le_mul (by omega) hO
  refine goS ?_
  refine Z52 rfl (fun hc => ?_) (fun hc => ?_)
  · have hlt : i < n := by simpa using hc
    refine goS ?_
    refine WO_call rfl (ih rb (q + 1 + i * oneQ d) tv w3 hr3 (by omega)) ?_
    rintro _ w4 ⟨hS, hr4, c4⟩
    have s3 := c3.size
    have s4 := c4.size
    obtain ⟨l, xs, Fs, h1, h2, h3, h4, h5⟩ := hL
    have h4' : ∀ b ∈ v.ownBlock.toList ++ Fs, w.heap.size ≤ b ∧ b < w3.heap.size := fun b hb => ⟨h4 b hb, by
      rcases List.mem_append.1 hb with hb | hb
      · exact (h1.lt b (by simpa using hb)).2
      · exact StkS.lt _ _ _ h2 b hb⟩
    replace h1 := ownsRow_chg h1 c4 (fun z hz hm => by have := h4' z (by simp [hz]); simp at hm; omega)
    replace h2 := StkS.chg c4 _ _ _ h2 (fun z hz hm => by have := h4' z (by simp [hz]); simp at hm; omega)
    obtain ⟨op, x, y, m, vt, ve, rfl, o1, o2⟩ := hS.cells
    have hlc := len_le_cntL l
    refine goS ?_
    refine WO_app1 (m := l.len) (u := stV op x y m vt ve) rfl rfl (by intro v hv; simp [stV, Value.cells] at hv; rcases hv with rfl | rfl | rfl | rfl | rfl | rfl <;> first | rfl | assumption) rfl h1 (by omega) rfl (by omega) (by decide) fun v' w5 k1 k2 k3 => ?_
    have hL5 := LsB.step h1 h2 h3 h4' h5 (by omega) (by omega) hS k1 k2 (by
      rcases k3 with h | h
      · exact .inl h
      · exact .inr ⟨_, h, by omega⟩)
    have c5 : Chg [rb] w w5 := (c3.trans c4).freshS (grown_chg k2) (fun b hb => .inr (by have := h4' b (by simp at hb ⊢; exact .inl hb); omega))
    have hr5 : RdU w5 rb (q + 1 + i * oneQ d + oneQ d) := hr4.chg (grown_chg k2) (fun b hb => by have := h4' b (by simp at hb ⊢; exact .inl hb); omega)
    refine goS ?_
    exact at_loop (i + 1, v') (by repeat (first | exact True.intro | refine And.intro rfl ?_)) ⟨hlt, by simp only [Nat.succ_mul]; rw [← Nat.add_assoc]; exact hL5, by simp only [Nat.succ_mul]; rw [← Nat.add_assoc]; exact hr5, c5⟩ (by simp only; omega)
  · have hge : i = n := by simp at hc; omega
    subst hge
    refine goS ?_
    exact at_ret1 rfl rfl ⟨hL, hr3, c3⟩
theorem l1One_ret (d : Nat) (hd : d ≤ 2) (ihO : d ≠ 0 → DoP 0) (ihS : ∀ d', d = d' + 1 → DsP d') : DoP d := by
  intro rb q tv w hr hq
  have hpos : 1 ≤ oneB d := by cases d <;> simp [oneB]; omega
  have hposQ : 8 ≤ oneQ d := by cases d <;> simp [oneQ]; omega
  have hrl := hr.lt
  refine enter Tryd.func43 rfl Tryd.ntmps43 rfl rfl ?_
  refine Z43 (Z44 (WO_alloc fun w1 hz e1 z1 => ?_))
  replace hz : Blk w1 w.heap.size [.int .i64 0, .int .i64 0, .int .i64 0, .int .i64 0, .slice none 0 0, .slice none 0 0] _ := hz
  refine goS ?_
  refine WO_call rfl (pickU_ret rb q 2 w1 (hr.ext e1) (by omega) (by decide)) ?_
  rintro _ w2 ⟨b, rfl, hb, hr2, c2⟩
  have hz2 := hz.chg c2 (by simp; omega)
  have c02 : Chg [rb] w w2 := (e1.chg _).trans c2
  refine goS ?_
  refine WO_ints [1, 2, 1, 4, 5] rfl rfl (by decide) (by decide) fun wa hia ea za => ?_
  refine goS ?_
  refine WO_call rfl (numU_ret rb (q + 1) _ [1, 2, 1, 4, 5] _ wa (hr2.ext ea) (by omega) hia.int (by decide) (by have := hr2.lt; simp; omega)) ?_
  rintro _ w3 ⟨o, ho, rfl, hr3, c3⟩
  have hz3 := (hz2.ext ea).chg c3 (by simp; omega)
  have c03 : Chg [rb] w w3 := (c02.trans (ea.chg _)).trans c3
  refine goS ?_
  refine WO_call rfl (pickU_ret rb (q + 2) 11 w3 hr3 (by omega) (by decide)) ?_
  rintro _ w4 ⟨z, rfl, hz11, hr4, c4⟩
  have hz4 := hz3.chg c4 (by simp; omega)
  replace c4 : Chg [rb] w w4 := c03.trans c4
  clear hz hz2 hz3 c02 c03 c2 c3 hr2 hr3 hr
  have hcases : z = 0 ∨ z = 1 ∨ z = 2 ∨ z = 3 ∨ z = 4 ∨ z = 5 ∨ z = 6 ∨ z = 7 ∨ z = 8 ∨ z = 9 ∨ z = 10 := by omega
  rcases hcases with rfl | rfl | rfl | rfl | rfl | rfl | rfl | rfl | rfl | rfl | rfl
  · refine goS ?_
    refine WO_call rfl (pickU_ret rb (q + 3) 10 w4 hr4 (by omega) (by decide)) ?_
    rintro _ wb ⟨y, rfl, hy, hr5, c5⟩
    replace hr4 := hr5
    replace hz4 := hz4.chg c5 (by simp; omega)
    replace c4 := c4.trans c5
    refine goS ?_
    refine WO_storeS (k := 6) (vs := [.int .i64 (1), .int .i64 (0), .int .i64 (0), .int .i64 (y), .slice none 0 0, .slice none 0 0]) rfl rfl rfl (by simp [Value.oneCell']) hz4 (by decide) fun wz hz oz => ?_
    replace hz : Blk wz w.heap.size [.int .i64 (1), .int .i64 (0), .int .i64 (0), .int .i64 (y), .slice none 0 0, .slice none 0 0] _ := hz
    refine goS ?_
    exact at_retC rfl rfl hz rfl ⟨StB.flat hpos, RdU.mono (RdU.chg hr4 oz.chg (by simp; omega)) (by omega), Chg.freshS c4 oz.chg (by simp)⟩
  · refine goS ?_
    refine WO_call rfl (pickU_ret rb (q + 3) 10 w4 hr4 (by omega) (by decide)) ?_
    rintro _ wb ⟨y, rfl, hy, hr5, c5⟩
    replace hr4 := hr5
    replace hz4 := hz4.chg c5 (by simp; omega)
    replace c4 := c4.trans c5
    refine goS ?_
    refine WO_storeS (k := 6) (vs := [.int .i64 (2), .int .i64 (1 + (b : Int)), .int .i64 (0), .int .i64 (y), .slice none 0 0, .slice none 0 0]) rfl rfl rfl (by simp [Value.oneCell']) hz4 (by decide) fun wz hz oz => ?_
    replace hz : Blk wz w.heap.size [.int .i64 (2), .int .i64 (1 + (b : Int)), .int .i64 (0), .int .i64 (y), .slice none 0 0, .slice none 0 0] _ := hz
    refine goS ?_
    exact at_retC rfl rfl hz rfl ⟨StB.flat hpos, RdU.mono (RdU.chg hr4 oz.chg (by simp; omega)) (by omega), Chg.freshS c4 oz.chg (by simp)⟩
  · refine goS ?_
    refine WO_storeS (k := 6) (vs := [.int .i64 (3), .int .i64 (1 + (b : Int)), .int .i64 (3 - (1 + (b : Int))), .int .i64 (0), .slice none 0 0, .slice none 0 0]) rfl rfl rfl (by simp [Value.oneCell']) hz4 (by decide) fun wz hz oz => ?_
    replace hz : Blk wz w.heap.size [.int .i64 (3), .int .i64 (1 + (b : Int)), .int .i64 (3 - (1 + (b : Int))), .int .i64 (0), .slice none 0 0, .slice none 0 0] _ := hz
    refine goS ?_
    exact at_retC rfl rfl hz rfl ⟨StB.flat hpos, RdU.mono (RdU.chg hr4 oz.chg (by simp; omega)) (by omega), Chg.freshS c4 oz.chg (by simp)⟩
  · refine goS ?_
    refine WO_storeS (k := 6) (vs := [.int .i64 (4), .int .i64 (3), .int .i64 (o), .int .i64 (0), .slice none 0 0, .slice none 0 0]) rfl rfl rfl (by simp [Value.oneCell']) hz4 (by decide) fun wz hz oz => ?_
    replace hz : Blk wz w.heap.size [.int .i64 (4), .int .i64 (3), .int .i64 (o), .int .i64 (0), .slice none 0 0, .slice none 0 0] _ := hz
    refine goS ?_
    exact at_retC rfl rfl hz rfl ⟨StB.flat hpos, RdU.mono (RdU.chg hr4 oz.chg (by simp; omega)) (by omega), Chg.freshS c4 oz.chg (by simp)⟩
  · refine goS ?_
    refine WO_ints [1, 2, 1, 5] rfl rfl (by decide) (by decide) fun wa hia ea za => ?_
    refine goS ?_
    refine WO_call rfl (numU_ret rb (q + 3) _ [1, 2, 1, 5] _ wa (hr4.ext ea) (by omega) hia.int (by decide) (by have := hr4.lt; simp; omega)) ?_
    rintro _ wb ⟨y, hy, rfl, hr5, c5⟩
    replace hr4 := hr5
    replace hz4 := (hz4.ext ea).chg c5 (by simp; omega)
    replace c4 := (c4.trans (ea.chg _)).trans c5
    refine goS ?_
    refine WO_storeS (k := 6) (vs := [.int .i64 (5), .int .i64 (4), .int .i64 (y), .int .i64 (0), .slice none 0 0, .slice none 0 0]) rfl rfl rfl (by simp [Value.oneCell']) hz4 (by decide) fun wz hz oz => ?_
    replace hz : Blk wz w.heap.size [.int .i64 (5), .int .i64 (4), .int .i64 (y), .int .i64 (0), .slice none 0 0, .slice none 0 0] _ := hz
    refine goS ?_
    exact at_retC rfl rfl hz rfl ⟨StB.flat hpos, RdU.mono (RdU.chg hr4 oz.chg (by simp; omega)) (by omega), Chg.freshS c4 oz.chg (by simp)⟩
  · refine goS ?_
    refine WO_ints [1, 2, 1, 5] rfl rfl (by decide) (by decide) fun wa hia ea za => ?_
    refine goS ?_
    refine WO_call rfl (numU_ret rb (q + 3) _ [1, 2, 1, 5] _ wa (hr4.ext ea) (by omega) hia.int (by decide) (by have := hr4.lt; simp; omega)) ?_
    rintro _ wb ⟨y, hy, rfl, hr5, c5⟩
    replace hr4 := hr5
    replace hz4 := (hz4.ext ea).chg c5 (by simp; omega)
    replace c4 := (c4.trans (ea.chg _)).trans c5
    refine goS ?_
    refine WO_storeS (k := 6) (vs := [.int .i64 (5), .int .i64 (4), .int .i64 (y), .int .i64 (0), .slice none 0 0, .slice none 0 0]) rfl rfl rfl (by simp [Value.oneCell']) hz4 (by decide) fun wz hz oz => ?_
    replace hz : Blk wz w.heap.size [.int .i64 (5), .int .i64 (4), .int .i64 (y), .int .i64 (0), .slice none 0 0, .slice none 0 0] _ := hz
    refine goS ?_
    exact at_retC rfl rfl hz rfl ⟨StB.flat hpos, RdU.mono (RdU.chg hr4 oz.chg (by simp; omega)) (by omega), Chg.freshS c4 oz.chg (by simp)⟩
  · refine goS ?_
    refine WO_ints [3, 4, 1, 2, 5] rfl rfl (by decide) (by decide) fun wa hia ea za => ?_
    refine goS ?_
    refine WO_call rfl (numU_ret rb (q + 3) _ [3, 4, 1, 2, 5] _ wa (hr4.ext ea) (by omega) hia.int (by decide) (by have := hr4.lt; simp; omega)) ?_
    rintro _ wb ⟨y, hy, rfl, hr5, c5⟩
    replace hr4 := hr5
    replace hz4 := (hz4.ext ea).chg c5 (by simp; omega)
    replace c4 := (c4.trans (ea.chg _)).trans c5
    refine goS ?_
    refine WO_storeS (k := 6) (vs := [.int .i64 (6), .int .i64 (0), .int .i64 (y), .int .i64 (0), .slice none 0 0, .slice none 0 0]) rfl rfl rfl (by simp [Value.oneCell']) hz4 (by decide) fun wz hz oz => ?_
    replace hz : Blk wz w.heap.size [.int .i64 (6), .int .i64 (0), .int .i64 (y), .int .i64 (0), .slice none 0 0, .slice none 0 0] _ := hz
    refine goS ?_
    exact at_retC rfl rfl hz rfl ⟨StB.flat hpos, RdU.mono (RdU.chg hr4 oz.chg (by simp; omega)) (by omega), Chg.freshS c4 oz.chg (by simp)⟩
  · refine goS ?_
    refine WO_ints [4, 1, 2, 5] rfl rfl (by decide) (by decide) fun wa hia ea za => ?_
    refine goS ?_
    refine WO_call rfl (numU_ret rb (q + 3) _ [4, 1, 2, 5] _ wa (hr4.ext ea) (by omega) hia.int (by decide) (by have := hr4.lt; simp; omega)) ?_
    rintro _ wb ⟨y, hy, rfl, hr5, c5⟩
    replace hr4 := hr5
    replace hz4 := (hz4.ext ea).chg c5 (by simp; omega)
    replace c4 := (c4.trans (ea.chg _)).trans c5
    refine goS ?_
    refine WO_storeS (k := 6) (vs := [.int .i64 (7), .int .i64 (y), .int .i64 (0), .int .i64 (0), .slice none 0 0, .slice none 0 0]) rfl rfl rfl (by simp [Value.oneCell']) hz4 (by decide) fun wz hz oz => ?_
    replace hz : Blk wz w.heap.size [.int .i64 (7), .int .i64 (y), .int .i64 (0), .int .i64 (0), .slice none 0 0, .slice none 0 0] _ := hz
    refine goS ?_
    exact at_retC rfl rfl hz rfl ⟨StB.flat hpos, RdU.mono (RdU.chg hr4 oz.chg (by simp; omega)) (by omega), Chg.freshS c4 oz.chg (by simp)⟩
  · refine goS ?_
    refine WO_storeS (k := 6) (vs := [.int .i64 (8), .int .i64 (1 + (b : Int)), .int .i64 (0), .int .i64 (0), .slice none 0 0, .slice none 0 0]) rfl rfl rfl (by simp [Value.oneCell']) hz4 (by decide) fun wz hz oz => ?_
    replace hz : Blk wz w.heap.size [.int .i64 (8), .int .i64 (1 + (b : Int)), .int .i64 (0), .int .i64 (0), .slice none 0 0, .slice none 0 0] _ := hz
    refine goS ?_
    exact at_retC rfl rfl hz rfl ⟨StB.flat hpos, RdU.mono (RdU.chg hr4 oz.chg (by simp; omega)) (by omega), Chg.freshS c4 oz.chg (by simp)⟩
  · cases d with
    | zero => refine goS ?_
              refine WO_ints [4, 1, 2] rfl rfl (by decide) (by decide) fun wa hia ea za => ?_
              refine goS ?_
              refine WO_call rfl (numU_ret rb (q + 3) _ [4, 1, 2] _ wa (hr4.ext ea) (by omega) hia.int (by decide) (by have := hr4.lt; simp; omega)) ?_
              rintro _ wb ⟨y, hy, rfl, hr5, c5⟩
              replace hr4 := hr5
              replace hz4 := (hz4.ext ea).chg c5 (by simp; omega)
              replace c4 := (c4.trans (ea.chg _)).trans c5
              refine goS ?_
              refine WO_storeS (k := 6) (vs := [.int .i64 (5), .int .i64 (5), .int .i64 (y), .int .i64 (0), .slice none 0 0, .slice none 0 0]) rfl rfl rfl (by simp [Value.oneCell']) hz4 (by decide) fun wz hz oz => ?_
              replace hz : Blk wz w.heap.size [.int .i64 (5), .int .i64 (5), .int .i64 (y), .int .i64 (0), .slice none 0 0, .slice none 0 0] _ := hz
              refine goS ?_
              exact at_retC rfl rfl hz rfl ⟨StB.flat hpos, RdU.mono (RdU.chg hr4 oz.chg (by simp; omega)) (by omega), Chg.freshS c4 oz.chg (by simp)⟩
    | succ d =>
      have hQ : oneQ d ≤ 36 := by have : d = 0 ∨ d = 1 := by omega
                                  rcases this with rfl | rfl <;> decide
      refine goS ?_
      rw [decide_eq_true (show ((d + 1 : Nat) : Int) > 0 by omega)]
      refine goS ?_
      refine WO_call rfl (pickU_ret rb (q + 3) 3 w4 hr4 (by omega) (by decide)) ?_
      rintro _ w5 ⟨k, rfl, hk, hr5, c5⟩
      have hkq : k * oneQ d ≤ 2 * oneQ d := Nat.mul_le_mul (by omega) (Nat.le_refl _)
      have hkb : k * oneB d ≤ 2 * oneB d := Nat.mul_le_mul (by omega) (Nat.le_refl _)
      have hz5 := hz4.chg c5 (by simp; omega)
      rw [show ((d + 1 : Nat) : Int) - 1 = (d : Int) from by omega]
      refine WO_call rfl (ihS d rfl rb (q + 4) k tv w5 hr5 (by omega) (by omega)) ?_
      rintro v w6 ⟨hL, hr6, c6⟩
      obtain ⟨l, F, hrow, hnd, hF, hcl⟩ := hL.row
      have hz6 := hz5.chg c6 (by simp; omega)
      have hFl := hrow.lt
      refine goS ?_
      refine WO_call rfl (ihO (by omega) rb (q + 4 + 1 + k * oneQ d) tv w6 hr6 (by omega)) ?_
      rintro _ w7 ⟨hS, hr7, c7⟩
      obtain ⟨op, x, y, n, t, el, vt, ve, Ft, Fe, rfl, h2, h3, h4, h5, h6⟩ := hS
      have hz7 := hz6.chg c7 (by simp; omega)
      have hrow7 := hrow.chg c7 (fun z hz hm => by have := hF z hz; have := hz4.lt; have := c5.size; simp at hm; omega)
      have o1 := h2.one
      have o2 := h3.one
      refine goS ?_
      refine WO_build (e := 56) (k := 6) [.tmp 74] (vs := [stV op x y n vt ve]) (cs := [.int .i64 op, .int .i64 x, .int .i64 y, .int .i64 n, vt, ve]) rfl rfl rfl (by decide) (by decide) (by simp [stV, Value.cells]) (by simp [stV, Value.cells]) fun w8 hb8 e8 z8 => ?_
      have hr1 := row_one1 hb8 (h2.ext e8) (h3.ext e8)
      have hone := hrow.one
      refine Z13 (Z30 (cs := [.int .i64 9, .int .i64 0, .int .i64 0, .int .i64 0, v, .slice (some ⟨w7.heap.size, 0, none⟩) 1 1]) rfl (by simp [partsOk, hone, int_one, sl_one]) rfl) ?_
      have hz8 := hz7.ext e8
      refine WO_storeS (k := 6) (vs := [.int .i64 9, .int .i64 0, .int .i64 0, .int .i64 0, v, .slice (some ⟨w7.heap.size, 0, none⟩) 1 1]) rfl rfl rfl (by intro u hu; simp at hu; rcases hu with rfl | rfl | rfl | rfl <;> first | rfl | assumption) hz8 (by decide) fun wz hz oz => ?_
      replace hz : Blk wz w.heap.size [.int .i64 9, .int .i64 0, .int .i64 0, .int .i64 0, v, .slice (some ⟨w7.heap.size, 0, none⟩) 1 1] _ := hz
      have s4 := hz4.lt
      have s5 := c5.size
      have s6 := c6.size
      have s7 := c7.size
      refine goS ?_
      refine at_retC rfl rfl hz rfl ⟨⟨9, 0, 0, 0, l, Ss.one op x y n t el, v, _, F, _, rfl, (hrow7.ext e8).chg oz.chg (fun z hz hm => by have := hF z hz; simp at hm; omega), hr1.chg oz.chg (fun z hz hm => ?_), ?_, fun b hb => ?_, ?_⟩, RdU.mono (RdU.chg (hr7.ext e8) oz.chg (by simp; omega)) (by simp only [oneQ]; omega), Chg.freshS ((((c4.trans c5).trans c6).trans c7).trans (e8.chg _)) oz.chg (by simp)⟩
      · simp only [List.mem_singleton] at hm
        simp only [List.mem_cons, List.append_nil] at hz
        rcases hz with h | h
        · omega
        · have := h5 z h; omega
      · refine List.nodup_append.2 ⟨hnd, ?_, fun a ha b hb e => ?_⟩
        · rw [List.append_nil]
          exact List.nodup_cons.2 ⟨fun hm => by
            rcases List.mem_append.1 hm with h | h
            · have := h2.lt _ h; omega
            · have := h3.lt _ h; omega, h4⟩
        · subst e
          have := hFl a ha
          simp only [List.mem_cons, List.append_nil] at hb
          rcases hb with h | h
          · omega
          · have := h5 a h; omega
      · simp only [List.mem_append, List.mem_cons, List.not_mem_nil, or_false] at hb
        rcases hb with h | h | h | h
        · have := hF b h; omega
        · omega
        · have := h5 b (by simp [h]); omega
        · have := h5 b (by simp [h]); omega
      · simp only [Ss.one, cntL, oneB] at hcl h6 ⊢
        omega
  · cases d with
    | zero => refine goS ?_
              refine WO_ints [4, 1, 2] rfl rfl (by decide) (by decide) fun wa hia ea za => ?_
              refine goS ?_
              refine WO_call rfl (numU_ret rb (q + 3) _ [4, 1, 2] _ wa (hr4.ext ea) (by omega) hia.int (by decide) (by have := hr4.lt; simp; omega)) ?_
              rintro _ wb ⟨y, hy, rfl, hr5, c5⟩
              replace hr4 := hr5
              replace hz4 := (hz4.ext ea).chg c5 (by simp; omega)
              replace c4 := (c4.trans (ea.chg _)).trans c5
              refine goS ?_
              refine WO_storeS (k := 6) (vs := [.int .i64 (5), .int .i64 (5), .int .i64 (y), .int .i64 (0), .slice none 0 0, .slice none 0 0]) rfl rfl rfl (by simp [Value.oneCell']) hz4 (by decide) fun wz hz oz => ?_
              replace hz : Blk wz w.heap.size [.int .i64 (5), .int .i64 (5), .int .i64 (y), .int .i64 (0), .slice none 0 0, .slice none 0 0] _ := hz
              refine goS ?_
              exact at_retC rfl rfl hz rfl ⟨StB.flat hpos, RdU.mono (RdU.chg hr4 oz.chg (by simp; omega)) (by omega), Chg.freshS c4 oz.chg (by simp)⟩
    | succ d =>
      refine goS ?_
      rw [decide_eq_true (show ((d + 1 : Nat) : Int) > 0 by omega)]
      refine goS ?_
      refine WO_call rfl (ihO (by omega) rb (q + 3) tv w4 hr4 (by omega)) ?_
      rintro _ w6 ⟨hS, hr6, c6⟩
      obtain ⟨op', x', y', n', t', el', vt', ve', Ft', Fe', rfl, g2, g3, g4, g5, g6⟩ := hS
      have hz6 := hz4.chg c6 (by simp; omega)
      have hFl1 := g2.lt
      have hFl2 := g3.lt
      refine goS ?_
      refine WO_call rfl (ihO (by omega) rb (q + 3 + oneQ 0) tv w6 hr6 (by simp only [oneQ]; omega)) ?_
      rintro _ w7 ⟨hS, hr7, c7⟩
      obtain ⟨op, x, y, n, t, el, vt, ve, Ft, Fe, rfl, h2, h3, h4, h5, h6⟩ := hS
      have hz7 := hz6.chg c7 (by simp; omega)
      have s4 := hz4.lt
      have s6 := c6.size
      have s7 := c7.size
      have g2' := g2.chg c7 (fun z hz hm => by have := g5 z (by simp [hz]); simp at hm; omega)
      have g3' := g3.chg c7 (fun z hz hm => by have := g5 z (by simp [hz]); simp at hm; omega)
      have o1 := h2.one
      have o2 := h3.one
      have o3 := g2.one
      have o4 := g3.one
      refine WO_build (e := 56) (k := 6) [.tmp 83, .tmp 86] (vs := [stV op' x' y' n' vt' ve', stV op x y n vt ve]) (cs := [.int .i64 op', .int .i64 x', .int .i64 y', .int .i64 n', vt', ve', .int .i64 op, .int .i64 x, .int .i64 y, .int .i64 n, vt, ve]) rfl rfl rfl (by decide) (by decide) (by simp [stV, Value.cells]) (by simp [stV, Value.cells]) fun w8 hb8 e8 z8 => ?_
      have hr1 := row_two2 hb8 (g2'.ext e8) (g3'.ext e8) (h2.ext e8) (h3.ext e8)
      refine goS ?_
      have hz8 := hz7.ext e8
      refine WO_storeS (k := 6) (vs := [.int .i64 10, .int .i64 0, .int .i64 0, .int .i64 0, .slice (some ⟨w7.heap.size, 0, none⟩) 2 2, .slice none 0 0]) rfl rfl rfl (by simp [Value.oneCell']) hz8 (by decide) fun wz hz oz => ?_
      replace hz : Blk wz w.heap.size [.int .i64 10, .int .i64 0, .int .i64 0, .int .i64 0, .slice (some ⟨w7.heap.size, 0, none⟩) 2 2, .slice none 0 0] _ := hz
      have hmem : ∀ z ∈ Ft' ++ (Fe' ++ (Ft ++ (Fe ++ []))), w4.heap.size ≤ z ∧ z < w7.heap.size := fun z hz => by
        simp only [List.mem_append, List.not_mem_nil, or_false] at hz
        rcases hz with h | h | h | h
        · have := g5 z (by simp [h]); have := hFl1 z h; omega
        · have := g5 z (by simp [h]); have := hFl2 z h; omega
        · have := h5 z (by simp [h]); have := h2.lt z h; omega
        · have := h5 z (by simp [h]); have := h3.lt z h; omega
      refine goS ?_
      refine at_retC rfl rfl hz rfl ⟨⟨10, 0, 0, 0, .cons op' x' y' n' t' el' (Ss.one op x y n t el), .nil, _, _, _, [], rfl, hr1.chg oz.chg (fun z hz hm => ?_), RowS.nil_ _ _, ?_, fun b hb => ?_, ?_⟩, RdU.mono (RdU.chg (hr7.ext e8) oz.chg (by simp; omega)) (by simp only [oneQ]; omega), Chg.freshS (((c4.trans c6).trans c7).trans (e8.chg _)) oz.chg (by simp)⟩
      · simp only [List.mem_singleton] at hm
        rcases List.mem_cons.1 hz with h | h
        · omega
        · have := hmem z h; omega
      · rw [List.append_nil]
        refine List.nodup_cons.2 ⟨fun hm => by have := hmem _ hm; omega, ?_⟩
        have a1 := List.nodup_append.1 g4
        have a2 := List.nodup_append.1 h4
        have hx : ∀ a, a ∈ Ft' ++ Fe' → ∀ b, b ∈ Ft ++ Fe → a ≠ b := fun a ha b hb e => by
          subst e
          have := h5 a hb
          rcases List.mem_append.1 ha with h | h
          · have := hFl1 a h; omega
          · have := hFl2 a h; omega
        rw [List.append_nil, ← List.append_assoc]
        exact List.nodup_append.2 ⟨g4, h4, hx⟩
      · rw [List.append_nil] at hb
        rcases List.mem_cons.1 hb with h | h
        · omega
        · have := hmem b h; omega
      · simp only [Ss.one, cntL, oneB] at g6 h6 ⊢
        omega
theorem one0 : DoP 0 := l1One_ret 0 (by decide) (fun h => absurd rfl h) (fun d' h => by omega)
theorem some0 : DsP 0 := l1Some_ret 0 (by decide) one0
theorem one1 : DoP 1 := l1One_ret 1 (by decide) (fun _ => one0) (fun d' h => by have : d' = 0 := by omega
                                                                                subst this; exact some0)
theorem some1 : DsP 1 := l1Some_ret 1 (by decide) one1
theorem one2 : DoP 2 := l1One_ret 2 (by decide) (fun _ => one0) (fun d' h => by have : d' = 1 := by omega
                                                                                subst this; exact some1)
theorem some2 : DsP 2 := l1Some_ret 2 (by decide) one2
end Go.Proofs.YtplcmbipeanjdaaDoor
