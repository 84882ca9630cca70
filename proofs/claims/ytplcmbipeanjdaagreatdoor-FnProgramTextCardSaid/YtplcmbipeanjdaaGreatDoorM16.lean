/-
  What is proved here: the programs that the reference draws can be written: their types and statements are in range; the reference draws some text of bounded length.
-/
import Derived.Test.YtplcmbipeanjdaaGreatDoorM11
import Derived.Test.YtplcmbipeanjdaaGreatDoorM15
import Derived.Test.YtplcmbipeanjdaaGreatDoorM9
namespace Go.Proofs.YtplcmbipeanjdaaGreatDoor
set_option linter.unusedVariables false
set_option linter.unusedSimpArgs false
set_option linter.unnecessarySimpa false
open Go.RowKit

theorem oneX_simple {op x y n : Int} (h1 : 1 ≤ op ∧ op ≤ 8) (h2 : 0 ≤ x ∧ x < 6) (h3 : 0 ≤ y ∧ y < 6) (h4 : 0 ≤ n ∧ n ≤ 9) : oneX op x y n .nil .nil = true := by
  unfold oneX
  rw [if_neg (by omega), decide_eq_true_eq]
  exact ⟨h1, h2, h3, h4⟩
/-- A statement in memory from B on, of so many statements at most. -/
def StK (e : TypeId) (B k : Nat) (w : World) (r : Value) : Prop :=
  ∃ op x y n t el vt ve Ft Fe, r = stV op x y n vt ve ∧ RowS e w vt t Ft ∧ RowS e w ve el Fe ∧ (Ft ++ Fe).Nodup ∧ (∀ b ∈ Ft ++ Fe, B ≤ b) ∧ 1 + cntL t + cntL el ≤ k ∧ oneX op x y n t el = true
/-- Statements in memory from B on, of so many statements at most. -/
def LsK (e : TypeId) (B k : Nat) (w : World) (v : Value) : Prop := ∃ l xs Fs, w.ownsRow B e 6 v l.len xs ∧ StkS e w l xs Fs ∧ (v.ownBlock.toList ++ Fs).Nodup ∧ (∀ b ∈ v.ownBlock.toList ++ Fs, B ≤ b) ∧ cntL l ≤ k ∧ okX l = true
section
variable {e : TypeId} {B k : Nat} {w w' : World} {r v : Value} {G : List Nat}
theorem StK.chg (h : StK e B k w r) (c : Chg G w w') (hG : ∀ x ∈ G, x < B) : StK e B k w' r := by
  obtain ⟨op, x, y, n, t, el, vt, ve, Ft, Fe, h1, h2, h3, h4, h5, h6⟩ := h
  exact ⟨op, x, y, n, t, el, vt, ve, Ft, Fe, h1, h2.chg c (fun z hz hm => by have := h5 z (by simp [hz]); have := hG z hm; omega), h3.chg c (fun z hz hm => by have := h5 z (by simp [hz]); have := hG z hm; omega), h4, h5, h6⟩
theorem StK.ext (h : StK e B k w r) (c : Ext w w') : StK e B k w' r := h.chg (c.chg []) (by simp)
theorem LsK.chg (h : LsK e B k w v) (c : Chg G w w') (hG : ∀ x ∈ G, x < B) : LsK e B k w' v := by
  obtain ⟨l, xs, Fs, h1, h2, h3, h4, h5⟩ := h
  exact ⟨l, xs, Fs, ownsRow_chg h1 c (fun z hz hm => by have := h4 z (by simp [hz]); have := hG z hm; omega), StkS.chg c _ _ _ h2 (fun z hz hm => by have := h4 z (by simp [hz]); have := hG z hm; omega), h3, h4, h5⟩
theorem LsK.ext (h : LsK e B k w v) (c : Ext w w') : LsK e B k w' v := h.chg (c.chg []) (by simp)
theorem LsK.one (h : LsK e B k w v) : v.oneCell' = true := by
  obtain ⟨l, xs, Fs, h1, _⟩ := h
  exact row_one (ownsRow_base0 h1)
theorem LsK.row (h : LsK e B k w v) : ∃ l F, RowS e w v l F ∧ F.Nodup ∧ (∀ b ∈ F, B ≤ b) ∧ cntL l ≤ k ∧ okX l = true := by
  obtain ⟨l, xs, Fs, h1, h2, h3, h4, h5⟩ := h
  exact ⟨l, _, ⟨xs, Fs, ownsRow_base0 h1, h2, rfl⟩, h3, h4, h5⟩
theorem StK.flat {op x y n : Int} (h : 1 ≤ k) (hs : oneX op x y n .nil .nil = true) : StK e B k w (stV op x y n (.slice none 0 0) (.slice none 0 0)) :=
  ⟨op, x, y, n, .nil, .nil, _, _, [], [], rfl, RowS.nil_ _ _, RowS.nil_ _ _, by simp, by simp, by simpa [cntL] using h, hs⟩
theorem StK.cells (h : StK e B k w r) : ∃ op x y n vt ve, r = stV op x y n vt ve ∧ vt.oneCell' = true ∧ ve.oneCell' = true := by
  obtain ⟨op, x, y, n, t, el, vt, ve, Ft, Fe, h1, h2, h3, h4, h5, h6⟩ := h
  exact ⟨op, x, y, n, vt, ve, h1, h2.one, h3.one⟩
end
theorem LsK.mono {e : TypeId} {B k k' : Nat} {w : World} {v : Value} (h : LsK e B k w v) (hk : k ≤ k') : LsK e B k' w v := by
  obtain ⟨l, xs, Fs, h1, h2, h3, h4, h5⟩ := h
  exact ⟨l, xs, Fs, h1, h2, h3, h4, by omega, h5.2⟩
/-- One more statement, in memory from some place on. -/
theorem LsK.step {e : TypeId} {l : Ss} {B B2 k m : Nat} {w1 w2 : World} {v v' r : Value} {xs Fs} (h1 : w1.ownsRow B e 6 v l.len xs) (h2 : StkS e w1 l xs Fs) (h3 : (v.ownBlock.toList ++ Fs).Nodup) (h4 : ∀ b ∈ v.ownBlock.toList ++ Fs, B ≤ b ∧ b < B2) (h5 : cntL l ≤ k ∧ okX l = true) (hB : B ≤ B2) (hB2 : B2 ≤ w1.heap.size) (hs : StK e B2 m w1 r)
    (k1 : w2.ownsRow B e 6 v' (l.len + 1) (xs ++ r.cells.toList)) (k2 : w1.grownBy w2 v.ownBlock) (k3 : v'.ownBlock = v.ownBlock ∨ ∃ b, v'.ownBlock = some b ∧ w1.heap.size ≤ b) : LsK e B (k + m) w2 v' := by
  obtain ⟨op, x, y, n, t, el, vt, ve, Ft, Fe, rfl, q1, q2, q3, q4, q5⟩ := hs
  obtain ⟨W0, hWB, hE⟩ := cutW (B := B) (w' := w1) (by omega)
  have hg := GrowS.step (e := e) (l := l) (t := t) (el := el) (op := op) (x := x) (y := y) (n := n) (w := W0) (by rw [hWB]; exact h1) h2 h3 (fun b hb => by rw [hWB]; exact (h4 b hb).1) hE q1 q2 q3 (fun z hz hm => by have := q4 z hz; have := (h4 z hm).2; omega) (fun z hz => by have := q4 z hz; omega) (by rw [hWB]; exact k1) k2 k3
  obtain ⟨⟨ys, Gs, g1, g2, g3, g4⟩, _⟩ := hg
  rw [hWB] at g1 g4
  have hk1 := h5.1
  have hk2 := q5.1
  exact ⟨_, ys, Gs, g1, g2, g3, g4, by simp only [Ss.snoc, cntL_app, Ss.one, cntL]; omega, by
    show okX (l.app (Ss.one op x y n t el)) = true
    rw [okX_app, h5.2]
    show (true && (oneX op x y n t el && true)) = true
    rw [q5.2]
    rfl⟩
def DoX (d : Nat) : Prop := ∀ (rb q : Nat) (tv : Value) (w : World), RdU w rb q → q + 10000 * d ≤ 1000000000 → Ret Tryz.prog 65 [.pointer (some ⟨rb, 0, none⟩), tv, .int .i64 (d : Int)] w fun r w' => StK 59 w.heap.size (oneB d) w' r ∧ RdU w' rb (q + oneQ d) ∧ Chg [rb] w w'
def DsX (d : Nat) : Prop := ∀ (rb q n : Nat) (tv : Value) (w : World), RdU w rb q → q + 1000 + 10000 * d ≤ 1000000000 → n ≤ 8 → Ret Tryz.prog 47 [.pointer (some ⟨rb, 0, none⟩), tv, .int .i64 (d : Int), .int .i64 (n : Int)] w fun r w' => LsK 59 w.heap.size (1 + n * oneB d) w' r ∧ RdU w' rb (q + 1 + n * oneQ d) ∧ Chg [rb] w w'
theorem l1SomeX_ret (d : Nat) (hd : d ≤ 2) (ih : DoX d) : DsX d := by
  intro rb q n tv w hr hq hn
  have hQ : oneQ d ≤ 92 := by have : d = 0 ∨ d = 1 ∨ d = 2 := by omega
                              rcases this with rfl | rfl | rfl <;> decide
  have hO : oneB d ≤ 13 := by have : d = 0 ∨ d = 1 ∨ d = 2 := by omega
                              rcases this with rfl | rfl | rfl <;> decide
  refine enter Tryz.func47 rfl Tryz.ntmps47 rfl rfl ?_
  refine goS ?_
  refine WO_call rfl (pickU_ret rb q 10 w hr (by omega) (by decide)) ?_
  rintro _ w1 ⟨z, rfl, hz, hr1, c1⟩
  refine goS ?_
  refine WO_build (e := 59) (k := 6) [.tmp 13] (vs := [stV 2 1 0 z (.slice none 0 0) (.slice none 0 0)]) (cs := [.int .i64 2, .int .i64 1, .int .i64 0, .int .i64 (z : Int), .slice none 0 0, .slice none 0 0]) rfl rfl rfl (by decide) (by decide) (by simp [stV, Value.cells]) (by simp [stV, Value.cells]) fun w2 hb2 e2 z2 => ?_
  have s1 := c1.size
  have hrl := hr.lt
  have hst : StkS 59 w2 (Ss.one 2 1 0 z .nil .nil) [.int .i64 2, .int .i64 1, .int .i64 0, .int .i64 (z : Int), .slice none 0 0, .slice none 0 0] ([] ++ ([] ++ [])) := StkS.mk (RowS.nil_ _ _) (RowS.nil_ _ _) ⟨rfl, rfl⟩
  have hL2 : LsK 59 w.heap.size 1 w2 (.slice (some ⟨w1.heap.size, 0, none⟩) 1 1) :=
    ⟨Ss.one 2 1 0 z .nil .nil, _, [], owns_blk hb2 (by omega) (by simp) (by decide), hst, by simp [Value.ownBlock], by simp [Value.ownBlock]; omega, by simp [Ss.one, cntL], by
      show (oneX 2 1 0 z .nil .nil && true) = true
      rw [oneX_simple (by omega) (by omega) (by omega) (by omega)]
      rfl⟩
  have hc2 : Chg [rb] w w2 := c1.trans (e2.chg _)
  have hr2 := hr1.ext e2
  refine goS ?_
  refine W_loop (α := Nat × Value) (fun p => [(0, .pointer (some ⟨rb, 0, none⟩)), (1, tv), (2, .int .i64 (d : Int)), (3, .int .i64 (n : Int)), (9, p.2), (10, .int .i64 (p.1 : Int))])
    (fun p w' => p.1 ≤ n ∧ LsK 59 w.heap.size (1 + p.1 * oneB d) w' p.2 ∧ RdU w' rb (q + 1 + p.1 * oneQ d) ∧ Chg [rb] w w') (fun p => n - p.1) (0, _) (by repeat (first | exact True.intro | refine And.intro rfl ?_)) ⟨Nat.zero_le _, by simpa using hL2, by simpa using hr2, hc2⟩ ?_
  rintro ⟨i, v⟩ w3 ⟨hi, hL, hr3, c3⟩
  simp only at hi hL hr3 c3 ⊢
  have hiq : i * oneQ d ≤ 8 * 92 := Nat.mul_le_mul (by omega) hQ
  have hib : i * oneB d ≤ 8 * 13 := Nat.mul_le_mul (by omega) hO
  refine goS ?_
  refine Z52 rfl (fun hc => ?_) (fun hc => ?_)
  · have hlt : i < n := by simpa using hc
    refine goS ?_
    refine WO_call rfl (ih rb (q + 1 + i * oneQ d) tv w3 hr3 (by omega)) ?_
    rintro _ w4 ⟨hS, hr4, c4⟩
    have s3 := c3.size
    have s4 := c4.size
    obtain ⟨l, xs, Fs, h1, h2, h3, h4, h5⟩ := hL
    have h4' : ∀ b ∈ v.ownBlock.toList ++ Fs, w.heap.size ≤ b ∧ b < w3.heap.size := fun b hb => ⟨h4 b hb, by
      rcases List.mem_append.1 hb with hb | hb
      · exact (h1.lt b (by simpa using hb)).2
      · exact StkS.lt _ _ _ h2 b hb⟩
    replace h1 := ownsRow_chg h1 c4 (fun z hz hm => by have := h4' z (by simp [hz]); simp at hm; omega)
    replace h2 := StkS.chg c4 _ _ _ h2 (fun z hz hm => by have := h4' z (by simp [hz]); simp at hm; omega)
    obtain ⟨op, x, y, m, vt, ve, rfl, o1, o2⟩ := hS.cells
    have hlc := len_le_cntL l
    refine goS ?_
    refine WO_app1 (m := l.len) (u := stV op x y m vt ve) rfl rfl (by intro v hv; simp [stV, Value.cells] at hv; rcases hv with rfl | rfl | rfl | rfl | rfl | rfl <;> first | rfl | assumption) rfl h1 (by omega) rfl (by omega) (by decide) fun v' w5 k1 k2 k3 => ?_
    have hL5 := LsK.step h1 h2 h3 h4' h5 (by omega) (by omega) hS k1 k2 (by
      rcases k3 with h | h
      · exact .inl h
      · exact .inr ⟨_, h, by omega⟩)
    have c5 : Chg [rb] w w5 := (c3.trans c4).freshS (grown_chg k2) (fun b hb => .inr (by have := h4' b (by simp at hb ⊢; exact .inl hb); omega))
    have hr5 : RdU w5 rb (q + 1 + i * oneQ d + oneQ d) := hr4.chg (grown_chg k2) (fun b hb => by have := h4' b (by simp at hb ⊢; exact .inl hb); omega)
    refine goS ?_
    exact at_loop (i + 1, v') (by repeat (first | exact True.intro | refine And.intro rfl ?_)) ⟨hlt, by simp only [Nat.succ_mul]; rw [← Nat.add_assoc]; exact hL5, by simp only [Nat.succ_mul]; rw [← Nat.add_assoc]; exact hr5, c5⟩ (by simp only; omega)
  · have hge : i = n := by simp at hc; omega
    subst hge
    refine goS ?_
    exact at_ret1 rfl rfl ⟨hL, hr3, c3⟩
theorem l1OneX_ret (d : Nat) (hd : d ≤ 2) (ihO : d ≠ 0 → DoX 0) (ihS : ∀ d', d = d' + 1 → DsX d') : DoX d := by
  intro rb q tv w hr hq
  have hpos : 1 ≤ oneB d := by cases d <;> simp [oneB]; omega
  have hposQ : 8 ≤ oneQ d := by cases d <;> simp [oneQ]; omega
  have hrl := hr.lt
  refine enter Tryz.func65 rfl Tryz.ntmps65 rfl rfl ?_
  refine Z43 (Z44 (WO_alloc fun w1 hz e1 z1 => ?_))
  replace hz : Blk w1 w.heap.size [.int .i64 0, .int .i64 0, .int .i64 0, .int .i64 0, .slice none 0 0, .slice none 0 0] _ := hz
  refine goS ?_
  refine WO_call rfl (pickU_ret rb q 2 w1 (hr.ext e1) (by omega) (by decide)) ?_
  rintro _ w2 ⟨b, rfl, hb, hr2, c2⟩
  have hz2 := hz.chg c2 (by simp; omega)
  have c02 : Chg [rb] w w2 := (e1.chg _).trans c2
  refine goS ?_
  refine WO_ints [1, 2, 1, 4, 5] rfl rfl (by decide) (by decide) fun wa hia ea za => ?_
  refine goS ?_
  refine WO_call rfl (numU_ret rb (q + 1) _ [1, 2, 1, 4, 5] _ wa (hr2.ext ea) (by omega) hia.int (by decide) (by have := hr2.lt; simp; omega)) ?_
  rintro _ w3 ⟨o, ho, rfl, hr3, c3⟩
  have hz3 := (hz2.ext ea).chg c3 (by simp; omega)
  have c03 : Chg [rb] w w3 := (c02.trans (ea.chg _)).trans c3
  refine goS ?_
  refine WO_call rfl (pickU_ret rb (q + 2) 11 w3 hr3 (by omega) (by decide)) ?_
  rintro _ w4 ⟨z, rfl, hz11, hr4, c4⟩
  have hz4 := hz3.chg c4 (by simp; omega)
  replace c4 : Chg [rb] w w4 := c03.trans c4
  clear hz hz2 hz3 c02 c03 c2 c3 hr2 hr3 hr
  have hcases : z = 0 ∨ z = 1 ∨ z = 2 ∨ z = 3 ∨ z = 4 ∨ z = 5 ∨ z = 6 ∨ z = 7 ∨ z = 8 ∨ z = 9 ∨ z = 10 := by omega
  rcases hcases with rfl | rfl | rfl | rfl | rfl | rfl | rfl | rfl | rfl | rfl | rfl
  · refine goS ?_
    refine WO_call rfl (pickU_ret rb (q + 3) 10 w4 hr4 (by omega) (by decide)) ?_
    rintro _ wb ⟨y, rfl, hy, hr5, c5⟩
    replace hr4 := hr5
    replace hz4 := hz4.chg c5 (by simp; omega)
    replace c4 := c4.trans c5
    refine goS ?_
    refine WO_storeS (k := 6) (vs := [.int .i64 (1), .int .i64 (0), .int .i64 (0), .int .i64 (y), .slice none 0 0, .slice none 0 0]) rfl rfl rfl (by simp [Value.oneCell']) hz4 (by decide) fun wz hz oz => ?_
    replace hz : Blk wz w.heap.size [.int .i64 (1), .int .i64 (0), .int .i64 (0), .int .i64 (y), .slice none 0 0, .slice none 0 0] _ := hz
    refine goS ?_
    exact at_retC rfl rfl hz rfl ⟨StK.flat hpos (by (try simp at hy); (try simp at ho); exact oneX_simple (by omega) (by omega) (by omega) (by omega)), RdU.mono (RdU.chg hr4 oz.chg (by simp; omega)) (by omega), Chg.freshS c4 oz.chg (by simp)⟩
  · refine goS ?_
    refine WO_call rfl (pickU_ret rb (q + 3) 10 w4 hr4 (by omega) (by decide)) ?_
    rintro _ wb ⟨y, rfl, hy, hr5, c5⟩
    replace hr4 := hr5
    replace hz4 := hz4.chg c5 (by simp; omega)
    replace c4 := c4.trans c5
    refine goS ?_
    refine WO_storeS (k := 6) (vs := [.int .i64 (2), .int .i64 (1 + (b : Int)), .int .i64 (0), .int .i64 (y), .slice none 0 0, .slice none 0 0]) rfl rfl rfl (by simp [Value.oneCell']) hz4 (by decide) fun wz hz oz => ?_
    replace hz : Blk wz w.heap.size [.int .i64 (2), .int .i64 (1 + (b : Int)), .int .i64 (0), .int .i64 (y), .slice none 0 0, .slice none 0 0] _ := hz
    refine goS ?_
    exact at_retC rfl rfl hz rfl ⟨StK.flat hpos (by (try simp at hy); (try simp at ho); exact oneX_simple (by omega) (by omega) (by omega) (by omega)), RdU.mono (RdU.chg hr4 oz.chg (by simp; omega)) (by omega), Chg.freshS c4 oz.chg (by simp)⟩
  · refine goS ?_
    refine WO_storeS (k := 6) (vs := [.int .i64 (3), .int .i64 (1 + (b : Int)), .int .i64 (3 - (1 + (b : Int))), .int .i64 (0), .slice none 0 0, .slice none 0 0]) rfl rfl rfl (by simp [Value.oneCell']) hz4 (by decide) fun wz hz oz => ?_
    replace hz : Blk wz w.heap.size [.int .i64 (3), .int .i64 (1 + (b : Int)), .int .i64 (3 - (1 + (b : Int))), .int .i64 (0), .slice none 0 0, .slice none 0 0] _ := hz
    refine goS ?_
    exact at_retC rfl rfl hz rfl ⟨StK.flat hpos (by (try simp at hy); (try simp at ho); exact oneX_simple (by omega) (by omega) (by omega) (by omega)), RdU.mono (RdU.chg hr4 oz.chg (by simp; omega)) (by omega), Chg.freshS c4 oz.chg (by simp)⟩
  · refine goS ?_
    refine WO_storeS (k := 6) (vs := [.int .i64 (4), .int .i64 (3), .int .i64 (o), .int .i64 (0), .slice none 0 0, .slice none 0 0]) rfl rfl rfl (by simp [Value.oneCell']) hz4 (by decide) fun wz hz oz => ?_
    replace hz : Blk wz w.heap.size [.int .i64 (4), .int .i64 (3), .int .i64 (o), .int .i64 (0), .slice none 0 0, .slice none 0 0] _ := hz
    refine goS ?_
    exact at_retC rfl rfl hz rfl ⟨StK.flat hpos (by (try simp at hy); (try simp at ho); exact oneX_simple (by omega) (by omega) (by omega) (by omega)), RdU.mono (RdU.chg hr4 oz.chg (by simp; omega)) (by omega), Chg.freshS c4 oz.chg (by simp)⟩
  · refine goS ?_
    refine WO_ints [1, 2, 1, 5] rfl rfl (by decide) (by decide) fun wa hia ea za => ?_
    refine goS ?_
    refine WO_call rfl (numU_ret rb (q + 3) _ [1, 2, 1, 5] _ wa (hr4.ext ea) (by omega) hia.int (by decide) (by have := hr4.lt; simp; omega)) ?_
    rintro _ wb ⟨y, hy, rfl, hr5, c5⟩
    replace hr4 := hr5
    replace hz4 := (hz4.ext ea).chg c5 (by simp; omega)
    replace c4 := (c4.trans (ea.chg _)).trans c5
    refine goS ?_
    refine WO_storeS (k := 6) (vs := [.int .i64 (5), .int .i64 (4), .int .i64 (y), .int .i64 (0), .slice none 0 0, .slice none 0 0]) rfl rfl rfl (by simp [Value.oneCell']) hz4 (by decide) fun wz hz oz => ?_
    replace hz : Blk wz w.heap.size [.int .i64 (5), .int .i64 (4), .int .i64 (y), .int .i64 (0), .slice none 0 0, .slice none 0 0] _ := hz
    refine goS ?_
    exact at_retC rfl rfl hz rfl ⟨StK.flat hpos (by (try simp at hy); (try simp at ho); exact oneX_simple (by omega) (by omega) (by omega) (by omega)), RdU.mono (RdU.chg hr4 oz.chg (by simp; omega)) (by omega), Chg.freshS c4 oz.chg (by simp)⟩
  · refine goS ?_
    refine WO_ints [1, 2, 1, 5] rfl rfl (by decide) (by decide) fun wa hia ea za => ?_
    refine goS ?_
    refine WO_call rfl (numU_ret rb (q + 3) _ [1, 2, 1, 5] _ wa (hr4.ext ea) (by omega) hia.int (by decide) (by have := hr4.lt; simp; omega)) ?_
    rintro _ wb ⟨y, hy, rfl, hr5, c5⟩
    replace hr4 := hr5
    replace hz4 := (hz4.ext ea).chg c5 (by simp; omega)
    replace c4 := (c4.trans (ea.chg _)).trans c5
    refine goS ?_
    refine WO_storeS (k := 6) (vs := [.int .i64 (5), .int .i64 (4), .int .i64 (y), .int .i64 (0), .slice none 0 0, .slice none 0 0]) rfl rfl rfl (by simp [Value.oneCell']) hz4 (by decide) fun wz hz oz => ?_
    replace hz : Blk wz w.heap.size [.int .i64 (5), .int .i64 (4), .int .i64 (y), .int .i64 (0), .slice none 0 0, .slice none 0 0] _ := hz
    refine goS ?_
    exact at_retC rfl rfl hz rfl ⟨StK.flat hpos (by (try simp at hy); (try simp at ho); exact oneX_simple (by omega) (by omega) (by omega) (by omega)), RdU.mono (RdU.chg hr4 oz.chg (by simp; omega)) (by omega), Chg.freshS c4 oz.chg (by simp)⟩
  · refine goS ?_
    refine WO_ints [3, 4, 1, 2, 5] rfl rfl (by decide) (by decide) fun wa hia ea za => ?_
    refine goS ?_
    refine WO_call rfl (numU_ret rb (q + 3) _ [3, 4, 1, 2, 5] _ wa (hr4.ext ea) (by omega) hia.int (by decide) (by have := hr4.lt; simp; omega)) ?_
    rintro _ wb ⟨y, hy, rfl, hr5, c5⟩
    replace hr4 := hr5
    replace hz4 := (hz4.ext ea).chg c5 (by simp; omega)
    replace c4 := (c4.trans (ea.chg _)).trans c5
    refine goS ?_
    refine WO_storeS (k := 6) (vs := [.int .i64 (6), .int .i64 (0), .int .i64 (y), .int .i64 (0), .slice none 0 0, .slice none 0 0]) rfl rfl rfl (by simp [Value.oneCell']) hz4 (by decide) fun wz hz oz => ?_
    replace hz : Blk wz w.heap.size [.int .i64 (6), .int .i64 (0), .int .i64 (y), .int .i64 (0), .slice none 0 0, .slice none 0 0] _ := hz
    refine goS ?_
    exact at_retC rfl rfl hz rfl ⟨StK.flat hpos (by (try simp at hy); (try simp at ho); exact oneX_simple (by omega) (by omega) (by omega) (by omega)), RdU.mono (RdU.chg hr4 oz.chg (by simp; omega)) (by omega), Chg.freshS c4 oz.chg (by simp)⟩
  · refine goS ?_
    refine WO_ints [4, 1, 2, 5] rfl rfl (by decide) (by decide) fun wa hia ea za => ?_
    refine goS ?_
    refine WO_call rfl (numU_ret rb (q + 3) _ [4, 1, 2, 5] _ wa (hr4.ext ea) (by omega) hia.int (by decide) (by have := hr4.lt; simp; omega)) ?_
    rintro _ wb ⟨y, hy, rfl, hr5, c5⟩
    replace hr4 := hr5
    replace hz4 := (hz4.ext ea).chg c5 (by simp; omega)
    replace c4 := (c4.trans (ea.chg _)).trans c5
    refine goS ?_
    refine WO_storeS (k := 6) (vs := [.int .i64 (7), .int .i64 (y), .int .i64 (0), .int .i64 (0), .slice none 0 0, .slice none 0 0]) rfl rfl rfl (by simp [Value.oneCell']) hz4 (by decide) fun wz hz oz => ?_
    replace hz : Blk wz w.heap.size [.int .i64 (7), .int .i64 (y), .int .i64 (0), .int .i64 (0), .slice none 0 0, .slice none 0 0] _ := hz
    refine goS ?_
    exact at_retC rfl rfl hz rfl ⟨StK.flat hpos (by (try simp at hy); (try simp at ho); exact oneX_simple (by omega) (by omega) (by omega) (by omega)), RdU.mono (RdU.chg hr4 oz.chg (by simp; omega)) (by omega), Chg.freshS c4 oz.chg (by simp)⟩
  · refine goS ?_
    refine WO_storeS (k := 6) (vs := [.int .i64 (8), .int .i64 (1 + (b : Int)), .int .i64 (0), .int .i64 (0), .slice none 0 0, .slice none 0 0]) rfl rfl rfl (by simp [Value.oneCell']) hz4 (by decide) fun wz hz oz => ?_
    replace hz : Blk wz w.heap.size [.int .i64 (8), .int .i64 (1 + (b : Int)), .int .i64 (0), .int .i64 (0), .slice none 0 0, .slice none 0 0] _ := hz
    refine goS ?_
    exact at_retC rfl rfl hz rfl ⟨StK.flat hpos (by (try simp at hy); (try simp at ho); exact oneX_simple (by omega) (by omega) (by omega) (by omega)), RdU.mono (RdU.chg hr4 oz.chg (by simp; omega)) (by omega), Chg.freshS c4 oz.chg (by simp)⟩
  · cases d with
    | zero => refine goS ?_
              refine WO_ints [4, 1, 2] rfl rfl (by decide) (by decide) fun wa hia ea za => ?_
              refine goS ?_
              refine WO_call rfl (numU_ret rb (q + 3) _ [4, 1, 2] _ wa (hr4.ext ea) (by omega) hia.int (by decide) (by have := hr4.lt; simp; omega)) ?_
              rintro _ wb ⟨y, hy, rfl, hr5, c5⟩
              replace hr4 := hr5
              replace hz4 := (hz4.ext ea).chg c5 (by simp; omega)
              replace c4 := (c4.trans (ea.chg _)).trans c5
              refine goS ?_
              refine WO_storeS (k := 6) (vs := [.int .i64 (5), .int .i64 (5), .int .i64 (y), .int .i64 (0), .slice none 0 0, .slice none 0 0]) rfl rfl rfl (by simp [Value.oneCell']) hz4 (by decide) fun wz hz oz => ?_
              replace hz : Blk wz w.heap.size [.int .i64 (5), .int .i64 (5), .int .i64 (y), .int .i64 (0), .slice none 0 0, .slice none 0 0] _ := hz
              refine goS ?_
              exact at_retC rfl rfl hz rfl ⟨StK.flat hpos (by (try simp at hy); (try simp at ho); exact oneX_simple (by omega) (by omega) (by omega) (by omega)), RdU.mono (RdU.chg hr4 oz.chg (by simp; omega)) (by omega), Chg.freshS c4 oz.chg (by simp)⟩
    | succ d =>
      have hQ : oneQ d ≤ 36 := by have : d = 0 ∨ d = 1 := by omega
                                  rcases this with rfl | rfl <;> decide
      refine goS ?_
      rw [decide_eq_true (show ((d + 1 : Nat) : Int) > 0 by omega)]
      refine goS ?_
      refine WO_call rfl (pickU_ret rb (q + 3) 3 w4 hr4 (by omega) (by decide)) ?_
      rintro _ w5 ⟨k, rfl, hk, hr5, c5⟩
      have hkq : k * oneQ d ≤ 2 * oneQ d := Nat.mul_le_mul (by omega) (Nat.le_refl _)
      have hkb : k * oneB d ≤ 2 * oneB d := Nat.mul_le_mul (by omega) (Nat.le_refl _)
      have hz5 := hz4.chg c5 (by simp; omega)
      rw [show ((d + 1 : Nat) : Int) - 1 = (d : Int) from by omega]
      refine WO_call rfl (ihS d rfl rb (q + 4) k tv w5 hr5 (by omega) (by omega)) ?_
      rintro v w6 ⟨hL, hr6, c6⟩
      obtain ⟨l, F, hrow, hnd, hF, hcl⟩ := hL.row
      have hz6 := hz5.chg c6 (by simp; omega)
      have hFl := hrow.lt
      refine goS ?_
      refine WO_call rfl (ihO (by omega) rb (q + 4 + 1 + k * oneQ d) tv w6 hr6 (by omega)) ?_
      rintro _ w7 ⟨hS, hr7, c7⟩
      obtain ⟨op, x, y, n, t, el, vt, ve, Ft, Fe, rfl, h2, h3, h4, h5, h6⟩ := hS
      have hz7 := hz6.chg c7 (by simp; omega)
      have hrow7 := hrow.chg c7 (fun z hz hm => by have := hF z hz; have := hz4.lt; have := c5.size; simp at hm; omega)
      have o1 := h2.one
      have o2 := h3.one
      refine goS ?_
      refine WO_build (e := 59) (k := 6) [.tmp 74] (vs := [stV op x y n vt ve]) (cs := [.int .i64 op, .int .i64 x, .int .i64 y, .int .i64 n, vt, ve]) rfl rfl rfl (by decide) (by decide) (by simp [stV, Value.cells]) (by simp [stV, Value.cells]) fun w8 hb8 e8 z8 => ?_
      have hr1 := row_one1 hb8 (h2.ext e8) (h3.ext e8)
      have hone := hrow.one
      refine Z13 (Z30 (cs := [.int .i64 9, .int .i64 0, .int .i64 0, .int .i64 0, v, .slice (some ⟨w7.heap.size, 0, none⟩) 1 1]) rfl (by simp [partsOk, hone, int_one, sl_one]) rfl) ?_
      have hz8 := hz7.ext e8
      refine WO_storeS (k := 6) (vs := [.int .i64 9, .int .i64 0, .int .i64 0, .int .i64 0, v, .slice (some ⟨w7.heap.size, 0, none⟩) 1 1]) rfl rfl rfl (by intro u hu; simp at hu; rcases hu with rfl | rfl | rfl | rfl <;> first | rfl | assumption) hz8 (by decide) fun wz hz oz => ?_
      replace hz : Blk wz w.heap.size [.int .i64 9, .int .i64 0, .int .i64 0, .int .i64 0, v, .slice (some ⟨w7.heap.size, 0, none⟩) 1 1] _ := hz
      have s4 := hz4.lt
      have s5 := c5.size
      have s6 := c6.size
      have s7 := c7.size
      refine goS ?_
      refine at_retC rfl rfl hz rfl ⟨⟨9, 0, 0, 0, l, Ss.one op x y n t el, v, _, F, _, rfl, (hrow7.ext e8).chg oz.chg (fun z hz hm => by have := hF z hz; simp at hm; omega), hr1.chg oz.chg (fun z hz hm => ?_), ?_, fun b hb => ?_, ?_⟩, RdU.mono (RdU.chg (hr7.ext e8) oz.chg (by simp; omega)) (by simp only [oneQ]; omega), Chg.freshS ((((c4.trans c5).trans c6).trans c7).trans (e8.chg _)) oz.chg (by simp)⟩
      · simp only [List.mem_singleton] at hm
        simp only [List.mem_cons, List.append_nil] at hz
        rcases hz with h | h
        · omega
        · have := h5 z h; omega
      · refine List.nodup_append.2 ⟨hnd, ?_, fun a ha b hb e => ?_⟩
        · rw [List.append_nil]
          exact List.nodup_cons.2 ⟨fun hm => by
            rcases List.mem_append.1 hm with h | h
            · have := h2.lt _ h; omega
            · have := h3.lt _ h; omega, h4⟩
        · subst e
          have := hFl a ha
          simp only [List.mem_cons, List.append_nil] at hb
          rcases hb with h | h
          · omega
          · have := h5 a h; omega
      · simp only [List.mem_append, List.mem_cons, List.not_mem_nil, or_false] at hb
        rcases hb with h | h | h | h
        · have := hF b h; omega
        · omega
        · have := h5 b (by simp [h]); omega
        · have := h5 b (by simp [h]); omega
      · refine ⟨?_, ?_⟩
        · have hc1 := hcl.1
          have hc2 := h6.1
          simp only [Ss.one, cntL, oneB] at hc1 hc2 ⊢
          omega
        · unfold oneX
          rw [if_pos (.inl rfl), hcl.2]
          show (true && (oneX op x y n t el && true)) = true
          rw [h6.2]
          rfl
  · cases d with
    | zero => refine goS ?_
              refine WO_ints [4, 1, 2] rfl rfl (by decide) (by decide) fun wa hia ea za => ?_
              refine goS ?_
              refine WO_call rfl (numU_ret rb (q + 3) _ [4, 1, 2] _ wa (hr4.ext ea) (by omega) hia.int (by decide) (by have := hr4.lt; simp; omega)) ?_
              rintro _ wb ⟨y, hy, rfl, hr5, c5⟩
              replace hr4 := hr5
              replace hz4 := (hz4.ext ea).chg c5 (by simp; omega)
              replace c4 := (c4.trans (ea.chg _)).trans c5
              refine goS ?_
              refine WO_storeS (k := 6) (vs := [.int .i64 (5), .int .i64 (5), .int .i64 (y), .int .i64 (0), .slice none 0 0, .slice none 0 0]) rfl rfl rfl (by simp [Value.oneCell']) hz4 (by decide) fun wz hz oz => ?_
              replace hz : Blk wz w.heap.size [.int .i64 (5), .int .i64 (5), .int .i64 (y), .int .i64 (0), .slice none 0 0, .slice none 0 0] _ := hz
              refine goS ?_
              exact at_retC rfl rfl hz rfl ⟨StK.flat hpos (by (try simp at hy); (try simp at ho); exact oneX_simple (by omega) (by omega) (by omega) (by omega)), RdU.mono (RdU.chg hr4 oz.chg (by simp; omega)) (by omega), Chg.freshS c4 oz.chg (by simp)⟩
    | succ d =>
      refine goS ?_
      rw [decide_eq_true (show ((d + 1 : Nat) : Int) > 0 by omega)]
      refine goS ?_
      refine WO_call rfl (ihO (by omega) rb (q + 3) tv w4 hr4 (by omega)) ?_
      rintro _ w6 ⟨hS, hr6, c6⟩
      obtain ⟨op', x', y', n', t', el', vt', ve', Ft', Fe', rfl, g2, g3, g4, g5, g6⟩ := hS
      have hz6 := hz4.chg c6 (by simp; omega)
      have hFl1 := g2.lt
      have hFl2 := g3.lt
      refine goS ?_
      refine WO_call rfl (ihO (by omega) rb (q + 3 + oneQ 0) tv w6 hr6 (by simp only [oneQ]; omega)) ?_
      rintro _ w7 ⟨hS, hr7, c7⟩
      obtain ⟨op, x, y, n, t, el, vt, ve, Ft, Fe, rfl, h2, h3, h4, h5, h6⟩ := hS
      have hz7 := hz6.chg c7 (by simp; omega)
      have s4 := hz4.lt
      have s6 := c6.size
      have s7 := c7.size
      have g2' := g2.chg c7 (fun z hz hm => by have := g5 z (by simp [hz]); simp at hm; omega)
      have g3' := g3.chg c7 (fun z hz hm => by have := g5 z (by simp [hz]); simp at hm; omega)
      have o1 := h2.one
      have o2 := h3.one
      have o3 := g2.one
      have o4 := g3.one
      refine WO_build (e := 59) (k := 6) [.tmp 83, .tmp 86] (vs := [stV op' x' y' n' vt' ve', stV op x y n vt ve]) (cs := [.int .i64 op', .int .i64 x', .int .i64 y', .int .i64 n', vt', ve', .int .i64 op, .int .i64 x, .int .i64 y, .int .i64 n, vt, ve]) rfl rfl rfl (by decide) (by decide) (by simp [stV, Value.cells]) (by simp [stV, Value.cells]) fun w8 hb8 e8 z8 => ?_
      have hr1 := row_two2 hb8 (g2'.ext e8) (g3'.ext e8) (h2.ext e8) (h3.ext e8)
      refine goS ?_
      have hz8 := hz7.ext e8
      refine WO_storeS (k := 6) (vs := [.int .i64 10, .int .i64 0, .int .i64 0, .int .i64 0, .slice (some ⟨w7.heap.size, 0, none⟩) 2 2, .slice none 0 0]) rfl rfl rfl (by simp [Value.oneCell']) hz8 (by decide) fun wz hz oz => ?_
      replace hz : Blk wz w.heap.size [.int .i64 10, .int .i64 0, .int .i64 0, .int .i64 0, .slice (some ⟨w7.heap.size, 0, none⟩) 2 2, .slice none 0 0] _ := hz
      have hmem : ∀ z ∈ Ft' ++ (Fe' ++ (Ft ++ (Fe ++ []))), w4.heap.size ≤ z ∧ z < w7.heap.size := fun z hz => by
        simp only [List.mem_append, List.not_mem_nil, or_false] at hz
        rcases hz with h | h | h | h
        · have := g5 z (by simp [h]); have := hFl1 z h; omega
        · have := g5 z (by simp [h]); have := hFl2 z h; omega
        · have := h5 z (by simp [h]); have := h2.lt z h; omega
        · have := h5 z (by simp [h]); have := h3.lt z h; omega
      refine goS ?_
      refine at_retC rfl rfl hz rfl ⟨⟨10, 0, 0, 0, .cons op' x' y' n' t' el' (Ss.one op x y n t el), .nil, _, _, _, [], rfl, hr1.chg oz.chg (fun z hz hm => ?_), RowS.nil_ _ _, ?_, fun b hb => ?_, ?_⟩, RdU.mono (RdU.chg (hr7.ext e8) oz.chg (by simp; omega)) (by simp only [oneQ]; omega), Chg.freshS (((c4.trans c6).trans c7).trans (e8.chg _)) oz.chg (by simp)⟩
      · simp only [List.mem_singleton] at hm
        rcases List.mem_cons.1 hz with h | h
        · omega
        · have := hmem z h; omega
      · rw [List.append_nil]
        refine List.nodup_cons.2 ⟨fun hm => by have := hmem _ hm; omega, ?_⟩
        have a1 := List.nodup_append.1 g4
        have a2 := List.nodup_append.1 h4
        have hx : ∀ a, a ∈ Ft' ++ Fe' → ∀ b, b ∈ Ft ++ Fe → a ≠ b := fun a ha b hb e => by
          subst e
          have := h5 a hb
          rcases List.mem_append.1 ha with h | h
          · have := hFl1 a h; omega
          · have := hFl2 a h; omega
        rw [List.append_nil, ← List.append_assoc]
        exact List.nodup_append.2 ⟨g4, h4, hx⟩
      · rw [List.append_nil] at hb
        rcases List.mem_cons.1 hb with h | h
        · omega
        · have := hmem b h; omega
      · refine ⟨?_, ?_⟩
        · have hc1 := g6.1
          have hc2 := h6.1
          simp only [Ss.one, cntL, oneB] at hc1 hc2 ⊢
          omega
        · unfold oneX
          rw [if_pos (.inr rfl)]
          show ((oneX op' x' y' n' t' el' && (oneX op x y n t el && true)) && true) = true
          rw [g6.2, h6.2]
          rfl
theorem one0X : DoX 0 := l1OneX_ret 0 (by decide) (fun h => absurd rfl h) (fun d' h => by omega)
theorem some0X : DsX 0 := l1SomeX_ret 0 (by decide) one0X
theorem one1X : DoX 1 := l1OneX_ret 1 (by decide) (fun _ => one0X) (fun d' h => by (have : d' = 0 := by omega); subst this; exact some0X)
theorem some1X : DsX 1 := l1SomeX_ret 1 (by decide) one1X
theorem one2X : DoX 2 := l1OneX_ret 2 (by decide) (fun _ => one0X) (fun d' h => by (have : d' = 1 := by omega); subst this; exact some1X)
theorem some2X : DsX 2 := l1SomeX_ret 2 (by decide) one2X

/-- A drawn program that can be written. -/
def DrX (B : Nat) (w : World) (r : Value) : Prop := ∃ tv bv tl l Ft Fb, r = prV tv bv ∧ IntF w tv tl Ft ∧ StS w bv l Fb ∧ (∀ x ∈ Ft ++ Fb, B ≤ x ∧ x < w.heap.size) ∧ (tl.length ≤ 6 ∧ ∀ a ∈ tl, 1 ≤ a ∧ a ≤ 4) ∧ (cntL l ≤ 600 ∧ okX l = true)
theorem ParR.readX {e : TypeId} {t : Tx} {w w' : World} {r : Value} (h : ParR e (parseS t) w r w') : ∃ tv bv tl l b Ft Fb, r = .tuple #[prV tv bv, .bool b] ∧ IntF w' tv tl Ft ∧ StS w' bv l Fb ∧ (∀ x ∈ Ft ++ Fb, w.heap.size ≤ x ∧ x < w'.heap.size) ∧ tv.oneCell' = true ∧ bv.oneCell' = true ∧ (tl.length ≤ 6 ∧ ∀ a ∈ tl, 1 ≤ a ∧ a ≤ 4) ∧ (cntL l ≤ 30 ∧ okX l = true) ∧ Ext w w' := by
  obtain ⟨tv, bv, rfl, ho, he⟩ := h
  have hones := ho.ones
  obtain ⟨Ft, Fb, h1, h2, h3, h4⟩ := ho
  refine ⟨tv, bv, _, _, _, Ft, Fb, rfl, h1.int, h2.sts, h4, hones.1, hones.2, ?_, ?_, he⟩
  · cases ho : parseS t with
    | none => simp [paT]
    | some p =>
      obtain ⟨v1, v2, v3⟩ := vp_parts (parseS_valid (tl := p.1) (l := p.2) ho).1
      exact ⟨okT_len v1, fun a ha => okT_elem v1 ha⟩
  · cases ho : parseS t with
    | none => exact ⟨by simp [paL, cntL], rfl⟩
    | some p =>
      obtain ⟨v1, v2, v3⟩ := vp_parts (parseS_valid (tl := p.1) (l := p.2) ho).1
      exact ⟨v3, okL_okX (okT_len v1) 4 _ v2⟩
theorem l1DrawX_ret (rb q : Nat) (w : World) (hr : RdU w rb q) (hq : q ≤ 100000000) : Ret Tryz.prog 28 [.pointer (some ⟨rb, 0, none⟩)] w fun r w' => DrX w.heap.size w' r ∧ RdU w' rb (q + 1000) ∧ Chg [rb] w w' := by
  have hrl := hr.lt
  refine enter Tryz.func28 rfl Tryz.ntmps28 rfl rfl ?_
  refine Z43 (Z44 (WO_alloc fun w1 hz e1 z1 => ?_))
  replace hz : Blk w1 w.heap.size [.slice none 0 0, .slice none 0 0] _ := hz
  refine goS ?_
  refine WO_call (args := []) rfl (l1Texts_ret w1) ?_
  rintro _ w2 ⟨rfl, hcells, e2⟩
  have hr2 := (hr.ext e1).ext e2
  have hz2 := hz.ext e2
  refine goS ?_
  refine WO_call rfl (pickU_ret rb q 25 w2 hr2 (by omega) (by decide)) ?_
  rintro _ w3 ⟨k, rfl, hk, hr3, c3⟩
  obtain ⟨t, htl, hcell⟩ := hcells k (by omega)
  have hcell3 := cell_chg hcell c3 (by simp; omega)
  have hz3 := hz2.chg c3 (by simp; omega)
  have c03 : Chg [rb] w w3 := ((e1.trans e2).chg _).trans c3
  have s3 := c3.size
  refine Z83 (j := k) rfl rfl rfl (by omega) ?_
  refine Z11 rfl hcell3 ?_
  refine WO_call rfl (sParseProgram_ret t w3 (by omega)) ?_
  rintro _ w4 hP
  obtain ⟨tv, bv, tl, l, b, Ft, Fb, rfl, i1, i2, hF, o1, o2, ⟨htl6, hta⟩, ⟨hcl, hokx⟩, e4⟩ := hP.readX
  have hz4 := hz3.ext e4
  have hr4 := hr3.ext e4
  have s1 := hz.lt
  have s2 := e2.size_le
  refine goS ?_
  refine WO_alloc fun w5 hb5 e5 z5 => ?_
  refine WO_storeS (k := 2) (vs := [tv, bv]) rfl rfl rfl (by simp; exact ⟨o1, o2⟩) hb5 (by decide) fun w6 hb6 o6 => ?_
  replace hb6 : Blk w6 w4.heap.size [tv, bv] _ := hb6
  have e6 : Ext w4 w6 := e5.only o6 (Nat.le_refl _)
  have hz6 := hz4.ext e6
  have hr6 := hr4.ext e6
  have i16 := i1.ext e6
  have i26 := i2.ext e6
  have c6 : Chg [rb] w w6 := (c03.trans (e4.chg _)).trans (e6.chg _)
  have s6 := hb6.lt
  have s4 := e4.size_le
  refine goS ?_
  refine WO_call rfl (pickU_ret rb (q + 1) 3 w6 hr6 (by omega) (by decide)) ?_
  rintro _ w7 ⟨m, rfl, hm, hr7, c7⟩
  have hz7 := hz6.chg c7 (by simp; omega)
  have hb7 := hb6.chg c7 (by simp; omega)
  have i17 := i16.chg c7 (fun x hx => by have := hF x (by simp [hx]); simp; omega)
  have i27 := i26.chg c7 (fun x hx => by have := hF x (by simp [hx]); simp; omega)
  have c07 := c6.trans c7
  have s7 := c7.size
  have fin : ∀ wz, Only w.heap.size w7 wz → DrX w.heap.size wz (prV tv bv) ∧ RdU wz rb (q + 1000) ∧ Chg [rb] w wz := fun wz oz => by
    have sz := oz.size
    refine ⟨⟨tv, bv, tl, l, Ft, Fb, rfl, i17.chg oz.chg (fun x hx => ?_), i27.chg oz.chg (fun x hx => ?_), fun x hx => ?_, ⟨htl6, hta⟩, ⟨by omega, hokx⟩⟩, RdU.mono (RdU.chg hr7 oz.chg (by simp; omega)) (by omega), Chg.freshS c07 oz.chg (by simp)⟩
    · have := hF x (by simp [hx]); simp; omega
    · have := hF x (by simp [hx]); simp; omega
    · have := hF x hx; omega
  by_cases hm0 : m = 0
  · subst hm0
    obtain ⟨A, c, rfl, hlt, hix⟩ := i17
    refine goS ?_
    by_cases h0 : tl.length = 0
    · rw [h0]
      refine goS ?_
      refine WO_loadSB rfl hb7 rfl ?_
      refine WO_storeS (k := 2) (vs := [.slice A tl.length c, bv]) rfl rfl rfl (by simp; exact ⟨o1, o2⟩) hz7 (by decide) fun wz hzz oz => ?_
      replace hzz : Blk wz w.heap.size [.slice A tl.length c, bv] _ := hzz
      refine goS ?_
      exact at_retC rfl rfl hzz rfl (fin wz oz)
    · rw [show (((tl.length : Nat) : Int) == 0) = false from by rw [beq_eq_false_iff_ne]; omega]
      refine goS ?_
      refine WO_ints [1, 2, 2, 3, 4, 4] rfl rfl (by decide) (by decide) fun wa hia ea za => ?_
      refine Z13 (Z30 (cs := [.slice (some ⟨w7.heap.size, 0, none⟩) 6 6, .slice none 0 0]) rfl (by simp [partsOk, sl_one]) rfl) ?_
      refine WO_alloc fun w8 hb8 e8 z8 => ?_
      refine WO_storeS (k := 2) (vs := [.slice (some ⟨w7.heap.size, 0, none⟩) 6 6, .slice none 0 0]) rfl rfl rfl (by simp [sl_one]) hb8 (by decide) fun w9 hb9 o9 => ?_
      replace hb9 : Blk w9 wa.heap.size [.slice (some ⟨w7.heap.size, 0, none⟩) 6 6, .slice none 0 0] _ := hb9
      have e9 : Ext wa w9 := e8.only o9 (Nat.le_refl _)
      have ea9 := ea.trans e9
      have hr9 := hr7.ext ea9
      have hz9 := hz7.ext ea9
      have hi9 := hia.ext e9
      have c9 : Chg [rb] w w9 := c07.trans (ea9.chg _)
      have s9 := hb9.lt
      refine goS ?_
      refine W_held0 [rb, wa.heap.size] [(2, .pointer (some ⟨w.heap.size, 0, none⟩)), (6, .pointer (some ⟨wa.heap.size, 0, none⟩))] (fun w' => ∃ v, Blk w' wa.heap.size [.slice (some ⟨w7.heap.size, 0, none⟩) 6 6, v] 26 ∧ LsK 59 w9.heap.size 600 w' v ∧ RdU w' rb (q + 1000) ∧ Chg [rb, wa.heap.size] w9 w') (by kernel_rfl) (fun ws es hS => ?_) (fun wr hR => ?_)
      · have hbs := hb9.ext es
        have ss := es.size_le
        first | refine Z82 0 rfl (by kernel_rfl) (by kernel_rfl) (by kernel_rfl) (by assumption) (fun w' hw' => Z56 rfl) ?_ | refine Z82 0 rfl (by kernel_rfl) (by kernel_rfl) (by kernel_rfl) (by assumption) (fun w' hw' => Z63 rfl rfl) ?_ | refine Z82 0 rfl (by kernel_rfl) (by kernel_rfl) (by kernel_rfl) (by assumption) (fun w' hw' => Z64 rfl rfl) ?_ | refine Z82 0 rfl (by kernel_rfl) (by kernel_rfl) (by kernel_rfl) (by assumption) (fun w' hw' => Z75 rfl rfl (by omega)) ?_ | refine Z82 0 rfl (by kernel_rfl) (by kernel_rfl) (by kernel_rfl) (by assumption) (fun w' hw' => Z72 rfl) ?_ | refine Z82 0 rfl (by kernel_rfl) (by kernel_rfl) (by kernel_rfl) (by assumption) (fun w' hw' => Z69 rfl rfl rfl (by omega)) ?_ | refine Z82 0 rfl (by kernel_rfl) (by kernel_rfl) (by kernel_rfl) (by assumption) (fun w' hw' => Z30 rfl (by rfl) (by simp only [Z84, List.set_cons_zero, List.set_cons_succ]; rfl)) ?_
        first | refine Z82 1 rfl (by kernel_rfl) (by kernel_rfl) (by kernel_rfl) (by assumption) (fun w' hw' => Z56 rfl) ?_ | refine Z82 1 rfl (by kernel_rfl) (by kernel_rfl) (by kernel_rfl) (by assumption) (fun w' hw' => Z63 rfl rfl) ?_ | refine Z82 1 rfl (by kernel_rfl) (by kernel_rfl) (by kernel_rfl) (by assumption) (fun w' hw' => Z64 rfl rfl) ?_ | refine Z82 1 rfl (by kernel_rfl) (by kernel_rfl) (by kernel_rfl) (by assumption) (fun w' hw' => Z75 rfl rfl (by omega)) ?_ | refine Z82 1 rfl (by kernel_rfl) (by kernel_rfl) (by kernel_rfl) (by assumption) (fun w' hw' => Z72 rfl) ?_ | refine Z82 1 rfl (by kernel_rfl) (by kernel_rfl) (by kernel_rfl) (by assumption) (fun w' hw' => Z69 rfl rfl rfl (by omega)) ?_ | refine Z82 1 rfl (by kernel_rfl) (by kernel_rfl) (by kernel_rfl) (by assumption) (fun w' hw' => Z30 rfl (by rfl) (by simp only [Z84, List.set_cons_zero, List.set_cons_succ]; rfl)) ?_
        first | refine Z82 3 rfl (by kernel_rfl) (by kernel_rfl) (by kernel_rfl) (by assumption) (fun w' hw' => Z56 rfl) ?_ | refine Z82 3 rfl (by kernel_rfl) (by kernel_rfl) (by kernel_rfl) (by assumption) (fun w' hw' => Z63 rfl rfl) ?_ | refine Z82 3 rfl (by kernel_rfl) (by kernel_rfl) (by kernel_rfl) (by assumption) (fun w' hw' => Z64 rfl rfl) ?_ | refine Z82 3 rfl (by kernel_rfl) (by kernel_rfl) (by kernel_rfl) (by assumption) (fun w' hw' => Z75 rfl rfl (by omega)) ?_ | refine Z82 3 rfl (by kernel_rfl) (by kernel_rfl) (by kernel_rfl) (by assumption) (fun w' hw' => Z72 rfl) ?_ | refine Z82 3 rfl (by kernel_rfl) (by kernel_rfl) (by kernel_rfl) (by assumption) (fun w' hw' => Z69 rfl rfl rfl (by omega)) ?_ | refine Z82 3 rfl (by kernel_rfl) (by kernel_rfl) (by kernel_rfl) (by assumption) (fun w' hw' => Z30 rfl (by rfl) (by simp only [Z84, List.set_cons_zero, List.set_cons_succ]; rfl)) ?_
        have hrs := hr9.ext es
        refine WH_two 2 4 rfl rfl (by kernel_rfl) ?_ ?_
        · refine Z10 rfl hbs rfl (Z31 (at_held hS ?_))
          refine WH_one 4 rfl (by kernel_rfl) (WO_ints [5, 4, 7, 3, 8] rfl rfl (by decide) (by decide) fun wb hib eb zb => Z31 (at_held (eb.chg _) ?_))
          have hrb := hrs.ext eb
          refine WX_call 5 rfl (by kernel_rfl) rfl (numU_ret rb (q + 2) _ [5, 4, 7, 3, 8] _ wb hrb (by omega) hib.int (by decide) (by have := hrb.lt; have := hrs.lt; simp; omega)) ?_
          rintro _ wc ⟨y, hy, rfl, hrc, cc⟩
          have Sc : Chg [rb, wa.heap.size] ws wc := (eb.chg _).trans (cc.mono (by simp))
          refine ⟨Sc, ?_⟩
          have hbc := (hbs.ext eb).chg cc (by simp; omega)
          have hyn : ∃ n : Nat, y = (n : Int) ∧ n ≤ 8 := by
            simp only [List.mem_cons, List.not_mem_nil, or_false] at hy
            rcases hy with rfl | rfl | rfl | rfl | rfl
            · exact ⟨5, rfl, by decide⟩
            · exact ⟨4, rfl, by decide⟩
            · exact ⟨7, rfl, by decide⟩
            · exact ⟨3, rfl, by decide⟩
            · exact ⟨8, rfl, by decide⟩
          obtain ⟨n, rfl, hn⟩ := hyn
          have hn13 : n * oneB 2 ≤ 8 * 13 := Nat.mul_le_mul hn (by decide)
          have hn92 : n * oneQ 2 ≤ 8 * 92 := Nat.mul_le_mul hn (by decide)
          have sc := cc.size
          have sb := eb.size_le
          refine WX_call 6 rfl (by kernel_rfl) rfl (some2X rb (q + 3) n _ wc hrc (by omega) hn) ?_
          rintro v wd ⟨hL, hrd, cd⟩
          have Sd : Chg [rb, wa.heap.size] ws wd := Sc.trans (cd.mono (by simp))
          refine ⟨Sd, ?_⟩
          have hone := hL.one
          have hbd := hbc.chg cd (by simp; omega)
          first | refine Z82 7 rfl (by kernel_rfl) (by kernel_rfl) (by kernel_rfl) (by assumption) (fun w' hw' => Z56 rfl) ?_ | refine Z82 7 rfl (by kernel_rfl) (by kernel_rfl) (by kernel_rfl) (by assumption) (fun w' hw' => Z63 rfl rfl) ?_ | refine Z82 7 rfl (by kernel_rfl) (by kernel_rfl) (by kernel_rfl) (by assumption) (fun w' hw' => Z64 rfl rfl) ?_ | refine Z82 7 rfl (by kernel_rfl) (by kernel_rfl) (by kernel_rfl) (by assumption) (fun w' hw' => Z75 rfl rfl (by omega)) ?_ | refine Z82 7 rfl (by kernel_rfl) (by kernel_rfl) (by kernel_rfl) (by assumption) (fun w' hw' => Z72 rfl) ?_ | refine Z82 7 rfl (by kernel_rfl) (by kernel_rfl) (by kernel_rfl) (by assumption) (fun w' hw' => Z69 rfl rfl rfl (by omega)) ?_ | refine Z82 7 rfl (by kernel_rfl) (by kernel_rfl) (by kernel_rfl) (by assumption) (fun w' hw' => Z30 rfl (by rfl) (by simp only [Z84, List.set_cons_zero, List.set_cons_succ]; rfl)) ?_
          refine WH_one 8 rfl (by kernel_rfl) (WO_store1 rfl rfl hone hbd (by simp) fun wf hbf of => Z31 (at_held (Sd.trans (of.chg.mono (by simp))) ?_))
          simp only [List.set_cons_zero, List.set_cons_succ] at hbf
          have sd := cd.size
          refine WH_done (by kernel_rfl) (by repeat (first | exact True.intro | refine And.intro rfl ?_)) ⟨v, hbf, ?_, RdU.mono (RdU.chg hrd of.chg (by simp; omega)) (by omega), (es.chg _).trans (Sd.trans (of.chg.mono (by simp)))⟩
          obtain ⟨l', xs', Fs', g1, g2, g3, g4, g5⟩ := (hL.chg of.chg (by simp; omega)).mono (k' := 600) (by omega)
          exact ⟨l', xs', Fs', ⟨g1.1, by
            rcases g1.2 with h | ⟨gg, cap, cur, h1, h2, h3⟩
            · exact .inl h
            · exact .inr ⟨gg, cap, cur, h1, by omega, h3⟩⟩, g2, g3, fun b hb => by have := g4 b hb; omega, g5⟩
        · refine WO_ints [5, 4, 7, 3, 8] rfl rfl (by decide) (by decide) fun wb hib eb zb => Z31 (at_held (eb.chg _) ?_)
          have hrb := hrs.ext eb
          refine WH_two 2 5 rfl rfl (by kernel_rfl) ?_ ?_
          · refine Z10 rfl (hbs.ext eb) rfl (Z31 (at_held (eb.chg _) ?_))
            refine WX_call 5 rfl (by kernel_rfl) rfl (numU_ret rb (q + 2) _ [5, 4, 7, 3, 8] _ wb hrb (by omega) hib.int (by decide) (by have := hrb.lt; have := hrs.lt; simp; omega)) ?_
            rintro _ wc ⟨y, hy, rfl, hrc, cc⟩
            have Sc : Chg [rb, wa.heap.size] ws wc := (eb.chg _).trans (cc.mono (by simp))
            refine ⟨Sc, ?_⟩
            have hbc := (hbs.ext eb).chg cc (by simp; omega)
            have hyn : ∃ n : Nat, y = (n : Int) ∧ n ≤ 8 := by
              simp only [List.mem_cons, List.not_mem_nil, or_false] at hy
              rcases hy with rfl | rfl | rfl | rfl | rfl
              · exact ⟨5, rfl, by decide⟩
              · exact ⟨4, rfl, by decide⟩
              · exact ⟨7, rfl, by decide⟩
              · exact ⟨3, rfl, by decide⟩
              · exact ⟨8, rfl, by decide⟩
            obtain ⟨n, rfl, hn⟩ := hyn
            have hn13 : n * oneB 2 ≤ 8 * 13 := Nat.mul_le_mul hn (by decide)
            have hn92 : n * oneQ 2 ≤ 8 * 92 := Nat.mul_le_mul hn (by decide)
            have sc := cc.size
            have sb := eb.size_le
            refine WX_call 6 rfl (by kernel_rfl) rfl (some2X rb (q + 3) n _ wc hrc (by omega) hn) ?_
            rintro v wd ⟨hL, hrd, cd⟩
            have Sd : Chg [rb, wa.heap.size] ws wd := Sc.trans (cd.mono (by simp))
            refine ⟨Sd, ?_⟩
            have hone := hL.one
            have hbd := hbc.chg cd (by simp; omega)
            first | refine Z82 7 rfl (by kernel_rfl) (by kernel_rfl) (by kernel_rfl) (by assumption) (fun w' hw' => Z56 rfl) ?_ | refine Z82 7 rfl (by kernel_rfl) (by kernel_rfl) (by kernel_rfl) (by assumption) (fun w' hw' => Z63 rfl rfl) ?_ | refine Z82 7 rfl (by kernel_rfl) (by kernel_rfl) (by kernel_rfl) (by assumption) (fun w' hw' => Z64 rfl rfl) ?_ | refine Z82 7 rfl (by kernel_rfl) (by kernel_rfl) (by kernel_rfl) (by assumption) (fun w' hw' => Z75 rfl rfl (by omega)) ?_ | refine Z82 7 rfl (by kernel_rfl) (by kernel_rfl) (by kernel_rfl) (by assumption) (fun w' hw' => Z72 rfl) ?_ | refine Z82 7 rfl (by kernel_rfl) (by kernel_rfl) (by kernel_rfl) (by assumption) (fun w' hw' => Z69 rfl rfl rfl (by omega)) ?_ | refine Z82 7 rfl (by kernel_rfl) (by kernel_rfl) (by kernel_rfl) (by assumption) (fun w' hw' => Z30 rfl (by rfl) (by simp only [Z84, List.set_cons_zero, List.set_cons_succ]; rfl)) ?_
            refine WH_one 8 rfl (by kernel_rfl) (WO_store1 rfl rfl hone hbd (by simp) fun wf hbf of => Z31 (at_held (Sd.trans (of.chg.mono (by simp))) ?_))
            simp only [List.set_cons_zero, List.set_cons_succ] at hbf
            have sd := cd.size
            refine WH_done (by kernel_rfl) (by repeat (first | exact True.intro | refine And.intro rfl ?_)) ⟨v, hbf, ?_, RdU.mono (RdU.chg hrd of.chg (by simp; omega)) (by omega), (es.chg _).trans (Sd.trans (of.chg.mono (by simp)))⟩
            obtain ⟨l', xs', Fs', g1, g2, g3, g4, g5⟩ := (hL.chg of.chg (by simp; omega)).mono (k' := 600) (by omega)
            exact ⟨l', xs', Fs', ⟨g1.1, by
              rcases g1.2 with h | ⟨gg, cap, cur, h1, h2, h3⟩
              · exact .inl h
              · exact .inr ⟨gg, cap, cur, h1, by omega, h3⟩⟩, g2, g3, fun b hb => by have := g4 b hb; omega, g5⟩
          · refine WO_call rfl (numU_ret rb (q + 2) _ [5, 4, 7, 3, 8] _ wb hrb (by omega) hib.int (by decide) (by have := hrb.lt; have := hrs.lt; simp; omega)) ?_
            rintro _ wc ⟨y, hy, rfl, hrc, cc⟩
            have Sc : Chg [rb, wa.heap.size] ws wc := (eb.chg _).trans (cc.mono (by simp))
            refine Z31 (at_held Sc ?_)
            refine WH_one 2 rfl (by kernel_rfl) (Z10 rfl ((hbs.ext eb).chg cc (by simp; omega)) rfl (Z31 (at_held Sc ?_)))
            have hbc := (hbs.ext eb).chg cc (by simp; omega)
            have hyn : ∃ n : Nat, y = (n : Int) ∧ n ≤ 8 := by
              simp only [List.mem_cons, List.not_mem_nil, or_false] at hy
              rcases hy with rfl | rfl | rfl | rfl | rfl
              · exact ⟨5, rfl, by decide⟩
              · exact ⟨4, rfl, by decide⟩
              · exact ⟨7, rfl, by decide⟩
              · exact ⟨3, rfl, by decide⟩
              · exact ⟨8, rfl, by decide⟩
            obtain ⟨n, rfl, hn⟩ := hyn
            have hn13 : n * oneB 2 ≤ 8 * 13 := Nat.mul_le_mul hn (by decide)
            have hn92 : n * oneQ 2 ≤ 8 * 92 := Nat.mul_le_mul hn (by decide)
            have sc := cc.size
            have sb := eb.size_le
            refine WX_call 6 rfl (by kernel_rfl) rfl (some2X rb (q + 3) n _ wc hrc (by omega) hn) ?_
            rintro v wd ⟨hL, hrd, cd⟩
            have Sd : Chg [rb, wa.heap.size] ws wd := Sc.trans (cd.mono (by simp))
            refine ⟨Sd, ?_⟩
            have hone := hL.one
            have hbd := hbc.chg cd (by simp; omega)
            first | refine Z82 7 rfl (by kernel_rfl) (by kernel_rfl) (by kernel_rfl) (by assumption) (fun w' hw' => Z56 rfl) ?_ | refine Z82 7 rfl (by kernel_rfl) (by kernel_rfl) (by kernel_rfl) (by assumption) (fun w' hw' => Z63 rfl rfl) ?_ | refine Z82 7 rfl (by kernel_rfl) (by kernel_rfl) (by kernel_rfl) (by assumption) (fun w' hw' => Z64 rfl rfl) ?_ | refine Z82 7 rfl (by kernel_rfl) (by kernel_rfl) (by kernel_rfl) (by assumption) (fun w' hw' => Z75 rfl rfl (by omega)) ?_ | refine Z82 7 rfl (by kernel_rfl) (by kernel_rfl) (by kernel_rfl) (by assumption) (fun w' hw' => Z72 rfl) ?_ | refine Z82 7 rfl (by kernel_rfl) (by kernel_rfl) (by kernel_rfl) (by assumption) (fun w' hw' => Z69 rfl rfl rfl (by omega)) ?_ | refine Z82 7 rfl (by kernel_rfl) (by kernel_rfl) (by kernel_rfl) (by assumption) (fun w' hw' => Z30 rfl (by rfl) (by simp only [Z84, List.set_cons_zero, List.set_cons_succ]; rfl)) ?_
            refine WH_one 8 rfl (by kernel_rfl) (WO_store1 rfl rfl hone hbd (by simp) fun wf hbf of => Z31 (at_held (Sd.trans (of.chg.mono (by simp))) ?_))
            simp only [List.set_cons_zero, List.set_cons_succ] at hbf
            have sd := cd.size
            refine WH_done (by kernel_rfl) (by repeat (first | exact True.intro | refine And.intro rfl ?_)) ⟨v, hbf, ?_, RdU.mono (RdU.chg hrd of.chg (by simp; omega)) (by omega), (es.chg _).trans (Sd.trans (of.chg.mono (by simp)))⟩
            obtain ⟨l', xs', Fs', g1, g2, g3, g4, g5⟩ := (hL.chg of.chg (by simp; omega)).mono (k' := 600) (by omega)
            exact ⟨l', xs', Fs', ⟨g1.1, by
              rcases g1.2 with h | ⟨gg, cap, cur, h1, h2, h3⟩
              · exact .inl h
              · exact .inr ⟨gg, cap, cur, h1, by omega, h3⟩⟩, g2, g3, fun b hb => by have := g4 b hb; omega, g5⟩
      · obtain ⟨v, hbr, hL, hrr, cr⟩ := hR
        have hzr := hz9.chg cr (by simp; omega)
        have hone := hL.one
        refine goS ?_
        refine WO_loadSB rfl hbr rfl ?_
        refine WO_storeS (k := 2) (vs := [.slice (some ⟨w7.heap.size, 0, none⟩) 6 6, v]) rfl rfl rfl (by simp; exact ⟨rfl, hone⟩) hzr (by decide) fun wz hzz oz => ?_
        replace hzz : Blk wz w.heap.size [.slice (some ⟨w7.heap.size, 0, none⟩) 6 6, v] _ := hzz
        have sr := cr.size
        have sz := oz.size
        obtain ⟨l', F', hrow, _, hF', hcl'⟩ := (hL.chg oz.chg (by simp; omega)).row
        have hlt' := hrow.lt
        have hi' := ((hi9.chg cr (by simp; omega)).chg oz.chg (by simp; omega)).int
        refine goS ?_
        refine at_retC rfl rfl hzz rfl ⟨⟨_, v, [1, 2, 2, 3, 4, 4], l', _, F', rfl, hi', hrow.sts, fun x hx => ?_, ⟨by decide, by decide⟩, hcl'⟩, RdU.chg hrr oz.chg (by simp; omega), Chg.freshS (Chg.freshS c9 cr (by simp; omega)) oz.chg (by simp)⟩
        rcases List.mem_append.1 hx with h | h
        · simp at h; subst h; omega
        · have := hF' x h; have := hlt' x h; omega
  · refine goS ?_
    rw [decide_eq_true (show (m : Int) > 0 by omega)]
    refine goS ?_
    refine WO_loadSB rfl hb7 rfl ?_
    refine WO_storeS (k := 2) (vs := [tv, bv]) rfl rfl rfl (by simp; exact ⟨o1, o2⟩) hz7 (by decide) fun wz hzz oz => ?_
    replace hzz : Blk wz w.heap.size [tv, bv] _ := hzz
    refine goS ?_
    exact at_retC rfl rfl hzz rfl (fin wz oz)
end Go.Proofs.YtplcmbipeanjdaaGreatDoor
namespace Go.Proofs.YtplcmbipeanjdaaGreatDoor
set_option linter.unusedVariables false
set_option linter.unusedSimpArgs false
set_option linter.unnecessarySimpa false
open Go.RowKit

section
variable {P : Program} {σ : Env} {w : World} {d : Nat} {ty : TypeId} {pos : String} {af : Array Edge} {x y : Operand}
theorem q_strTo {g : Option (Nat × Bool)} {t : TypeId} [TStr P t] {s : List UInt8} {i : Int} {h : Nat} (hx : ev σ x = some (sV s)) (hy : ev σ y = some (.int .i64 i)) (hi : i = (h : Int)) (hh : h ≤ s.length) :
    DoesQ P ⟨some d, .slice t x none (some y) none, ty, pos, af, g⟩ σ w (sV (s.take h)) := ⟨fun w2 he => ⟨fun m c hf => by
  subst hi
  have h1 : (h : Int) ≤ (s.length : Int) := by omega
  have h2 : ¬ s.length < h := by omega
  have h5 : (⟨s.toArray⟩ : ByteArray).extract 0 h = ⟨(s.take h).toArray⟩ := by
    rw [Lib.extract_eq]
    simp
  simp [execOp, fits_ev hf hx, fits_ev hf hy, Instr.sliceAt, Instr.slice, run_underlying (TStr.und (P := P) (t := t)), Instr.sliceBounds, Instr.sliceBound, asIntOf, ba_size, h1, h2, hh, h5]⟩⟩
end
theorem of_ret (rb q b0 n : Nat) (w : World) (hr : RdU w rb q) (hq : q ≤ 100000000) (hn : 1 ≤ n) (hc : ∀ k, k < n → ∃ t : Tx, t.length ≤ 600 ∧ w.cell? ⟨b0, 0 + k * 1, none⟩ = some (sV t)) (hb : b0 ≠ rb) :
    Ret Tryz.prog 45 [.pointer (some ⟨rb, 0, none⟩), .slice (some ⟨b0, 0, none⟩) n n] w fun r w' => ∃ t : Tx, r = sV t ∧ t.length ≤ 600 ∧ RdU w' rb (q + 1) ∧ Chg [rb] w w' := by
  refine enter Tryz.func45 rfl Tryz.ntmps45 rfl rfl ?_
  refine goS ?_
  refine WO_call rfl (pickU_ret rb q (n : Int) w hr (by omega) (by omega)) ?_
  rintro _ w1 ⟨k, rfl, hk, hr1, c1⟩
  obtain ⟨t, ht, hcell⟩ := hc k (by omega)
  have hcell1 := cell_chg hcell c1 (by simpa using hb)
  refine Z83 (j := k) rfl rfl rfl (by omega) ?_
  refine Z11 rfl hcell1 ?_
  refine goS ?_
  exact at_ret1 rfl rfl ⟨t, rfl, ht, hr1, c1⟩
/-- What stands behind the region that changes a text. -/
def BdIn (rb q m : Nat) (w : World) (τ : Env) (w' : World) : Prop := ∃ t : Tx, τ = [(6, sV t)] ∧ t.length ≤ m ∧ RdU w' rb q ∧ Chg [rb] w w'
theorem l1Bend_ret (rb q b0 n : Nat) (s : Tx) (w : World) (hr : RdU w rb q) (hq : q ≤ 10000000) (hn : 1 ≤ n) (hs : s.length ≤ 100000) (hc : ∀ k, k < n → ∃ t : Tx, t.length ≤ 600 ∧ w.cell? ⟨b0, 0 + k * 1, none⟩ = some (sV t)) (hb : b0 ≠ rb) :
    Ret Tryz.prog 27 [.pointer (some ⟨rb, 0, none⟩), sV s, .slice (some ⟨b0, 0, none⟩) n n] w fun r w' => ∃ t : Tx, r = sV t ∧ t.length ≤ 100600 ∧ RdU w' rb (q + 4) ∧ Chg [rb] w w' := by
  refine enter Tryz.func27 rfl Tryz.ntmps27 rfl rfl ?_
  refine goT ?_
  by_cases h0 : s.length = 0
  · rw [show (((s.length : Nat) : Int) == 0) = true from by simp [h0]]
    refine goT ?_
    exact at_ret1 rfl rfl ⟨s, rfl, by omega, hr.mono (by omega), Chg.refl _ _⟩
  · rw [show (((s.length : Nat) : Int) == 0) = false from by rw [beq_eq_false_iff_ne]; omega]
    refine goT ?_
    refine WO_call rfl (pickU_ret rb q 2 w hr (by omega) (by decide)) ?_
    rintro _ w1 ⟨i, rfl, hi, hr1, c1⟩
    refine goT ?_
    by_cases hi0 : i = 0
    · rw [show (((i : Nat) : Int) == 0) = true from by simp [hi0]]
      refine goT ?_
      exact at_ret1 rfl rfl ⟨s, rfl, by omega, hr1.mono (by omega), c1⟩
    · rw [show (((i : Nat) : Int) == 0) = false from by rw [beq_eq_false_iff_ne]; omega]
      refine goT ?_
      refine WO_call rfl (pickU_ret rb (q + 1) (s.length : Int) w1 hr1 (by omega) (by omega)) ?_
      rintro _ w2 ⟨k, rfl, hk, hr2, c2⟩
      have c02 := c1.trans c2
      have hc2 : ∀ k, k < n → ∃ t : Tx, t.length ≤ 600 ∧ w2.cell? ⟨b0, 0 + k * 1, none⟩ = some (sV t) := fun k hk => by
        obtain ⟨t, h1, h2⟩ := hc k hk
        exact ⟨t, h1, cell_chg h2 c02 (by simpa using hb)⟩
      refine goT ?_
      refine W_held0E [rb] (BdIn rb (q + 4) 100600 w2) (by kernel_rfl) (fun ws es hS => ?_) (fun τ w8 hR => ?_)
      · have hrs := hr2.ext es
        first | refine Z82 0 rfl (by kernel_rfl) (by kernel_rfl) (by kernel_rfl) (by assumption) (fun w' hw' => Z56 rfl) ?_ | refine Z82 0 rfl (by kernel_rfl) (by kernel_rfl) (by kernel_rfl) (by assumption) (fun w' hw' => Z63 rfl rfl) ?_ | refine Z82 0 rfl (by kernel_rfl) (by kernel_rfl) (by kernel_rfl) (by assumption) (fun w' hw' => Z64 rfl rfl) ?_ | refine Z82 0 rfl (by kernel_rfl) (by kernel_rfl) (by kernel_rfl) (by assumption) (fun w' hw' => Z75 rfl rfl (by omega)) ?_ | refine Z82 0 rfl (by kernel_rfl) (by kernel_rfl) (by kernel_rfl) (by assumption) (fun w' hw' => Z72 rfl) ?_ | refine Z82 0 rfl (by kernel_rfl) (by kernel_rfl) (by kernel_rfl) (by assumption) (fun w' hw' => Z69 rfl rfl rfl (by omega)) ?_ | refine Z82 0 rfl (by kernel_rfl) (by kernel_rfl) (by kernel_rfl) (by assumption) (fun w' hw' => Z30 rfl (by rfl) (by simp only [Z84, List.set_cons_zero, List.set_cons_succ]; rfl)) ?_
        first | refine Z82 1 rfl (by kernel_rfl) (by kernel_rfl) (by kernel_rfl) (by assumption) (fun w' hw' => Z56 rfl) ?_ | refine Z82 1 rfl (by kernel_rfl) (by kernel_rfl) (by kernel_rfl) (by assumption) (fun w' hw' => Z63 rfl rfl) ?_ | refine Z82 1 rfl (by kernel_rfl) (by kernel_rfl) (by kernel_rfl) (by assumption) (fun w' hw' => Z64 rfl rfl) ?_ | refine Z82 1 rfl (by kernel_rfl) (by kernel_rfl) (by kernel_rfl) (by assumption) (fun w' hw' => Z75 rfl rfl (by omega)) ?_ | refine Z82 1 rfl (by kernel_rfl) (by kernel_rfl) (by kernel_rfl) (by assumption) (fun w' hw' => Z72 rfl) ?_ | refine Z82 1 rfl (by kernel_rfl) (by kernel_rfl) (by kernel_rfl) (by assumption) (fun w' hw' => Z69 rfl rfl rfl (by omega)) ?_ | refine Z82 1 rfl (by kernel_rfl) (by kernel_rfl) (by kernel_rfl) (by assumption) (fun w' hw' => Z30 rfl (by rfl) (by simp only [Z84, List.set_cons_zero, List.set_cons_succ]; rfl)) ?_
        refine Z82 2 rfl (by kernel_rfl) (by kernel_rfl) (by kernel_rfl) (by assumption) (fun w' hw' => q_strTo (h := k) rfl rfl rfl (by omega)) ?_
        first | refine Z82 3 rfl (by kernel_rfl) (by kernel_rfl) (by kernel_rfl) (by assumption) (fun w' hw' => Z56 rfl) ?_ | refine Z82 3 rfl (by kernel_rfl) (by kernel_rfl) (by kernel_rfl) (by assumption) (fun w' hw' => Z63 rfl rfl) ?_ | refine Z82 3 rfl (by kernel_rfl) (by kernel_rfl) (by kernel_rfl) (by assumption) (fun w' hw' => Z64 rfl rfl) ?_ | refine Z82 3 rfl (by kernel_rfl) (by kernel_rfl) (by kernel_rfl) (by assumption) (fun w' hw' => Z75 rfl rfl (by omega)) ?_ | refine Z82 3 rfl (by kernel_rfl) (by kernel_rfl) (by kernel_rfl) (by assumption) (fun w' hw' => Z72 rfl) ?_ | refine Z82 3 rfl (by kernel_rfl) (by kernel_rfl) (by kernel_rfl) (by assumption) (fun w' hw' => Z69 rfl rfl rfl (by omega)) ?_ | refine Z82 3 rfl (by kernel_rfl) (by kernel_rfl) (by kernel_rfl) (by assumption) (fun w' hw' => Z30 rfl (by rfl) (by simp only [Z84, List.set_cons_zero, List.set_cons_succ]; rfl)) ?_
        first | refine Z82 4 rfl (by kernel_rfl) (by kernel_rfl) (by kernel_rfl) (by assumption) (fun w' hw' => Z56 rfl) ?_ | refine Z82 4 rfl (by kernel_rfl) (by kernel_rfl) (by kernel_rfl) (by assumption) (fun w' hw' => Z63 rfl rfl) ?_ | refine Z82 4 rfl (by kernel_rfl) (by kernel_rfl) (by kernel_rfl) (by assumption) (fun w' hw' => Z64 rfl rfl) ?_ | refine Z82 4 rfl (by kernel_rfl) (by kernel_rfl) (by kernel_rfl) (by assumption) (fun w' hw' => Z75 rfl rfl (by omega)) ?_ | refine Z82 4 rfl (by kernel_rfl) (by kernel_rfl) (by kernel_rfl) (by assumption) (fun w' hw' => Z72 rfl) ?_ | refine Z82 4 rfl (by kernel_rfl) (by kernel_rfl) (by kernel_rfl) (by assumption) (fun w' hw' => Z69 rfl rfl rfl (by omega)) ?_ | refine Z82 4 rfl (by kernel_rfl) (by kernel_rfl) (by kernel_rfl) (by assumption) (fun w' hw' => Z30 rfl (by rfl) (by simp only [Z84, List.set_cons_zero, List.set_cons_succ]; rfl)) ?_
        first | refine Z82 7 rfl (by kernel_rfl) (by kernel_rfl) (by kernel_rfl) (by assumption) (fun w' hw' => Z56 rfl) ?_ | refine Z82 7 rfl (by kernel_rfl) (by kernel_rfl) (by kernel_rfl) (by assumption) (fun w' hw' => Z63 rfl rfl) ?_ | refine Z82 7 rfl (by kernel_rfl) (by kernel_rfl) (by kernel_rfl) (by assumption) (fun w' hw' => Z64 rfl rfl) ?_ | refine Z82 7 rfl (by kernel_rfl) (by kernel_rfl) (by kernel_rfl) (by assumption) (fun w' hw' => Z75 rfl rfl (by omega)) ?_ | refine Z82 7 rfl (by kernel_rfl) (by kernel_rfl) (by kernel_rfl) (by assumption) (fun w' hw' => Z72 rfl) ?_ | refine Z82 7 rfl (by kernel_rfl) (by kernel_rfl) (by kernel_rfl) (by assumption) (fun w' hw' => Z69 rfl rfl rfl (by omega)) ?_ | refine Z82 7 rfl (by kernel_rfl) (by kernel_rfl) (by kernel_rfl) (by assumption) (fun w' hw' => Z30 rfl (by rfl) (by simp only [Z84, List.set_cons_zero, List.set_cons_succ]; rfl)) ?_
        first | refine Z82 8 rfl (by kernel_rfl) (by kernel_rfl) (by kernel_rfl) (by assumption) (fun w' hw' => Z56 rfl) ?_ | refine Z82 8 rfl (by kernel_rfl) (by kernel_rfl) (by kernel_rfl) (by assumption) (fun w' hw' => Z63 rfl rfl) ?_ | refine Z82 8 rfl (by kernel_rfl) (by kernel_rfl) (by kernel_rfl) (by assumption) (fun w' hw' => Z64 rfl rfl) ?_ | refine Z82 8 rfl (by kernel_rfl) (by kernel_rfl) (by kernel_rfl) (by assumption) (fun w' hw' => Z75 rfl rfl (by omega)) ?_ | refine Z82 8 rfl (by kernel_rfl) (by kernel_rfl) (by kernel_rfl) (by assumption) (fun w' hw' => Z72 rfl) ?_ | refine Z82 8 rfl (by kernel_rfl) (by kernel_rfl) (by kernel_rfl) (by assumption) (fun w' hw' => Z69 rfl rfl rfl (by omega)) ?_ | refine Z82 8 rfl (by kernel_rfl) (by kernel_rfl) (by kernel_rfl) (by assumption) (fun w' hw' => Z30 rfl (by rfl) (by simp only [Z84, List.set_cons_zero, List.set_cons_succ]; rfl)) ?_
        first | refine Z82 9 rfl (by kernel_rfl) (by kernel_rfl) (by kernel_rfl) (by assumption) (fun w' hw' => Z56 rfl) ?_ | refine Z82 9 rfl (by kernel_rfl) (by kernel_rfl) (by kernel_rfl) (by assumption) (fun w' hw' => Z63 rfl rfl) ?_ | refine Z82 9 rfl (by kernel_rfl) (by kernel_rfl) (by kernel_rfl) (by assumption) (fun w' hw' => Z64 rfl rfl) ?_ | refine Z82 9 rfl (by kernel_rfl) (by kernel_rfl) (by kernel_rfl) (by assumption) (fun w' hw' => Z75 rfl rfl (by omega)) ?_ | refine Z82 9 rfl (by kernel_rfl) (by kernel_rfl) (by kernel_rfl) (by assumption) (fun w' hw' => Z72 rfl) ?_ | refine Z82 9 rfl (by kernel_rfl) (by kernel_rfl) (by kernel_rfl) (by assumption) (fun w' hw' => Z69 rfl rfl rfl (by omega)) ?_ | refine Z82 9 rfl (by kernel_rfl) (by kernel_rfl) (by kernel_rfl) (by assumption) (fun w' hw' => Z30 rfl (by rfl) (by simp only [Z84, List.set_cons_zero, List.set_cons_succ]; rfl)) ?_
        refine WX_call 5 rfl (by kernel_rfl) rfl (of_ret rb (q + 2) b0 n ws hrs (by omega) hn (fun k hk => by obtain ⟨t, h1, h2⟩ := hc2 k hk; exact ⟨t, h1, cell_ext h2 es⟩) hb) ?_
        rintro _ wa ⟨u, rfl, hu, hra, ca⟩
        refine ⟨ca, ?_⟩
        have htk : (s.take k).length ≤ 100000 := by simp; omega
        refine Z82 6 rfl (by kernel_rfl) (by kernel_rfl) (by kernel_rfl) (by assumption) (fun w' hw' => Z87 (a := s.take k) (b := u) rfl rfl (by omega)) ?_
        refine WX_call 10 rfl (by kernel_rfl) rfl (pickU_ret rb (q + 3) 2 wa hra (by omega) (by decide)) ?_
        rintro _ wb ⟨j, rfl, hj, hrb, cb⟩
        have Sb := ca.trans cb
        refine ⟨Sb, ?_⟩
        first | refine Z82 11 rfl (by kernel_rfl) (by kernel_rfl) (by kernel_rfl) (by assumption) (fun w' hw' => Z56 rfl) ?_ | refine Z82 11 rfl (by kernel_rfl) (by kernel_rfl) (by kernel_rfl) (by assumption) (fun w' hw' => Z63 rfl rfl) ?_ | refine Z82 11 rfl (by kernel_rfl) (by kernel_rfl) (by kernel_rfl) (by assumption) (fun w' hw' => Z64 rfl rfl) ?_ | refine Z82 11 rfl (by kernel_rfl) (by kernel_rfl) (by kernel_rfl) (by assumption) (fun w' hw' => Z75 rfl rfl (by omega)) ?_ | refine Z82 11 rfl (by kernel_rfl) (by kernel_rfl) (by kernel_rfl) (by assumption) (fun w' hw' => Z72 rfl) ?_ | refine Z82 11 rfl (by kernel_rfl) (by kernel_rfl) (by kernel_rfl) (by assumption) (fun w' hw' => Z69 rfl rfl rfl (by omega)) ?_ | refine Z82 11 rfl (by kernel_rfl) (by kernel_rfl) (by kernel_rfl) (by assumption) (fun w' hw' => Z30 rfl (by rfl) (by simp only [Z84, List.set_cons_zero, List.set_cons_succ]; rfl)) ?_
        refine Z82 12 rfl (by kernel_rfl) (by kernel_rfl) (by kernel_rfl) (by assumption) (fun w' hw' => q_strFrom (s := s) (l := k + j) rfl rfl (by push_cast; rfl) (by omega)) ?_
        refine Z82 13 rfl (by kernel_rfl) (by kernel_rfl) (by kernel_rfl) (by assumption) (fun w' hw' => Z87 (a := s.take k ++ u) (b := s.drop (k + j)) rfl rfl (by simp; omega)) ?_
        first | refine Z82 14 rfl (by kernel_rfl) (by kernel_rfl) (by kernel_rfl) (by assumption) (fun w' hw' => Z56 rfl) ?_ | refine Z82 14 rfl (by kernel_rfl) (by kernel_rfl) (by kernel_rfl) (by assumption) (fun w' hw' => Z63 rfl rfl) ?_ | refine Z82 14 rfl (by kernel_rfl) (by kernel_rfl) (by kernel_rfl) (by assumption) (fun w' hw' => Z64 rfl rfl) ?_ | refine Z82 14 rfl (by kernel_rfl) (by kernel_rfl) (by kernel_rfl) (by assumption) (fun w' hw' => Z75 rfl rfl (by omega)) ?_ | refine Z82 14 rfl (by kernel_rfl) (by kernel_rfl) (by kernel_rfl) (by assumption) (fun w' hw' => Z72 rfl) ?_ | refine Z82 14 rfl (by kernel_rfl) (by kernel_rfl) (by kernel_rfl) (by assumption) (fun w' hw' => Z69 rfl rfl rfl (by omega)) ?_ | refine Z82 14 rfl (by kernel_rfl) (by kernel_rfl) (by kernel_rfl) (by assumption) (fun w' hw' => Z30 rfl (by rfl) (by simp only [Z84, List.set_cons_zero, List.set_cons_succ]; rfl)) ?_
        exact WH_doneE (by kernel_rfl) (by repeat (first | exact True.intro | refine And.intro rfl ?_)) ⟨_, rfl, by simp; omega, hrb, (es.chg _).trans Sb⟩
      · obtain ⟨t, rfl, ht, hr8, c8⟩ := hR
        refine goT ?_
        exact at_ret1 rfl rfl ⟨t, rfl, ht, hr8, c02.trans c8⟩
theorem DrawParseProgram_ret (v : Value) (w : World) (hd : ByD w v) : Ret Tryz.prog 11 [v] w fun r w' => ∃ t : Tx, r = sV t ∧ t.length ≤ 100600 ∧ Ext w w' := by
  refine enter Tryz.func11 rfl Tryz.ntmps11 rfl rfl ?_
  refine goT ?_
  refine WO_call rfl (openU_ret v w hd) ?_
  rintro _ w1 ⟨rb, rfl, hrb, hr, e1⟩
  have hrl := hr.lt
  refine goT ?_
  refine WO_call rfl (l1DrawX_ret rb 0 w1 hr (by omega)) ?_
  rintro _ w2 ⟨⟨tv, bv, tl, l, Ft, Fb, rfl, i1, i2, hF, ⟨htl, hta⟩, ⟨hcl, hok⟩⟩, hr2, c2⟩
  refine WO_call rfl (l1ProgramX_ret tv bv tl l Ft Fb w2 i1 i2 hta htl hok (by omega)) ?_
  rintro _ w3 ⟨rfl, e3⟩
  have hbd := lsT_bound l
  have hlen : (progT tl l).length ≤ 100000 := by unfold progT; simp; omega
  have s2 := c2.size
  have s3 := e3.size_le
  refine WO_buildStr (e := 9) (by kernel_rfl) (by kernel_rfl) (by kernel_rfl) (by decide) (by decide) (by kernel_rfl) fun w4 hc e4 => ?_
  refine WO_call rfl (l1Bend_ret rb (0 + 1000) w3.heap.size 11 (progT tl l) w4 ((hr2.ext e3).ext e4) (by omega) (by decide) hlen hc (by omega)) ?_
  rintro _ w5 ⟨t, rfl, ht, hr5, c5⟩
  refine goT ?_
  exact at_ret1 rfl rfl ⟨t, rfl, ht, c5.ext_of (((c2.ext_of e1 (by simpa using hrb)).trans e3).trans e4) (by simpa using hrb)⟩
end Go.Proofs.YtplcmbipeanjdaaGreatDoor
