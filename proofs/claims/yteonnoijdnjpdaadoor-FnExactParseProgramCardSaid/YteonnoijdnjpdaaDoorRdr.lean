/-
  What is proved here: what the program's reader of texts reads: the steps of the reader, statements and lists of statements, in new memory.
-/
import Derived.Test.YteonnoijdnjpdaaDoorDrw
import Derived.Test.YteonnoijdnjpdaaDoorFmt
namespace Go.Proofs.YteonnoijdnjpdaaDoor
set_option linter.unusedVariables false
set_option linter.unusedSimpArgs false
set_option linter.unnecessarySimpa false
open Go.RowKit

theorem cutPrefix_ret (s p : Tx) (w : World) : Ret Tryd.prog 74 [sV s, sV p] w fun r w' => r = .tuple #[sV (hasF p (s, false)).2.1, .bool (hasF p (s, false)).1] ∧ w' = w := by
  refine Calls.mono (Tryd.strings_CutPrefix ⟨s.toArray⟩ ⟨p.toArray⟩ w) fun e w' h => ⟨_, h.1, ?_, h.2⟩
  unfold Lib.trimPrefix Lib.hasPrefix hasF
  simp only
  by_cases hp : p.isPrefixOf s = true
  · simp only [hp, if_true]
  · rw [Bool.not_eq_true] at hp
    simp only [hp, Bool.false_eq_true, if_false]
theorem hasF_two (p s : Tx) (b : Bool) : hasF p (s, b) = ((hasF p (s, false)).1, ((hasF p (s, false)).2.1, b)) := by
  unfold hasF
  by_cases hp : p.isPrefixOf s = true
  · simp only [hp, if_true]
  · rw [Bool.not_eq_true] at hp
    simp only [hp, Bool.false_eq_true, if_false]
theorem hasF_miss {p s : Tx} (h : (hasF p (s, false)).1 = false) : (hasF p (s, false)).2.1 = s := by
  unfold hasF at h ⊢
  by_cases hp : p.isPrefixOf s = true
  · simp only [hp, if_true] at h
    cases h
  · rw [Bool.not_eq_true] at hp
    simp only [hp, Bool.false_eq_true, if_false]
/-- The reader in memory. -/
def RdX (w : World) (rb : Nat) (st : RSt) : Prop := Blk w rb [sV st.1, .bool st.2] 60
theorem RdX.chg {w w' : World} {rb : Nat} {st : RSt} {G : List Nat} (h : RdX w rb st) (c : Chg G w w') (hn : rb ∉ G) : RdX w' rb st := Blk.chg h c hn
theorem RdX.ext {w w' : World} {rb : Nat} {st : RSt} (h : RdX w rb st) (c : Ext w w') : RdX w' rb st := Blk.ext h c
theorem RdX.lt {w : World} {rb : Nat} {st : RSt} (h : RdX w rb st) : rb < w.heap.size := Blk.lt h
theorem has_ret (rb : Nat) (p : Tx) (st : RSt) (w : World) (h : RdX w rb st) : Ret Tryd.prog 56 [.pointer (some ⟨rb, 0, none⟩), sV p] w fun r w' => r = .bool (hasF p st).1 ∧ RdX w' rb (hasF p st).2 ∧ Chg [rb] w w' := by
  obtain ⟨s, b⟩ := st
  have hr : Blk w rb [sV s, .bool b] 60 := h
  refine enter Tryd.func56 rfl Tryd.ntmps56 rfl rfl ?_
  refine goT ?_
  refine WO_call rfl (cutPrefix_ret s p w) ?_
  rintro _ _ ⟨rfl, rfl⟩
  rw [hasF_two]
  cases hf : (hasF p (s, false)).1 with
  | false =>
    rw [hasF_miss hf]
    refine goT ?_
    exact at_ret1 rfl rfl ⟨rfl, h, Chg.refl _ _⟩
  | true =>
    refine goT ?_
    refine WO_store1 rfl rfl rfl hr (by simp) fun w1 hb o1 => ?_
    simp only [List.set_cons_zero, List.set_cons_succ] at hb
    refine goT ?_
    exact at_ret1 rfl rfl ⟨rfl, hb, o1.chg⟩
theorem skip_ret (rb : Nat) (p : Tx) (st : RSt) (w : World) (h : RdX w rb st) : Ret Tryd.prog 71 [.pointer (some ⟨rb, 0, none⟩), sV p] w fun r w' => r = .tuple #[] ∧ RdX w' rb (skipF p st) ∧ Chg [rb] w w' := by
  refine enter Tryd.func71 rfl Tryd.ntmps71 rfl rfl ?_
  refine goT ?_
  refine WO_call rfl (has_ret rb p st w h) ?_
  rintro _ w1 ⟨rfl, h1, c1⟩
  have hsk : skipF p st = ((hasF p st).2.1, !(hasF p st).1 || st.2) := rfl
  have hb : (hasF p st).2.2 = st.2 := by
    obtain ⟨s, b⟩ := st
    rw [hasF_two]
  have hr : Blk w1 rb [sV (hasF p st).2.1, .bool (hasF p st).2.2] 60 := h1
  rw [hsk]
  cases hf : (hasF p st).1 with
  | false =>
    refine goT ?_
    refine WO_store1 rfl rfl rfl hr (by simp) fun w2 hb o1 => ?_
    simp only [List.set_cons_zero, List.set_cons_succ] at hb
    refine goT ?_
    exact at_end0 rfl ⟨rfl, hb, c1.trans o1.chg⟩
  | true =>
    refine goT ?_
    refine WO_store1 rfl rfl rfl hr (by simp) fun w2 hb2 o1 => ?_
    simp only [List.set_cons_zero, List.set_cons_succ] at hb2
    rw [hb] at hb2
    refine goT ?_
    exact at_end0 rfl ⟨rfl, hb2, c1.trans o1.chg⟩
theorem from_ret (rb first many : Nat) (st : RSt) (w : World) (h : RdX w rb st) (hf : first < 200) (hm : many < 50) : Ret Tryd.prog 86 [.pointer (some ⟨rb, 0, none⟩), .int .u8 (first : Int), .int .i64 (many : Int)] w fun r w' => r = .int .i64 (fromF first many st).1 ∧ RdX w' rb (fromF first many st).2 ∧ Chg [rb] w w' := by
  obtain ⟨s, b⟩ := st
  have hr : Blk w rb [sV s, .bool b] 60 := h
  refine enter Tryd.func86 rfl Tryd.ntmps86 rfl rfl ?_
  cases s with
  | nil =>
    refine goT ?_
    rw [decide_eq_true (show ([] : List UInt8) = [] from rfl)]
    refine goT ?_
    refine WO_store1 rfl rfl rfl hr (by simp) fun w1 hb o1 => ?_
    simp only [List.set_cons_zero, List.set_cons_succ] at hb
    refine goT ?_
    exact at_ret1 rfl rfl ⟨rfl, hb, o1.chg⟩
  | cons c s =>
    have hc := c.toNat_lt
    refine goT ?_
    rw [decide_eq_false (show ¬ (c :: s) = [] from by simp)]
    refine goT ?_
    refine Z13 (q_strAt (j := 0) rfl rfl rfl (by simp)) ?_
    refine goT ?_
    have hfr : fromF first many (c :: s, b) = if c.toNat < first ∨ many ≤ c.toNat - first then (0, (c :: s, true)) else (((c.toNat - first : Nat) : Int), (s, b)) := rfl
    rw [hfr]
    by_cases hlt : c.toNat < first
    · rw [decide_eq_true (show (((c :: s)[0].toNat : Nat) : Int) < (first : Int) from by show ((c.toNat : Nat) : Int) < (first : Int); omega), if_pos (.inl hlt)]
      refine goT ?_
      refine WO_store1 rfl rfl rfl hr (by simp) fun w1 hb o1 => ?_
      simp only [List.set_cons_zero, List.set_cons_succ] at hb
      refine goT ?_
      exact at_ret1 rfl rfl ⟨rfl, hb, o1.chg⟩
    · rw [decide_eq_false (show ¬ (((c :: s)[0].toNat : Nat) : Int) < (first : Int) from by show ¬ ((c.toNat : Nat) : Int) < (first : Int); omega)]
      refine goT ?_
      refine Z13 (q_strAt (j := 0) rfl rfl rfl (by simp)) ?_
      rw [show (c :: s)[0] = c from rfl]
      refine goT ?_
      refine Z13 (q_subU8 (a := ((c.toNat : Nat) : Int)) (b := (first : Int)) rfl rfl (by omega)) ?_
      refine goT ?_
      refine goT ?_
      by_cases hge : many ≤ c.toNat - first
      · rw [decide_eq_true (show ((c.toNat : Nat) : Int) - (first : Int) ≥ (many : Int) by omega), if_pos (.inr hge)]
        refine goT ?_
        refine WO_store1 rfl rfl rfl hr (by simp) fun w1 hb o1 => ?_
        simp only [List.set_cons_zero, List.set_cons_succ] at hb
        refine goT ?_
        exact at_ret1 rfl rfl ⟨rfl, hb, o1.chg⟩
      · rw [decide_eq_false (show ¬ ((c.toNat : Nat) : Int) - (first : Int) ≥ (many : Int) by omega), if_neg (by omega)]
        refine goT ?_
        refine Z13 (q_strAt (j := 0) rfl rfl rfl (by simp)) ?_
        rw [show (c :: s)[0] = c from rfl]
        refine goT ?_
        refine Z13 (q_subU8 (a := ((c.toNat : Nat) : Int)) (b := (first : Int)) rfl rfl (by omega)) ?_
        refine goT ?_
        refine Z13 (q_strFrom (l := 1) rfl rfl rfl (by simp)) ?_
        rw [show (c :: s).drop 1 = s from rfl]
        refine goT ?_
        refine WO_store1 rfl rfl rfl hr (by simp) fun w1 hb o1 => ?_
        simp only [List.set_cons_zero, List.set_cons_succ] at hb
        refine goT ?_
        exact at_ret1 rfl rfl ⟨congrArg (Value.int .i64) (by omega), hb, o1.chg⟩
theorem variable_ret (rb : Nat) (st : RSt) (w : World) (h : RdX w rb st) : Ret Tryd.prog 72 [.pointer (some ⟨rb, 0, none⟩)] w fun r w' => r = .int .i64 (varF st).1 ∧ RdX w' rb (varF st).2 ∧ Chg [rb] w w' := by
  refine enter Tryd.func72 rfl Tryd.ntmps72 rfl rfl ?_
  refine goT ?_
  refine WO_call rfl (from_ret rb 97 6 st w h (by decide) (by decide)) ?_
  rintro _ w1 ⟨rfl, h1, c1⟩
  refine goT ?_
  exact at_ret1 rfl rfl ⟨rfl, h1, c1⟩
theorem number_ret (rb : Nat) (st : RSt) (w : World) (h : RdX w rb st) : Ret Tryd.prog 73 [.pointer (some ⟨rb, 0, none⟩)] w fun r w' => r = .int .i64 (numbF st).1 ∧ RdX w' rb (numbF st).2 ∧ Chg [rb] w w' := by
  refine enter Tryd.func73 rfl Tryd.ntmps73 rfl rfl ?_
  refine goT ?_
  refine WO_call rfl (from_ret rb 48 10 st w h (by decide) (by decide)) ?_
  rintro _ w1 ⟨rfl, h1, c1⟩
  refine goT ?_
  exact at_ret1 rfl rfl ⟨rfl, h1, c1⟩
/-- A statement in memory from B on. -/
def StX (e : TypeId) (B : Nat) (w : World) (r : Value) (o : One) : Prop :=
  ∃ vt ve Ft Fe, r = stV o.1 o.2.1 o.2.2.1 o.2.2.2.1 vt ve ∧ RowS e w vt o.2.2.2.2.1 Ft ∧ RowS e w ve o.2.2.2.2.2 Fe ∧ (Ft ++ Fe).Nodup ∧ (∀ b ∈ Ft ++ Fe, B ≤ b)
/-- Statements in memory from B on. -/
def LsX (e : TypeId) (B : Nat) (w : World) (v : Value) (l : Ss) : Prop := ∃ xs Fs, w.ownsRow B e 6 v l.len xs ∧ StkS e w l xs Fs ∧ (v.ownBlock.toList ++ Fs).Nodup ∧ (∀ b ∈ v.ownBlock.toList ++ Fs, B ≤ b)
section
variable {e : TypeId} {B : Nat} {w w' : World} {r v : Value} {G : List Nat} {l : Ss} {o : One}
theorem LsX.chg (h : LsX e B w v l) (c : Chg G w w') (hG : ∀ x ∈ G, x < B) : LsX e B w' v l := by
  obtain ⟨xs, Fs, h1, h2, h3, h4⟩ := h
  exact ⟨xs, Fs, ownsRow_chg h1 c (fun z hz hm => by have := h4 z (by simp [hz]); have := hG z hm; omega), StkS.chg c _ _ _ h2 (fun z hz hm => by have := h4 z (by simp [hz]); have := hG z hm; omega), h3, h4⟩
theorem LsX.one (h : LsX e B w v l) : v.oneCell' = true := by
  obtain ⟨xs, Fs, h1, _⟩ := h
  exact row_one (ownsRow_base0 h1)
theorem LsX.row (h : LsX e B w v l) : ∃ F, RowS e w v l F ∧ F.Nodup ∧ (∀ b ∈ F, B ≤ b) := by
  obtain ⟨xs, Fs, h1, h2, h3, h4⟩ := h
  exact ⟨_, ⟨xs, Fs, ownsRow_base0 h1, h2, rfl⟩, h3, h4⟩
theorem LsX.nil_ : LsX e B w (.slice none 0 0) .nil := ⟨[], [], World.ownsRow_nil _ _ _ _, ⟨rfl, rfl⟩, by simp [Value.ownBlock], by simp [Value.ownBlock]⟩
theorem StX.flat {op x y n : Int} : StX e B w (stV op x y n (.slice none 0 0) (.slice none 0 0)) (op, x, y, n, .nil, .nil) :=
  ⟨_, _, [], [], rfl, RowS.nil_ _ _, RowS.nil_ _ _, by simp, by simp⟩
theorem StX.cells (h : StX e B w r o) : ∃ vt ve, r = stV o.1 o.2.1 o.2.2.1 o.2.2.2.1 vt ve ∧ vt.oneCell' = true ∧ ve.oneCell' = true := by
  obtain ⟨vt, ve, Ft, Fe, h1, h2, h3, h4, h5⟩ := h
  exact ⟨vt, ve, h1, h2.one, h3.one⟩
theorem StX.chg (h : StX e B w r o) (c : Chg G w w') (hG : ∀ x ∈ G, x < B) : StX e B w' r o := by
  obtain ⟨vt, ve, Ft, Fe, h1, h2, h3, h4, h5⟩ := h
  exact ⟨vt, ve, Ft, Fe, h1, h2.chg c (fun z hz hm => by have := h5 z (by simp [hz]); have := hG z hm; omega), h3.chg c (fun z hz hm => by have := h5 z (by simp [hz]); have := hG z hm; omega), h4, h5⟩
end
def snocO (l : Ss) (o : One) : Ss := l.snoc o.1 o.2.1 o.2.2.1 o.2.2.2.1 o.2.2.2.2.1 o.2.2.2.2.2
theorem snocO_app (l : Ss) (o : One) (r : Ss) : (snocO l o).app r = l.app (consO o r) := Ss.snoc_app _ _ _ _ _ _ _ _
theorem snocO_len (l : Ss) (o : One) : (snocO l o).len = l.len + 1 := Ss.len_snoc _ _ _ _ _ _ _
/-- One more statement. -/
theorem LsX.step {e : TypeId} {l : Ss} {o : One} {B B2 : Nat} {w1 w2 : World} {v v' r : Value} {xs Fs} (h1 : w1.ownsRow B e 6 v l.len xs) (h2 : StkS e w1 l xs Fs) (h3 : (v.ownBlock.toList ++ Fs).Nodup) (h4 : ∀ b ∈ v.ownBlock.toList ++ Fs, B ≤ b ∧ b < B2) (hB : B ≤ B2) (hB2 : B2 ≤ w1.heap.size) (hs : StX e B2 w1 r o)
    (k1 : w2.ownsRow B e 6 v' (l.len + 1) (xs ++ r.cells.toList)) (k2 : w1.grownBy w2 v.ownBlock) (k3 : v'.ownBlock = v.ownBlock ∨ ∃ b, v'.ownBlock = some b ∧ w1.heap.size ≤ b) : LsX e B w2 v' (snocO l o) := by
  obtain ⟨op, x, y, n, t, el⟩ := o
  obtain ⟨vt, ve, Ft, Fe, rfl, q1, q2, q3, q4⟩ := hs
  simp only at q1 q2 k1
  obtain ⟨W0, hWB, hE⟩ := cutW (B := B) (w' := w1) (by omega)
  have hg := GrowS.step (e := e) (l := l) (t := t) (el := el) (op := op) (x := x) (y := y) (n := n) (w := W0) (by rw [hWB]; exact h1) h2 h3 (fun b hb => by rw [hWB]; exact (h4 b hb).1) hE q1 q2 q3 (fun z hz hm => by have := q4 z hz; have := (h4 z hm).2; omega) (fun z hz => by have := q4 z hz; omega) (by rw [hWB]; exact k1) k2 k3
  obtain ⟨⟨ys, Gs, g1, g2, g3, g4⟩, _⟩ := hg
  rw [hWB] at g1 g4
  exact ⟨ys, Gs, g1, g2, g3, g4⟩
theorem LsX.first {e : TypeId} {o : One} {B : Nat} {w w' : World} {b : Nat} {r vt ve : Value} (hs : StX e B w r o) (hr : r = stV o.1 o.2.1 o.2.2.1 o.2.2.2.1 vt ve) (hb : Blk w' b [.int .i64 o.1, .int .i64 o.2.1, .int .i64 o.2.2.1, .int .i64 o.2.2.2.1, vt, ve] e) (hx : Ext w w') (hB : B ≤ b) (hbw : w.heap.size ≤ b) : LsX e B w' (.slice (some ⟨b, 0, none⟩) 1 1) (consO o .nil) := by
  obtain ⟨op, x, y, n, t, el⟩ := o
  obtain ⟨vt', ve', Ft, Fe, hr', q1, q2, q3, q4⟩ := hs
  rw [hr] at hr'
  simp only at hr' q1 q2 hb
  unfold stV at hr'
  injection hr' with hr'
  simp at hr'
  obtain ⟨rfl, rfl⟩ := hr'
  refine ⟨_, Ft ++ (Fe ++ []), owns_blk hb hB (by simp) (by decide), StkS.mk (q1.ext hx) (q2.ext hx) ⟨rfl, rfl⟩, ?_, ?_⟩
  · show (b :: (Ft ++ (Fe ++ []))).Nodup
    rw [List.append_nil]
    refine List.nodup_cons.2 ⟨fun hm => ?_, q3⟩
    rcases List.mem_append.1 hm with h | h
    · have := q1.lt _ h; omega
    · have := q2.lt _ h; omega
  · intro z hz
    replace hz : z ∈ b :: (Ft ++ (Fe ++ [])) := hz
    rw [List.append_nil] at hz
    rcases List.mem_cons.1 hz with h | h
    · omega
    · exact q4 z h
end Go.Proofs.YteonnoijdnjpdaaDoor
