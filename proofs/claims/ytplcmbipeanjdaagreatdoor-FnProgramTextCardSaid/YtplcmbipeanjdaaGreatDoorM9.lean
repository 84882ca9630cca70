/-
  What is proved here: what the reference's parser of statements returns for a text, in new memory; a text has one program at most, said of lists of bytes. No function of the program stands here; which program the reference's parser returns for a text.
-/
import Derived.Test.YtplcmbipeanjdaaGreatDoorM8
import Derived.Test.YtplcmbipeanjdaaGreatDoorM5
import Derived.Test.YtplcmbipeanjdaaGreatDoorM6
import Derived.Test.YtplcmbipeanjdaaGreatDoorM7
namespace Go.Proofs.YtplcmbipeanjdaaGreatDoor
set_option linter.unusedVariables false
set_option linter.unusedSimpArgs false
set_option linter.unnecessarySimpa false
open Go.RowKit

theorem atB_dec {s q : Tx} {k : Nat} (h : k + q.length ≤ s.length) : decide ((s.drop k).take (k + q.length - k) = q) = atB s (k : Int) q := by
  unfold atB
  rw [decide_eq_true (Int.natCast_nonneg k), Bool.true_and, Int.toNat_natCast, Bool.eq_iff_iff, decide_eq_true_eq, List.isPrefixOf_iff_prefix, List.prefix_iff_eq_take, show k + q.length - k = q.length from by omega]
  exact eq_comm
theorem int_one (z : Int) : (Value.int .i64 z).oneCell' = true := rfl
theorem atB_neg {s q : Tx} {p : Int} (h : p < 0) : atB s p q = false := by
  unfold atB
  rw [decide_eq_false (by omega), Bool.false_and]
theorem atB_out {s q : Tx} {p : Int} (hq : 0 < q.length) (h : (s.length : Int) < p + q.length) : atB s p q = false := by
  by_cases h1 : atB s p q = true
  · have := atB_lt h1 hq
    omega
  · simpa using h1
theorem byS_out {lo hi : Nat} {s : Tx} {p : Int} (h : p < 0 ∨ (s.length : Int) ≤ p) : byS lo hi s p = -1 := by
  unfold byS
  split
  · rw [List.drop_eq_nil_of_le (by omega)]
  · rfl
theorem byS_get {lo hi : Nat} {s : Tx} {k : Nat} (h : k < s.length) : byS lo hi s (k : Int) = if lo ≤ s[k].toNat ∧ s[k].toNat ≤ hi then ((s[k].toNat - lo : Nat) : Int) else -1 := by
  unfold byS
  rw [if_pos (Int.natCast_nonneg k), Int.toNat_natCast, List.drop_eq_getElem_cons h]
theorem l1At_ret (s q : Tx) (p : Int) (w : World) (hs : s.length ≤ 1000000) (hq : 0 < q.length) (hq2 : q.length ≤ 1000) (hp : -1000000 ≤ p ∧ p ≤ 1000000) :
    Ret Tryz.prog 49 [sV s, .int .i64 p, sV q] w fun r w' => r = .bool (atB s p q) ∧ w' = w := by
  refine enter Tryz.func49 rfl Tryz.ntmps49 rfl rfl ?_
  by_cases h0 : p < 0
  · rw [atB_neg h0]
    have h1 : decide (p ≥ 0) = false := by simp; omega
    refine goT ?_
    rw [h1]
    refine goT ?_
    exact at_ret1 rfl rfl ⟨rfl, rfl⟩
  · obtain ⟨k, rfl⟩ : ∃ k : Nat, p = k := ⟨p.toNat, by omega⟩
    have h1 : decide ((k : Int) ≥ 0) = true := by simp
    refine goT ?_
    rw [h1]
    refine goT ?_
    by_cases h2 : k + q.length ≤ s.length
    · rw [decide_eq_true (show (k : Int) + (q.length : Int) ≤ (s.length : Int) by omega)]
      refine goT ?_
      refine Z13 (q_strSl (l := k) (h := k + q.length) rfl rfl rfl rfl (by omega) (by omega) h2) ?_
      refine goT ?_
      exact at_ret1 rfl rfl ⟨by rw [atB_dec h2], rfl⟩
    · rw [decide_eq_false (show ¬ (k : Int) + (q.length : Int) ≤ (s.length : Int) by omega), atB_out hq (by omega)]
      refine goT ?_
      exact at_ret1 rfl rfl ⟨rfl, rfl⟩
theorem l1Var_ret (s : Tx) (p : Int) (w : World) (hs : s.length ≤ 1000000) (hp : -1000000 ≤ p ∧ p ≤ 1000000) :
    Ret Tryz.prog 66 [sV s, .int .i64 p] w fun r w' => r = .int .i64 (varS s p) ∧ w' = w := by
  by_cases h0 : p < 0 ∨ (s.length : Int) ≤ p
  · show Ret _ _ _ _ (fun r w' => r = .int .i64 (byS 97 122 s p) ∧ w' = w)
    rw [byS_out h0]
    refine enter Tryz.func66 rfl Tryz.ntmps66 rfl rfl ?_
    by_cases h1 : p < 0
    · refine goT ?_
      rw [decide_eq_true h1]
      refine goT ?_
      exact at_ret1 rfl rfl ⟨rfl, rfl⟩
    · refine goT ?_
      rw [decide_eq_false h1]
      refine goT ?_
      rw [decide_eq_true (show p ≥ (s.length : Int) by omega)]
      refine goT ?_
      exact at_ret1 rfl rfl ⟨rfl, rfl⟩
  · obtain ⟨k, rfl⟩ : ∃ k : Nat, p = k := ⟨p.toNat, by omega⟩
    have hk : k < s.length := by omega
    show Ret _ _ _ _ (fun r w' => r = .int .i64 (byS 97 122 s k) ∧ w' = w)
    rw [byS_get hk]
    have hb : s[k].toNat < 256 := s[k].toNat_lt
    refine enter Tryz.func66 rfl Tryz.ntmps66 rfl rfl ?_
    refine goT ?_
    rw [decide_eq_false (show ¬ (k : Int) < 0 by omega)]
    refine goT ?_
    rw [decide_eq_false (show ¬ (k : Int) ≥ (s.length : Int) by omega)]
    refine goT ?_
    refine Z13 (q_strAt (j := k) rfl rfl rfl hk) ?_
    by_cases h1 : s[k].toNat < 97
    · rw [if_neg (by omega)]
      refine goT ?_
      rw [decide_eq_true (show (s[k].toNat : Int) < 97 by omega)]
      refine goT ?_
      exact at_ret1 rfl rfl ⟨rfl, rfl⟩
    · refine goT ?_
      rw [decide_eq_false (show ¬ (s[k].toNat : Int) < 97 by omega)]
      refine goT ?_
      refine Z13 (q_strAt (j := k) rfl rfl rfl hk) ?_
      by_cases h2 : 122 < s[k].toNat
      · rw [if_neg (by omega)]
        refine goT ?_
        rw [decide_eq_true (show (s[k].toNat : Int) > 122 by omega)]
        refine goT ?_
        exact at_ret1 rfl rfl ⟨rfl, rfl⟩
      · rw [if_pos (by omega)]
        refine goT ?_
        rw [decide_eq_false (show ¬ (s[k].toNat : Int) > 122 by omega)]
        refine goT ?_
        refine Z13 (q_strAt (j := k) rfl rfl rfl hk) ?_
        refine Z13 (q_subU8 rfl rfl (by omega)) ?_
        refine Z13 (q_fromByte rfl (by omega)) ?_
        refine goT ?_
        refine at_ret1 rfl rfl ⟨?_, rfl⟩
        congr 1
        omega
theorem l1Digit_ret (s : Tx) (p : Int) (w : World) (hs : s.length ≤ 1000000) (hp : -1000000 ≤ p ∧ p ≤ 1000000) :
    Ret Tryz.prog 68 [sV s, .int .i64 p] w fun r w' => r = .int .i64 (digS s p) ∧ w' = w := by
  by_cases h0 : p < 0 ∨ (s.length : Int) ≤ p
  · show Ret _ _ _ _ (fun r w' => r = .int .i64 (byS 48 57 s p) ∧ w' = w)
    rw [byS_out h0]
    refine enter Tryz.func68 rfl Tryz.ntmps68 rfl rfl ?_
    by_cases h1 : p < 0
    · refine goT ?_
      rw [decide_eq_true h1]
      refine goT ?_
      exact at_ret1 rfl rfl ⟨rfl, rfl⟩
    · refine goT ?_
      rw [decide_eq_false h1]
      refine goT ?_
      rw [decide_eq_true (show p ≥ (s.length : Int) by omega)]
      refine goT ?_
      exact at_ret1 rfl rfl ⟨rfl, rfl⟩
  · obtain ⟨k, rfl⟩ : ∃ k : Nat, p = k := ⟨p.toNat, by omega⟩
    have hk : k < s.length := by omega
    show Ret _ _ _ _ (fun r w' => r = .int .i64 (byS 48 57 s k) ∧ w' = w)
    rw [byS_get hk]
    have hb : s[k].toNat < 256 := s[k].toNat_lt
    refine enter Tryz.func68 rfl Tryz.ntmps68 rfl rfl ?_
    refine goT ?_
    rw [decide_eq_false (show ¬ (k : Int) < 0 by omega)]
    refine goT ?_
    rw [decide_eq_false (show ¬ (k : Int) ≥ (s.length : Int) by omega)]
    refine goT ?_
    refine Z13 (q_strAt (j := k) rfl rfl rfl hk) ?_
    by_cases h1 : s[k].toNat < 48
    · rw [if_neg (by omega)]
      refine goT ?_
      rw [decide_eq_true (show (s[k].toNat : Int) < 48 by omega)]
      refine goT ?_
      exact at_ret1 rfl rfl ⟨rfl, rfl⟩
    · refine goT ?_
      rw [decide_eq_false (show ¬ (s[k].toNat : Int) < 48 by omega)]
      refine goT ?_
      refine Z13 (q_strAt (j := k) rfl rfl rfl hk) ?_
      by_cases h2 : 57 < s[k].toNat
      · rw [if_neg (by omega)]
        refine goT ?_
        rw [decide_eq_true (show (s[k].toNat : Int) > 57 by omega)]
        refine goT ?_
        exact at_ret1 rfl rfl ⟨rfl, rfl⟩
      · rw [if_pos (by omega)]
        refine goT ?_
        rw [decide_eq_false (show ¬ (s[k].toNat : Int) > 57 by omega)]
        refine goT ?_
        refine Z13 (q_strAt (j := k) rfl rfl rfl hk) ?_
        refine Z13 (q_subU8 rfl rfl (by omega)) ?_
        refine Z13 (q_fromByte rfl (by omega)) ?_
        refine goT ?_
        refine at_ret1 rfl rfl ⟨?_, rfl⟩
        congr 1
        omega
/-- A list that was read, in new memory, and the place behind it. -/
def ListAt (e : TypeId) (q : PR) (w : World) (r : Value) (w' : World) : Prop := ∃ v, r = .tuple #[v, .int .i64 q.2] ∧ NewS e q.1 w v w'
/-- A statement that was read, in new memory, and the place behind it. -/
def OneAt (e : TypeId) (q : One × Int) (w : World) (r : Value) (w' : World) : Prop := ∃ v, r = .tuple #[v, .int .i64 q.2] ∧ NewSt e q.1.1 q.1.2.1 q.1.2.2.1 q.1.2.2.2.1 q.1.2.2.2.2.1 q.1.2.2.2.2.2 w v w'
theorem NewSt.flat (e : TypeId) (op x y n : Int) {w w' : World} (he : Ext w w') : NewSt e op x y n .nil .nil w (stV op x y n (.slice none 0 0) (.slice none 0 0)) w' :=
  ⟨_, _, [], [], rfl, RowS.nil_ _ _, RowS.nil_ _ _, by simp, by simp, he⟩
def PlP (d : Nat) : Prop := ∀ (s : Tx) (p : Int) (w : World), s.length ≤ 1000 → 0 ≤ p → p ≤ s.length → Ret Tryz.prog 29 [sV s, .int .i64 p, .int .i64 (d : Int)] w (ListAt 59 (lisS s d p) w)
theorem l1Braces_ret (d : Nat) (ih : ∀ d', d = d' + 1 → PlP d') (s : Tx) (p : Int) (w : World) (hs : s.length ≤ 1000) (hp : -1 ≤ p ∧ p ≤ 2000) (hd : d ≤ 1000) :
    Ret Tryz.prog 67 [sV s, .int .i64 p, .int .i64 ((d : Int) - 1)] w (ListAt 59 (bracS s (subS s d) p) w) := by
  refine enter Tryz.func67 rfl Tryz.ntmps67 rfl rfl ?_
  refine goT ?_
  refine WO_call rfl (l1At_ret s [123] p w (by omega) (by decide) (by decide) (by omega)) ?_
  rintro _ w1 ⟨rfl, rfl⟩
  have fin : ∀ u v : Value, u = .slice none 0 0 → v = .int .i64 (-1) → ListAt 59 (.nil, -1) w1 (.tuple #[u, v]) w1 := by
    rintro _ _ rfl rfl
    exact ⟨_, rfl, NewS.nil_ _ (Ext.refl _)⟩
  cases h1 : atB s p [123] with
  | false =>
    have hq : bracS s (subS s d) p = (.nil, -1) := by
      unfold bracS
      split
      · rfl
      · rw [if_neg (by rw [h1]; decide)]
    rw [hq]
    refine goT ?_
    exact at_ret2 rfl rfl rfl (fin _ _ rfl rfl)
  | true =>
    have hlt := atB_lt h1 (by decide)
    simp only [List.length_cons, List.length_nil] at hlt
    cases d with
    | zero =>
      have hq : bracS s (subS s 0) p = (.nil, -1) := rfl
      rw [hq]
      refine goT ?_
      exact at_ret2 rfl rfl rfl (fin _ _ rfl rfl)
    | succ d =>
      have hd0 : decide (((d + 1 : Nat) : Int) - 1 < 0) = false := decide_eq_false (by omega)
      have hd1 : ((d + 1 : Nat) : Int) - 1 = (d : Int) := by omega
      rw [hd1] at hd0 ⊢
      refine goT ?_
      rw [hd0]
      refine goT ?_
      refine WO_call rfl (ih d rfl s (p + 1) w1 hs (by omega) (by omega)) ?_
      rintro _ w2 ⟨v, rfl, hn⟩
      have hin := lisS_in s d (p + 1) (by omega) (by omega)
      have hb : -1 ≤ (lisS s d (p + 1)).2 ∧ (lisS s d (p + 1)).2 ≤ 1000 := by rcases hin with ⟨h, _⟩ | ⟨h, h', _⟩ <;> omega
      refine goT ?_
      refine WO_call rfl (l1At_ret s [125] _ w2 (by omega) (by decide) (by decide) (by omega)) ?_
      rintro _ w3 ⟨rfl, rfl⟩
      cases h2 : atB s (lisS s d (p + 1)).2 [125] with
      | false =>
        have hq : bracS s (subS s (d + 1)) p = (.nil, -1) := by
          show (if atB s p [123] = true then (if atB s (lisS s d (p + 1)).2 [125] = true then ((lisS s d (p + 1)).1, (lisS s d (p + 1)).2 + 1) else (Ss.nil, (-1 : Int))) else (.nil, -1)) = _
          rw [if_pos h1, if_neg (by rw [h2]; decide)]
        rw [hq]
        refine goT ?_
        exact at_ret2 rfl rfl rfl ⟨_, rfl, NewS.nil_ _ hn.2⟩
      | true =>
        have hq : bracS s (subS s (d + 1)) p = ((lisS s d (p + 1)).1, (lisS s d (p + 1)).2 + 1) := by
          show (if atB s p [123] = true then (if atB s (lisS s d (p + 1)).2 [125] = true then ((lisS s d (p + 1)).1, (lisS s d (p + 1)).2 + 1) else (Ss.nil, (-1 : Int))) else (.nil, -1)) = _
          rw [if_pos h1, if_pos h2]
        rw [hq]
        refine goT ?_
        exact at_ret2 rfl rfl rfl ⟨_, rfl, hn⟩
theorem brac_bd {s : Tx} (hs : s.length ≤ 1000) (d : Nat) (p : Int) : -1 ≤ (bracS s (subS s d) p).2 ∧ (bracS s (subS s d) p).2 ≤ 1000 := by
  have h := bracS_in (subS_in s d) p
  rcases h with ⟨h, _⟩ | ⟨h1, h2, h3, _⟩ <;> omega
theorem l1Parse_ret (d : Nat) (ih : ∀ d', d = d' + 1 → PlP d') (s : Tx) (p : Int) (w : World) (hs : s.length ≤ 1000) (hp : 0 ≤ p ∧ p ≤ 1000) (hd : d ≤ 1000) :
    Ret Tryz.prog 50 [sV s, .int .i64 p, .int .i64 (d : Int)] w (OneAt 59 (parS s (subS s d) p) w) := by
  have hv := byS_in 97 122 s p (by decide)
  have bd := brac_bd hs d
  refine enter Tryz.func50 rfl Tryz.ntmps50 rfl rfl ?_
  refine goT ?_
  refine WO_alloc fun w1 hr e1 z1 => ?_
  replace hr : Blk w1 w.heap.size [.int .i64 0, .int .i64 0, .int .i64 0, .int .i64 0, .slice none 0 0, .slice none 0 0] _ := hr
  refine goT ?_
  refine WO_call rfl (l1At_ret s wDrop _ _ (by omega) (by decide) (by decide) (by omega)) ?_
  rintro _ w' ⟨rfl, rfl⟩
  cases h1 : atB s p wDrop with
  | true =>
    have hq : parS s (subS s d) p = ((8, varS s (p + 5), 0, 0, .nil, .nil), p + 6) := by unfold parS; rw [if_pos h1]
    refine goT ?_
    refine WO_call rfl (l1Var_ret s _ _ (by omega) (by omega)) ?_
    rintro _ w' ⟨rfl, rfl⟩
    refine goT ?_
    refine WO_storeS (k := 6) (vs := [.int .i64 (8), .int .i64 (varS s (p + 5)), .int .i64 (0), .int .i64 (0), .slice none 0 0, .slice none 0 0]) rfl rfl rfl (by simp [Value.oneCell']) hr (by decide) fun wz hz oz => ?_
    replace hz : Blk wz w.heap.size [.int .i64 (8), .int .i64 (varS s (p + 5)), .int .i64 (0), .int .i64 (0), .slice none 0 0, .slice none 0 0] _ := hz
    refine goT ?_
    refine at_ret2G rfl (.cell inferInstance rfl hz rfl) (.tmp rfl) ?_
    rw [hq]
    exact ⟨_, rfl, NewSt.flat _ _ _ _ _ (e1.only oz (Nat.le_refl _))⟩
  | false =>
    refine goT ?_
    refine WO_call rfl (l1At_ret s wLoop _ _ (by omega) (by decide) (by decide) (by omega)) ?_
    rintro _ w' ⟨rfl, rfl⟩
    cases h2 : atB s p wLoop with
    | true =>
      have hq : parS s (subS s d) p = ((10, 0, 0, 0, (bracS s (subS s d) (p + 4)).1, .nil), (bracS s (subS s d) (p + 4)).2) := by unfold parS; rw [if_neg (by rw [h1]; decide), if_pos h2]
      refine goT ?_
      refine WO_call rfl (l1Braces_ret d ih s (p + 4) _ hs (by omega) hd) ?_
      rintro _ w2 ⟨v, rfl, ⟨F, r1, n1, b1⟩, e2⟩
      have hone := r1.one
      replace hr := hr.ext e2
      refine goT ?_
      refine Z13 (Z30 (cs := [.int .i64 10, .int .i64 0, .int .i64 0, .int .i64 0, v, .slice none 0 0]) rfl (by simp [partsOk, hone, int_one]) rfl) ?_
      refine goT ?_
      refine WO_storeS (k := 6) (vs := [.int .i64 10, .int .i64 0, .int .i64 0, .int .i64 0, v, .slice none 0 0]) rfl rfl rfl (by intro u hu; simp at hu; rcases hu with rfl | rfl | rfl | rfl <;> first | rfl | assumption) hr (by decide) fun wz hz oz => ?_
      replace hz : Blk wz w.heap.size [.int .i64 10, .int .i64 0, .int .i64 0, .int .i64 0, v, .slice none 0 0] _ := hz
      refine goT ?_
      refine at_ret2G rfl (.cell inferInstance rfl hz rfl) (.tmp rfl) ?_
      rw [hq]
      exact ⟨_, rfl, v, _, F, [], rfl, r1.chg oz.chg (fun z hz hm => by simp only [List.mem_singleton] at hm; subst hm; have := b1 _ hz; omega), RowS.nil_ _ _, by simpa using n1, fun b hb => by have := b1 b (by simpa using hb); omega, (e1.trans e2).only oz (Nat.le_refl _)⟩
    | false =>
      refine goT ?_
      refine WO_call rfl (l1At_ret s wIf _ _ (by omega) (by decide) (by decide) (by omega)) ?_
      rintro _ w' ⟨rfl, rfl⟩
      cases h3 : atB s p wIf with
      | true =>
        have hq : parS s (subS s d) p = ((9, 0, 0, 0, (bracS s (subS s d) (p + 2)).1, (bracS s (subS s d) (bracS s (subS s d) (p + 2)).2).1), (bracS s (subS s d) (bracS s (subS s d) (p + 2)).2).2) := by unfold parS; rw [if_neg (by rw [h1]; decide), if_neg (by rw [h2]; decide), if_pos h3]
        refine goT ?_
        refine WO_call rfl (l1Braces_ret d ih s (p + 2) _ hs (by omega) hd) ?_
        rintro _ w2 ⟨v, rfl, ⟨F, r1, n1, b1⟩, e2⟩
        have hone := r1.one
        have hlt := r1.lt
        replace hr := hr.ext e2
        have b2 := bd (p + 2)
        refine goT ?_
        refine WO_call rfl (l1Braces_ret d ih s (bracS s (subS s d) (p + 2)).2 w2 hs (by omega) hd) ?_
        rintro _ w3 ⟨u, rfl, ⟨G, r2, n2, b3⟩, e3⟩
        have hone2 := r2.one
        replace hr := hr.ext e3
        replace r1 := r1.ext e3
        have s2 := e2.size_le
        refine goT ?_
        refine Z13 (Z30 (cs := [.int .i64 9, .int .i64 0, .int .i64 0, .int .i64 0, v, u]) rfl (by simp [partsOk, hone, hone2, int_one]) rfl) ?_
        refine goT ?_
        refine WO_storeS (k := 6) (vs := [.int .i64 9, .int .i64 0, .int .i64 0, .int .i64 0, v, u]) rfl rfl rfl (by intro u hu; simp at hu; rcases hu with rfl | rfl | rfl | rfl <;> first | rfl | assumption) hr (by decide) fun wz hz oz => ?_
        replace hz : Blk wz w.heap.size [.int .i64 9, .int .i64 0, .int .i64 0, .int .i64 0, v, u] _ := hz
        refine goT ?_
        refine at_ret2G rfl (.cell inferInstance rfl hz rfl) (.tmp rfl) ?_
        rw [hq]
        refine ⟨_, rfl, v, u, F, G, rfl, r1.chg oz.chg (fun z hz hm => by simp only [List.mem_singleton] at hm; subst hm; have := b1 _ hz; omega), r2.chg oz.chg (fun z hz hm => by simp only [List.mem_singleton] at hm; subst hm; have := b3 _ hz; omega), ?_, fun b hb => ?_, ((e1.trans e2).trans e3).only oz (Nat.le_refl _)⟩
        · exact List.nodup_append.2 ⟨n1, n2, fun a ha b hb e => by subst e; have := hlt a ha; have := b3 a hb; omega⟩
        · rcases List.mem_append.1 hb with hb | hb
          · have := b1 b hb; omega
          · have := b3 b hb; omega
      | false =>
        refine goT ?_
        refine WO_call rfl (l1At_ret s [42] _ _ (by omega) (by decide) (by decide) (by omega)) ?_
        rintro _ w' ⟨rfl, rfl⟩
        cases h4 : atB s p [42] with
        | true =>
          have hq : parS s (subS s d) p = ((7, varS s (p + 1), varS s (p + 3), 0, .nil, .nil), p + 4) := by unfold parS; rw [if_neg (by rw [h1]; decide), if_neg (by rw [h2]; decide), if_neg (by rw [h3]; decide), if_pos h4]
          refine goT ?_
          refine WO_call rfl (l1Var_ret s _ _ (by omega) (by omega)) ?_
          rintro _ w' ⟨rfl, rfl⟩
          refine goT ?_
          refine WO_call rfl (l1Var_ret s _ _ (by omega) (by omega)) ?_
          rintro _ w' ⟨rfl, rfl⟩
          refine goT ?_
          refine WO_storeS (k := 6) (vs := [.int .i64 (7), .int .i64 (varS s (p + 1)), .int .i64 (varS s (p + 3)), .int .i64 (0), .slice none 0 0, .slice none 0 0]) rfl rfl rfl (by simp [Value.oneCell']) hr (by decide) fun wz hz oz => ?_
          replace hz : Blk wz w.heap.size [.int .i64 (7), .int .i64 (varS s (p + 1)), .int .i64 (varS s (p + 3)), .int .i64 (0), .slice none 0 0, .slice none 0 0] _ := hz
          refine goT ?_
          refine at_ret2G rfl (.cell inferInstance rfl hz rfl) (.tmp rfl) ?_
          rw [hq]
          exact ⟨_, rfl, NewSt.flat _ _ _ _ _ (e1.only oz (Nat.le_refl _))⟩
        | false =>
          refine goT ?_
          refine WO_call rfl (l1Var_ret s _ _ (by omega) (by omega)) ?_
          rintro _ w' ⟨rfl, rfl⟩
          refine goT ?_
          by_cases h5 : varS s p < 0
          · have hq : parS s (subS s d) p = ((0, 0, 0, 0, .nil, .nil), -1) := by unfold parS; rw [if_neg (by rw [h1]; decide), if_neg (by rw [h2]; decide), if_neg (by rw [h3]; decide), if_neg (by rw [h4]; decide), if_pos (.inl h5)]
            rw [decide_eq_true h5]
            refine goT ?_
            refine WO_storeS (k := 6) (vs := [.int .i64 (0), .int .i64 (0), .int .i64 (0), .int .i64 (0), .slice none 0 0, .slice none 0 0]) rfl rfl rfl (by simp [Value.oneCell']) hr (by decide) fun wz hz oz => ?_
            replace hz : Blk wz w.heap.size [.int .i64 (0), .int .i64 (0), .int .i64 (0), .int .i64 (0), .slice none 0 0, .slice none 0 0] _ := hz
            refine goT ?_
            refine at_ret2G rfl (.cell inferInstance rfl hz rfl) (.tmp rfl) ?_
            rw [hq]
            exact ⟨_, rfl, NewSt.flat _ _ _ _ _ (e1.only oz (Nat.le_refl _))⟩
          · rw [decide_eq_false h5]
            refine goT ?_
            refine WO_call rfl (l1At_ret s [61] _ _ (by omega) (by decide) (by decide) (by omega)) ?_
            rintro _ w' ⟨rfl, rfl⟩
            cases h6 : atB s (p + 1) [61] with
            | false =>
              have hq : parS s (subS s d) p = ((0, 0, 0, 0, .nil, .nil), -1) := by unfold parS; rw [if_neg (by rw [h1]; decide), if_neg (by rw [h2]; decide), if_neg (by rw [h3]; decide), if_neg (by rw [h4]; decide), if_pos (.inr h6)]
              refine goT ?_
              refine WO_storeS (k := 6) (vs := [.int .i64 (0), .int .i64 (0), .int .i64 (0), .int .i64 (0), .slice none 0 0, .slice none 0 0]) rfl rfl rfl (by simp [Value.oneCell']) hr (by decide) fun wz hz oz => ?_
              replace hz : Blk wz w.heap.size [.int .i64 (0), .int .i64 (0), .int .i64 (0), .int .i64 (0), .slice none 0 0, .slice none 0 0] _ := hz
              refine goT ?_
              refine at_ret2G rfl (.cell inferInstance rfl hz rfl) (.tmp rfl) ?_
              rw [hq]
              exact ⟨_, rfl, NewSt.flat _ _ _ _ _ (e1.only oz (Nat.le_refl _))⟩
            | true =>
              have h56 : ¬ (varS s p < 0 ∨ atB s (p + 1) [61] = false) := by rintro (h | h); exact h5 h; rw [h6] at h; cases h
              refine goT ?_
              refine WO_call rfl (l1At_ret s wBox _ _ (by omega) (by decide) (by decide) (by omega)) ?_
              rintro _ w' ⟨rfl, rfl⟩
              cases h7 : atB s (p + 2) wBox with
              | true =>
                have hq : parS s (subS s d) p = ((2, varS s p, 0, digS s (p + 6), .nil, .nil), p + 7) := by unfold parS; rw [if_neg (by rw [h1]; decide), if_neg (by rw [h2]; decide), if_neg (by rw [h3]; decide), if_neg (by rw [h4]; decide), if_neg h56, if_pos h7]
                refine goT ?_
                refine WO_call rfl (l1Digit_ret s _ _ (by omega) (by omega)) ?_
                rintro _ w' ⟨rfl, rfl⟩
                refine goT ?_
                refine WO_storeS (k := 6) (vs := [.int .i64 (2), .int .i64 (varS s p), .int .i64 (0), .int .i64 (digS s (p + 6)), .slice none 0 0, .slice none 0 0]) rfl rfl rfl (by simp [Value.oneCell']) hr (by decide) fun wz hz oz => ?_
                replace hz : Blk wz w.heap.size [.int .i64 (2), .int .i64 (varS s p), .int .i64 (0), .int .i64 (digS s (p + 6)), .slice none 0 0, .slice none 0 0] _ := hz
                refine goT ?_
                refine at_ret2G rfl (.cell inferInstance rfl hz rfl) (.tmp rfl) ?_
                rw [hq]
                exact ⟨_, rfl, NewSt.flat _ _ _ _ _ (e1.only oz (Nat.le_refl _))⟩
              | false =>
                refine goT ?_
                refine WO_call rfl (l1At_ret s wMut _ _ (by omega) (by decide) (by decide) (by omega)) ?_
                rintro _ w' ⟨rfl, rfl⟩
                cases h8 : atB s (p + 2) wMut with
                | true =>
                  have hq : parS s (subS s d) p = ((5, varS s p, varS s (p + 7), 0, .nil, .nil), p + 8) := by unfold parS; rw [if_neg (by rw [h1]; decide), if_neg (by rw [h2]; decide), if_neg (by rw [h3]; decide), if_neg (by rw [h4]; decide), if_neg h56, if_neg (by rw [h7]; decide), if_pos h8]
                  refine goT ?_
                  refine WO_call rfl (l1Var_ret s _ _ (by omega) (by omega)) ?_
                  rintro _ w' ⟨rfl, rfl⟩
                  refine goT ?_
                  refine WO_storeS (k := 6) (vs := [.int .i64 (5), .int .i64 (varS s p), .int .i64 (varS s (p + 7)), .int .i64 (0), .slice none 0 0, .slice none 0 0]) rfl rfl rfl (by simp [Value.oneCell']) hr (by decide) fun wz hz oz => ?_
                  replace hz : Blk wz w.heap.size [.int .i64 (5), .int .i64 (varS s p), .int .i64 (varS s (p + 7)), .int .i64 (0), .slice none 0 0, .slice none 0 0] _ := hz
                  refine goT ?_
                  refine at_ret2G rfl (.cell inferInstance rfl hz rfl) (.tmp rfl) ?_
                  rw [hq]
                  exact ⟨_, rfl, NewSt.flat _ _ _ _ _ (e1.only oz (Nat.le_refl _))⟩
                | false =>
                  refine goT ?_
                  refine WO_call rfl (l1At_ret s [38] _ _ (by omega) (by decide) (by decide) (by omega)) ?_
                  rintro _ w' ⟨rfl, rfl⟩
                  cases h9 : atB s (p + 2) [38] with
                  | true =>
                    have hq : parS s (subS s d) p = ((4, varS s p, varS s (p + 3), 0, .nil, .nil), p + 4) := by unfold parS; rw [if_neg (by rw [h1]; decide), if_neg (by rw [h2]; decide), if_neg (by rw [h3]; decide), if_neg (by rw [h4]; decide), if_neg h56, if_neg (by rw [h7]; decide), if_neg (by rw [h8]; decide), if_pos h9]
                    refine goT ?_
                    refine WO_call rfl (l1Var_ret s _ _ (by omega) (by omega)) ?_
                    rintro _ w' ⟨rfl, rfl⟩
                    refine goT ?_
                    refine WO_storeS (k := 6) (vs := [.int .i64 (4), .int .i64 (varS s p), .int .i64 (varS s (p + 3)), .int .i64 (0), .slice none 0 0, .slice none 0 0]) rfl rfl rfl (by simp [Value.oneCell']) hr (by decide) fun wz hz oz => ?_
                    replace hz : Blk wz w.heap.size [.int .i64 (4), .int .i64 (varS s p), .int .i64 (varS s (p + 3)), .int .i64 (0), .slice none 0 0, .slice none 0 0] _ := hz
                    refine goT ?_
                    refine at_ret2G rfl (.cell inferInstance rfl hz rfl) (.tmp rfl) ?_
                    rw [hq]
                    exact ⟨_, rfl, NewSt.flat _ _ _ _ _ (e1.only oz (Nat.le_refl _))⟩
                  | false =>
                    refine goT ?_
                    refine WO_call rfl (l1At_ret s [42] _ _ (by omega) (by decide) (by decide) (by omega)) ?_
                    rintro _ w' ⟨rfl, rfl⟩
                    cases h10 : atB s (p + 2) [42] with
                    | true =>
                      have hq : parS s (subS s d) p = ((6, varS s p, varS s (p + 3), 0, .nil, .nil), p + 4) := by unfold parS; rw [if_neg (by rw [h1]; decide), if_neg (by rw [h2]; decide), if_neg (by rw [h3]; decide), if_neg (by rw [h4]; decide), if_neg h56, if_neg (by rw [h7]; decide), if_neg (by rw [h8]; decide), if_neg (by rw [h9]; decide), if_pos h10]
                      refine goT ?_
                      refine WO_call rfl (l1Var_ret s _ _ (by omega) (by omega)) ?_
                      rintro _ w' ⟨rfl, rfl⟩
                      refine goT ?_
                      refine WO_storeS (k := 6) (vs := [.int .i64 (6), .int .i64 (varS s p), .int .i64 (varS s (p + 3)), .int .i64 (0), .slice none 0 0, .slice none 0 0]) rfl rfl rfl (by simp [Value.oneCell']) hr (by decide) fun wz hz oz => ?_
                      replace hz : Blk wz w.heap.size [.int .i64 (6), .int .i64 (varS s p), .int .i64 (varS s (p + 3)), .int .i64 (0), .slice none 0 0, .slice none 0 0] _ := hz
                      refine goT ?_
                      refine at_ret2G rfl (.cell inferInstance rfl hz rfl) (.tmp rfl) ?_
                      rw [hq]
                      exact ⟨_, rfl, NewSt.flat _ _ _ _ _ (e1.only oz (Nat.le_refl _))⟩
                    | false =>
                      refine goT ?_
                      refine WO_call rfl (l1Digit_ret s _ _ (by omega) (by omega)) ?_
                      rintro _ w' ⟨rfl, rfl⟩
                      refine goT ?_
                      by_cases h11 : 0 ≤ digS s (p + 2)
                      · have hq : parS s (subS s d) p = ((1, varS s p, 0, digS s (p + 2), .nil, .nil), p + 3) := by unfold parS; rw [if_neg (by rw [h1]; decide), if_neg (by rw [h2]; decide), if_neg (by rw [h3]; decide), if_neg (by rw [h4]; decide), if_neg h56, if_neg (by rw [h7]; decide), if_neg (by rw [h8]; decide), if_neg (by rw [h9]; decide), if_neg (by rw [h10]; decide), if_pos h11]
                        rw [decide_eq_true (show digS s (p + 2) ≥ 0 from h11)]
                        refine goT ?_
                        refine WO_call rfl (l1Digit_ret s _ _ (by omega) (by omega)) ?_
                        rintro _ w' ⟨rfl, rfl⟩
                        refine goT ?_
                        refine WO_storeS (k := 6) (vs := [.int .i64 (1), .int .i64 (varS s p), .int .i64 (0), .int .i64 (digS s (p + 2)), .slice none 0 0, .slice none 0 0]) rfl rfl rfl (by simp [Value.oneCell']) hr (by decide) fun wz hz oz => ?_
                        replace hz : Blk wz w.heap.size [.int .i64 (1), .int .i64 (varS s p), .int .i64 (0), .int .i64 (digS s (p + 2)), .slice none 0 0, .slice none 0 0] _ := hz
                        refine goT ?_
                        refine at_ret2G rfl (.cell inferInstance rfl hz rfl) (.tmp rfl) ?_
                        rw [hq]
                        exact ⟨_, rfl, NewSt.flat _ _ _ _ _ (e1.only oz (Nat.le_refl _))⟩
                      · have hq : parS s (subS s d) p = ((3, varS s p, varS s (p + 2), 0, .nil, .nil), p + 3) := by unfold parS; rw [if_neg (by rw [h1]; decide), if_neg (by rw [h2]; decide), if_neg (by rw [h3]; decide), if_neg (by rw [h4]; decide), if_neg h56, if_neg (by rw [h7]; decide), if_neg (by rw [h8]; decide), if_neg (by rw [h9]; decide), if_neg (by rw [h10]; decide), if_neg h11]
                        rw [decide_eq_false (show ¬ digS s (p + 2) ≥ 0 from h11)]
                        refine goT ?_
                        refine WO_call rfl (l1Var_ret s _ _ (by omega) (by omega)) ?_
                        rintro _ w' ⟨rfl, rfl⟩
                        refine goT ?_
                        refine WO_storeS (k := 6) (vs := [.int .i64 (3), .int .i64 (varS s p), .int .i64 (varS s (p + 2)), .int .i64 (0), .slice none 0 0, .slice none 0 0]) rfl rfl rfl (by simp [Value.oneCell']) hr (by decide) fun wz hz oz => ?_
                        replace hz : Blk wz w.heap.size [.int .i64 (3), .int .i64 (varS s p), .int .i64 (varS s (p + 2)), .int .i64 (0), .slice none 0 0, .slice none 0 0] _ := hz
                        refine goT ?_
                        refine at_ret2G rfl (.cell inferInstance rfl hz rfl) (.tmp rfl) ?_
                        rw [hq]
                        exact ⟨_, rfl, NewSt.flat _ _ _ _ _ (e1.only oz (Nat.le_refl _))⟩
/-- What a list gives that goes on behind d. -/
def behind (d : Ss) (r : PR) : PR := if r.2 < 0 then (.nil, -1) else (d.app r.1, r.2)
theorem Ss.nil_app (l : Ss) : Ss.nil.app l = l := rfl
theorem l1ParseList_ret (d : Nat) (ih : ∀ d', d = d' + 1 → PlP d') (hd : d ≤ 1000) : PlP d := by
  intro s p w hs h0 hl
  refine enter Tryz.func29 rfl Tryz.ntmps29 rfl rfl ?_
  refine goT ?_
  refine WO_build0 (e := 59) (k := 6) fun w0 hb0 e0 z0 => ?_
  have hown0 := owns_empty (B := w.heap.size) (k := 6) hb0 (Nat.le_refl _)
  have hg0 : GrowS 59 .nil w (.slice (some ⟨w.heap.size, 0, none⟩) 0 0) w0 := ⟨⟨[], [], hown0, ⟨rfl, rfl⟩, by simp [Value.ownBlock], by simp [Value.ownBlock]⟩, e0⟩
  refine goT ?_
  by_cases h1 : p = s.length
  · have hq : lisS s d p = (.nil, p) := by rw [lisS_eq, if_pos (.inl h1)]
    rw [hq, show (p == (s.length : Int)) = true from by simp [h1]]
    refine goT ?_
    exact at_ret2 rfl rfl rfl ⟨_, rfl, hg0.new⟩
  · rw [show (p == (s.length : Int)) = false from by simp [h1]]
    refine goT ?_
    refine WO_call rfl (l1At_ret s [125] _ _ (by omega) (by decide) (by decide) (by omega)) ?_
    rintro _ w' ⟨rfl, rfl⟩
    cases h2 : atB s p [125] with
    | true =>
      have hq : lisS s d p = (.nil, p) := by rw [lisS_eq, if_pos (.inr h2)]
      rw [hq]
      refine goT ?_
      exact at_ret2 rfl rfl rfl ⟨_, rfl, hg0.new⟩
    | false =>
      have hq : lisS s d p = behind .nil (lopS s (parS s (subS s d)) (s.length + 1) p) := by
        rw [lisS_eq, if_neg (by rintro (h | h); exact h1 h; rw [h2] at h; cases h)]
        have := lopS_in (subS_in s d) (s.length + 1) p h0 hl
        unfold behind
        rcases this with ⟨h, h'⟩ | ⟨h, _⟩
        · rw [if_pos (by omega)]
          exact Prod.ext h' h
        · rw [if_neg (by omega), Ss.nil_app]
      refine goT ?_
      refine W_loop (α := Nat × Int × Ss × Value) (fun q => [(0, sV s), (1, .int .i64 q.2.1), (2, .int .i64 (d : Int)), (8, q.2.2.2)])
        (fun q w' => 0 ≤ q.2.1 ∧ q.2.1 ≤ s.length ∧ (s.length : Int) - q.2.1 < q.1 ∧ GrowS 59 q.2.2.1 w q.2.2.2 w' ∧ q.2.2.1.len + q.1 ≤ 1002 ∧ lisS s d p = behind q.2.2.1 (lopS s (parS s (subS s d)) q.1 q.2.1)) (fun q => q.1) (s.length + 1, p, .nil, _) (by repeat (first | exact True.intro | refine And.intro rfl ?_))
        ⟨h0, hl, by simp only; omega, hg0, by simp only [Ss.len]; omega, hq⟩ ?_
      clear hq
      rintro ⟨k, a, dl, v⟩ w1 ⟨ha0, hal, hk, hgr, hlen, hq⟩
      simp only at ha0 hal hk hgr hlen hq ⊢
      obtain ⟨k, rfl⟩ : ∃ k', k = k' + 1 := ⟨k - 1, by omega⟩
      have hpi := parS_in (subS_in s d) ha0 (s := s)
      have hpb : -1 ≤ (parS s (subS s d) a).2 ∧ (parS s (subS s d) a).2 ≤ 2000 := by rcases hpi with h | ⟨h, h', _⟩ <;> omega
      refine goT ?_
      rw [decide_eq_true (show a ≥ 0 from ha0)]
      refine goT ?_
      refine WO_call rfl (l1Parse_ret d ih s a w1 hs (by omega) hd) ?_
      rintro _ w2 ⟨_, rfl, vt, ve, Ft, Fe, rfl, q1, q2, nd, bd, e2⟩
      have on1 := q1.one
      have on2 := q2.one
      refine goT ?_
      refine WO_alloc fun w3 hb3 e3 z3 => ?_
      refine WO_storeS (k := 6) (vs := _) rfl rfl rfl (by intro u hu; simp [Value.cells] at hu; rcases hu with rfl | rfl | rfl | rfl | rfl | rfl <;> first | rfl | assumption) hb3 (by decide) fun w4 hb4 o4 => ?_
      replace hb4 : Blk w4 w2.heap.size [.int .i64 (parS s (subS s d) a).1.1, .int .i64 (parS s (subS s d) a).1.2.1, .int .i64 (parS s (subS s d) a).1.2.2.1, .int .i64 (parS s (subS s d) a).1.2.2.2.1, vt, ve] _ := hb4
      have e4 : Ext w2 w4 := e3.only o4 (Nat.le_refl _)
      have e14 : Ext w1 w4 := e2.trans e4
      replace q1 := q1.ext e4
      replace q2 := q2.ext e4
      obtain ⟨⟨xs, Fs, r1, r2, r3, r4⟩, he⟩ := hgr
      have r14 := ownsRow_ext r1 e14
      have r24 := StkS.ext e14 r2
      refine goT ?_
      refine WO_loadSB rfl hb4 rfl ?_
      refine WO_app1 (m := dl.len) (u := stV _ _ _ _ vt ve) rfl rfl (by intro v hv; simp [stV, Value.cells] at hv; rcases hv with rfl | rfl | rfl | rfl | rfl | rfl <;> first | rfl | assumption) rfl r14 (he.trans e14).size rfl (by omega) (by decide) fun v' w9 hown9 hg9 hat9 => ?_
      have hgr' : GrowS 59 (dl.snoc (parS s (subS s d) a).1.1 (parS s (subS s d) a).1.2.1 (parS s (subS s d) a).1.2.2.1 (parS s (subS s d) a).1.2.2.2.1 (parS s (subS s d) a).1.2.2.2.2.1 (parS s (subS s d) a).1.2.2.2.2.2) w v' w9 := by
        have s4 := e14.size_le
        have s24 := e4.size_le
        have s02 := he.size_le
        refine GrowS.step r14 r24 r3 r4 (he.trans e14) q1 q2 nd (fun x hx hm => ?_) (fun x hx => ?_) hown9 hg9 ?_
        · have h1 := bd x hx
          have h2 : x < w1.heap.size := by
            rcases List.mem_append.1 hm with hm | hm
            · exact (r1.lt x (by simpa using hm)).2
            · exact StkS.lt _ _ _ r2 x hm
          omega
        · have := bd x hx; omega
        · rcases hat9 with h7 | h7
          · exact .inl h7
          · exact .inr ⟨_, h7, by omega⟩
      clear r14 r24 r3 r4 r1 r2 hown9 hg9 hat9 hb4 hb3
      refine goT ?_
      by_cases hno : (parS s (subS s d) a).2 < 0
      · rw [lopS, if_pos (.inl hno)] at hq
        rw [hq, decide_eq_true hno]
        refine goT ?_
        exact at_ret2 rfl rfl rfl ⟨_, rfl, NewS.nil_ _ hgr'.2⟩
      · rw [decide_eq_false hno]
        refine goT ?_
        by_cases hno2 : (s.length : Int) < (parS s (subS s d) a).2
        · rw [lopS, if_pos (.inr hno2)] at hq
          rw [hq, decide_eq_true (show (parS s (subS s d) a).2 > (s.length : Int) from hno2)]
          refine goT ?_
          exact at_ret2 rfl rfl rfl ⟨_, rfl, NewS.nil_ _ hgr'.2⟩
        · rw [decide_eq_false (show ¬ (parS s (subS s d) a).2 > (s.length : Int) from hno2)]
          rw [lopS, if_neg (by omega)] at hq
          refine goT ?_
          refine WO_call rfl (l1At_ret s [59] _ _ (by omega) (by decide) (by decide) (by omega)) ?_
          rintro _ w' ⟨rfl, rfl⟩
          cases h3 : atB s (parS s (subS s d) a).2 [59] with
          | false =>
            rw [if_neg (by rw [h3]; decide)] at hq
            unfold behind at hq
            rw [if_neg (by omega)] at hq
            refine goT ?_
            rw [hq]
            exact at_ret2 rfl rfl rfl ⟨_, rfl, hgr'.new⟩
          | true =>
            rw [if_pos h3] at hq
            have hlt := atB_lt h3 (by decide)
            simp only [List.length_cons, List.length_nil] at hlt
            refine goT ?_
            refine at_loop (k, (parS s (subS s d) a).2 + 1, dl.snoc (parS s (subS s d) a).1.1 (parS s (subS s d) a).1.2.1 (parS s (subS s d) a).1.2.2.1 (parS s (subS s d) a).1.2.2.2.1 (parS s (subS s d) a).1.2.2.2.2.1 (parS s (subS s d) a).1.2.2.2.2.2, v') (by repeat (first | exact True.intro | refine And.intro rfl ?_))
              ⟨by first | omega | (simp only; omega), by first | omega | (simp only; omega), ?_, hgr', by rw [Ss.len_snoc]; omega, ?_⟩ (Nat.lt_succ_self _)
            · simp only
              rcases hpi with h | ⟨h, _⟩ <;> omega
            · rw [hq]
              simp only [behind, Ss.snoc_app]
              by_cases hz : (lopS s (parS s (subS s d)) k ((parS s (subS s d) a).2 + 1)).2 < 0
              · rw [if_pos hz, if_pos (by decide), if_pos hz]
              · rw [if_neg hz, if_neg hz, if_neg (by omega)]
                rfl
theorem l1ParseList_all : ∀ d : Nat, d ≤ 1000 → PlP d
  | 0, h => l1ParseList_ret 0 (fun _ h => by omega) h
  | d + 1, h => l1ParseList_ret (d + 1) (fun d' h' => by
    have hd : d' = d := by omega
    subst hd
    exact l1ParseList_all d' (by omega)) h
end Go.Proofs.YtplcmbipeanjdaaGreatDoor
namespace Go.Proofs.YtplcmbipeanjdaaGreatDoor
set_option linter.unusedVariables false
set_option linter.unusedSimpArgs false
set_option linter.unnecessarySimpa false
open Go.RowKit

def kindOf (b : UInt8) : Int := if b = 105 then 1 else if b = 98 then 2 else if b = 114 then 3 else if b = 109 then 4 else 0
def headLen (t : Tx) : Nat := t.findIdx (fun b => b == 58)
def headT (t : Tx) : List Int := (t.take (headLen t)).map kindOf
theorem headLen_le (t : Tx) : headLen t ≤ t.length := List.findIdx_le_length
theorem headLen_ne {t : Tx} {i : Nat} (h : i < headLen t) (hi : i < t.length) : t[i] ≠ 58 := by
  have := List.not_of_lt_findIdx h
  simpa using this
theorem headLen_at {t : Tx} (h : headLen t < t.length) : t[headLen t] = 58 := by
  have h2 : headLen t = t.findIdx (fun b => b == 58) := rfl
  have := List.findIdx_getElem (xs := t) (p := fun b => b == 58) (w := h)
  simp only [beq_iff_eq] at this
  exact this
def bodyT (t : Tx) : Tx := t.drop (headLen t + 1)
theorem okT_elem {tl : List Int} (h : okT tl = true) {a : Int} (ha : a ∈ tl) : 1 ≤ a ∧ a ≤ 4 := by
  obtain ⟨i, hi, rfl⟩ := List.getElem_of_mem ha
  exact okT_at h hi
theorem tyCh_ne (a : Int) : tyCh a ≠ 58 := by
  unfold tyCh
  split
  · decide
  · split
    · decide
    · split <;> decide
theorem kindOf_tyCh {a : Int} (h : 1 ≤ a ∧ a ≤ 4) : kindOf (tyCh a) = a := by
  have : a = 1 ∨ a = 2 ∨ a = 3 ∨ a = 4 := by omega
  rcases this with rfl | rfl | rfl | rfl <;> rfl
theorem headLen_prog (tl : List Int) (l : Ss) : headLen (progT tl l) = tl.length := by
  unfold headLen progT
  induction tl with
  | nil => rfl
  | cons a r ih =>
    rw [List.map_cons, List.cons_append, List.findIdx_cons, ih]
    have : (tyCh a == 58) = false := by simpa using tyCh_ne a
    rw [this]
    rfl
theorem headT_prog {tl : List Int} (h : okT tl = true) (l : Ss) : headT (progT tl l) = tl := by
  unfold headT
  rw [headLen_prog]
  have h1 : (progT tl l).take tl.length = tl.map tyCh := by
    unfold progT
    rw [List.take_append_of_le_length (by simp)]
    exact List.take_of_length_le (by simp)
  rw [h1, List.map_map]
  conv => rhs; rw [← List.map_id tl]
  exact List.map_congr_left fun a ha => kindOf_tyCh (okT_elem h ha)
theorem bodyT_prog (tl : List Int) (l : Ss) : bodyT (progT tl l) = lsT l := by
  unfold bodyT
  rw [headLen_prog]
  unfold progT
  rw [← List.drop_drop]
  have : (tl.map tyCh ++ 58 :: lsT l).drop tl.length = 58 :: lsT l := by
    rw [List.drop_append_of_le_length (by simp), List.drop_of_length_le (by simp)]
    rfl
  rw [this]
  rfl
theorem vp_parts {tl : List Int} {l : Ss} (h : validP tl l = true) : okT tl = true ∧ okL tl 4 l = true ∧ cntL l ≤ 30 := by
  unfold validP at h
  rw [Bool.and_eq_true, Bool.and_eq_true, decide_eq_true_eq] at h
  exact ⟨h.1, h.2.1, h.2.2⟩
/-- A text has one program at most. -/
theorem progT_inj {tl tl' : List Int} {l l' : Ss} (hv : validP tl l = true) (hv' : validP tl' l' = true) (h : progT tl l = progT tl' l') : tl = tl' ∧ l = l' := by
  obtain ⟨h1, h2, h3⟩ := vp_parts hv
  obtain ⟨h1', h2', h3'⟩ := vp_parts hv'
  have ht : tl = tl' := by rw [← headT_prog h1 l, h, headT_prog h1' l']
  have hb : lsT l = lsT l' := by rw [← bodyT_prog tl l, h, bodyT_prog]
  have hr := (read_all l 4 tl [] h2 (okT_len h1) (.inl rfl)).1
  have hr' := (read_all l' 4 tl' [] h2' (okT_len h1') (.inl rfl)).1
  rw [hb] at hr
  exact ⟨ht, congrArg Prod.fst (hr.symm.trans hr')⟩
end Go.Proofs.YtplcmbipeanjdaaGreatDoor
namespace Go.Proofs.YtplcmbipeanjdaaGreatDoor
set_option linter.unusedVariables false
set_option linter.unusedSimpArgs false
set_option linter.unnecessarySimpa false
open Go.RowKit

/-- The program that the reference reads from a text. -/
def parseS (t : Tx) : Option (List Int × Ss) :=
  if t.length > 600 ∨ headLen t = t.length then none
  else if (lisS t 4 ((headLen t : Int) + 1)).2 ≠ t.length then none
  else if validP (headT t) (lisS t 4 ((headLen t : Int) + 1)).1 = false then none
  else if progT (headT t) (lisS t 4 ((headLen t : Int) + 1)).1 ≠ t then none
  else some (headT t, (lisS t 4 ((headLen t : Int) + 1)).1)
def paT (o : Option (List Int × Ss)) : List Int := (o.map Prod.fst).getD []
def paL (o : Option (List Int × Ss)) : Ss := (o.map Prod.snd).getD .nil
/-- What a parser returns. -/
def ParR (e : TypeId) (o : Option (List Int × Ss)) (w : World) (r : Value) (w' : World) : Prop := PrB e (paT o) (paL o) o.isSome w r w'
theorem parseS_valid {t : Tx} {tl : List Int} {l : Ss} (h : parseS t = some (tl, l)) : validP tl l = true ∧ progT tl l = t ∧ t.length ≤ 600 := by
  unfold parseS at h
  split at h
  · cases h
  · split at h
    · cases h
    · split at h
      · cases h
      · split at h
        · cases h
        · rename_i h1 h2 h3 h4
          have h5 := Option.some.inj h
          have h6 : headT t = tl := congrArg Prod.fst h5
          have h7 : (lisS t 4 ((headLen t : Int) + 1)).1 = l := congrArg Prod.snd h5
          rw [h6, h7] at h3 h4
          exact ⟨by simpa using h3, Decidable.not_not.1 h4, by omega⟩
theorem PrB.mk {e : TypeId} {tl : List Int} {l : Ss} {b : Bool} {w w' : World} {tv bv : Value} {Ft Fb : List Nat} (h1 : OwnI w' tv tl Ft) (h2 : RowS e w' bv l Fb) (h3 : (Ft ++ Fb).Nodup) (h4 : ∀ b ∈ Ft ++ Fb, w.heap.size ≤ b) (he : Ext w w') : PrB e tl l b w (.tuple #[prV tv bv, .bool b]) w' := by
  obtain ⟨⟨tv', bv', hr, ho⟩, he⟩ := NewPr.mk (w1 := w) h1 h2 h3 h4 he
  have h5 : #[tv, bv] = #[tv', bv'] := by injection hr
  have h6 := congrArg Array.toList h5
  simp only [List.cons.injEq] at h6
  obtain ⟨rfl, rfl, _⟩ := h6
  exact ⟨_, _, rfl, ho, he⟩
theorem OwnP.nil_ (e : TypeId) (B U : Nat) (w : World) : OwnP e B U [] .nil w (.slice none 0 0) (.slice none 0 0) :=
  ⟨[], [], ⟨none, 0, rfl, ⟨by simp, Nat.le_refl _⟩, .inl ⟨rfl, rfl⟩⟩, RowS.nil_ _ _, by simp, by simp⟩
theorem ParR.none_ {e : TypeId} {w w' : World} (he : Ext w w') : ParR e none w (.tuple #[prV (.slice none 0 0) (.slice none 0 0), .bool false]) w' := ⟨_, _, rfl, OwnP.nil_ _ _ _ _, he⟩
theorem u8_eq {b : UInt8} {k : Nat} (hk : k < 256) : ((b.toNat : Int) == (k : Int)) = decide (b = UInt8.ofNat k) := by
  rw [Bool.eq_iff_iff, beq_iff_eq, decide_eq_true_eq]
  constructor
  · intro h
    apply UInt8.toNat_inj.1
    simp
    omega
  · rintro rfl
    simp
    omega
/-- What is known at the end of a round of the loop over the types' letters. -/
def TyIn (t : Tx) (i : Nat) (pb B : Nat) (e eP : TypeId) (w : World) (w' : World) : Prop := ∃ v, Blk w' pb [v, .slice none 0 0] eP ∧ w'.ownsRow B e 1 v i (((t.take i).map kindOf).map (.int .i64)) ∧ Ext w w'
theorem sParseProgram_ret (t : Tx) (w : World) (hsz : t.length ≤ 2000000) : Ret Tryz.prog 12 [sV t] w (ParR 59 (parseS t) w) := by
  refine enter Tryz.func12 rfl Tryz.ntmps12 rfl rfl ?_
  refine goT ?_
  refine WO_alloc fun w1 hr e1 z1 => ?_
  replace hr : Blk w1 w.heap.size [.slice none 0 0, .slice none 0 0] _ := hr
  refine goT ?_
  by_cases h600 : t.length > 600
  · have hq : parseS t = none := by unfold parseS; rw [if_pos (.inl h600)]
    rw [decide_eq_true (show (t.length : Int) > 600 by omega)]
    refine goT ?_
    refine WO_storeS (k := 2) (vs := [.slice none 0 0, .slice none 0 0]) rfl rfl rfl (by intro v hv; simp at hv; subst hv; rfl) hr (by decide) fun wz hz oz => ?_
    replace hz : Blk wz w.heap.size [.slice none 0 0, .slice none 0 0] _ := hz
    refine goT ?_
    exact at_ret2G rfl (.cell inferInstance rfl hz rfl) (.tmp rfl) (by rw [hq]; exact ParR.none_ (Ext.only e1 oz (Nat.le_refl _)))
  rw [decide_eq_false (show ¬ (t.length : Int) > 600 by omega)]
  refine goT ?_
  refine WO_alloc fun w2 hp e2 z2 => ?_
  replace hp : Blk w2 w1.heap.size [.slice none 0 0, .slice none 0 0] _ := hp
  refine goT ?_
  refine WO_storeS (k := 2) (vs := [.slice none 0 0, .slice none 0 0]) rfl rfl rfl (by intro v hv; simp at hv; subst hv; rfl) hp (by decide) fun w3 hp3 o3 => ?_
  replace hp3 : Blk w3 w1.heap.size [.slice none 0 0, .slice none 0 0] _ := hp3
  have e3 : Ext w1 w3 := e2.only o3 (Nat.le_refl _)
  have s3 := hp3.lt
  replace hr := hr.ext e3
  have e03 := e1.trans e3
  refine goT ?_
  have hle := headLen_le t
  refine W_loop (α := Nat) (fun i => [(0, sV t), (2, .pointer (some ⟨w.heap.size, 0, none⟩)), (4, .pointer (some ⟨w1.heap.size, 0, none⟩)), (5, .int .i64 (i : Int))])
    (fun i w' => i ≤ headLen t ∧ TyIn t i w1.heap.size w3.heap.size 3 26 w w' ∧ Blk w' w.heap.size [.slice none 0 0, .slice none 0 0] 26 ∧ w3.heap.size ≤ w'.heap.size) (fun i => t.length - i) 0 (by repeat (first | exact True.intro | refine And.intro rfl ?_))
    ⟨Nat.zero_le _, ⟨_, hp3, World.ownsRow_nil _ _ _ _, e03⟩, hr, Nat.le_refl _⟩ ?_
  rintro i w4 ⟨hi, ⟨v, hb, hrow, he⟩, hr4, hs4⟩
  refine goT ?_
  by_cases hlt : i < t.length
  · rw [decide_eq_true (show (i : Int) < (t.length : Int) by omega)]
    refine goT ?_
    refine Z13 (q_strAt (j := i) rfl rfl rfl hlt) ?_
    refine goT ?_
    rw [show ((((t[i].toNat : Nat) : Int)) != 58) = !decide (t[i] = UInt8.ofNat 58) from congrArg Bool.not (u8_eq (b := t[i]) (k := 58) (by decide))]
    by_cases h58 : t[i] = 58
    · have hii : i = headLen t := by
        rcases Nat.lt_or_ge i (headLen t) with h | h
        · exact absurd h58 (headLen_ne h hlt)
        · omega
      subst hii
      rw [decide_eq_true (show t[headLen t] = UInt8.ofNat 58 from h58)]
      have hone := row_one (ownsRow_base0 hrow)
      refine goT ?_
      rw [show (((headLen t : Nat) : Int) == (t.length : Int)) = false from by simp; omega]
      refine goT ?_
      refine WO_call rfl (l1ParseList_all 4 (by decide) t ((headLen t : Int) + 1) w4 (by omega) (by omega) (by omega)) ?_
      rintro _ w5 ⟨bv, rfl, ⟨G, q1, n1, b1⟩, e5⟩
      have hin := lisS_in t 4 ((headLen t : Int) + 1) (by omega) (by omega)
      have hlr := row_one (ownsRow_base0 hrow)
      have hrow5 := ownsRow_ext hrow e5
      have honeB := q1.one
      refine goT ?_
      refine WO_store1 rfl rfl honeB (hb.ext e5) (by simp) fun w6 hb6 o6 => ?_
      simp only [List.set_cons_zero, List.set_cons_succ] at hb6
      have hvp : v.ownBlock ≠ some w1.heap.size := by
        intro h
        have := (hrow.lt _ h).1
        omega
      have hs1 := e1.size_le
      have hpl := hb.lt
      have e6 : Ext w w6 := (he.trans e5).only o6 hs1
      have hrow6 := ownsRow_only hrow5 o6 hvp
      have hr6 := (hr4.ext e5).only o6 (by have := hr.lt; omega)
      have q6 := q1.chg o6.chg (fun z hz hm => by simp only [List.mem_singleton] at hm; subst hm; have := b1 _ hz; omega)
      have hTl : (headT t).length = headLen t := by unfold headT; simp; omega
      replace hrow6 : w6.ownsRow w3.heap.size 3 1 v (headT t).length ((headT t).map (.int .i64)) := by rw [hTl]; exact hrow6
      obtain ⟨Ft, hF, hFb, hFv⟩ := OwnI.of_row hrow6 rfl (by rw [hTl]; unfold maxI; omega)
      refine goT ?_
      by_cases hn1 : (lisS t 4 ((headLen t : Int) + 1)).2 = t.length
      · have hcnt : cntL (lisS t 4 ((headLen t : Int) + 1)).1 ≤ 600 := by rcases hin with ⟨h, _⟩ | ⟨_, _, h⟩ <;> omega
        rw [show ((lisS t 4 ((headLen t : Int) + 1)).2 != (t.length : Int)) = false from by simp [hn1]]
        refine goT ?_
        refine WO_loadSB rfl hb6 rfl ?_
        refine goT ?_
        refine WO_call rfl (sProgramValid_ret v bv (headT t) (lisS t 4 ((headLen t : Int) + 1)).1 _ _ w6 hF.int q6.sts (by omega)) ?_
        rintro _ w7 ⟨rfl, e7⟩
        replace hb6 := hb6.ext e7
        replace hr6 := hr6.ext e7
        cases hvd : validP (headT t) (lisS t 4 ((headLen t : Int) + 1)).1 with
        | false =>
          have hq : parseS t = none := by unfold parseS; rw [if_neg (by omega), if_neg (by simp [hn1]), if_pos hvd]
          refine goT ?_
          refine WO_storeS (k := 2) (vs := [.slice none 0 0, .slice none 0 0]) rfl rfl rfl (by intro v hv; simp at hv; subst hv; rfl) hr6 (by decide) fun wz hz oz => ?_
          replace hz : Blk wz w.heap.size [.slice none 0 0, .slice none 0 0] _ := hz
          refine goT ?_
          exact at_ret2G rfl (.cell inferInstance rfl hz rfl) (.tmp rfl) (by rw [hq]; exact ParR.none_ (Ext.only (e6.trans e7) oz (Nat.le_refl _)))
        | true =>
          refine goT ?_
          refine WO_loadSB rfl hb6 rfl ?_
          refine goT ?_
          refine WO_call rfl (l1Program_ret v bv (headT t) (lisS t 4 ((headLen t : Int) + 1)).1 _ _ w7 (hF.int.ext e7) (q6.sts.ext e7) hvd) ?_
          rintro _ w8 ⟨rfl, e8⟩
          replace hb6 := hb6.ext e8
          replace hr6 := hr6.ext e8
          refine goT ?_
          by_cases hpt : progT (headT t) (lisS t 4 ((headLen t : Int) + 1)).1 = t
          · have hq : parseS t = some (headT t, (lisS t 4 ((headLen t : Int) + 1)).1) := by unfold parseS; rw [if_neg (by omega), if_neg (by simp [hn1]), if_neg (by rw [hvd]; decide), if_neg (by simp [hpt])]
            rw [decide_eq_true hpt]
            refine goT ?_
            refine WO_loadSB rfl hb6 rfl ?_
            refine WO_storeS (k := 2) (vs := [v, bv]) rfl rfl rfl (by simp; exact ⟨hone, honeB⟩) hr6 (by decide) fun wz hz oz => ?_
            replace hz : Blk wz w.heap.size [v, bv] _ := hz
            have hrl := hr.lt
            refine goT ?_
            refine at_ret2G rfl (.cell inferInstance rfl hz rfl) (.tmp rfl) ?_
            rw [hq]
            have s3e := e03.size_le
            have s4e := e5.size_le
            have s5e := e5.size_le
            refine PrB.mk (Ft := Ft) (Fb := G) (((hF.ext e7).ext e8).chg oz.chg (fun z hz hm => ?_)) (((q6.ext e7).ext e8).chg oz.chg (fun z hz hm => ?_)) ?_ ?_ (((e6.trans e7).trans e8).only oz (Nat.le_refl _))
            · simp only [List.mem_singleton] at hm; subst hm; have := hFb _ hz; have := e1.size_le; omega
            · simp only [List.mem_singleton] at hm; subst hm; have := b1 _ hz; have := hr4.lt; omega
            · refine List.nodup_append.2 ⟨hF.nodup, n1, fun a ha b hb e => ?_⟩
              subst e
              have h1 := b1 a hb
              rw [hFv] at ha
              have := (hrow.lt a (by simpa using ha)).2
              omega
            · intro b hb
              rcases List.mem_append.1 hb with hb | hb
              · have := hFb b hb; omega
              · have := b1 b hb; have := hr4.lt; omega
          · have hq : parseS t = none := by unfold parseS; rw [if_neg (by omega), if_neg (by simp [hn1]), if_neg (by rw [hvd]; decide), if_pos hpt]
            rw [decide_eq_false hpt]
            refine goT ?_
            refine WO_storeS (k := 2) (vs := [.slice none 0 0, .slice none 0 0]) rfl rfl rfl (by intro v hv; simp at hv; subst hv; rfl) hr6 (by decide) fun wz hz oz => ?_
            replace hz : Blk wz w.heap.size [.slice none 0 0, .slice none 0 0] _ := hz
            refine goT ?_
            exact at_ret2G rfl (.cell inferInstance rfl hz rfl) (.tmp rfl) (by rw [hq]; exact ParR.none_ (Ext.only ((e6.trans e7).trans e8) oz (Nat.le_refl _)))
      · have hq : parseS t = none := by unfold parseS; rw [if_neg (by omega), if_pos hn1]
        rw [show ((lisS t 4 ((headLen t : Int) + 1)).2 != (t.length : Int)) = true from by simp [hn1]]
        refine goT ?_
        refine WO_storeS (k := 2) (vs := [.slice none 0 0, .slice none 0 0]) rfl rfl rfl (by intro v hv; simp at hv; subst hv; rfl) hr6 (by decide) fun wz hz oz => ?_
        replace hz : Blk wz w.heap.size [.slice none 0 0, .slice none 0 0] _ := hz
        refine goT ?_
        exact at_ret2G rfl (.cell inferInstance rfl hz rfl) (.tmp rfl) (by rw [hq]; exact ParR.none_ (Ext.only e6 oz (Nat.le_refl _)))
    · have hih : i < headLen t := by
        rcases Nat.lt_or_ge i (headLen t) with h | h
        · exact h
        · have : i = headLen t := by omega
          subst this
          exact absurd (headLen_at hlt) h58
      rw [decide_eq_false (show ¬ t[i] = UInt8.ofNat 58 from h58)]
      refine goT ?_
      refine Z13 (q_strAt (j := i) rfl rfl rfl hlt) ?_
      refine goT ?_
      refine W_cut [(0, sV t), (2, .pointer (some ⟨w.heap.size, 0, none⟩)), (4, .pointer (some ⟨w1.heap.size, 0, none⟩)), (5, .int .i64 (i : Int)), (6, .int .i64 (kindOf t[i]))] (fun w' => w' = w4) ?_ (fun w' hw => ?_)
      · refine goT ?_
        rw [show (((t[i].toNat : Nat) : Int) == 105) = decide (t[i] = UInt8.ofNat 105) from u8_eq (b := t[i]) (k := 105) (by decide)]
        by_cases h1 : t[i] = 105
        · rw [decide_eq_true (show t[i] = UInt8.ofNat 105 from h1), show kindOf t[i] = 1 from by unfold kindOf; rw [if_pos h1]]
          refine goT ?_
          exact at_meets (by repeat (first | exact True.intro | refine And.intro rfl ?_)) rfl
        · rw [decide_eq_false (show ¬ t[i] = UInt8.ofNat 105 from h1)]
          refine goT ?_
          rw [show (((t[i].toNat : Nat) : Int) == 98) = decide (t[i] = UInt8.ofNat 98) from u8_eq (b := t[i]) (k := 98) (by decide)]
          by_cases h2 : t[i] = 98
          · rw [decide_eq_true (show t[i] = UInt8.ofNat 98 from h2), show kindOf t[i] = 2 from by unfold kindOf; rw [if_neg h1, if_pos h2]]
            refine goT ?_
            exact at_meets (by repeat (first | exact True.intro | refine And.intro rfl ?_)) rfl
          · rw [decide_eq_false (show ¬ t[i] = UInt8.ofNat 98 from h2)]
            refine goT ?_
            rw [show (((t[i].toNat : Nat) : Int) == 114) = decide (t[i] = UInt8.ofNat 114) from u8_eq (b := t[i]) (k := 114) (by decide)]
            by_cases h3 : t[i] = 114
            · rw [decide_eq_true (show t[i] = UInt8.ofNat 114 from h3), show kindOf t[i] = 3 from by unfold kindOf; rw [if_neg h1, if_neg h2, if_pos h3]]
              refine goT ?_
              exact at_meets (by repeat (first | exact True.intro | refine And.intro rfl ?_)) rfl
            · rw [decide_eq_false (show ¬ t[i] = UInt8.ofNat 114 from h3)]
              refine goT ?_
              rw [show (((t[i].toNat : Nat) : Int) == 109) = decide (t[i] = UInt8.ofNat 109) from u8_eq (b := t[i]) (k := 109) (by decide)]
              by_cases h4 : t[i] = 109
              · rw [decide_eq_true (show t[i] = UInt8.ofNat 109 from h4), show kindOf t[i] = 4 from by unfold kindOf; rw [if_neg h1, if_neg h2, if_neg h3, if_pos h4]]
                refine goT ?_
                exact at_meets (by repeat (first | exact True.intro | refine And.intro rfl ?_)) rfl
              · rw [decide_eq_false (show ¬ t[i] = UInt8.ofNat 109 from h4), show kindOf t[i] = 0 from by unfold kindOf; rw [if_neg h1, if_neg h2, if_neg h3, if_neg h4]]
                refine goT ?_
                exact at_meets (by repeat (first | exact True.intro | refine And.intro rfl ?_)) rfl
      · cases hw
        have hone := row_one (ownsRow_base0 hrow)
        have hvp : v.ownBlock ≠ some w1.heap.size := by
          intro h
          have := (hrow.lt _ h).1
          omega
        refine goT ?_
        refine WO_app1 (m := i) (u := .int .i64 (kindOf t[i])) rfl rfl (by intro v hv; simp [Value.cells] at hv; subst hv; rfl) rfl hrow hs4 rfl (by omega) (by decide) fun v' w5 hrow5 hg5 hat5 => ?_
        have hb5 := hb.grown hg5 (fun e => hvp e.symm)
        have hr5 := hr4.grown hg5 (fun e => by have := (hrow.lt _ e.symm).1; have := hr.lt; omega)
        have he5 := ext_grown he hg5 (fun k hk => by have := (hrow.lt _ hk).1; have := e03.size_le; omega)
        have hone5 := row_one (ownsRow_base0 hrow5)
        have s5 := hg5.size
        refine goT ?_
        refine WO_store1 rfl rfl hone5 hb5 (by simp) fun w6 hb6 o6 => ?_
        simp only [List.set_cons_zero] at hb6
        have hvp' : v'.ownBlock ≠ some w1.heap.size := by
          rcases hat5 with h | h
          · rw [h]; exact hvp
          · rw [h]; intro h'; have := Option.some.inj h'; omega
        have s6 := o6.size
        have hsn : ((t.take i).map kindOf).map (Value.int .i64) ++ (Value.int .i64 (kindOf t[i])).cells.toList = ((t.take (i + 1)).map kindOf).map (Value.int .i64) := by
          rw [List.take_succ_eq_append_getElem hlt, List.map_append, List.map_append]
          rfl
        rw [hsn] at hrow5
        have hs1 := e1.size_le
        refine goT ?_
        exact at_loop (i + 1) (by repeat (first | exact True.intro | refine And.intro rfl ?_)) ⟨hih, ⟨v', hb6, ownsRow_only hrow5 o6 hvp', he5.only o6 hs1⟩, hr5.only o6 (by have := hr.lt; omega), by omega⟩ (by omega)
  · rw [decide_eq_false (show ¬ (i : Int) < (t.length : Int) by omega)]
    have hii : i = headLen t := by omega
    have hend : headLen t = t.length := by omega
    subst hii
    have hq : parseS t = none := by unfold parseS; rw [if_pos (.inr hend)]
    refine goT ?_
    rw [show (((headLen t : Nat) : Int) == (t.length : Int)) = true from by simp [hend]]
    refine goT ?_
    refine WO_storeS (k := 2) (vs := [.slice none 0 0, .slice none 0 0]) rfl rfl rfl (by intro v hv; simp at hv; subst hv; rfl) hr4 (by decide) fun wz hz oz => ?_
    replace hz : Blk wz w.heap.size [.slice none 0 0, .slice none 0 0] _ := hz
    refine goT ?_
    exact at_ret2G rfl (.cell inferInstance rfl hz rfl) (.tmp rfl) (by rw [hq]; exact ParR.none_ (Ext.only he oz (Nat.le_refl _)))
end Go.Proofs.YtplcmbipeanjdaaGreatDoor
