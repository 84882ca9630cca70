/-
  What is proved here: what the reference's source of drawn numbers (l17Open, pick, num) returns: numbers in range, and a position that goes up by one.
-/
import Derived.Test.YtnfapbghkmodeaaDoorData
namespace Go.Proofs.YtnfapbghkmodeaaDoor
set_option linter.unusedVariables false
set_option linter.unusedSimpArgs false
set_option linter.unnecessarySimpa false
open Go.RowKit

/-- A slice of bytes, whatever they are, outside block rb. -/
def ByS (w : World) (v : Value) (rb : Nat) : Prop :=
  ∃ A n c, v = .slice A n c ∧ n ≤ c ∧ n ≤ 9223372036854775807 ∧ (n = 0 ∨ ∃ b o, A = some ⟨b, o, none⟩ ∧ b < rb ∧ ∀ i, i < n → ∃ x : Nat, x < 256 ∧ w.cell? ⟨b, o + i * 1, none⟩ = some (.int .u8 (x : Int)))
/-- A slice of bytes, whatever they are. -/
def ByD (w : World) (v : Value) : Prop :=
  ∃ A n c, v = .slice A n c ∧ n ≤ c ∧ n ≤ 9223372036854775807 ∧ (n = 0 ∨ ∃ b o, A = some ⟨b, o, none⟩ ∧ ∀ i, i < n → ∃ x : Nat, x < 256 ∧ w.cell? ⟨b, o + i * 1, none⟩ = some (.int .u8 (x : Int)))
theorem ByD.ext {w w' : World} {v : Value} (h : ByD w v) (he : Ext w w') : ByD w' v := by
  obtain ⟨A, n, c, rfl, hc, hn, h | ⟨b, o, rfl, hx⟩⟩ := h
  · exact ⟨A, n, c, rfl, hc, hn, .inl h⟩
  · refine ⟨_, n, c, rfl, hc, hn, .inr ⟨b, o, rfl, fun i hi => ?_⟩⟩
    obtain ⟨x, h1, h2⟩ := hx i hi
    exact ⟨x, h1, cell_ext h2 he⟩
theorem ByD.bys {w : World} {v : Value} (h : ByD w v) : ByS w v w.heap.size := by
  obtain ⟨A, n, c, rfl, hc, hn, h | ⟨b, o, rfl, hx⟩⟩ := h
  · exact ⟨A, n, c, rfl, hc, hn, .inl h⟩
  · rcases Nat.eq_zero_or_pos n with h0 | h0
    · exact ⟨_, n, c, rfl, hc, hn, .inl h0⟩
    · refine ⟨_, n, c, rfl, hc, hn, .inr ⟨b, o, rfl, ?_, hx⟩⟩
      obtain ⟨x, _, h2⟩ := hx 0 h0
      have := World.block_lt_of_cell? w _ h2
      simp only at this
      omega

/-- Block rb is a source of drawn numbers at position p. -/
def RdB (w : World) (rb p : Nat) : Prop := ∃ bv t, Blk w rb [bv, .int .i64 (p : Int)] t ∧ ByS w bv rb
theorem ByS.chg {w w' : World} {v : Value} {rb : Nat} {G : List Nat} (h : ByS w v rb) (k : Chg G w w') (hG : ∀ x ∈ G, rb ≤ x) : ByS w' v rb := by
  obtain ⟨A, n, c, rfl, hc, hn, h | ⟨b, o, rfl, hb, hx⟩⟩ := h
  · exact ⟨A, n, c, rfl, hc, hn, .inl h⟩
  · rcases Nat.eq_zero_or_pos n with h0 | h0
    · exact ⟨_, n, c, rfl, hc, hn, .inl h0⟩
    · refine ⟨_, n, c, rfl, hc, hn, .inr ⟨b, o, rfl, hb, fun i hi => ?_⟩⟩
      obtain ⟨x, h1, h2⟩ := hx i hi
      refine ⟨x, h1, cell_chg h2 k fun hm => ?_⟩
      have := hG _ hm
      simp only at this
      omega
theorem RdB.ext {w w' : World} {rb p : Nat} (h : RdB w rb p) (he : Ext w w') : RdB w' rb p := by
  obtain ⟨bv, t, hb, hy⟩ := h
  exact ⟨bv, t, hb.ext he, hy.chg (he.chg []) (by simp)⟩
theorem RdB.lt {w : World} {rb p : Nat} (h : RdB w rb p) : rb < w.heap.size := by
  obtain ⟨bv, t, hb, _⟩ := h
  exact hb.lt

theorem l17Open_ret (v : Value) (w : World) (hd : ByD w v) : Ret Tryd.prog 38 [v] w fun r w' => ∃ rb, r = .pointer (some ⟨rb, 0, none⟩) ∧ w.heap.size ≤ rb ∧ RdB w' rb 0 ∧ Ext w w' := by
  have h0 := hd.bys
  have h := h0
  obtain ⟨A, n, c, rfl, hc, hn, hx⟩ := h
  have fin : ∀ w' u t, Blk w' w.heap.size [u, .int .i64 0] t → Ext w w' → ByS w u w.heap.size → ∃ rb, Value.pointer (some ⟨w.heap.size, 0, none⟩) = .pointer (some ⟨rb, 0, none⟩) ∧ w.heap.size ≤ rb ∧ RdB w' rb 0 ∧ Ext w w' :=
    fun w' u t hb he hu => ⟨_, rfl, Nat.le_refl _, ⟨u, t, hb, hu.chg (he.chg []) (by simp)⟩, he⟩
  refine enter Tryd.func38 rfl Tryd.ntmps38 rfl rfl ?_
  refine goS ?_
  refine Z52 rfl (fun hc' => ?_) (fun hc' => ?_)
  · have hgt : 2000 < n := by simp at hc'; omega
    refine goS ?_
    refine Z13 (q_slTo (h := 2000) rfl rfl rfl (by omega)) ?_
    refine goS ?_
    refine WO_box rfl fun w1 hb he hz => ?_
    refine goS ?_
    refine at_ret1 rfl rfl (fin w1 _ _ hb he ⟨A, 2000, c, rfl, by omega, by omega, ?_⟩)
    rcases hx with hx | ⟨b, o, h1, h2, h3⟩
    · omega
    · exact .inr ⟨b, o, h1, h2, fun i hi => h3 i (by omega)⟩
  · refine goS ?_
    refine WO_box rfl fun w1 hb he hz => ?_
    refine goS ?_
    exact at_ret1 rfl rfl (fin w1 _ _ hb he h0)
theorem pick_ret (rb p : Nat) (n : Int) (w : World) (h : RdB w rb p) (hp : p ≤ 1000000000000) :
    Ret Tryd.prog 40 [.pointer (some ⟨rb, 0, none⟩), .int .i64 n] w fun v w' => ∃ k : Nat, v = .int .i64 (k : Int) ∧ (1 ≤ n → (k : Int) < n) ∧ (n < 1 → k = 0) ∧ RdB w' rb (p + 1) ∧ Chg [rb] w w' := by
  obtain ⟨bv, t, hb, hy⟩ := h
  refine enter Tryd.func40 rfl Tryd.ntmps40 rfl rfl ?_
  refine goS ?_
  refine WO_store1 rfl rfl rfl hb (by simp) fun w1 hb1 ho => ?_
  simp only [List.set_cons_succ, List.set_cons_zero] at hb1
  have hy1 := hy.chg ho.chg (by simp)
  clear hb hy
  have hr1 : ∀ w', Ext w1 w' → RdB w' rb (p + 1) ∧ Chg [rb] w w' := fun w' he => ⟨⟨bv, t, hb1.ext he, hy1.chg (he.chg []) (by simp)⟩, ho.chg.trans (he.chg _)⟩
  by_cases hn : n < 1
  · refine goS ?_
    refine Z51 rfl rfl (fun c' hc' => ?_)
    have : c' = true := by rw [← hc']; simpa using hn
    subst this
    refine goS ?_
    exact at_ret1 rfl rfl ⟨0, rfl, by omega, by omega, hr1 w1 (Ext.refl _)⟩
  · refine goS ?_
    refine Z51 rfl rfl (fun c' hc' => ?_)
    have : c' = false := by rw [← hc']; simpa using hn
    subst this
    obtain ⟨A, m, c, rfl, hc, hm, hx⟩ := hy1
    refine goS ?_
    by_cases hm0 : m = 0
    · refine Z49 rfl (by simp [hm0]) ?_
      refine goS ?_
      exact at_ret1 rfl rfl ⟨0, rfl, by omega, by omega, hr1 w1 (Ext.refl _)⟩
    · refine Z50 rfl (by simp; omega) ?_
      replace hx := hx.resolve_left hm0
      obtain ⟨b, o, rfl, hbr, hx⟩ := hx
      refine goS ?_
      simp only [Int.add_sub_cancel]
      refine Z52 rfl (fun hc => ?_) (fun hc => ?_)
      · have hlt : p < m := by simp at hc; omega
        obtain ⟨x, hx1, hx2⟩ := hx p hlt
        refine goS ?_
        refine Z83 rfl rfl rfl hlt ?_
        refine goS ?_
        refine at_ret1 rfl rfl ⟨((x : Int) % n).toNat, ?_, ?_, by omega, hr1 w1 (Ext.refl _)⟩
        · have := Int.emod_nonneg (x : Int) (show n ≠ 0 by omega)
          rw [Int.toNat_of_nonneg this]
        · intro h1
          have := Int.emod_nonneg (x : Int) (show n ≠ 0 by omega)
          have := Int.emod_lt_of_pos (x : Int) (show 0 < n by omega)
          omega
      · have hpos : 0 < m := by omega
        obtain ⟨x, hx1, hx2⟩ := hx (p % m) (Nat.mod_lt _ hpos)
        obtain ⟨y, hy1, hy2⟩ := hx ((p * 7 + 3) % m) (Nat.mod_lt _ hpos)
        have hd : (0 : Int) ≤ (p : Int) / (m : Int) ∧ (p : Int) / (m : Int) ≤ (p : Int) := ⟨Int.ediv_nonneg (by omega) (by omega), Int.ediv_le_self _ (by omega)⟩
        refine goS ?_
        refine Z54 (by kernel_rfl) (by kernel_rfl) ?_; repeat' (first | refine Z55 (Z56 rfl) ?_ | (refine Z57 ?_; first | refine Z58 rfl rfl (by decide) ?_ | refine Z59 rfl rfl (by decide) ?_ | refine Z60 rfl rfl ?_ | ((refine Z61 rfl rfl (fun c' hc' => ?_)); cases c' <;> (try simp only [decide_eq_true_eq, decide_eq_false_iff_not, beq_iff_eq, beq_eq_false_iff_ne, bne_iff_ne, bne_eq_false_iff_eq, ne_eq, gt_iff_lt, ge_iff_le, Int.not_lt, Int.not_le, Bool.not_eq_true', Bool.not_eq_false', Bool.not_true, Bool.not_false, reduceCtorEq, Decidable.not_not, not_true_eq_false, Bool.true_eq_false, Bool.false_eq_true] at hc') <;> (try (exfalso; omega)))) | (refine Z62 ?_; first | refine Z55 (Z63 rfl rfl) ?_ | refine Z55 (Z64 rfl rfl) ?_) | (refine Z65 ?_; first | refine Z55 (Z66 rfl (by assumption) (by rfl)) ?_ | refine Z55 (Z67 rfl (by assumption)) ?_) | (refine Z68 ?_; refine Z55 (Z69 rfl rfl rfl (by omega)) ?_) | (refine Z70 ?_; first | refine Z55 (Z14 rfl (by decide) rfl) ?_ | refine Z55 (Z15 rfl (by decide) rfl) ?_) | (refine Z71 ?_; first | refine Z55 (Z72 rfl) ?_ | refine Z55 (Z73 rfl) ?_) | (refine Z74 ?_; first | refine Z55 (Z75 rfl rfl (by omega)) ?_ | refine Z55 (Z76 rfl rfl (by omega)) ?_ | refine Z55 (Z77 rfl rfl (by omega)) ?_ | refine Z55 (Z78 rfl rfl (by omega) (by omega)) ?_ | refine Z55 (Z79 rfl rfl (by omega) (by omega) (by omega)) ?_ | refine Z55 (Z25 rfl rfl) ?_ | refine Z55 (Z26 rfl rfl) ?_) | (refine Z80 ?_; refine Z55 (Z28 rfl (Z53 ⟨by omega, by omega⟩)) ?_) | refine Z81 fun w' hw' => ?_)
        refine Z55 (Z69 (j := p % m) rfl rfl (by push_cast; rfl) (Nat.mod_lt _ hpos)) ?_
        repeat' (first | refine Z55 (Z56 rfl) ?_ | (refine Z57 ?_; first | refine Z58 rfl rfl (by decide) ?_ | refine Z59 rfl rfl (by decide) ?_ | refine Z60 rfl rfl ?_ | ((refine Z61 rfl rfl (fun c' hc' => ?_)); cases c' <;> (try simp only [decide_eq_true_eq, decide_eq_false_iff_not, beq_iff_eq, beq_eq_false_iff_ne, bne_iff_ne, bne_eq_false_iff_eq, ne_eq, gt_iff_lt, ge_iff_le, Int.not_lt, Int.not_le, Bool.not_eq_true', Bool.not_eq_false', Bool.not_true, Bool.not_false, reduceCtorEq, Decidable.not_not, not_true_eq_false, Bool.true_eq_false, Bool.false_eq_true] at hc') <;> (try (exfalso; omega)))) | (refine Z62 ?_; first | refine Z55 (Z63 rfl rfl) ?_ | refine Z55 (Z64 rfl rfl) ?_) | (refine Z65 ?_; first | refine Z55 (Z66 rfl (by assumption) (by rfl)) ?_ | refine Z55 (Z67 rfl (by assumption)) ?_) | (refine Z68 ?_; refine Z55 (Z69 rfl rfl rfl (by omega)) ?_) | (refine Z70 ?_; first | refine Z55 (Z14 rfl (by decide) rfl) ?_ | refine Z55 (Z15 rfl (by decide) rfl) ?_) | (refine Z71 ?_; first | refine Z55 (Z72 rfl) ?_ | refine Z55 (Z73 rfl) ?_) | (refine Z74 ?_; first | refine Z55 (Z75 rfl rfl (by omega)) ?_ | refine Z55 (Z76 rfl rfl (by omega)) ?_ | refine Z55 (Z77 rfl rfl (by omega)) ?_ | refine Z55 (Z78 rfl rfl (by omega) (by omega)) ?_ | refine Z55 (Z79 rfl rfl (by omega) (by omega) (by omega)) ?_ | refine Z55 (Z25 rfl rfl) ?_ | refine Z55 (Z26 rfl rfl) ?_) | (refine Z80 ?_; refine Z55 (Z28 rfl (Z53 ⟨by omega, by omega⟩)) ?_) | refine Z81 fun w' hw' => ?_)
        refine Z55 (Z69 (j := (p * 7 + 3) % m) rfl rfl (by push_cast; rfl) (Nat.mod_lt _ hpos)) ?_
        repeat' (first | refine Z55 (Z56 rfl) ?_ | (refine Z57 ?_; first | refine Z58 rfl rfl (by decide) ?_ | refine Z59 rfl rfl (by decide) ?_ | refine Z60 rfl rfl ?_ | ((refine Z61 rfl rfl (fun c' hc' => ?_)); cases c' <;> (try simp only [decide_eq_true_eq, decide_eq_false_iff_not, beq_iff_eq, beq_eq_false_iff_ne, bne_iff_ne, bne_eq_false_iff_eq, ne_eq, gt_iff_lt, ge_iff_le, Int.not_lt, Int.not_le, Bool.not_eq_true', Bool.not_eq_false', Bool.not_true, Bool.not_false, reduceCtorEq, Decidable.not_not, not_true_eq_false, Bool.true_eq_false, Bool.false_eq_true] at hc') <;> (try (exfalso; omega)))) | (refine Z62 ?_; first | refine Z55 (Z63 rfl rfl) ?_ | refine Z55 (Z64 rfl rfl) ?_) | (refine Z65 ?_; first | refine Z55 (Z66 rfl (by assumption) (by rfl)) ?_ | refine Z55 (Z67 rfl (by assumption)) ?_) | (refine Z68 ?_; refine Z55 (Z69 rfl rfl rfl (by omega)) ?_) | (refine Z70 ?_; first | refine Z55 (Z14 rfl (by decide) rfl) ?_ | refine Z55 (Z15 rfl (by decide) rfl) ?_) | (refine Z71 ?_; first | refine Z55 (Z72 rfl) ?_ | refine Z55 (Z73 rfl) ?_) | (refine Z74 ?_; first | refine Z55 (Z75 rfl rfl (by omega)) ?_ | refine Z55 (Z76 rfl rfl (by omega)) ?_ | refine Z55 (Z77 rfl rfl (by omega)) ?_ | refine Z55 (Z78 rfl rfl (by omega) (by omega)) ?_ | refine Z55 (Z79 rfl rfl (by omega) (by omega) (by omega)) ?_ | refine Z55 (Z25 rfl rfl) ?_ | refine Z55 (Z26 rfl rfl) ?_) | (refine Z80 ?_; refine Z55 (Z28 rfl (Z53 ⟨by omega, by omega⟩)) ?_) | refine Z81 fun w' hw' => ?_)
        generalize hX : (x : Int) * 131 + (y : Int) * 1117 + (p : Int) * 29 + (p : Int) / (m : Int) * 53 = X
        have hX0 : 0 ≤ X ∧ X ≤ 1000000000000000 := by omega
        refine goS ?_
        refine Z13 (q_xor (a := X.toNat) (b := (X / 64).toNat) rfl rfl (by omega) (by omega) (by omega) (by omega)) ?_
        refine goS ?_
        refine at_ret1 rfl rfl ⟨(((X.toNat ^^^ (X / 64).toNat : Nat) : Int) % n).toNat, ?_, ?_, by omega, hr1 _ hw'⟩
        · have := Int.emod_nonneg ((X.toNat ^^^ (X / 64).toNat : Nat) : Int) (show n ≠ 0 by omega)
          rw [Int.toNat_of_nonneg this]
        · intro h1
          have := Int.emod_nonneg ((X.toNat ^^^ (X / 64).toNat : Nat) : Int) (show n ≠ 0 by omega)
          have := Int.emod_lt_of_pos ((X.toNat ^^^ (X / 64).toNat : Nat) : Int) (show 0 < n by omega)
          omega
theorem num_ret (rb p : Nat) (v : Value) (l : List Int) (F : List Nat) (w : World) (h : RdB w rb p) (hp : p ≤ 1000000000000) (hl : IntF w v l F) (hne : l ≠ []) (hF : ∀ b ∈ F, b ≠ rb) :
    Ret Tryd.prog 41 [.pointer (some ⟨rb, 0, none⟩), v] w fun v w' => ∃ z ∈ l, v = .int .i64 z ∧ RdB w' rb (p + 1) ∧ Chg [rb] w w' := by
  obtain ⟨A, c, rfl, hlen, hx⟩ := hl
  have hpos : 0 < l.length := List.length_pos_iff.2 hne
  refine enter Tryd.func41 rfl Tryd.ntmps41 rfl rfl ?_
  refine goS ?_
  refine WO_call rfl (pick_ret rb p (l.length : Int) w h hp) ?_
  rintro v w1 ⟨k, rfl, hk, _, hr, hc⟩
  have hk := hk (by omega)
  obtain ⟨b, o, rfl, rfl, hcell⟩ := int_at hx (show k < l.length by omega)
  have hcell := cell_chg hcell hc (by have := hF b (by simp); simpa using this)
  refine goS ?_
  refine Z83 rfl rfl rfl (by omega) ?_
  refine goS ?_
  exact at_ret1 rfl rfl ⟨_, List.getElem_mem _, rfl, hr, hc⟩
end Go.Proofs.YtnfapbghkmodeaaDoor
