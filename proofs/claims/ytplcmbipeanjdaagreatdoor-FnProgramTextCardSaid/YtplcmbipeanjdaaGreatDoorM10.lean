/-
  What is proved here: what the reference's source of drawn numbers (l17Open, pick, num) returns: numbers in range, and a position that goes up by one; the reference's source of drawn numbers at some place that is not too far; the reference draws programs: some program of its texts, or some statements of bounded number, in new memory; a statement of an owned row is taken out; programs without a statement; a number of a statement of an owned row is set; heads and tails of lists in memory stay within the blocks of the list.
-/
import Derived.Test.YtplcmbipeanjdaaGreatDoorM3
import Derived.Test.YtplcmbipeanjdaaGreatDoorM6
import Derived.Test.YtplcmbipeanjdaaGreatDoorM9
import Derived.Test.YtplcmbipeanjdaaGreatDoorM7
import Derived.Laws.AppendOwn
namespace Go.Proofs.YtplcmbipeanjdaaGreatDoor
set_option linter.unusedVariables false
set_option linter.unusedSimpArgs false
set_option linter.unnecessarySimpa false
open Go.RowKit

/-- A slice of bytes, whatever they are, outside block rb. -/
def ByS (w : World) (v : Value) (rb : Nat) : Prop :=
  ∃ A n c, v = .slice A n c ∧ n ≤ c ∧ n ≤ 9223372036854775807 ∧ (n = 0 ∨ ∃ b o, A = some ⟨b, o, none⟩ ∧ b < rb ∧ ∀ i, i < n → ∃ x : Nat, x < 256 ∧ w.cell? ⟨b, o + i * 1, none⟩ = some (.int .u8 (x : Int)))
/-- A slice of bytes, whatever they are. -/
def ByD (w : World) (v : Value) : Prop :=
  ∃ A n c, v = .slice A n c ∧ n ≤ c ∧ n ≤ 9223372036854775807 ∧ (n = 0 ∨ ∃ b o, A = some ⟨b, o, none⟩ ∧ ∀ i, i < n → ∃ x : Nat, x < 256 ∧ w.cell? ⟨b, o + i * 1, none⟩ = some (.int .u8 (x : Int)))
theorem ByD.ext {w w' : World} {v : Value} (h : ByD w v) (he : Ext w w') : ByD w' v := by
  obtain ⟨A, n, c, rfl, hc, hn, h | ⟨b, o, rfl, hx⟩⟩ := h
  · exact ⟨A, n, c, rfl, hc, hn, .inl h⟩
  · refine ⟨_, n, c, rfl, hc, hn, .inr ⟨b, o, rfl, fun i hi => ?_⟩⟩
    obtain ⟨x, h1, h2⟩ := hx i hi
    exact ⟨x, h1, cell_ext h2 he⟩
theorem ByD.bys {w : World} {v : Value} (h : ByD w v) : ByS w v w.heap.size := by
  obtain ⟨A, n, c, rfl, hc, hn, h | ⟨b, o, rfl, hx⟩⟩ := h
  · exact ⟨A, n, c, rfl, hc, hn, .inl h⟩
  · rcases Nat.eq_zero_or_pos n with h0 | h0
    · exact ⟨_, n, c, rfl, hc, hn, .inl h0⟩
    · refine ⟨_, n, c, rfl, hc, hn, .inr ⟨b, o, rfl, ?_, hx⟩⟩
      obtain ⟨x, _, h2⟩ := hx 0 h0
      have := World.block_lt_of_cell? w _ h2
      simp only at this
      omega

/-- Block rb is a source of drawn numbers at position p. -/
def RdB (w : World) (rb p : Nat) : Prop := ∃ bv t, Blk w rb [bv, .int .i64 (p : Int)] t ∧ ByS w bv rb
theorem ByS.chg {w w' : World} {v : Value} {rb : Nat} {G : List Nat} (h : ByS w v rb) (k : Chg G w w') (hG : ∀ x ∈ G, rb ≤ x) : ByS w' v rb := by
  obtain ⟨A, n, c, rfl, hc, hn, h | ⟨b, o, rfl, hb, hx⟩⟩ := h
  · exact ⟨A, n, c, rfl, hc, hn, .inl h⟩
  · rcases Nat.eq_zero_or_pos n with h0 | h0
    · exact ⟨_, n, c, rfl, hc, hn, .inl h0⟩
    · refine ⟨_, n, c, rfl, hc, hn, .inr ⟨b, o, rfl, hb, fun i hi => ?_⟩⟩
      obtain ⟨x, h1, h2⟩ := hx i hi
      refine ⟨x, h1, cell_chg h2 k fun hm => ?_⟩
      have := hG _ hm
      simp only at this
      omega
theorem RdB.ext {w w' : World} {rb p : Nat} (h : RdB w rb p) (he : Ext w w') : RdB w' rb p := by
  obtain ⟨bv, t, hb, hy⟩ := h
  exact ⟨bv, t, hb.ext he, hy.chg (he.chg []) (by simp)⟩
theorem RdB.lt {w : World} {rb p : Nat} (h : RdB w rb p) : rb < w.heap.size := by
  obtain ⟨bv, t, hb, _⟩ := h
  exact hb.lt

theorem l17Open_ret (v : Value) (w : World) (hd : ByD w v) : Ret Tryz.prog 26 [v] w fun r w' => ∃ rb, r = .pointer (some ⟨rb, 0, none⟩) ∧ w.heap.size ≤ rb ∧ RdB w' rb 0 ∧ Ext w w' := by
  have h0 := hd.bys
  have h := h0
  obtain ⟨A, n, c, rfl, hc, hn, hx⟩ := h
  have fin : ∀ w' u t, Blk w' w.heap.size [u, .int .i64 0] t → Ext w w' → ByS w u w.heap.size → ∃ rb, Value.pointer (some ⟨w.heap.size, 0, none⟩) = .pointer (some ⟨rb, 0, none⟩) ∧ w.heap.size ≤ rb ∧ RdB w' rb 0 ∧ Ext w w' :=
    fun w' u t hb he hu => ⟨_, rfl, Nat.le_refl _, ⟨u, t, hb, hu.chg (he.chg []) (by simp)⟩, he⟩
  refine enter Tryz.func26 rfl Tryz.ntmps26 rfl rfl ?_
  refine goS ?_
  refine Z52 rfl (fun hc' => ?_) (fun hc' => ?_)
  · have hgt : 2000 < n := by simp at hc'; omega
    refine goS ?_
    refine Z13 (q_slTo (h := 2000) rfl rfl rfl (by omega)) ?_
    refine goS ?_
    refine WO_box rfl fun w1 hb he hz => ?_
    refine goS ?_
    refine at_ret1 rfl rfl (fin w1 _ _ hb he ⟨A, 2000, c, rfl, by omega, by omega, ?_⟩)
    rcases hx with hx | ⟨b, o, h1, h2, h3⟩
    · omega
    · exact .inr ⟨b, o, h1, h2, fun i hi => h3 i (by omega)⟩
  · refine goS ?_
    refine WO_box rfl fun w1 hb he hz => ?_
    refine goS ?_
    exact at_ret1 rfl rfl (fin w1 _ _ hb he h0)
theorem pick_ret (rb p : Nat) (n : Int) (w : World) (h : RdB w rb p) (hp : p ≤ 1000000000000) :
    Ret Tryz.prog 44 [.pointer (some ⟨rb, 0, none⟩), .int .i64 n] w fun v w' => ∃ k : Nat, v = .int .i64 (k : Int) ∧ (1 ≤ n → (k : Int) < n) ∧ (n < 1 → k = 0) ∧ RdB w' rb (p + 1) ∧ Chg [rb] w w' := by
  obtain ⟨bv, t, hb, hy⟩ := h
  refine enter Tryz.func44 rfl Tryz.ntmps44 rfl rfl ?_
  refine goS ?_
  refine WO_store1 rfl rfl rfl hb (by simp) fun w1 hb1 ho => ?_
  simp only [List.set_cons_succ, List.set_cons_zero] at hb1
  have hy1 := hy.chg ho.chg (by simp)
  clear hb hy
  have hr1 : ∀ w', Ext w1 w' → RdB w' rb (p + 1) ∧ Chg [rb] w w' := fun w' he => ⟨⟨bv, t, hb1.ext he, hy1.chg (he.chg []) (by simp)⟩, ho.chg.trans (he.chg _)⟩
  by_cases hn : n < 1
  · refine goS ?_
    refine Z51 rfl rfl (fun c' hc' => ?_)
    have : c' = true := by rw [← hc']; simpa using hn
    subst this
    refine goS ?_
    exact at_ret1 rfl rfl ⟨0, rfl, by omega, by omega, hr1 w1 (Ext.refl _)⟩
  · refine goS ?_
    refine Z51 rfl rfl (fun c' hc' => ?_)
    have : c' = false := by rw [← hc']; simpa using hn
    subst this
    obtain ⟨A, m, c, rfl, hc, hm, hx⟩ := hy1
    refine goS ?_
    by_cases hm0 : m = 0
    · refine Z49 rfl (by simp [hm0]) ?_
      refine goS ?_
      exact at_ret1 rfl rfl ⟨0, rfl, by omega, by omega, hr1 w1 (Ext.refl _)⟩
    · refine Z50 rfl (by simp; omega) ?_
      replace hx := hx.resolve_left hm0
      obtain ⟨b, o, rfl, hbr, hx⟩ := hx
      refine goS ?_
      simp only [Int.add_sub_cancel]
      refine Z52 rfl (fun hc => ?_) (fun hc => ?_)
      · have hlt : p < m := by simp at hc; omega
        obtain ⟨x, hx1, hx2⟩ := hx p hlt
        refine goS ?_
        refine Z83 rfl rfl rfl hlt ?_
        refine goS ?_
        refine at_ret1 rfl rfl ⟨((x : Int) % n).toNat, ?_, ?_, by omega, hr1 w1 (Ext.refl _)⟩
        · have := Int.emod_nonneg (x : Int) (show n ≠ 0 by omega)
          rw [Int.toNat_of_nonneg this]
        · intro h1
          have := Int.emod_nonneg (x : Int) (show n ≠ 0 by omega)
          have := Int.emod_lt_of_pos (x : Int) (show 0 < n by omega)
          omega
      · have hpos : 0 < m := by omega
        obtain ⟨x, hx1, hx2⟩ := hx (p % m) (Nat.mod_lt _ hpos)
        obtain ⟨y, hy1, hy2⟩ := hx ((p * 7 + 3) % m) (Nat.mod_lt _ hpos)
        have hd : (0 : Int) ≤ (p : Int) / (m : Int) ∧ (p : Int) / (m : Int) ≤ (p : Int) := ⟨Int.ediv_nonneg (by omega) (by omega), Int.ediv_le_self _ (by omega)⟩
        refine goS ?_
        refine Z54 (by kernel_rfl) (by kernel_rfl) ?_; repeat' (first | refine Z55 (Z56 rfl) ?_ | (refine Z57 ?_; first | refine Z58 rfl rfl (by decide) ?_ | refine Z59 rfl rfl (by decide) ?_ | refine Z60 rfl rfl ?_ | ((refine Z61 rfl rfl (fun c' hc' => ?_)); cases c' <;> (try simp only [decide_eq_true_eq, decide_eq_false_iff_not, beq_iff_eq, beq_eq_false_iff_ne, bne_iff_ne, bne_eq_false_iff_eq, ne_eq, gt_iff_lt, ge_iff_le, Int.not_lt, Int.not_le, Bool.not_eq_true', Bool.not_eq_false', Bool.not_true, Bool.not_false, reduceCtorEq, Decidable.not_not, not_true_eq_false, Bool.true_eq_false, Bool.false_eq_true] at hc') <;> (try (exfalso; omega)))) | (refine Z62 ?_; first | refine Z55 (Z63 rfl rfl) ?_ | refine Z55 (Z64 rfl rfl) ?_) | (refine Z65 ?_; first | refine Z55 (Z66 rfl (by assumption) (by rfl)) ?_ | refine Z55 (Z67 rfl (by assumption)) ?_) | (refine Z68 ?_; refine Z55 (Z69 rfl rfl rfl (by omega)) ?_) | (refine Z70 ?_; first | refine Z55 (Z14 rfl (by decide) rfl) ?_ | refine Z55 (Z15 rfl (by decide) rfl) ?_) | (refine Z71 ?_; first | refine Z55 (Z72 rfl) ?_ | refine Z55 (Z73 rfl) ?_) | (refine Z74 ?_; first | refine Z55 (Z75 rfl rfl (by omega)) ?_ | refine Z55 (Z76 rfl rfl (by omega)) ?_ | refine Z55 (Z77 rfl rfl (by omega)) ?_ | refine Z55 (Z78 rfl rfl (by omega) (by omega)) ?_ | refine Z55 (Z79 rfl rfl (by omega) (by omega) (by omega)) ?_ | refine Z55 (Z25 rfl rfl) ?_ | refine Z55 (Z26 rfl rfl) ?_) | (refine Z80 ?_; refine Z55 (Z28 rfl (Z53 ⟨by omega, by omega⟩)) ?_) | refine Z81 fun w' hw' => ?_)
        refine Z55 (Z69 (j := p % m) rfl rfl (by push_cast; rfl) (Nat.mod_lt _ hpos)) ?_
        repeat' (first | refine Z55 (Z56 rfl) ?_ | (refine Z57 ?_; first | refine Z58 rfl rfl (by decide) ?_ | refine Z59 rfl rfl (by decide) ?_ | refine Z60 rfl rfl ?_ | ((refine Z61 rfl rfl (fun c' hc' => ?_)); cases c' <;> (try simp only [decide_eq_true_eq, decide_eq_false_iff_not, beq_iff_eq, beq_eq_false_iff_ne, bne_iff_ne, bne_eq_false_iff_eq, ne_eq, gt_iff_lt, ge_iff_le, Int.not_lt, Int.not_le, Bool.not_eq_true', Bool.not_eq_false', Bool.not_true, Bool.not_false, reduceCtorEq, Decidable.not_not, not_true_eq_false, Bool.true_eq_false, Bool.false_eq_true] at hc') <;> (try (exfalso; omega)))) | (refine Z62 ?_; first | refine Z55 (Z63 rfl rfl) ?_ | refine Z55 (Z64 rfl rfl) ?_) | (refine Z65 ?_; first | refine Z55 (Z66 rfl (by assumption) (by rfl)) ?_ | refine Z55 (Z67 rfl (by assumption)) ?_) | (refine Z68 ?_; refine Z55 (Z69 rfl rfl rfl (by omega)) ?_) | (refine Z70 ?_; first | refine Z55 (Z14 rfl (by decide) rfl) ?_ | refine Z55 (Z15 rfl (by decide) rfl) ?_) | (refine Z71 ?_; first | refine Z55 (Z72 rfl) ?_ | refine Z55 (Z73 rfl) ?_) | (refine Z74 ?_; first | refine Z55 (Z75 rfl rfl (by omega)) ?_ | refine Z55 (Z76 rfl rfl (by omega)) ?_ | refine Z55 (Z77 rfl rfl (by omega)) ?_ | refine Z55 (Z78 rfl rfl (by omega) (by omega)) ?_ | refine Z55 (Z79 rfl rfl (by omega) (by omega) (by omega)) ?_ | refine Z55 (Z25 rfl rfl) ?_ | refine Z55 (Z26 rfl rfl) ?_) | (refine Z80 ?_; refine Z55 (Z28 rfl (Z53 ⟨by omega, by omega⟩)) ?_) | refine Z81 fun w' hw' => ?_)
        refine Z55 (Z69 (j := (p * 7 + 3) % m) rfl rfl (by push_cast; rfl) (Nat.mod_lt _ hpos)) ?_
        repeat' (first | refine Z55 (Z56 rfl) ?_ | (refine Z57 ?_; first | refine Z58 rfl rfl (by decide) ?_ | refine Z59 rfl rfl (by decide) ?_ | refine Z60 rfl rfl ?_ | ((refine Z61 rfl rfl (fun c' hc' => ?_)); cases c' <;> (try simp only [decide_eq_true_eq, decide_eq_false_iff_not, beq_iff_eq, beq_eq_false_iff_ne, bne_iff_ne, bne_eq_false_iff_eq, ne_eq, gt_iff_lt, ge_iff_le, Int.not_lt, Int.not_le, Bool.not_eq_true', Bool.not_eq_false', Bool.not_true, Bool.not_false, reduceCtorEq, Decidable.not_not, not_true_eq_false, Bool.true_eq_false, Bool.false_eq_true] at hc') <;> (try (exfalso; omega)))) | (refine Z62 ?_; first | refine Z55 (Z63 rfl rfl) ?_ | refine Z55 (Z64 rfl rfl) ?_) | (refine Z65 ?_; first | refine Z55 (Z66 rfl (by assumption) (by rfl)) ?_ | refine Z55 (Z67 rfl (by assumption)) ?_) | (refine Z68 ?_; refine Z55 (Z69 rfl rfl rfl (by omega)) ?_) | (refine Z70 ?_; first | refine Z55 (Z14 rfl (by decide) rfl) ?_ | refine Z55 (Z15 rfl (by decide) rfl) ?_) | (refine Z71 ?_; first | refine Z55 (Z72 rfl) ?_ | refine Z55 (Z73 rfl) ?_) | (refine Z74 ?_; first | refine Z55 (Z75 rfl rfl (by omega)) ?_ | refine Z55 (Z76 rfl rfl (by omega)) ?_ | refine Z55 (Z77 rfl rfl (by omega)) ?_ | refine Z55 (Z78 rfl rfl (by omega) (by omega)) ?_ | refine Z55 (Z79 rfl rfl (by omega) (by omega) (by omega)) ?_ | refine Z55 (Z25 rfl rfl) ?_ | refine Z55 (Z26 rfl rfl) ?_) | (refine Z80 ?_; refine Z55 (Z28 rfl (Z53 ⟨by omega, by omega⟩)) ?_) | refine Z81 fun w' hw' => ?_)
        generalize hX : (x : Int) * 131 + (y : Int) * 1117 + (p : Int) * 29 + (p : Int) / (m : Int) * 53 = X
        have hX0 : 0 ≤ X ∧ X ≤ 1000000000000000 := by omega
        refine goS ?_
        refine Z13 (q_xor (a := X.toNat) (b := (X / 64).toNat) rfl rfl (by omega) (by omega) (by omega) (by omega)) ?_
        refine goS ?_
        refine at_ret1 rfl rfl ⟨(((X.toNat ^^^ (X / 64).toNat : Nat) : Int) % n).toNat, ?_, ?_, by omega, hr1 _ hw'⟩
        · have := Int.emod_nonneg ((X.toNat ^^^ (X / 64).toNat : Nat) : Int) (show n ≠ 0 by omega)
          rw [Int.toNat_of_nonneg this]
        · intro h1
          have := Int.emod_nonneg ((X.toNat ^^^ (X / 64).toNat : Nat) : Int) (show n ≠ 0 by omega)
          have := Int.emod_lt_of_pos ((X.toNat ^^^ (X / 64).toNat : Nat) : Int) (show 0 < n by omega)
          omega
theorem num_ret (rb p : Nat) (v : Value) (l : List Int) (F : List Nat) (w : World) (h : RdB w rb p) (hp : p ≤ 1000000000000) (hl : IntF w v l F) (hne : l ≠ []) (hF : ∀ b ∈ F, b ≠ rb) :
    Ret Tryz.prog 48 [.pointer (some ⟨rb, 0, none⟩), v] w fun v w' => ∃ z ∈ l, v = .int .i64 z ∧ RdB w' rb (p + 1) ∧ Chg [rb] w w' := by
  obtain ⟨A, c, rfl, hlen, hx⟩ := hl
  have hpos : 0 < l.length := List.length_pos_iff.2 hne
  refine enter Tryz.func48 rfl Tryz.ntmps48 rfl rfl ?_
  refine goS ?_
  refine WO_call rfl (pick_ret rb p (l.length : Int) w h hp) ?_
  rintro v w1 ⟨k, rfl, hk, _, hr, hc⟩
  have hk := hk (by omega)
  obtain ⟨b, o, rfl, rfl, hcell⟩ := int_at hx (show k < l.length by omega)
  have hcell := cell_chg hcell hc (by have := hF b (by simp); simpa using this)
  refine goS ?_
  refine Z83 rfl rfl rfl (by omega) ?_
  refine goS ?_
  exact at_ret1 rfl rfl ⟨_, List.getElem_mem _, rfl, hr, hc⟩
end Go.Proofs.YtplcmbipeanjdaaGreatDoor
namespace Go.Proofs.YtplcmbipeanjdaaGreatDoor
set_option linter.unusedVariables false
set_option linter.unusedSimpArgs false
set_option linter.unnecessarySimpa false
open Go.RowKit

/-- The source stands at some place that is not too far. -/
def RdU (w : World) (rb q : Nat) : Prop := ∃ p, p ≤ q ∧ RdB w rb p
theorem RdU.ext {w w' : World} {rb q : Nat} (h : RdU w rb q) (he : Ext w w') : RdU w' rb q := by obtain ⟨p, h1, h2⟩ := h; exact ⟨p, h1, h2.ext he⟩
theorem RdU.chg {w w' : World} {rb q : Nat} {G : List Nat} (h : RdU w rb q) (c : Chg G w w') (hG : ∀ x ∈ G, rb < x) : RdU w' rb q := by
  obtain ⟨p, h1, bv, t, h2, h3⟩ := h
  exact ⟨p, h1, bv, t, h2.chg c (fun hm => by have := hG _ hm; omega), h3.chg c (fun x hx => by have := hG x hx; omega)⟩
theorem RdU.mono {w : World} {rb q q' : Nat} (h : RdU w rb q) (hq : q ≤ q') : RdU w rb q' := by obtain ⟨p, h1, h2⟩ := h; exact ⟨p, by omega, h2⟩
theorem RdU.lt {w : World} {rb q : Nat} (h : RdU w rb q) : rb < w.heap.size := by obtain ⟨p, _, h2⟩ := h; exact h2.lt
theorem pickU_ret (rb q : Nat) (n : Int) (w : World) (h : RdU w rb q) (hq : q ≤ 1000000000000) (hn : 1 ≤ n) :
    Ret Tryz.prog 44 [.pointer (some ⟨rb, 0, none⟩), .int .i64 n] w fun v w' => ∃ k : Nat, v = .int .i64 (k : Int) ∧ (k : Int) < n ∧ RdU w' rb (q + 1) ∧ Chg [rb] w w' := by
  obtain ⟨p, hp, hr⟩ := h
  exact (pick_ret rb p n w hr (by omega)).mono fun v w' ⟨k, h1, h2, _, h3, h4⟩ => ⟨k, h1, h2 hn, ⟨p + 1, by omega, h3⟩, h4⟩
theorem numU_ret (rb q : Nat) (v : Value) (l : List Int) (F : List Nat) (w : World) (h : RdU w rb q) (hq : q ≤ 1000000000000) (hl : IntF w v l F) (hne : l ≠ []) (hF : ∀ b ∈ F, b ≠ rb) :
    Ret Tryz.prog 48 [.pointer (some ⟨rb, 0, none⟩), v] w fun v w' => ∃ z ∈ l, v = .int .i64 z ∧ RdU w' rb (q + 1) ∧ Chg [rb] w w' := by
  obtain ⟨p, hp, hr⟩ := h
  exact (num_ret rb p v l F w hr (by omega) hl hne hF).mono fun v w' ⟨z, h1, h2, h3, h4⟩ => ⟨z, h1, h2, ⟨p + 1, by omega, h3⟩, h4⟩
theorem openU_ret (v : Value) (w : World) (hd : ByD w v) : Ret Tryz.prog 26 [v] w fun r w' => ∃ rb, r = .pointer (some ⟨rb, 0, none⟩) ∧ w.heap.size ≤ rb ∧ RdU w' rb 0 ∧ Ext w w' :=
  (l17Open_ret v w hd).mono fun r w' ⟨rb, h1, h2, h3, h4⟩ => ⟨rb, h1, h2, ⟨0, Nat.le_refl _, h3⟩, h4⟩
/-- A program that can be read, in memory apart from some blocks. -/
def PrD (w : World) (G : List Nat) (tv bv : Value) (tl : List Int) (l : Ss) : Prop := ∃ Ft Fb, IntF w tv tl Ft ∧ StS w bv l Fb ∧ ∀ x ∈ Ft ++ Fb, x ∉ G ∧ x < w.heap.size
theorem PrD.chg {w w' : World} {G H : List Nat} {tv bv : Value} {tl : List Int} {l : Ss} (h : PrD w G tv bv tl l) (c : Chg H w w') (hH : ∀ x ∈ H, x < w.heap.size → x ∈ G) : PrD w' G tv bv tl l := by
  obtain ⟨Ft, Fb, h1, h2, h3⟩ := h
  exact ⟨Ft, Fb, h1.chg c (fun x hx hm => (h3 x (by simp [hx])).1 (hH x hm (h3 x (by simp [hx])).2)), h2.chg c (fun x hx hm => (h3 x (by simp [hx])).1 (hH x hm (h3 x (by simp [hx])).2)), fun x hx => ⟨(h3 x hx).1, by have := (h3 x hx).2; have := c.size; omega⟩⟩
theorem PrD.ext {w w' : World} {G : List Nat} {tv bv : Value} {tl : List Int} {l : Ss} (h : PrD w G tv bv tl l) (e : Ext w w') : PrD w' G tv bv tl l := h.chg (e.chg []) (by simp)
theorem PrD.less {w : World} {G H : List Nat} {tv bv : Value} {tl : List Int} {l : Ss} (h : PrD w G tv bv tl l) (hH : ∀ x ∈ H, x ∈ G) : PrD w H tv bv tl l := by
  obtain ⟨Ft, Fb, h1, h2, h3⟩ := h
  exact ⟨Ft, Fb, h1, h2, fun x hx => ⟨fun hm => (h3 x hx).1 (hH x hm), (h3 x hx).2⟩⟩
end Go.Proofs.YtplcmbipeanjdaaGreatDoor
namespace Go.Proofs.YtplcmbipeanjdaaGreatDoor
set_option linter.unusedVariables false
set_option linter.unusedSimpArgs false
set_option linter.unnecessarySimpa false
open Go.RowKit

/-- A world of a given size that the present one extends. -/
theorem cutW {B : Nat} {w' : World} (h : B ≤ w'.heap.size) : ∃ W0 : World, W0.heap.size = B ∧ Ext W0 w' := by
  have hs : (w'.heap.extract 0 B).size = B := by simp; omega
  refine ⟨{ w' with heap := w'.heap.extract 0 B }, hs, rfl, rfl, rfl, ?_, ?_⟩
  · show (w'.heap.extract 0 B).size ≤ _
    rw [hs]; exact h
  · intro i hi
    replace hi : i < (w'.heap.extract 0 B).size := hi
    rw [hs] at hi
    show w'.heap[i]? = (w'.heap.extract 0 B)[i]?
    rw [Array.getElem?_extract]
    rw [if_pos (by omega)]
    simp
theorem Chg.freshS {G H : List Nat} {w w' w'' : World} (h : Chg G w w') (k : Chg H w' w'') (hH : ∀ b ∈ H, b ∈ G ∨ w.heap.size ≤ b) : Chg G w w'' :=
  ⟨k.os.trans h.os, k.tape.trans h.tape, k.output.trans h.output, Nat.le_trans h.size k.size, fun i hi hn => (k.block i (Nat.lt_of_lt_of_le hi h.size) fun hm => by
    rcases hH i hm with h1 | h1
    · exact hn h1
    · omega).trans (h.block i hi hn)⟩
theorem row_one1 {e : TypeId} {w : World} {b : Nat} {op x y n : Int} {t el : Ss} {vt ve : Value} {Ft Fe : List Nat} (hb : Blk w b [.int .i64 op, .int .i64 x, .int .i64 y, .int .i64 n, vt, ve] e) (h1 : RowS e w vt t Ft) (h2 : RowS e w ve el Fe) :
    RowS e w (.slice (some ⟨b, 0, none⟩) 1 1) (Ss.one op x y n t el) (b :: (Ft ++ (Fe ++ []))) :=
  ⟨_, Ft ++ (Fe ++ []), owns_blk hb (Nat.zero_le _) (by simp) (by decide), StkS.mk h1 h2 ⟨rfl, rfl⟩, rfl⟩
theorem row_two2 {e : TypeId} {w : World} {b : Nat} {op x y n op' x' y' n' : Int} {t el t' el' : Ss} {vt ve vt' ve' : Value} {Ft Fe Ft' Fe' : List Nat} (hb : Blk w b [.int .i64 op, .int .i64 x, .int .i64 y, .int .i64 n, vt, ve, .int .i64 op', .int .i64 x', .int .i64 y', .int .i64 n', vt', ve'] e) (h1 : RowS e w vt t Ft) (h2 : RowS e w ve el Fe) (h3 : RowS e w vt' t' Ft') (h4 : RowS e w ve' el' Fe') :
    RowS e w (.slice (some ⟨b, 0, none⟩) 2 2) (.cons op x y n t el (Ss.one op' x' y' n' t' el')) (b :: (Ft ++ (Fe ++ (Ft' ++ (Fe' ++ []))))) :=
  ⟨_, Ft ++ (Fe ++ (Ft' ++ (Fe' ++ []))), owns_blk hb (Nat.zero_le _) (by simp) (by decide), StkS.mk h1 h2 (StkS.mk h3 h4 ⟨rfl, rfl⟩), rfl⟩
/-- A statement in memory from B on, of so many statements at most. -/
def StB (e : TypeId) (B k : Nat) (w : World) (r : Value) : Prop :=
  ∃ op x y n t el vt ve Ft Fe, r = stV op x y n vt ve ∧ RowS e w vt t Ft ∧ RowS e w ve el Fe ∧ (Ft ++ Fe).Nodup ∧ (∀ b ∈ Ft ++ Fe, B ≤ b) ∧ 1 + cntL t + cntL el ≤ k
/-- Statements in memory from B on, of so many statements at most. -/
def LsB (e : TypeId) (B k : Nat) (w : World) (v : Value) : Prop := ∃ l xs Fs, w.ownsRow B e 6 v l.len xs ∧ StkS e w l xs Fs ∧ (v.ownBlock.toList ++ Fs).Nodup ∧ (∀ b ∈ v.ownBlock.toList ++ Fs, B ≤ b) ∧ cntL l ≤ k
section
variable {e : TypeId} {B k : Nat} {w w' : World} {r v : Value} {G : List Nat}
theorem StB.chg (h : StB e B k w r) (c : Chg G w w') (hG : ∀ x ∈ G, x < B) : StB e B k w' r := by
  obtain ⟨op, x, y, n, t, el, vt, ve, Ft, Fe, h1, h2, h3, h4, h5, h6⟩ := h
  exact ⟨op, x, y, n, t, el, vt, ve, Ft, Fe, h1, h2.chg c (fun z hz hm => by have := h5 z (by simp [hz]); have := hG z hm; omega), h3.chg c (fun z hz hm => by have := h5 z (by simp [hz]); have := hG z hm; omega), h4, h5, h6⟩
theorem StB.ext (h : StB e B k w r) (c : Ext w w') : StB e B k w' r := h.chg (c.chg []) (by simp)
theorem LsB.chg (h : LsB e B k w v) (c : Chg G w w') (hG : ∀ x ∈ G, x < B) : LsB e B k w' v := by
  obtain ⟨l, xs, Fs, h1, h2, h3, h4, h5⟩ := h
  exact ⟨l, xs, Fs, ownsRow_chg h1 c (fun z hz hm => by have := h4 z (by simp [hz]); have := hG z hm; omega), StkS.chg c _ _ _ h2 (fun z hz hm => by have := h4 z (by simp [hz]); have := hG z hm; omega), h3, h4, h5⟩
theorem LsB.ext (h : LsB e B k w v) (c : Ext w w') : LsB e B k w' v := h.chg (c.chg []) (by simp)
theorem LsB.one (h : LsB e B k w v) : v.oneCell' = true := by
  obtain ⟨l, xs, Fs, h1, _⟩ := h
  exact row_one (ownsRow_base0 h1)
theorem LsB.row (h : LsB e B k w v) : ∃ l F, RowS e w v l F ∧ F.Nodup ∧ (∀ b ∈ F, B ≤ b) ∧ cntL l ≤ k := by
  obtain ⟨l, xs, Fs, h1, h2, h3, h4, h5⟩ := h
  exact ⟨l, _, ⟨xs, Fs, ownsRow_base0 h1, h2, rfl⟩, h3, h4, h5⟩
theorem StB.flat {op x y n : Int} (h : 1 ≤ k) : StB e B k w (stV op x y n (.slice none 0 0) (.slice none 0 0)) :=
  ⟨op, x, y, n, .nil, .nil, _, _, [], [], rfl, RowS.nil_ _ _, RowS.nil_ _ _, by simp, by simp, by simpa [cntL] using h⟩
theorem StB.cells (h : StB e B k w r) : ∃ op x y n vt ve, r = stV op x y n vt ve ∧ vt.oneCell' = true ∧ ve.oneCell' = true := by
  obtain ⟨op, x, y, n, t, el, vt, ve, Ft, Fe, h1, h2, h3, h4, h5, h6⟩ := h
  exact ⟨op, x, y, n, vt, ve, h1, h2.one, h3.one⟩
end
theorem LsB.mono {e : TypeId} {B k k' : Nat} {w : World} {v : Value} (h : LsB e B k w v) (hk : k ≤ k') : LsB e B k' w v := by
  obtain ⟨l, xs, Fs, h1, h2, h3, h4, h5⟩ := h
  exact ⟨l, xs, Fs, h1, h2, h3, h4, by omega⟩
/-- One more statement, in memory from some place on. -/
theorem LsB.step {e : TypeId} {l : Ss} {B B2 k m : Nat} {w1 w2 : World} {v v' r : Value} {xs Fs} (h1 : w1.ownsRow B e 6 v l.len xs) (h2 : StkS e w1 l xs Fs) (h3 : (v.ownBlock.toList ++ Fs).Nodup) (h4 : ∀ b ∈ v.ownBlock.toList ++ Fs, B ≤ b ∧ b < B2) (h5 : cntL l ≤ k) (hB : B ≤ B2) (hB2 : B2 ≤ w1.heap.size) (hs : StB e B2 m w1 r)
    (k1 : w2.ownsRow B e 6 v' (l.len + 1) (xs ++ r.cells.toList)) (k2 : w1.grownBy w2 v.ownBlock) (k3 : v'.ownBlock = v.ownBlock ∨ ∃ b, v'.ownBlock = some b ∧ w1.heap.size ≤ b) : LsB e B (k + m) w2 v' := by
  obtain ⟨op, x, y, n, t, el, vt, ve, Ft, Fe, rfl, q1, q2, q3, q4, q5⟩ := hs
  obtain ⟨W0, hWB, hE⟩ := cutW (B := B) (w' := w1) (by omega)
  have hg := GrowS.step (e := e) (l := l) (t := t) (el := el) (op := op) (x := x) (y := y) (n := n) (w := W0) (by rw [hWB]; exact h1) h2 h3 (fun b hb => by rw [hWB]; exact (h4 b hb).1) hE q1 q2 q3 (fun z hz hm => by have := q4 z hz; have := (h4 z hm).2; omega) (fun z hz => by have := q4 z hz; omega) (by rw [hWB]; exact k1) k2 k3
  obtain ⟨⟨ys, Gs, g1, g2, g3, g4⟩, _⟩ := hg
  rw [hWB] at g1 g4
  exact ⟨_, ys, Gs, g1, g2, g3, g4, by simp only [Ss.snoc, cntL_app, Ss.one, cntL]; omega⟩
theorem sl_one (A : Option Addr) (m c : Nat) : (Value.slice A m c).oneCell' = true := rfl
def oneB : Nat → Nat
  | 0 => 1
  | d + 1 => 3 + 2 * oneB d
def oneQ : Nat → Nat
  | 0 => 8
  | d + 1 => 20 + 2 * oneQ d
def DoP (d : Nat) : Prop := ∀ (rb q : Nat) (tv : Value) (w : World), RdU w rb q → q + 10000 * d ≤ 1000000000 → Ret Tryz.prog 65 [.pointer (some ⟨rb, 0, none⟩), tv, .int .i64 (d : Int)] w fun r w' => StB 59 w.heap.size (oneB d) w' r ∧ RdU w' rb (q + oneQ d) ∧ Chg [rb] w w'
def DsP (d : Nat) : Prop := ∀ (rb q n : Nat) (tv : Value) (w : World), RdU w rb q → q + 1000 + 10000 * d ≤ 1000000000 → n ≤ 8 → Ret Tryz.prog 47 [.pointer (some ⟨rb, 0, none⟩), tv, .int .i64 (d : Int), .int .i64 (n : Int)] w fun r w' => LsB 59 w.heap.size (1 + n * oneB d) w' r ∧ RdU w' rb (q + 1 + n * oneQ d) ∧ Chg [rb] w w'
theorem l1Some_ret (d : Nat) (hd : d ≤ 2) (ih : DoP d) : DsP d := by
  intro rb q n tv w hr hq hn
  have hQ : oneQ d ≤ 92 := by have : d = 0 ∨ d = 1 ∨ d = 2 := by omega
                              rcases this with rfl | rfl | rfl <;> decide
  have hO : oneB d ≤ 13 := by have : d = 0 ∨ d = 1 ∨ d = 2 := by omega
                              rcases this with rfl | rfl | rfl <;> decide
  refine enter Tryz.func47 rfl Tryz.ntmps47 rfl rfl ?_
  refine goS ?_
  refine WO_call rfl (pickU_ret rb q 10 w hr (by omega) (by decide)) ?_
  rintro _ w1 ⟨z, rfl, hz, hr1, c1⟩
  refine goS ?_
  refine WO_build (e := 59) (k := 6) [.tmp 13] (vs := [stV 2 1 0 z (.slice none 0 0) (.slice none 0 0)]) (cs := [.int .i64 2, .int .i64 1, .int .i64 0, .int .i64 (z : Int), .slice none 0 0, .slice none 0 0]) rfl rfl rfl (by decide) (by decide) (by simp [stV, Value.cells]) (by simp [stV, Value.cells]) fun w2 hb2 e2 z2 => ?_
  have s1 := c1.size
  have hrl := hr.lt
  have hst : StkS 59 w2 (Ss.one 2 1 0 z .nil .nil) [.int .i64 2, .int .i64 1, .int .i64 0, .int .i64 (z : Int), .slice none 0 0, .slice none 0 0] ([] ++ ([] ++ [])) := StkS.mk (RowS.nil_ _ _) (RowS.nil_ _ _) ⟨rfl, rfl⟩
  have hL2 : LsB 59 w.heap.size 1 w2 (.slice (some ⟨w1.heap.size, 0, none⟩) 1 1) :=
    ⟨Ss.one 2 1 0 z .nil .nil, _, [], owns_blk hb2 (by omega) (by simp) (by decide), hst, by simp [Value.ownBlock], by simp [Value.ownBlock]; omega, by simp [Ss.one, cntL]⟩
  have hc2 : Chg [rb] w w2 := c1.trans (e2.chg _)
  have hr2 := hr1.ext e2
  refine goS ?_
  refine W_loop (α := Nat × Value) (fun p => [(0, .pointer (some ⟨rb, 0, none⟩)), (1, tv), (2, .int .i64 (d : Int)), (3, .int .i64 (n : Int)), (9, p.2), (10, .int .i64 (p.1 : Int))])
    (fun p w' => p.1 ≤ n ∧ LsB 59 w.heap.size (1 + p.1 * oneB d) w' p.2 ∧ RdU w' rb (q + 1 + p.1 * oneQ d) ∧ Chg [rb] w w') (fun p => n - p.1) (0, _) (by repeat (first | exact True.intro | refine And.intro rfl ?_)) ⟨Nat.zero_le _, by simpa using hL2, by simpa using hr2, hc2⟩ ?_
  rintro ⟨i, v⟩ w3 ⟨hi, hL, hr3, c3⟩
  simp only at hi hL hr3 c3 ⊢
  have hiq : i * oneQ d ≤ 8 * 92 := Nat.mul_le_mul (by omega) hQ
  have hib : i * oneB d ≤ 8 * 13 := Nat.mul_le_mul (by omega) hO
  refine goS ?_
  refine Z52 rfl (fun hc => ?_) (fun hc => ?_)
  · have hlt : i < n := by simpa using hc
    refine goS ?_
    refine WO_call rfl (ih rb (q + 1 + i * oneQ d) tv w3 hr3 (by omega)) ?_
    rintro _ w4 ⟨hS, hr4, c4⟩
    have s3 := c3.size
    have s4 := c4.size
    obtain ⟨l, xs, Fs, h1, h2, h3, h4, h5⟩ := hL
    have h4' : ∀ b ∈ v.ownBlock.toList ++ Fs, w.heap.size ≤ b ∧ b < w3.heap.size := fun b hb => ⟨h4 b hb, by
      rcases List.mem_append.1 hb with hb | hb
      · exact (h1.lt b (by simpa using hb)).2
      · exact StkS.lt _ _ _ h2 b hb⟩
    replace h1 := ownsRow_chg h1 c4 (fun z hz hm => by have := h4' z (by simp [hz]); simp at hm; omega)
    replace h2 := StkS.chg c4 _ _ _ h2 (fun z hz hm => by have := h4' z (by simp [hz]); simp at hm; omega)
    obtain ⟨op, x, y, m, vt, ve, rfl, o1, o2⟩ := hS.cells
    have hlc := len_le_cntL l
    refine goS ?_
    refine WO_app1 (m := l.len) (u := stV op x y m vt ve) rfl rfl (by intro v hv; simp [stV, Value.cells] at hv; rcases hv with rfl | rfl | rfl | rfl | rfl | rfl <;> first | rfl | assumption) rfl h1 (by omega) rfl (by omega) (by decide) fun v' w5 k1 k2 k3 => ?_
    have hL5 := LsB.step h1 h2 h3 h4' h5 (by omega) (by omega) hS k1 k2 (by
      rcases k3 with h | h
      · exact .inl h
      · exact .inr ⟨_, h, by omega⟩)
    have c5 : Chg [rb] w w5 := (c3.trans c4).freshS (grown_chg k2) (fun b hb => .inr (by have := h4' b (by simp at hb ⊢; exact .inl hb); omega))
    have hr5 : RdU w5 rb (q + 1 + i * oneQ d + oneQ d) := hr4.chg (grown_chg k2) (fun b hb => by have := h4' b (by simp at hb ⊢; exact .inl hb); omega)
    refine goS ?_
    exact at_loop (i + 1, v') (by repeat (first | exact True.intro | refine And.intro rfl ?_)) ⟨hlt, by simp only [Nat.succ_mul]; rw [← Nat.add_assoc]; exact hL5, by simp only [Nat.succ_mul]; rw [← Nat.add_assoc]; exact hr5, c5⟩ (by simp only; omega)
  · have hge : i = n := by simp at hc; omega
    subst hge
    refine goS ?_
    exact at_ret1 rfl rfl ⟨hL, hr3, c3⟩
theorem l1One_ret (d : Nat) (hd : d ≤ 2) (ihO : d ≠ 0 → DoP 0) (ihS : ∀ d', d = d' + 1 → DsP d') : DoP d := by
  intro rb q tv w hr hq
  have hpos : 1 ≤ oneB d := by cases d <;> simp [oneB]; omega
  have hposQ : 8 ≤ oneQ d := by cases d <;> simp [oneQ]; omega
  have hrl := hr.lt
  refine enter Tryz.func65 rfl Tryz.ntmps65 rfl rfl ?_
  refine Z43 (Z44 (WO_alloc fun w1 hz e1 z1 => ?_))
  replace hz : Blk w1 w.heap.size [.int .i64 0, .int .i64 0, .int .i64 0, .int .i64 0, .slice none 0 0, .slice none 0 0] _ := hz
  refine goS ?_
  refine WO_call rfl (pickU_ret rb q 2 w1 (hr.ext e1) (by omega) (by decide)) ?_
  rintro _ w2 ⟨b, rfl, hb, hr2, c2⟩
  have hz2 := hz.chg c2 (by simp; omega)
  have c02 : Chg [rb] w w2 := (e1.chg _).trans c2
  refine goS ?_
  refine WO_ints [1, 2, 1, 4, 5] rfl rfl (by decide) (by decide) fun wa hia ea za => ?_
  refine goS ?_
  refine WO_call rfl (numU_ret rb (q + 1) _ [1, 2, 1, 4, 5] _ wa (hr2.ext ea) (by omega) hia.int (by decide) (by have := hr2.lt; simp; omega)) ?_
  rintro _ w3 ⟨o, ho, rfl, hr3, c3⟩
  have hz3 := (hz2.ext ea).chg c3 (by simp; omega)
  have c03 : Chg [rb] w w3 := (c02.trans (ea.chg _)).trans c3
  refine goS ?_
  refine WO_call rfl (pickU_ret rb (q + 2) 11 w3 hr3 (by omega) (by decide)) ?_
  rintro _ w4 ⟨z, rfl, hz11, hr4, c4⟩
  have hz4 := hz3.chg c4 (by simp; omega)
  replace c4 : Chg [rb] w w4 := c03.trans c4
  clear hz hz2 hz3 c02 c03 c2 c3 hr2 hr3 hr
  have hcases : z = 0 ∨ z = 1 ∨ z = 2 ∨ z = 3 ∨ z = 4 ∨ z = 5 ∨ z = 6 ∨ z = 7 ∨ z = 8 ∨ z = 9 ∨ z = 10 := by omega
  rcases hcases with rfl | rfl | rfl | rfl | rfl | rfl | rfl | rfl | rfl | rfl | rfl
  · refine goS ?_
    refine WO_call rfl (pickU_ret rb (q + 3) 10 w4 hr4 (by omega) (by decide)) ?_
    rintro _ wb ⟨y, rfl, hy, hr5, c5⟩
    replace hr4 := hr5
    replace hz4 := hz4.chg c5 (by simp; omega)
    replace c4 := c4.trans c5
    refine goS ?_
    refine WO_storeS (k := 6) (vs := [.int .i64 (1), .int .i64 (0), .int .i64 (0), .int .i64 (y), .slice none 0 0, .slice none 0 0]) rfl rfl rfl (by simp [Value.oneCell']) hz4 (by decide) fun wz hz oz => ?_
    replace hz : Blk wz w.heap.size [.int .i64 (1), .int .i64 (0), .int .i64 (0), .int .i64 (y), .slice none 0 0, .slice none 0 0] _ := hz
    refine goS ?_
    exact at_retC rfl rfl hz rfl ⟨StB.flat hpos, RdU.mono (RdU.chg hr4 oz.chg (by simp; omega)) (by omega), Chg.freshS c4 oz.chg (by simp)⟩
  · refine goS ?_
    refine WO_call rfl (pickU_ret rb (q + 3) 10 w4 hr4 (by omega) (by decide)) ?_
    rintro _ wb ⟨y, rfl, hy, hr5, c5⟩
    replace hr4 := hr5
    replace hz4 := hz4.chg c5 (by simp; omega)
    replace c4 := c4.trans c5
    refine goS ?_
    refine WO_storeS (k := 6) (vs := [.int .i64 (2), .int .i64 (1 + (b : Int)), .int .i64 (0), .int .i64 (y), .slice none 0 0, .slice none 0 0]) rfl rfl rfl (by simp [Value.oneCell']) hz4 (by decide) fun wz hz oz => ?_
    replace hz : Blk wz w.heap.size [.int .i64 (2), .int .i64 (1 + (b : Int)), .int .i64 (0), .int .i64 (y), .slice none 0 0, .slice none 0 0] _ := hz
    refine goS ?_
    exact at_retC rfl rfl hz rfl ⟨StB.flat hpos, RdU.mono (RdU.chg hr4 oz.chg (by simp; omega)) (by omega), Chg.freshS c4 oz.chg (by simp)⟩
  · refine goS ?_
    refine WO_storeS (k := 6) (vs := [.int .i64 (3), .int .i64 (1 + (b : Int)), .int .i64 (3 - (1 + (b : Int))), .int .i64 (0), .slice none 0 0, .slice none 0 0]) rfl rfl rfl (by simp [Value.oneCell']) hz4 (by decide) fun wz hz oz => ?_
    replace hz : Blk wz w.heap.size [.int .i64 (3), .int .i64 (1 + (b : Int)), .int .i64 (3 - (1 + (b : Int))), .int .i64 (0), .slice none 0 0, .slice none 0 0] _ := hz
    refine goS ?_
    exact at_retC rfl rfl hz rfl ⟨StB.flat hpos, RdU.mono (RdU.chg hr4 oz.chg (by simp; omega)) (by omega), Chg.freshS c4 oz.chg (by simp)⟩
  · refine goS ?_
    refine WO_storeS (k := 6) (vs := [.int .i64 (4), .int .i64 (3), .int .i64 (o), .int .i64 (0), .slice none 0 0, .slice none 0 0]) rfl rfl rfl (by simp [Value.oneCell']) hz4 (by decide) fun wz hz oz => ?_
    replace hz : Blk wz w.heap.size [.int .i64 (4), .int .i64 (3), .int .i64 (o), .int .i64 (0), .slice none 0 0, .slice none 0 0] _ := hz
    refine goS ?_
    exact at_retC rfl rfl hz rfl ⟨StB.flat hpos, RdU.mono (RdU.chg hr4 oz.chg (by simp; omega)) (by omega), Chg.freshS c4 oz.chg (by simp)⟩
  · refine goS ?_
    refine WO_ints [1, 2, 1, 5] rfl rfl (by decide) (by decide) fun wa hia ea za => ?_
    refine goS ?_
    refine WO_call rfl (numU_ret rb (q + 3) _ [1, 2, 1, 5] _ wa (hr4.ext ea) (by omega) hia.int (by decide) (by have := hr4.lt; simp; omega)) ?_
    rintro _ wb ⟨y, hy, rfl, hr5, c5⟩
    replace hr4 := hr5
    replace hz4 := (hz4.ext ea).chg c5 (by simp; omega)
    replace c4 := (c4.trans (ea.chg _)).trans c5
    refine goS ?_
    refine WO_storeS (k := 6) (vs := [.int .i64 (5), .int .i64 (4), .int .i64 (y), .int .i64 (0), .slice none 0 0, .slice none 0 0]) rfl rfl rfl (by simp [Value.oneCell']) hz4 (by decide) fun wz hz oz => ?_
    replace hz : Blk wz w.heap.size [.int .i64 (5), .int .i64 (4), .int .i64 (y), .int .i64 (0), .slice none 0 0, .slice none 0 0] _ := hz
    refine goS ?_
    exact at_retC rfl rfl hz rfl ⟨StB.flat hpos, RdU.mono (RdU.chg hr4 oz.chg (by simp; omega)) (by omega), Chg.freshS c4 oz.chg (by simp)⟩
  · refine goS ?_
    refine WO_ints [1, 2, 1, 5] rfl rfl (by decide) (by decide) fun wa hia ea za => ?_
    refine goS ?_
    refine WO_call rfl (numU_ret rb (q + 3) _ [1, 2, 1, 5] _ wa (hr4.ext ea) (by omega) hia.int (by decide) (by have := hr4.lt; simp; omega)) ?_
    rintro _ wb ⟨y, hy, rfl, hr5, c5⟩
    replace hr4 := hr5
    replace hz4 := (hz4.ext ea).chg c5 (by simp; omega)
    replace c4 := (c4.trans (ea.chg _)).trans c5
    refine goS ?_
    refine WO_storeS (k := 6) (vs := [.int .i64 (5), .int .i64 (4), .int .i64 (y), .int .i64 (0), .slice none 0 0, .slice none 0 0]) rfl rfl rfl (by simp [Value.oneCell']) hz4 (by decide) fun wz hz oz => ?_
    replace hz : Blk wz w.heap.size [.int .i64 (5), .int .i64 (4), .int .i64 (y), .int .i64 (0), .slice none 0 0, .slice none 0 0] _ := hz
    refine goS ?_
    exact at_retC rfl rfl hz rfl ⟨StB.flat hpos, RdU.mono (RdU.chg hr4 oz.chg (by simp; omega)) (by omega), Chg.freshS c4 oz.chg (by simp)⟩
  · refine goS ?_
    refine WO_ints [3, 4, 1, 2, 5] rfl rfl (by decide) (by decide) fun wa hia ea za => ?_
    refine goS ?_
    refine WO_call rfl (numU_ret rb (q + 3) _ [3, 4, 1, 2, 5] _ wa (hr4.ext ea) (by omega) hia.int (by decide) (by have := hr4.lt; simp; omega)) ?_
    rintro _ wb ⟨y, hy, rfl, hr5, c5⟩
    replace hr4 := hr5
    replace hz4 := (hz4.ext ea).chg c5 (by simp; omega)
    replace c4 := (c4.trans (ea.chg _)).trans c5
    refine goS ?_
    refine WO_storeS (k := 6) (vs := [.int .i64 (6), .int .i64 (0), .int .i64 (y), .int .i64 (0), .slice none 0 0, .slice none 0 0]) rfl rfl rfl (by simp [Value.oneCell']) hz4 (by decide) fun wz hz oz => ?_
    replace hz : Blk wz w.heap.size [.int .i64 (6), .int .i64 (0), .int .i64 (y), .int .i64 (0), .slice none 0 0, .slice none 0 0] _ := hz
    refine goS ?_
    exact at_retC rfl rfl hz rfl ⟨StB.flat hpos, RdU.mono (RdU.chg hr4 oz.chg (by simp; omega)) (by omega), Chg.freshS c4 oz.chg (by simp)⟩
  · refine goS ?_
    refine WO_ints [4, 1, 2, 5] rfl rfl (by decide) (by decide) fun wa hia ea za => ?_
    refine goS ?_
    refine WO_call rfl (numU_ret rb (q + 3) _ [4, 1, 2, 5] _ wa (hr4.ext ea) (by omega) hia.int (by decide) (by have := hr4.lt; simp; omega)) ?_
    rintro _ wb ⟨y, hy, rfl, hr5, c5⟩
    replace hr4 := hr5
    replace hz4 := (hz4.ext ea).chg c5 (by simp; omega)
    replace c4 := (c4.trans (ea.chg _)).trans c5
    refine goS ?_
    refine WO_storeS (k := 6) (vs := [.int .i64 (7), .int .i64 (y), .int .i64 (0), .int .i64 (0), .slice none 0 0, .slice none 0 0]) rfl rfl rfl (by simp [Value.oneCell']) hz4 (by decide) fun wz hz oz => ?_
    replace hz : Blk wz w.heap.size [.int .i64 (7), .int .i64 (y), .int .i64 (0), .int .i64 (0), .slice none 0 0, .slice none 0 0] _ := hz
    refine goS ?_
    exact at_retC rfl rfl hz rfl ⟨StB.flat hpos, RdU.mono (RdU.chg hr4 oz.chg (by simp; omega)) (by omega), Chg.freshS c4 oz.chg (by simp)⟩
  · refine goS ?_
    refine WO_storeS (k := 6) (vs := [.int .i64 (8), .int .i64 (1 + (b : Int)), .int .i64 (0), .int .i64 (0), .slice none 0 0, .slice none 0 0]) rfl rfl rfl (by simp [Value.oneCell']) hz4 (by decide) fun wz hz oz => ?_
    replace hz : Blk wz w.heap.size [.int .i64 (8), .int .i64 (1 + (b : Int)), .int .i64 (0), .int .i64 (0), .slice none 0 0, .slice none 0 0] _ := hz
    refine goS ?_
    exact at_retC rfl rfl hz rfl ⟨StB.flat hpos, RdU.mono (RdU.chg hr4 oz.chg (by simp; omega)) (by omega), Chg.freshS c4 oz.chg (by simp)⟩
  · cases d with
    | zero => refine goS ?_
              refine WO_ints [4, 1, 2] rfl rfl (by decide) (by decide) fun wa hia ea za => ?_
              refine goS ?_
              refine WO_call rfl (numU_ret rb (q + 3) _ [4, 1, 2] _ wa (hr4.ext ea) (by omega) hia.int (by decide) (by have := hr4.lt; simp; omega)) ?_
              rintro _ wb ⟨y, hy, rfl, hr5, c5⟩
              replace hr4 := hr5
              replace hz4 := (hz4.ext ea).chg c5 (by simp; omega)
              replace c4 := (c4.trans (ea.chg _)).trans c5
              refine goS ?_
              refine WO_storeS (k := 6) (vs := [.int .i64 (5), .int .i64 (5), .int .i64 (y), .int .i64 (0), .slice none 0 0, .slice none 0 0]) rfl rfl rfl (by simp [Value.oneCell']) hz4 (by decide) fun wz hz oz => ?_
              replace hz : Blk wz w.heap.size [.int .i64 (5), .int .i64 (5), .int .i64 (y), .int .i64 (0), .slice none 0 0, .slice none 0 0] _ := hz
              refine goS ?_
              exact at_retC rfl rfl hz rfl ⟨StB.flat hpos, RdU.mono (RdU.chg hr4 oz.chg (by simp; omega)) (by omega), Chg.freshS c4 oz.chg (by simp)⟩
    | succ d =>
      have hQ : oneQ d ≤ 36 := by have : d = 0 ∨ d = 1 := by omega
                                  rcases this with rfl | rfl <;> decide
      refine goS ?_
      rw [decide_eq_true (show ((d + 1 : Nat) : Int) > 0 by omega)]
      refine goS ?_
      refine WO_call rfl (pickU_ret rb (q + 3) 3 w4 hr4 (by omega) (by decide)) ?_
      rintro _ w5 ⟨k, rfl, hk, hr5, c5⟩
      have hkq : k * oneQ d ≤ 2 * oneQ d := Nat.mul_le_mul (by omega) (Nat.le_refl _)
      have hkb : k * oneB d ≤ 2 * oneB d := Nat.mul_le_mul (by omega) (Nat.le_refl _)
      have hz5 := hz4.chg c5 (by simp; omega)
      rw [show ((d + 1 : Nat) : Int) - 1 = (d : Int) from by omega]
      refine WO_call rfl (ihS d rfl rb (q + 4) k tv w5 hr5 (by omega) (by omega)) ?_
      rintro v w6 ⟨hL, hr6, c6⟩
      obtain ⟨l, F, hrow, hnd, hF, hcl⟩ := hL.row
      have hz6 := hz5.chg c6 (by simp; omega)
      have hFl := hrow.lt
      refine goS ?_
      refine WO_call rfl (ihO (by omega) rb (q + 4 + 1 + k * oneQ d) tv w6 hr6 (by omega)) ?_
      rintro _ w7 ⟨hS, hr7, c7⟩
      obtain ⟨op, x, y, n, t, el, vt, ve, Ft, Fe, rfl, h2, h3, h4, h5, h6⟩ := hS
      have hz7 := hz6.chg c7 (by simp; omega)
      have hrow7 := hrow.chg c7 (fun z hz hm => by have := hF z hz; have := hz4.lt; have := c5.size; simp at hm; omega)
      have o1 := h2.one
      have o2 := h3.one
      refine goS ?_
      refine WO_build (e := 59) (k := 6) [.tmp 74] (vs := [stV op x y n vt ve]) (cs := [.int .i64 op, .int .i64 x, .int .i64 y, .int .i64 n, vt, ve]) rfl rfl rfl (by decide) (by decide) (by simp [stV, Value.cells]) (by simp [stV, Value.cells]) fun w8 hb8 e8 z8 => ?_
      have hr1 := row_one1 hb8 (h2.ext e8) (h3.ext e8)
      have hone := hrow.one
      refine Z13 (Z30 (cs := [.int .i64 9, .int .i64 0, .int .i64 0, .int .i64 0, v, .slice (some ⟨w7.heap.size, 0, none⟩) 1 1]) rfl (by simp [partsOk, hone, int_one, sl_one]) rfl) ?_
      have hz8 := hz7.ext e8
      refine WO_storeS (k := 6) (vs := [.int .i64 9, .int .i64 0, .int .i64 0, .int .i64 0, v, .slice (some ⟨w7.heap.size, 0, none⟩) 1 1]) rfl rfl rfl (by intro u hu; simp at hu; rcases hu with rfl | rfl | rfl | rfl <;> first | rfl | assumption) hz8 (by decide) fun wz hz oz => ?_
      replace hz : Blk wz w.heap.size [.int .i64 9, .int .i64 0, .int .i64 0, .int .i64 0, v, .slice (some ⟨w7.heap.size, 0, none⟩) 1 1] _ := hz
      have s4 := hz4.lt
      have s5 := c5.size
      have s6 := c6.size
      have s7 := c7.size
      refine goS ?_
      refine at_retC rfl rfl hz rfl ⟨⟨9, 0, 0, 0, l, Ss.one op x y n t el, v, _, F, _, rfl, (hrow7.ext e8).chg oz.chg (fun z hz hm => by have := hF z hz; simp at hm; omega), hr1.chg oz.chg (fun z hz hm => ?_), ?_, fun b hb => ?_, ?_⟩, RdU.mono (RdU.chg (hr7.ext e8) oz.chg (by simp; omega)) (by simp only [oneQ]; omega), Chg.freshS ((((c4.trans c5).trans c6).trans c7).trans (e8.chg _)) oz.chg (by simp)⟩
      · simp only [List.mem_singleton] at hm
        simp only [List.mem_cons, List.append_nil] at hz
        rcases hz with h | h
        · omega
        · have := h5 z h; omega
      · refine List.nodup_append.2 ⟨hnd, ?_, fun a ha b hb e => ?_⟩
        · rw [List.append_nil]
          exact List.nodup_cons.2 ⟨fun hm => by
            rcases List.mem_append.1 hm with h | h
            · have := h2.lt _ h; omega
            · have := h3.lt _ h; omega, h4⟩
        · subst e
          have := hFl a ha
          simp only [List.mem_cons, List.append_nil] at hb
          rcases hb with h | h
          · omega
          · have := h5 a h; omega
      · simp only [List.mem_append, List.mem_cons, List.not_mem_nil, or_false] at hb
        rcases hb with h | h | h | h
        · have := hF b h; omega
        · omega
        · have := h5 b (by simp [h]); omega
        · have := h5 b (by simp [h]); omega
      · simp only [Ss.one, cntL, oneB] at hcl h6 ⊢
        omega
  · cases d with
    | zero => refine goS ?_
              refine WO_ints [4, 1, 2] rfl rfl (by decide) (by decide) fun wa hia ea za => ?_
              refine goS ?_
              refine WO_call rfl (numU_ret rb (q + 3) _ [4, 1, 2] _ wa (hr4.ext ea) (by omega) hia.int (by decide) (by have := hr4.lt; simp; omega)) ?_
              rintro _ wb ⟨y, hy, rfl, hr5, c5⟩
              replace hr4 := hr5
              replace hz4 := (hz4.ext ea).chg c5 (by simp; omega)
              replace c4 := (c4.trans (ea.chg _)).trans c5
              refine goS ?_
              refine WO_storeS (k := 6) (vs := [.int .i64 (5), .int .i64 (5), .int .i64 (y), .int .i64 (0), .slice none 0 0, .slice none 0 0]) rfl rfl rfl (by simp [Value.oneCell']) hz4 (by decide) fun wz hz oz => ?_
              replace hz : Blk wz w.heap.size [.int .i64 (5), .int .i64 (5), .int .i64 (y), .int .i64 (0), .slice none 0 0, .slice none 0 0] _ := hz
              refine goS ?_
              exact at_retC rfl rfl hz rfl ⟨StB.flat hpos, RdU.mono (RdU.chg hr4 oz.chg (by simp; omega)) (by omega), Chg.freshS c4 oz.chg (by simp)⟩
    | succ d =>
      refine goS ?_
      rw [decide_eq_true (show ((d + 1 : Nat) : Int) > 0 by omega)]
      refine goS ?_
      refine WO_call rfl (ihO (by omega) rb (q + 3) tv w4 hr4 (by omega)) ?_
      rintro _ w6 ⟨hS, hr6, c6⟩
      obtain ⟨op', x', y', n', t', el', vt', ve', Ft', Fe', rfl, g2, g3, g4, g5, g6⟩ := hS
      have hz6 := hz4.chg c6 (by simp; omega)
      have hFl1 := g2.lt
      have hFl2 := g3.lt
      refine goS ?_
      refine WO_call rfl (ihO (by omega) rb (q + 3 + oneQ 0) tv w6 hr6 (by simp only [oneQ]; omega)) ?_
      rintro _ w7 ⟨hS, hr7, c7⟩
      obtain ⟨op, x, y, n, t, el, vt, ve, Ft, Fe, rfl, h2, h3, h4, h5, h6⟩ := hS
      have hz7 := hz6.chg c7 (by simp; omega)
      have s4 := hz4.lt
      have s6 := c6.size
      have s7 := c7.size
      have g2' := g2.chg c7 (fun z hz hm => by have := g5 z (by simp [hz]); simp at hm; omega)
      have g3' := g3.chg c7 (fun z hz hm => by have := g5 z (by simp [hz]); simp at hm; omega)
      have o1 := h2.one
      have o2 := h3.one
      have o3 := g2.one
      have o4 := g3.one
      refine WO_build (e := 59) (k := 6) [.tmp 83, .tmp 86] (vs := [stV op' x' y' n' vt' ve', stV op x y n vt ve]) (cs := [.int .i64 op', .int .i64 x', .int .i64 y', .int .i64 n', vt', ve', .int .i64 op, .int .i64 x, .int .i64 y, .int .i64 n, vt, ve]) rfl rfl rfl (by decide) (by decide) (by simp [stV, Value.cells]) (by simp [stV, Value.cells]) fun w8 hb8 e8 z8 => ?_
      have hr1 := row_two2 hb8 (g2'.ext e8) (g3'.ext e8) (h2.ext e8) (h3.ext e8)
      refine goS ?_
      have hz8 := hz7.ext e8
      refine WO_storeS (k := 6) (vs := [.int .i64 10, .int .i64 0, .int .i64 0, .int .i64 0, .slice (some ⟨w7.heap.size, 0, none⟩) 2 2, .slice none 0 0]) rfl rfl rfl (by simp [Value.oneCell']) hz8 (by decide) fun wz hz oz => ?_
      replace hz : Blk wz w.heap.size [.int .i64 10, .int .i64 0, .int .i64 0, .int .i64 0, .slice (some ⟨w7.heap.size, 0, none⟩) 2 2, .slice none 0 0] _ := hz
      have hmem : ∀ z ∈ Ft' ++ (Fe' ++ (Ft ++ (Fe ++ []))), w4.heap.size ≤ z ∧ z < w7.heap.size := fun z hz => by
        simp only [List.mem_append, List.not_mem_nil, or_false] at hz
        rcases hz with h | h | h | h
        · have := g5 z (by simp [h]); have := hFl1 z h; omega
        · have := g5 z (by simp [h]); have := hFl2 z h; omega
        · have := h5 z (by simp [h]); have := h2.lt z h; omega
        · have := h5 z (by simp [h]); have := h3.lt z h; omega
      refine goS ?_
      refine at_retC rfl rfl hz rfl ⟨⟨10, 0, 0, 0, .cons op' x' y' n' t' el' (Ss.one op x y n t el), .nil, _, _, _, [], rfl, hr1.chg oz.chg (fun z hz hm => ?_), RowS.nil_ _ _, ?_, fun b hb => ?_, ?_⟩, RdU.mono (RdU.chg (hr7.ext e8) oz.chg (by simp; omega)) (by simp only [oneQ]; omega), Chg.freshS (((c4.trans c6).trans c7).trans (e8.chg _)) oz.chg (by simp)⟩
      · simp only [List.mem_singleton] at hm
        rcases List.mem_cons.1 hz with h | h
        · omega
        · have := hmem z h; omega
      · rw [List.append_nil]
        refine List.nodup_cons.2 ⟨fun hm => by have := hmem _ hm; omega, ?_⟩
        have a1 := List.nodup_append.1 g4
        have a2 := List.nodup_append.1 h4
        have hx : ∀ a, a ∈ Ft' ++ Fe' → ∀ b, b ∈ Ft ++ Fe → a ≠ b := fun a ha b hb e => by
          subst e
          have := h5 a hb
          rcases List.mem_append.1 ha with h | h
          · have := hFl1 a h; omega
          · have := hFl2 a h; omega
        rw [List.append_nil, ← List.append_assoc]
        exact List.nodup_append.2 ⟨g4, h4, hx⟩
      · rw [List.append_nil] at hb
        rcases List.mem_cons.1 hb with h | h
        · omega
        · have := hmem b h; omega
      · simp only [Ss.one, cntL, oneB] at g6 h6 ⊢
        omega
theorem one0 : DoP 0 := l1One_ret 0 (by decide) (fun h => absurd rfl h) (fun d' h => by omega)
theorem some0 : DsP 0 := l1Some_ret 0 (by decide) one0
theorem one1 : DoP 1 := l1One_ret 1 (by decide) (fun _ => one0) (fun d' h => by have : d' = 0 := by omega
                                                                                subst this; exact some0)
theorem some1 : DsP 1 := l1Some_ret 1 (by decide) one1
theorem one2 : DoP 2 := l1One_ret 2 (by decide) (fun _ => one0) (fun d' h => by have : d' = 1 := by omega
                                                                                subst this; exact some1)
theorem some2 : DsP 2 := l1Some_ret 2 (by decide) one2
end Go.Proofs.YtplcmbipeanjdaaGreatDoor
namespace Go.Proofs.YtplcmbipeanjdaaGreatDoor
set_option linter.unusedVariables false
set_option linter.unusedSimpArgs false
set_option linter.unnecessarySimpa false
open Go.RowKit

section
variable {P : Program} {σ : Env} {w : World} {d : Nat} {ty : TypeId} {pos : String} {af : Array Edge} {x y z : Operand}
/-- s[l:h] of a slice. -/
theorem q_slMidC {g : Option (Nat × Bool)} {t e k len cap l h : Nat} {A : Option Addr} {i j : Int} [TSl P t e k] (hx : ev σ x = some (.slice A len cap)) (hy : ev σ y = some (.int .i64 i)) (hz : ev σ z = some (.int .i64 j)) (hi : i = (l : Int)) (hj : j = (h : Int)) (hl : l ≤ h) (hh : h ≤ cap) :
    DoesQ P ⟨some d, .slice t x (some y) (some z) none, ty, pos, af, g⟩ σ w (.slice (if cap = l then A else A.map (·.add (l * k))) (h - l) (cap - l)) := ⟨fun w2 he => ⟨fun m c hf => by
  subst hi; subst hj
  have h1 : (l : Int) ≤ (h : Int) := by omega
  have h2 : ¬ h < l := by omega
  have h3 : (h : Int) ≤ (cap : Int) := by omega
  have h4 : ¬ cap < h := by omega
  simp [execOp, fits_ev hf hx, fits_ev hf hy, fits_ev hf hz, Instr.sliceAt, Instr.slice, run_underlying (TSl.und (P := P) (t := t) (e := e) (k := k)), Instr.sliceBounds, Instr.sliceBound, asIntOf, h1, h2, h3, h4, hl, hh, TSl.run_sizeOf (P := P) (t := t) (e := e) (k := k) inferInstance]⟩⟩
end
/-- The row without its statement k. -/
def drpL (l : Ss) (k : Nat) : Ss := (l.take k).app (l.drop (k + 1))
theorem drp_len {l : Ss} {k : Nat} (h : k < l.len) : (drpL l k).len = l.len - 1 := by
  unfold drpL
  rw [Ss.len_app, Ss.len_take k l (by omega), Ss.len_drop]
  omega
theorem drp_cnt (l : Ss) (k : Nat) : cntL (drpL l k) ≤ cntL l := by
  have h1 := cnt_take_drop k l
  have h2 : cntL (l.drop (k + 1)) ≤ cntL (l.drop k) := by
    by_cases h : k < l.len
    · obtain ⟨op, x, y, n, t, e, r, _, _, q3, q4⟩ := Ss.at_ h
      rw [q3, q4]
      simp only [cntL]
      omega
    · have : (l.drop (k + 1)).len = 0 := by rw [Ss.len_drop]; omega
      rw [Ss.len_zero this]
      simp [cntL]
  unfold drpL
  rw [cntL_app]
  omega
section
variable {P : Program} {w : World} {v : Value} {l : Ss} {F : List Nat} {t e ty bytes : Nat} {z : Value} {k : Nat}
/-- What is appended to an owned row with room is written there. -/
theorem app_room [TSl P t e 6] {i : TypeInfo} (hi : P.info? e = some i) (hsz : i.size = 6) {g n cap m c : Nat} {xs news : List Value} (hown : w.ownsRow 0 e 6 (.slice (some ⟨g, 0, none⟩) n cap) n xs) (ad : Addr) (hl : news.length = m * 6) (hnews : ∀ j u, news[j]? = some u → w.cell? (ad.add j) = some u) (h1 : ∀ u ∈ news, u.oneCell' = true) (hroom : n + m ≤ cap) :
    ∃ w', (∀ ty, (Builtin.append_ #[t, t] ty #[.slice (some ⟨g, 0, none⟩) n cap, .slice (some ad) m c]).run P w = .ok (.slice (some ⟨g, 0, none⟩) (n + m) cap) w') ∧
      w'.ownsRow 0 e 6 (.slice (some ⟨g, 0, none⟩) (n + m) cap) (n + m) (xs ++ news) ∧ w.grownBy w' (some g) := by
  have hlen : (xs ++ news).length = (n + m) * 6 := by rw [List.length_append, hown.1, hl, Nat.add_mul]
  rcases hown.2 with ⟨h0, _⟩ | ⟨g', cap', cur, hv, hbg, hg, hnc, hcm, hcs, htake⟩
  · cases h0
  · cases hv
    have hmul : (n + m) * 6 ≤ cap * 6 := Nat.mul_le_mul_right _ hroom
    have hfit : n * i.size + news.length ≤ cur.size := by rw [hl, hcs, hsz]; omega
    refine ⟨_, fun ty => run_append_room (P := P) w t ty e i (TSl.und (P := P) (t := t) (e := e) (k := 6)) hi g n cap cur hg ad m c news (by rw [hsz]; exact hl) hnews h1 hroom hfit, ⟨hlen, .inr ⟨g, cap, _, rfl, hbg, setRow_heap w g cur _ e _ hg, hroom, hcm, ?_, ?_⟩⟩, ⟨rfl, rfl, rfl, by simp, fun k _ hk => setRow_other w g k _ (fun e => hk (by simp [e]))⟩⟩
    · rw [hsz] at hfit
      simp only [hsz, List.size_toArray, List.length_append, List.length_take, List.length_drop, Array.length_toList]
      omega
    · simp only [hsz]
      rw [htake, ← hlen]
      exact List.take_left
/-- append(s[:k], s[k+1:]...) on an owned row. -/
theorem del_run [TSl P t e 6] [TE P e z 6 bytes] (h : RowS e w v l F) (hnd : F.Nodup) (hk : k < l.len) : ∃ g cap Fs Fd w', v = .slice (some ⟨g, 0, none⟩) l.len cap ∧ l.len ≤ cap ∧ F = g :: Fs ∧
    (∀ ty, (Builtin.append_ #[t, t] ty #[.slice (some ⟨g, 0, none⟩) k cap, .slice (if cap = k + 1 then some ⟨g, 0, none⟩ else (some (⟨g, 0, none⟩ : Addr)).map (·.add ((k + 1) * 6))) (l.len - (k + 1)) (cap - (k + 1))]).run P w = .ok (.slice (some ⟨g, 0, none⟩) (l.len - 1) cap) w') ∧
    RowS e w' (.slice (some ⟨g, 0, none⟩) (l.len - 1) cap) (drpL l k) (g :: Fd) ∧ Fd.Sublist Fs ∧ Chg [g] w w' := by
  obtain ⟨i, hi, hz, hsz, hb⟩ := TE.row (P := P) (e := e) (z := z) (k := 6) (bytes := bytes) inferInstance
  obtain ⟨xs, Fs, h1, h2, rfl⟩ := h
  obtain ⟨op, x, y, n, t', el, r, q1, q2, q3, q4⟩ := Ss.at_ hk
  obtain ⟨hl, ⟨rfl, h0⟩ | ⟨g, cap, cur, rfl, hB, hg, hnc, hm, hs, ht⟩⟩ := h1
  · omega
  rw [q1] at h2
  obtain ⟨xs1, xs2, F1, F2, rfl, rfl, a1, a2⟩ := StkS.split _ _ _ _ h2
  obtain ⟨vt, ve, Ft, Fe, Fr, xr, rfl, rfl, b1, b2, b3⟩ := StkS.cons_ a2
  have hl1 := StkS.length _ _ _ a1
  rw [q2] at hl1
  have hlr := StkS.length _ _ _ b3
  have hrl : r.len = l.len - (k + 1) := by rw [← q4, Ss.len_drop]
  have hpre : w.ownsRow 0 e 6 (.slice (some ⟨g, 0, none⟩) k cap) k xs1 := by
    refine ⟨hl1, .inr ⟨g, cap, cur, rfl, Nat.zero_le _, hg, by omega, hm, hs, ?_⟩⟩
    have : cur.toList.take (k * 6) = (cur.toList.take (l.len * 6)).take (k * 6) := by rw [List.take_take]; congr 1; omega
    rw [this, ht, List.take_left' hl1]
  have hcell : ∀ j u, xr[j]? = some u → w.cell? ⟨g, (k + 1) * 6 + j, none⟩ = some u := fun j u hu => by
    have hbk : Blk w g cur.toList e := by simpa [Blk] using hg
    refine hbk.cell ?_
    have hj : j < xr.length := (List.getElem?_eq_some_iff.1 hu).1
    have h1 : (cur.toList.take (l.len * 6))[(k + 1) * 6 + j]? = some u := by
      rw [ht, List.getElem?_append_right (by omega), show (k + 1) * 6 + j - xs1.length = j + 1 + 1 + 1 + 1 + 1 + 1 from by omega]
      simpa using hu
    rw [List.getElem?_take] at h1
    split at h1
    · exact h1
    · cases h1
  have hone : ∀ u ∈ xr, u.oneCell' = true := StkS.one _ _ _ b3
  have hmm : k + (l.len - (k + 1)) = l.len - 1 := by omega
  have hrun : ∃ w', (∀ ty, (Builtin.append_ #[t, t] ty #[.slice (some ⟨g, 0, none⟩) k cap, .slice (if cap = k + 1 then some ⟨g, 0, none⟩ else (some (⟨g, 0, none⟩ : Addr)).map (·.add ((k + 1) * 6))) (l.len - (k + 1)) (cap - (k + 1))]).run P w = .ok (.slice (some ⟨g, 0, none⟩) (l.len - 1) cap) w') ∧
      w'.ownsRow 0 e 6 (.slice (some ⟨g, 0, none⟩) (l.len - 1) cap) (l.len - 1) (xs1 ++ xr) ∧ w.grownBy w' (some g) := by
    have key : ∀ ad : Addr, (∀ j u, xr[j]? = some u → w.cell? (ad.add j) = some u) → ∃ w', (∀ ty, (Builtin.append_ #[t, t] ty #[.slice (some ⟨g, 0, none⟩) k cap, .slice (some ad) (l.len - (k + 1)) (cap - (k + 1))]).run P w = .ok (.slice (some ⟨g, 0, none⟩) (l.len - 1) cap) w') ∧
      w'.ownsRow 0 e 6 (.slice (some ⟨g, 0, none⟩) (l.len - 1) cap) (l.len - 1) (xs1 ++ xr) ∧ w.grownBy w' (some g) := by
      intro ad had
      obtain ⟨w', r1, r2, r3⟩ := app_room (P := P) (t := t) hi hsz (c := cap - (k + 1)) hpre ad (by rw [hlr, hrl]) had hone (show k + (l.len - (k + 1)) ≤ cap by omega)
      rw [hmm] at r1 r2
      exact ⟨w', r1, r2, r3⟩
    by_cases hc : cap = k + 1
    · rw [if_pos hc]
      refine key _ fun j u hu => ?_
      have := (List.getElem?_eq_some_iff.1 hu).1
      omega
    · rw [if_neg hc]
      simp only [Option.map_some, add_some, Nat.zero_add]
      exact key _ fun j u hu => by rw [add_some]; exact hcell j u hu
  obtain ⟨w', r1, r2, r3⟩ := hrun
  have hc := grown_chg r3
  have hgn : g ∉ F1 ++ (Ft ++ (Fe ++ Fr)) := by simpa [Value.ownBlock] using (List.nodup_cons.1 (by simpa [Value.ownBlock] using hnd : (g :: (F1 ++ (Ft ++ (Fe ++ Fr)))).Nodup)).1
  simp only [List.mem_append, not_or] at hgn
  refine ⟨g, cap, F1 ++ (Ft ++ (Fe ++ Fr)), F1 ++ Fr, w', rfl, hnc, rfl, r1, ⟨xs1 ++ xr, F1 ++ Fr, by rw [drp_len hk]; exact r2, ?_, rfl⟩, ?_, hc⟩
  · unfold drpL
    rw [q4]
    exact StkS.append _ _ _ _ _ _ (StkS.chg hc _ _ _ a1 (by simp; exact fun z hz e => hgn.1 (e ▸ hz))) (StkS.chg hc _ _ _ b3 (by simp; exact fun z hz e => hgn.2.2.2 (e ▸ hz)))
  · exact List.Sublist.append (List.Sublist.refl _) ((List.sublist_append_right _ _).trans (List.sublist_append_right _ _))
/-- clear(s[len:old]) on an owned row. -/
theorem clear_run {c' : Nat} [TSl P t e 6] [TE P e z 6 bytes] (hz1 : z.cells.toList.length = 6) (ho : ∀ u ∈ z.cells.toList, u.oneCell' = true) {g cap m : Nat} {Fd : List Nat} (h : RowS e w (.slice (some ⟨g, 0, none⟩) m cap) l (g :: Fd)) (hm : m = l.len) (hcap : m + 1 ≤ cap) (hgn : g ∉ Fd) :
    ∃ w', (∀ ty, (Builtin.clear_ #[t] ty #[.slice (some ⟨g, m * 6, none⟩) 1 c']).run P w = .ok (.tuple #[]) w') ∧ RowS e w' (.slice (some ⟨g, 0, none⟩) m cap) l (g :: Fd) ∧ Chg [g] w w' := by
  subst hm
  obtain ⟨xs, Fs, ⟨hl, ⟨h0, _⟩ | ⟨g', cap', cur, hv, hB, hg, hnc, hm, hs, ht⟩⟩, h2, hF⟩ := h
  · cases h0
  · cases hv
    have hFs : Fd = Fs := by simpa [Value.ownBlock] using hF
    subst hFs
    have hmul : (l.len + 1) * 6 ≤ cap * 6 := Nat.mul_le_mul_right 6 hcap
    have hst := run_storeCells_at P g (l.len * 6) e z.cells.toList 0 cur w hg (by rw [hz1, hs]; omega) ho
    simp only [Nat.add_zero] at hst
    have hzc : (Builtin.zeroCells z.cells 1).toList = z.cells.toList := by
      have := made_list z.cells 1 (by simpa using (show 0 < z.cells.toList.length by omega))
      unfold madeCells at this
      unfold Builtin.zeroCells
      rw [this]
      simp
    have hb : Blk w g cur.toList e := by simpa [Blk] using hg
    refine ⟨w.setRow g (List.take (l.len * 6) cur.toList ++ z.cells.toList ++ List.drop (l.len * 6 + z.cells.toList.length) cur.toList).toArray, fun ty => ?_, ?_, (only_setRow w g _).chg⟩
    · simp only [Builtin.clear_, Sem.run_bind, run_underlying (TSl.und (P := P) (t := t) (e := e) (k := 6)), Result.andThen_ok, TE.run_zero (P := P) (e := e) (z := z) (k := 6) (bytes := bytes) inferInstance]
      simp [hzc, hst, run_underlying (TSl.und (P := P) (t := t) (e := e) (k := 6)), TE.run_zero (P := P) (e := e) (z := z) (k := 6) (bytes := bytes) inferInstance]
    · refine ⟨xs, Fd, ⟨hl, .inr ⟨g, cap, _, rfl, Nat.zero_le _, setRow_heap w g cur _ e _ hg, hnc, hm, ?_, ?_⟩⟩, StkS.chg (only_setRow w g _).chg _ _ _ h2 (by simp; exact fun z hz e => hgn (e ▸ hz)), by simp [Value.ownBlock]⟩
      · have hz2 : z.cells.size = 6 := by simpa using hz1
        simp [hz2]
        omega
      · rw [List.append_assoc, List.take_left' (by simp; omega), ← ht]
end
section
variable {P : Program} {n : Nat} {ops : Array Oper} {Q : Exit → Act → World → Prop} {rest : List Oper} {σ : Env} {w w' : World} {v a b : Value}
variable {d : Nat} {ty : TypeId} {pos : String} {af : Array Edge} {x y s z u : Operand}
theorem WO_appRun {t : TypeId} (hs : ev σ s = some a) (hx : ev σ x = some b) (hr : ∀ ty, (Builtin.append_ #[t, t] ty #[a, b]).run P w = .ok v w') (h : WO P n ops Q rest ((d, v) :: σ) w') :
    WO P n ops Q (⟨some d, .call ⟨.builtin .append, #[s, x], #[t, t]⟩, ty, pos, af, none⟩ :: rest) σ w :=
  WO.value rfl ⟨fun _ c hf => by simp [execOp, resolve, invoke, builtin, fits_ev hf hs, fits_ev hf hx, hr]⟩ h
theorem WO_clearRun {t : TypeId} (hx : ev σ x = some b) (hr : ∀ ty, (Builtin.clear_ #[t] ty #[b]).run P w = .ok (.tuple #[]) w') (h : WO P n ops Q rest σ w') :
    WO P n ops Q (⟨none, .call ⟨.builtin .clear, #[x], #[t]⟩, ty, pos, af, none⟩ :: rest) σ w :=
  WO.value (v := .tuple #[]) rfl ⟨fun _ c hf => by simp [execOp, resolve, invoke, builtin, fits_ev hf hx, hr]⟩ h
/-- s[l:h:m] of a slice. -/
theorem q_sl3 {g : Option (Nat × Bool)} {t e k len cap l h m : Nat} {A : Option Addr} {i j p : Int} [TSl P t e k] (hx : ev σ x = some (.slice A len cap)) (hy : ev σ y = some (.int .i64 i)) (hz : ev σ z = some (.int .i64 j)) (hu : ev σ u = some (.int .i64 p)) (hi : i = (l : Int)) (hj : j = (h : Int)) (hp : p = (m : Int)) (hl : l ≤ h) (hh : h ≤ m) (hm : m ≤ cap) :
    DoesQ P ⟨some d, .slice t x (some y) (some z) (some u), ty, pos, af, g⟩ σ w (.slice (if m = l then A else A.map (·.add (l * k))) (h - l) (m - l)) := ⟨fun w2 he => ⟨fun m' c hf => by
  subst hi; subst hj; subst hp
  have h1 : (l : Int) ≤ (h : Int) := by omega
  have h2 : ¬ h < l := by omega
  have h3 : (h : Int) ≤ (m : Int) := by omega
  have h4 : ¬ m < h := by omega
  have h5 : (m : Int) ≤ (cap : Int) := by omega
  have h6 : ¬ cap < m := by omega
  simp [execOp, fits_ev hf hx, fits_ev hf hy, fits_ev hf hz, fits_ev hf hu, Instr.sliceAt, Instr.slice, run_underlying (TSl.und (P := P) (t := t) (e := e) (k := k)), Instr.sliceBounds, Instr.sliceBound, asIntOf, h1, h2, h3, h4, h5, h6, hl, hh, hm, TSl.run_sizeOf (P := P) (t := t) (e := e) (k := k) inferInstance]⟩⟩
end
/-- What DropStmt makes. -/
def drpR (tl : List Int) (l : Ss) (k : Int) : Option Ss := if validP tl l = true ∧ 0 ≤ k ∧ k ≤ (l.len : Int) - 1 then some (drpL l k.toNat) else none
theorem drpR_cnt (tl : List Int) (l : Ss) (k : Int) : cntL (chL (drpR tl l k)) ≤ cntL l := by
  unfold drpR chL
  split
  · exact drp_cnt l _
  · simp [cntL]
end Go.Proofs.YtplcmbipeanjdaaGreatDoor
namespace Go.Proofs.YtplcmbipeanjdaaGreatDoor
set_option linter.unusedVariables false
set_option linter.unusedSimpArgs false
set_option linter.unnecessarySimpa false
open Go.RowKit

theorem fld_in {cs a : List Value} {o f : Nat} {v : Value} (h : ∀ (j : Nat) u, a[j]? = some u → cs[o + j]? = some u) : ∀ (j : Nat) u, (a.set f v)[j]? = some u → (cs.set (o + f) v)[o + j]? = some u := by
  intro j u hu
  rw [List.getElem?_set] at hu ⊢
  by_cases hj : f = j
  · subst hj
    rw [if_pos rfl] at hu ⊢
    by_cases hf : f < a.length
    · rw [if_pos hf] at hu
      have := (List.getElem?_eq_some_iff.1 (h f _ (List.getElem?_eq_getElem hf))).1
      rw [if_pos this]
      exact hu
    · rw [if_neg hf] at hu
      cases hu
  · rw [if_neg hj] at hu
    rw [if_neg (by omega)]
    exact h j u hu
theorem fld_out {cs : List Value} {o f p : Nat} {v : Value} (hf : f < 6) (hp : p < o ∨ o + 6 ≤ p) : (cs.set (o + f) v)[p]? = cs[p]? := List.getElem?_set_ne (by omega)
/-- A number of a statement can be set. -/
theorem row_fld {e : TypeId} {w : World} {v : Value} {l : Ss} {F : List Nat} (h : RowS e w v l F) (hnd : F.Nodup) {i : Nat} (hi : i < l.len) : ∃ g cap cs, v = .slice (some ⟨g, 0, none⟩) l.len cap ∧ l.len ≤ cap ∧ g ∈ F ∧ Blk w g cs e ∧ i * 6 + 6 ≤ cs.length ∧
    ∀ f z w' G, f < 4 → Blk w' g (cs.set (i * 6 + f) (.int .i64 z)) e → Chg G w w' → (∀ x ∈ F, x ≠ g → x ∉ G) → ∃ l', RowS e w' v l' F ∧ l'.len = l.len ∧ cntL l' = cntL l := by
  obtain ⟨op, x, y, n, t, el, r, q1, q2, q3, q4⟩ := Ss.at_ hi
  have hsl := h.slice
  have hlen : (l.take i).len = i := q2
  generalize l.take i = d at q1 hlen
  subst q1
  obtain ⟨g, cap, cs, vt, ve, F1, Ft, Fe, F2, hv, rfl, hb, hcl, hcells, hT, hE, hup⟩ := h.upd
  rw [hlen] at hcl hcells hup
  obtain ⟨A, c, hv2, hlc, _⟩ := hsl
  have hcc : c = cap := by rw [hv] at hv2; injection hv2 with _ _ h3; exact h3.symm
  subst hcc
  have hgF := (List.nodup_cons.1 hnd).1
  simp only [List.mem_append, not_or] at hgF
  refine ⟨g, c, cs, hv, hlc, by simp, hb, hcl, fun f z w' G hf hb' hc hG => ?_⟩
  have hin := fld_in (f := f) (v := .int .i64 z) hcells
  have hTk := hT.chg hc (fun z hz => hG z (by simp [hz]) (fun e => hgF.2.1 (e ▸ hz)))
  have hEk := hE.chg hc (fun z hz => hG z (by simp [hz]) (fun e => hgF.2.2.1 (e ▸ hz)))
  have hd : ∀ z ∈ F1 ++ F2, z ∉ G := fun z hz => by
    rcases List.mem_append.1 hz with h | h
    · exact hG z (by simp [h]) (fun e => hgF.1 (e ▸ h))
    · exact hG z (by simp [h]) (fun e => hgF.2.2.2 (e ▸ h))
  have ho : ∀ p, (p < i * 6 ∨ i * 6 + 6 ≤ p) → (cs.set (i * 6 + f) (.int .i64 z))[p]? = cs[p]? := fun p hp => fld_out (by omega) hp
  have fin : ∀ op' x' y' n', RowS e w' v (d.app (.cons op' x' y' n' t el r)) (g :: (F1 ++ (Ft ++ (Fe ++ F2)))) → ∃ l', RowS e w' v l' (g :: (F1 ++ (Ft ++ (Fe ++ F2)))) ∧ l'.len = (d.app (.cons op x y n t el r)).len ∧ cntL l' = cntL (d.app (.cons op x y n t el r)) :=
    fun op' x' y' n' h => ⟨_, h, by simp [Ss.len_app, Ss.len], by simp [cntL_app, cntL]⟩
  match f, hf with
  | 0, _ => exact fin z x y n (hup w' _ z x y n t el vt ve Ft Fe G hb' (by simp) ho hin hTk hEk hc hd)
  | 1, _ => exact fin op z y n (hup w' _ op z y n t el vt ve Ft Fe G hb' (by simp) ho hin hTk hEk hc hd)
  | 2, _ => exact fin op x z n (hup w' _ op x z n t el vt ve Ft Fe G hb' (by simp) ho hin hTk hEk hc hd)
  | 3, _ => exact fin op x y z (hup w' _ op x y z t el vt ve Ft Fe G hb' (by simp) ho hin hTk hEk hc hd)
theorem csAt_takeS {w : World} : ∀ (k : Nat) (l : Ss) (b o : Nat) (F : List Nat), CsAt w (encS l) b o F → ∃ F', CsAt w (encS (l.take k)) b o F' ∧ ∀ x ∈ F', x ∈ F
  | 0, _, _, _, _, _ => ⟨[], rfl, by simp⟩
  | _ + 1, .nil, _, _, _, _ => ⟨[], rfl, by simp⟩
  | k + 1, .cons op x y n t e r, b, o, F, ⟨h0, h1, h2, h3, vt, Ft, F1, e1, h4, hT, ve, Fe, Fr, e2, h5, hE, hr⟩ => by
    obtain ⟨F', h, hs⟩ := csAt_takeS k r _ _ _ hr
    refine ⟨_, ⟨h0, h1, h2, h3, vt, Ft, _, rfl, h4, hT, ve, Fe, F', rfl, h5, hE, h⟩, fun z hz => ?_⟩
    subst e1; subst e2
    simp only [List.mem_append] at hz ⊢
    rcases hz with h | h | h
    · exact .inl h
    · exact .inr (.inl h)
    · exact .inr (.inr (hs z h))
theorem StS.takeS {w : World} {A : Option Addr} {m c : Nat} {l : Ss} {F : List Nat} (h : StS w (.slice A m c) l F) (k : Nat) (hk : k ≤ l.len) : ∃ F', StS w (.slice A k c) (l.take k) F' ∧ ∀ x ∈ F', x ∈ F := by
  obtain ⟨A', c', e, ⟨hm, hmc⟩, hs⟩ := h
  cases e
  have hl := Ss.len_take k l hk
  rcases hs with ⟨h0, _⟩ | ⟨b, o, F', hA, hF, hs⟩
  · exact ⟨[], ⟨A, c, by rw [hl], ⟨by omega, by omega⟩, .inl ⟨by omega, rfl⟩⟩, by simp⟩
  · obtain ⟨F2, h2, hsub⟩ := csAt_takeS k l b o F' hs
    refine ⟨_, ⟨A, c, by rw [hl], ⟨by omega, by omega⟩, .inr ⟨b, o, F2, hA, rfl, h2⟩⟩, fun x hx => ?_⟩
    rw [hF]
    rcases List.mem_cons.1 hx with h | h
    · simp [h]
    · simp [hsub x h]
end Go.Proofs.YtplcmbipeanjdaaGreatDoor
