/-
  What is proved here: an argument that is a list of cells, or a pointer to a cell, read as data, is what the walks ask.
-/
import Derived.Test.YtnfapbghkmodeaaDoorPost
import Derived.Test.YtnfapbghkmodeaaDoorCell
import Derived.Deep.SlicePairs
import Derived.Lib.SmallJoins
namespace Go.Proofs.YtnfapbghkmodeaaDoor
set_option linter.unusedVariables false
set_option linter.unusedSimpArgs false
set_option linter.unnecessarySimpa false
open Go.ChangeShapes Go.WideShapes Go.ChangeAt Go.RowKit Go.Deep Go.Joins
section
variable {H : Type} {enc : TypeId × Value → H} {W : World} {base b0 : Nat} {sp : Nat → Bool} {hd : Bool} {r : Reach} {v : Value} {d : DataW H} {ps : List MemPlace}
theorem addr_plainC {w : World} {a : Addr} {v : Value} (h : w.cell? a = some v) : a.spot = none := by
  unfold World.cell? at h
  split at h
  · cases hs : a.spot <;> simp_all
  · cases h
theorem add_zero' (x : Addr) : x.add 0 = x := by simp [Addr.add]
theorem addC_plain {a : Addr} (h : (a.add 0).spot = none) : a = ⟨a.block, a.off, none⟩ := by
  rw [add_zero'] at h
  obtain ⟨b, o, s⟩ := a
  simp only at h
  subst h
  rfl
theorem encT_mk {w : World} : ∀ (l : List Tg) (b o : Nat), (∀ (i : Nat) (hi : i < l.length), w.cell? ⟨b, o + i * 2, none⟩ = some (.int .i64 l[i].id) ∧ w.cell? ⟨b, o + i * 2 + 1, none⟩ = some (.bool l[i].u)) → CsAt w (encT l) b o []
  | [], _, _, _ => rfl
  | t :: r, b, o, h => by
    have h0 := h 0 (by simp)
    refine ⟨by simpa using h0.1, by simpa using h0.2, encT_mk r b _ fun i hi => ?_⟩
    have := h (i + 1) (by simpa using hi)
    rw [show o + (i + 1) * 2 = o + 1 + 1 + i * 2 from by omega] at this
    simpa using this
theorem encC_mk {w : World} : ∀ (l : List Ce) (b o : Nat), (∀ (i : Nat) (hi : i < l.length), ∃ vs Fs, w.cell? ⟨b, o + i * 4, none⟩ = some (.int .i64 l[i].val) ∧ w.cell? ⟨b, o + i * 4 + 1, none⟩ = some (.bool l[i].al) ∧
    w.cell? ⟨b, o + i * 4 + 2, none⟩ = some (.int .i64 l[i].nx) ∧ w.cell? ⟨b, o + i * 4 + 3, none⟩ = some vs ∧ TgS w vs l[i].st Fs) → ∃ F, CsAt w (encC l) b o F
  | [], _, _, _ => ⟨[], rfl⟩
  | c :: r, b, o, h => by
    obtain ⟨vs, Fs, a0, a1, a2, a3, a4⟩ := h 0 (by simp)
    obtain ⟨F, hF⟩ := encC_mk r b (o + 1 + 1 + 1 + 1) fun i hi => by
      have := h (i + 1) (by simpa using hi)
      rw [show o + (i + 1) * 4 = o + 1 + 1 + 1 + 1 + i * 4 from by omega] at this
      simpa using this
    exact ⟨Fs ++ F, by simpa using a0, by simpa using a1, by simpa using a2, vs, Fs, F, rfl, by simpa using a3, a4, hF⟩
theorem trod_tags {fuel : Nat} {cs : List Value} {x : DataW H × List MemPlace} (h : DataW.trod enc Tryd.prog W base sp hd fuel 37 cs = some x) : ∃ l v F, cs = [v] ∧ TgS W v l F := by
  rcases open_slice_pairs Tryd.underlying37 Tryd.underlying70 (by kernel_rfl) (by rfl) (by rfl) (by kernel_rfl) (by kernel_rfl) h with ⟨rfl, _⟩ | ⟨a, len, cap, m, n, V0, V1, D0, D1, P0, P1, rfl, _, hl, hm, hmm, _, hx⟩
  · exact ⟨[], _, [], rfl, none, 0, rfl, by simp, .inl ⟨rfl, rfl⟩⟩
  · have hlm : len ≤ m := by rw [hmm]; split <;> omega
    obtain ⟨f, hf⟩ := choose_lt (n := len) (p := fun i (t : Tg) => W.cell? (a.add (i * 2)) = some (.int .i64 t.id) ∧ W.cell? (a.add (i * 2 + 1)) = some (.bool t.u)) fun i hi => by
      obtain ⟨c0, c1, t0, t1⟩ := hx i (by omega)
      obtain ⟨k, hk, _⟩ := DataW.trod_int Tryd.underlying3 t0
      obtain ⟨q, hq, _⟩ := DataW.trod_bool Tryd.underlying4 t1
      simp only [List.cons.injEq, and_true] at hk hq
      exact ⟨⟨k, q⟩, by rw [c0, hk], by rw [c1, hq]⟩
    unfold maxLen at hm
    rcases Nat.eq_zero_or_pos len with h0 | h0
    · exact ⟨[], _, [], rfl, some a, cap, by rw [h0]; rfl, by simp, .inl ⟨rfl, rfl⟩⟩
    · have ha := addC_plain (addr_plainC (by simpa using (hf 0 h0).1))
      rw [ha] at hf ⊢
      refine ⟨(List.range len).map f, _, [a.block], rfl, _, cap, by simp, by simp; unfold maxI; omega, .inr ⟨a.block, a.off, [], rfl, rfl, encT_mk _ _ _ fun i hi => ?_⟩⟩
      have := hf i (by simpa using hi)
      rw [add_some, add_some] at this
      simpa [Nat.add_assoc] using this
set_option maxRecDepth 100000 in
theorem open_Cells (hv : Value.okWide Tryd.prog W r b0 22 v) (h : DataW.Trod enc Tryd.prog W base sp hd 22 v d ps) : ∃ x : List Ce × List Nat, CeS W v x.1 x.2 := by
  obtain ⟨a0, len, cap, rfl⟩ := okWide_slice Tryd.underlying22 hv
  obtain ⟨fuel, hf⟩ := h
  rcases open_slice Tryd.underlying22 hf with ⟨hcs, _⟩ | ⟨a, len', cap', m, n, D, Pl, hcs, _, hl, hm, hmm, _, hx⟩
  · simp [Value.cells] at hcs
    obtain ⟨rfl, rfl, rfl⟩ := hcs
    exact ⟨([], []), none, 0, rfl, by simp, .inl ⟨rfl, rfl⟩⟩
  · simp [Value.cells] at hcs
    obtain ⟨rfl, rfl, rfl⟩ := hcs
    have hlm : len ≤ m := by rw [hmm]; split <;> omega
    have hC : Tryd.prog.cellsOf 39 = 4 := by kernel_rfl
    rw [hC] at hx
    obtain ⟨f, hf⟩ := choose_lt (n := len) (p := fun i (c : Ce × Value × List Nat) => W.cell? (a.add (i * 4)) = some (.int .i64 c.1.val) ∧ W.cell? ((a.add (i * 4)).add 1) = some (.bool c.1.al) ∧ W.cell? ((a.add (i * 4)).add 2) = some (.int .i64 c.1.nx) ∧
        W.cell? ((a.add (i * 4)).add 3) = some c.2.1 ∧ TgS W c.2.1 c.1.st c.2.2) fun i hi => by
      obtain ⟨cs', h1, h2⟩ := hx i (by omega)
      obtain ⟨_, hlen, hcell⟩ := World.cells?_some h1
      obtain ⟨y0, y1, y2, y3, k, _, _, t0, t1, t2, t3⟩ := trod_struct4 Tryd.underlying39 h2
      match cs', hlen with
      | [v0, v1, v2, v3], _ =>
        have e0 := hcell 0 (by omega)
        rw [add_zero'] at e0
        have e1 := hcell 1 (by omega)
        have e2 := hcell 2 (by omega)
        have e3 := hcell 3 (by omega)
        have k1 : Tryd.prog.cellsOf 3 = 1 := by kernel_rfl
        have k2 : Tryd.prog.cellsOf 4 = 1 := by kernel_rfl
        have k3 : Tryd.prog.cellsOf 37 = 1 := by kernel_rfl
        simp only [k1, k2, k3] at t0 t1 t2 t3
        obtain ⟨n0, q0, _⟩ := DataW.trod_int Tryd.underlying3 t0
        obtain ⟨n1, q1, _⟩ := DataW.trod_bool Tryd.underlying4 t1
        obtain ⟨n2, q2, _⟩ := DataW.trod_int Tryd.underlying3 t2
        obtain ⟨l, u, F, q3, hT⟩ := trod_tags t3
        simp at q0 q1 q2 q3
        simp at e0 e1 e2 e3
        refine ⟨(⟨n0, n1, n2, l⟩, u, F), ?_, ?_, ?_, ?_, hT⟩
        · simpa [q0] using e0
        · simpa [q1] using e1
        · simpa [q2] using e2
        · simpa [q3] using e3
    unfold maxLen at hm
    rcases Nat.eq_zero_or_pos len with h0 | h0
    · exact ⟨([], []), some a, cap, by rw [h0]; rfl, by simp, .inl ⟨rfl, rfl⟩⟩
    · have ha := addC_plain (addr_plainC (by simpa using (hf 0 h0).1))
      rw [ha] at hf ⊢
      obtain ⟨F, hF⟩ := encC_mk (w := W) ((List.range len).map fun i => (f i).1) a.block a.off fun i hi => by
        have := hf i (by simpa using hi)
        simp only [add_some] at this
        exact ⟨(f i).2.1, (f i).2.2, by simpa using this.1, by simpa [Nat.add_assoc] using this.2.1, by simpa [Nat.add_assoc] using this.2.2.1, by simpa [Nat.add_assoc] using this.2.2.2.1, by simpa using this.2.2.2.2⟩
      exact ⟨((List.range len).map fun i => (f i).1, a.block :: F), _, cap, by simp, by simp; unfold maxI; omega, .inr ⟨a.block, a.off, F, rfl, rfl, hF⟩⟩
end
end Go.Proofs.YtnfapbghkmodeaaDoor
