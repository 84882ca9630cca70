/-
  What is proved here: arguments that are numbers, statements or programs, read as data, are what the walks ask.
-/
import Derived.Test.YteonnoijdnjpdaaDoorPost
import Derived.Test.YteonnoijdnjpdaaDoorStLaw
import Derived.Lib.SmallJoins
namespace Go.Proofs.YteonnoijdnjpdaaDoor
set_option linter.unusedVariables false
set_option linter.unusedSimpArgs false
set_option linter.unnecessarySimpa false
open Go.ChangeShapes Go.WideShapes Go.ChangeAt Go.RowKit Go.Joins
/-- A statement as an argument: its parts and where they lie. -/
structure StArg where
  op : Int
  x : Int
  y : Int
  n : Int
  t : Ss
  e : Ss
  vt : Value
  ve : Value
  Ft : List Nat
  Fe : List Nat
def StArg.In (s : StArg) (w : World) (v : Value) : Prop := v = stV s.op s.x s.y s.n s.vt s.ve ∧ StS w s.vt s.t s.Ft ∧ StS w s.ve s.e s.Fe
/-- A program as an argument. -/
structure PrArg where
  tv : Value
  bv : Value
  tl : List Int
  l : Ss
  Ft : List Nat
  Fl : List Nat
def PrArg.In (p : PrArg) (w : World) (v : Value) : Prop := v = prV p.tv p.bv ∧ IntF w p.tv p.tl p.Ft ∧ StS w p.bv p.l p.Fl
/-- A point: an operation, three numbers and the places that follow. -/
def pnV (op x y n : Int) (nv : Value) : Value := .agg #[.int .i64 op, .int .i64 x, .int .i64 y, .int .i64 n, nv]
structure PoArg where
  op : Int
  x : Int
  y : Int
  n : Int
  nv : Value
  l : List Int
  F : List Nat
def PoArg.In (p : PoArg) (W : World) (v : Value) : Prop := v = pnV p.op p.x p.y p.n p.nv ∧ IntF W p.nv p.l p.F
section
variable {H : Type} {enc : TypeId × Value → H} {W : World} {base b0 : Nat} {sp : Nat → Bool} {hd : Bool} {r : Reach} {v : Value} {d : DataW H} {ps : List MemPlace}
theorem addr_plainS {w : World} {a : Addr} {v : Value} (h : w.cell? a = some v) : a.spot = none := by
  unfold World.cell? at h
  split at h
  · cases hs : a.spot <;> simp_all
  · cases h
theorem addS_zero (x : Addr) : x.add 0 = x := by simp [Addr.add]
theorem addS_plain {a : Addr} (h : (a.add 0).spot = none) : a = ⟨a.block, a.off, none⟩ := by
  rw [addS_zero] at h
  obtain ⟨b, o, s⟩ := a
  simp only at h
  subst h
  rfl
theorem trod_ints {fuel : Nat} {cs : List Value} {x : DataW H × List MemPlace} (h : DataW.trod enc Tryd.prog W base sp hd fuel 22 cs = some x) : ∃ l v F, cs = [v] ∧ IntF W v l F := by
  rcases open_ints Tryd.underlying22 Tryd.underlying3 (by kernel_rfl) h with ⟨hcs, _⟩ | ⟨a, len, cap, zs, hcs, _, hl, hm, hz, _, hcell, hwz⟩
  · exact ⟨[], _, [], hcs, none, 0, rfl, by simp, .inl ⟨rfl, rfl⟩⟩
  · unfold maxLen at hm
    rcases Nat.eq_zero_or_pos len with h0 | h0
    · subst h0
      exact ⟨[], _, [], hcs, some a, cap, rfl, ⟨by simp, Nat.zero_le _⟩, .inl ⟨rfl, rfl⟩⟩
    · have hzl : len ≤ zs.length := by rw [hz]; split <;> omega
      have h1 := hcell 0 (by omega)
      have ha := addS_plain (addr_plainS h1)
      rw [ha] at hcell hcs
      have hlen : (zs.take len).length = len := by simp; omega
      refine ⟨zs.take len, _, [a.block], hcs, _, cap, by rw [hlen], ⟨by rw [hlen]; unfold maxI; omega, by rw [hlen]; exact hl⟩, .inr ⟨a.block, a.off, rfl, rfl, fun i y hi => ?_⟩⟩
      have hil : i < len := by have := (List.getElem?_eq_some_iff.1 hi).1; omega
      have h2 := hcell i (by omega)
      rw [add_some] at h2
      rw [List.getElem?_take, if_pos hil] at hi
      rw [List.getD_eq_getElem?_getD, hi] at h2
      rw [Nat.mul_one]
      exact h2
set_option maxRecDepth 100000 in
theorem open_Ints (hv : Value.okWide Tryd.prog W r b0 22 v) (h : DataW.Trod enc Tryd.prog W base sp hd 22 v d ps) : ∃ x : List Int × List Nat, IntF W v x.1 x.2 := by
  obtain ⟨a0, len, cap, rfl⟩ := okWide_slice Tryd.underlying22 hv
  obtain ⟨fuel, hf⟩ := h
  obtain ⟨l, u, F, hcs, hi⟩ := trod_ints hf
  simp [Value.cells] at hcs
  subst hcs
  exact ⟨(l, F), hi⟩
theorem stmts_mk {w : World} {b o len : Nat} (h : ∀ i, i < len → ∃ (op x y n : Int) (t e : Ss) (vt ve : Value) (Ft Fe : List Nat), (∀ (j : Nat) u, [Value.int .i64 op, .int .i64 x, .int .i64 y, .int .i64 n, vt, ve][j]? = some u → w.cell? ⟨b, o + i * 6 + j, none⟩ = some u) ∧ StS w vt t Ft ∧ StS w ve e Fe) :
    ∀ (k j : Nat), j + k = len → ∃ l F, Ss.len l = k ∧ CsAt w (encS l) b (o + j * 6) F
  | 0, _, _ => ⟨.nil, [], rfl, rfl⟩
  | k + 1, j, hj => by
    obtain ⟨op, x, y, n, t, e, vt, ve, Ft, Fe, hc, ht, he⟩ := h j (by omega)
    obtain ⟨l, F, hl, hcs⟩ := stmts_mk h k (j + 1) (by omega)
    refine ⟨.cons op x y n t e l, Ft ++ (Fe ++ F), by simp [Ss.len, hl], by simpa using hc 0 _ rfl, hc 1 _ rfl, hc 2 _ rfl, hc 3 _ rfl, vt, Ft, Fe ++ F, rfl, hc 4 _ rfl, ht, ve, Fe, F, rfl, hc 5 _ rfl, he, ?_⟩
    rw [show o + j * 6 + 1 + 1 + 1 + 1 + 1 + 1 = o + (j + 1) * 6 from by omega]
    exact hcs
theorem list6 {cs : List Value} (h : cs.length = 6) : ∃ v0 v1 v2 v3 v4 v5, cs = [v0, v1, v2, v3, v4, v5] := by
  match cs, h with
  | [v0, v1, v2, v3, v4, v5], _ => exact ⟨v0, v1, v2, v3, v4, v5, rfl⟩
theorem trod_stmt {fuel : Nat} {cs : List Value} {x : DataW H × List MemPlace} (h : DataW.trod enc Tryd.prog W base sp hd fuel 69 cs = some x)
    (ih : ∀ n, n < fuel → ∀ cs x, DataW.trod enc Tryd.prog W base sp hd n 23 cs = some x → ∃ l v F, cs = [v] ∧ StS W v l F) :
    ∃ (op x y n : Int) (t e : Ss) (vt ve : Value) (Ft Fe : List Nat), cs = [.int .i64 op, .int .i64 x, .int .i64 y, .int .i64 n, vt, ve] ∧ StS W vt t Ft ∧ StS W ve e Fe := by
  obtain ⟨xs, n, hfu, _, hlen, hxl, hf⟩ := DataW.trod_struct Tryd.underlying69 h
  have hC : Tryd.prog.cellsOf 69 = 6 := by kernel_rfl
  rw [hC] at hlen
  obtain ⟨v0, v1, v2, v3, v4, v5, rfl⟩ := list6 hlen
  have k1 : Tryd.prog.cellsOf 3 = 1 := by kernel_rfl
  have k3 : Tryd.prog.cellsOf 23 = 1 := by kernel_rfl
  have g : ∀ (i : Nat), i < 6 → ∃ y, xs[i]? = some y := fun i hi => ⟨_, List.getElem?_eq_getElem (by rw [hxl]; exact hi)⟩
  have t0 : DataW.trod enc Tryd.prog W base sp hd n 3 (([v0, v1, v2, v3, v4, v5].drop 0).take (Tryd.prog.cellsOf 3)) = xs[0]? := hf 0 _ rfl
  have t1 : DataW.trod enc Tryd.prog W base sp hd n 3 (([v0, v1, v2, v3, v4, v5].drop 1).take (Tryd.prog.cellsOf 3)) = xs[1]? := hf 1 _ rfl
  have t2 : DataW.trod enc Tryd.prog W base sp hd n 3 (([v0, v1, v2, v3, v4, v5].drop 2).take (Tryd.prog.cellsOf 3)) = xs[2]? := hf 2 _ rfl
  have t3 : DataW.trod enc Tryd.prog W base sp hd n 3 (([v0, v1, v2, v3, v4, v5].drop 3).take (Tryd.prog.cellsOf 3)) = xs[3]? := hf 3 _ rfl
  have t4 : DataW.trod enc Tryd.prog W base sp hd n 23 (([v0, v1, v2, v3, v4, v5].drop 4).take (Tryd.prog.cellsOf 23)) = xs[4]? := hf 4 _ rfl
  have t5 : DataW.trod enc Tryd.prog W base sp hd n 23 (([v0, v1, v2, v3, v4, v5].drop 5).take (Tryd.prog.cellsOf 23)) = xs[5]? := hf 5 _ rfl
  obtain ⟨y0, g0⟩ := g 0 (by decide)
  obtain ⟨y1, g1⟩ := g 1 (by decide)
  obtain ⟨y2, g2⟩ := g 2 (by decide)
  obtain ⟨y3, g3⟩ := g 3 (by decide)
  obtain ⟨y4, g4⟩ := g 4 (by decide)
  obtain ⟨y5, g5⟩ := g 5 (by decide)
  rw [g0] at t0
  rw [g1] at t1
  rw [g2] at t2
  rw [g3] at t3
  rw [g4] at t4
  rw [g5] at t5
  simp only [k1, k3] at t0 t1 t2 t3 t4 t5
  obtain ⟨n0, q0, _⟩ := DataW.trod_int Tryd.underlying3 t0
  obtain ⟨n1, q1, _⟩ := DataW.trod_int Tryd.underlying3 t1
  obtain ⟨n2, q2, _⟩ := DataW.trod_int Tryd.underlying3 t2
  obtain ⟨n3, q3, _⟩ := DataW.trod_int Tryd.underlying3 t3
  obtain ⟨l4, u4, F4, q4, hT⟩ := ih n (by omega) _ _ t4
  obtain ⟨l5, u5, F5, q5, hE⟩ := ih n (by omega) _ _ t5
  simp at q0 q1 q2 q3 q4 q5
  exact ⟨n0, n1, n2, n3, l4, l5, u4, u5, F4, F5, by rw [q0, q1, q2, q3, q4, q5], hT, hE⟩
theorem trod_stmts : ∀ (m fuel : Nat), fuel ≤ m → ∀ (cs : List Value) (x : DataW H × List MemPlace), DataW.trod enc Tryd.prog W base sp hd fuel 23 cs = some x → ∃ l v F, cs = [v] ∧ StS W v l F := by
  intro m
  induction m using Nat.strongRecOn with
  | _ m ihm =>
    intro fuel hfm cs x h
    rcases DataW.trod_slice Tryd.underlying23 h with ⟨hcs, _⟩ | ⟨a, len, cap, elems, rest, n, hfu, hcs, _, _, hl, hm, hlen, hel, _, _⟩
    · exact ⟨.nil, _, [], hcs, none, 0, rfl, by simp [Ss.len], .inl ⟨rfl, rfl⟩⟩
    · unfold maxLen at hm
      rcases Nat.eq_zero_or_pos len with h0 | h0
      · subst h0
        exact ⟨.nil, _, [], hcs, some a, cap, rfl, ⟨by simp [Ss.len], Nat.zero_le _⟩, .inl ⟨rfl, rfl⟩⟩
      · have hC : Tryd.prog.cellsOf 69 = 6 := by kernel_rfl
        rw [hC] at hel
        have hall : ∀ i, i < len → ∃ (op x y n : Int) (t e : Ss) (vt ve : Value) (Ft Fe : List Nat), (∀ (j : Nat) u, [Value.int .i64 op, .int .i64 x, .int .i64 y, .int .i64 n, vt, ve][j]? = some u → W.cell? ((a.add (i * 6)).add j) = some u) ∧ StS W vt t Ft ∧ StS W ve e Fe := fun i hi => by
          have h1 := hel i hi
          rw [List.getElem?_eq_getElem (by omega)] at h1
          obtain ⟨cs', c1, c2⟩ := Option.bind_eq_some_iff.1 h1
          obtain ⟨op, x, y, n', t, e, vt, ve, Ft, Fe, rfl, hT, hE⟩ := trod_stmt c2 fun n' hn' cs x hx => ihm n' (by omega) n' (Nat.le_refl _) cs x hx
          obtain ⟨_, hlen', hcell⟩ := World.cells?_some c1
          refine ⟨op, x, y, n', t, e, vt, ve, Ft, Fe, fun j u hu => ?_, hT, hE⟩
          have hj : j < 6 := (List.getElem?_eq_some_iff.1 hu).1
          rw [hcell j (by omega)]
          exact hu
        obtain ⟨_, _, _, _, _, _, _, _, _, _, hc0, _⟩ := hall 0 h0
        have h00 := hc0 0 _ rfl
        rw [Nat.zero_mul, addS_zero] at h00
        have ha : a = ⟨a.block, a.off, none⟩ := addS_plain (addr_plainS h00)
        rw [ha] at hall hcs
        obtain ⟨l, F, hll, hcs'⟩ := stmts_mk (w := W) (b := a.block) (o := a.off) (len := len) (fun i hi => by
          obtain ⟨op, x, y, n', t, e, vt, ve, Ft, Fe, hc, hT, hE⟩ := hall i hi
          exact ⟨op, x, y, n', t, e, vt, ve, Ft, Fe, fun j u hu => by have := hc j u hu; rwa [add_some, add_some] at this, hT, hE⟩) len 0 (by omega)
        refine ⟨l, _, a.block :: F, hcs, _, cap, by rw [hll], ⟨by rw [hll]; unfold maxI; omega, by rw [hll]; exact hl⟩, .inr ⟨a.block, a.off, F, rfl, rfl, by simpa using hcs'⟩⟩
set_option maxRecDepth 100000 in
theorem open_Stmt (hv : Value.okWide Tryd.prog W r b0 69 v) (h : DataW.Trod enc Tryd.prog W base sp hd 69 v d ps) : ∃ s : StArg, s.In W v := by
  obtain ⟨cs, rfl, hsz⟩ := okWide_struct Tryd.underlying69 hv
  obtain ⟨fuel, hf⟩ := h
  obtain ⟨op, x, y, n, t, e, vt, ve, Ft, Fe, hcs, hT, hE⟩ := trod_stmt hf fun n hn cs x hx => trod_stmts n n (Nat.le_refl _) cs x hx
  simp only [Value.cells] at hcs
  refine ⟨⟨op, x, y, n, t, e, vt, ve, Ft, Fe⟩, ?_, hT, hE⟩
  simp only [stV]
  rw [← Array.toArray_toList (xs := cs), hcs]
theorem list2 {cs : List Value} (h : cs.length = 2) : ∃ v0 v1, cs = [v0, v1] := by
  match cs, h with
  | [v0, v1], _ => exact ⟨v0, v1, rfl⟩
set_option maxRecDepth 100000 in
theorem open_Program (hv : Value.okWide Tryd.prog W r b0 25 v) (h : DataW.Trod enc Tryd.prog W base sp hd 25 v d ps) : ∃ p : PrArg, p.In W v := by
  obtain ⟨cs, rfl, hsz⟩ := okWide_struct Tryd.underlying25 hv
  obtain ⟨fuel, hf⟩ := h
  have hC : Tryd.prog.cellsOf 25 = 2 := by kernel_rfl
  obtain ⟨xs, n, hfu, _, hlen, hxl, hf⟩ := DataW.trod_struct Tryd.underlying25 hf
  rw [hC] at hlen
  simp only [Value.cells] at hlen hf
  obtain ⟨v0, v1, hcs⟩ := list2 hlen
  rw [hcs] at hf
  have k1 : Tryd.prog.cellsOf 22 = 1 := by kernel_rfl
  have k3 : Tryd.prog.cellsOf 23 = 1 := by kernel_rfl
  have t0 : DataW.trod enc Tryd.prog W base sp hd n 22 (([v0, v1].drop 0).take (Tryd.prog.cellsOf 22)) = xs[0]? := hf 0 _ rfl
  have t1 : DataW.trod enc Tryd.prog W base sp hd n 23 (([v0, v1].drop 1).take (Tryd.prog.cellsOf 23)) = xs[1]? := hf 1 _ rfl
  rw [List.getElem?_eq_getElem (by rw [hxl]; decide)] at t0 t1
  simp only [k1, k3] at t0 t1
  obtain ⟨tl, u0, F0, q0, h0⟩ := trod_ints t0
  obtain ⟨l, u1, F1, q1, h1⟩ := trod_stmts n n (Nat.le_refl _) _ _ t1
  simp at q0 q1
  refine ⟨⟨u0, u1, tl, l, F0, F1⟩, ?_, h0, h1⟩
  simp only [prV]
  rw [← Array.toArray_toList (xs := cs), hcs, q0, q1]
theorem list5 {cs : List Value} (h : cs.length = 5) : ∃ v0 v1 v2 v3 v4, cs = [v0, v1, v2, v3, v4] := by
  match cs, h with
  | [v0, v1, v2, v3, v4], _ => exact ⟨v0, v1, v2, v3, v4, rfl⟩
set_option maxRecDepth 100000 in
theorem open_Point (hv : Value.okWide Tryd.prog W r b0 39 v) (h : DataW.Trod enc Tryd.prog W base sp hd 39 v d ps) : ∃ p : PoArg, p.In W v := by
  obtain ⟨cs, rfl, hsz⟩ := okWide_struct Tryd.underlying39 hv
  obtain ⟨fuel, hf⟩ := h
  have hC : Tryd.prog.cellsOf 39 = 5 := by kernel_rfl
  obtain ⟨xs, n, hfu, _, hlen, hxl, hf⟩ := DataW.trod_struct Tryd.underlying39 hf
  rw [hC] at hlen
  simp only [Value.cells] at hlen hf
  obtain ⟨v0, v1, v2, v3, v4, hcs⟩ := list5 hlen
  rw [hcs] at hf
  have k1 : Tryd.prog.cellsOf 3 = 1 := by kernel_rfl
  have k3 : Tryd.prog.cellsOf 22 = 1 := by kernel_rfl
  have g : ∀ (i : Nat), i < 5 → ∃ y, xs[i]? = some y := fun i hi => ⟨_, List.getElem?_eq_getElem (by rw [hxl]; exact hi)⟩
  have t0 : DataW.trod enc Tryd.prog W base sp hd n 3 (([v0, v1, v2, v3, v4].drop 0).take (Tryd.prog.cellsOf 3)) = xs[0]? := hf 0 _ rfl
  have t1 : DataW.trod enc Tryd.prog W base sp hd n 3 (([v0, v1, v2, v3, v4].drop 1).take (Tryd.prog.cellsOf 3)) = xs[1]? := hf 1 _ rfl
  have t2 : DataW.trod enc Tryd.prog W base sp hd n 3 (([v0, v1, v2, v3, v4].drop 2).take (Tryd.prog.cellsOf 3)) = xs[2]? := hf 2 _ rfl
  have t3 : DataW.trod enc Tryd.prog W base sp hd n 3 (([v0, v1, v2, v3, v4].drop 3).take (Tryd.prog.cellsOf 3)) = xs[3]? := hf 3 _ rfl
  have t4 : DataW.trod enc Tryd.prog W base sp hd n 22 (([v0, v1, v2, v3, v4].drop 4).take (Tryd.prog.cellsOf 22)) = xs[4]? := hf 4 _ rfl
  obtain ⟨y0, g0⟩ := g 0 (by decide)
  obtain ⟨y1, g1⟩ := g 1 (by decide)
  obtain ⟨y2, g2⟩ := g 2 (by decide)
  obtain ⟨y3, g3⟩ := g 3 (by decide)
  obtain ⟨y4, g4⟩ := g 4 (by decide)
  rw [g0] at t0
  rw [g1] at t1
  rw [g2] at t2
  rw [g3] at t3
  rw [g4] at t4
  simp only [k1, k3] at t0 t1 t2 t3 t4
  obtain ⟨n0, q0, _⟩ := DataW.trod_int Tryd.underlying3 t0
  obtain ⟨n1, q1, _⟩ := DataW.trod_int Tryd.underlying3 t1
  obtain ⟨n2, q2, _⟩ := DataW.trod_int Tryd.underlying3 t2
  obtain ⟨n3, q3, _⟩ := DataW.trod_int Tryd.underlying3 t3
  obtain ⟨l, u4, F4, q4, h4⟩ := trod_ints t4
  simp at q0 q1 q2 q3 q4
  refine ⟨⟨n0, n1, n2, n3, u4, l, F4⟩, ?_, h4⟩
  simp only [pnV]
  rw [← Array.toArray_toList (xs := cs), hcs, q0, q1, q2, q3, q4]
end
end Go.Proofs.YteonnoijdnjpdaaDoor
