/-
  What is proved here: what the reference's draws of cells return: some memory that is not too large, some pointer.
-/
import Derived.Test.YtnfapbghkmodeaaDoorCBc
import Derived.Test.YtnfapbghkmodeaaDoorRd
import Derived.Test.YtnfapbghkmodeaaDoorOpenB
namespace Go.Proofs.YtnfapbghkmodeaaDoor
set_option linter.unusedVariables false
set_option linter.unusedSimpArgs false
set_option linter.unnecessarySimpa false
open Go.RowKit

def ptCells : List Pt → List Value
  | [] => []
  | p :: r => .int .i64 p.cell :: .int .i64 p.tag :: ptCells r
theorem ptCells_length : ∀ l, (ptCells l).length = l.length * 2
  | [] => rfl
  | t :: r => by simp [ptCells, ptCells_length r]; omega
theorem ptCells_append : ∀ l m, ptCells (l ++ m) = ptCells l ++ ptCells m
  | [], m => rfl
  | t :: r, m => by simp [ptCells, ptCells_append r m]
theorem ptCells_get : ∀ (l : List Pt) (i : Nat) (hi : i < l.length), (ptCells l)[i * 2]? = some (.int .i64 l[i].cell) ∧ (ptCells l)[i * 2 + 1]? = some (.int .i64 l[i].tag)
  | t :: r, 0, _ => by simp [ptCells]
  | t :: r, i + 1, hi => by
    have := ptCells_get r i (by simpa using hi)
    rw [show (i + 1) * 2 = i * 2 + 1 + 1 from by omega]
    simpa [ptCells] using this
/-- The slice owns a row of pointers. -/
def RowPt (e : TypeId) (w : World) (v : Value) (l : List Pt) : Prop := w.ownsRow 0 e 2 v l.length (ptCells l)
theorem RowPt.chg {e : TypeId} {w w' : World} {v : Value} {l : List Pt} {G : List Nat} (h : RowPt e w v l) (c : Chg G w w') (hd : ∀ x ∈ v.ownBlock.toList, x ∉ G) : RowPt e w' v l := ownsRow_chg h c hd
theorem RowPt.at_ {e : TypeId} {w : World} {v : Value} {l : List Pt} {i : Nat} (h : RowPt e w v l) (hi : i < l.length) : ∃ g cap, v = .slice (some ⟨g, 0, none⟩) l.length cap ∧ v.ownBlock = some g ∧ g < w.heap.size ∧
    ∀ (j : Nat) u, [Value.int .i64 l[i].cell, .int .i64 l[i].tag][j]? = some u → w.cell? ⟨g, i * 2 + j, none⟩ = some u := by
  obtain ⟨g, cap, cs, rfl, hb, hlen, hcs, _⟩ := ownsRow_upd (show w.ownsRow 0 e 2 v l.length (ptCells l) from h) (by omega)
  refine ⟨g, cap, rfl, rfl, hb.lt, fun j u hu => ?_⟩
  have hj : j < 2 := (List.getElem?_eq_some_iff.1 hu).1
  obtain ⟨c0, c1⟩ := ptCells_get l i hi
  have hu2 : (ptCells l)[i * 2 + j]? = some u := by
    have : j = 0 ∨ j = 1 := by omega
    rcases this with rfl | rfl
    · simp at hu; subst hu; exact c0
    · simp at hu; subst hu; exact c1
  rw [hcs, List.getElem?_take] at hu2
  split at hu2
  · exact hb.cell hu2
  · cases hu2
/-- A memory that a draw has made so far: valid, not empty, apart from some blocks. -/
def DrM (w : World) (G : List Nat) (v : Value) (m : List Ce) : Prop := ∃ F, CeS w v m F ∧ (∀ x ∈ F, x ∉ G ∧ x < w.heap.size) ∧ cellsOk m ∧ 0 < m.length
theorem DrM.chg {w w' : World} {G H : List Nat} {v : Value} {m : List Ce} (h : DrM w G v m) (c : Chg H w w') (hH : ∀ x ∈ H, x ∈ G) : DrM w' G v m := by
  obtain ⟨F, h1, h2, h3⟩ := h
  exact ⟨F, h1.chg c (fun x hx hm => (h2 x hx).1 (hH x hm)), fun x hx => ⟨(h2 x hx).1, by have := (h2 x hx).2; have := c.size; omega⟩, h3⟩
theorem DrM.ext {w w' : World} {G : List Nat} {v : Value} {m : List Ce} (h : DrM w G v m) (c : Ext w w') : DrM w' G v m := h.chg (c.chg []) (by simp)
theorem DrM.of {e eT : TypeId} {w w' : World} {G : List Nat} {v : Value} {m : List Ce} (h : NewCells e eT m w v w') (hr : ∀ x ∈ G, x < w.heap.size) (hok : cellsOk m) (hl : 0 < m.length) : DrM w' G v m := by
  obtain ⟨F, h1, h2⟩ := h.ces
  exact ⟨F, h1, fun x hm => ⟨fun hg => by have := h2 _ hm; have := hr _ hg; omega, (h2 _ hm).2⟩, hok, hl⟩
theorem DrM.regrow {w w' : World} {rb : Nat} {v vl v' : Value} {m : List Ce} (h : DrM w (rb :: vl.ownBlock.toList) v m) (c : Chg vl.ownBlock.toList w w') (hv : v'.ownBlock = vl.ownBlock ∨ ∃ b, v'.ownBlock = some b ∧ w.heap.size ≤ b) : DrM w' (rb :: v'.ownBlock.toList) v m := by
  obtain ⟨F, h1, h2, h3⟩ := h
  refine ⟨F, h1.chg c (fun x hx hm => (h2 x hx).1 (by simp; exact .inr (by simpa using hm))), fun x hx => ?_, h3⟩
  obtain ⟨q1, q2⟩ := h2 x hx
  have := c.size
  refine ⟨fun hm => ?_, by omega⟩
  rcases hv with hv | ⟨b, hv, hb⟩
  · rw [hv] at hm; exact q1 hm
  · rw [hv] at hm
    simp at hm q1
    rcases hm with rfl | rfl
    · exact q1.1 rfl
    · omega
def newG (vl : Value) (w w' : World) : Prop := ∀ b, vl.ownBlock = some b → w.heap.size ≤ b ∧ b < w'.heap.size
/-- The source stands at some place that is not too far. -/
def RdU (w : World) (rb q : Nat) : Prop := ∃ p, p ≤ q ∧ RdB w rb p
theorem RdU.ext {w w' : World} {rb q : Nat} (h : RdU w rb q) (he : Ext w w') : RdU w' rb q := by obtain ⟨p, h1, h2⟩ := h; exact ⟨p, h1, h2.ext he⟩
theorem RdU.chg {w w' : World} {rb q : Nat} {G : List Nat} (h : RdU w rb q) (c : Chg G w w') (hG : ∀ x ∈ G, rb < x) : RdU w' rb q := by
  obtain ⟨p, h1, bv, t, h2, h3⟩ := h
  exact ⟨p, h1, bv, t, h2.chg c (fun hm => by have := hG _ hm; omega), h3.chg c (fun x hx => by have := hG x hx; omega)⟩
theorem RdU.mono {w : World} {rb q q' : Nat} (h : RdU w rb q) (hq : q ≤ q') : RdU w rb q' := by obtain ⟨p, h1, h2⟩ := h; exact ⟨p, by omega, h2⟩
theorem RdU.lt {w : World} {rb q : Nat} (h : RdU w rb q) : rb < w.heap.size := by obtain ⟨p, _, h2⟩ := h; exact h2.lt
theorem pickU_ret (rb q : Nat) (n : Int) (w : World) (h : RdU w rb q) (hq : q ≤ 1000000000000) (hn : 1 ≤ n) :
    Ret Tryd.prog 40 [.pointer (some ⟨rb, 0, none⟩), .int .i64 n] w fun v w' => ∃ k : Nat, v = .int .i64 (k : Int) ∧ (k : Int) < n ∧ RdU w' rb (q + 1) ∧ Chg [rb] w w' := by
  obtain ⟨p, hp, hr⟩ := h
  exact (pick_ret rb p n w hr (by omega)).mono fun v w' ⟨k, h1, h2, _, h3, h4⟩ => ⟨k, h1, h2 hn, ⟨p + 1, by omega, h3⟩, h4⟩
theorem numU_ret (rb q : Nat) (v : Value) (l : List Int) (F : List Nat) (w : World) (h : RdU w rb q) (hq : q ≤ 1000000000000) (hl : IntF w v l F) (hne : l ≠ []) (hF : ∀ b ∈ F, b ≠ rb) :
    Ret Tryd.prog 41 [.pointer (some ⟨rb, 0, none⟩), v] w fun v w' => ∃ z ∈ l, v = .int .i64 z ∧ RdU w' rb (q + 1) ∧ Chg [rb] w w' := by
  obtain ⟨p, hp, hr⟩ := h
  exact (num_ret rb p v l F w hr (by omega) hl hne hF).mono fun v w' ⟨z, h1, h2, h3, h4⟩ => ⟨z, h1, h2, ⟨p + 1, by omega, h3⟩, h4⟩
theorem l6Draw_ret (rb p : Nat) (w : World) (h : RdU w rb p) (hp : p ≤ 1000000) :
    Ret Tryd.prog 39 [.pointer (some ⟨rb, 0, none⟩)] w fun r w' => ∃ vm m vl l, r = .tuple #[vm, vl] ∧ DrM w' [rb] vm m ∧ RowPt 65 w' vl l ∧ 0 < l.length ∧ l.length ≤ 1000 ∧ newG vl w w' ∧ RdU w' rb (p + 1000) ∧ Chg [rb] w w' := by
  refine enter Tryd.func39 rfl Tryd.ntmps39 rfl rfl ?_
  refine goS ?_
  refine WO_call rfl (pickU_ret rb p 10 w h (by omega) (by decide)) ?_
  rintro _ w1 ⟨c, rfl, hc10, hr1, c1⟩
  refine WO_call rfl (sNewCell_ret (.slice none 0 0) [] [] (c : Int) w1 ⟨none, 0, rfl, ⟨by decide, Nat.le_refl _⟩, .inl ⟨rfl, rfl⟩⟩ (by decide)) ?_
  rintro _ w2 ⟨vo, rfl, hN⟩
  have hok0 : newOk [] (c : Int) := ⟨⟨by decide, by simp⟩, by omega, by omega, by decide⟩
  have hl0 : newL [] (c : Int) = [freshCe c] := by unfold newL; rw [if_pos hok0]; rfl
  rw [hl0] at hN
  have e2 := hN.2
  have hD2 := DrM.of (G := [rb]) hN (by simp; exact hr1.lt) (by have := (new_use hok0).1; rw [hl0] at this; exact this) (by simp)
  have hP : newP [] (c : Int) = ⟨0, 0⟩ := by unfold newP; rw [if_pos hok0]; rfl
  rw [hP]
  refine goS ?_
  refine WO_alloc fun w3 hz e3 z3 => ?_
  refine goS ?_
  refine WO_storeS (k := 2) (vs := [.int .i64 0, .int .i64 0]) rfl rfl rfl (by intro v hv; simp at hv; subst hv; rfl) hz (by decide) fun w4 hz4 o4 => ?_
  replace hz4 : Blk w4 w2.heap.size [.int .i64 0, .int .i64 0] _ := hz4
  have e4 : Ext w2 w4 := e3.only o4 (Nat.le_refl _)
  refine goS ?_
  refine WO_loadSB rfl hz4 rfl ?_
  refine WO_build (e := 65) (k := 2) [.tmp 28] (vs := [.agg #[.int .i64 0, .int .i64 0]]) (cs := [.int .i64 0, .int .i64 0]) rfl rfl rfl (by decide) (by decide) (by simp [Value.cells]) rfl fun w5 hb5 e5 z5 => ?_
  refine goS ?_
  refine WO_ints [4, 2, 6, 8, 1] rfl rfl (by decide) (by decide) fun w6 hi6 e6 z6 => ?_
  have e26 := (e4.trans e5).trans e6
  have hr6 := (hr1.ext e2).ext e26
  have hrlt := hr1.lt
  have s2 := e2.size_le
  have s4 := e4.size_le
  have s5 := e5.size_le
  refine WO_call rfl (numU_ret rb (p + 1) _ [4, 2, 6, 8, 1] _ w6 hr6 (by omega) hi6.int (by decide) (by simp; omega)) ?_
  rintro _ w7 ⟨n0, hn0, rfl, hr7, c7⟩
  have hn1 : 1 ≤ n0 ∧ n0 ≤ 8 := by simp at hn0; omega
  obtain ⟨n, rfl⟩ := Int.eq_ofNat_of_zero_le (show 0 ≤ n0 by omega)
  have hD7 : DrM w7 (rb :: (Value.slice (some ⟨w4.heap.size, 0, none⟩) 1 1).ownBlock.toList) vo [freshCe c] := DrM.chg (DrM.ext (DrM.regrow (v' := .slice (some ⟨w4.heap.size, 0, none⟩) 1 1) (vl := .slice none 0 0) hD2 (e4.chg _) (.inr ⟨_, rfl, by omega⟩)) (e5.trans e6)) c7 (by simp)
  have hl7 : RowPt 65 w7 (.slice (some ⟨w4.heap.size, 0, none⟩) 1 1) [⟨0, 0⟩] := RowPt.chg (owns_blk (m := 1) (hb5.ext e6) (Nat.zero_le _) rfl (by decide)) c7 (by simp [Value.ownBlock]; omega)
  have c07 : Chg [rb] w w7 := (c1.trans (e2.chg _)).trans ((e26.chg _).trans c7)
  refine goS ?_
  refine W_loop (α := Nat × Value × Value × List Ce × List Pt × Nat) (fun z => [(0, .pointer (some ⟨rb, 0, none⟩)), (4, z.2.1), (7, z.2.2.1), (8, .int .i64 (z.1 : Int))])
    (fun z w' => z.1 ≤ 8 ∧ z.1 + z.2.2.2.2.1.length ≤ 9 ∧ z.1 + z.2.2.2.1.length ≤ 9 ∧ DrM w' (rb :: z.2.2.1.ownBlock.toList) z.2.1 z.2.2.2.1 ∧ RowPt 65 w' z.2.2.1 z.2.2.2.2.1 ∧ 0 < z.2.2.2.2.1.length ∧ z.2.2.2.2.2 + 4 * z.1 ≤ p + 2 + 32 ∧ newG z.2.2.1 w w' ∧ RdU w' rb z.2.2.2.2.2 ∧ Chg [rb] w w') (fun z => z.1)
    (n, vo, _, _, [⟨0, 0⟩], p + 2) (by repeat (first | exact True.intro | refine And.intro rfl ?_)) ⟨by simp only; omega, by simp only [List.length_singleton]; omega, by simp only [List.length_singleton]; omega, hD7, hl7, by simp, by simp only; omega, fun b hb => by simp [Value.ownBlock] at hb; have := c7.size; have := e6.size_le; have := c1.size; omega, hr7, c07⟩ ?_
  rintro ⟨n, vm, vl, m, l, q⟩ wx ⟨hn8, hnl, hnm, hD, hl, hl0, hq, hvl, hr, hch⟩
  simp only at hn8 hnl hnm hD hl hl0 hq hvl hr hch ⊢
  refine goS ?_
  refine Z52 rfl (fun hc => ?_) (fun hc => ?_)
  · obtain ⟨n, rfl⟩ : ∃ j, n = j + 1 := ⟨n - 1, by simp at hc; omega⟩
    have hn' : ((n + 1 : Nat) : Int) - 1 = (n : Int) := by omega
    obtain ⟨g0, cap0, rfl, _, _, _⟩ := hl.at_ (i := 0) hl0
    have hvb := hvl g0 rfl
    have hrlt := hr.lt
    have hg0 : g0 ≠ rb := by have := h.lt; omega
    refine goS ?_
    refine WO_call rfl (pickU_ret rb q (l.length : Int) wx hr (by omega) (by omega)) ?_
    rintro _ wp ⟨k, rfl, hk, hrp, cp⟩
    have hkl : k < l.length := by omega
    have hlp := RowPt.chg hl cp (by simp [Value.ownBlock]; exact hg0)
    obtain ⟨g, cap, hvv, hgo, hglt, hcell⟩ := hlp.at_ hkl
    cases hvv
    refine goS ?_
    refine Z83 (j := k) rfl rfl rfl hkl ?_
    refine WO_loadS (cs := [.int .i64 l[k].cell, .int .i64 l[k].tag]) rfl rfl (fun j u hu => by rw [Nat.zero_add]; exact hcell j u hu) ?_
    refine WO_alloc fun wa hy ea za => ?_
    refine WO_storeS (k := 2) (vs := [.int .i64 l[k].cell, .int .i64 l[k].tag]) rfl rfl rfl (by intro v hv; simp at hv; rcases hv with rfl | rfl <;> rfl) hy (by decide) fun wb hyb ob => ?_
    replace hyb : Blk wb wp.heap.size [.int .i64 l[k].cell, .int .i64 l[k].tag] _ := hyb
    have eb : Ext wp wb := ea.only ob (Nat.le_refl _)
    refine goS ?_
    refine WO_call rfl (pickU_ret rb (q + 1) 6 wb (hrp.ext eb) (by omega) (by decide)) ?_
    rintro _ wq ⟨k6, rfl, hk6, hq2, cq0⟩
    have hy2 := hyb.chg cq0 (by simp; have := hrp.lt; omega)
    have cq : Chg [rb] w wq := ((hch.trans cp).trans (eb.chg _)).trans cq0
    have cxq : Chg [rb] wx wq := (cp.trans (eb.chg _)).trans cq0
    have hD2 := hD.chg cxq (by simp)
    have hD2' := hD2
    obtain ⟨Fm, hm1, hFm, hmok, hmlen⟩ := hD2'
    have hl2 := RowPt.chg hl cxq (by simp [Value.ownBlock]; exact hg0)
    have sq := cxq.size
    have hGlt : ∀ x ∈ rb :: (Value.slice (some ⟨g0, 0, none⟩) l.length cap0).ownBlock.toList, x < wq.heap.size := by simp [Value.ownBlock]; omega
    have h6 : k6 = 0 ∨ k6 = 1 ∨ k6 = 2 ∨ k6 = 3 ∨ k6 = 4 ∨ k6 = 5 := by omega
    rcases h6 with rfl | rfl | rfl | rfl | rfl | rfl
    · refine goS ?_
      refine WO_call rfl (pickU_ret rb (q + 2) 10 wq hq2 (by omega) (by decide)) ?_
      rintro _ wr ⟨c2, rfl, hc2, hr3, c3⟩
      have hM3 := hD2.chg c3 (by simp)
      have hM3' := hM3
      obtain ⟨Fm3, hm13, hFm3, _, _⟩ := hM3'
      have hl3 := RowPt.chg hl2 c3 (by simp [Value.ownBlock]; exact hg0)
      have s3 := c3.size
      have hGlt3 : ∀ x ∈ rb :: (Value.slice (some ⟨g0, 0, none⟩) l.length cap0).ownBlock.toList, x < wr.heap.size := fun x hx => by have := hGlt x hx; omega
      have hok2 : newOk m (c2 : Int) := ⟨hmok, by omega, by omega, by omega⟩
      have hnl2 : newL m (c2 : Int) = m ++ [freshCe c2] := by unfold newL; rw [if_pos hok2]
      have hnp2 : newP m (c2 : Int) = ⟨m.length, 0⟩ := by unfold newP; rw [if_pos hok2]
      refine WO_call rfl (sNewCell_ret vm m Fm3 (c2 : Int) wr hm13 (cells_size hmok)) ?_
      rintro _ w4 ⟨vo, rfl, hN⟩
      have e4 := hN.2
      rw [hnl2] at hN
      rw [hnp2]
      have hN2 := DrM.of hN hGlt3 (by have := (new_use hok2).1; rw [hnl2] at this; exact this) (by simp)
      refine goS ?_
      refine WO_alloc fun w5 hz e5 z5 => ?_
      refine goS ?_
      refine WO_storeS (k := 2) (vs := [.int .i64 (m.length : Int), .int .i64 0]) rfl rfl rfl (by intro v hv; simp at hv; rcases hv with rfl | rfl <;> rfl) hz (by decide) fun w6 hz6 o6 => ?_
      replace hz6 : Blk w6 w4.heap.size [.int .i64 (m.length : Int), .int .i64 0] _ := hz6
      have e6 : Ext wr w6 := (e4.trans e5).only o6 e4.size_le
      have hN6 := hN2.ext (e5.only o6 (Nat.le_refl _))
      have hq6 := hr3.ext e6
      have hc6 := (cq.trans c3).trans (e6.chg [rb])
      have hl6 := RowPt.chg hl3 (e6.chg []) (by simp)
      have s6 := e6.size_le
      refine goS ?_
      refine WO_loadSB rfl hz6 rfl ?_
      refine WO_app1 (m := l.length) (u := .agg #[.int .i64 (m.length : Int), .int .i64 0]) rfl rfl (by intro v hv; simp [Value.cells] at hv; rcases hv with rfl | rfl <;> rfl) rfl hl6 (Nat.zero_le _) rfl (by omega) (by decide) fun v' w7 ho7 hg7 hat7 => ?_
      have hc7 := grown_chg hg7
      have hat : v'.ownBlock = (Value.slice (some ⟨g0, 0, none⟩) l.length cap0).ownBlock ∨ ∃ b, v'.ownBlock = some b ∧ w6.heap.size ≤ b := by
        rcases hat7 with h | h
        · exact .inl h
        · exact .inr ⟨_, h, by omega⟩
      have hM7 := DrM.regrow hN6 hc7 hat
      have s7 := hc7.size
      have hvb := hvl g0 rfl
      have hrw := h.lt
      refine goS ?_
      rw [hn']
      refine at_loop (n, _, v', (m ++ [freshCe c2]), l ++ [⟨m.length, 0⟩], q + 4) (by repeat (first | exact True.intro | refine And.intro rfl ?_)) ⟨by simp only; omega, by simp only [List.length_append, List.length_singleton]; omega, by simp only; (simp only [List.length_append, List.length_singleton]; omega), hM7, by simp only [RowPt, ptCells_append, List.length_append]; exact ho7, by simp, by simp only; omega, ?_, ?_, ?_⟩ (by simp only; omega)
      · intro b hb
        simp only at hb
        rcases hat7 with h | h
        · rw [h] at hb
          have := hvl b hb
          omega
        · rw [h] at hb
          simp at hb
          have := (ho7.lt b (by simp [h, hb])).2
          omega
      · exact (hq6.chg hc7 (by simp [Value.ownBlock]; omega)).mono (by simp only; omega)
      · exact hc6.fresh hc7 (fun b hb => .inr (by simp [Value.ownBlock] at hb; omega))
    · refine goS ?_
      refine WO_loadSB rfl hy2 rfl ?_
      refine WO_call rfl (sShareCell_ret vm m Fm (l[k]'hkl) wq hm1 (cells_size hmok)) ?_
      rintro _ w4 ⟨vo, rfl, hN⟩
      have e4 := hN.2
      have hN2 := DrM.of hN hGlt (lent_ok hmok) (by rw [lent_len]; exact hmlen)
      refine goS ?_
      refine WO_alloc fun w5 hz e5 z5 => ?_
      refine goS ?_
      refine WO_storeS (k := 2) (vs := [.int .i64 (lentP m (l[k]'hkl) false).cell, .int .i64 (lentP m (l[k]'hkl) false).tag]) rfl rfl rfl (by intro v hv; simp at hv; rcases hv with rfl | rfl <;> rfl) hz (by decide) fun w6 hz6 o6 => ?_
      replace hz6 : Blk w6 w4.heap.size [.int .i64 (lentP m (l[k]'hkl) false).cell, .int .i64 (lentP m (l[k]'hkl) false).tag] _ := hz6
      have e6 : Ext wq w6 := (e4.trans e5).only o6 e4.size_le
      have hN6 := hN2.ext (e5.only o6 (Nat.le_refl _))
      have hq6 := hq2.ext e6
      have hc6 := cq.trans (e6.chg [rb])
      have hl6 := RowPt.chg hl2 (e6.chg []) (by simp)
      have s6 := e6.size_le
      refine goS ?_
      by_cases hcode : lentC m (l[k]'hkl) false = 0
      · rw [hcode]
        refine goS ?_
        refine WO_loadSB rfl hz6 rfl ?_
        refine WO_app1 (m := l.length) (u := .agg #[.int .i64 (lentP m (l[k]'hkl) false).cell, .int .i64 (lentP m (l[k]'hkl) false).tag]) rfl rfl (by intro v hv; simp [Value.cells] at hv; rcases hv with rfl | rfl <;> rfl) rfl hl6 (Nat.zero_le _) rfl (by omega) (by decide) fun v' w7 ho7 hg7 hat7 => ?_
        have hc7 := grown_chg hg7
        have hat : v'.ownBlock = (Value.slice (some ⟨g0, 0, none⟩) l.length cap0).ownBlock ∨ ∃ b, v'.ownBlock = some b ∧ w6.heap.size ≤ b := by
          rcases hat7 with h | h
          · exact .inl h
          · exact .inr ⟨_, h, by omega⟩
        have hM7 := DrM.regrow hN6 hc7 hat
        have s7 := hc7.size
        have hvb := hvl g0 rfl
        have hrw := h.lt
        refine goS ?_
        rw [hn']
        refine at_loop (n, _, v', lentL m (l[k]'hkl) false, l ++ [lentP m (l[k]'hkl) false], q + 4) (by repeat (first | exact True.intro | refine And.intro rfl ?_)) ⟨by simp only; omega, by simp only [List.length_append, List.length_singleton]; omega, by simp only; (rw [lent_len]; omega), hM7, by simp only [RowPt, ptCells_append, List.length_append]; exact ho7, by simp, by simp only; omega, ?_, ?_, ?_⟩ (by simp only; omega)
        · intro b hb
          simp only at hb
          rcases hat7 with h | h
          · rw [h] at hb
            have := hvl b hb
            omega
          · rw [h] at hb
            simp at hb
            have := (ho7.lt b (by simp [h, hb])).2
            omega
        · exact (hq6.chg hc7 (by simp [Value.ownBlock]; omega)).mono (by simp only; omega)
        · exact hc6.fresh hc7 (fun b hb => .inr (by simp [Value.ownBlock] at hb; omega))
      · refine goS ?_
        refine Z50 rfl (by simpa using hcode) ?_
        refine goS ?_
        rw [hn']
        refine at_loop (n, _, _, lentL m (l[k]'hkl) false, l, q + 4) (by repeat (first | exact True.intro | refine And.intro rfl ?_)) ⟨by simp only; omega, by simp only; omega, by simp only [lent_len]; omega, hN6, hl6, hl0, by simp only; omega, fun b hb => by have := hvl b hb; omega, hq6.mono (by simp only; omega), hc6⟩ (by simp only; omega)
    · refine goS ?_
      refine WO_loadSB rfl hy2 rfl ?_
      refine WO_call rfl (sShareCell_ret vm m Fm (l[k]'hkl) wq hm1 (cells_size hmok)) ?_
      rintro _ w4 ⟨vo, rfl, hN⟩
      have e4 := hN.2
      have hN2 := DrM.of hN hGlt (lent_ok hmok) (by rw [lent_len]; exact hmlen)
      refine goS ?_
      refine WO_alloc fun w5 hz e5 z5 => ?_
      refine goS ?_
      refine WO_storeS (k := 2) (vs := [.int .i64 (lentP m (l[k]'hkl) false).cell, .int .i64 (lentP m (l[k]'hkl) false).tag]) rfl rfl rfl (by intro v hv; simp at hv; rcases hv with rfl | rfl <;> rfl) hz (by decide) fun w6 hz6 o6 => ?_
      replace hz6 : Blk w6 w4.heap.size [.int .i64 (lentP m (l[k]'hkl) false).cell, .int .i64 (lentP m (l[k]'hkl) false).tag] _ := hz6
      have e6 : Ext wq w6 := (e4.trans e5).only o6 e4.size_le
      have hN6 := hN2.ext (e5.only o6 (Nat.le_refl _))
      have hq6 := hq2.ext e6
      have hc6 := cq.trans (e6.chg [rb])
      have hl6 := RowPt.chg hl2 (e6.chg []) (by simp)
      have s6 := e6.size_le
      refine goS ?_
      by_cases hcode : lentC m (l[k]'hkl) false = 0
      · rw [hcode]
        refine goS ?_
        refine WO_loadSB rfl hz6 rfl ?_
        refine WO_app1 (m := l.length) (u := .agg #[.int .i64 (lentP m (l[k]'hkl) false).cell, .int .i64 (lentP m (l[k]'hkl) false).tag]) rfl rfl (by intro v hv; simp [Value.cells] at hv; rcases hv with rfl | rfl <;> rfl) rfl hl6 (Nat.zero_le _) rfl (by omega) (by decide) fun v' w7 ho7 hg7 hat7 => ?_
        have hc7 := grown_chg hg7
        have hat : v'.ownBlock = (Value.slice (some ⟨g0, 0, none⟩) l.length cap0).ownBlock ∨ ∃ b, v'.ownBlock = some b ∧ w6.heap.size ≤ b := by
          rcases hat7 with h | h
          · exact .inl h
          · exact .inr ⟨_, h, by omega⟩
        have hM7 := DrM.regrow hN6 hc7 hat
        have s7 := hc7.size
        have hvb := hvl g0 rfl
        have hrw := h.lt
        refine goS ?_
        rw [hn']
        refine at_loop (n, _, v', lentL m (l[k]'hkl) false, l ++ [lentP m (l[k]'hkl) false], q + 4) (by repeat (first | exact True.intro | refine And.intro rfl ?_)) ⟨by simp only; omega, by simp only [List.length_append, List.length_singleton]; omega, by simp only; (rw [lent_len]; omega), hM7, by simp only [RowPt, ptCells_append, List.length_append]; exact ho7, by simp, by simp only; omega, ?_, ?_, ?_⟩ (by simp only; omega)
        · intro b hb
          simp only at hb
          rcases hat7 with h | h
          · rw [h] at hb
            have := hvl b hb
            omega
          · rw [h] at hb
            simp at hb
            have := (ho7.lt b (by simp [h, hb])).2
            omega
        · exact (hq6.chg hc7 (by simp [Value.ownBlock]; omega)).mono (by simp only; omega)
        · exact hc6.fresh hc7 (fun b hb => .inr (by simp [Value.ownBlock] at hb; omega))
      · refine goS ?_
        refine Z50 rfl (by simpa using hcode) ?_
        refine goS ?_
        rw [hn']
        refine at_loop (n, _, _, lentL m (l[k]'hkl) false, l, q + 4) (by repeat (first | exact True.intro | refine And.intro rfl ?_)) ⟨by simp only; omega, by simp only; omega, by simp only [lent_len]; omega, hN6, hl6, hl0, by simp only; omega, fun b hb => by have := hvl b hb; omega, hq6.mono (by simp only; omega), hc6⟩ (by simp only; omega)
    · refine goS ?_
      refine WO_loadSB rfl hy2 rfl ?_
      refine WO_call rfl (sBorrowCell_ret vm m Fm (l[k]'hkl) wq hm1 (cells_size hmok)) ?_
      rintro _ w4 ⟨vo, rfl, hN⟩
      have e4 := hN.2
      have hN2 := DrM.of hN hGlt (lent_ok hmok) (by rw [lent_len]; exact hmlen)
      refine goS ?_
      refine WO_alloc fun w5 hz e5 z5 => ?_
      refine goS ?_
      refine WO_storeS (k := 2) (vs := [.int .i64 (lentP m (l[k]'hkl) true).cell, .int .i64 (lentP m (l[k]'hkl) true).tag]) rfl rfl rfl (by intro v hv; simp at hv; rcases hv with rfl | rfl <;> rfl) hz (by decide) fun w6 hz6 o6 => ?_
      replace hz6 : Blk w6 w4.heap.size [.int .i64 (lentP m (l[k]'hkl) true).cell, .int .i64 (lentP m (l[k]'hkl) true).tag] _ := hz6
      have e6 : Ext wq w6 := (e4.trans e5).only o6 e4.size_le
      have hN6 := hN2.ext (e5.only o6 (Nat.le_refl _))
      have hq6 := hq2.ext e6
      have hc6 := cq.trans (e6.chg [rb])
      have hl6 := RowPt.chg hl2 (e6.chg []) (by simp)
      have s6 := e6.size_le
      refine goS ?_
      by_cases hcode : lentC m (l[k]'hkl) true = 0
      · rw [hcode]
        refine goS ?_
        refine WO_loadSB rfl hz6 rfl ?_
        refine WO_app1 (m := l.length) (u := .agg #[.int .i64 (lentP m (l[k]'hkl) true).cell, .int .i64 (lentP m (l[k]'hkl) true).tag]) rfl rfl (by intro v hv; simp [Value.cells] at hv; rcases hv with rfl | rfl <;> rfl) rfl hl6 (Nat.zero_le _) rfl (by omega) (by decide) fun v' w7 ho7 hg7 hat7 => ?_
        have hc7 := grown_chg hg7
        have hat : v'.ownBlock = (Value.slice (some ⟨g0, 0, none⟩) l.length cap0).ownBlock ∨ ∃ b, v'.ownBlock = some b ∧ w6.heap.size ≤ b := by
          rcases hat7 with h | h
          · exact .inl h
          · exact .inr ⟨_, h, by omega⟩
        have hM7 := DrM.regrow hN6 hc7 hat
        have s7 := hc7.size
        have hvb := hvl g0 rfl
        have hrw := h.lt
        refine goS ?_
        rw [hn']
        refine at_loop (n, _, v', lentL m (l[k]'hkl) true, l ++ [lentP m (l[k]'hkl) true], q + 4) (by repeat (first | exact True.intro | refine And.intro rfl ?_)) ⟨by simp only; omega, by simp only [List.length_append, List.length_singleton]; omega, by simp only; (rw [lent_len]; omega), hM7, by simp only [RowPt, ptCells_append, List.length_append]; exact ho7, by simp, by simp only; omega, ?_, ?_, ?_⟩ (by simp only; omega)
        · intro b hb
          simp only at hb
          rcases hat7 with h | h
          · rw [h] at hb
            have := hvl b hb
            omega
          · rw [h] at hb
            simp at hb
            have := (ho7.lt b (by simp [h, hb])).2
            omega
        · exact (hq6.chg hc7 (by simp [Value.ownBlock]; omega)).mono (by simp only; omega)
        · exact hc6.fresh hc7 (fun b hb => .inr (by simp [Value.ownBlock] at hb; omega))
      · refine goS ?_
        refine Z50 rfl (by simpa using hcode) ?_
        refine goS ?_
        rw [hn']
        refine at_loop (n, _, _, lentL m (l[k]'hkl) true, l, q + 4) (by repeat (first | exact True.intro | refine And.intro rfl ?_)) ⟨by simp only; omega, by simp only; omega, by simp only [lent_len]; omega, hN6, hl6, hl0, by simp only; omega, fun b hb => by have := hvl b hb; omega, hq6.mono (by simp only; omega), hc6⟩ (by simp only; omega)
    · refine goS ?_
      refine WO_loadSB rfl hy2 rfl ?_
      refine WO_call rfl (sBorrowCell_ret vm m Fm (l[k]'hkl) wq hm1 (cells_size hmok)) ?_
      rintro _ w4 ⟨vo, rfl, hN⟩
      have e4 := hN.2
      have hN2 := DrM.of hN hGlt (lent_ok hmok) (by rw [lent_len]; exact hmlen)
      refine goS ?_
      refine WO_alloc fun w5 hz e5 z5 => ?_
      refine goS ?_
      refine WO_storeS (k := 2) (vs := [.int .i64 (lentP m (l[k]'hkl) true).cell, .int .i64 (lentP m (l[k]'hkl) true).tag]) rfl rfl rfl (by intro v hv; simp at hv; rcases hv with rfl | rfl <;> rfl) hz (by decide) fun w6 hz6 o6 => ?_
      replace hz6 : Blk w6 w4.heap.size [.int .i64 (lentP m (l[k]'hkl) true).cell, .int .i64 (lentP m (l[k]'hkl) true).tag] _ := hz6
      have e6 : Ext wq w6 := (e4.trans e5).only o6 e4.size_le
      have hN6 := hN2.ext (e5.only o6 (Nat.le_refl _))
      have hq6 := hq2.ext e6
      have hc6 := cq.trans (e6.chg [rb])
      have hl6 := RowPt.chg hl2 (e6.chg []) (by simp)
      have s6 := e6.size_le
      refine goS ?_
      by_cases hcode : lentC m (l[k]'hkl) true = 0
      · rw [hcode]
        refine goS ?_
        refine WO_loadSB rfl hz6 rfl ?_
        refine WO_app1 (m := l.length) (u := .agg #[.int .i64 (lentP m (l[k]'hkl) true).cell, .int .i64 (lentP m (l[k]'hkl) true).tag]) rfl rfl (by intro v hv; simp [Value.cells] at hv; rcases hv with rfl | rfl <;> rfl) rfl hl6 (Nat.zero_le _) rfl (by omega) (by decide) fun v' w7 ho7 hg7 hat7 => ?_
        have hc7 := grown_chg hg7
        have hat : v'.ownBlock = (Value.slice (some ⟨g0, 0, none⟩) l.length cap0).ownBlock ∨ ∃ b, v'.ownBlock = some b ∧ w6.heap.size ≤ b := by
          rcases hat7 with h | h
          · exact .inl h
          · exact .inr ⟨_, h, by omega⟩
        have hM7 := DrM.regrow hN6 hc7 hat
        have s7 := hc7.size
        have hvb := hvl g0 rfl
        have hrw := h.lt
        refine goS ?_
        rw [hn']
        refine at_loop (n, _, v', lentL m (l[k]'hkl) true, l ++ [lentP m (l[k]'hkl) true], q + 4) (by repeat (first | exact True.intro | refine And.intro rfl ?_)) ⟨by simp only; omega, by simp only [List.length_append, List.length_singleton]; omega, by simp only; (rw [lent_len]; omega), hM7, by simp only [RowPt, ptCells_append, List.length_append]; exact ho7, by simp, by simp only; omega, ?_, ?_, ?_⟩ (by simp only; omega)
        · intro b hb
          simp only at hb
          rcases hat7 with h | h
          · rw [h] at hb
            have := hvl b hb
            omega
          · rw [h] at hb
            simp at hb
            have := (ho7.lt b (by simp [h, hb])).2
            omega
        · exact (hq6.chg hc7 (by simp [Value.ownBlock]; omega)).mono (by simp only; omega)
        · exact hc6.fresh hc7 (fun b hb => .inr (by simp [Value.ownBlock] at hb; omega))
      · refine goS ?_
        refine Z50 rfl (by simpa using hcode) ?_
        refine goS ?_
        rw [hn']
        refine at_loop (n, _, _, lentL m (l[k]'hkl) true, l, q + 4) (by repeat (first | exact True.intro | refine And.intro rfl ?_)) ⟨by simp only; omega, by simp only; omega, by simp only [lent_len]; omega, hN6, hl6, hl0, by simp only; omega, fun b hb => by have := hvl b hb; omega, hq6.mono (by simp only; omega), hc6⟩ (by simp only; omega)
    · refine goS ?_
      refine WO_call rfl (pickU_ret rb (q + 2) 3 wq hq2 (by omega) (by decide)) ?_
      rintro _ wr ⟨c2, rfl, hc2, hr3, c3⟩
      have hM3 := hD2.chg c3 (by simp)
      have hM3' := hM3
      obtain ⟨Fm3, hm13, hFm3, _, _⟩ := hM3'
      have hl3 := RowPt.chg hl2 c3 (by simp [Value.ownBlock]; exact hg0)
      have s3 := c3.size
      have hGlt3 : ∀ x ∈ rb :: (Value.slice (some ⟨g0, 0, none⟩) l.length cap0).ownBlock.toList, x < wr.heap.size := fun x hx => by have := hGlt x hx; omega
      have hy3 := hy2.chg c3 (by simp; have := hrp.lt; omega)
      by_cases h0 : c2 = 0
      · subst h0
        refine goS ?_
        refine WO_loadSB rfl hy3 rfl ?_
        refine WO_call rfl (sFreeCell_ret vm m Fm3 (l[k]'hkl) wr hm13 (cells_size hmok)) ?_
        rintro _ w4 ⟨vo, rfl, hN⟩
        have e4 := hN.2
        have hN2 := DrM.of hN hGlt3 (fr_ok hmok).1 (by rw [(fr_ok hmok).2]; exact hmlen)
        have s6 := e4.size_le
        refine goS ?_
        rw [hn']
        refine at_loop (n, _, _, frL m (l[k]'hkl), l, q + 4) (by repeat (first | exact True.intro | refine And.intro rfl ?_)) ⟨by simp only; omega, by simp only; omega, by simp only [(fr_ok hmok).2]; omega, hN2, RowPt.chg hl3 (e4.chg []) (by simp), hl0, by simp only; omega, fun b hb => by have := hvl b hb; omega, (hr3.ext e4).mono (by simp only; omega), (cq.trans c3).trans (e4.chg [rb])⟩ (by simp only; omega)
      · refine goS ?_
        refine Z50 rfl (by simp; omega) ?_
        refine goS ?_
        rw [hn']
        refine at_loop (n, _, _, m, l, q + 4) (by repeat (first | exact True.intro | refine And.intro rfl ?_)) ⟨by simp only; omega, by simp only; omega, by simp only; omega, hM3, hl3, hl0, by simp only; omega, fun b hb => by have := hvl b hb; omega, hr3.mono (by simp only; omega), cq.trans c3⟩ (by simp only; omega)
  · refine goS ?_
    refine at_ret2 rfl rfl rfl ⟨vm, m, vl, l, rfl, ?_, hl, hl0, by omega, hvl, hr.mono (by omega), hch⟩
    obtain ⟨F, q1, q2, q3⟩ := hD
    exact ⟨F, q1, fun x hx => ⟨fun hm => (q2 x hx).1 (by simp at hm; simp [hm]), (q2 x hx).2⟩, q3⟩
end Go.Proofs.YtnfapbghkmodeaaDoor
