/-
  What is proved here: what WriteCell and FreeCell of the reference and of the program return.
-/
import Derived.Test.YtnfapbghkmodeaaDoorCRead
namespace Go.Proofs.YtnfapbghkmodeaaDoor
set_option linter.unusedVariables false
set_option linter.unusedSimpArgs false
set_option linter.unnecessarySimpa false
open Go.RowKit

def wrvC (l : List Ce) (x : Pt) (val : Int) : Int := if 0 ≤ val ∧ val ≤ 9 then wrC l x else 4
def wrvL (l : List Ce) (x : Pt) (val : Int) : List Ce := if wrvC l x val = 0 then setC (wrL l x) x (fun c => { c with val := val }) else l
def frL (l : List Ce) (x : Pt) : List Ce := if wrC l x = 0 then setC (wrL l x) x (fun c => { c with al := false }) else l
theorem setC_at {l : List Ce} {x : Pt} {i : Nat} (hi : i < l.length) (hx : x.cell = i) (f : Ce → Ce) : setC l x f = l.set i (f l[i]) := by
  unfold setC
  rw [hx, Int.toNat_natCast, List.getElem?_eq_getElem hi]
theorem wrL_length (l : List Ce) (x : Pt) : (wrL l x).length = l.length := by
  by_cases h : wrC l x = 0
  · obtain ⟨_, _, i, hi, k, hk, _, hr, _⟩ := wr0 h
    rw [hr, List.length_set]
  · unfold wrL; rw [if_neg h]
theorem wrL_ne {l : List Ce} {x : Pt} (h : wrC l x ≠ 0) : wrL l x = l := by unfold wrL; rw [if_neg h]
/-- What WriteCell, l6Write and FreeCell return. -/
def CodePost (e eT : TypeId) (m : List Ce) (code : Int) (w : World) (r : Value) (w' : World) : Prop :=
  ∃ vo, r = .tuple #[vo, .int .i64 code] ∧ NewCells e eT m w vo w'
/-- One cell of a cell is set. -/
theorem NewCells.setF {e eT : TypeId} {l : List Ce} {w w1 : World} {v : Value} {i : Nat} (h : NewCells e eT l w v w1) (hi : i < l.length) : ∃ g cap cs, v = .slice (some ⟨g, 0, none⟩) l.length cap ∧ Blk w1 g cs e ∧ i * 4 + 4 ≤ cs.length ∧ w.heap.size ≤ g ∧
    (∀ w' val, Blk w' g (cs.set (i * 4) (.int .i64 val)) e → Only g w1 w' → NewCells e eT (l.set i ⟨val, l[i].al, l[i].nx, l[i].st⟩) w v w') ∧
    (∀ w' al, Blk w' g (cs.set (i * 4 + 1) (.bool al)) e → Only g w1 w' → NewCells e eT (l.set i ⟨l[i].val, al, l[i].nx, l[i].st⟩) w v w') ∧
    (∀ w' nx, Blk w' g (cs.set (i * 4 + 2) (.int .i64 nx)) e → Only g w1 w' → NewCells e eT (l.set i ⟨l[i].val, l[i].al, nx, l[i].st⟩) w v w') := by
  obtain ⟨g, cap, cs, vs, Fc, rfl, hg, hb, hlen, c0, c1, c2, c3, hst, hgF, hFc, hup⟩ := h.upd hi
  have hk : ∀ {w'}, Only g w1 w' → RowT eT w' vs l[i].st Fc := fun o => hst.chg o.chg (fun z hz hm => by simp only [List.mem_singleton] at hm; subst hm; exact hgF hz)
  refine ⟨g, cap, cs, rfl, hb, hlen, hg, fun w' val hb' o => ?_, fun w' al hb' o => ?_, fun w' nx hb' o => ?_⟩
  · exact hup w' _ ⟨val, l[i].al, l[i].nx, l[i].st⟩ vs Fc hb' (by simp) (fun p hp => by rw [List.getElem?_set_ne (by omega)]) (by rw [List.getElem?_set_self (by omega)]) (by rw [List.getElem?_set_ne (by omega)]; exact c1) (by rw [List.getElem?_set_ne (by omega)]; exact c2)
      (by rw [List.getElem?_set_ne (by omega)]; exact c3) (hk o) (o.chg.mono (by simp)) (fun b hb => .inl hb)
  · exact hup w' _ ⟨l[i].val, al, l[i].nx, l[i].st⟩ vs Fc hb' (by simp) (fun p hp => by rw [List.getElem?_set_ne (by omega)]) (by rw [List.getElem?_set_ne (by omega)]; exact c0) (by rw [List.getElem?_set_self (by omega)]) (by rw [List.getElem?_set_ne (by omega)]; exact c2)
      (by rw [List.getElem?_set_ne (by omega)]; exact c3) (hk o) (o.chg.mono (by simp)) (fun b hb => .inl hb)
  · exact hup w' _ ⟨l[i].val, l[i].al, nx, l[i].st⟩ vs Fc hb' (by simp) (fun p hp => by rw [List.getElem?_set_ne (by omega)]) (by rw [List.getElem?_set_ne (by omega)]; exact c0) (by rw [List.getElem?_set_ne (by omega)]; exact c1) (by rw [List.getElem?_set_self (by omega)])
      (by rw [List.getElem?_set_ne (by omega)]; exact c3) (hk o) (o.chg.mono (by simp)) (fun b hb => .inl hb)
theorem l6Write_ret (v : Value) (l : List Ce) (F : List Nat) (x : Pt) (w : World) (h : CeS w v l F) (hn : cSize l ≤ 1048576) :
    Ret Tryd.prog 59 [v, ptV x] w (CodePost 43 54 (wrL l x) (wrC l x) w) := by
  have hsum : (l.map fun c => c.st.length).sum ≤ 1048576 := by unfold cSize at hn; omega
  have hlen' : l.length ≤ 1048576 := by unfold cSize at hn; omega
  obtain ⟨A, c, rfl, hl⟩ := h.slice
  refine enter Tryd.func59 rfl Tryd.ntmps59 rfl rfl ?_
  refine Z43 (Z44 (WO_box rfl fun w1 hs e1 z1 => ?_))
  replace hs : Blk w1 w.heap.size [.int .i64 x.cell, .int .i64 x.tag] _ := hs
  refine goS ?_
  refine WO_call rfl (l6Copy_ret _ l F w1 (h.ext e1) hn) ?_
  rintro vo w2 hrow
  have hnc : NewCells 43 54 l w1 vo w2 := NewRow.cells hrow
  clear hrow
  have hs2 := hs.ext hnc.2
  refine goS ?_
  refine WO_loadSB rfl hs2 rfl ?_
  refine WO_call rfl (l6Place_ret _ l F x w2 (h.ext (e1.trans hnc.2))) ?_
  rintro r w3 ⟨⟨k, rfl, hkk⟩, e3⟩
  have hnc3 := hnc.ext e3
  refine goS ?_
  by_cases h0 : accC l x = 0
  · obtain ⟨i, hi, k', hk, hxc, _, _, hko, hu, _, hset⟩ := acc0 h0
    rw [hkk h0, hko, h0]
    rw [hxc] at hs
    have hstl : l[i].st.length ≤ 1048576 := Nat.le_trans (st_le l i hi) hsum
    obtain ⟨b, o, vs, Fs, rfl, _, c0, _, _, c3, hts, _⟩ := ces_at (h.ext e1) hi
    obtain ⟨As, cS, rfl, _, hcS⟩ := hts.slice
    obtain ⟨bs, os, rfl, _, t0, t1⟩ := tgs_at hts hk
    obtain ⟨g, cap, cs, us, Fc, rfl, hg, hb, hlen, d0, d1, d2, d3, hst, hgF, hFc, hup⟩ := hnc3.setSt hi
    have hne : ∀ {a : Addr} {u : Value}, w1.cell? a = some u → a.block ∉ [g] := fun ha => by
      have := World.block_lt_of_cell? _ _ ha
      simp
      omega
    have hs3 := hs.ext hnc3.2
    have c33 := cell_ext c3 hnc3.2
    have t13 := cell_ext t1 hnc3.2
    clear c0 t0
    refine goS ?_
    refine Z83 rfl rfl rfl hi ?_
    refine goS ?_
    refine Z83 rfl rfl rfl hk ?_
    cases hu' : l[i].st[k'].u
    · rw [hu'] at t13 hu
      have hC : wrC l x = 3 := by simp [wrC, h0, hu]
      refine goS ?_
      refine at_ret2 rfl rfl rfl ⟨_, by rw [hC], ?_⟩
      rw [wrL_ne (by rw [hC]; decide)]
      exact hnc3.mono e1
    · rw [hu'] at t13 hu
      have hC : wrC l x = 0 := by simp [wrC, h0, hu]
      have hL : wrL l x = l.set i ⟨l[i].val, l[i].al, l[i].nx, l[i].st.take (k' + 1)⟩ := by
        unfold wrL
        rw [if_pos hC, hset, hko]
      refine goS ?_
      refine W_held0 [g] [(6, .slice (some ⟨g, 0, none⟩) l.length cap)] (fun w' => NewCells 43 54 (wrL l x) w1 (.slice (some ⟨g, 0, none⟩) l.length cap) w')
        (by kernel_rfl) (fun w4 e4 hS => ?_) (fun w6 hR => ?_)
      · have e14 := hnc3.2.trans e4
        have hx0 := cell_ext (hs.cell (o := 0) rfl) e14
        first | refine Z82 0 rfl (by kernel_rfl) (by kernel_rfl) (by kernel_rfl) (by assumption) (fun w' hw' => Z56 rfl) ?_ | refine Z82 0 rfl (by kernel_rfl) (by kernel_rfl) (by kernel_rfl) (by assumption) (fun w' hw' => Z63 rfl rfl) ?_ | refine Z82 0 rfl (by kernel_rfl) (by kernel_rfl) (by kernel_rfl) (by assumption) (fun w' hw' => Z64 rfl rfl) ?_ | refine Z82 0 rfl (by kernel_rfl) (by kernel_rfl) (by kernel_rfl) (by assumption) (fun w' hw' => Z75 rfl rfl (by omega)) ?_ | refine Z82 0 rfl (by kernel_rfl) (by kernel_rfl) (by kernel_rfl) (by assumption) (fun w' hw' => Z72 rfl) ?_ | refine Z82 0 rfl (by kernel_rfl) (by kernel_rfl) (by kernel_rfl) (by assumption) (fun w' hw' => Z69 rfl rfl rfl (by omega)) ?_ | refine Z82 0 rfl (by kernel_rfl) (by kernel_rfl) (by kernel_rfl) (by assumption) (fun w' hw' => Z30 rfl (by rfl) (by simp only [Z84, List.set_cons_zero, List.set_cons_succ]; rfl)) ?_
        first | refine Z82 1 rfl (by kernel_rfl) (by kernel_rfl) (by kernel_rfl) (by assumption) (fun w' hw' => Z56 rfl) ?_ | refine Z82 1 rfl (by kernel_rfl) (by kernel_rfl) (by kernel_rfl) (by assumption) (fun w' hw' => Z63 rfl rfl) ?_ | refine Z82 1 rfl (by kernel_rfl) (by kernel_rfl) (by kernel_rfl) (by assumption) (fun w' hw' => Z64 rfl rfl) ?_ | refine Z82 1 rfl (by kernel_rfl) (by kernel_rfl) (by kernel_rfl) (by assumption) (fun w' hw' => Z75 rfl rfl (by omega)) ?_ | refine Z82 1 rfl (by kernel_rfl) (by kernel_rfl) (by kernel_rfl) (by assumption) (fun w' hw' => Z72 rfl) ?_ | refine Z82 1 rfl (by kernel_rfl) (by kernel_rfl) (by kernel_rfl) (by assumption) (fun w' hw' => Z69 rfl rfl rfl (by omega)) ?_ | refine Z82 1 rfl (by kernel_rfl) (by kernel_rfl) (by kernel_rfl) (by assumption) (fun w' hw' => Z30 rfl (by rfl) (by simp only [Z84, List.set_cons_zero, List.set_cons_succ]; rfl)) ?_
        refine Z82 2 rfl (by kernel_rfl) (by kernel_rfl) (by kernel_rfl) (by assumption) (fun w' hw' => Z67 rfl (cell_chg hx0 hw' (hne (hs.cell (o := 0) rfl)))) ?_
        first | refine Z82 4 rfl (by kernel_rfl) (by kernel_rfl) (by kernel_rfl) (by assumption) (fun w' hw' => Z56 rfl) ?_ | refine Z82 4 rfl (by kernel_rfl) (by kernel_rfl) (by kernel_rfl) (by assumption) (fun w' hw' => Z63 rfl rfl) ?_ | refine Z82 4 rfl (by kernel_rfl) (by kernel_rfl) (by kernel_rfl) (by assumption) (fun w' hw' => Z64 rfl rfl) ?_ | refine Z82 4 rfl (by kernel_rfl) (by kernel_rfl) (by kernel_rfl) (by assumption) (fun w' hw' => Z75 rfl rfl (by omega)) ?_ | refine Z82 4 rfl (by kernel_rfl) (by kernel_rfl) (by kernel_rfl) (by assumption) (fun w' hw' => Z72 rfl) ?_ | refine Z82 4 rfl (by kernel_rfl) (by kernel_rfl) (by kernel_rfl) (by assumption) (fun w' hw' => Z69 rfl rfl rfl (by omega)) ?_ | refine Z82 4 rfl (by kernel_rfl) (by kernel_rfl) (by kernel_rfl) (by assumption) (fun w' hw' => Z30 rfl (by rfl) (by simp only [Z84, List.set_cons_zero, List.set_cons_succ]; rfl)) ?_
        first | refine Z82 5 rfl (by kernel_rfl) (by kernel_rfl) (by kernel_rfl) (by assumption) (fun w' hw' => Z56 rfl) ?_ | refine Z82 5 rfl (by kernel_rfl) (by kernel_rfl) (by kernel_rfl) (by assumption) (fun w' hw' => Z63 rfl rfl) ?_ | refine Z82 5 rfl (by kernel_rfl) (by kernel_rfl) (by kernel_rfl) (by assumption) (fun w' hw' => Z64 rfl rfl) ?_ | refine Z82 5 rfl (by kernel_rfl) (by kernel_rfl) (by kernel_rfl) (by assumption) (fun w' hw' => Z75 rfl rfl (by omega)) ?_ | refine Z82 5 rfl (by kernel_rfl) (by kernel_rfl) (by kernel_rfl) (by assumption) (fun w' hw' => Z72 rfl) ?_ | refine Z82 5 rfl (by kernel_rfl) (by kernel_rfl) (by kernel_rfl) (by assumption) (fun w' hw' => Z69 rfl rfl rfl (by omega)) ?_ | refine Z82 5 rfl (by kernel_rfl) (by kernel_rfl) (by kernel_rfl) (by assumption) (fun w' hw' => Z30 rfl (by rfl) (by simp only [Z84, List.set_cons_zero, List.set_cons_succ]; rfl)) ?_
        refine Z82 6 rfl (by kernel_rfl) (by kernel_rfl) (by kernel_rfl) (by assumption) (fun w' hw' => Z67 rfl (cell_chg hx0 hw' (hne (hs.cell (o := 0) rfl)))) ?_
        first | refine Z82 7 rfl (by kernel_rfl) (by kernel_rfl) (by kernel_rfl) (by assumption) (fun w' hw' => Z56 rfl) ?_ | refine Z82 7 rfl (by kernel_rfl) (by kernel_rfl) (by kernel_rfl) (by assumption) (fun w' hw' => Z63 rfl rfl) ?_ | refine Z82 7 rfl (by kernel_rfl) (by kernel_rfl) (by kernel_rfl) (by assumption) (fun w' hw' => Z64 rfl rfl) ?_ | refine Z82 7 rfl (by kernel_rfl) (by kernel_rfl) (by kernel_rfl) (by assumption) (fun w' hw' => Z75 rfl rfl (by omega)) ?_ | refine Z82 7 rfl (by kernel_rfl) (by kernel_rfl) (by kernel_rfl) (by assumption) (fun w' hw' => Z72 rfl) ?_ | refine Z82 7 rfl (by kernel_rfl) (by kernel_rfl) (by kernel_rfl) (by assumption) (fun w' hw' => Z69 rfl rfl rfl (by omega)) ?_ | refine Z82 7 rfl (by kernel_rfl) (by kernel_rfl) (by kernel_rfl) (by assumption) (fun w' hw' => Z30 rfl (by rfl) (by simp only [Z84, List.set_cons_zero, List.set_cons_succ]; rfl)) ?_
        first | refine Z82 8 rfl (by kernel_rfl) (by kernel_rfl) (by kernel_rfl) (by assumption) (fun w' hw' => Z56 rfl) ?_ | refine Z82 8 rfl (by kernel_rfl) (by kernel_rfl) (by kernel_rfl) (by assumption) (fun w' hw' => Z63 rfl rfl) ?_ | refine Z82 8 rfl (by kernel_rfl) (by kernel_rfl) (by kernel_rfl) (by assumption) (fun w' hw' => Z64 rfl rfl) ?_ | refine Z82 8 rfl (by kernel_rfl) (by kernel_rfl) (by kernel_rfl) (by assumption) (fun w' hw' => Z75 rfl rfl (by omega)) ?_ | refine Z82 8 rfl (by kernel_rfl) (by kernel_rfl) (by kernel_rfl) (by assumption) (fun w' hw' => Z72 rfl) ?_ | refine Z82 8 rfl (by kernel_rfl) (by kernel_rfl) (by kernel_rfl) (by assumption) (fun w' hw' => Z69 rfl rfl rfl (by omega)) ?_ | refine Z82 8 rfl (by kernel_rfl) (by kernel_rfl) (by kernel_rfl) (by assumption) (fun w' hw' => Z30 rfl (by rfl) (by simp only [Z84, List.set_cons_zero, List.set_cons_succ]; rfl)) ?_
        refine Z82 9 rfl (by kernel_rfl) (by kernel_rfl) (by kernel_rfl) (by assumption) (fun w' hw' => Z67 rfl (cell_chg (cell_ext c3 e14) hw' (hne c3))) ?_
        first | refine Z82 10 rfl (by kernel_rfl) (by kernel_rfl) (by kernel_rfl) (by assumption) (fun w' hw' => Z56 rfl) ?_ | refine Z82 10 rfl (by kernel_rfl) (by kernel_rfl) (by kernel_rfl) (by assumption) (fun w' hw' => Z63 rfl rfl) ?_ | refine Z82 10 rfl (by kernel_rfl) (by kernel_rfl) (by kernel_rfl) (by assumption) (fun w' hw' => Z64 rfl rfl) ?_ | refine Z82 10 rfl (by kernel_rfl) (by kernel_rfl) (by kernel_rfl) (by assumption) (fun w' hw' => Z75 rfl rfl (by omega)) ?_ | refine Z82 10 rfl (by kernel_rfl) (by kernel_rfl) (by kernel_rfl) (by assumption) (fun w' hw' => Z72 rfl) ?_ | refine Z82 10 rfl (by kernel_rfl) (by kernel_rfl) (by kernel_rfl) (by assumption) (fun w' hw' => Z69 rfl rfl rfl (by omega)) ?_ | refine Z82 10 rfl (by kernel_rfl) (by kernel_rfl) (by kernel_rfl) (by assumption) (fun w' hw' => Z30 rfl (by rfl) (by simp only [Z84, List.set_cons_zero, List.set_cons_succ]; rfl)) ?_
        first | refine Z82 11 rfl (by kernel_rfl) (by kernel_rfl) (by kernel_rfl) (by assumption) (fun w' hw' => Z56 rfl) ?_ | refine Z82 11 rfl (by kernel_rfl) (by kernel_rfl) (by kernel_rfl) (by assumption) (fun w' hw' => Z63 rfl rfl) ?_ | refine Z82 11 rfl (by kernel_rfl) (by kernel_rfl) (by kernel_rfl) (by assumption) (fun w' hw' => Z64 rfl rfl) ?_ | refine Z82 11 rfl (by kernel_rfl) (by kernel_rfl) (by kernel_rfl) (by assumption) (fun w' hw' => Z75 rfl rfl (by omega)) ?_ | refine Z82 11 rfl (by kernel_rfl) (by kernel_rfl) (by kernel_rfl) (by assumption) (fun w' hw' => Z72 rfl) ?_ | refine Z82 11 rfl (by kernel_rfl) (by kernel_rfl) (by kernel_rfl) (by assumption) (fun w' hw' => Z69 rfl rfl rfl (by omega)) ?_ | refine Z82 11 rfl (by kernel_rfl) (by kernel_rfl) (by kernel_rfl) (by assumption) (fun w' hw' => Z30 rfl (by rfl) (by simp only [Z84, List.set_cons_zero, List.set_cons_succ]; rfl)) ?_
        refine Z82 12 rfl (by kernel_rfl) (by kernel_rfl) (by kernel_rfl) (by assumption) (fun w' hw' => q_slTo (h := k' + 1) rfl rfl (by omega) (by omega)) ?_
        refine WH_one 3 rfl (by kernel_rfl) (WO_build0 (e := 54) (k := 2) fun w5 hb5 e5 z5 => Z31 (at_held (e5.chg _) ?_))
        have hown5 := owns_empty (B := w4.heap.size) (k := 2) hb5 (Nat.le_refl _)
        obtain ⟨Gt, hGt⟩ := tgs_take ((hts.ext e14).ext e5) (k' + 1) (by omega) (by omega)
        refine WH_one 13 rfl (by kernel_rfl) (WO_appT (l0 := []) rfl hown5 rfl hGt e5.size (by simp; omega) (by decide) fun ur w6 hown6 hg6 hat6 => ?_)
        have e6 : Ext w4 w6 := grown_below e5 hown5 hg6 (Nat.le_refl _)
        have hu6 : RowT 54 w6 ur (l[i].st.take (k' + 1)) ur.ownBlock.toList := ⟨by simpa using ownsRow_base0 hown6, rfl⟩
        have hFu : ∀ z ∈ ur.ownBlock.toList, w4.heap.size ≤ z := fun z hz => (hown6.lt z (by simpa using hz)).1
        have hone : ur.oneCell' = true := by obtain ⟨_, _, rfl, _⟩ := hu6.slice; rfl
        have hS6 := e6.chg [g]
        refine Z31 (at_held hS6 ?_)
        first | refine Z82 14 rfl (by kernel_rfl) (by kernel_rfl) (by kernel_rfl) (by assumption) (fun w' hw' => Z56 rfl) ?_ | refine Z82 14 rfl (by kernel_rfl) (by kernel_rfl) (by kernel_rfl) (by assumption) (fun w' hw' => Z63 rfl rfl) ?_ | refine Z82 14 rfl (by kernel_rfl) (by kernel_rfl) (by kernel_rfl) (by assumption) (fun w' hw' => Z64 rfl rfl) ?_ | refine Z82 14 rfl (by kernel_rfl) (by kernel_rfl) (by kernel_rfl) (by assumption) (fun w' hw' => Z75 rfl rfl (by omega)) ?_ | refine Z82 14 rfl (by kernel_rfl) (by kernel_rfl) (by kernel_rfl) (by assumption) (fun w' hw' => Z72 rfl) ?_ | refine Z82 14 rfl (by kernel_rfl) (by kernel_rfl) (by kernel_rfl) (by assumption) (fun w' hw' => Z69 rfl rfl rfl (by omega)) ?_ | refine Z82 14 rfl (by kernel_rfl) (by kernel_rfl) (by kernel_rfl) (by assumption) (fun w' hw' => Z30 rfl (by rfl) (by simp only [Z84, List.set_cons_zero, List.set_cons_succ]; rfl)) ?_
        first | refine Z82 15 rfl (by kernel_rfl) (by kernel_rfl) (by kernel_rfl) (by assumption) (fun w' hw' => Z56 rfl) ?_ | refine Z82 15 rfl (by kernel_rfl) (by kernel_rfl) (by kernel_rfl) (by assumption) (fun w' hw' => Z63 rfl rfl) ?_ | refine Z82 15 rfl (by kernel_rfl) (by kernel_rfl) (by kernel_rfl) (by assumption) (fun w' hw' => Z64 rfl rfl) ?_ | refine Z82 15 rfl (by kernel_rfl) (by kernel_rfl) (by kernel_rfl) (by assumption) (fun w' hw' => Z75 rfl rfl (by omega)) ?_ | refine Z82 15 rfl (by kernel_rfl) (by kernel_rfl) (by kernel_rfl) (by assumption) (fun w' hw' => Z72 rfl) ?_ | refine Z82 15 rfl (by kernel_rfl) (by kernel_rfl) (by kernel_rfl) (by assumption) (fun w' hw' => Z69 rfl rfl rfl (by omega)) ?_ | refine Z82 15 rfl (by kernel_rfl) (by kernel_rfl) (by kernel_rfl) (by assumption) (fun w' hw' => Z30 rfl (by rfl) (by simp only [Z84, List.set_cons_zero, List.set_cons_succ]; rfl)) ?_
        refine WH_one 16 rfl (by kernel_rfl) (WO_store1 rfl rfl hone (hb.ext (e4.trans e6)) (by omega) fun w7 hb7 o7 => Z31 (at_held (hS6.trans o7.chg) (WH_done (by kernel_rfl) (by repeat (first | exact True.intro | refine And.intro rfl ?_)) ?_)))
        simp only [Nat.zero_add] at hb7
        rw [hL]
        have hglt := hb.lt
        exact hup w7 ur (l[i].st.take (k' + 1)) _ hb7 (hu6.chg o7.chg (fun z hz hm => by simp only [List.mem_singleton] at hm; subst hm; have := hFu _ hz; have := e4.size_le; omega)) (((e4.trans e6).chg _).trans (o7.chg.mono (by simp))) (fun z hz => .inr (Nat.le_trans e4.size_le (hFu z hz)))
      · refine goS ?_
        exact at_ret2 rfl rfl rfl ⟨_, by rw [hC], hR.mono e1⟩
  · have hC : wrC l x = accC l x := by unfold wrC; rw [if_neg h0]
    refine Z49 rfl (by simpa using h0) ?_
    refine goS ?_
    refine at_ret2 rfl rfl rfl ⟨vo, by rw [hC]; rfl, ?_⟩
    rw [wrL_ne (by rw [hC]; exact h0)]
    exact hnc3.mono e1
theorem sFreeCell_ret (v : Value) (l : List Ce) (F : List Nat) (x : Pt) (w : World) (h : CeS w v l F) (hn : cSize l ≤ 1048576) :
    Ret Tryd.prog 50 [v, ptV x] w (CodePost 43 54 (frL l x) (wrC l x) w) := by
  refine enter Tryd.func50 rfl Tryd.ntmps50 rfl rfl ?_
  refine Z43 (Z44 (WO_box rfl fun w1 hs e1 z1 => ?_))
  replace hs : Blk w1 w.heap.size [.int .i64 x.cell, .int .i64 x.tag] _ := hs
  refine goS ?_
  refine WO_loadSB rfl hs rfl ?_
  refine WO_call rfl (l6Write_ret _ l F x w1 (h.ext e1) hn) ?_
  rintro r w3 ⟨vo, rfl, hN⟩
  have hs3 := hs.ext hN.2
  refine goS ?_
  by_cases h0 : wrC l x = 0
  · rw [h0]
    obtain ⟨_, _, i, hi, k, hk, hxc, hL, _⟩ := wr0 h0
    have hi' : i < (wrL l x).length := by rw [wrL_length]; exact hi
    obtain ⟨g, cap, cs, rfl, hb, hlen, hg, _, hup, _⟩ := hN.setF hi'
    rw [hxc] at hs3
    have hl := wrL_length l x
    refine goS ?_
    refine Z83 rfl rfl rfl (by omega) ?_
    refine goS ?_
    refine WO_store1 rfl rfl rfl hb (by omega) fun w4 hb4 o4 => ?_
    simp only [Nat.zero_add, Nat.add_zero] at hb4
    refine goS ?_
    refine at_ret2 rfl rfl rfl ⟨_, rfl, ?_⟩
    have hW : frL l x = (wrL l x).set i ⟨(wrL l x)[i].val, false, (wrL l x)[i].nx, (wrL l x)[i].st⟩ := by
      unfold frL
      rw [if_pos h0, setC_at hi' hxc]
    rw [hW]
    exact (hup w4 false hb4 o4).mono e1
  · refine Z50 rfl (by simpa using h0) ?_
    refine goS ?_
    refine at_ret2 rfl rfl rfl ⟨vo, rfl, ?_⟩
    unfold frL
    rw [if_neg h0]
    rw [wrL_ne h0] at hN
    exact hN.mono e1
end Go.Proofs.YtnfapbghkmodeaaDoor
