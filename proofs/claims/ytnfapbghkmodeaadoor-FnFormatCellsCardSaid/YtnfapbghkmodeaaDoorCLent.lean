/-
  What is proved here: what ShareCell and BorrowCell of the reference and of the program return.
-/
import Derived.Test.YtnfapbghkmodeaaDoorCWrite
namespace Go.Proofs.YtnfapbghkmodeaaDoor
set_option linter.unusedVariables false
set_option linter.unusedSimpArgs false
set_option linter.unnecessarySimpa false
open Go.RowKit

def cellAt (m : List Ce) (x : Pt) : Ce := match m[x.cell.toNat]? with
  | some c => c
  | none => ⟨0, false, 0, []⟩
def lentFull (m : List Ce) (x : Pt) : Bool := decide ((cellAt m x).st.length = 200 ∨ (cellAt m x).nx = 1000)
def lentC (l : List Ce) (x : Pt) (u : Bool) : Int := if touchC l x u = 0 then (if lentFull (touchL l x u) x then 4 else 0) else touchC l x u
def lentL (l : List Ce) (x : Pt) (u : Bool) : List Ce := if lentC l x u = 0 then setC (touchL l x u) x (fun c => ⟨c.val, c.al, c.nx + 1, c.st ++ [⟨c.nx, u⟩]⟩) else l
def lentP (l : List Ce) (x : Pt) (u : Bool) : Pt := if lentC l x u = 0 then ⟨x.cell, (cellAt (touchL l x u) x).nx⟩ else ⟨0, 0⟩
/-- What ShareCell and BorrowCell return. -/
def LentPost (e eT : TypeId) (l : List Ce) (x : Pt) (u : Bool) (w : World) (r : Value) (w' : World) : Prop :=
  ∃ vo, r = .tuple #[vo, ptV (lentP l x u), .int .i64 (lentC l x u)] ∧ NewCells e eT (lentL l x u) w vo w'
theorem acc_valid {l : List Ce} {x : Pt} (h : accC l x = 0) : cellsOk l := by
  rcases acc_cases l x with ⟨ha, _⟩ | ⟨hok, _⟩
  · omega
  · exact hok
theorem readSt_length (st : List Tg) (k : Nat) : (readSt st k).length ≤ st.length := by
  unfold readSt
  have := List.length_filter_le (fun t : Tg => !t.u) (st.drop (k + 1))
  simp at this ⊢
  omega
theorem touch0 {l : List Ce} {x : Pt} {u : Bool} (h : touchC l x u = 0) : cellsOk l ∧ ∃ (i : Nat) (hi : i < l.length) (st : List Tg), x.cell = i ∧ touchL l x u = l.set i ⟨l[i].val, l[i].al, l[i].nx, st⟩ ∧ st.length ≤ 200 := by
  cases u
  · have h0 : accC l x = 0 := h
    have hok := acc_valid h0
    obtain ⟨i, hi, k, hk, hxc, hL, _⟩ := acc0 h0
    refine ⟨hok, i, hi, readSt l[i].st k, hxc, hL, ?_⟩
    have := (hok.2 l[i] (List.getElem_mem hi)).2.2.1
    have := readSt_length l[i].st k
    omega
  · have h0 : wrC l x = 0 := h
    obtain ⟨ha, _, i, hi, k, hk, hxc, hL, _⟩ := wr0 h0
    have hok := acc_valid ha
    refine ⟨hok, i, hi, l[i].st.take (k + 1), hxc, hL, ?_⟩
    have := (hok.2 l[i] (List.getElem_mem hi)).2.2.1
    simp
    omega
theorem touchL_ne {l : List Ce} {x : Pt} {u : Bool} (h : touchC l x u ≠ 0) : touchL l x u = l := by
  cases u
  · exact readL_ne h
  · exact wrL_ne h
theorem sum_le (m : List Ce) (h : ∀ c ∈ m, c.st.length ≤ 300) : (m.map fun c => c.st.length).sum ≤ m.length * 300 := by
  induction m with
  | nil => simp
  | cons c r ih =>
    have h1 := ih fun c hc => h c (by simp [hc])
    have h2 := h c (by simp)
    simp only [List.map_cons, List.sum_cons, List.length_cons]
    omega
theorem cSize_small {m : List Ce} (hl : m.length ≤ 200) (h : ∀ c ∈ m, c.st.length ≤ 300) : cSize m ≤ 1048576 := by
  have := sum_le m h
  unfold cSize
  omega
theorem set_small {l : List Ce} {i : Nat} {c : Ce} (hok : cellsOk l) (hc : c.st.length ≤ 300) : cSize (l.set i c) ≤ 1048576 := by
  refine cSize_small (by rw [List.length_set]; exact hok.1) fun d hd => ?_
  rcases List.mem_or_eq_of_mem_set hd with h | rfl
  · have := (hok.2 d h).2.2.1; omega
  · exact hc
theorem cellAt_eq {m : List Ce} {x : Pt} {i : Nat} (hi : i < m.length) (hx : x.cell = i) : cellAt m x = m[i] := by
  unfold cellAt
  rw [hx, Int.toNat_natCast, List.getElem?_eq_getElem hi]
def fullI (m : List Ce) (i : Nat) (hi : i < m.length) : Prop := m[i].st.length = 200 ∨ m[i].nx = 1000
instance (m : List Ce) (i : Nat) (hi : i < m.length) : Decidable (fullI m i hi) := by unfold fullI; infer_instance
theorem l6Push_ret (vm vb : Value) (M l : List Ce) (F : List Nat) (i : Nat) (u : Bool) (w0 w : World) (hM : NewCells 43 54 M w0 vm w) (hb : CeS w vb l F) (hn : cSize l ≤ 1048576) (hi : i < M.length) (hst : M[i].st.length ≤ 200) (hnx : 1 ≤ M[i].nx ∧ M[i].nx ≤ 1000) :
    Ret Tryd.prog 58 [vm, vb, .int .i64 i, .bool u] w fun r w' => ∃ vo, r = .tuple #[vo, ptV (if fullI M i hi then ⟨0, 0⟩ else ⟨i, M[i].nx⟩), .int .i64 (if fullI M i hi then 4 else 0)] ∧
      NewCells 43 54 (if fullI M i hi then l else M.set i ⟨M[i].val, M[i].al, M[i].nx + 1, M[i].st ++ [⟨M[i].nx, u⟩]⟩) w0 vo w' := by
  refine enter Tryd.func58 rfl Tryd.ntmps58 rfl rfl ?_
  refine goS ?_
  refine WO_alloc fun w1 hp e1 z1 => ?_
  replace hp : Blk w1 w.heap.size [.int .i64 0, .int .i64 0] _ := hp
  have hM1 := hM.ext e1
  have s0 := hM.2.size_le
  have s1 := e1.size_le
  obtain ⟨g, cap, cs, vs, Fc, rfl, hg, hbk, hlen, c0, c1, c2, c3, hrt, hgF, hFc, hup⟩ := hM.upd hi
  have hlt := hbk.lt
  have hFlt := hrt.lt
  replace hbk := hbk.ext e1
  replace hrt := hrt.ext e1
  obtain ⟨As, cS, rfl, _⟩ := hrt.slice
  refine goS ?_
  refine Z83 rfl rfl rfl hi ?_
  refine WO_loadS rfl rfl (four (o := 0 + i * 4) (by rw [Nat.zero_add]; exact hbk.cell c0) (by rw [Nat.zero_add]; exact hbk.cell c1) (by rw [Nat.zero_add]; exact hbk.cell c2) (by rw [Nat.zero_add]; exact hbk.cell c3)) ?_
  refine WO_alloc fun w2 hs e2 z2 => ?_
  refine WO_storeS (k := 4) (vs := [.int .i64 M[i].val, .bool M[i].al, .int .i64 M[i].nx, .slice As M[i].st.length cS]) rfl rfl rfl (by intro v hv; simp at hv; rcases hv with rfl | rfl | rfl | rfl <;> rfl) hs (by decide) fun w3 hs3 o3 => ?_
  replace hs3 : Blk w3 w1.heap.size [.int .i64 M[i].val, .bool M[i].al, .int .i64 M[i].nx, .slice As M[i].st.length cS] _ := hs3
  have e3 : Ext w1 w3 := e2.only o3 (Nat.le_refl _)
  have s3 := e3.size_le
  have hp3 := hp.ext e3
  have e13 := e1.trans e3
  (refine goS ?_; repeat' (first | ((refine Z51 rfl rfl (fun c' hc' => ?_)); cases c' <;> (try simp only [decide_eq_true_eq, decide_eq_false_iff_not, beq_iff_eq, beq_eq_false_iff_ne, bne_iff_ne, bne_eq_false_iff_eq, ne_eq, gt_iff_lt, ge_iff_le, Int.not_lt, Int.not_le, Bool.not_eq_true', Bool.not_eq_false', Bool.not_true, Bool.not_false, reduceCtorEq, Decidable.not_not, not_true_eq_false, Bool.true_eq_false, Bool.false_eq_true] at hc') <;> (try (exfalso; omega)) <;> refine goS ?_) | ((refine Z52 rfl (fun hc' => ?_) (fun hc' => ?_)) <;> (try simp only [decide_eq_true_eq, decide_eq_false_iff_not, beq_iff_eq, beq_eq_false_iff_ne, bne_iff_ne, bne_eq_false_iff_eq, ne_eq, gt_iff_lt, ge_iff_le, Int.not_lt, Int.not_le, Bool.not_eq_true', Bool.not_eq_false', Bool.not_true, Bool.not_false, reduceCtorEq, Decidable.not_not, not_true_eq_false, Bool.true_eq_false, Bool.false_eq_true] at hc') <;> (try (exfalso; omega)) <;> refine goS ?_)))
  all_goals try
    have hfl : fullI M i hi := by unfold fullI; omega
    refine WO_call rfl (l6Copy_ret _ l F w3 (hb.ext e13) hn) ?_
    rintro vr w5 hrow
    have hnr : NewCells 43 54 l w3 vr w5 := NewRow.cells hrow
    clear hrow
    refine goS ?_
    refine WO_storeS (k := 2) (vs := [.int .i64 0, .int .i64 0]) rfl rfl rfl (by intro v hv; simp at hv; subst hv; rfl) (hp3.ext hnr.2) (by decide) fun w9 hp9 o9 => ?_
    refine goS ?_
    refine at_ret3G rfl (.tmp rfl) (.cell (k := 2) inferInstance rfl hp9 rfl) (.tmp rfl) ⟨vr, ?_, ?_⟩
    · rw [if_pos hfl, if_pos hfl]; rfl
    · rw [if_pos hfl]
      exact hnr.chg o9.chg (by simp; omega) (by omega) (((hM.2.trans e13).trans hnr.2).only o9 s0)
  have hfl : ¬ fullI M i hi := by unfold fullI; omega
  refine WO_app1 (m := M[i].st.length) (u := .agg #[.int .i64 M[i].nx, .bool u]) rfl rfl (by intro v hv; simp [Value.cells] at hv; rcases hv with rfl | rfl <;> rfl) rfl (hrt.ext e3).own (Nat.zero_le _) rfl (by omega) (by decide) fun v' w6 hown6 hg6 hat6 => ?_
  have hFs : (Value.slice As M[i].st.length cS).ownBlock.toList = Fc := hrt.foot.symm
  have c6 : Chg Fc w3 w6 := by have := grown_chg hg6; rwa [hFs] at this
  have hr6 : RowT 54 w6 v' (M[i].st ++ [⟨M[i].nx, u⟩]) v'.ownBlock.toList := ⟨by rw [List.length_append, tagCells_append]; exact ownsRow_base0 hown6, rfl⟩
  have hone' : v'.oneCell' = true := by obtain ⟨_, _, rfl, _⟩ := hr6.slice; rfl
  have hgF' : g ∉ v'.ownBlock.toList := by
    rcases hat6 with h6 | h6
    · rw [h6, hFs]; exact hgF
    · rw [h6]; simp; omega
  have hb6 := (hbk.ext e3).chg c6 hgF
  have hp6 := hp3.chg c6 (fun hm => by have := hFlt _ hm; omega)
  refine goS ?_
  refine Z83 rfl rfl rfl hi ?_
  refine goS ?_
  refine WO_store1 rfl rfl hone' hb6 (by omega) fun w7 hb7 o7 => ?_
  simp only [Nat.zero_add] at hb7
  refine goS ?_
  refine Z83 rfl rfl rfl hi ?_
  refine goS ?_
  refine WO_store1 rfl rfl rfl hb7 (by simp; omega) fun w8 hb8 o8 => ?_
  simp only [Nat.zero_add] at hb8
  have hgN : ∀ z ∈ v'.ownBlock.toList, z ∉ [g] := fun z hz hm => by simp only [List.mem_singleton] at hm; subst hm; exact hgF' hz
  have hp8 := (hp6.only o7 (by omega)).only o8 (by omega)
  have s6 := c6.size
  have s7 := o7.size
  have s8 := o8.size
  refine goS ?_
  refine WO_storeS (k := 2) (vs := [.int .i64 i, .int .i64 M[i].nx]) rfl rfl rfl (by intro v hv; simp at hv; rcases hv with rfl | rfl <;> rfl) hp8 (by decide) fun w9 hp9 o9 => ?_
  refine goS ?_
  have hgW : ∀ z ∈ v'.ownBlock.toList, z ∉ [w.heap.size] := fun z hz hm => by
    simp only [List.mem_singleton] at hm
    subst hm
    rcases hat6 with h6 | h6
    · rw [h6, hFs] at hz; have := hFlt _ hz; omega
    · rw [h6] at hz; simp at hz; omega
  have hN9 := hup w9 _ ⟨M[i].val, M[i].al, M[i].nx + 1, M[i].st ++ [⟨M[i].nx, u⟩]⟩ v' _ (hb8.only o9 (by omega)) (by simp) (fun p hp => by rw [List.getElem?_set_ne (by omega), List.getElem?_set_ne (by omega)])
    (by rw [List.getElem?_set_ne (by omega), List.getElem?_set_ne (by omega)]; exact c0) (by rw [List.getElem?_set_ne (by omega), List.getElem?_set_ne (by omega)]; exact c1) (by rw [List.getElem?_set_self (by simp; omega)]) (by rw [List.getElem?_set_ne (by omega), List.getElem?_set_self (by omega)])
    (((hr6.chg o7.chg hgN).chg o8.chg hgN).chg o9.chg hgW) (((e13.chg _).trans ((c6.mono (by intro b hb; simp [hb])).trans ((o7.chg.mono (by simp)).trans (o8.chg.mono (by simp))))).fresh o9.chg (by simp)) (fun z hz => by
      rcases hat6 with h6 | h6
      · rw [h6, hFs] at hz; exact .inl hz
      · rw [h6] at hz; simp at hz; subst hz; exact .inr (by omega))
  refine at_ret3G rfl (.tmp rfl) (.cell (k := 2) inferInstance rfl hp9 rfl) (.tmp rfl) ⟨.slice (some ⟨g, 0, none⟩) M.length cap, ?_, ?_⟩
  · rw [if_neg hfl, if_neg hfl]; rfl
  · rw [if_neg hfl]
    exact hN9
theorem full_of {l : List Ce} {x : Pt} {u : Bool} {i : Nat} (hi : i < (touchL l x u).length) (hx : x.cell = i) (h0 : touchC l x u = 0) :
    lentC l x u = (if fullI (touchL l x u) i hi then 4 else 0) ∧ lentP l x u = (if fullI (touchL l x u) i hi then ⟨0, 0⟩ else ⟨i, (touchL l x u)[i].nx⟩) ∧
    lentL l x u = (if fullI (touchL l x u) i hi then l else (touchL l x u).set i ⟨(touchL l x u)[i].val, (touchL l x u)[i].al, (touchL l x u)[i].nx + 1, (touchL l x u)[i].st ++ [⟨(touchL l x u)[i].nx, u⟩]⟩) := by
  have hc := cellAt_eq hi hx
  have hf : lentFull (touchL l x u) x = decide (fullI (touchL l x u) i hi) := by unfold lentFull fullI; rw [hc]
  have hC : lentC l x u = (if fullI (touchL l x u) i hi then 4 else 0) := by
    unfold lentC
    rw [if_pos h0, hf]
    by_cases h : fullI (touchL l x u) i hi <;> simp [h]
  refine ⟨hC, ?_, ?_⟩
  · unfold lentP
    rw [hC, hc, hx]
    by_cases h : fullI (touchL l x u) i hi <;> simp [h]
  · unfold lentL
    rw [hC, setC_at hi hx]
    by_cases h : fullI (touchL l x u) i hi <;> simp [h]
theorem sShareCell_ret (v : Value) (l : List Ce) (F : List Nat) (x : Pt) (w : World) (h : CeS w v l F) (hn : cSize l ≤ 1048576) :
    Ret Tryd.prog 48 [v, ptV x] w (LentPost 43 54 l x false w) := by
  refine enter Tryd.func48 rfl Tryd.ntmps48 rfl rfl ?_
  refine Z43 (Z44 (WO_box rfl fun w1 hs e1 z1 => ?_))
  replace hs : Blk w1 w.heap.size [.int .i64 x.cell, .int .i64 x.tag] _ := hs
  refine goS ?_
  refine WO_alloc fun w2 hp e2 z2 => ?_
  replace hp : Blk w2 w1.heap.size [.int .i64 0, .int .i64 0] _ := hp
  have hs2 := hs.ext e2
  have s1 := e1.size_le
  refine goS ?_
  refine WO_loadSB rfl hs2 rfl ?_
  refine WO_call rfl (sReadCell_ret v l F x w2 (h.ext (e1.trans e2)) hn) ?_
  rintro r w3 ⟨vo, rfl, hN⟩
  replace hN : NewCells 43 54 (touchL l x false) w2 vo w3 := hN
  refine goS ?_
  have hs3 := hs2.ext hN.2
  by_cases h0 : touchC l x false = 0
  · have h0' : accC l x = 0 := h0
    rw [h0']
    obtain ⟨hok, i, hi, st, hxc, hL, hst⟩ := touch0 h0
    have hi' : i < (touchL l x false).length := by rw [hL, List.length_set]; exact hi
    have hTi : (touchL l x false)[i] = ⟨l[i].val, l[i].al, l[i].nx, st⟩ := by simp [hL]
    have hnx := (hok.2 l[i] (List.getElem_mem hi)).2.1
    obtain ⟨hC, hP, hLL⟩ := full_of hi' hxc h0
    rw [hxc] at hs3
    refine goS ?_
    refine WO_call rfl (l6Push_ret vo v (touchL l x false) l F i false w2 w3 hN (h.ext ((e1.trans e2).trans hN.2)) hn hi' (by rw [hTi]; exact hst) (by rw [hTi]; exact hnx)) ?_
    rintro r w4 ⟨vr, rfl, hR⟩
    rw [← hC, ← hP, ← hLL] at *
    refine goS ?_
    refine WO_storeS (k := 2) (vs := [.int .i64 (lentP l x false).cell, .int .i64 (lentP l x false).tag]) rfl rfl rfl (by intro v hv; simp at hv; rcases hv with rfl | rfl <;> rfl) (hp.ext hR.2) (by decide) fun w5 hp5 o5 => ?_
    refine goS ?_
    exact at_ret3G rfl (.tmp rfl) (.cell (k := 2) inferInstance rfl hp5 rfl) (.tmp rfl) ⟨vr, rfl, hR.chg o5.chg (by simp; omega) (by omega) (((e1.trans e2).trans hR.2).only o5 (by omega))⟩
  · have h0' : ¬ accC l x = 0 := h0
    have hC : lentC l x false = touchC l x false := by unfold lentC; rw [if_neg h0]
    rw [touchL_ne h0] at hN
    refine Z49 rfl (by simpa using h0') ?_
    refine goS ?_
    refine WO_storeS (k := 2) (vs := [.int .i64 0, .int .i64 0]) rfl rfl rfl (by intro v hv; simp at hv; subst hv; rfl) (hp.ext hN.2) (by decide) fun w9 hp9 o9 => ?_
    refine goS ?_
    refine at_ret3G rfl (.tmp rfl) (.cell (k := 2) inferInstance rfl hp9 rfl) (.tmp rfl) ⟨vo, ?_, ?_⟩
    · unfold lentP; rw [hC, if_neg h0]; rfl
    · unfold lentL
      rw [hC, if_neg h0]
      exact hN.chg o9.chg (by simp; omega) (by omega) (((e1.trans e2).trans hN.2).only o9 s1)
theorem sBorrowCell_ret (v : Value) (l : List Ce) (F : List Nat) (x : Pt) (w : World) (h : CeS w v l F) (hn : cSize l ≤ 1048576) :
    Ret Tryd.prog 49 [v, ptV x] w (LentPost 43 54 l x true w) := by
  refine enter Tryd.func49 rfl Tryd.ntmps49 rfl rfl ?_
  refine Z43 (Z44 (WO_box rfl fun w1 hs e1 z1 => ?_))
  replace hs : Blk w1 w.heap.size [.int .i64 x.cell, .int .i64 x.tag] _ := hs
  refine goS ?_
  refine WO_alloc fun w2 hp e2 z2 => ?_
  replace hp : Blk w2 w1.heap.size [.int .i64 0, .int .i64 0] _ := hp
  have hs2 := hs.ext e2
  have s1 := e1.size_le
  refine goS ?_
  refine WO_loadSB rfl hs2 rfl ?_
  refine WO_call rfl (l6Write_ret v l F x w2 (h.ext (e1.trans e2)) hn) ?_
  rintro r w3 ⟨vo, rfl, hN⟩
  replace hN : NewCells 43 54 (touchL l x true) w2 vo w3 := hN
  refine goS ?_
  have hs3 := hs2.ext hN.2
  by_cases h0 : touchC l x true = 0
  · have h0' : wrC l x = 0 := h0
    rw [h0']
    obtain ⟨hok, i, hi, st, hxc, hL, hst⟩ := touch0 h0
    have hi' : i < (touchL l x true).length := by rw [hL, List.length_set]; exact hi
    have hTi : (touchL l x true)[i] = ⟨l[i].val, l[i].al, l[i].nx, st⟩ := by simp [hL]
    have hnx := (hok.2 l[i] (List.getElem_mem hi)).2.1
    obtain ⟨hC, hP, hLL⟩ := full_of hi' hxc h0
    rw [hxc] at hs3
    refine goS ?_
    refine WO_call rfl (l6Push_ret vo v (touchL l x true) l F i true w2 w3 hN (h.ext ((e1.trans e2).trans hN.2)) hn hi' (by rw [hTi]; exact hst) (by rw [hTi]; exact hnx)) ?_
    rintro r w4 ⟨vr, rfl, hR⟩
    rw [← hC, ← hP, ← hLL] at *
    refine goS ?_
    refine WO_storeS (k := 2) (vs := [.int .i64 (lentP l x true).cell, .int .i64 (lentP l x true).tag]) rfl rfl rfl (by intro v hv; simp at hv; rcases hv with rfl | rfl <;> rfl) (hp.ext hR.2) (by decide) fun w5 hp5 o5 => ?_
    refine goS ?_
    exact at_ret3G rfl (.tmp rfl) (.cell (k := 2) inferInstance rfl hp5 rfl) (.tmp rfl) ⟨vr, rfl, hR.chg o5.chg (by simp; omega) (by omega) (((e1.trans e2).trans hR.2).only o5 (by omega))⟩
  · have h0' : ¬ wrC l x = 0 := h0
    have hC : lentC l x true = touchC l x true := by unfold lentC; rw [if_neg h0]
    rw [touchL_ne h0] at hN
    refine Z49 rfl (by simpa using h0') ?_
    refine goS ?_
    refine WO_storeS (k := 2) (vs := [.int .i64 0, .int .i64 0]) rfl rfl rfl (by intro v hv; simp at hv; subst hv; rfl) (hp.ext hN.2) (by decide) fun w9 hp9 o9 => ?_
    refine goS ?_
    refine at_ret3G rfl (.tmp rfl) (.cell (k := 2) inferInstance rfl hp9 rfl) (.tmp rfl) ⟨vo, ?_, ?_⟩
    · unfold lentP; rw [hC, if_neg h0]; rfl
    · unfold lentL
      rw [hC, if_neg h0]
      exact hN.chg o9.chg (by simp; omega) (by omega) (((e1.trans e2).trans hN.2).only o9 s1)
