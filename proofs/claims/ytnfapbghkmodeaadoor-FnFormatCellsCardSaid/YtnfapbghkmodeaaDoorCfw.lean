/-
  What is proved here: the program's and the reference's FormatCells return the same text.
-/
import Derived.Test.YtnfapbghkmodeaaDoorCfm
namespace Go.Proofs.YtnfapbghkmodeaaDoor
set_option linter.unusedVariables false
set_option linter.unusedSimpArgs false
set_option linter.unnecessarySimpa false
open Go.RowKit

theorem l6Text_ret (c : Ce) (vs : Value) (F : List Nat) (w : World) (h : TgS w vs c.st F) (hok : cellOk c) : Ret Tryd.prog 17 [ceV c vs] w fun r w' => r = sV (cellT c) ∧ Ext w w' := by
  obtain ⟨A, cc, rfl, hl⟩ := h.slice
  obtain ⟨val, al, nx, st⟩ := c
  obtain ⟨h1, h2, h3, _, hid, _⟩ := hok
  simp only at h h1 h2 h3 hid hl
  obtain ⟨vn, rfl⟩ : ∃ k : Nat, val = (k : Int) := ⟨val.toNat, by omega⟩
  have hvl := dec_len (show vn < 1000 by omega)
  have hv1 := dec_lt (show vn < 10 by omega)
  refine enter Tryd.func17 rfl Tryd.ntmps17 rfl rfl ?_
  refine Z43 (Z44 (WO_box rfl fun w1 hs e1 z1 => ?_))
  replace hs : Blk w1 w.heap.size [.int .i64 (vn : Int), .bool al, .int .i64 nx, .slice A st.length cc] _ := hs
  refine goT ?_
  refine WO_call rfl (l17Dec_ret vn w1 (by omega)) ?_
  rintro _ w2 ⟨rfl, e2⟩
  have hsx := hs.ext e2
  cases al with
  | true =>
    refine goT ?_
    have hs2 := hs.ext e2
    have hpl : (decT (vn : Int) : Tx).length ≤ 4 := by simp [decT]; omega
    refine W_loop (α := Nat) (fun i => [(1, .pointer (some ⟨w.heap.size, 0, none⟩)), (3, sV ((decT (vn : Int)) ++ stT (st.take i))), (4, .int .i64 (i : Int))])
      (fun i w' => i ≤ st.length ∧ Ext w2 w') (fun i => st.length - i) 0 ⟨rfl, congrArg (fun x => some (sV x)) (by simp [stT]), rfl, True.intro⟩ ⟨Nat.zero_le _, Ext.refl _⟩ ?_
    rintro i w3 ⟨hi, e3⟩
    have hs3 := hs2.ext e3
    have hq1 : (stT (st.take i)).length ≤ 1000 := Nat.le_trans (stT_len fun t ht => by have := hid t (List.mem_of_mem_take ht); omega) (by simp; omega)
    refine goT ?_
    by_cases hlt : i < st.length
    · rw [decide_eq_true (show (i : Int) < (st.length : Int) by omega)]
      obtain ⟨b, o, hA, _, d0, d1⟩ := tgs_at (h.ext ((e1.trans e2).trans e3)) hlt
      subst hA
      obtain ⟨k, hk⟩ : ∃ k : Nat, st[i].id = (k : Int) := ⟨st[i].id.toNat, by have := hid st[i] (List.getElem_mem hlt); omega⟩
      have hk1 : k < 1000 := by have := hid st[i] (List.getElem_mem hlt); omega
      have hdk := dec_len hk1
      rw [hk] at d0
      have htg : tagT st[i] = 32 :: (decT (k : Int) ++ if st[i].u then [117] else []) := by unfold tagT; rw [hk]
      have htk := stT_take hlt
      rw [htg] at htk
      refine goT ?_
      refine Z83 rfl rfl rfl hlt ?_
      refine goT ?_
      refine WO_call rfl (l17Dec_ret k w3 hk1) ?_
      rintro _ w4 ⟨rfl, e4⟩
      have hs4 := hs3.ext e4
      have d1 := cell_ext d1 e4
      have hdk2 : (decT (k : Int)).length ≤ 3 := by unfold decT; rw [Int.toNat_natCast]; exact hdk
      refine goT ?_
      refine Z83 rfl rfl rfl hlt ?_
      refine goT ?_
      cases hu : st[i].u with
      | false =>
        rw [hu] at htk d1
        refine goT ?_
        refine at_loop (i + 1) ⟨rfl, ?_, rfl, True.intro⟩ ⟨hlt, e3.trans e4⟩ (by omega)
        refine congrArg (fun x => some (sV x)) ?_
        rw [htk]
        simp
      | true =>
        rw [hu] at htk d1
        refine goT ?_
        refine at_loop (i + 1) ⟨rfl, ?_, rfl, True.intro⟩ ⟨hlt, e3.trans e4⟩ (by omega)
        refine congrArg (fun x => some (sV x)) ?_
        rw [htk]
        simp
    · have hii : i = st.length := by omega
      subst hii
      rw [decide_eq_false (show ¬ (st.length : Int) < (st.length : Int) by omega)]
      rw [List.take_length]
      refine goT ?_
      refine at_ret1 rfl rfl ⟨congrArg sV ?_, (e1.trans e2).trans e3⟩
      simp [cellT]
  | false =>
    have hvd : (decT (vn : Int)).length ≤ 3 := by unfold decT; rw [Int.toNat_natCast]; exact hvl
    refine goT ?_
    have hs2 := hs.ext e2
    have hpl : (decT (vn : Int) ++ [33] : Tx).length ≤ 4 := by simp [decT]; omega
    refine W_loop (α := Nat) (fun i => [(1, .pointer (some ⟨w.heap.size, 0, none⟩)), (3, sV ((decT (vn : Int) ++ [33]) ++ stT (st.take i))), (4, .int .i64 (i : Int))])
      (fun i w' => i ≤ st.length ∧ Ext w2 w') (fun i => st.length - i) 0 ⟨rfl, congrArg (fun x => some (sV x)) (by simp [stT]), rfl, True.intro⟩ ⟨Nat.zero_le _, Ext.refl _⟩ ?_
    rintro i w3 ⟨hi, e3⟩
    have hs3 := hs2.ext e3
    have hq1 : (stT (st.take i)).length ≤ 1000 := Nat.le_trans (stT_len fun t ht => by have := hid t (List.mem_of_mem_take ht); omega) (by simp; omega)
    refine goT ?_
    by_cases hlt : i < st.length
    · rw [decide_eq_true (show (i : Int) < (st.length : Int) by omega)]
      obtain ⟨b, o, hA, _, d0, d1⟩ := tgs_at (h.ext ((e1.trans e2).trans e3)) hlt
      subst hA
      obtain ⟨k, hk⟩ : ∃ k : Nat, st[i].id = (k : Int) := ⟨st[i].id.toNat, by have := hid st[i] (List.getElem_mem hlt); omega⟩
      have hk1 : k < 1000 := by have := hid st[i] (List.getElem_mem hlt); omega
      have hdk := dec_len hk1
      rw [hk] at d0
      have htg : tagT st[i] = 32 :: (decT (k : Int) ++ if st[i].u then [117] else []) := by unfold tagT; rw [hk]
      have htk := stT_take hlt
      rw [htg] at htk
      refine goT ?_
      refine Z83 rfl rfl rfl hlt ?_
      refine goT ?_
      refine WO_call rfl (l17Dec_ret k w3 hk1) ?_
      rintro _ w4 ⟨rfl, e4⟩
      have hs4 := hs3.ext e4
      have d1 := cell_ext d1 e4
      have hdk2 : (decT (k : Int)).length ≤ 3 := by unfold decT; rw [Int.toNat_natCast]; exact hdk
      refine goT ?_
      refine Z83 rfl rfl rfl hlt ?_
      refine goT ?_
      cases hu : st[i].u with
      | false =>
        rw [hu] at htk d1
        refine goT ?_
        refine at_loop (i + 1) ⟨rfl, ?_, rfl, True.intro⟩ ⟨hlt, e3.trans e4⟩ (by omega)
        refine congrArg (fun x => some (sV x)) ?_
        rw [htk]
        simp
      | true =>
        rw [hu] at htk d1
        refine goT ?_
        refine at_loop (i + 1) ⟨rfl, ?_, rfl, True.intro⟩ ⟨hlt, e3.trans e4⟩ (by omega)
        refine congrArg (fun x => some (sV x)) ?_
        rw [htk]
        simp
    · have hii : i = st.length := by omega
      subst hii
      rw [decide_eq_false (show ¬ (st.length : Int) < (st.length : Int) by omega)]
      rw [List.take_length]
      refine goT ?_
      refine at_ret1 rfl rfl ⟨congrArg sV ?_, (e1.trans e2).trans e3⟩
      simp [cellT]
theorem sFormatCells_ret (v : Value) (l : List Ce) (F : List Nat) (w : World) (h : CeS w v l F) : Ret Tryd.prog 6 [v] w fun r w' => r = sV (fmtC l) ∧ Ext w w' := by
  obtain ⟨A, c, rfl, hl⟩ := h.slice
  unfold maxI at hl
  refine enter Tryd.func6 rfl Tryd.ntmps6 rfl rfl ?_
  refine goT ?_
  refine W_loop (α := Nat) (fun i => [(0, .slice A l.length c), (3, sV (cellsT (l.take i))), (4, .int .i64 (i : Int))])
    (fun i w' => (i ≤ l.length ∧ (i = 0 ∨ cellsOk l)) ∧ Ext w w') (fun i => l.length - i) 0 (by repeat (first | exact True.intro | refine And.intro rfl ?_)) ⟨⟨Nat.zero_le _, .inl rfl⟩, Ext.refl _⟩ ?_
  rintro i w1 ⟨⟨hi, hok⟩, he⟩
  refine goT ?_
  by_cases hlt : i < l.length
  · rw [decide_eq_true (show (i : Int) < (l.length : Int) by omega)]
    refine goT ?_
    refine WO_call rfl (sCellsValid_ret _ l F w1 (h.ext he)) ?_
    rintro _ w2 ⟨rfl, e2⟩
    have he2 := he.trans e2
    by_cases hv : cellsOk l
    · rw [decide_eq_true hv]
      obtain ⟨b, o, vs, Fs, hA, _, c0, c1, c2, c3, hst, _⟩ := ces_at (h.ext he2) hlt
      subst hA
      have hq : (cellsT (l.take i)).length ≤ 203000 := Nat.le_trans (cellsT_len fun x hx => hv.2 x (List.mem_of_mem_take hx)) (by have := hv.1; simp; omega)
      have hcl := cellT_len (hv.2 l[i] (List.getElem_mem hlt))
      refine goT ?_
      refine Z83 rfl rfl rfl hlt ?_
      refine WO_loadS rfl rfl (four c0 c1 c2 c3) ?_
      refine WO_call rfl (l6Text_ret l[i] vs Fs w2 hst (hv.2 l[i] (List.getElem_mem hlt))) ?_
      rintro _ w3 ⟨rfl, e3⟩
      refine Z13 (Z87 (a := cellsT (l.take i)) (b := cellT l[i]) rfl rfl (by omega)) ?_
      refine goT ?_
      have htk := cellsT_take hlt
      refine at_loop (i + 1) ⟨rfl, congrArg (fun x => some (sV x)) (by rw [htk]; simp), rfl, True.intro⟩ ⟨⟨hlt, .inr hv⟩, he2.trans e3⟩ (by omega)
    · have h0 : i = 0 := by rcases hok with h | h; exact h; exact absurd h hv
      subst h0
      rw [decide_eq_false hv]
      refine goT ?_
      refine at_ret1 rfl rfl ⟨congrArg sV ?_, he2⟩
      unfold fmtC
      rw [if_neg hv]
      rfl
  · have hii : i = l.length := by omega
    subst hii
    rw [decide_eq_false (show ¬ (l.length : Int) < (l.length : Int) by omega), List.take_length]
    refine goT ?_
    refine at_ret1 rfl rfl ⟨congrArg sV ?_, he⟩
    unfold fmtC
    by_cases hv : cellsOk l
    · rw [if_pos hv]
    · have h0 : l.length = 0 := by rcases hok with h | h; exact h; exact absurd h hv
      have := List.eq_nil_of_length_eq_zero h0
      subst this
      exact absurd ⟨by simp, by simp⟩ hv
theorem FormatCells_ret (v : Value) (l : List Ce) (F : List Nat) (w : World) (h : CeS w v l F) (ht : TabW w) : Ret Tryd.prog 8 [v] w fun r w' => r = sV (fmtC l) ∧ Ext w w' := by
  obtain ⟨A, c, rfl, hl⟩ := h.slice
  unfold maxI at hl
  refine enter Tryd.func8 rfl Tryd.ntmps8 rfl rfl ?_
  refine goT ?_
  refine WO_call rfl (CellsValid_ret _ l F w h) ?_
  rintro _ wv ⟨rfl, ev⟩
  by_cases hv : cellsOk l
  rotate_left
  · rw [decide_eq_false hv]
    refine goT ?_
    exact at_ret1 rfl rfl ⟨by unfold fmtC; rw [if_neg hv], ev⟩
  rw [decide_eq_true hv]
  have hfm : fmtC l = cellsT l := by unfold fmtC; rw [if_pos hv]
  have sv := ev.size_le
  refine goT ?_
  refine WO_alloc fun w1 hb e1 z1 => ?_
  have hB0 : BldX w1 wv.heap.size [] := BldX.new hb
  refine goT ?_
  refine W_loop (α := Nat) (fun i => [(3, .pointer (some ⟨wv.heap.size, 0, none⟩)), (11, .slice A l.length c), (12, .int .i64 (l.length : Int)), (13, .int .i64 (i : Int))])
    (fun i w' => i ≤ l.length ∧ BldX w' wv.heap.size (cellsT (l.take i)) ∧ Ext w w') (fun i => l.length - i) 0 (by repeat (first | exact True.intro | refine And.intro rfl ?_)) ⟨Nat.zero_le _, hB0, ev.trans e1⟩ ?_
  rintro i w2 ⟨hi, hB, he⟩
  refine goT ?_
  by_cases hlt : i < l.length
  · rw [decide_eq_true (show (i : Int) < (l.length : Int) by omega)]
    have hq : (cellsT (l.take i)).length ≤ 203000 := Nat.le_trans (cellsT_len fun x hx => hv.2 x (List.mem_of_mem_take hx)) (by have := hv.1; simp; omega)
    have htk := cellsT_take hlt
    obtain ⟨b, o, vs, Fs, hA, _, c0, c1, c2, c3, hst, _⟩ := ces_at h hlt
    subst hA
    replace c0 := cell_ext c0 he
    replace c1 := cell_ext c1 he
    replace c2 := cell_ext c2 he
    replace c3 := cell_ext c3 he
    obtain ⟨A2, cc2, rfl, hl2⟩ := hst.slice
    unfold maxI at hl2
    have hck := hv.2 l[i] (List.getElem_mem hlt)
    generalize hcl0 : l[i] = cl at *
    obtain ⟨val, al, nx, st⟩ := cl
    obtain ⟨k1, k2, k3, _, hid, _⟩ := hck
    simp only at k1 k2 k3 hid hst c0 c1 c2 c3 hl2
    have hBl := hB.lt
    refine goT ?_
    refine Z83 rfl rfl rfl hlt ?_
    refine WO_loadS rfl rfl (four c0 c1 c2 c3) ?_
    refine WO_alloc fun w3 hs e3 z3 => ?_
    refine WO_storeS (k := 4) (vs := [.int .i64 val, .bool al, .int .i64 nx, .slice A2 st.length cc2]) rfl rfl rfl (by intro v hv; simp at hv; rcases hv with rfl | rfl | rfl | rfl <;> rfl) hs (by decide) fun w4 hs o4 => ?_
    replace hs : Blk w4 w2.heap.size [.int .i64 val, .bool al, .int .i64 nx, .slice A2 st.length cc2] 43 := hs
    have e4 : Ext w2 w4 := e3.only o4 (Nat.le_refl _)
    replace hB := hB.ext e4
    replace he := he.trans e4
    have hdv : (decT val).length ≤ 3 := by have := dec_len (show val.toNat < 1000 by omega); exact this
    refine goT ?_
    refine WO_call rfl (itoaN_ret val w4 (by omega) (tab_ext ht he)) ?_
    rintro _ w5 ⟨rfl, e5⟩
    replace hB := hB.ext e5
    replace he := he.trans e5
    replace hs := hs.ext e5
    refine WO_call rfl (write_ret wv.heap.size (cellsT (l.take i)) (decT val) w _ hB he (by omega) (by first | omega | (simp; omega)) (by first | omega | (simp; omega) | simp)) ?_
    rintro _ w6 ⟨⟨x', y', rfl⟩, hB', he', ko, szw6⟩
    replace hB := hB'
    replace he := he'
    replace hs := blk_kept hs ko (by omega) (by decide)
    refine goT ?_
    refine W_cut [(3, .pointer (some ⟨wv.heap.size, 0, none⟩)), (5, .pointer (some ⟨w2.heap.size, 0, none⟩)), (11, .slice (some ⟨b, o, none⟩) l.length c), (12, .int .i64 (l.length : Int)), (13, .int .i64 (i : Int))] (fun w' => BldX w' wv.heap.size (cellsT (l.take i) ++ (decT val ++ if al then [] else [33])) ∧ Ext w w' ∧ Blk w' w2.heap.size [.int .i64 val, .bool al, .int .i64 nx, .slice A2 st.length cc2] 43) ?_ (fun w7 hw => ?_)
    · cases al with
      | true =>
        refine goT ?_
        exact at_meets (by repeat (first | exact True.intro | refine And.intro rfl ?_)) ⟨by simpa using hB, he, hs⟩
      | false =>
        refine goT ?_
        refine WO_call rfl (write_ret wv.heap.size (cellsT (l.take i) ++ decT val) ([33]) w _ hB he (by omega) (by first | omega | (simp; omega)) (by first | omega | (simp; omega) | simp)) ?_
        rintro _ w7 ⟨⟨x', y', rfl⟩, hB', he', ko, szw7⟩
        replace hB := hB'
        replace he := he'
        replace hs := blk_kept hs ko (by omega) (by decide)
        refine goT ?_
        exact at_meets (by repeat (first | exact True.intro | refine And.intro rfl ?_)) ⟨by simpa using hB, he, hs⟩
    · obtain ⟨hB7, he7, hs7⟩ := hw
      have hPl : (cellsT (l.take i) ++ (decT val ++ if al then [] else [33])).length ≤ 204000 := by
        split <;> simp <;> omega
      have hcell : cellsT (l.take (i + 1)) = (cellsT (l.take i) ++ (decT val ++ if al then [] else [33])) ++ stT st ++ [10] := by
        rw [htk]
        simp [cellT]
      generalize hP : cellsT (l.take i) ++ (decT val ++ if al then [] else [33]) = P at hB7 hPl hcell
      clear hB he hs
      refine goT ?_
      refine W_loop (α := Nat) (fun j => [(3, .pointer (some ⟨wv.heap.size, 0, none⟩)), (11, .slice (some ⟨b, o, none⟩) l.length c), (12, .int .i64 (l.length : Int)), (13, .int .i64 (i : Int)), (26, .slice A2 st.length cc2), (27, .int .i64 (st.length : Int)), (28, .int .i64 (j : Int))])
        (fun j w' => j ≤ st.length ∧ BldX w' wv.heap.size (P ++ stT (st.take j)) ∧ Ext w w') (fun j => st.length - j) 0 (by repeat (first | exact True.intro | refine And.intro rfl ?_)) ⟨Nat.zero_le _, by simpa [stT] using hB7, he7⟩ ?_
      rintro j w8 ⟨hj, hB, he⟩
      have hq1 : (stT (st.take j)).length ≤ 1000 := Nat.le_trans (stT_len fun t ht => by have := hid t (List.mem_of_mem_take ht); omega) (by simp; omega)
      have hB8 := hB.lt
      refine goT ?_
      by_cases hlj : j < st.length
      · rw [decide_eq_true (show (j : Int) < (st.length : Int) by omega)]
        obtain ⟨b3, o3, hA2, _, d0, d1⟩ := tgs_at (hst.ext he) hlj
        subst hA2
        have hidj := hid st[j] (List.getElem_mem hlj)
        have htj := stT_take hlj
        have hdj : (decT st[j].id).length ≤ 3 := by have := dec_len (show st[j].id.toNat < 1000 by omega); exact this
        refine goT ?_
        refine Z83 rfl rfl rfl hlj ?_
        refine WO_loadS rfl rfl (two d0 d1) ?_
        refine WO_alloc fun w9 hs e9 z9 => ?_
        refine WO_storeS (k := 2) (vs := [.int .i64 st[j].id, .bool st[j].u]) rfl rfl rfl (by intro v hv; simp at hv; rcases hv with rfl | rfl <;> rfl) hs (by decide) fun w10 hs o10 => ?_
        replace hs : Blk w10 w8.heap.size [.int .i64 st[j].id, .bool st[j].u] 54 := hs
        have e10 : Ext w8 w10 := e9.only o10 (Nat.le_refl _)
        replace hB := hB.ext e10
        replace he := he.trans e10
        refine goT ?_
        refine WO_call rfl (itoaN_ret st[j].id w10 (by omega) (tab_ext ht he)) ?_
        rintro _ w11 ⟨rfl, e11⟩
        replace hB := hB.ext e11
        replace he := he.trans e11
        replace hs := hs.ext e11
        refine goT ?_
        refine WO_call rfl (write_ret wv.heap.size (P ++ stT (st.take j)) ([32] ++ decT st[j].id) w _ hB he (by omega) (by first | omega | (simp; omega)) (by first | omega | (simp; omega) | simp)) ?_
        rintro _ w12 ⟨⟨x', y', rfl⟩, hB', he', ko, szw12⟩
        replace hB := hB'
        replace he := he'
        replace hs := blk_kept hs ko (by omega) (by decide)
        have htg : tagT st[j] = 32 :: (decT st[j].id ++ if st[j].u then [117] else []) := rfl
        rw [htg] at htj
        cases hu : st[j].u with
        | false =>
          rw [hu] at htj hs
          refine goT ?_
          exact at_loop (j + 1) (by repeat (first | exact True.intro | refine And.intro rfl ?_)) ⟨hlj, by rw [htj]; simpa using hB, he⟩ (by omega)
        | true =>
          rw [hu] at htj hs
          refine goT ?_
          refine WO_call rfl (write_ret wv.heap.size (P ++ stT (st.take j) ++ ([32] ++ decT st[j].id)) ([117]) w _ hB he (by omega) (by first | omega | (simp; omega)) (by first | omega | (simp; omega) | simp)) ?_
          rintro _ w13 ⟨⟨x', y', rfl⟩, hB', he', ko, szw13⟩
          replace hB := hB'
          replace he := he'
          replace hs := blk_kept hs ko (by omega) (by decide)
          refine goT ?_
          exact at_loop (j + 1) (by repeat (first | exact True.intro | refine And.intro rfl ?_)) ⟨hlj, by rw [htj]; simpa using hB, he⟩ (by omega)
      · have hjj : j = st.length := by omega
        subst hjj
        rw [decide_eq_false (show ¬ (st.length : Int) < (st.length : Int) by omega)]
        rw [List.take_length] at hB hq1
        refine goT ?_
        refine WO_call rfl (write_ret wv.heap.size (P ++ stT st) [10] w _ hB he (by omega) (by simp; omega) (by simp)) ?_
        rintro _ w9 ⟨⟨x', y', rfl⟩, hB9, he9, _, _⟩
        refine goT ?_
        exact at_loop (i + 1) (by repeat (first | exact True.intro | refine And.intro rfl ?_)) ⟨hlt, by rw [hcell]; exact hB9, he9⟩ (by omega)
  · have hii : i = l.length := by omega
    subst hii
    rw [decide_eq_false (show ¬ (l.length : Int) < (l.length : Int) by omega)]
    rw [List.take_length] at hB
    refine goT ?_
    refine WO_call rfl (string_ret wv.heap.size (cellsT l) w w2 hB he sv) ?_
    rintro _ w3 ⟨rfl, e3⟩
    refine goT ?_
    exact at_ret1 rfl rfl ⟨by rw [hfm], e3⟩
end Go.Proofs.YtnfapbghkmodeaaDoor
