/-
  What is proved here: the plain laws on cells: what reading, writing, lending and freeing leave, said of lists. No function of the program stands here.
-/
import Derived.Test.YtnfapbghkmodeaaDoorCPure
import Derived.Test.YtnfapbghkmodeaaDoorCAlive
namespace Go.Proofs.YtnfapbghkmodeaaDoor
set_option linter.unusedVariables false
set_option linter.unusedSimpArgs false
set_option linter.unnecessarySimpa false
open Go.RowKit

section
variable {l : List Ce} {x : Pt} {i i' k k' : Nat} {c c' d : Ce}
theorem Leads.uniq (h : Leads l x i c k) (h' : Leads l x i' c' k') : i = i' ∧ c = c' ∧ k = k' := by
  have h1 : i = i' := by have := h.cell; have := h'.cell; omega
  subst h1
  have h2 : c = c' := by have a := h.at_; rw [h'.at_] at a; exact (Option.some.inj a).symm
  subst h2
  refine ⟨rfl, rfl, ?_⟩
  have a := h.tagAt
  rw [h'.tagAt] at a
  omega
theorem Leads.again (h : Leads l x i c k) : Leads (readL l x) x i (rdC c k) k := by
  rw [h.read]
  refine h.to (rdC_ok h.cok) h.al rfl ?_
  show ((readSt c.st k)[k]?).map _ = _
  rw [readSt_get h.tlt]
  exact h.tag
theorem rdC_twice (h : Leads l x i c k) : rdC (rdC c k) k = rdC c k := by
  unfold rdC
  simp only
  rw [readSt_twice h.tlt]
theorem Leads.same (h : Leads l x i c k) (hs : rdC c k = c) : readL l x = l := by rw [h.read, hs, set_self h]
theorem read_twice (h : Leads l x i c k) : readL (readL l x) x = readL l x := h.again.same (rdC_twice h)
theorem read_val (h : Leads l x i c k) : readV (readL l x) x = c.val := h.again.val
theorem read_ok (h : Leads l x i c k) : cellsOk (readL l x) := h.again.ok
theorem read_kept (h : Leads l x i c k) : ∀ t ∈ c.st, t ∉ (rdC c k).st → t.u = true ∧ t.id ≠ x.tag := by
  intro t ht hn
  have hn' : t ∉ c.st.take (k + 1) ++ (c.st.drop (k + 1)).filter (fun t => !t.u) := hn
  rw [List.mem_append, not_or] at hn'
  have hd : t ∈ c.st.drop (k + 1) := by
    rw [← List.take_append_drop (k + 1) c.st] at ht
    rcases List.mem_append.1 ht with h1 | h1
    · exact absurd h1 hn'.1
    · exact h1
  have hu : t.u = true := by
    cases hb : t.u
    · exact absurd (List.mem_filter.2 ⟨hd, by rw [hb]; rfl⟩) hn'.2
    · rfl
  refine ⟨hu, fun he => ?_⟩
  obtain ⟨j, hj, rfl⟩ := List.getElem_of_mem hd
  rw [List.getElem_drop] at he
  have hj' : k + 1 + j < c.st.length := by simp at hj; omega
  have a := (ids_nodup_iff c.st).1 h.cok.2.2.2.2.2 (k + 1 + j) hj'
  rw [he, h.tagAt] at a
  omega
/-! ### Lending -/
/-- The cell after a unique pointer was made. -/
def bC (c : Ce) (k : Nat) : Ce := pshC (wtC c k) true
/-- The cell after a shared pointer was made. -/
def sC (c : Ce) (k : Nat) : Ce := pshC (rdC c k) false
theorem Leads.idlt (h : Leads l x i c k) : ∀ t ∈ c.st, t.id < c.nx := fun t ht => (h.cok.2.2.2.2.1 t ht).2
theorem borrow_leads (h : lentC l x true = 0) : ∃ i c k, ∃ hL : Leads l x i c k, (c.st[k]'hL.tlt).u = true ∧ lentL l x true = l.set i (bC c k) ∧ lentP l x true = ⟨x.cell, c.nx⟩ ∧ cellOk (bC c k) ∧ Leads (lentL l x true) x i (bC c k) k ∧ Leads (lentL l x true) ⟨x.cell, c.nx⟩ i (bC c k) (k + 1) := by
  obtain ⟨i, c, k, hL, hu, h1, h2, h3, h4, h5⟩ := lent_leads h
  simp only [if_true] at h1 h3 h5
  have hl : (c.st.take (k + 1)).length = k + 1 := by have := hL.tlt; rw [List.length_take]; omega
  refine ⟨i, c, k, hL, hu rfl, h3, h4, h5, ?_, ?_⟩
  · rw [h3]
    refine hL.to h5 hL.al rfl ?_
    show ((c.st.take (k + 1) ++ [_])[k]?).map _ = _
    rw [List.getElem?_append_left (by omega), take_get hL.tlt]
    exact hL.tag
  · rw [h3]
    refine hL.to h5 hL.al rfl ?_
    show ((c.st.take (k + 1) ++ [_])[k + 1]?).map _ = _
    rw [List.getElem?_append_right (by omega), hl, Nat.sub_self]
    rfl
theorem share_leads (h : lentC l x false = 0) : ∃ i c k, ∃ hL : Leads l x i c k, lentL l x false = l.set i (sC c k) ∧ lentP l x false = ⟨x.cell, c.nx⟩ ∧ cellOk (sC c k) ∧ Leads (lentL l x false) x i (sC c k) k ∧ Leads (lentL l x false) ⟨x.cell, c.nx⟩ i (sC c k) (readSt c.st k).length := by
  obtain ⟨i, c, k, hL, hu, h1, h2, h3, h4, h5⟩ := lent_leads h
  simp only [Bool.false_eq_true, if_false] at h1 h3 h5
  refine ⟨i, c, k, hL, h3, h4, h5, ?_, ?_⟩
  · rw [h3]
    refine hL.to h5 hL.al rfl ?_
    show ((readSt c.st k ++ [_])[k]?).map _ = _
    rw [List.getElem?_append_left (readSt_lt hL.tlt), readSt_get hL.tlt]
    exact hL.tag
  · rw [h3]
    refine hL.to h5 hL.al rfl ?_
    show ((readSt c.st k ++ [_])[(readSt c.st k).length]?).map _ = _
    rw [List.getElem?_append_right (Nat.le_refl _), Nat.sub_self]
    rfl
theorem bC_take (h : k < c.st.length) : (bC c k).st.take (k + 1) = c.st.take (k + 1) := by
  have hl : (c.st.take (k + 1)).length = k + 1 := by rw [List.length_take]; omega
  show (c.st.take (k + 1) ++ [_]).take (k + 1) = _
  rw [List.take_append_of_le_length (by omega), List.take_take, Nat.min_self]
theorem sC_self (h : k < c.st.length) : rdC (sC c k) k = sC c k := by
  have : readSt (sC c k).st k = (sC c k).st := by
    refine readSt_self (by show _ < (readSt c.st k ++ [_]).length; have := readSt_lt h; simp; omega) fun t ht => ?_
    have ht' : t ∈ (readSt c.st k ++ [(⟨c.nx, false⟩ : Tg)]).drop (k + 1) := ht
    rw [List.drop_append_of_le_length (readSt_lt h), List.mem_append] at ht'
    rcases ht' with h1 | h1
    · rw [drop_readSt h] at h1
      have := (List.mem_filter.1 h1).2
      simpa using this
    · simp at h1
      rw [h1]
  unfold rdC
  rw [this]
theorem borrow_twice (h : lentC l x true = 0) (h2 : lentC (lentL l x true) x true = 0) : accC (lentL (lentL l x true) x true) (lentP l x true) = 2 ∧ accC (lentL (lentL l x true) x true) (lentP (lentL l x true) x true) = 0 ∧ (lentP l x true).tag < (lentP (lentL l x true) x true).tag := by
  obtain ⟨i, c, k, hL, hu, h3, h4, h5, h6, h7⟩ := borrow_leads h
  obtain ⟨i', c', k', hL', hu', q3, q4, q5, q6, q7⟩ := borrow_leads h2
  obtain ⟨rfl, rfl, rfl⟩ := h6.uniq hL'
  refine ⟨?_, ?_, ?_⟩
  · rw [q3, h4]
    refine hL'.lost_ q5 hL'.al rfl fun t ht => ?_
    have ht' : t ∈ (bC c k).st.take (k + 1) ++ [(⟨(bC c k).nx, true⟩ : Tg)] := ht
    rw [bC_take hL.tlt, List.mem_append] at ht'
    have hnx : (bC c k).nx = c.nx + 1 := rfl
    rcases ht' with h1 | h1
    · have := hL.idlt t (List.mem_of_mem_take h1)
      simp only; omega
    · simp at h1
      rw [h1]
      simp only; omega
  · rw [q4]; exact q7.acc
  · rw [h4, q4]
    show c.nx < (bC c k).nx
    have hnx : (bC c k).nx = c.nx + 1 := rfl
    omega
theorem share_twice (h : lentC l x false = 0) (h2 : lentC (lentL l x false) x false = 0) :
    accC (lentL (lentL l x false) x false) (lentP (lentL l x false) x false) = 0 ∧ lentP l x false ≠ lentP (lentL l x false) x false ∧ readL (lentL (lentL l x false) x false) (lentP l x false) = lentL (lentL l x false) x false ∧
      readL (lentL (lentL l x false) x false) (lentP (lentL l x false) x false) = lentL (lentL l x false) x false := by
  obtain ⟨i, c, k, hL, h3, h4, h5, h6, h7⟩ := share_leads h
  obtain ⟨i', c', k', hL', q3, q4, q5, q6, q7⟩ := share_leads h2
  obtain ⟨rfl, rfl, rfl⟩ := h6.uniq hL'
  have hnx : (sC c k).nx = c.nx + 1 := rfl
  have hst : (sC (sC c k) k).st = (sC c k).st ++ [⟨c.nx + 1, false⟩] := by
    show readSt (sC c k).st k ++ [_] = _
    have := congrArg Ce.st (sC_self (c := c) hL.tlt)
    rw [show readSt (sC c k).st k = (sC c k).st from this]
    rfl
  have hst1 : (sC c k).st = readSt c.st k ++ [⟨c.nx, false⟩] := rfl
  have hy : Leads (lentL (lentL l x false) x false) ⟨x.cell, c.nx⟩ i (sC (sC c k) k) (readSt c.st k).length := by
    rw [q3]
    refine hL'.to q5 hL'.al rfl ?_
    rw [hst, hst1, List.append_assoc, List.getElem?_append_right (Nat.le_refl _), Nat.sub_self]
    rfl
  have all_sh : ∀ (j : Nat), (readSt c.st k).length ≤ j → rdC (sC (sC c k) k) j = sC (sC c k) k ∨ True := fun _ _ => .inr trivial
  have hself : ∀ j, (readSt c.st k).length ≤ j → j < (sC (sC c k) k).st.length → rdC (sC (sC c k) k) j = sC (sC c k) k := fun j h1 h2 => by
    have : readSt (sC (sC c k) k).st j = (sC (sC c k) k).st := by
      refine readSt_self h2 fun t ht => ?_
      have hsub : t ∈ (sC (sC c k) k).st.drop (readSt c.st k).length := by
        have h5 : (sC (sC c k) k).st.drop (j + 1) = ((sC (sC c k) k).st.drop (readSt c.st k).length).drop (j + 1 - (readSt c.st k).length) := by
          rw [List.drop_drop]
          congr 1
          omega
        rw [h5] at ht
        exact List.mem_of_mem_drop ht
      rw [hst, hst1, List.append_assoc, List.drop_left] at hsub
      simp at hsub
      rcases hsub with rfl | rfl <;> rfl
    unfold rdC
    rw [this]
  refine ⟨by rw [q4]; exact q7.acc, ?_, ?_, ?_⟩
  · rw [h4, q4]
    intro he
    have := congrArg Pt.tag he
    simp only at this
    omega
  · rw [h4]
    exact hy.same (hself _ (Nat.le_refl _) hy.tlt)
  · rw [q4]
    refine q7.same ?_
    have h8 : (readSt (sC c k).st k).length = (readSt c.st k).length + 1 := by
      have := congrArg Ce.st (sC_self (c := c) hL.tlt)
      rw [show readSt (sC c k).st k = (sC c k).st from this, hst1]
      simp
    have h9 := q7.tlt
    exact hself _ (by omega) h9
theorem owner_stays (h : Leads l x i c k) (h0 : 0 < (rdC c k).st.length) : wrvC (readL l x) ⟨x.cell, ((rdC c k).st[0]'h0).id⟩ 1 = 0 ∧ wrC (readL l x) ⟨x.cell, ((rdC c k).st[0]'h0).id⟩ = 0 := by
  have hr := h.again
  have ho : Leads (readL l x) ⟨x.cell, ((rdC c k).st[0]'h0).id⟩ i (rdC c k) 0 := ⟨hr.ok, hr.at_, hr.cell, hr.al, by rw [List.getElem?_eq_getElem h0]; rfl⟩
  have hw : wrC (readL l x) ⟨x.cell, ((rdC c k).st[0]'h0).id⟩ = 0 := by
    rw [ho.wrC, if_pos]
    rw [headU_get h0]
    exact hr.cok.2.2.2.1
  exact ⟨by unfold wrvC; rw [if_pos (by decide)]; exact hw, hw⟩
theorem tags_grow (h : lentC l x true = 0) : wrvC (lentL l x true) x 3 = 0 ∧ (lentC (wrvL (lentL l x true) x 3) x false = 0 → (lentP l x true).tag < (lentP (wrvL (lentL l x true) x 3) x false).tag ∧
    (cellAt (lentL (wrvL (lentL l x true) x 3) x false) x).nx = (cellAt (lentL l x true) x).nx + 1) := by
  obtain ⟨i, c, k, hL, hu, h3, h4, h5, h6, h7⟩ := borrow_leads h
  have hw : wrvC (lentL l x true) x 3 = 0 := by
    unfold wrvC
    rw [if_pos (by decide), h6.wrC, if_pos]
    have hg : (bC c k).st[k]? = c.st[k]? := by
      show (c.st.take (k + 1) ++ [_])[k]? = _
      rw [List.getElem?_append_left (by have := hL.tlt; rw [List.length_take]; omega), take_get hL.tlt]
    rw [List.getElem?_eq_getElem hL.tlt, List.getElem?_eq_getElem h6.tlt] at hg
    rw [Option.some.inj hg]
    exact hu
  refine ⟨hw, fun hf => ?_⟩
  obtain ⟨_, i2, c2, k2, hL2, hu2, w3⟩ := wrv_leads hw
  obtain ⟨rfl, rfl, rfl⟩ := h6.uniq hL2
  obtain ⟨i3, c3, k3, hL3, q3, q4, q5, q6, q7⟩ := share_leads hf
  have h8 : (wrvL (lentL l x true) x 3)[i]? = some ⟨3, (bC c k).al, (bC c k).nx, (bC c k).st.take (k + 1)⟩ := by rw [w3, List.getElem?_set_self h6.lt]
  have h9 : i3 = i := by have := hL3.cell; have := h6.cell; omega
  subst h9
  have h10 : c3 = ⟨3, (bC c k).al, (bC c k).nx, (bC c k).st.take (k + 1)⟩ := by have := hL3.at_; rw [h8] at this; exact (Option.some.inj this).symm
  have hnx : (bC c k).nx = c.nx + 1 := rfl
  refine ⟨?_, ?_⟩
  · rw [h4, q4, h10]
    simp only
    omega
  · rw [cellAt_eq q6.lt q6.cell, q6.get, cellAt_eq h6.lt h6.cell, h6.get, h10]
    rfl
/-! ### Writing and freeing -/
theorem write_read {v : Int} (h : wrvC l x v = 0) : cellsOk (wrvL l x v) ∧ accC (wrvL l x v) x = 0 ∧ readV (wrvL l x v) x = v := by
  obtain ⟨hv, i, c, k, hL, hu, h1⟩ := wrv_leads h
  have hn : Leads (wrvL l x v) x i ⟨v, c.al, c.nx, c.st.take (k + 1)⟩ k := by
    rw [h1]
    exact hL.to (val_ok (wtC_ok (k := k) hL.cok) hv) hL.al rfl (by rw [take_get hL.tlt]; exact hL.tag)
  exact ⟨hn.ok, hn.acc, hn.val⟩
theorem write_last {v : Int} (h : wrvC l x v = 0) : ∃ st t, (cellAt (wrvL l x v) x).st = st ++ [t] ∧ t.id = x.tag ∧ t.u = true := by
  obtain ⟨hv, i, c, k, hL, hu, h1⟩ := wrv_leads h
  refine ⟨c.st.take k, c.st[k]'hL.tlt, ?_, hL.tid, hu⟩
  rw [h1, cellAt_eq (i := i) (by rw [List.length_set]; exact hL.lt) hL.cell, List.getElem_set_self]
  simp only
  rw [List.take_succ_eq_append_getElem hL.tlt]
theorem freed (h : wrC l x = 0) : accC (frL l x) x = 1 ∧ wrC (frL l x) x = 1 := by
  obtain ⟨i, c, k, hL, hu, h1⟩ := fr_leads h
  have ha : accC (frL l x) x = 1 := by
    rw [h1]
    exact acc_freed (c := ⟨c.val, false, c.nx, c.st.take (k + 1)⟩) (set_ok hL.ok (al_ok (c := ⟨c.val, c.al, c.nx, c.st.take (k + 1)⟩) (wtC_ok (k := k) hL.cok))) (by rw [List.getElem?_set_self hL.lt]) hL.cell rfl
  refine ⟨ha, ?_⟩
  unfold wrC
  rw [if_neg (by rw [ha]; decide)]
  exact ha
/-- All cells but one are as they were. -/
theorem others {m : List Ce} {j : Nat} (h : m = l ∨ ∃ i d, m = l.set i d ∧ x.cell = (i : Int)) (hj : (j : Int) ≠ x.cell) : m[j]? = l[j]? := by
  rcases h with rfl | ⟨i, d, rfl, hx⟩
  · rfl
  · rw [List.getElem?_set_ne (by omega)]
theorem fr_form : frL l x = l ∨ ∃ i d, frL l x = l.set i d ∧ x.cell = (i : Int) := by
  by_cases h : wrC l x = 0
  · obtain ⟨i, c, k, hL, hu, h1⟩ := fr_leads h
    exact .inr ⟨i, _, h1, hL.cell⟩
  · unfold frL; rw [if_neg h]; exact .inl rfl
theorem wrv_form {v : Int} : wrvL l x v = l ∨ ∃ i d, wrvL l x v = l.set i d ∧ x.cell = (i : Int) := by
  by_cases h : wrvC l x v = 0
  · obtain ⟨hv, i, c, k, hL, hu, h1⟩ := wrv_leads h
    exact .inr ⟨i, _, h1, hL.cell⟩
  · unfold wrvL; rw [if_neg h]; exact .inl rfl
theorem read_form : readL l x = l ∨ ∃ i d, readL l x = l.set i d ∧ x.cell = (i : Int) := by
  by_cases h : accC l x = 0
  · obtain ⟨i, c, k, hL⟩ := acc_leads h
    exact .inr ⟨i, _, hL.read, hL.cell⟩
  · unfold readL; rw [if_neg h]; exact .inl rfl
theorem form_len {m : List Ce} (h : m = l ∨ ∃ i d, m = l.set i d ∧ x.cell = (i : Int)) : m.length = l.length := by
  rcases h with rfl | ⟨i, d, rfl, _⟩
  · rfl
  · rw [List.length_set]
theorem wr_acc {v : Int} (h : wrvC l x v = 0) : accC l x = 0 := by
  obtain ⟨hv, i, c, k, hL, hu, h1⟩ := wrv_leads h
  exact hL.acc
/-! ### Borrowing, then using -/
theorem borrow_use (h : lentC l x true = 0) : cellsOk (lentL l x true) ∧ wrvC (lentL l x true) (lentP l x true) 7 = 0 ∧ accC (wrvL (lentL l x true) (lentP l x true) 7) x = 0 ∧ readV (wrvL (lentL l x true) (lentP l x true) 7) x = 7 ∧
    wrvC (readL (wrvL (lentL l x true) (lentP l x true) 7) x) (lentP l x true) 1 = 2 ∧ accC (readL (wrvL (lentL l x true) (lentP l x true) 7) x) (lentP l x true) = 2 := by
  obtain ⟨i, c, k, hL, hu, h3, h4, h5, h6, h7⟩ := borrow_leads h
  rw [h4]
  have hk : k < c.st.length := hL.tlt
  have hl : (c.st.take (k + 1)).length = k + 1 := by rw [List.length_take]; omega
  have hst : (bC c k).st = c.st.take (k + 1) ++ [⟨c.nx, true⟩] := rfl
  have hu7 : ((bC c k).st[k + 1]'h7.tlt).u = true := by
    have : (bC c k).st[k + 1]? = some ⟨c.nx, true⟩ := by rw [hst, List.getElem?_append_right (by omega), hl, Nat.sub_self]; rfl
    rw [List.getElem?_eq_getElem h7.tlt] at this
    rw [Option.some.inj this]
  have hw : wrvC (lentL l x true) ⟨x.cell, c.nx⟩ 7 = 0 := by
    unfold wrvC
    rw [if_pos (by decide), h7.wrC, if_pos hu7]
  obtain ⟨_, i2, c2, k2, hL2, _, w3⟩ := wrv_leads hw
  obtain ⟨rfl, rfl, rfl⟩ := h7.uniq hL2
  have htk : (bC c k).st.take (k + 1 + 1) = (bC c k).st := List.take_of_length_le (by rw [hst]; simp; omega)
  rw [htk] at w3
  have ha : Leads (wrvL (lentL l x true) ⟨x.cell, c.nx⟩ 7) x i ⟨7, (bC c k).al, (bC c k).nx, (bC c k).st⟩ k := by
    rw [w3]
    exact h6.to (val_ok h5 (by decide)) h6.al rfl h6.tag
  have hb := ha.again
  have hlost : accC (readL (wrvL (lentL l x true) ⟨x.cell, c.nx⟩ 7) x) ⟨x.cell, c.nx⟩ = 2 := by
    refine acc_lost hb.ok hb.at_ hb.cell hb.al fun t ht => ?_
    have ht' : t ∈ readSt (bC c k).st k := ht
    have hr : readSt (bC c k).st k = c.st.take (k + 1) := by
      unfold readSt
      rw [bC_take hk, hst, List.drop_left' hl]
      simp
    rw [hr] at ht'
    have := hL.idlt t (List.mem_of_mem_take ht')
    simp only
    omega
  refine ⟨h6.ok, hw, ha.acc, ha.val, ?_, hlost⟩
  unfold wrvC wrC
  rw [if_pos (by decide), if_neg (by rw [hlost]; decide)]
  exact hlost
theorem share_use (h : lentC l x false = 0) : cellsOk (lentL l x false) ∧ accC (lentL l x false) (lentP l x false) = 0 ∧ readL (lentL l x false) (lentP l x false) = lentL l x false ∧ accC (lentL l x false) x = 0 ∧ readL (lentL l x false) x = lentL l x false ∧
    wrvC (lentL l x false) (lentP l x false) 1 = 3 := by
  obtain ⟨i, c, k, hL, h3, h4, h5, h6, h7⟩ := share_leads h
  rw [h4]
  have hst1 : (sC c k).st = readSt c.st k ++ [⟨c.nx, false⟩] := rfl
  have hs : rdC (sC c k) (readSt c.st k).length = sC c k := by
    have : readSt (sC c k).st (readSt c.st k).length = (sC c k).st := readSt_self h7.tlt fun t ht => by
      rw [hst1, List.drop_eq_nil_of_le (by simp)] at ht
      cases ht
    unfold rdC
    rw [this]
  refine ⟨h6.ok, h7.acc, h7.same hs, h6.acc, h6.same (sC_self hL.tlt), ?_⟩
  unfold wrvC
  rw [if_pos (by decide), h7.wrC, if_neg]
  have : (sC c k).st[(readSt c.st k).length]? = some ⟨c.nx, false⟩ := by rw [hst1, List.getElem?_append_right (Nat.le_refl _), Nat.sub_self]; rfl
  rw [List.getElem?_eq_getElem h7.tlt] at this
  rw [Option.some.inj this]
  simp
theorem new_use {v : Int} (h : newOk l v) : cellsOk (newL l v) ∧ (newL l v).length = l.length + 1 ∧ (newL l v).take l.length = l ∧ accC (newL l v) (newP l v) = 0 ∧ readV (newL l v) (newP l v) = v ∧ wrvC (newL l v) (newP l v) (9 - v) = 0 := by
  have hl : newL l v = l ++ [freshCe v] := by unfold newL; rw [if_pos h]
  have hp : newP l v = ⟨l.length, 0⟩ := by unfold newP; rw [if_pos h]
  obtain ⟨h1, h2, h3, h4⟩ := h
  rw [hl, hp]
  have hL : Leads (l ++ [freshCe v]) ⟨l.length, 0⟩ l.length (freshCe v) 0 := ⟨app_ok h1 h4 (fresh_ok ⟨h2, h3⟩), by rw [List.getElem?_append_right (Nat.le_refl _), Nat.sub_self]; rfl, rfl, rfl, rfl⟩
  refine ⟨hL.ok, by simp, by simp, hL.acc, hL.val, ?_⟩
  unfold wrvC
  rw [if_pos (by omega), hL.wrC]
  rfl
end
/-! ### Cells that are alive -/
theorem aliveTo_len (l : List Ce) : ∀ n, n ≤ l.length → (aliveTo l n).length = ((l.take n).filter fun c => c.al).length
  | 0, _ => by simp [aliveTo]
  | n + 1, h => by
    have ih := aliveTo_len l n (by omega)
    rw [List.take_succ_eq_append_getElem (show n < l.length by omega), List.filter_append, List.length_append, ← ih]
    have hg : l[n]? = some l[n] := List.getElem?_eq_getElem (by omega)
    cases ha : l[n].al <;> simp [aliveTo, hg, ha]
theorem count_set : ∀ (l : List Ce) (i : Nat) (c d : Ce), l[i]? = some c → c.al = true → d.al = false → ((l.set i d).filter fun c => c.al).length + 1 = (l.filter fun c => c.al).length
  | [], _, _, _, h, _, _ => by simp at h
  | e :: r, 0, c, d, h, hc, hd => by
    simp at h
    subst h
    simp [hc, hd]
  | e :: r, i + 1, c, d, h, hc, hd => by
    have := count_set r i c d (by simpa using h) hc hd
    rw [List.set_cons_succ, List.filter_cons, List.filter_cons]
    split
    · simp only [List.length_cons]; omega
    · exact this
theorem alive_freed {l : List Ce} {x : Pt} (h : wrC l x = 0) : (aliveL (frL l x)).length + 1 = (aliveL l).length := by
  obtain ⟨i, c, k, hL, hu, h1⟩ := fr_leads h
  have hok := (fr_ok (x := x) hL.ok).1
  unfold aliveL
  rw [if_pos hok, if_pos hL.ok, aliveTo_len _ _ (Nat.le_refl _), aliveTo_len _ _ (Nat.le_refl _), List.take_length, List.take_length, h1]
  exact count_set l i c _ hL.at_ hL.al rfl
end Go.Proofs.YtnfapbghkmodeaaDoor
