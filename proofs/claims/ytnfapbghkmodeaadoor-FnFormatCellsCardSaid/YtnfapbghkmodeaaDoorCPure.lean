/-
  What is proved here: plain facts on memories of cells: what leads to a tag, what the accesses leave, and that valid memories stay valid. No function of the program stands here.
-/
import Derived.Test.YtnfapbghkmodeaaDoorCLent
namespace Go.Proofs.YtnfapbghkmodeaaDoor
set_option linter.unusedVariables false
set_option linter.unusedSimpArgs false
set_option linter.unnecessarySimpa false
open Go.RowKit

/-- A cell whose reading by a tag left this. -/
def rdC (c : Ce) (k : Nat) : Ce := ⟨c.val, c.al, c.nx, readSt c.st k⟩
def wtC (c : Ce) (k : Nat) : Ce := ⟨c.val, c.al, c.nx, c.st.take (k + 1)⟩
def pshC (c : Ce) (u : Bool) : Ce := ⟨c.val, c.al, c.nx + 1, c.st ++ [⟨c.nx, u⟩]⟩
/-- The pointer leads to tag number k of cell number i, which is c and alive. -/
structure Leads (l : List Ce) (x : Pt) (i : Nat) (c : Ce) (k : Nat) : Prop where
  ok : cellsOk l
  at_ : l[i]? = some c
  cell : x.cell = i
  al : c.al = true
  tag : (c.st[k]?).map (·.id) = some x.tag
section
variable {l : List Ce} {x : Pt} {i k : Nat} {c d : Ce}
theorem Leads.lt (h : Leads l x i c k) : i < l.length := (List.getElem?_eq_some_iff.1 h.at_).1
theorem Leads.get (h : Leads l x i c k) : l[i]'h.lt = c := (List.getElem?_eq_some_iff.1 h.at_).2
theorem Leads.cok (h : Leads l x i c k) : cellOk c := h.ok.2 c (List.mem_of_getElem? h.at_)
theorem Leads.tlt (h : Leads l x i c k) : k < c.st.length := by
  have := h.tag
  cases hk : c.st[k]? with
  | none => rw [hk] at this; cases this
  | some t => exact (List.getElem?_eq_some_iff.1 hk).1
theorem Leads.tid (h : Leads l x i c k) : (c.st[k]'h.tlt).id = x.tag := by
  have := h.tag
  rw [List.getElem?_eq_getElem h.tlt] at this
  simpa using this
theorem Leads.tagAt (h : Leads l x i c k) : tagAt c.st x.tag = k := by
  have := (ids_nodup_iff c.st).1 h.cok.2.2.2.2.2 k h.tlt
  rwa [h.tid] at this
theorem tagAt_m1 {st : List Tg} {id : Int} : Go.Proofs.YtnfapbghkmodeaaDoor.tagAt st id = -1 ↔ ∀ t ∈ st, t.id ≠ id := by
  constructor
  · intro h t ht he
    rcases tagAt_cases st id with ⟨_, h2⟩ | ⟨k, hk, h2, _⟩
    · have := List.findIdx?_eq_none_iff.1 h2 t ht
      simp [he] at this
    · rw [h2] at h; omega
  · exact tagAt_none
theorem acc_leads (h : accC l x = 0) : ∃ i c k, Leads l x i c k := by
  rcases acc_cases l x with ⟨ha, _⟩ | ⟨hok, i, hi, hx, _, _, _, ⟨_, ha⟩ | ⟨_, _, ha⟩ | ⟨hal, _, k, hk, ht, _, _⟩⟩
  · omega
  · omega
  · omega
  · refine ⟨i, l[i], k, hok, List.getElem?_eq_getElem hi, hx, hal, ?_⟩
    rw [List.getElem?_eq_getElem hk]
    have hm : ¬ (Go.Proofs.YtnfapbghkmodeaaDoor.tagAt l[i].st x.tag = -1) := by omega
    rw [tagAt_m1] at hm
    simp only [Classical.not_forall] at hm
    obtain ⟨t, ht1, ht2⟩ := hm
    obtain ⟨j, hj, rfl⟩ := List.getElem_of_mem ht1
    have h1 := (ids_nodup_iff l[i].st).1 (hok.2 l[i] (List.getElem_mem hi)).2.2.2.2.2 j hj
    have h2 : l[i].st[j].id = x.tag := Decidable.not_not.1 ht2
    rw [h2, ht] at h1
    have : k = j := by omega
    subst this
    simp [h2]
theorem Leads.acc (h : Leads l x i c k) : accC l x = 0 := by
  rcases acc_cases l x with ⟨_, hn⟩ | ⟨_, j, hj, hx, _, _, _, ⟨hal, _⟩ | ⟨_, ht, _⟩ | ⟨_, ha, _⟩⟩
  · exact absurd ⟨h.ok, by rw [h.cell]; omega, by rw [h.cell]; have := h.lt; omega⟩ hn
  · have : j = i := by have := h.cell; omega
    subst this
    rw [h.get, h.al] at hal
    cases hal
  · have : j = i := by have := h.cell; omega
    subst this
    rw [h.get, h.tagAt] at ht
    omega
  · exact ha
theorem Leads.st (h : Leads l x i c k) : stAt l x = c.st := by unfold stAt; rw [h.cell, Int.toNat_natCast, h.at_]
theorem Leads.kOf (h : Leads l x i c k) : kOf l x = k := by
  unfold Go.Proofs.YtnfapbghkmodeaaDoor.kOf
  rw [h.st, h.tagAt]
  rfl
theorem Leads.setC (h : Leads l x i c k) (f : Ce → Ce) : setC l x f = l.set i (f c) := by unfold Go.Proofs.YtnfapbghkmodeaaDoor.setC; rw [h.cell, Int.toNat_natCast, h.at_]
theorem Leads.read (h : Leads l x i c k) : readL l x = l.set i (rdC c k) := by unfold readL; rw [if_pos h.acc, h.setC, h.kOf]; rfl
theorem Leads.val (h : Leads l x i c k) : readV l x = c.val := by unfold readV valAt; rw [if_pos h.acc, h.cell, Int.toNat_natCast, h.at_]
theorem Leads.u (h : Leads l x i c k) : uAt l x = (c.st[k]'h.tlt).u := by unfold uAt; rw [h.st, h.kOf, List.getElem?_eq_getElem h.tlt]
theorem Leads.wrC (h : Leads l x i c k) : wrC l x = if (c.st[k]'h.tlt).u then 0 else 3 := by unfold Go.Proofs.YtnfapbghkmodeaaDoor.wrC; rw [if_pos h.acc, h.u]
theorem Leads.wrL (h : Leads l x i c k) (hu : (c.st[k]'h.tlt).u = true) : wrL l x = l.set i (wtC c k) := by
  unfold Go.Proofs.YtnfapbghkmodeaaDoor.wrL
  rw [if_pos (by rw [h.wrC, if_pos hu]), h.setC, h.kOf]
  rfl
theorem wr_leads (h : Go.Proofs.YtnfapbghkmodeaaDoor.wrC l x = 0) : ∃ i c k, ∃ hL : Leads l x i c k, (c.st[k]'hL.tlt).u = true := by
  have ha : accC l x = 0 := by
    unfold Go.Proofs.YtnfapbghkmodeaaDoor.wrC at h
    split at h
    · assumption
    · exact h
  obtain ⟨i, c, k, hL⟩ := acc_leads ha
  refine ⟨i, c, k, hL, ?_⟩
  rw [hL.wrC] at h
  by_cases hu : (c.st[k]'hL.tlt).u = true
  · exact hu
  · rw [if_neg hu] at h
    cases h
/-- A cell that is not alive; a tag that is not there. -/
theorem acc_freed (hok : cellsOk l) (hi : l[i]? = some c) (hx : x.cell = i) (hal : c.al = false) : accC l x = 1 := by
  have hlt := (List.getElem?_eq_some_iff.1 hi).1
  have hc := (List.getElem?_eq_some_iff.1 hi).2
  rcases acc_cases l x with ⟨_, hn⟩ | ⟨_, j, hj, hx', _, _, _, ⟨_, ha⟩ | ⟨h1, _⟩ | ⟨h1, _⟩⟩
  · exact absurd ⟨hok, by omega, by omega⟩ hn
  · exact ha
  · have : j = i := by omega
    subst this
    rw [hc, hal] at h1
    cases h1
  · have : j = i := by omega
    subst this
    rw [hc, hal] at h1
    cases h1
theorem acc_lost (hok : cellsOk l) (hi : l[i]? = some c) (hx : x.cell = i) (hal : c.al = true) (ht : ∀ t ∈ c.st, t.id ≠ x.tag) : accC l x = 2 := by
  have hlt := (List.getElem?_eq_some_iff.1 hi).1
  have hc := (List.getElem?_eq_some_iff.1 hi).2
  rcases acc_cases l x with ⟨_, hn⟩ | ⟨_, j, hj, hx', _, _, _, ⟨h1, _⟩ | ⟨_, _, ha⟩ | ⟨_, _, k, hk, h2, _⟩⟩
  · exact absurd ⟨hok, by omega, by omega⟩ hn
  · have : j = i := by omega
    subst this
    rw [hc, hal] at h1
    cases h1
  · exact ha
  · have : j = i := by omega
    subst this
    rw [hc, tagAt_m1.2 ht] at h2
    omega
/-! ### Valid memories stay valid -/
theorem set_ok (hok : cellsOk l) (hd : cellOk d) : cellsOk (l.set i d) := by
  refine ⟨by rw [List.length_set]; exact hok.1, fun c hc => ?_⟩
  rcases List.mem_or_eq_of_mem_set hc with h | rfl
  · exact hok.2 c h
  · exact hd
theorem sub_ok {st : List Tg} (hc : cellOk c) (hs : st.Sublist c.st) (h0 : headU st = true) : cellOk ⟨c.val, c.al, c.nx, st⟩ := by
  obtain ⟨h1, h2, h3, h4, h5, h6⟩ := hc
  refine ⟨h1, h2, ⟨?_, Nat.le_trans hs.length_le h3.2⟩, h0, fun t ht => h5 t (hs.subset ht), (hs.map _).nodup h6⟩
  cases st with
  | nil => cases h0
  | cons => simp
theorem headU_take {st : List Tg} {k : Nat} (h : headU st = true) : headU (st.take (k + 1)) = true := by cases st <;> exact h
theorem headU_app {st r : List Tg} (h : headU st = true) : headU (st ++ r) = true := by
  cases st
  · cases h
  · exact h
theorem readSt_sub (st : List Tg) (k : Nat) : (readSt st k).Sublist st := by
  have h := List.Sublist.append (List.Sublist.refl (st.take (k + 1))) (List.filter_sublist (l := st.drop (k + 1)) (p := fun t => !t.u))
  rwa [List.take_append_drop] at h
theorem rdC_ok (hc : cellOk c) : cellOk (rdC c k) := sub_ok hc (readSt_sub _ _) (headU_app (headU_take hc.2.2.2.1))
theorem wtC_ok (hc : cellOk c) : cellOk (wtC c k) := sub_ok hc (List.take_sublist _ _) (headU_take hc.2.2.2.1)
theorem al_ok {b : Bool} (hc : cellOk c) : cellOk ⟨c.val, b, c.nx, c.st⟩ := hc
theorem val_ok {v : Int} (hc : cellOk c) (hv : 0 ≤ v ∧ v ≤ 9) : cellOk ⟨v, c.al, c.nx, c.st⟩ := ⟨hv, hc.2⟩
theorem pshC_ok {u : Bool} (hc : cellOk c) (hl : c.st.length ≠ 200) (hn : c.nx ≠ 1000) : cellOk (pshC c u) := by
  obtain ⟨h1, h2, h3, h4, h5, h6⟩ := hc
  refine ⟨h1, ⟨?_, ?_⟩, ⟨?_, ?_⟩, headU_app h4, fun t ht => ?_, ?_⟩
  · simp only [pshC]; omega
  · simp only [pshC]; omega
  · simp [pshC]
  · simp only [pshC, List.length_append, List.length_cons, List.length_nil]; omega
  · simp only [pshC, List.mem_append, List.mem_singleton] at ht ⊢
    rcases ht with ht | rfl
    · have := h5 t ht; omega
    · simp only; omega
  · simp only [pshC, idsOf, List.map_append, List.map_cons, List.map_nil]
    refine List.nodup_append.2 ⟨h6, by simp, fun a ha b hb e => ?_⟩
    simp only [List.mem_singleton] at hb
    obtain ⟨t, ht, rfl⟩ := List.mem_map.1 ha
    have := h5 t ht
    omega
theorem fresh_ok {v : Int} (hv : 0 ≤ v ∧ v ≤ 9) : cellOk (freshCe v) := by
  refine ⟨hv, ?_, ?_, rfl, ?_, ?_⟩ <;> simp [freshCe, idsOf]
theorem app_ok (hok : cellsOk l) (hl : l.length ≠ 200) (hd : cellOk d) : cellsOk (l ++ [d]) := by
  refine ⟨by have := hok.1; simp; omega, fun c hc => ?_⟩
  rcases List.mem_append.1 hc with h | h
  · exact hok.2 c h
  · simp at h; subst h; exact hd
/-- The pointer after its cell has been replaced. -/
theorem Leads.to (h : Leads l x i c k) {x' : Pt} {d : Ce} {j : Nat} (hd : cellOk d) (hal : d.al = true) (hx : x'.cell = x.cell) (ht : (d.st[j]?).map (·.id) = some x'.tag) : Leads (l.set i d) x' i d j :=
  ⟨set_ok h.ok hd, by rw [List.getElem?_set_self h.lt], by rw [hx]; exact h.cell, hal, ht⟩
theorem Leads.lost_ (h : Leads l x i c k) {x' : Pt} {d : Ce} (hd : cellOk d) (hal : d.al = true) (hx : x'.cell = x.cell) (ht : ∀ t ∈ d.st, t.id ≠ x'.tag) : accC (l.set i d) x' = 2 :=
  acc_lost (set_ok h.ok hd) (by rw [List.getElem?_set_self h.lt]) (by rw [hx]; exact h.cell) hal ht
/-! ### Stacks -/
theorem take_get {st : List Tg} {k : Nat} (h : k < st.length) : (st.take (k + 1))[k]? = st[k]? := by rw [List.getElem?_take, if_pos (by omega)]
theorem readSt_get {st : List Tg} {k : Nat} (h : k < st.length) : (readSt st k)[k]? = st[k]? := by
  unfold readSt
  rw [List.getElem?_append_left (by rw [List.length_take]; omega), take_get h]
theorem take_readSt {st : List Tg} {k : Nat} (h : k < st.length) : (readSt st k).take (k + 1) = st.take (k + 1) := by
  unfold readSt
  rw [List.take_append_of_le_length (by rw [List.length_take]; omega), List.take_take, Nat.min_self]
theorem drop_readSt {st : List Tg} {k : Nat} (h : k < st.length) : (readSt st k).drop (k + 1) = (st.drop (k + 1)).filter (fun t => !t.u) := by
  unfold readSt
  rw [List.drop_append, List.drop_eq_nil_of_le (by rw [List.length_take]; omega), List.nil_append, List.length_take]
  rw [show k + 1 - min (k + 1) st.length = 0 from by omega, List.drop_zero]
theorem readSt_self {st : List Tg} {k : Nat} (h : k < st.length) (hu : ∀ t ∈ st.drop (k + 1), t.u = false) : readSt st k = st := by
  unfold readSt
  rw [List.filter_eq_self.2 (fun t ht => by rw [hu t ht]; rfl), List.take_append_drop]
theorem readSt_twice {st : List Tg} {k : Nat} (h : k < st.length) : readSt (readSt st k) k = readSt st k := by
  have hl : k < (readSt st k).length := by
    have := readSt_get h
    rw [List.getElem?_eq_getElem h] at this
    exact (List.getElem?_eq_some_iff.1 this).1
  refine readSt_self hl fun t ht => ?_
  rw [drop_readSt h] at ht
  have := (List.mem_filter.1 ht).2
  simpa using this
theorem readSt_lt {st : List Tg} {k : Nat} (h : k < st.length) : k < (readSt st k).length := by
  have := readSt_get h
  rw [List.getElem?_eq_getElem h] at this
  exact (List.getElem?_eq_some_iff.1 this).1
theorem set_self (h : Leads l x i c k) : l.set i c = l := by
  apply List.ext_getElem?
  intro j
  by_cases hj : i = j
  · subst hj
    rw [List.getElem?_set_self h.lt, h.at_]
  · rw [List.getElem?_set_ne hj]
theorem set_set_ (l : List Ce) (i : Nat) (a b : Ce) : (l.set i a).set i b = l.set i b := List.set_set ..
/-- What lending leaves. -/
theorem lent_leads {u : Bool} (h : lentC l x u = 0) : ∃ i c k, ∃ hL : Leads l x i c k, (u = true → (c.st[k]'hL.tlt).u = true) ∧ (let d := if u then wtC c k else rdC c k; d.st.length ≠ 200 ∧ c.nx ≠ 1000 ∧ lentL l x u = l.set i (pshC d u) ∧ lentP l x u = ⟨x.cell, c.nx⟩ ∧ cellOk (pshC d u)) := by
  have ht : touchC l x u = 0 := by
    unfold lentC at h
    split at h
    · assumption
    · exact h
  have hfull : lentFull (touchL l x u) x = false := by
    unfold lentC at h
    rw [if_pos ht] at h
    cases hf : lentFull (touchL l x u) x
    · rfl
    · rw [hf] at h; cases h
  cases u
  · obtain ⟨i, c, k, hL⟩ := acc_leads ht
    have hr := hL.read
    have hca : cellAt (readL l x) x = rdC c k := cellAt_eq (i := i) (by rw [hr, List.length_set]; exact hL.lt) hL.cell |>.trans (by simp only [hr]; rw [List.getElem_set_self])
    have hfull' : ¬ ((rdC c k).st.length = 200 ∨ (rdC c k).nx = 1000) := by
      have : lentFull (readL l x) x = false := hfull
      unfold lentFull at this
      rw [hca] at this
      simpa using this
    simp only [not_or] at hfull'
    refine ⟨i, c, k, hL, by simp, hfull'.1, hfull'.2, ?_, ?_, pshC_ok (rdC_ok hL.cok) hfull'.1 hfull'.2⟩
    · unfold lentL
      rw [if_pos h]
      show Go.Proofs.YtnfapbghkmodeaaDoor.setC (readL l x) x _ = _
      rw [hr, setC_at (i := i) (by rw [List.length_set]; exact hL.lt) hL.cell, List.getElem_set_self, List.set_set]
      rfl
    · unfold lentP
      rw [if_pos h]
      show (⟨x.cell, (cellAt (readL l x) x).nx⟩ : Pt) = _
      rw [hca]
      rfl
  · obtain ⟨i, c, k, hL, hu⟩ := wr_leads (show Go.Proofs.YtnfapbghkmodeaaDoor.wrC l x = 0 from ht)
    have hr := hL.wrL hu
    have hca : cellAt (Go.Proofs.YtnfapbghkmodeaaDoor.wrL l x) x = wtC c k := cellAt_eq (i := i) (by rw [hr, List.length_set]; exact hL.lt) hL.cell |>.trans (by simp only [hr]; rw [List.getElem_set_self])
    have hfull' : ¬ ((wtC c k).st.length = 200 ∨ (wtC c k).nx = 1000) := by
      have : lentFull (Go.Proofs.YtnfapbghkmodeaaDoor.wrL l x) x = false := hfull
      unfold lentFull at this
      rw [hca] at this
      simpa using this
    simp only [not_or] at hfull'
    refine ⟨i, c, k, hL, fun _ => hu, hfull'.1, hfull'.2, ?_, ?_, pshC_ok (wtC_ok hL.cok) hfull'.1 hfull'.2⟩
    · unfold lentL
      rw [if_pos h]
      show Go.Proofs.YtnfapbghkmodeaaDoor.setC (Go.Proofs.YtnfapbghkmodeaaDoor.wrL l x) x _ = _
      rw [hr, setC_at (i := i) (by rw [List.length_set]; exact hL.lt) hL.cell, List.getElem_set_self, List.set_set]
      rfl
    · unfold lentP
      rw [if_pos h]
      show (⟨x.cell, (cellAt (Go.Proofs.YtnfapbghkmodeaaDoor.wrL l x) x).nx⟩ : Pt) = _
      rw [hca]
      rfl
theorem lent_ok {u : Bool} (hok : cellsOk l) : cellsOk (lentL l x u) := by
  by_cases h : lentC l x u = 0
  · obtain ⟨i, c, k, hL, _, _, _, h1, _, h2⟩ := lent_leads h
    rw [h1]
    exact set_ok hL.ok h2
  · unfold lentL
    rw [if_neg h]
    exact hok
theorem lent_len {u : Bool} : (lentL l x u).length = l.length := by
  by_cases h : lentC l x u = 0
  · obtain ⟨i, c, k, hL, _, _, _, h1, _, h2⟩ := lent_leads h
    rw [h1, List.length_set]
  · unfold lentL
    rw [if_neg h]
theorem fr_ok (hok : cellsOk l) : cellsOk (frL l x) ∧ (frL l x).length = l.length := by
  by_cases h : Go.Proofs.YtnfapbghkmodeaaDoor.wrC l x = 0
  · obtain ⟨i, c, k, hL, hu⟩ := wr_leads h
    unfold frL
    rw [if_pos h, hL.wrL hu, setC_at (i := i) (by rw [List.length_set]; exact hL.lt) hL.cell, List.getElem_set_self, List.set_set]
    exact ⟨set_ok hok (al_ok (wtC_ok (k := k) hL.cok)), by rw [List.length_set]⟩
  · unfold frL
    rw [if_neg h]
    exact ⟨hok, rfl⟩
theorem cells_size {m : List Ce} (hok : cellsOk m) : cSize m ≤ 1048576 := cSize_small hok.1 fun c hc => by have := (hok.2 c hc).2.2.1; omega
theorem wrv_leads {v : Int} (h : wrvC l x v = 0) : (0 ≤ v ∧ v ≤ 9) ∧ ∃ i c k, ∃ hL : Leads l x i c k, (c.st[k]'hL.tlt).u = true ∧ wrvL l x v = l.set i ⟨v, c.al, c.nx, c.st.take (k + 1)⟩ := by
  have hv : 0 ≤ v ∧ v ≤ 9 := by
    unfold wrvC at h
    split at h
    · assumption
    · cases h
  have hw : Go.Proofs.YtnfapbghkmodeaaDoor.wrC l x = 0 := by
    unfold wrvC at h
    rwa [if_pos hv] at h
  obtain ⟨i, c, k, hL, hu⟩ := wr_leads hw
  refine ⟨hv, i, c, k, hL, hu, ?_⟩
  unfold wrvL
  rw [if_pos h, hL.wrL hu, setC_at (i := i) (by rw [List.length_set]; exact hL.lt) hL.cell, List.getElem_set_self, List.set_set]
  rfl
theorem fr_leads (h : Go.Proofs.YtnfapbghkmodeaaDoor.wrC l x = 0) : ∃ i c k, ∃ hL : Leads l x i c k, (c.st[k]'hL.tlt).u = true ∧ frL l x = l.set i ⟨c.val, false, c.nx, c.st.take (k + 1)⟩ := by
  obtain ⟨i, c, k, hL, hu⟩ := wr_leads h
  refine ⟨i, c, k, hL, hu, ?_⟩
  unfold frL
  rw [if_pos h, hL.wrL hu, setC_at (i := i) (by rw [List.length_set]; exact hL.lt) hL.cell, List.getElem_set_self, List.set_set]
  rfl
end
end Go.Proofs.YtnfapbghkmodeaaDoor
