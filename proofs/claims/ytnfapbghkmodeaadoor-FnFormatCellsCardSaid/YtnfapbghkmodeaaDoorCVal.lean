/-
  What is proved here: when the reference's and the program's CellsValid answer true.
-/
import Derived.Test.YtnfapbghkmodeaaDoorCMark
namespace Go.Proofs.YtnfapbghkmodeaaDoor
set_option linter.unusedVariables false
set_option linter.unusedSimpArgs false
set_option linter.unnecessarySimpa false
open Go.RowKit

theorem bool_dec {b : Bool} {p : Prop} [Decidable p] (h : b = true ↔ p) : b = decide p := by
  rw [Bool.eq_iff_iff, decide_eq_true_eq]; exact h
def idsOf (l : List Tg) : List Int := l.map (·.id)
def headU : List Tg → Bool
  | [] => false
  | t :: _ => t.u
theorem headU_get : ∀ {l : List Tg} (h : 0 < l.length), l[0].u = headU l
  | [], h => by simp at h
  | _ :: _, _ => rfl
def cellOk (c : Ce) : Prop := (0 ≤ c.val ∧ c.val ≤ 9) ∧ (1 ≤ c.nx ∧ c.nx ≤ 1000) ∧ (1 ≤ c.st.length ∧ c.st.length ≤ 200) ∧ headU c.st = true ∧ (∀ t ∈ c.st, 0 ≤ t.id ∧ t.id < c.nx) ∧ (idsOf c.st).Nodup
instance (c : Ce) : Decidable (cellOk c) := by unfold cellOk; infer_instance
def cellsOk (m : List Ce) : Prop := m.length ≤ 200 ∧ ∀ c ∈ m, cellOk c
instance (m : List Ce) : Decidable (cellsOk m) := by unfold cellsOk; infer_instance
/-- The place of the first tag with an id, or -1. -/
def tagAt (l : List Tg) (id : Int) : Int := match l.findIdx? (fun t => t.id == id) with
  | some i => (i : Int)
  | none => -1
theorem tagAt_none {l : List Tg} {id : Int} (h : ∀ t ∈ l, t.id ≠ id) : tagAt l id = -1 := by
  unfold tagAt
  rw [List.findIdx?_eq_none_iff.2 (fun t ht => by simpa using h t ht)]
theorem tagAt_some {l : List Tg} {id : Int} {i : Nat} (hi : i < l.length) (h1 : l[i].id = id) (h2 : ∀ t ∈ l.take i, t.id ≠ id) : tagAt l id = i := by
  unfold tagAt
  have : l.findIdx? (fun t => t.id == id) = some i := by
    rw [List.findIdx?_eq_some_iff_getElem]
    refine ⟨hi, by simpa using h1, fun j hj => ?_⟩
    have := h2 l[j] (List.mem_take_iff_getElem.2 ⟨j, by omega, rfl⟩)
    simpa using this
  rw [this]
theorem ids_nodup_iff (l : List Tg) : (idsOf l).Nodup ↔ ∀ (i : Nat) (hi : i < l.length), tagAt l l[i].id = i := by
  unfold idsOf
  constructor
  · intro h i hi
    refine tagAt_some hi rfl fun t ht he => ?_
    obtain ⟨j, hj, rfl⟩ := List.mem_take_iff_getElem.1 ht
    have := (List.pairwise_iff_getElem.1 h) j i (by simp; omega) (by simpa using hi) (by omega)
    simp at this
    exact this he
  · intro h
    refine List.pairwise_iff_getElem.2 fun i j hi hj hij => ?_
    simp at hi hj ⊢
    intro he
    have a := h i hi
    have b := h j hj
    rw [he, b] at a
    omega

theorem l6Tag_ret (v : Value) (l : List Tg) (F : List Nat) (id : Int) (w : World) (h : TgS w v l F) : Ret Tryd.prog 33 [v, .int .i64 id] w fun r w' => r = .int .i64 (tagAt l id) ∧ w' = w := by
  obtain ⟨A, c, rfl, hl⟩ := h.slice
  unfold maxI at hl
  refine enter Tryd.func33 rfl Tryd.ntmps33 rfl rfl ?_
  refine goS ?_
  refine W_loop (α := Nat) (fun i => [(0, .slice A l.length c), (1, .int .i64 id), (5, .int .i64 (i : Int))]) (fun i w' => i ≤ l.length ∧ (∀ t ∈ l.take i, t.id ≠ id) ∧ w' = w) (fun i => l.length - i) 0 (by repeat (first | exact True.intro | refine And.intro rfl ?_)) ⟨Nat.zero_le _, by simp, rfl⟩ ?_
  rintro i w1 ⟨hi, ht, rfl⟩
  refine goS ?_
  refine Z52 rfl (fun hc => ?_) (fun hc => ?_)
  · have hlt : i < l.length := by simpa using hc
    obtain ⟨b, o, rfl, _, c0, c1⟩ := tgs_at h hlt
    refine goS ?_
    refine Z83 rfl rfl rfl hlt ?_
    refine goS ?_
    refine Z52 rfl (fun hc => ?_) (fun hc => ?_)
    · refine goS ?_
      refine at_ret1 rfl rfl ⟨?_, rfl⟩
      rw [tagAt_some hlt (by simpa using hc) ht]
    · refine goS ?_
      refine at_loop (i + 1) (by repeat (first | exact True.intro | refine And.intro rfl ?_)) ⟨hlt, ?_, rfl⟩ (by omega)
      rw [List.take_succ_eq_append_getElem hlt]
      intro t htt
      rcases List.mem_append.1 htt with htt | htt
      · exact ht t htt
      · simp at htt; subst htt; simpa using hc
  · have hge : i = l.length := by simp at hc; omega
    subst hge
    rw [List.take_length] at ht
    refine goS ?_
    refine at_ret1 rfl rfl ⟨?_, rfl⟩
    rw [tagAt_none ht]
theorem l6Cell_ret (cl : Ce) (vs : Value) (F : List Nat) (w : World) (h : TgS w vs cl.st F) : Ret Tryd.prog 25 [ceV cl vs] w fun r w' => (∃ b, r = .bool b ∧ (b = true ↔ cellOk cl)) ∧ Ext w w' := by
  obtain ⟨A, c, rfl, hl⟩ := h.slice
  unfold maxI at hl
  refine enter Tryd.func25 rfl Tryd.ntmps25 rfl rfl ?_
  refine Z43 (Z44 (WO_box rfl fun w1 hs he1 hz1 => ?_))
  replace hs : Blk w1 w.heap.size [.int .i64 cl.val, .bool cl.al, .int .i64 cl.nx, .slice A cl.st.length c] _ := hs
  replace h := h.ext he1
  have no : ∀ {x : Bool}, x = false → ¬ cellOk cl → (∃ b, Value.bool x = .bool b ∧ (b = true ↔ cellOk cl)) ∧ Ext w w1 := fun hx hn => ⟨⟨_, rfl, by subst hx; simp [hn]⟩, he1⟩
  (refine goS ?_; repeat' (first | ((refine Z51 rfl rfl (fun c' hc' => ?_)); cases c' <;> (try simp only [decide_eq_true_eq, decide_eq_false_iff_not, beq_iff_eq, beq_eq_false_iff_ne, bne_iff_ne, bne_eq_false_iff_eq, ne_eq, gt_iff_lt, ge_iff_le, Int.not_lt, Int.not_le, Bool.not_eq_true', Bool.not_eq_false', Bool.not_true, Bool.not_false, reduceCtorEq, Decidable.not_not, not_true_eq_false, Bool.true_eq_false, Bool.false_eq_true] at hc') <;> (try (exfalso; omega)) <;> refine goS ?_) | ((refine Z52 rfl (fun hc' => ?_) (fun hc' => ?_)) <;> (try simp only [decide_eq_true_eq, decide_eq_false_iff_not, beq_iff_eq, beq_eq_false_iff_ne, bne_iff_ne, bne_eq_false_iff_eq, ne_eq, gt_iff_lt, ge_iff_le, Int.not_lt, Int.not_le, Bool.not_eq_true', Bool.not_eq_false', Bool.not_true, Bool.not_false, reduceCtorEq, Decidable.not_not, not_true_eq_false, Bool.true_eq_false, Bool.false_eq_true] at hc') <;> (try (exfalso; omega)) <;> refine goS ?_)))
  all_goals first
    | (refine at_ret1 rfl rfl (no rfl ?_); rintro ⟨h1, h2, h3, h4, h5, h6⟩; omega)
    | skip
  have hlen : 0 < cl.st.length := by omega
  obtain ⟨b, o, rfl, _, c0, c1⟩ := tgs_at h hlen
  have hhd := headU_get hlen
  rw [hhd] at c1
  refine Z83 (j := 0) rfl rfl rfl hlen ?_
  cases hu : headU cl.st
  · rw [hu] at c1
    refine goS ?_
    refine at_ret1 rfl rfl (no rfl ?_)
    rintro ⟨h1, h2, h3, h4, h5, h6⟩
    rw [hu] at h4
    cases h4
  · rw [hu] at c1
    refine goS ?_
    refine W_loop (α := Nat) (fun i => [(1, .pointer (some ⟨w.heap.size, 0, none⟩)), (3, .int .i64 (i : Int))])
      (fun i w' => i ≤ cl.st.length ∧ (∀ (j : Nat) (hj : j < cl.st.length), j < i → 0 ≤ cl.st[j].id ∧ cl.st[j].id < cl.nx ∧ tagAt cl.st cl.st[j].id = j) ∧ Ext w1 w') (fun i => cl.st.length - i) 0 (by repeat (first | exact True.intro | refine And.intro rfl ?_)) ⟨Nat.zero_le _, fun j hj h0 => by omega, Ext.refl _⟩ ?_
    rintro i w2 ⟨hi, hgood, he⟩
    replace hs := hs.ext he
    replace h := h.ext he
    refine goS ?_
    refine Z52 rfl (fun hc => ?_) (fun hc => ?_)
    · have hlt : i < cl.st.length := by simpa using hc
      obtain ⟨b', o', hbo, _, d0, d1⟩ := tgs_at h hlt
      cases hbo
      have bad : ∀ {x : Bool} {w3 : World}, x = false → Ext w2 w3 → ¬ (0 ≤ cl.st[i].id ∧ cl.st[i].id < cl.nx ∧ tagAt cl.st cl.st[i].id = i) → (∃ b, Value.bool x = .bool b ∧ (b = true ↔ cellOk cl)) ∧ Ext w w3 := fun hx hw hn =>
        ⟨⟨_, rfl, by
          subst hx
          simp only [Bool.false_eq_true, false_iff]
          rintro ⟨_, _, _, _, h5, h6⟩
          have := h5 cl.st[i] (List.getElem_mem hlt)
          exact hn ⟨this.1, this.2, (ids_nodup_iff cl.st).1 h6 i hlt⟩⟩, he1.trans (he.trans hw)⟩
      clear c0 c1 hhd
      refine goS ?_
      refine Z54 (by kernel_rfl) (by kernel_rfl) ?_
      repeat' (first | refine Z55 (Z56 rfl) ?_ | (refine Z57 ?_; first | refine Z58 rfl rfl (by decide) ?_ | refine Z59 rfl rfl (by decide) ?_ | refine Z60 rfl rfl ?_ | ((refine Z61 rfl rfl (fun c' hc' => ?_)); cases c' <;> (try simp only [decide_eq_true_eq, decide_eq_false_iff_not, beq_iff_eq, beq_eq_false_iff_ne, bne_iff_ne, bne_eq_false_iff_eq, ne_eq, gt_iff_lt, ge_iff_le, Int.not_lt, Int.not_le, Bool.not_eq_true', Bool.not_eq_false', Bool.not_true, Bool.not_false, reduceCtorEq, Decidable.not_not, not_true_eq_false, Bool.true_eq_false, Bool.false_eq_true] at hc') <;> (try (exfalso; omega)))) | (refine Z62 ?_; first | refine Z55 (Z63 rfl rfl) ?_ | refine Z55 (Z64 rfl rfl) ?_) | (refine Z65 ?_; first | refine Z55 (Z66 rfl (by assumption) (by rfl)) ?_ | refine Z55 (Z67 rfl (by assumption)) ?_) | (refine Z68 ?_; refine Z55 (Z69 rfl rfl rfl (by omega)) ?_) | (refine Z70 ?_; first | refine Z55 (Z14 rfl (by decide) rfl) ?_ | refine Z55 (Z15 rfl (by decide) rfl) ?_) | (refine Z71 ?_; first | refine Z55 (Z72 rfl) ?_ | refine Z55 (Z73 rfl) ?_) | (refine Z74 ?_; first | refine Z55 (Z75 rfl rfl (by omega)) ?_ | refine Z55 (Z76 rfl rfl (by omega)) ?_ | refine Z55 (Z77 rfl rfl (by omega)) ?_ | refine Z55 (Z78 rfl rfl (by omega) (by omega)) ?_ | refine Z55 (Z79 rfl rfl (by omega) (by omega) (by omega)) ?_ | refine Z55 (Z25 rfl rfl) ?_ | refine Z55 (Z26 rfl rfl) ?_) | (refine Z80 ?_; refine Z55 (Z28 rfl (Z53 ⟨by omega, by omega⟩)) ?_) | refine Z81 fun w' hw' => ?_)
      · refine WQ_call rfl (fun w' e' => (l6Tag_ret _ cl.st F cl.st[i].id w' (h.ext e')).mono (by rintro u w'' ⟨rfl, rfl⟩; exact ⟨rfl, Ext.refl _⟩)) ?_
        repeat' (first | refine Z55 (Z56 rfl) ?_ | (refine Z57 ?_; first | refine Z58 rfl rfl (by decide) ?_ | refine Z59 rfl rfl (by decide) ?_ | refine Z60 rfl rfl ?_ | ((refine Z61 rfl rfl (fun c' hc' => ?_)); cases c' <;> (try simp only [decide_eq_true_eq, decide_eq_false_iff_not, beq_iff_eq, beq_eq_false_iff_ne, bne_iff_ne, bne_eq_false_iff_eq, ne_eq, gt_iff_lt, ge_iff_le, Int.not_lt, Int.not_le, Bool.not_eq_true', Bool.not_eq_false', Bool.not_true, Bool.not_false, reduceCtorEq, Decidable.not_not, not_true_eq_false, Bool.true_eq_false, Bool.false_eq_true] at hc') <;> (try (exfalso; omega)))) | (refine Z62 ?_; first | refine Z55 (Z63 rfl rfl) ?_ | refine Z55 (Z64 rfl rfl) ?_) | (refine Z65 ?_; first | refine Z55 (Z66 rfl (by assumption) (by rfl)) ?_ | refine Z55 (Z67 rfl (by assumption)) ?_) | (refine Z68 ?_; refine Z55 (Z69 rfl rfl rfl (by omega)) ?_) | (refine Z70 ?_; first | refine Z55 (Z14 rfl (by decide) rfl) ?_ | refine Z55 (Z15 rfl (by decide) rfl) ?_) | (refine Z71 ?_; first | refine Z55 (Z72 rfl) ?_ | refine Z55 (Z73 rfl) ?_) | (refine Z74 ?_; first | refine Z55 (Z75 rfl rfl (by omega)) ?_ | refine Z55 (Z76 rfl rfl (by omega)) ?_ | refine Z55 (Z77 rfl rfl (by omega)) ?_ | refine Z55 (Z78 rfl rfl (by omega) (by omega)) ?_ | refine Z55 (Z79 rfl rfl (by omega) (by omega) (by omega)) ?_ | refine Z55 (Z25 rfl rfl) ?_ | refine Z55 (Z26 rfl rfl) ?_) | (refine Z80 ?_; refine Z55 (Z28 rfl (Z53 ⟨by omega, by omega⟩)) ?_) | refine Z81 fun w' hw' => ?_)
        refine goS ?_
        refine Z52 rfl (fun hc => ?_) (fun hc => ?_)
        · refine goS ?_
          refine at_ret1 rfl rfl (bad rfl hw' ?_)
          rintro ⟨_, _, h3⟩
          simp [h3] at hc
        · refine goS ?_
          refine at_loop (i + 1) (by repeat (first | exact True.intro | refine And.intro rfl ?_)) ⟨hlt, fun j hj hji => ?_, he.trans hw'⟩ (by omega)
          by_cases hji' : j = i
          · subst hji'
            refine ⟨by omega, by omega, by simpa using hc⟩
          · exact hgood j hj (by omega)
      all_goals
        refine goS ?_
        exact at_ret1 rfl rfl (bad rfl hw' (by omega))
    · have hge : i = cl.st.length := by simp at hc; omega
      subst hge
      refine goS ?_
      refine at_ret1 rfl rfl ⟨⟨true, rfl, ?_⟩, he1.trans he⟩
      simp only [true_iff]
      refine ⟨by omega, by omega, by omega, hu, fun t ht => ?_, (ids_nodup_iff cl.st).2 fun j hj => (hgood j hj hj).2.2⟩
      obtain ⟨j, hj, rfl⟩ := List.mem_iff_getElem.1 ht
      exact ⟨(hgood j hj hj).1, (hgood j hj hj).2.1⟩
theorem sCellsValid_ret (v : Value) (l : List Ce) (F : List Nat) (w : World) (h : CeS w v l F) : Ret Tryd.prog 13 [v] w fun r w' => r = .bool (decide (cellsOk l)) ∧ Ext w w' := by
  obtain ⟨A, c, rfl, hl⟩ := h.slice
  unfold maxI at hl
  refine enter Tryd.func13 rfl Tryd.ntmps13 rfl rfl ?_
  refine goS ?_
  refine W_loop (α := Nat) (fun i => [(0, .slice A l.length c), (3, .int .i64 (i : Int))]) (fun i w' => i ≤ l.length ∧ i ≤ 201 ∧ (∀ (j : Nat) (hj : j < l.length), j < i → cellOk l[j]) ∧ Ext w w') (fun i => l.length - i) 0 (by repeat (first | exact True.intro | refine And.intro rfl ?_))
    ⟨Nat.zero_le _, by omega, fun j hj h0 => by omega, Ext.refl _⟩ ?_
  rintro i w1 ⟨hi, hi2, hgood, he⟩
  (refine goS ?_; repeat' (first | ((refine Z51 rfl rfl (fun c' hc' => ?_)); cases c' <;> (try simp only [decide_eq_true_eq, decide_eq_false_iff_not, beq_iff_eq, beq_eq_false_iff_ne, bne_iff_ne, bne_eq_false_iff_eq, ne_eq, gt_iff_lt, ge_iff_le, Int.not_lt, Int.not_le, Bool.not_eq_true', Bool.not_eq_false', Bool.not_true, Bool.not_false, reduceCtorEq, Decidable.not_not, not_true_eq_false, Bool.true_eq_false, Bool.false_eq_true] at hc') <;> (try (exfalso; omega)) <;> refine goS ?_) | ((refine Z52 rfl (fun hc' => ?_) (fun hc' => ?_)) <;> (try simp only [decide_eq_true_eq, decide_eq_false_iff_not, beq_iff_eq, beq_eq_false_iff_ne, bne_iff_ne, bne_eq_false_iff_eq, ne_eq, gt_iff_lt, ge_iff_le, Int.not_lt, Int.not_le, Bool.not_eq_true', Bool.not_eq_false', Bool.not_true, Bool.not_false, reduceCtorEq, Decidable.not_not, not_true_eq_false, Bool.true_eq_false, Bool.false_eq_true] at hc') <;> (try (exfalso; omega)) <;> refine goS ?_)))
  · have hall : ∀ x ∈ l, cellOk x := fun x hx => by
      obtain ⟨j, hj, rfl⟩ := List.mem_iff_getElem.1 hx
      exact hgood j hj (by omega)
    refine at_ret1 rfl rfl ⟨congrArg Value.bool (bool_dec ?_), he⟩
    simp only [decide_eq_true_eq]
    exact ⟨fun hk => ⟨by omega, hall⟩, fun hk => by have := hk.1; omega⟩
  · have hlt : i < l.length := by omega
    obtain ⟨b, o, vs, Fs, rfl, _, c0, c1, c2, c3, hst, _⟩ := ces_at (h.ext he) hlt
    refine Z83 rfl rfl rfl hlt ?_
    refine WO_loadS rfl rfl (four c0 c1 c2 c3) ?_
    refine WO_call rfl (l6Cell_ret l[i] vs Fs w1 hst) ?_
    rintro r w2 ⟨⟨ok, rfl, hok⟩, he2⟩
    cases ok
    · refine goS ?_
      refine at_ret1 rfl rfl ⟨congrArg Value.bool (bool_dec ?_), he.trans he2⟩
      simp only [Bool.false_eq_true, false_iff] at hok ⊢
      exact fun hk => hok (hk.2 l[i] (List.getElem_mem hlt))
    · refine goS ?_
      refine at_loop (i + 1) (by repeat (first | exact True.intro | refine And.intro rfl ?_)) ⟨hlt, by omega, fun j hj hji => ?_, he.trans he2⟩ (by omega)
      by_cases hji' : j = i
      · subst hji'
        exact hok.1 rfl
      · exact hgood j hj (by omega)
  · refine at_ret1 rfl rfl ⟨congrArg Value.bool (bool_dec ?_), he⟩
    simp only [decide_eq_true_eq]
    exact ⟨fun hk => by omega, fun hk => by have := hk.1; omega⟩
theorem CellsValid_ret (v : Value) (l : List Ce) (F : List Nat) (w : World) (h : CeS w v l F) : Ret Tryd.prog 11 [v] w fun r w' => r = .bool (decide (cellsOk l)) ∧ Ext w w' := by
  obtain ⟨A, c, rfl, hl⟩ := h.slice
  unfold maxI at hl
  refine enter Tryd.func11 rfl Tryd.ntmps11 rfl rfl ?_
  (refine goS ?_; repeat' (first | ((refine Z51 rfl rfl (fun c' hc' => ?_)); cases c' <;> (try simp only [decide_eq_true_eq, decide_eq_false_iff_not, beq_iff_eq, beq_eq_false_iff_ne, bne_iff_ne, bne_eq_false_iff_eq, ne_eq, gt_iff_lt, ge_iff_le, Int.not_lt, Int.not_le, Bool.not_eq_true', Bool.not_eq_false', Bool.not_true, Bool.not_false, reduceCtorEq, Decidable.not_not, not_true_eq_false, Bool.true_eq_false, Bool.false_eq_true] at hc') <;> (try (exfalso; omega)) <;> refine goS ?_) | ((refine Z52 rfl (fun hc' => ?_) (fun hc' => ?_)) <;> (try simp only [decide_eq_true_eq, decide_eq_false_iff_not, beq_iff_eq, beq_eq_false_iff_ne, bne_iff_ne, bne_eq_false_iff_eq, ne_eq, gt_iff_lt, ge_iff_le, Int.not_lt, Int.not_le, Bool.not_eq_true', Bool.not_eq_false', Bool.not_true, Bool.not_false, reduceCtorEq, Decidable.not_not, not_true_eq_false, Bool.true_eq_false, Bool.false_eq_true] at hc') <;> (try (exfalso; omega)) <;> refine goS ?_)))
  · refine at_ret1 rfl rfl ⟨congrArg Value.bool (bool_dec ?_), Ext.refl _⟩
    simp only [Bool.false_eq_true, false_iff]
    exact fun hk => by have := hk.1; omega
  refine W_loop (α := Nat) (fun i => [(11, .slice A l.length c), (12, .int .i64 (l.length : Int)), (13, .int .i64 (i : Int))]) (fun i w' => i ≤ l.length ∧ (∀ (j : Nat) (hj : j < l.length), j < i → cellOk l[j]) ∧ Ext w w') (fun i => l.length - i) 0 (by repeat (first | exact True.intro | refine And.intro rfl ?_))
    ⟨Nat.zero_le _, fun j hj h0 => by omega, Ext.refl _⟩ ?_
  rintro i w1 ⟨hi, hgood, he⟩
  refine goS ?_
  refine Z52 rfl (fun hc => ?_) (fun hc => ?_)
  · have hlt : i < l.length := by simpa using hc
    obtain ⟨b, o, vs, Fs, rfl, _, c0, c1, c2, c3, hst, _⟩ := ces_at (h.ext he) hlt
    have hone : vs.oneCell' = true := by obtain ⟨_, _, rfl, _⟩ := hst.slice; rfl
    have no : ∀ {x : Bool} {w3 : World}, x = false → Ext w1 w3 → ¬ cellOk l[i] → Value.bool x = .bool (decide (cellsOk l)) ∧ Ext w w3 := fun hx hw hn =>
      ⟨congrArg Value.bool (by subst hx; rw [decide_eq_false]; exact fun hk => hn (hk.2 _ (List.getElem_mem hlt))), he.trans hw⟩
    refine goS ?_
    refine Z83 rfl rfl rfl hlt ?_
    refine WO_loadS rfl rfl (four c0 c1 c2 c3) ?_
    refine WO_alloc fun w2 hs he2 hz2 => ?_
    refine WO_storeS (k := 4) (vs := [.int .i64 l[i].val, .bool l[i].al, .int .i64 l[i].nx, vs]) rfl rfl rfl (by intro v hv; simp at hv; rcases hv with rfl | rfl | rfl | rfl <;> first | rfl | exact hone) hs (by decide) fun w3 hs3 o3 => ?_
    replace hs3 : Blk w3 w1.heap.size [.int .i64 l[i].val, .bool l[i].al, .int .i64 l[i].nx, vs] _ := hs3
    have he3 : Ext w1 w3 := he2.only o3 (Nat.le_refl _)
    have hst1 := hst
    replace hst := hst.ext he3
    generalize hcl0 : l[i] = cl at *
    obtain ⟨B, cB, rfl, hlB⟩ := hst.slice
    unfold maxI at hlB
    clear c0 c1 c2 c3 hs
    repeat' (first
      | first | (refine Z0 ?_; first | refine Z1 rfl ?_ | (refine Z2 ?_; first | refine Z3 rfl rfl (by decide) ?_ | refine Z4 rfl rfl (by decide) ?_ | refine Z5 rfl rfl ?_ | ((refine Z51 rfl rfl (fun c' hc' => ?_)); cases c' <;> (try simp only [decide_eq_true_eq, decide_eq_false_iff_not, beq_iff_eq, beq_eq_false_iff_ne, bne_iff_ne, bne_eq_false_iff_eq, ne_eq, gt_iff_lt, ge_iff_le, Int.not_lt, Int.not_le, Bool.not_eq_true', Bool.not_eq_false', Bool.not_true, Bool.not_false, reduceCtorEq, Decidable.not_not, not_true_eq_false, Bool.true_eq_false, Bool.false_eq_true] at hc') <;> (try (exfalso; omega)))) | (refine Z6 ?_; first | refine Z7 rfl rfl ?_ | refine Z8 rfl rfl ?_) | (refine Z9 ?_; first | refine Z10 rfl (by assumption) (by rfl) ?_ | refine Z11 rfl (by assumption) ?_) | (refine Z12 ?_; first | refine Z13 (Z14 rfl (by decide) rfl) ?_ | refine Z13 (Z15 rfl (by decide) rfl) ?_) | (refine Z16 ?_; first | refine Z17 rfl ?_ | refine Z18 rfl ?_) | (refine Z19 ?_; first | refine Z20 rfl rfl (by omega) ?_ | refine Z21 rfl rfl (by omega) ?_ | refine Z22 rfl rfl (by omega) ?_ | refine Z23 rfl rfl (by omega) (by omega) ?_ | refine Z24 rfl rfl (by omega) (by omega) (by omega) ?_ | refine Z13 (Z25 rfl rfl) ?_ | refine Z13 (Z26 rfl rfl) ?_) | (refine Z27 ?_; refine Z13 (Z28 rfl (Z53 ⟨by omega, by omega⟩)) ?_) | (refine Z29 ?_; refine Z13 (Z30 rfl (by rfl) (by simp only [Z84, List.set_cons_zero, List.set_cons_succ]; rfl)) ?_) | refine Z31 ?_) | (refine Z32 ?_; first | refine Z33 ?_ | refine Z34 ?_ | refine Z35 ?_ | refine Z36 ?_ | refine Z37 ?_ | refine Z38 rfl ?_ | refine Z39 ?_ | refine Z40 ?_ | refine Z41 ?_) | (refine Z42 ?_; first | refine Z43 ?_ | refine Z44 ?_ | refine Z45 ?_ | refine Z46 ?_ | refine Z47 ?_ | refine Z48 ?_ | refine Z49 rfl (by decide) ?_ | refine Z50 rfl (by decide) ?_ | ((refine Z52 rfl (fun hc' => ?_) (fun hc' => ?_)) <;> (try simp only [decide_eq_true_eq, decide_eq_false_iff_not, beq_iff_eq, beq_eq_false_iff_ne, bne_iff_ne, bne_eq_false_iff_eq, ne_eq, gt_iff_lt, ge_iff_le, Int.not_lt, Int.not_le, Bool.not_eq_true', Bool.not_eq_false', Bool.not_true, Bool.not_false, reduceCtorEq, Decidable.not_not, not_true_eq_false, Bool.true_eq_false, Bool.false_eq_true] at hc') <;> (try (exfalso; omega))))
      | (refine WO_call rfl (within_ret _ _ _ _) ?_; rintro _ _ ⟨rfl, rfl⟩))
    all_goals try
      refine at_ret1 rfl rfl (no rfl he3 ?_)
      rintro ⟨q1, q2, q3, q4, q5, q6⟩
      omega
    have hlen : 0 < cl.st.length := by omega
    obtain ⟨bt, ot, rfl, _, d0, d1⟩ := tgs_at hst hlen
    rw [headU_get hlen] at d1
    refine Z83 (j := 0) rfl rfl rfl hlen ?_
    cases hu : headU cl.st
    · rw [hu] at d1
      refine goS ?_
      refine at_ret1 rfl rfl (no rfl he3 ?_)
      rintro ⟨q1, q2, q3, q4, q5, q6⟩
      rw [hu] at q4
      cases q4
    rw [hu] at d1
    refine goS ?_
    have hne := hs3.lt
    refine WO_makeMap fun w4 hm he4 hz4 => ?_
    replace hs3 := hs3.ext he4
    have he14 := he3.trans he4
    obtain ⟨mb, hmb, hm⟩ : ∃ mb, mb = _ ∧ MapI w4 mb [] := ⟨_, rfl, hm⟩
    rw [← hmb] at hne hz4 ⊢
    clear d0 d1 hst hmb he4 he3 o3 he2 hz2
    refine goS ?_
    refine W_loop (α := Nat) (fun j => [(4, .pointer (some ⟨w1.heap.size, 0, none⟩)), (5, .map (some mb)), (44, .slice (some ⟨bt, ot, none⟩) cl.st.length cB), (45, .int .i64 (cl.st.length : Int)), (46, .int .i64 (j : Int)),
        (11, .slice (some ⟨b, o, none⟩) l.length c), (12, .int .i64 (l.length : Int)), (13, .int .i64 (i : Int))])
      (fun j w' => j ≤ cl.st.length ∧ Ext w1 w' ∧ Blk w' w1.heap.size [.int .i64 cl.val, .bool cl.al, .int .i64 cl.nx, .slice (some ⟨bt, ot, none⟩) cl.st.length cB] 43 ∧
        (∃ ml, MapI w' mb ml ∧ ∀ k, (lookI ml k).getD (.bool false) = .bool (decide (k ∈ idsOf (cl.st.take j)))) ∧ (idsOf (cl.st.take j)).Nodup ∧ ∀ t ∈ cl.st.take j, 0 ≤ t.id ∧ t.id < cl.nx) (fun j => cl.st.length - j) 0 (by repeat (first | exact True.intro | refine And.intro rfl ?_))
      ⟨Nat.zero_le _, he14, hs3, ⟨[], hm, fun k => rfl⟩, List.nodup_nil, by simp⟩ ?_
    clear hs3 hm
    rintro j w5 ⟨hj, he5, hs5, ⟨ml, hm5, hml⟩, hnd, hin⟩
    refine goS ?_
    refine Z52 rfl (fun hc2 => ?_) (fun hc2 => ?_)
    · have hltj : j < cl.st.length := by simpa using hc2
      obtain ⟨b2, o2, hbo, _, d0, d1⟩ := tgs_at (hst1.ext he5) hltj
      cases hbo
      have htk : cl.st.take (j + 1) = cl.st.take j ++ [cl.st[j]] := List.take_succ_eq_append_getElem hltj
      refine goS ?_
      refine Z83 rfl rfl rfl hltj ?_
      refine WO_loadS rfl rfl (two d0 d1) ?_
      refine WO_alloc fun w6 hs he6 hz6 => ?_
      refine WO_storeS (k := 2) (vs := [.int .i64 cl.st[j].id, .bool cl.st[j].u]) rfl rfl rfl (by intro v hv; simp at hv; rcases hv with rfl | rfl <;> rfl) hs (by decide) fun w7 hs7 o7 => ?_
      replace hs7 : Blk w7 w5.heap.size [.int .i64 cl.st[j].id, .bool cl.st[j].u] _ := hs7
      have he7 : Ext w5 w7 := he6.only o7 (Nat.le_refl _)
      replace hm5 := hm5.ext he7
      replace hs5 := hs5.ext he7
      have hmlt := hm5.lt
      have hids : idsOf (cl.st.take (j + 1)) = idsOf (cl.st.take j) ++ [cl.st[j].id] := by rw [htk]; unfold idsOf; rw [List.map_append]; rfl
      have hcl : cellOk cl → ∀ t ∈ cl.st, 0 ≤ t.id ∧ t.id < cl.nx := fun h => h.2.2.2.2.1
      clear hs d0 d1
      refine goS ?_
      refine WO_call rfl (within_ret _ _ _ _) ?_
      rintro _ w8 ⟨rfl, rfl⟩
      by_cases hw : 0 ≤ cl.st[j].id ∧ cl.st[j].id ≤ cl.nx - 1
      · rw [decide_eq_true hw]
        refine goS ?_
        refine Z13 (q_lookI rfl rfl hm5) ?_
        rw [hml]
        by_cases hmem : cl.st[j].id ∈ idsOf (cl.st.take j)
        · rw [decide_eq_true hmem]
          refine goS ?_
          refine at_ret1 rfl rfl (no rfl (he5.trans he7) ?_)
          rintro ⟨_, _, _, _, _, q⟩
          have hsub : (idsOf (cl.st.take (j + 1))).Nodup := List.Nodup.sublist (List.Sublist.map _ (List.take_sublist _ _)) q
          rw [htk] at hsub
          simp only [idsOf, List.map_append, List.nodup_append] at hsub
          exact hsub.2.2 _ hmem _ (by simp) rfl
        · rw [decide_eq_false hmem]
          refine goS ?_
          refine WO_mapUpdate rfl rfl rfl hm5 fun w9 hm9 o9 => ?_
          refine goS ?_
          refine at_loop (j + 1) (by repeat (first | exact True.intro | refine And.intro rfl ?_)) ⟨hltj, (he5.trans he7).only o9 (by omega), hs5.only o9 (by omega), ⟨_, hm9, fun k => ?_⟩, ?_, ?_⟩ (by omega)
          · rw [lookI_updI, hids]
            by_cases hk : k = cl.st[j].id
            · rw [if_pos hk, decide_eq_true (by simp [hk])]
              rfl
            · rw [if_neg hk, hml k]
              congr 1
              simp [hk]
          · rw [hids, List.nodup_append]
            refine ⟨hnd, by simp, ?_⟩
            intro a ha b hb e
            simp at hb
            subst hb
            subst e
            exact hmem ha
          · rw [htk]
            intro t ht
            rcases List.mem_append.1 ht with ht | ht
            · exact hin t ht
            · simp at ht
              subst ht
              omega
      · rw [decide_eq_false hw]
        refine goS ?_
        refine at_ret1 rfl rfl (no rfl (he5.trans he7) ?_)
        rintro ⟨_, _, _, _, q, _⟩
        have := q _ (List.getElem_mem hltj)
        omega
    · have hgej : j = cl.st.length := by simp at hc2; omega
      subst hgej
      rw [List.take_length] at hnd hin
      refine goS ?_
      refine at_loop (i + 1) (by repeat (first | exact True.intro | refine And.intro rfl ?_)) ⟨hlt, fun j hj hji => ?_, he.trans he5⟩ (by omega)
      by_cases hji' : j = i
      · subst hji'
        rw [hcl0]
        exact ⟨by assumption, by assumption, by omega, hu, hin, hnd⟩
      · exact hgood j hj (by omega)
  · have hge : i = l.length := by simp at hc; omega
    subst hge
    refine goS ?_
    refine at_ret1 rfl rfl ⟨congrArg Value.bool (bool_dec ?_), he⟩
    simp only [true_iff]
    refine ⟨by omega, fun x hx => ?_⟩
    obtain ⟨j, hj, rfl⟩ := List.mem_iff_getElem.1 hx
    exact hgood j hj hj
end Go.Proofs.YtnfapbghkmodeaaDoor
