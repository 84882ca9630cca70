/-
  What is proved here: how the reference and the program read and write a cell of a memory: l6Place, l6Read, slices.IndexFunc and slices.DeleteFunc on tags, touch.
-/
import Derived.Test.YtnfapbghkmodeaaDoorCUpd
namespace Go.Proofs.YtnfapbghkmodeaaDoor
set_option linter.unusedVariables false
set_option linter.unusedSimpArgs false
set_option linter.unnecessarySimpa false
open Go.RowKit

theorem l6Place_ret (v : Value) (l : List Ce) (F : List Nat) (x : Pt) (w : World) (h : CeS w v l F) :
    Ret Tryd.prog 62 [v, ptV x] w fun r w' => (∃ k : Int, r = .tuple #[.int .i64 k, .int .i64 (accC l x)] ∧ (accC l x = 0 → k = kOf l x)) ∧ Ext w w' := by
  obtain ⟨A, c, rfl, hl⟩ := h.slice
  unfold maxI at hl
  obtain ⟨xc, xt⟩ := x
  refine enter Tryd.func62 rfl Tryd.ntmps62 rfl rfl ?_
  refine Z43 (Z44 (WO_box rfl fun w1 hs he1 hz1 => ?_))
  replace hs : Blk w1 w.heap.size [.int .i64 xc, .int .i64 xt] _ := hs
  refine goS ?_
  refine WO_call rfl (sCellsValid_ret _ l F w1 (h.ext he1)) ?_
  rintro r w2 ⟨rfl, e2⟩
  replace hs := hs.ext e2
  have e12 := he1.trans e2
  rcases acc_cases l ⟨xc, xt⟩ with ⟨ha, hn⟩ | ⟨hok, i, hi, hxc, hst, _, _, hcase⟩
  · have fin : (∃ k : Int, Value.tuple #[.int .i64 0, .int .i64 4] = .tuple #[.int .i64 k, .int .i64 (accC l ⟨xc, xt⟩)] ∧ (accC l ⟨xc, xt⟩ = 0 → k = kOf l ⟨xc, xt⟩)) ∧ Ext w w2 := ⟨⟨0, by rw [ha], by rw [ha]; intro h; omega⟩, e12⟩
    simp only at hn
    by_cases hok : cellsOk l
    · rw [decide_eq_true hok]
      (refine goS ?_; repeat' (first | ((refine Z51 rfl rfl (fun c' hc' => ?_)); cases c' <;> (try simp only [decide_eq_true_eq, decide_eq_false_iff_not, beq_iff_eq, beq_eq_false_iff_ne, bne_iff_ne, bne_eq_false_iff_eq, ne_eq, gt_iff_lt, ge_iff_le, Int.not_lt, Int.not_le, Bool.not_eq_true', Bool.not_eq_false', Bool.not_true, Bool.not_false, reduceCtorEq, Decidable.not_not, not_true_eq_false, Bool.true_eq_false, Bool.false_eq_true] at hc') <;> (try (exfalso; omega)) <;> refine goS ?_) | ((refine Z52 rfl (fun hc' => ?_) (fun hc' => ?_)) <;> (try simp only [decide_eq_true_eq, decide_eq_false_iff_not, beq_iff_eq, beq_eq_false_iff_ne, bne_iff_ne, bne_eq_false_iff_eq, ne_eq, gt_iff_lt, ge_iff_le, Int.not_lt, Int.not_le, Bool.not_eq_true', Bool.not_eq_false', Bool.not_true, Bool.not_false, reduceCtorEq, Decidable.not_not, not_true_eq_false, Bool.true_eq_false, Bool.false_eq_true] at hc') <;> (try (exfalso; omega)) <;> refine goS ?_)))
      all_goals first
        | exact at_ret2 rfl rfl rfl fin
        | (exfalso; exact hn ⟨hok, by omega, by omega⟩)
    · rw [decide_eq_false hok]
      refine goS ?_
      exact at_ret2 rfl rfl rfl fin
  · simp only at hxc hst
    subst hxc
    rw [decide_eq_true hok]
    obtain ⟨b, o, vs, Fs, rfl, _, c0, c1, c2, c3, hts, _⟩ := ces_at (h.ext e12) hi
    clear c0 c2
    (refine goS ?_; repeat' (first | ((refine Z51 rfl rfl (fun c' hc' => ?_)); cases c' <;> (try simp only [decide_eq_true_eq, decide_eq_false_iff_not, beq_iff_eq, beq_eq_false_iff_ne, bne_iff_ne, bne_eq_false_iff_eq, ne_eq, gt_iff_lt, ge_iff_le, Int.not_lt, Int.not_le, Bool.not_eq_true', Bool.not_eq_false', Bool.not_true, Bool.not_false, reduceCtorEq, Decidable.not_not, not_true_eq_false, Bool.true_eq_false, Bool.false_eq_true] at hc') <;> (try (exfalso; omega)) <;> refine goS ?_) | ((refine Z52 rfl (fun hc' => ?_) (fun hc' => ?_)) <;> (try simp only [decide_eq_true_eq, decide_eq_false_iff_not, beq_iff_eq, beq_eq_false_iff_ne, bne_iff_ne, bne_eq_false_iff_eq, ne_eq, gt_iff_lt, ge_iff_le, Int.not_lt, Int.not_le, Bool.not_eq_true', Bool.not_eq_false', Bool.not_true, Bool.not_false, reduceCtorEq, Decidable.not_not, not_true_eq_false, Bool.true_eq_false, Bool.false_eq_true] at hc') <;> (try (exfalso; omega)) <;> refine goS ?_)))
    refine Z83 rfl rfl rfl hi ?_
    rcases hcase with ⟨hal, ha⟩ | ⟨hal, ht, ha⟩ | ⟨hal, ha, k, hk, ht, hko, _⟩
    · rw [hal] at c1
      refine goS ?_
      exact at_ret2 rfl rfl rfl ⟨⟨0, by rw [ha], by rw [ha]; intro h; omega⟩, e12⟩
    · rw [hal] at c1
      refine goS ?_
      refine Z54 (by kernel_rfl) (by kernel_rfl) ?_
      repeat' (first | refine Z55 (Z56 rfl) ?_ | (refine Z57 ?_; first | refine Z58 rfl rfl (by decide) ?_ | refine Z59 rfl rfl (by decide) ?_ | refine Z60 rfl rfl ?_ | ((refine Z61 rfl rfl (fun c' hc' => ?_)); cases c' <;> (try simp only [decide_eq_true_eq, decide_eq_false_iff_not, beq_iff_eq, beq_eq_false_iff_ne, bne_iff_ne, bne_eq_false_iff_eq, ne_eq, gt_iff_lt, ge_iff_le, Int.not_lt, Int.not_le, Bool.not_eq_true', Bool.not_eq_false', Bool.not_true, Bool.not_false, reduceCtorEq, Decidable.not_not, not_true_eq_false, Bool.true_eq_false, Bool.false_eq_true] at hc') <;> (try (exfalso; omega)))) | (refine Z62 ?_; first | refine Z55 (Z63 rfl rfl) ?_ | refine Z55 (Z64 rfl rfl) ?_) | (refine Z65 ?_; first | refine Z55 (Z66 rfl (by assumption) (by rfl)) ?_ | refine Z55 (Z67 rfl (by assumption)) ?_) | (refine Z68 ?_; refine Z55 (Z69 rfl rfl rfl (by omega)) ?_) | (refine Z70 ?_; first | refine Z55 (Z14 rfl (by decide) rfl) ?_ | refine Z55 (Z15 rfl (by decide) rfl) ?_) | (refine Z71 ?_; first | refine Z55 (Z72 rfl) ?_ | refine Z55 (Z73 rfl) ?_) | (refine Z74 ?_; first | refine Z55 (Z75 rfl rfl (by omega)) ?_ | refine Z55 (Z76 rfl rfl (by omega)) ?_ | refine Z55 (Z77 rfl rfl (by omega)) ?_ | refine Z55 (Z78 rfl rfl (by omega) (by omega)) ?_ | refine Z55 (Z79 rfl rfl (by omega) (by omega) (by omega)) ?_ | refine Z55 (Z25 rfl rfl) ?_ | refine Z55 (Z26 rfl rfl) ?_) | (refine Z80 ?_; refine Z55 (Z28 rfl (Z53 ⟨by omega, by omega⟩)) ?_) | refine Z81 fun w' hw' => ?_)
      refine WQ_call rfl (fun w' e' => (l6Tag_ret vs l[i].st Fs xt w' (hts.ext e')).mono (by rintro u w'' ⟨rfl, rfl⟩; exact ⟨rfl, Ext.refl _⟩)) ?_
      rw [ht]
      repeat' (first | refine Z55 (Z56 rfl) ?_ | (refine Z57 ?_; first | refine Z58 rfl rfl (by decide) ?_ | refine Z59 rfl rfl (by decide) ?_ | refine Z60 rfl rfl ?_ | ((refine Z61 rfl rfl (fun c' hc' => ?_)); cases c' <;> (try simp only [decide_eq_true_eq, decide_eq_false_iff_not, beq_iff_eq, beq_eq_false_iff_ne, bne_iff_ne, bne_eq_false_iff_eq, ne_eq, gt_iff_lt, ge_iff_le, Int.not_lt, Int.not_le, Bool.not_eq_true', Bool.not_eq_false', Bool.not_true, Bool.not_false, reduceCtorEq, Decidable.not_not, not_true_eq_false, Bool.true_eq_false, Bool.false_eq_true] at hc') <;> (try (exfalso; omega)))) | (refine Z62 ?_; first | refine Z55 (Z63 rfl rfl) ?_ | refine Z55 (Z64 rfl rfl) ?_) | (refine Z65 ?_; first | refine Z55 (Z66 rfl (by assumption) (by rfl)) ?_ | refine Z55 (Z67 rfl (by assumption)) ?_) | (refine Z68 ?_; refine Z55 (Z69 rfl rfl rfl (by omega)) ?_) | (refine Z70 ?_; first | refine Z55 (Z14 rfl (by decide) rfl) ?_ | refine Z55 (Z15 rfl (by decide) rfl) ?_) | (refine Z71 ?_; first | refine Z55 (Z72 rfl) ?_ | refine Z55 (Z73 rfl) ?_) | (refine Z74 ?_; first | refine Z55 (Z75 rfl rfl (by omega)) ?_ | refine Z55 (Z76 rfl rfl (by omega)) ?_ | refine Z55 (Z77 rfl rfl (by omega)) ?_ | refine Z55 (Z78 rfl rfl (by omega) (by omega)) ?_ | refine Z55 (Z79 rfl rfl (by omega) (by omega) (by omega)) ?_ | refine Z55 (Z25 rfl rfl) ?_ | refine Z55 (Z26 rfl rfl) ?_) | (refine Z80 ?_; refine Z55 (Z28 rfl (Z53 ⟨by omega, by omega⟩)) ?_) | refine Z81 fun w' hw' => ?_)
      refine goS ?_
      exact at_ret2 rfl rfl rfl ⟨⟨0, by rw [ha], by rw [ha]; intro h; omega⟩, e12.trans hw'⟩
    · rw [hal] at c1
      simp only at ht
      refine goS ?_
      refine Z54 (by kernel_rfl) (by kernel_rfl) ?_
      repeat' (first | refine Z55 (Z56 rfl) ?_ | (refine Z57 ?_; first | refine Z58 rfl rfl (by decide) ?_ | refine Z59 rfl rfl (by decide) ?_ | refine Z60 rfl rfl ?_ | ((refine Z61 rfl rfl (fun c' hc' => ?_)); cases c' <;> (try simp only [decide_eq_true_eq, decide_eq_false_iff_not, beq_iff_eq, beq_eq_false_iff_ne, bne_iff_ne, bne_eq_false_iff_eq, ne_eq, gt_iff_lt, ge_iff_le, Int.not_lt, Int.not_le, Bool.not_eq_true', Bool.not_eq_false', Bool.not_true, Bool.not_false, reduceCtorEq, Decidable.not_not, not_true_eq_false, Bool.true_eq_false, Bool.false_eq_true] at hc') <;> (try (exfalso; omega)))) | (refine Z62 ?_; first | refine Z55 (Z63 rfl rfl) ?_ | refine Z55 (Z64 rfl rfl) ?_) | (refine Z65 ?_; first | refine Z55 (Z66 rfl (by assumption) (by rfl)) ?_ | refine Z55 (Z67 rfl (by assumption)) ?_) | (refine Z68 ?_; refine Z55 (Z69 rfl rfl rfl (by omega)) ?_) | (refine Z70 ?_; first | refine Z55 (Z14 rfl (by decide) rfl) ?_ | refine Z55 (Z15 rfl (by decide) rfl) ?_) | (refine Z71 ?_; first | refine Z55 (Z72 rfl) ?_ | refine Z55 (Z73 rfl) ?_) | (refine Z74 ?_; first | refine Z55 (Z75 rfl rfl (by omega)) ?_ | refine Z55 (Z76 rfl rfl (by omega)) ?_ | refine Z55 (Z77 rfl rfl (by omega)) ?_ | refine Z55 (Z78 rfl rfl (by omega) (by omega)) ?_ | refine Z55 (Z79 rfl rfl (by omega) (by omega) (by omega)) ?_ | refine Z55 (Z25 rfl rfl) ?_ | refine Z55 (Z26 rfl rfl) ?_) | (refine Z80 ?_; refine Z55 (Z28 rfl (Z53 ⟨by omega, by omega⟩)) ?_) | refine Z81 fun w' hw' => ?_)
      refine WQ_call rfl (fun w' e' => (l6Tag_ret vs l[i].st Fs xt w' (hts.ext e')).mono (by rintro u w'' ⟨rfl, rfl⟩; exact ⟨rfl, Ext.refl _⟩)) ?_
      rw [ht]
      repeat' (first | refine Z55 (Z56 rfl) ?_ | (refine Z57 ?_; first | refine Z58 rfl rfl (by decide) ?_ | refine Z59 rfl rfl (by decide) ?_ | refine Z60 rfl rfl ?_ | ((refine Z61 rfl rfl (fun c' hc' => ?_)); cases c' <;> (try simp only [decide_eq_true_eq, decide_eq_false_iff_not, beq_iff_eq, beq_eq_false_iff_ne, bne_iff_ne, bne_eq_false_iff_eq, ne_eq, gt_iff_lt, ge_iff_le, Int.not_lt, Int.not_le, Bool.not_eq_true', Bool.not_eq_false', Bool.not_true, Bool.not_false, reduceCtorEq, Decidable.not_not, not_true_eq_false, Bool.true_eq_false, Bool.false_eq_true] at hc') <;> (try (exfalso; omega)))) | (refine Z62 ?_; first | refine Z55 (Z63 rfl rfl) ?_ | refine Z55 (Z64 rfl rfl) ?_) | (refine Z65 ?_; first | refine Z55 (Z66 rfl (by assumption) (by rfl)) ?_ | refine Z55 (Z67 rfl (by assumption)) ?_) | (refine Z68 ?_; refine Z55 (Z69 rfl rfl rfl (by omega)) ?_) | (refine Z70 ?_; first | refine Z55 (Z14 rfl (by decide) rfl) ?_ | refine Z55 (Z15 rfl (by decide) rfl) ?_) | (refine Z71 ?_; first | refine Z55 (Z72 rfl) ?_ | refine Z55 (Z73 rfl) ?_) | (refine Z74 ?_; first | refine Z55 (Z75 rfl rfl (by omega)) ?_ | refine Z55 (Z76 rfl rfl (by omega)) ?_ | refine Z55 (Z77 rfl rfl (by omega)) ?_ | refine Z55 (Z78 rfl rfl (by omega) (by omega)) ?_ | refine Z55 (Z79 rfl rfl (by omega) (by omega) (by omega)) ?_ | refine Z55 (Z25 rfl rfl) ?_ | refine Z55 (Z26 rfl rfl) ?_) | (refine Z80 ?_; refine Z55 (Z28 rfl (Z53 ⟨by omega, by omega⟩)) ?_) | refine Z81 fun w' hw' => ?_)
      refine goS ?_
      refine Z50 rfl (by simp) ?_
      refine goS ?_
      exact at_ret2 rfl rfl rfl ⟨⟨k, by rw [ha], by rw [hko]; intro; rfl⟩, e12.trans hw'⟩
theorem tgs_take {w : World} {A : Option Addr} {n c : Nat} {l : List Tg} {F : List Nat} (h : TgS w (.slice A n c) l F) (m : Nat) (hm : m ≤ l.length) (hp : 0 < m) : ∃ G, TgS w (.slice A m c) (l.take m) G := by
  obtain ⟨A', c', e, hl, ⟨h1, _⟩ | ⟨b, o, F', hA, hF, hc⟩⟩ := h
  · omega
  · cases e
    have hlen : (l.take m).length = m := by simp; omega
    refine ⟨[b], A, c, by rw [hlen], by rw [hlen]; omega, .inr ⟨b, o, [], hA, rfl, cs_of_tagCells fun j u hj => ?_⟩⟩
    have hj' : (tagCells l)[j]? = some u := by
      have h2 : tagCells l = tagCells (l.take m) ++ tagCells (l.drop m) := by rw [← tagCells_append, List.take_append_drop]
      rw [h2, List.getElem?_append_left (List.getElem?_eq_some_iff.1 hj).1]
      exact hj
    have hlt : j < l.length * 2 := by rw [← tagCells_length]; exact (List.getElem?_eq_some_iff.1 hj').1
    obtain ⟨a1, a2⟩ := encT_at l b o F' hc (j / 2) (by omega)
    obtain ⟨b1, b2⟩ := tagCells_get l (j / 2) (by omega)
    rcases Nat.mod_two_eq_zero_or_one j with hmo | hmo
    · have e1 : j / 2 * 2 = j := by omega
      rw [e1] at a1 b1
      rw [a1, ← b1, hj']
    · have e1 : j / 2 * 2 + 1 = j := by omega
      rw [Nat.add_assoc, e1] at a2
      rw [e1] at b2
      rw [a2, ← b2, hj']
def keepTo (st : List Tg) (k j : Nat) : List Tg := st.take (k + 1) ++ ((st.take j).drop (k + 1)).filter (fun t => !t.u)
theorem keepTo_zero (st : List Tg) (k : Nat) : keepTo st k (k + 1) = st.take (k + 1) := by
  unfold keepTo
  rw [List.drop_eq_nil_of_le (by simp; omega)]
  simp
theorem keepTo_succ (st : List Tg) (k j : Nat) (hk : k + 1 ≤ j) (hj : j < st.length) : keepTo st k (j + 1) = keepTo st k j ++ (if st[j].u then [] else [st[j]]) := by
  unfold keepTo
  rw [List.take_succ_eq_append_getElem hj, List.drop_append_of_le_length (by simp; omega), List.filter_append, List.append_assoc]
  congr 2
  cases hu : st[j].u <;> simp [hu]
theorem keepTo_all (st : List Tg) (k : Nat) : keepTo st k st.length = readSt st k := by
  unfold keepTo readSt
  rw [List.take_length]
theorem keepTo_length (st : List Tg) (k j : Nat) : (keepTo st k j).length ≤ st.length + st.length := by
  unfold keepTo
  have := List.length_filter_le (fun t : Tg => !t.u) ((st.take j).drop (k + 1))
  simp at this ⊢
  omega
theorem l6Read_ret (v : Value) (st : List Tg) (F : List Nat) (k : Nat) (w : World) (h : TgS w v st F) (hk : k < st.length) (hn : st.length ≤ 1048576) :
    Ret Tryd.prog 63 [v, .int .i64 k] w (NewTags 54 (readSt st k) w) := by
  obtain ⟨A, c, rfl, hl⟩ := h.slice
  refine enter Tryd.func63 rfl Tryd.ntmps63 rfl rfl ?_
  refine goS ?_
  refine WO_build0 (e := 54) (k := 2) fun w0 hb0 e0 z0 => ?_
  have hown0 := owns_empty (B := w.heap.size) (k := 2) hb0 (Nat.le_refl _)
  refine goS ?_
  refine Z13 (q_slTo (h := k + 1) rfl rfl (by omega) (by omega)) ?_
  obtain ⟨G, hG⟩ := tgs_take (h.ext e0) (k + 1) (by omega) (by omega)
  refine WO_appT (l0 := []) rfl hown0 rfl hG e0.size (by simp; omega) (by decide) fun us w1 hown1 hg1 hat1 => ?_
  have e1 : Ext w w1 := grown_below e0 hown0 hg1 (Nat.le_refl _)
  rw [List.nil_append, ← keepTo_zero] at hown1
  refine goS ?_
  refine W_loop (α := Nat × Value) (fun p => [(0, .slice A st.length c), (1, .int .i64 (k : Int)), (5, p.2), (6, .int .i64 (p.1 : Int))])
    (fun p w' => k + 1 ≤ p.1 ∧ p.1 ≤ st.length ∧ Ext w w' ∧ w'.ownsRow w.heap.size 54 2 p.2 (keepTo st k p.1).length (tagCells (keepTo st k p.1))) (fun p => st.length - p.1) (k + 1, us) (by repeat (first | exact True.intro | refine And.intro rfl ?_)) ⟨Nat.le_refl _, hk, e1, hown1⟩ ?_
  rintro ⟨j, vo⟩ w2 ⟨hj0, hj, he, hown⟩
  simp only at hj0 hj he hown ⊢
  refine goS ?_
  refine Z52 rfl (fun hc => ?_) (fun hc => ?_)
  · have hlt : j < st.length := by simpa using hc
    have hs := keepTo_succ st k j hj0 hlt
    have hkl := keepTo_length st k j
    obtain ⟨b, o, rfl, _, c0, c1⟩ := tgs_at (h.ext he) hlt
    have hcells := two c0 c1
    clear c0
    refine goS ?_
    refine Z83 rfl rfl rfl hlt ?_
    refine goS ?_
    cases hu : st[j].u
    · rw [hu] at hs
      refine goS ?_
      refine Z83 rfl rfl rfl hlt ?_
      refine WO_loadS rfl rfl hcells ?_
      refine WO_app1 (m := (keepTo st k j).length) (u := .agg #[.int .i64 st[j].id, .bool st[j].u]) rfl rfl (by intro v hv; simp [Value.cells] at hv; rcases hv with rfl | rfl <;> rfl) rfl hown he.size rfl (by omega) (by decide) fun v' w4 hown4 hg4 hat4 => ?_
      refine goS ?_
      refine at_loop (j + 1, v') (by repeat (first | exact True.intro | refine And.intro rfl ?_)) ⟨by simp only; omega, hlt, grown_below he hown hg4 (Nat.le_refl _), ?_⟩ (by simp only; omega)
      simp only
      rw [hs, if_neg (by simp), List.length_append, tagCells_append]
      exact hown4
    · rw [hu] at hs
      refine goS ?_
      refine at_loop (j + 1, vo) (by repeat (first | exact True.intro | refine And.intro rfl ?_)) ⟨by simp only; omega, hlt, he, ?_⟩ (by simp only; omega)
      simp only
      rw [hs, if_pos rfl, List.append_nil]
      exact hown
  · have hge : j = st.length := by simp at hc; omega
    subst hge
    rw [keepTo_all] at hown
    refine goS ?_
    exact at_ret1 rfl rfl (row_of hown (Nat.le_refl _) he)
theorem findIdx_take_none {α : Type} {p : α → Bool} {l : List α} (h : ∀ t ∈ l, p t = false) : l.findIdx? p = none := List.findIdx?_eq_none_iff.2 h
theorem findIdx_at {α : Type} {p : α → Bool} {l : List α} {i : Nat} (hi : i < l.length) (h1 : p l[i] = true) (h2 : ∀ t ∈ l.take i, p t = false) : l.findIdx? p = some i := by
  rw [List.findIdx?_eq_some_iff_getElem]
  refine ⟨hi, h1, fun j hj => ?_⟩
  have := h2 l[j] (List.mem_take_iff_getElem.2 ⟨j, by omega, rfl⟩)
  simp [this]
def idxI (o : Option Nat) : Int := match o with
  | some i => (i : Int)
  | none => -1
theorem filter_none {α : Type} {p : α → Bool} {l : List α} (h : l.findIdx? p = none) : l.filter (fun t => !p t) = l := by
  rw [List.filter_eq_self]
  intro t ht
  have := List.findIdx?_eq_none_iff.1 h t ht
  simp [this]
theorem filter_first {α : Type} {p : α → Bool} {l : List α} {i : Nat} (h : l.findIdx? p = some i) : i < l.length ∧ (l.take (i + 1)).filter (fun t => !p t) = l.take i := by
  obtain ⟨hi, h1, h2⟩ := List.findIdx?_eq_some_iff_getElem.1 h
  refine ⟨hi, ?_⟩
  rw [List.take_succ_eq_append_getElem hi, List.filter_append, List.filter_cons_of_neg (by simp [h1]), List.filter_nil, List.append_nil, List.filter_eq_self]
  intro t ht
  obtain ⟨j, hj, rfl⟩ := List.mem_take_iff_getElem.1 ht
  have := h2 j (by omega)
  simpa using this
end Go.Proofs.YtnfapbghkmodeaaDoor
