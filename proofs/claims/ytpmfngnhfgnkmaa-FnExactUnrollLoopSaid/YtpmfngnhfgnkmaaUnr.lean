/-
  What is proved here: which program UnrollLoop of the program and of the reference make.
-/
import Derived.Test.YtpmfngnhfgnkmaaNum
namespace Go.Proofs.Ytpmfngnhfgnkmaa
set_option linter.unusedVariables false
set_option linter.unusedSimpArgs false
set_option linter.unnecessarySimpa false
open Go.RowKit

theorem row_app {B : Nat} {e : TypeId} {w1 w2 : World} {l m : Ss} {v v' : Value} {xs ys : List Value} {Fs Fm : List Nat} (h2 : StkS e w1 l xs Fs) (hm : StkS e w1 m ys Fm) (hc : Chg v.ownBlock.toList w1 w2) (hd : ∀ z ∈ Fs ++ Fm, z ∉ v.ownBlock.toList)
    (k1 : w2.ownsRow B e 6 v' (l.len + m.len) (xs ++ ys)) : RowS e w2 v' (l.app m) (v'.ownBlock.toList ++ (Fs ++ Fm)) :=
  ⟨xs ++ ys, Fs ++ Fm, by rw [Ss.len_app]; exact ownsRow_base0 k1, StkS.append _ _ _ _ _ _ (StkS.chg hc _ _ _ h2 fun x hx => hd x (by simp [hx])) (StkS.chg hc _ _ _ hm fun x hx => hd x (by simp [hx])), rfl⟩
theorem stk_one {e : TypeId} {w : World} {op x y n : Int} {t el : Ss} {vt ve : Value} {Ft Fe : List Nat} (h1 : RowS e w vt t Ft) (h2 : RowS e w ve el Fe) : StkS e w (Ss.one op x y n t el) [.int .i64 op, .int .i64 x, .int .i64 y, .int .i64 n, vt, ve] (Ft ++ Fe) := by
  have := StkS.mk (op := op) (x := x) (y := y) (n := n) h1 h2 (r := .nil) (xr := []) (Fr := []) ⟨rfl, rfl⟩
  rwa [List.append_nil] at this
theorem row_cells {B e k m : Nat} {w : World} {v : Value} {xs : List Value} (h : w.ownsRow B e k v m xs) (h0 : 0 < m) : ∃ g cap, v = .slice (some ⟨g, 0, none⟩) m cap ∧ ∀ j u, xs[j]? = some u → w.cell? ⟨g, 0 + j, none⟩ = some u := by
  obtain ⟨hl, ⟨h3, hm⟩ | ⟨g, cap, cur, h3, hB, hg, hnc, hm, hcs, ht⟩⟩ := h
  · omega
  · refine ⟨g, cap, h3, fun j u hu => ?_⟩
    rw [← ht, List.getElem?_take] at hu
    split at hu
    · have hb : Blk w g cur.toList e := by simpa [Blk] using hg
      rw [Nat.zero_add]
      exact hb.cell hu
    · cases hu
def unrAt (tl : List Int) (d : Ss) : Ss → Option Ss
  | .cons op x y n t e r => if op = 10 ∧ validP tl (d.app (.cons 9 0 0 0 (t.snoc op x y n t e) .nil r)) = true then some (d.app (.cons 9 0 0 0 (t.snoc op x y n t e) .nil r)) else none
  | .nil => none
def unrR (tl : List Int) (l : Ss) (k : Int) : Option Ss := if validP tl l = true ∧ 0 ≤ k then unrAt tl (l.take k.toNat) (l.drop k.toNat) else none
theorem unrR_cnt (tl : List Int) (l : Ss) (k : Int) : cntL (chL (unrR tl l k)) ≤ 30 := by
  unfold unrR chL
  split
  · cases hd : l.drop k.toNat with
    | nil => simp [unrAt, cntL]
    | cons op x y n t e r =>
      simp only [unrAt]
      split
      · rename_i h
        exact (validP_cnt h.2).2.2
      · simp [cntL]
  · simp [cntL]
theorem unrR_none {tl : List Int} {l : Ss} {k : Int} (h : ¬ (validP tl l = true ∧ 0 ≤ k ∧ k ≤ (l.len : Int) - 1)) : unrR tl l k = none := by
  unfold unrR
  by_cases hv : validP tl l = true ∧ 0 ≤ k
  · rw [if_pos hv]
    have h1 := Ss.len_drop k.toNat l
    have h2 : ¬ (k ≤ (l.len : Int) - 1) := fun h2 => h ⟨hv.1, hv.2, h2⟩
    rw [Ss.len_zero (l := l.drop k.toNat) (by omega)]
    rfl
  · rw [if_neg hv]
theorem unrR_some {tl : List Int} {l : Ss} {i : Nat} {op x y n : Int} {t e r : Ss} (hv : validP tl l = true) (q3 : l.drop i = .cons op x y n t e r) : unrR tl l (i : Int) = unrAt tl (l.take i) (.cons op x y n t e r) := by
  unfold unrR
  rw [if_pos ⟨hv, by omega⟩, Int.toNat_natCast, q3]
/-- What stands behind the statement that puts the choice in the loop's place. -/
def UnrIn (e : TypeId) (g i : Nat) (cs : List Value) (t' : Ss) (Old : List Nat) (w w' : World) : Prop :=
  ∃ v3 F3, Blk w' g (cs.take (0 + i * 6) ++ [.int .i64 9, .int .i64 0, .int .i64 0, .int .i64 0, v3, .slice none 0 0] ++ cs.drop (0 + i * 6 + 6)) e ∧ RowS e w' v3 t' F3 ∧ F3.Nodup ∧ (∀ b ∈ F3, b ∈ Old ∨ w.heap.size ≤ b) ∧ Chg [g] w w'
theorem UnrollLoop_ret (tv bv : Value) (tl : List Int) (l : Ss) (F F2 : List Nat) (k : Int) (w : World) (ht : IntF w tv tl F) (hb : StS w bv l F2) (hk : -9223372036854775808 ≤ k ∧ k ≤ 9223372036854775807) (hn : tl.length ≤ 1048576) (hn2 : cntL l ≤ 1048576) :
    Ret Try.prog 49 [prV tv bv, .int .i64 k] w (PrO 29 tl (unrR tl l k) w) := by
  obtain ⟨A, c, rfl, hl, hlc⟩ := hb.slice
  unfold maxI at hl
  have hcl := len_le_cntL l
  have htone : tv.oneCell' = true := by obtain ⟨_, _, rfl, _⟩ := ht; rfl
  refine enter Try.func49 rfl Try.ntmps49 rfl rfl ?_
  refine Z43 (Z44 (WO_box rfl fun w1 hs e1 z1 => WO_alloc fun w2 hr e2 z2 => ?_))
  replace hs : Blk w2 w.heap.size [tv, .slice A l.len c] _ := Blk.ext hs e2
  replace hr : Blk w2 w1.heap.size [.slice none 0 0, .slice none 0 0] _ := hr
  have e0 := e1.trans e2
  have s1 := e1.size_le
  have s2 := hr.lt
  repeat (first | (refine Z0 ?_; first | refine Z1 rfl ?_ | (refine Z2 ?_; first | refine Z3 rfl rfl (by decide) ?_ | refine Z4 rfl rfl (by decide) ?_ | refine Z5 rfl rfl ?_) | (refine Z6 ?_; first | refine Z7 rfl rfl ?_ | refine Z8 rfl rfl ?_) | (refine Z9 ?_; first | refine Z10 rfl (by assumption) (by rfl) ?_ | refine Z11 rfl (by assumption) ?_) | (refine Z12 ?_; first | refine Z13 (Z14 rfl (by decide) rfl) ?_ | refine Z13 (Z15 rfl (by decide) rfl) ?_) | (refine Z16 ?_; first | refine Z17 rfl ?_ | refine Z18 rfl ?_) | (refine Z19 ?_; first | refine Z20 rfl rfl (by omega) ?_ | refine Z21 rfl rfl (by omega) ?_ | refine Z22 rfl rfl (by omega) ?_ | refine Z23 rfl rfl (by omega) (by omega) ?_ | refine Z24 rfl rfl (by omega) (by omega) (by omega) ?_ | refine Z13 (Z25 rfl rfl) ?_ | refine Z13 (Z26 rfl rfl) ?_) | (refine Z27 ?_; refine Z13 (Z28 rfl (Z53 ⟨by omega, by omega⟩)) ?_) | (refine Z29 ?_; refine Z13 (Z30 rfl (by rfl) (by simp only [Z84, List.set_cons_zero, List.set_cons_succ]; rfl)) ?_) | refine Z31 ?_) | (refine Z32 ?_; first | refine Z33 ?_ | refine Z34 ?_ | refine Z35 ?_ | refine Z36 ?_ | refine Z37 ?_ | refine Z38 rfl ?_ | refine Z39 ?_ | refine Z40 ?_ | refine Z41 ?_) | (refine Z42 ?_; first | refine Z43 ?_ | refine Z44 ?_ | refine Z45 ?_ | refine Z46 ?_ | refine Z47 ?_ | refine Z48 ?_ | refine Z49 rfl (by decide) ?_ | refine Z50 rfl (by decide) ?_))
  refine WO_loadSB rfl hs rfl ?_
  repeat (first | (refine Z0 ?_; first | refine Z1 rfl ?_ | (refine Z2 ?_; first | refine Z3 rfl rfl (by decide) ?_ | refine Z4 rfl rfl (by decide) ?_ | refine Z5 rfl rfl ?_) | (refine Z6 ?_; first | refine Z7 rfl rfl ?_ | refine Z8 rfl rfl ?_) | (refine Z9 ?_; first | refine Z10 rfl (by assumption) (by rfl) ?_ | refine Z11 rfl (by assumption) ?_) | (refine Z12 ?_; first | refine Z13 (Z14 rfl (by decide) rfl) ?_ | refine Z13 (Z15 rfl (by decide) rfl) ?_) | (refine Z16 ?_; first | refine Z17 rfl ?_ | refine Z18 rfl ?_) | (refine Z19 ?_; first | refine Z20 rfl rfl (by omega) ?_ | refine Z21 rfl rfl (by omega) ?_ | refine Z22 rfl rfl (by omega) ?_ | refine Z23 rfl rfl (by omega) (by omega) ?_ | refine Z24 rfl rfl (by omega) (by omega) (by omega) ?_ | refine Z13 (Z25 rfl rfl) ?_ | refine Z13 (Z26 rfl rfl) ?_) | (refine Z27 ?_; refine Z13 (Z28 rfl (Z53 ⟨by omega, by omega⟩)) ?_) | (refine Z29 ?_; refine Z13 (Z30 rfl (by rfl) (by simp only [Z84, List.set_cons_zero, List.set_cons_succ]; rfl)) ?_) | refine Z31 ?_) | (refine Z32 ?_; first | refine Z33 ?_ | refine Z34 ?_ | refine Z35 ?_ | refine Z36 ?_ | refine Z37 ?_ | refine Z38 rfl ?_ | refine Z39 ?_ | refine Z40 ?_ | refine Z41 ?_) | (refine Z42 ?_; first | refine Z43 ?_ | refine Z44 ?_ | refine Z45 ?_ | refine Z46 ?_ | refine Z47 ?_ | refine Z48 ?_ | refine Z49 rfl (by decide) ?_ | refine Z50 rfl (by decide) ?_))
  refine WO_call rfl (ProgramValid_ret tv _ tl l F F2 w2 (ht.ext e0) (hb.ext e0)) ?_
  rintro _ w3 ⟨rfl, e3⟩
  replace hs := hs.ext e3
  replace hr := hr.ext e3
  replace e0 := e0.trans e3
  have s3 := e3.size_le
  cases hv : validP tl l
  · have hnone := unrR_none (tl := tl) (l := l) (k := k) (by simp [hv])
    repeat (first | (refine Z0 ?_; first | refine Z1 rfl ?_ | (refine Z2 ?_; first | refine Z3 rfl rfl (by decide) ?_ | refine Z4 rfl rfl (by decide) ?_ | refine Z5 rfl rfl ?_) | (refine Z6 ?_; first | refine Z7 rfl rfl ?_ | refine Z8 rfl rfl ?_) | (refine Z9 ?_; first | refine Z10 rfl (by assumption) (by rfl) ?_ | refine Z11 rfl (by assumption) ?_) | (refine Z12 ?_; first | refine Z13 (Z14 rfl (by decide) rfl) ?_ | refine Z13 (Z15 rfl (by decide) rfl) ?_) | (refine Z16 ?_; first | refine Z17 rfl ?_ | refine Z18 rfl ?_) | (refine Z19 ?_; first | refine Z20 rfl rfl (by omega) ?_ | refine Z21 rfl rfl (by omega) ?_ | refine Z22 rfl rfl (by omega) ?_ | refine Z23 rfl rfl (by omega) (by omega) ?_ | refine Z24 rfl rfl (by omega) (by omega) (by omega) ?_ | refine Z13 (Z25 rfl rfl) ?_ | refine Z13 (Z26 rfl rfl) ?_) | (refine Z27 ?_; refine Z13 (Z28 rfl (Z53 ⟨by omega, by omega⟩)) ?_) | (refine Z29 ?_; refine Z13 (Z30 rfl (by rfl) (by simp only [Z84, List.set_cons_zero, List.set_cons_succ]; rfl)) ?_) | refine Z31 ?_) | (refine Z32 ?_; first | refine Z33 ?_ | refine Z34 ?_ | refine Z35 ?_ | refine Z36 ?_ | refine Z37 ?_ | refine Z38 rfl ?_ | refine Z39 ?_ | refine Z40 ?_ | refine Z41 ?_) | (refine Z42 ?_; first | refine Z43 ?_ | refine Z44 ?_ | refine Z45 ?_ | refine Z46 ?_ | refine Z47 ?_ | refine Z48 ?_ | refine Z49 rfl (by decide) ?_ | refine Z50 rfl (by decide) ?_))
    refine WO_storeS (k := 2) (vs := [.slice none 0 0, .slice none 0 0]) rfl rfl rfl (by intro v hv; simp at hv; subst hv; rfl) hr (by decide) fun wz hz oz => ?_
    replace hz : Blk wz w1.heap.size [.slice none 0 0, .slice none 0 0] _ := hz
    repeat (first | (refine Z0 ?_; first | refine Z1 rfl ?_ | (refine Z2 ?_; first | refine Z3 rfl rfl (by decide) ?_ | refine Z4 rfl rfl (by decide) ?_ | refine Z5 rfl rfl ?_) | (refine Z6 ?_; first | refine Z7 rfl rfl ?_ | refine Z8 rfl rfl ?_) | (refine Z9 ?_; first | refine Z10 rfl (by assumption) (by rfl) ?_ | refine Z11 rfl (by assumption) ?_) | (refine Z12 ?_; first | refine Z13 (Z14 rfl (by decide) rfl) ?_ | refine Z13 (Z15 rfl (by decide) rfl) ?_) | (refine Z16 ?_; first | refine Z17 rfl ?_ | refine Z18 rfl ?_) | (refine Z19 ?_; first | refine Z20 rfl rfl (by omega) ?_ | refine Z21 rfl rfl (by omega) ?_ | refine Z22 rfl rfl (by omega) ?_ | refine Z23 rfl rfl (by omega) (by omega) ?_ | refine Z24 rfl rfl (by omega) (by omega) (by omega) ?_ | refine Z13 (Z25 rfl rfl) ?_ | refine Z13 (Z26 rfl rfl) ?_) | (refine Z27 ?_; refine Z13 (Z28 rfl (Z53 ⟨by omega, by omega⟩)) ?_) | (refine Z29 ?_; refine Z13 (Z30 rfl (by rfl) (by simp only [Z84, List.set_cons_zero, List.set_cons_succ]; rfl)) ?_) | refine Z31 ?_) | (refine Z32 ?_; first | refine Z33 ?_ | refine Z34 ?_ | refine Z35 ?_ | refine Z36 ?_ | refine Z37 ?_ | refine Z38 rfl ?_ | refine Z39 ?_ | refine Z40 ?_ | refine Z41 ?_) | (refine Z42 ?_; first | refine Z43 ?_ | refine Z44 ?_ | refine Z45 ?_ | refine Z46 ?_ | refine Z47 ?_ | refine Z48 ?_ | refine Z49 rfl (by decide) ?_ | refine Z50 rfl (by decide) ?_))
    exact at_ret2G rfl (.cell inferInstance rfl hz rfl) (.tmp rfl) (by rw [hnone]; exact PrO.none_ (Ext.only e0 oz s1))
  · repeat (first | (refine Z0 ?_; first | refine Z1 rfl ?_ | (refine Z2 ?_; first | refine Z3 rfl rfl (by decide) ?_ | refine Z4 rfl rfl (by decide) ?_ | refine Z5 rfl rfl ?_) | (refine Z6 ?_; first | refine Z7 rfl rfl ?_ | refine Z8 rfl rfl ?_) | (refine Z9 ?_; first | refine Z10 rfl (by assumption) (by rfl) ?_ | refine Z11 rfl (by assumption) ?_) | (refine Z12 ?_; first | refine Z13 (Z14 rfl (by decide) rfl) ?_ | refine Z13 (Z15 rfl (by decide) rfl) ?_) | (refine Z16 ?_; first | refine Z17 rfl ?_ | refine Z18 rfl ?_) | (refine Z19 ?_; first | refine Z20 rfl rfl (by omega) ?_ | refine Z21 rfl rfl (by omega) ?_ | refine Z22 rfl rfl (by omega) ?_ | refine Z23 rfl rfl (by omega) (by omega) ?_ | refine Z24 rfl rfl (by omega) (by omega) (by omega) ?_ | refine Z13 (Z25 rfl rfl) ?_ | refine Z13 (Z26 rfl rfl) ?_) | (refine Z27 ?_; refine Z13 (Z28 rfl (Z53 ⟨by omega, by omega⟩)) ?_) | (refine Z29 ?_; refine Z13 (Z30 rfl (by rfl) (by simp only [Z84, List.set_cons_zero, List.set_cons_succ]; rfl)) ?_) | refine Z31 ?_) | (refine Z32 ?_; first | refine Z33 ?_ | refine Z34 ?_ | refine Z35 ?_ | refine Z36 ?_ | refine Z37 ?_ | refine Z38 rfl ?_ | refine Z39 ?_ | refine Z40 ?_ | refine Z41 ?_) | (refine Z42 ?_; first | refine Z43 ?_ | refine Z44 ?_ | refine Z45 ?_ | refine Z46 ?_ | refine Z47 ?_ | refine Z48 ?_ | refine Z49 rfl (by decide) ?_ | refine Z50 rfl (by decide) ?_))
    refine WO_loadSB rfl hs rfl ?_
    repeat (first | (refine Z0 ?_; first | refine Z1 rfl ?_ | (refine Z2 ?_; first | refine Z3 rfl rfl (by decide) ?_ | refine Z4 rfl rfl (by decide) ?_ | refine Z5 rfl rfl ?_) | (refine Z6 ?_; first | refine Z7 rfl rfl ?_ | refine Z8 rfl rfl ?_) | (refine Z9 ?_; first | refine Z10 rfl (by assumption) (by rfl) ?_ | refine Z11 rfl (by assumption) ?_) | (refine Z12 ?_; first | refine Z13 (Z14 rfl (by decide) rfl) ?_ | refine Z13 (Z15 rfl (by decide) rfl) ?_) | (refine Z16 ?_; first | refine Z17 rfl ?_ | refine Z18 rfl ?_) | (refine Z19 ?_; first | refine Z20 rfl rfl (by omega) ?_ | refine Z21 rfl rfl (by omega) ?_ | refine Z22 rfl rfl (by omega) ?_ | refine Z23 rfl rfl (by omega) (by omega) ?_ | refine Z24 rfl rfl (by omega) (by omega) (by omega) ?_ | refine Z13 (Z25 rfl rfl) ?_ | refine Z13 (Z26 rfl rfl) ?_) | (refine Z27 ?_; refine Z13 (Z28 rfl (Z53 ⟨by omega, by omega⟩)) ?_) | (refine Z29 ?_; refine Z13 (Z30 rfl (by rfl) (by simp only [Z84, List.set_cons_zero, List.set_cons_succ]; rfl)) ?_) | refine Z31 ?_) | (refine Z32 ?_; first | refine Z33 ?_ | refine Z34 ?_ | refine Z35 ?_ | refine Z36 ?_ | refine Z37 ?_ | refine Z38 rfl ?_ | refine Z39 ?_ | refine Z40 ?_ | refine Z41 ?_) | (refine Z42 ?_; first | refine Z43 ?_ | refine Z44 ?_ | refine Z45 ?_ | refine Z46 ?_ | refine Z47 ?_ | refine Z48 ?_ | refine Z49 rfl (by decide) ?_ | refine Z50 rfl (by decide) ?_))
    refine WO_call rfl (isStmt_ret tv _ l F2 k w3 (hb.ext e0) htone) ?_
    rintro _ w4 ⟨rfl, e4⟩
    replace hs := hs.ext e4
    replace hr := hr.ext e4
    replace e0 := e0.trans e4
    have s4 := e4.size_le
    by_cases hyes : 0 ≤ k ∧ k ≤ (l.len : Int) - 1
    · rw [decide_eq_true hyes]
      obtain ⟨hk0, hk2⟩ := hyes
      obtain ⟨i, rfl⟩ := Int.eq_ofNat_of_zero_le hk0
      obtain ⟨op, x, y, n, t, e, r, q1, q2, q3, q4⟩ := Ss.at_ (l := l) (k := i) (by omega)
      have hfw := unrR_some hv q3
      have hct := cnt_take_drop i l
      have htl := len_le_cntL t
      rw [q3] at hct
      simp only [cntL] at hct
      obtain ⟨b, o, vt, ve, Ft, Fe, rfl, _, hc1, hT, hE⟩ := hb.one_ q1
      rw [q2] at hc1
      have c0 := cell_ext (hc1 0 _ rfl) e0
      rw [Nat.add_zero] at c0
      repeat (first | (refine Z0 ?_; first | refine Z1 rfl ?_ | (refine Z2 ?_; first | refine Z3 rfl rfl (by decide) ?_ | refine Z4 rfl rfl (by decide) ?_ | refine Z5 rfl rfl ?_) | (refine Z6 ?_; first | refine Z7 rfl rfl ?_ | refine Z8 rfl rfl ?_) | (refine Z9 ?_; first | refine Z10 rfl (by assumption) (by rfl) ?_ | refine Z11 rfl (by assumption) ?_) | (refine Z12 ?_; first | refine Z13 (Z14 rfl (by decide) rfl) ?_ | refine Z13 (Z15 rfl (by decide) rfl) ?_) | (refine Z16 ?_; first | refine Z17 rfl ?_ | refine Z18 rfl ?_) | (refine Z19 ?_; first | refine Z20 rfl rfl (by omega) ?_ | refine Z21 rfl rfl (by omega) ?_ | refine Z22 rfl rfl (by omega) ?_ | refine Z23 rfl rfl (by omega) (by omega) ?_ | refine Z24 rfl rfl (by omega) (by omega) (by omega) ?_ | refine Z13 (Z25 rfl rfl) ?_ | refine Z13 (Z26 rfl rfl) ?_) | (refine Z27 ?_; refine Z13 (Z28 rfl (Z53 ⟨by omega, by omega⟩)) ?_) | (refine Z29 ?_; refine Z13 (Z30 rfl (by rfl) (by simp only [Z84, List.set_cons_zero, List.set_cons_succ]; rfl)) ?_) | refine Z31 ?_) | (refine Z32 ?_; first | refine Z33 ?_ | refine Z34 ?_ | refine Z35 ?_ | refine Z36 ?_ | refine Z37 ?_ | refine Z38 rfl ?_ | refine Z39 ?_ | refine Z40 ?_ | refine Z41 ?_) | (refine Z42 ?_; first | refine Z43 ?_ | refine Z44 ?_ | refine Z45 ?_ | refine Z46 ?_ | refine Z47 ?_ | refine Z48 ?_ | refine Z49 rfl (by decide) ?_ | refine Z50 rfl (by decide) ?_))
      refine Z83 (j := i) rfl rfl rfl (by omega) ?_
      repeat (first | (refine Z0 ?_; first | refine Z1 rfl ?_ | (refine Z2 ?_; first | refine Z3 rfl rfl (by decide) ?_ | refine Z4 rfl rfl (by decide) ?_ | refine Z5 rfl rfl ?_) | (refine Z6 ?_; first | refine Z7 rfl rfl ?_ | refine Z8 rfl rfl ?_) | (refine Z9 ?_; first | refine Z10 rfl (by assumption) (by rfl) ?_ | refine Z11 rfl (by assumption) ?_) | (refine Z12 ?_; first | refine Z13 (Z14 rfl (by decide) rfl) ?_ | refine Z13 (Z15 rfl (by decide) rfl) ?_) | (refine Z16 ?_; first | refine Z17 rfl ?_ | refine Z18 rfl ?_) | (refine Z19 ?_; first | refine Z20 rfl rfl (by omega) ?_ | refine Z21 rfl rfl (by omega) ?_ | refine Z22 rfl rfl (by omega) ?_ | refine Z23 rfl rfl (by omega) (by omega) ?_ | refine Z24 rfl rfl (by omega) (by omega) (by omega) ?_ | refine Z13 (Z25 rfl rfl) ?_ | refine Z13 (Z26 rfl rfl) ?_) | (refine Z27 ?_; refine Z13 (Z28 rfl (Z53 ⟨by omega, by omega⟩)) ?_) | (refine Z29 ?_; refine Z13 (Z30 rfl (by rfl) (by simp only [Z84, List.set_cons_zero, List.set_cons_succ]; rfl)) ?_) | refine Z31 ?_) | (refine Z32 ?_; first | refine Z33 ?_ | refine Z34 ?_ | refine Z35 ?_ | refine Z36 ?_ | refine Z37 ?_ | refine Z38 rfl ?_ | refine Z39 ?_ | refine Z40 ?_ | refine Z41 ?_) | (refine Z42 ?_; first | refine Z43 ?_ | refine Z44 ?_ | refine Z45 ?_ | refine Z46 ?_ | refine Z47 ?_ | refine Z48 ?_ | refine Z49 rfl (by decide) ?_ | refine Z50 rfl (by decide) ?_))
      by_cases h10 : op = 10
      · repeat' (first | (refine Z0 ?_; first | refine Z1 rfl ?_ | (refine Z2 ?_; first | refine Z3 rfl rfl (by decide) ?_ | refine Z4 rfl rfl (by decide) ?_ | refine Z5 rfl rfl ?_ | ((refine Z51 rfl rfl (fun c' hc' => ?_)); cases c' <;> (try simp only [decide_eq_true_eq, decide_eq_false_iff_not, beq_iff_eq, beq_eq_false_iff_ne, bne_iff_ne, bne_eq_false_iff_eq, ne_eq, gt_iff_lt, ge_iff_le, Int.not_lt, Int.not_le, Bool.not_eq_true', Bool.not_eq_false', Bool.not_true, Bool.not_false, reduceCtorEq, Decidable.not_not, not_true_eq_false, Bool.true_eq_false, Bool.false_eq_true] at hc') <;> (try (exfalso; omega)))) | (refine Z6 ?_; first | refine Z7 rfl rfl ?_ | refine Z8 rfl rfl ?_) | (refine Z9 ?_; first | refine Z10 rfl (by assumption) (by rfl) ?_ | refine Z11 rfl (by assumption) ?_) | (refine Z12 ?_; first | refine Z13 (Z14 rfl (by decide) rfl) ?_ | refine Z13 (Z15 rfl (by decide) rfl) ?_) | (refine Z16 ?_; first | refine Z17 rfl ?_ | refine Z18 rfl ?_) | (refine Z19 ?_; first | refine Z20 rfl rfl (by omega) ?_ | refine Z21 rfl rfl (by omega) ?_ | refine Z22 rfl rfl (by omega) ?_ | refine Z23 rfl rfl (by omega) (by omega) ?_ | refine Z24 rfl rfl (by omega) (by omega) (by omega) ?_ | refine Z13 (Z25 rfl rfl) ?_ | refine Z13 (Z26 rfl rfl) ?_) | (refine Z27 ?_; refine Z13 (Z28 rfl (Z53 ⟨by omega, by omega⟩)) ?_) | (refine Z29 ?_; refine Z13 (Z30 rfl (by rfl) (by simp only [Z84, List.set_cons_zero, List.set_cons_succ]; rfl)) ?_) | refine Z31 ?_) | (refine Z32 ?_; first | refine Z33 ?_ | refine Z34 ?_ | refine Z35 ?_ | refine Z36 ?_ | refine Z37 ?_ | refine Z38 rfl ?_ | refine Z39 ?_ | refine Z40 ?_ | refine Z41 ?_) | (refine Z42 ?_; first | refine Z43 ?_ | refine Z44 ?_ | refine Z45 ?_ | refine Z46 ?_ | refine Z47 ?_ | refine Z48 ?_ | refine Z49 rfl (by decide) ?_ | refine Z50 rfl (by decide) ?_ | ((refine Z52 rfl (fun hc' => ?_) (fun hc' => ?_)) <;> (try simp only [decide_eq_true_eq, decide_eq_false_iff_not, beq_iff_eq, beq_eq_false_iff_ne, bne_iff_ne, bne_eq_false_iff_eq, ne_eq, gt_iff_lt, ge_iff_le, Int.not_lt, Int.not_le, Bool.not_eq_true', Bool.not_eq_false', Bool.not_true, Bool.not_false, reduceCtorEq, Decidable.not_not, not_true_eq_false, Bool.true_eq_false, Bool.false_eq_true] at hc') <;> (try (exfalso; omega)))))
        refine WO_loadSB rfl hs rfl ?_
        refine WO_call rfl (own_ret tv _ tl l F F2 w4 (ht.ext e0) (StS.ext hb e0) hn hn2) ?_
        rintro _ w5 ⟨⟨tv', bv', rfl, Ft5, Fb5, h51, h52, h53, h54⟩, e5⟩
        have on1 := h51.one
        have on2 := h52.one
        replace hs := hs.ext e5
        replace hr := hr.ext e5
        replace e0 := e0.trans e5
        have s5 := e5.size_le
        repeat (first | (refine Z0 ?_; first | refine Z1 rfl ?_ | (refine Z2 ?_; first | refine Z3 rfl rfl (by decide) ?_ | refine Z4 rfl rfl (by decide) ?_ | refine Z5 rfl rfl ?_) | (refine Z6 ?_; first | refine Z7 rfl rfl ?_ | refine Z8 rfl rfl ?_) | (refine Z9 ?_; first | refine Z10 rfl (by assumption) (by rfl) ?_ | refine Z11 rfl (by assumption) ?_) | (refine Z12 ?_; first | refine Z13 (Z14 rfl (by decide) rfl) ?_ | refine Z13 (Z15 rfl (by decide) rfl) ?_) | (refine Z16 ?_; first | refine Z17 rfl ?_ | refine Z18 rfl ?_) | (refine Z19 ?_; first | refine Z20 rfl rfl (by omega) ?_ | refine Z21 rfl rfl (by omega) ?_ | refine Z22 rfl rfl (by omega) ?_ | refine Z23 rfl rfl (by omega) (by omega) ?_ | refine Z24 rfl rfl (by omega) (by omega) (by omega) ?_ | refine Z13 (Z25 rfl rfl) ?_ | refine Z13 (Z26 rfl rfl) ?_) | (refine Z27 ?_; refine Z13 (Z28 rfl (Z53 ⟨by omega, by omega⟩)) ?_) | (refine Z29 ?_; refine Z13 (Z30 rfl (by rfl) (by simp only [Z84, List.set_cons_zero, List.set_cons_succ]; rfl)) ?_) | refine Z31 ?_) | (refine Z32 ?_; first | refine Z33 ?_ | refine Z34 ?_ | refine Z35 ?_ | refine Z36 ?_ | refine Z37 ?_ | refine Z38 rfl ?_ | refine Z39 ?_ | refine Z40 ?_ | refine Z41 ?_) | (refine Z42 ?_; first | refine Z43 ?_ | refine Z44 ?_ | refine Z45 ?_ | refine Z46 ?_ | refine Z47 ?_ | refine Z48 ?_ | refine Z49 rfl (by decide) ?_ | refine Z50 rfl (by decide) ?_))
        refine WO_alloc fun w6 ho e6 z6 => ?_
        refine WO_storeS (k := 2) (vs := [tv', bv']) rfl rfl rfl (by simp; exact ⟨on1, on2⟩) ho (by decide) fun w7 ho7 o7 => ?_
        replace ho7 : Blk w7 w5.heap.size [tv', bv'] _ := ho7
        have e7 : Ext w5 w7 := e6.only o7 (Nat.le_refl _)
        replace hr := hr.ext e7
        replace h51 := h51.ext e7
        replace h52 := h52.ext e7
        replace e0 := e0.trans e7
        have s7 := ho7.lt
        rw [q1] at h52
        obtain ⟨g, cap, cs, vt2, ve2, G1, Gt, Ge, G2, rfl, rfl, k1, k2, kin, kT, kE, k3⟩ := h52.put
        rw [q2] at k2 kin
        have hlen2 : i < ((l.take i).app (.cons op x y n t e r)).len := by rw [← q1]; omega
        have hgB := h54 g (by simp)
        have on3 := kT.one
        have on4 := kE.one
        repeat (first | (refine Z0 ?_; first | refine Z1 rfl ?_ | (refine Z2 ?_; first | refine Z3 rfl rfl (by decide) ?_ | refine Z4 rfl rfl (by decide) ?_ | refine Z5 rfl rfl ?_) | (refine Z6 ?_; first | refine Z7 rfl rfl ?_ | refine Z8 rfl rfl ?_) | (refine Z9 ?_; first | refine Z10 rfl (by assumption) (by rfl) ?_ | refine Z11 rfl (by assumption) ?_) | (refine Z12 ?_; first | refine Z13 (Z14 rfl (by decide) rfl) ?_ | refine Z13 (Z15 rfl (by decide) rfl) ?_) | (refine Z16 ?_; first | refine Z17 rfl ?_ | refine Z18 rfl ?_) | (refine Z19 ?_; first | refine Z20 rfl rfl (by omega) ?_ | refine Z21 rfl rfl (by omega) ?_ | refine Z22 rfl rfl (by omega) ?_ | refine Z23 rfl rfl (by omega) (by omega) ?_ | refine Z24 rfl rfl (by omega) (by omega) (by omega) ?_ | refine Z13 (Z25 rfl rfl) ?_ | refine Z13 (Z26 rfl rfl) ?_) | (refine Z27 ?_; refine Z13 (Z28 rfl (Z53 ⟨by omega, by omega⟩)) ?_) | (refine Z29 ?_; refine Z13 (Z30 rfl (by rfl) (by simp only [Z84, List.set_cons_zero, List.set_cons_succ]; rfl)) ?_) | refine Z31 ?_) | (refine Z32 ?_; first | refine Z33 ?_ | refine Z34 ?_ | refine Z35 ?_ | refine Z36 ?_ | refine Z37 ?_ | refine Z38 rfl ?_ | refine Z39 ?_ | refine Z40 ?_ | refine Z41 ?_) | (refine Z42 ?_; first | refine Z43 ?_ | refine Z44 ?_ | refine Z45 ?_ | refine Z46 ?_ | refine Z47 ?_ | refine Z48 ?_ | refine Z49 rfl (by decide) ?_ | refine Z50 rfl (by decide) ?_))
        refine Z83 (j := i) rfl rfl rfl hlen2 ?_
        refine WO_loadS (cs := [.int .i64 op, .int .i64 x, .int .i64 y, .int .i64 n, vt2, ve2]) rfl rfl (fun j u hu => by rw [Nat.zero_add]; exact k1.cell (kin j u hu)) ?_
        refine WO_alloc fun w8 ha e8 z8 => ?_
        refine WO_storeS (k := 6) (vs := [.int .i64 op, .int .i64 x, .int .i64 y, .int .i64 n, vt2, ve2]) rfl rfl rfl (by intro v hv; simp at hv; rcases hv with rfl | rfl | rfl | rfl | rfl | rfl <;> first | rfl | assumption) ha (by decide) fun w9 ha9 o9 => ?_
        replace ha9 : Blk w9 w7.heap.size [.int .i64 op, .int .i64 x, .int .i64 y, .int .i64 n, vt2, ve2] _ := ha9
        have e9 : Ext w7 w9 := e8.only o9 (Nat.le_refl _)
        replace hr := hr.ext e9
        replace h51 := h51.ext e9
        replace ho7 := ho7.ext e9
        replace k1 := k1.ext e9
        replace kT := kT.ext e9
        replace kE := kE.ext e9
        replace e0 := e0.trans e9
        have s9 := ha9.lt
        have hgl := k1.lt
        have hltT := kT.lt
        have hltE := kE.lt
        have hlt9 := h51.lt
        have hndTE : (Gt ++ Ge).Nodup := by
          have := (List.nodup_append.1 h53).2.1
          simp only [List.nodup_cons, List.nodup_append, List.mem_append] at this ⊢
          exact ⟨this.2.2.1.1, this.2.2.1.2.1.1, fun a ha b hb => this.2.2.1.2.2 a ha b (.inl hb)⟩
        have hgTE : g ∉ Gt ++ Ge := by
          have := (List.nodup_append.1 h53).2.1
          simp only [List.nodup_cons, List.mem_append, not_or] at this ⊢
          exact ⟨this.1.2.1, this.1.2.2.1⟩
        have hltF : ∀ z ∈ g :: (G1 ++ (Gt ++ (Ge ++ G2))), z < w9.heap.size := fun z hz => by have := h52.lt z hz; omega
        have hltG1 : ∀ z ∈ G1, z < w9.heap.size := fun z hz => hltF z (by simp [hz])
        have hltG2 : ∀ z ∈ G2, z < w9.heap.size := fun z hz => hltF z (by simp [hz])
        repeat (first | (refine Z0 ?_; first | refine Z1 rfl ?_ | (refine Z2 ?_; first | refine Z3 rfl rfl (by decide) ?_ | refine Z4 rfl rfl (by decide) ?_ | refine Z5 rfl rfl ?_) | (refine Z6 ?_; first | refine Z7 rfl rfl ?_ | refine Z8 rfl rfl ?_) | (refine Z9 ?_; first | refine Z10 rfl (by assumption) (by rfl) ?_ | refine Z11 rfl (by assumption) ?_) | (refine Z12 ?_; first | refine Z13 (Z14 rfl (by decide) rfl) ?_ | refine Z13 (Z15 rfl (by decide) rfl) ?_) | (refine Z16 ?_; first | refine Z17 rfl ?_ | refine Z18 rfl ?_) | (refine Z19 ?_; first | refine Z20 rfl rfl (by omega) ?_ | refine Z21 rfl rfl (by omega) ?_ | refine Z22 rfl rfl (by omega) ?_ | refine Z23 rfl rfl (by omega) (by omega) ?_ | refine Z24 rfl rfl (by omega) (by omega) (by omega) ?_ | refine Z13 (Z25 rfl rfl) ?_ | refine Z13 (Z26 rfl rfl) ?_) | (refine Z27 ?_; refine Z13 (Z28 rfl (Z53 ⟨by omega, by omega⟩)) ?_) | (refine Z29 ?_; refine Z13 (Z30 rfl (by rfl) (by simp only [Z84, List.set_cons_zero, List.set_cons_succ]; rfl)) ?_) | refine Z31 ?_) | (refine Z32 ?_; first | refine Z33 ?_ | refine Z34 ?_ | refine Z35 ?_ | refine Z36 ?_ | refine Z37 ?_ | refine Z38 rfl ?_ | refine Z39 ?_ | refine Z40 ?_ | refine Z41 ?_) | (refine Z42 ?_; first | refine Z43 ?_ | refine Z44 ?_ | refine Z45 ?_ | refine Z46 ?_ | refine Z47 ?_ | refine Z48 ?_ | refine Z49 rfl (by decide) ?_ | refine Z50 rfl (by decide) ?_))
        refine W_held0 [g] [(4, .pointer (some ⟨w1.heap.size, 0, none⟩)), (6, .pointer (some ⟨w5.heap.size, 0, none⟩))] (UnrIn 29 g i cs (t.snoc op x y n t e) (Gt ++ Ge) w9) (by kernel_rfl) (fun ws es hS => ?_) (fun w10 hR => ?_)
        · have hss := es.size_le
          replace ho7 := ho7.ext es
          replace ha9 := ha9.ext es
          replace k1 := k1.ext es
          first | refine Z82 0 rfl (by kernel_rfl) (by kernel_rfl) (by kernel_rfl) (by assumption) (fun w' hw' => Z56 rfl) ?_ | refine Z82 0 rfl (by kernel_rfl) (by kernel_rfl) (by kernel_rfl) (by assumption) (fun w' hw' => Z63 rfl rfl) ?_ | refine Z82 0 rfl (by kernel_rfl) (by kernel_rfl) (by kernel_rfl) (by assumption) (fun w' hw' => Z64 rfl rfl) ?_ | refine Z82 0 rfl (by kernel_rfl) (by kernel_rfl) (by kernel_rfl) (by assumption) (fun w' hw' => Z75 rfl rfl (by omega)) ?_ | refine Z82 0 rfl (by kernel_rfl) (by kernel_rfl) (by kernel_rfl) (by assumption) (fun w' hw' => Z72 rfl) ?_ | refine Z82 0 rfl (by kernel_rfl) (by kernel_rfl) (by kernel_rfl) (by assumption) (fun w' hw' => Z69 rfl rfl rfl (by omega)) ?_ | refine Z82 0 rfl (by kernel_rfl) (by kernel_rfl) (by kernel_rfl) (by assumption) (fun w' hw' => Z30 rfl (by rfl) (by simp only [Z84, List.set_cons_zero, List.set_cons_succ]; rfl)) ?_
          refine Z82 1 rfl (by kernel_rfl) (by kernel_rfl) (by kernel_rfl) (by assumption) (fun w' hw' => Z66 rfl (ho7.chg hw' (by simp; omega)) rfl) ?_
          first | refine Z82 2 rfl (by kernel_rfl) (by kernel_rfl) (by kernel_rfl) (by assumption) (fun w' hw' => Z56 rfl) ?_ | refine Z82 2 rfl (by kernel_rfl) (by kernel_rfl) (by kernel_rfl) (by assumption) (fun w' hw' => Z63 rfl rfl) ?_ | refine Z82 2 rfl (by kernel_rfl) (by kernel_rfl) (by kernel_rfl) (by assumption) (fun w' hw' => Z64 rfl rfl) ?_ | refine Z82 2 rfl (by kernel_rfl) (by kernel_rfl) (by kernel_rfl) (by assumption) (fun w' hw' => Z75 rfl rfl (by omega)) ?_ | refine Z82 2 rfl (by kernel_rfl) (by kernel_rfl) (by kernel_rfl) (by assumption) (fun w' hw' => Z72 rfl) ?_ | refine Z82 2 rfl (by kernel_rfl) (by kernel_rfl) (by kernel_rfl) (by assumption) (fun w' hw' => Z69 rfl rfl rfl (by omega)) ?_ | refine Z82 2 rfl (by kernel_rfl) (by kernel_rfl) (by kernel_rfl) (by assumption) (fun w' hw' => Z30 rfl (by rfl) (by simp only [Z84, List.set_cons_zero, List.set_cons_succ]; rfl)) ?_
          first | refine Z82 3 rfl (by kernel_rfl) (by kernel_rfl) (by kernel_rfl) (by assumption) (fun w' hw' => Z56 rfl) ?_ | refine Z82 3 rfl (by kernel_rfl) (by kernel_rfl) (by kernel_rfl) (by assumption) (fun w' hw' => Z63 rfl rfl) ?_ | refine Z82 3 rfl (by kernel_rfl) (by kernel_rfl) (by kernel_rfl) (by assumption) (fun w' hw' => Z64 rfl rfl) ?_ | refine Z82 3 rfl (by kernel_rfl) (by kernel_rfl) (by kernel_rfl) (by assumption) (fun w' hw' => Z75 rfl rfl (by omega)) ?_ | refine Z82 3 rfl (by kernel_rfl) (by kernel_rfl) (by kernel_rfl) (by assumption) (fun w' hw' => Z72 rfl) ?_ | refine Z82 3 rfl (by kernel_rfl) (by kernel_rfl) (by kernel_rfl) (by assumption) (fun w' hw' => Z69 rfl rfl rfl (by omega)) ?_ | refine Z82 3 rfl (by kernel_rfl) (by kernel_rfl) (by kernel_rfl) (by assumption) (fun w' hw' => Z30 rfl (by rfl) (by simp only [Z84, List.set_cons_zero, List.set_cons_succ]; rfl)) ?_
          refine Z82 4 rfl (by kernel_rfl) (by kernel_rfl) (by kernel_rfl) (by assumption) (fun w' hw' => Z66 rfl (ha9.chg hw' (by simp; omega)) rfl) ?_
          refine Z82 6 rfl (by kernel_rfl) (by kernel_rfl) (by kernel_rfl) (by assumption) (fun w' hw' => q_loadS (cs := [.int .i64 op, .int .i64 x, .int .i64 y, .int .i64 n, vt2, ve2]) rfl rfl (blk_cells (ha9.chg hw' (by simp; omega)))) ?_
          refine WH_two 5 7 rfl rfl (by kernel_rfl) ?_ ?_
          · refine WO_call rfl (ownStmts_all t vt2 Gt ws (kT.ext es).sts (by omega)) ?_
            rintro vt' wa hn5
            have ea := hn5.2
            refine Z31 (at_held (ea.chg _) ?_)
            refine WH_one 7 rfl (by kernel_rfl) (WO_build (e := 29) (k := 6) [.tmp 40] (vs := [stV op x y n vt2 ve2]) (cs := [.int .i64 op, .int .i64 x, .int .i64 y, .int .i64 n, vt2, ve2]) rfl rfl rfl rfl rfl (by simp [stV, Value.cells]) (by simp [stV, Value.cells]) fun wb hb7 eb zb => Z31 (at_held ((ea.trans eb).chg _) ?_))
            obtain ⟨⟨xs, Fs, r1, r2, r3, r4⟩, ey⟩ := NewS.grow (NewS.ext (NewS.mono hn5 (Ext.refl ws)) (eb))
            have kTy := kT.ext (es.trans ey)
            have kEy := kE.ext (es.trans ey)
            refine WH_one 8 rfl (by kernel_rfl) (WO_append (B := ws.heap.size) (mm := 1) (news := [.int .i64 op, .int .i64 x, .int .i64 y, .int .i64 n, vt2, ve2]) rfl r1 rfl rfl (blk_cells (hb7)) (by intro v hv; simp at hv; rcases hv with rfl | rfl | rfl | rfl | rfl | rfl <;> first | rfl | assumption) ey.size_le (by decide) (by omega) (by decide) fun v3 wd k31 k32 k33 => Z31 (at_held ((ext_grown ey k32 fun b hb => r4 b (by simp [hb])).chg _) ?_))
            have ed := ext_grown ey k32 fun b hb => r4 b (by simp [hb])
            have hdd : ∀ z ∈ Fs ++ (Gt ++ Ge), z ∉ (Value.ownBlock vt').toList := fun z hz hm => by
              rcases List.mem_append.1 hz with hz | hz
              · exact (List.nodup_append.1 r3).2.2 z hm z hz rfl
              · have := r4 z (by simp at hm; simp [hm])
                rcases List.mem_append.1 hz with hz | hz
                · have := hltT z hz; omega
                · have := hltE z hz; omega
            have hrow3 := row_app r2 (stk_one (op := op) (x := x) (y := y) (n := n) kTy kEy) (grown_chg k32) hdd k31
            have on5 := hrow3.one
            have hSd : Chg [g] ws wd := ed.chg _
            have hlt2 := StkS.lt _ _ _ r2
            have sy := ey.size_le
            have hnd3 : (v3.ownBlock.toList ++ (Fs ++ (Gt ++ Ge))).Nodup := by
              refine List.nodup_append.2 ⟨nodup_own _, List.nodup_append.2 ⟨(List.nodup_append.1 r3).2.1, hndTE, fun a ha b hb e => ?_⟩, fun a ha b hb e => ?_⟩
              · have h1 := r4 a (by simp [ha])
                subst e
                rcases List.mem_append.1 hb with hb | hb
                · have := hltT _ hb; omega
                · have := hltE _ hb; omega
              · subst e
                rcases k33 with k33 | k33
                · rw [k33] at ha; exact hdd _ hb ha
                · rw [k33] at ha
                  simp at ha
                  rcases List.mem_append.1 hb with hb | hb
                  · have := hlt2 _ hb; omega
                  · rcases List.mem_append.1 hb with hb | hb
                    · have := hltT _ hb; omega
                    · have := hltE _ hb; omega
            have hbd3 : ∀ b ∈ v3.ownBlock.toList ++ (Fs ++ (Gt ++ Ge)), b ∈ Gt ++ Ge ∨ w9.heap.size ≤ b := fun b hb => by
              rcases List.mem_append.1 hb with hb | hb
              · rcases k33 with k33 | k33
                · rw [k33] at hb; have := r4 b (by simp at hb; simp [hb]); exact .inr (by omega)
                · rw [k33] at hb; simp at hb; exact .inr (by omega)
              · rcases List.mem_append.1 hb with hb | hb
                · have := r4 b (by simp [hb]); exact .inr (by omega)
                · exact .inl hb
            refine Z82 9 rfl (by kernel_rfl) (by kernel_rfl) (by kernel_rfl) (by assumption) (fun w' hw' => Z30 (cs := [.int .i64 9, .int .i64 0, .int .i64 0, .int .i64 0, v3, .slice none 0 0]) rfl (by simp [partsOk, on5]; rfl) rfl) ?_
            refine Z82 10 rfl (by kernel_rfl) (by kernel_rfl) (by kernel_rfl) (by assumption) (fun w' hw' => Z69 (j := i) rfl rfl rfl hlen2) ?_
            refine WH_one 11 rfl (by kernel_rfl) (WO_storeS (k := 6) (vs := [.int .i64 9, .int .i64 0, .int .i64 0, .int .i64 0, v3, .slice none 0 0]) rfl rfl rfl (by intro v hv; simp at hv; rcases hv with rfl | rfl | rfl | rfl <;> first | rfl | exact on5) (k1.ext ed) (by omega) fun we hbe oe => Z31 (at_held (hSd.trans oe.chg) ?_))
            exact WH_done (by kernel_rfl) (by repeat (first | exact True.intro | refine And.intro rfl ?_)) ⟨v3, _, hbe, hrow3.chg oe.chg (fun z hz hm => by
              simp at hm
              subst hm
              rcases hbd3 _ hz with h | h
              · exact hgTE h
              · omega), hnd3, hbd3, (es.chg _).trans (hSd.trans oe.chg)⟩
          · refine WO_build (e := 29) (k := 6) [.tmp 40] (vs := [stV op x y n vt2 ve2]) (cs := [.int .i64 op, .int .i64 x, .int .i64 y, .int .i64 n, vt2, ve2]) rfl rfl rfl rfl rfl (by simp [stV, Value.cells]) (by simp [stV, Value.cells]) fun wb hb7 eb zb => Z31 (at_held (eb.chg _) ?_)
            refine WH_one 5 rfl (by kernel_rfl) (WO_call rfl (ownStmts_all t vt2 Gt wb ((kT.ext es).ext eb).sts (by omega)) ?_)
            rintro vt' wa hn5
            have ea := hn5.2
            refine Z31 (at_held ((eb.trans ea).chg _) ?_)
            obtain ⟨⟨xs, Fs, r1, r2, r3, r4⟩, ey⟩ := NewS.grow (NewS.ext (NewS.mono hn5 (eb)) (Ext.refl wa))
            have kTy := kT.ext (es.trans ey)
            have kEy := kE.ext (es.trans ey)
            refine WH_one 8 rfl (by kernel_rfl) (WO_append (B := ws.heap.size) (mm := 1) (news := [.int .i64 op, .int .i64 x, .int .i64 y, .int .i64 n, vt2, ve2]) rfl r1 rfl rfl (blk_cells (Blk.ext hb7 ea)) (by intro v hv; simp at hv; rcases hv with rfl | rfl | rfl | rfl | rfl | rfl <;> first | rfl | assumption) ey.size_le (by decide) (by omega) (by decide) fun v3 wd k31 k32 k33 => Z31 (at_held ((ext_grown ey k32 fun b hb => r4 b (by simp [hb])).chg _) ?_))
            have ed := ext_grown ey k32 fun b hb => r4 b (by simp [hb])
            have hdd : ∀ z ∈ Fs ++ (Gt ++ Ge), z ∉ (Value.ownBlock vt').toList := fun z hz hm => by
              rcases List.mem_append.1 hz with hz | hz
              · exact (List.nodup_append.1 r3).2.2 z hm z hz rfl
              · have := r4 z (by simp at hm; simp [hm])
                rcases List.mem_append.1 hz with hz | hz
                · have := hltT z hz; omega
                · have := hltE z hz; omega
            have hrow3 := row_app r2 (stk_one (op := op) (x := x) (y := y) (n := n) kTy kEy) (grown_chg k32) hdd k31
            have on5 := hrow3.one
            have hSd : Chg [g] ws wd := ed.chg _
            have hlt2 := StkS.lt _ _ _ r2
            have sy := ey.size_le
            have hnd3 : (v3.ownBlock.toList ++ (Fs ++ (Gt ++ Ge))).Nodup := by
              refine List.nodup_append.2 ⟨nodup_own _, List.nodup_append.2 ⟨(List.nodup_append.1 r3).2.1, hndTE, fun a ha b hb e => ?_⟩, fun a ha b hb e => ?_⟩
              · have h1 := r4 a (by simp [ha])
                subst e
                rcases List.mem_append.1 hb with hb | hb
                · have := hltT _ hb; omega
                · have := hltE _ hb; omega
              · subst e
                rcases k33 with k33 | k33
                · rw [k33] at ha; exact hdd _ hb ha
                · rw [k33] at ha
                  simp at ha
                  rcases List.mem_append.1 hb with hb | hb
                  · have := hlt2 _ hb; omega
                  · rcases List.mem_append.1 hb with hb | hb
                    · have := hltT _ hb; omega
                    · have := hltE _ hb; omega
            have hbd3 : ∀ b ∈ v3.ownBlock.toList ++ (Fs ++ (Gt ++ Ge)), b ∈ Gt ++ Ge ∨ w9.heap.size ≤ b := fun b hb => by
              rcases List.mem_append.1 hb with hb | hb
              · rcases k33 with k33 | k33
                · rw [k33] at hb; have := r4 b (by simp at hb; simp [hb]); exact .inr (by omega)
                · rw [k33] at hb; simp at hb; exact .inr (by omega)
              · rcases List.mem_append.1 hb with hb | hb
                · have := r4 b (by simp [hb]); exact .inr (by omega)
                · exact .inl hb
            refine Z82 9 rfl (by kernel_rfl) (by kernel_rfl) (by kernel_rfl) (by assumption) (fun w' hw' => Z30 (cs := [.int .i64 9, .int .i64 0, .int .i64 0, .int .i64 0, v3, .slice none 0 0]) rfl (by simp [partsOk, on5]; rfl) rfl) ?_
            refine Z82 10 rfl (by kernel_rfl) (by kernel_rfl) (by kernel_rfl) (by assumption) (fun w' hw' => Z69 (j := i) rfl rfl rfl hlen2) ?_
            refine WH_one 11 rfl (by kernel_rfl) (WO_storeS (k := 6) (vs := [.int .i64 9, .int .i64 0, .int .i64 0, .int .i64 0, v3, .slice none 0 0]) rfl rfl rfl (by intro v hv; simp at hv; rcases hv with rfl | rfl | rfl | rfl <;> first | rfl | exact on5) (k1.ext ed) (by omega) fun we hbe oe => Z31 (at_held (hSd.trans oe.chg) ?_))
            exact WH_done (by kernel_rfl) (by repeat (first | exact True.intro | refine And.intro rfl ?_)) ⟨v3, _, hbe, hrow3.chg oe.chg (fun z hz hm => by
              simp at hm
              subst hm
              rcases hbd3 _ hz with h | h
              · exact hgTE h
              · omega), hnd3, hbd3, (es.chg _).trans (hSd.trans oe.chg)⟩
        · obtain ⟨v3, F3, hb10, hr3, n3, b3', c10⟩ := hR
          have hgn : g ∉ G1 ++ G2 := by
            have := (List.nodup_append.1 h53).2.1
            simp only [List.nodup_cons, List.mem_append, not_or] at this
            simp only [List.mem_append, not_or]
            exact ⟨this.1.1, this.1.2.2.2⟩
          have hnew := k3 w10 9 0 0 0 (t.snoc op x y n t e) .nil v3 (.slice none 0 0) F3 [] (by rw [q2]; exact hb10) hr3 (RowS.nil_ _ _) ((e9.chg _).trans c10) hgn
          replace hr := hr.chg c10 (by simp; omega)
          replace ho7 := ho7.chg c10 (by simp; omega)
          replace h51 := h51.chg c10 (fun z hz hm => by simp at hm; subst hm; exact (List.nodup_append.1 h53).2.2 z hz z (by simp) rfl)
          have e10 : Ext w w10 := c10.ext_of e0 (by simp; omega)
          have s10 := c10.size
          have hlt5 := h51.lt
          have heq : (l.take i).app (.cons 9 0 0 0 (t.snoc op x y n t e) .nil r) = (l.take i).app (.cons 9 0 0 0 (t.snoc op x y n t e) .nil r) := rfl
          have hnd : (Ft5 ++ g :: (G1 ++ (F3 ++ ([] ++ G2)))).Nodup := by
            have hq := h53
            simp only [List.nil_append, List.nodup_append, List.nodup_cons, List.mem_append, List.mem_cons, not_or] at hq ⊢
            obtain ⟨a1, ⟨⟨a2, a3, a4, a5⟩, b1, ⟨b2, ⟨b3, b4, b5⟩, b6⟩, b7⟩, a6⟩ := hq
            have fresh : ∀ z, z < w9.heap.size → z ∉ Gt → z ∉ Ge → z ∉ F3 := fun z h1 h2 h3 hm => by
              rcases b3' z hm with h | h
              · rcases List.mem_append.1 h with h | h
                · exact h2 h
                · exact h3 h
              · omega
            have l5 : ∀ z ∈ Ft5, z < w9.heap.size := hlt9
            refine ⟨a1, ⟨⟨a2, fresh g hgl a3 a4, a5⟩, b1, ⟨n3, b4, fun a ha b hb e => ?_⟩, fun a ha b hb e => ?_⟩, fun a ha b hb e => ?_⟩
            · subst e; exact fresh _ (hltG2 _ hb) (fun h => b6 _ h _ (.inr hb) rfl) (fun h => b5 _ h _ hb rfl) ha
            · subst e
              rcases hb with hb | hb
              · exact fresh _ (hltG1 _ ha) (fun h => b7 _ ha _ (.inl h) rfl) (fun h => b7 _ ha _ (.inr (.inl h)) rfl) hb
              · exact b7 _ ha _ (.inr (.inr hb)) rfl
            · subst e
              rcases hb with hb | hb | hb | hb
              · exact a6 _ ha _ (.inl hb) rfl
              · exact a6 _ ha _ (.inr (.inl hb)) rfl
              · exact fresh _ (l5 _ ha) (fun h => a6 _ ha _ (.inr (.inr (.inl h))) rfl) (fun h => a6 _ ha _ (.inr (.inr (.inr (.inl h)))) rfl) hb
              · exact a6 _ ha _ (.inr (.inr (.inr (.inr hb)))) rfl
          have hmem : ∀ z ∈ Ft5 ++ g :: (G1 ++ (F3 ++ ([] ++ G2))), w1.heap.size < z := fun z hz => by
            simp only [List.nil_append, List.mem_append, List.mem_cons] at hz
            have hold : ∀ z, z ∈ Ft5 ++ g :: (G1 ++ (Gt ++ (Ge ++ G2))) → w1.heap.size < z := fun z hz => by have := (h54 z hz).1; omega
            rcases hz with hz | hz | hz | hz | hz
            · exact hold z (by simp [hz])
            · exact hold z (by simp [hz])
            · exact hold z (by simp [hz])
            · rcases b3' z hz with h | h
              · exact hold z (by simp at h; rcases h with h | h <;> simp [h])
              · omega
            · exact hold z (by simp [hz])
          repeat (first | (refine Z0 ?_; first | refine Z1 rfl ?_ | (refine Z2 ?_; first | refine Z3 rfl rfl (by decide) ?_ | refine Z4 rfl rfl (by decide) ?_ | refine Z5 rfl rfl ?_) | (refine Z6 ?_; first | refine Z7 rfl rfl ?_ | refine Z8 rfl rfl ?_) | (refine Z9 ?_; first | refine Z10 rfl (by assumption) (by rfl) ?_ | refine Z11 rfl (by assumption) ?_) | (refine Z12 ?_; first | refine Z13 (Z14 rfl (by decide) rfl) ?_ | refine Z13 (Z15 rfl (by decide) rfl) ?_) | (refine Z16 ?_; first | refine Z17 rfl ?_ | refine Z18 rfl ?_) | (refine Z19 ?_; first | refine Z20 rfl rfl (by omega) ?_ | refine Z21 rfl rfl (by omega) ?_ | refine Z22 rfl rfl (by omega) ?_ | refine Z23 rfl rfl (by omega) (by omega) ?_ | refine Z24 rfl rfl (by omega) (by omega) (by omega) ?_ | refine Z13 (Z25 rfl rfl) ?_ | refine Z13 (Z26 rfl rfl) ?_) | (refine Z27 ?_; refine Z13 (Z28 rfl (Z53 ⟨by omega, by omega⟩)) ?_) | (refine Z29 ?_; refine Z13 (Z30 rfl (by rfl) (by simp only [Z84, List.set_cons_zero, List.set_cons_succ]; rfl)) ?_) | refine Z31 ?_) | (refine Z32 ?_; first | refine Z33 ?_ | refine Z34 ?_ | refine Z35 ?_ | refine Z36 ?_ | refine Z37 ?_ | refine Z38 rfl ?_ | refine Z39 ?_ | refine Z40 ?_ | refine Z41 ?_) | (refine Z42 ?_; first | refine Z43 ?_ | refine Z44 ?_ | refine Z45 ?_ | refine Z46 ?_ | refine Z47 ?_ | refine Z48 ?_ | refine Z49 rfl (by decide) ?_ | refine Z50 rfl (by decide) ?_))
          refine WO_loadSB rfl ho7 rfl ?_
          refine WO_call rfl (ProgramValid_ret tv' _ tl _ _ _ w10 h51.int hnew.sts) ?_
          rintro _ w11 ⟨rfl, e11⟩
          replace hr := hr.ext e11
          replace ho7 := ho7.ext e11
          replace h51 := h51.ext e11
          replace hnew := hnew.ext e11
          replace e10 := e10.trans e11
          cases hv2 : validP tl ((l.take i).app (.cons 9 0 0 0 (t.snoc op x y n t e) .nil r))
          · have hnone : unrR tl l (i : Int) = none := by rw [hfw]; simp only [unrAt]; rw [if_neg (fun h => by rw [hv2] at h; cases h.2)]
            repeat (first | (refine Z0 ?_; first | refine Z1 rfl ?_ | (refine Z2 ?_; first | refine Z3 rfl rfl (by decide) ?_ | refine Z4 rfl rfl (by decide) ?_ | refine Z5 rfl rfl ?_) | (refine Z6 ?_; first | refine Z7 rfl rfl ?_ | refine Z8 rfl rfl ?_) | (refine Z9 ?_; first | refine Z10 rfl (by assumption) (by rfl) ?_ | refine Z11 rfl (by assumption) ?_) | (refine Z12 ?_; first | refine Z13 (Z14 rfl (by decide) rfl) ?_ | refine Z13 (Z15 rfl (by decide) rfl) ?_) | (refine Z16 ?_; first | refine Z17 rfl ?_ | refine Z18 rfl ?_) | (refine Z19 ?_; first | refine Z20 rfl rfl (by omega) ?_ | refine Z21 rfl rfl (by omega) ?_ | refine Z22 rfl rfl (by omega) ?_ | refine Z23 rfl rfl (by omega) (by omega) ?_ | refine Z24 rfl rfl (by omega) (by omega) (by omega) ?_ | refine Z13 (Z25 rfl rfl) ?_ | refine Z13 (Z26 rfl rfl) ?_) | (refine Z27 ?_; refine Z13 (Z28 rfl (Z53 ⟨by omega, by omega⟩)) ?_) | (refine Z29 ?_; refine Z13 (Z30 rfl (by rfl) (by simp only [Z84, List.set_cons_zero, List.set_cons_succ]; rfl)) ?_) | refine Z31 ?_) | (refine Z32 ?_; first | refine Z33 ?_ | refine Z34 ?_ | refine Z35 ?_ | refine Z36 ?_ | refine Z37 ?_ | refine Z38 rfl ?_ | refine Z39 ?_ | refine Z40 ?_ | refine Z41 ?_) | (refine Z42 ?_; first | refine Z43 ?_ | refine Z44 ?_ | refine Z45 ?_ | refine Z46 ?_ | refine Z47 ?_ | refine Z48 ?_ | refine Z49 rfl (by decide) ?_ | refine Z50 rfl (by decide) ?_))
            refine WO_storeS (k := 2) (vs := [.slice none 0 0, .slice none 0 0]) rfl rfl rfl (by intro v hv; simp at hv; subst hv; rfl) hr (by decide) fun wz hz oz => ?_
            replace hz : Blk wz w1.heap.size [.slice none 0 0, .slice none 0 0] _ := hz
            repeat (first | (refine Z0 ?_; first | refine Z1 rfl ?_ | (refine Z2 ?_; first | refine Z3 rfl rfl (by decide) ?_ | refine Z4 rfl rfl (by decide) ?_ | refine Z5 rfl rfl ?_) | (refine Z6 ?_; first | refine Z7 rfl rfl ?_ | refine Z8 rfl rfl ?_) | (refine Z9 ?_; first | refine Z10 rfl (by assumption) (by rfl) ?_ | refine Z11 rfl (by assumption) ?_) | (refine Z12 ?_; first | refine Z13 (Z14 rfl (by decide) rfl) ?_ | refine Z13 (Z15 rfl (by decide) rfl) ?_) | (refine Z16 ?_; first | refine Z17 rfl ?_ | refine Z18 rfl ?_) | (refine Z19 ?_; first | refine Z20 rfl rfl (by omega) ?_ | refine Z21 rfl rfl (by omega) ?_ | refine Z22 rfl rfl (by omega) ?_ | refine Z23 rfl rfl (by omega) (by omega) ?_ | refine Z24 rfl rfl (by omega) (by omega) (by omega) ?_ | refine Z13 (Z25 rfl rfl) ?_ | refine Z13 (Z26 rfl rfl) ?_) | (refine Z27 ?_; refine Z13 (Z28 rfl (Z53 ⟨by omega, by omega⟩)) ?_) | (refine Z29 ?_; refine Z13 (Z30 rfl (by rfl) (by simp only [Z84, List.set_cons_zero, List.set_cons_succ]; rfl)) ?_) | refine Z31 ?_) | (refine Z32 ?_; first | refine Z33 ?_ | refine Z34 ?_ | refine Z35 ?_ | refine Z36 ?_ | refine Z37 ?_ | refine Z38 rfl ?_ | refine Z39 ?_ | refine Z40 ?_ | refine Z41 ?_) | (refine Z42 ?_; first | refine Z43 ?_ | refine Z44 ?_ | refine Z45 ?_ | refine Z46 ?_ | refine Z47 ?_ | refine Z48 ?_ | refine Z49 rfl (by decide) ?_ | refine Z50 rfl (by decide) ?_))
            exact at_ret2G rfl (.cell inferInstance rfl hz rfl) (.tmp rfl) (by rw [hnone]; exact PrO.none_ (Ext.only e10 oz s1))
          · have hsome : unrR tl l (i : Int) = some ((l.take i).app (.cons 9 0 0 0 (t.snoc op x y n t e) .nil r)) := by rw [hfw]; simp only [unrAt]; rw [if_pos ⟨h10, hv2⟩]
            repeat (first | (refine Z0 ?_; first | refine Z1 rfl ?_ | (refine Z2 ?_; first | refine Z3 rfl rfl (by decide) ?_ | refine Z4 rfl rfl (by decide) ?_ | refine Z5 rfl rfl ?_) | (refine Z6 ?_; first | refine Z7 rfl rfl ?_ | refine Z8 rfl rfl ?_) | (refine Z9 ?_; first | refine Z10 rfl (by assumption) (by rfl) ?_ | refine Z11 rfl (by assumption) ?_) | (refine Z12 ?_; first | refine Z13 (Z14 rfl (by decide) rfl) ?_ | refine Z13 (Z15 rfl (by decide) rfl) ?_) | (refine Z16 ?_; first | refine Z17 rfl ?_ | refine Z18 rfl ?_) | (refine Z19 ?_; first | refine Z20 rfl rfl (by omega) ?_ | refine Z21 rfl rfl (by omega) ?_ | refine Z22 rfl rfl (by omega) ?_ | refine Z23 rfl rfl (by omega) (by omega) ?_ | refine Z24 rfl rfl (by omega) (by omega) (by omega) ?_ | refine Z13 (Z25 rfl rfl) ?_ | refine Z13 (Z26 rfl rfl) ?_) | (refine Z27 ?_; refine Z13 (Z28 rfl (Z53 ⟨by omega, by omega⟩)) ?_) | (refine Z29 ?_; refine Z13 (Z30 rfl (by rfl) (by simp only [Z84, List.set_cons_zero, List.set_cons_succ]; rfl)) ?_) | refine Z31 ?_) | (refine Z32 ?_; first | refine Z33 ?_ | refine Z34 ?_ | refine Z35 ?_ | refine Z36 ?_ | refine Z37 ?_ | refine Z38 rfl ?_ | refine Z39 ?_ | refine Z40 ?_ | refine Z41 ?_) | (refine Z42 ?_; first | refine Z43 ?_ | refine Z44 ?_ | refine Z45 ?_ | refine Z46 ?_ | refine Z47 ?_ | refine Z48 ?_ | refine Z49 rfl (by decide) ?_ | refine Z50 rfl (by decide) ?_))
            refine WO_loadSB rfl ho7 rfl ?_
            refine WO_storeS (k := 2) (vs := [tv', .slice (some ⟨g, 0, none⟩) ((l.take i).app (.cons op x y n t e r)).len cap]) rfl rfl rfl (by simp; exact ⟨on1, rfl⟩) hr (by decide) fun w12 hr12 o12 => ?_
            replace hr12 : Blk w12 w1.heap.size [tv', .slice (some ⟨g, 0, none⟩) ((l.take i).app (.cons op x y n t e r)).len cap] _ := hr12
            repeat (first | (refine Z0 ?_; first | refine Z1 rfl ?_ | (refine Z2 ?_; first | refine Z3 rfl rfl (by decide) ?_ | refine Z4 rfl rfl (by decide) ?_ | refine Z5 rfl rfl ?_) | (refine Z6 ?_; first | refine Z7 rfl rfl ?_ | refine Z8 rfl rfl ?_) | (refine Z9 ?_; first | refine Z10 rfl (by assumption) (by rfl) ?_ | refine Z11 rfl (by assumption) ?_) | (refine Z12 ?_; first | refine Z13 (Z14 rfl (by decide) rfl) ?_ | refine Z13 (Z15 rfl (by decide) rfl) ?_) | (refine Z16 ?_; first | refine Z17 rfl ?_ | refine Z18 rfl ?_) | (refine Z19 ?_; first | refine Z20 rfl rfl (by omega) ?_ | refine Z21 rfl rfl (by omega) ?_ | refine Z22 rfl rfl (by omega) ?_ | refine Z23 rfl rfl (by omega) (by omega) ?_ | refine Z24 rfl rfl (by omega) (by omega) (by omega) ?_ | refine Z13 (Z25 rfl rfl) ?_ | refine Z13 (Z26 rfl rfl) ?_) | (refine Z27 ?_; refine Z13 (Z28 rfl (Z53 ⟨by omega, by omega⟩)) ?_) | (refine Z29 ?_; refine Z13 (Z30 rfl (by rfl) (by simp only [Z84, List.set_cons_zero, List.set_cons_succ]; rfl)) ?_) | refine Z31 ?_) | (refine Z32 ?_; first | refine Z33 ?_ | refine Z34 ?_ | refine Z35 ?_ | refine Z36 ?_ | refine Z37 ?_ | refine Z38 rfl ?_ | refine Z39 ?_ | refine Z40 ?_ | refine Z41 ?_) | (refine Z42 ?_; first | refine Z43 ?_ | refine Z44 ?_ | refine Z45 ?_ | refine Z46 ?_ | refine Z47 ?_ | refine Z48 ?_ | refine Z49 rfl (by decide) ?_ | refine Z50 rfl (by decide) ?_))
            refine at_ret2G rfl (.cell inferInstance rfl hr12 rfl) (.tmp rfl) ?_
            rw [hsome]
            exact PrO.some_ (h51.chg o12.chg (fun z hz hm => by simp at hm; subst hm; have := hmem _ (List.mem_append_left _ hz); omega)) (hnew.chg o12.chg (fun z hz hm => by simp only [List.mem_singleton] at hm; subst hm; have := hmem _ (List.mem_append_right _ hz); omega)) hnd (fun z hz => by have := hmem z hz; omega) (e10.only o12 (by omega))
      · have hnone : unrR tl l (i : Int) = none := by rw [hfw]; simp [unrAt, h10]
        repeat' (first | (refine Z0 ?_; first | refine Z1 rfl ?_ | (refine Z2 ?_; first | refine Z3 rfl rfl (by decide) ?_ | refine Z4 rfl rfl (by decide) ?_ | refine Z5 rfl rfl ?_ | ((refine Z51 rfl rfl (fun c' hc' => ?_)); cases c' <;> (try simp only [decide_eq_true_eq, decide_eq_false_iff_not, beq_iff_eq, beq_eq_false_iff_ne, bne_iff_ne, bne_eq_false_iff_eq, ne_eq, gt_iff_lt, ge_iff_le, Int.not_lt, Int.not_le, Bool.not_eq_true', Bool.not_eq_false', Bool.not_true, Bool.not_false, reduceCtorEq, Decidable.not_not, not_true_eq_false, Bool.true_eq_false, Bool.false_eq_true] at hc') <;> (try (exfalso; omega)))) | (refine Z6 ?_; first | refine Z7 rfl rfl ?_ | refine Z8 rfl rfl ?_) | (refine Z9 ?_; first | refine Z10 rfl (by assumption) (by rfl) ?_ | refine Z11 rfl (by assumption) ?_) | (refine Z12 ?_; first | refine Z13 (Z14 rfl (by decide) rfl) ?_ | refine Z13 (Z15 rfl (by decide) rfl) ?_) | (refine Z16 ?_; first | refine Z17 rfl ?_ | refine Z18 rfl ?_) | (refine Z19 ?_; first | refine Z20 rfl rfl (by omega) ?_ | refine Z21 rfl rfl (by omega) ?_ | refine Z22 rfl rfl (by omega) ?_ | refine Z23 rfl rfl (by omega) (by omega) ?_ | refine Z24 rfl rfl (by omega) (by omega) (by omega) ?_ | refine Z13 (Z25 rfl rfl) ?_ | refine Z13 (Z26 rfl rfl) ?_) | (refine Z27 ?_; refine Z13 (Z28 rfl (Z53 ⟨by omega, by omega⟩)) ?_) | (refine Z29 ?_; refine Z13 (Z30 rfl (by rfl) (by simp only [Z84, List.set_cons_zero, List.set_cons_succ]; rfl)) ?_) | refine Z31 ?_) | (refine Z32 ?_; first | refine Z33 ?_ | refine Z34 ?_ | refine Z35 ?_ | refine Z36 ?_ | refine Z37 ?_ | refine Z38 rfl ?_ | refine Z39 ?_ | refine Z40 ?_ | refine Z41 ?_) | (refine Z42 ?_; first | refine Z43 ?_ | refine Z44 ?_ | refine Z45 ?_ | refine Z46 ?_ | refine Z47 ?_ | refine Z48 ?_ | refine Z49 rfl (by decide) ?_ | refine Z50 rfl (by decide) ?_ | ((refine Z52 rfl (fun hc' => ?_) (fun hc' => ?_)) <;> (try simp only [decide_eq_true_eq, decide_eq_false_iff_not, beq_iff_eq, beq_eq_false_iff_ne, bne_iff_ne, bne_eq_false_iff_eq, ne_eq, gt_iff_lt, ge_iff_le, Int.not_lt, Int.not_le, Bool.not_eq_true', Bool.not_eq_false', Bool.not_true, Bool.not_false, reduceCtorEq, Decidable.not_not, not_true_eq_false, Bool.true_eq_false, Bool.false_eq_true] at hc') <;> (try (exfalso; omega)))))
        refine WO_storeS (k := 2) (vs := [.slice none 0 0, .slice none 0 0]) rfl rfl rfl (by intro v hv; simp at hv; subst hv; rfl) hr (by decide) fun wz hz oz => ?_
        replace hz : Blk wz w1.heap.size [.slice none 0 0, .slice none 0 0] _ := hz
        repeat (first | (refine Z0 ?_; first | refine Z1 rfl ?_ | (refine Z2 ?_; first | refine Z3 rfl rfl (by decide) ?_ | refine Z4 rfl rfl (by decide) ?_ | refine Z5 rfl rfl ?_) | (refine Z6 ?_; first | refine Z7 rfl rfl ?_ | refine Z8 rfl rfl ?_) | (refine Z9 ?_; first | refine Z10 rfl (by assumption) (by rfl) ?_ | refine Z11 rfl (by assumption) ?_) | (refine Z12 ?_; first | refine Z13 (Z14 rfl (by decide) rfl) ?_ | refine Z13 (Z15 rfl (by decide) rfl) ?_) | (refine Z16 ?_; first | refine Z17 rfl ?_ | refine Z18 rfl ?_) | (refine Z19 ?_; first | refine Z20 rfl rfl (by omega) ?_ | refine Z21 rfl rfl (by omega) ?_ | refine Z22 rfl rfl (by omega) ?_ | refine Z23 rfl rfl (by omega) (by omega) ?_ | refine Z24 rfl rfl (by omega) (by omega) (by omega) ?_ | refine Z13 (Z25 rfl rfl) ?_ | refine Z13 (Z26 rfl rfl) ?_) | (refine Z27 ?_; refine Z13 (Z28 rfl (Z53 ⟨by omega, by omega⟩)) ?_) | (refine Z29 ?_; refine Z13 (Z30 rfl (by rfl) (by simp only [Z84, List.set_cons_zero, List.set_cons_succ]; rfl)) ?_) | refine Z31 ?_) | (refine Z32 ?_; first | refine Z33 ?_ | refine Z34 ?_ | refine Z35 ?_ | refine Z36 ?_ | refine Z37 ?_ | refine Z38 rfl ?_ | refine Z39 ?_ | refine Z40 ?_ | refine Z41 ?_) | (refine Z42 ?_; first | refine Z43 ?_ | refine Z44 ?_ | refine Z45 ?_ | refine Z46 ?_ | refine Z47 ?_ | refine Z48 ?_ | refine Z49 rfl (by decide) ?_ | refine Z50 rfl (by decide) ?_))
        exact at_ret2G rfl (.cell inferInstance rfl hz rfl) (.tmp rfl) (by rw [hnone]; exact PrO.none_ (Ext.only e0 oz s1))
    · have hnone := unrR_none (tl := tl) (l := l) (k := k) (by simp [hv]; omega)
      rw [decide_eq_false hyes]
      repeat (first | (refine Z0 ?_; first | refine Z1 rfl ?_ | (refine Z2 ?_; first | refine Z3 rfl rfl (by decide) ?_ | refine Z4 rfl rfl (by decide) ?_ | refine Z5 rfl rfl ?_) | (refine Z6 ?_; first | refine Z7 rfl rfl ?_ | refine Z8 rfl rfl ?_) | (refine Z9 ?_; first | refine Z10 rfl (by assumption) (by rfl) ?_ | refine Z11 rfl (by assumption) ?_) | (refine Z12 ?_; first | refine Z13 (Z14 rfl (by decide) rfl) ?_ | refine Z13 (Z15 rfl (by decide) rfl) ?_) | (refine Z16 ?_; first | refine Z17 rfl ?_ | refine Z18 rfl ?_) | (refine Z19 ?_; first | refine Z20 rfl rfl (by omega) ?_ | refine Z21 rfl rfl (by omega) ?_ | refine Z22 rfl rfl (by omega) ?_ | refine Z23 rfl rfl (by omega) (by omega) ?_ | refine Z24 rfl rfl (by omega) (by omega) (by omega) ?_ | refine Z13 (Z25 rfl rfl) ?_ | refine Z13 (Z26 rfl rfl) ?_) | (refine Z27 ?_; refine Z13 (Z28 rfl (Z53 ⟨by omega, by omega⟩)) ?_) | (refine Z29 ?_; refine Z13 (Z30 rfl (by rfl) (by simp only [Z84, List.set_cons_zero, List.set_cons_succ]; rfl)) ?_) | refine Z31 ?_) | (refine Z32 ?_; first | refine Z33 ?_ | refine Z34 ?_ | refine Z35 ?_ | refine Z36 ?_ | refine Z37 ?_ | refine Z38 rfl ?_ | refine Z39 ?_ | refine Z40 ?_ | refine Z41 ?_) | (refine Z42 ?_; first | refine Z43 ?_ | refine Z44 ?_ | refine Z45 ?_ | refine Z46 ?_ | refine Z47 ?_ | refine Z48 ?_ | refine Z49 rfl (by decide) ?_ | refine Z50 rfl (by decide) ?_))
      refine WO_storeS (k := 2) (vs := [.slice none 0 0, .slice none 0 0]) rfl rfl rfl (by intro v hv; simp at hv; subst hv; rfl) hr (by decide) fun wz hz oz => ?_
      replace hz : Blk wz w1.heap.size [.slice none 0 0, .slice none 0 0] _ := hz
      repeat (first | (refine Z0 ?_; first | refine Z1 rfl ?_ | (refine Z2 ?_; first | refine Z3 rfl rfl (by decide) ?_ | refine Z4 rfl rfl (by decide) ?_ | refine Z5 rfl rfl ?_) | (refine Z6 ?_; first | refine Z7 rfl rfl ?_ | refine Z8 rfl rfl ?_) | (refine Z9 ?_; first | refine Z10 rfl (by assumption) (by rfl) ?_ | refine Z11 rfl (by assumption) ?_) | (refine Z12 ?_; first | refine Z13 (Z14 rfl (by decide) rfl) ?_ | refine Z13 (Z15 rfl (by decide) rfl) ?_) | (refine Z16 ?_; first | refine Z17 rfl ?_ | refine Z18 rfl ?_) | (refine Z19 ?_; first | refine Z20 rfl rfl (by omega) ?_ | refine Z21 rfl rfl (by omega) ?_ | refine Z22 rfl rfl (by omega) ?_ | refine Z23 rfl rfl (by omega) (by omega) ?_ | refine Z24 rfl rfl (by omega) (by omega) (by omega) ?_ | refine Z13 (Z25 rfl rfl) ?_ | refine Z13 (Z26 rfl rfl) ?_) | (refine Z27 ?_; refine Z13 (Z28 rfl (Z53 ⟨by omega, by omega⟩)) ?_) | (refine Z29 ?_; refine Z13 (Z30 rfl (by rfl) (by simp only [Z84, List.set_cons_zero, List.set_cons_succ]; rfl)) ?_) | refine Z31 ?_) | (refine Z32 ?_; first | refine Z33 ?_ | refine Z34 ?_ | refine Z35 ?_ | refine Z36 ?_ | refine Z37 ?_ | refine Z38 rfl ?_ | refine Z39 ?_ | refine Z40 ?_ | refine Z41 ?_) | (refine Z42 ?_; first | refine Z43 ?_ | refine Z44 ?_ | refine Z45 ?_ | refine Z46 ?_ | refine Z47 ?_ | refine Z48 ?_ | refine Z49 rfl (by decide) ?_ | refine Z50 rfl (by decide) ?_))
      exact at_ret2G rfl (.cell inferInstance rfl hz rfl) (.tmp rfl) (by rw [hnone]; exact PrO.none_ (Ext.only e0 oz s1))
/-- What stands behind the region that makes the statements of the choice. -/
def UnrB (e : TypeId) (base : Env) (t' : Ss) (w : World) (τ : Env) (w' : World) : Prop := ∃ v3 F3, τ = (7, v3) :: base ∧ RowS e w' v3 t' F3 ∧ F3.Nodup ∧ (∀ b ∈ F3, w.heap.size ≤ b) ∧ Ext w w'
theorem sUnrollLoop_ret (tv bv : Value) (tl : List Int) (l : Ss) (F F2 : List Nat) (k : Int) (w : World) (ht : IntF w tv tl F) (hb : StS w bv l F2) (hk : -9223372036854775808 ≤ k ∧ k ≤ 9223372036854775807) (hn : tl.length ≤ 1048576) (hn2 : cntL l ≤ 1048576) :
    Ret Try.prog 48 [prV tv bv, .int .i64 k] w (PrO 29 tl (unrR tl l k) w) := by
  obtain ⟨A, c, rfl, hl, hlc⟩ := hb.slice
  unfold maxI at hl
  have hcl := len_le_cntL l
  refine enter Try.func48 rfl Try.ntmps48 rfl rfl ?_
  refine Z43 (Z44 (WO_box rfl fun w1 hs e1 z1 => WO_alloc fun w2 hr e2 z2 => ?_))
  replace hs : Blk w2 w.heap.size [tv, .slice A l.len c] _ := Blk.ext hs e2
  replace hr : Blk w2 w1.heap.size [.slice none 0 0, .slice none 0 0] _ := hr
  have e0 := e1.trans e2
  have s1 := e1.size_le
  have s2 := hr.lt
  repeat (first | (refine Z0 ?_; first | refine Z1 rfl ?_ | (refine Z2 ?_; first | refine Z3 rfl rfl (by decide) ?_ | refine Z4 rfl rfl (by decide) ?_ | refine Z5 rfl rfl ?_) | (refine Z6 ?_; first | refine Z7 rfl rfl ?_ | refine Z8 rfl rfl ?_) | (refine Z9 ?_; first | refine Z10 rfl (by assumption) (by rfl) ?_ | refine Z11 rfl (by assumption) ?_) | (refine Z12 ?_; first | refine Z13 (Z14 rfl (by decide) rfl) ?_ | refine Z13 (Z15 rfl (by decide) rfl) ?_) | (refine Z16 ?_; first | refine Z17 rfl ?_ | refine Z18 rfl ?_) | (refine Z19 ?_; first | refine Z20 rfl rfl (by omega) ?_ | refine Z21 rfl rfl (by omega) ?_ | refine Z22 rfl rfl (by omega) ?_ | refine Z23 rfl rfl (by omega) (by omega) ?_ | refine Z24 rfl rfl (by omega) (by omega) (by omega) ?_ | refine Z13 (Z25 rfl rfl) ?_ | refine Z13 (Z26 rfl rfl) ?_) | (refine Z27 ?_; refine Z13 (Z28 rfl (Z53 ⟨by omega, by omega⟩)) ?_) | (refine Z29 ?_; refine Z13 (Z30 rfl (by rfl) (by simp only [Z84, List.set_cons_zero, List.set_cons_succ]; rfl)) ?_) | refine Z31 ?_) | (refine Z32 ?_; first | refine Z33 ?_ | refine Z34 ?_ | refine Z35 ?_ | refine Z36 ?_ | refine Z37 ?_ | refine Z38 rfl ?_ | refine Z39 ?_ | refine Z40 ?_ | refine Z41 ?_) | (refine Z42 ?_; first | refine Z43 ?_ | refine Z44 ?_ | refine Z45 ?_ | refine Z46 ?_ | refine Z47 ?_ | refine Z48 ?_ | refine Z49 rfl (by decide) ?_ | refine Z50 rfl (by decide) ?_))
  refine WO_loadSB rfl hs rfl ?_
  repeat (first | (refine Z0 ?_; first | refine Z1 rfl ?_ | (refine Z2 ?_; first | refine Z3 rfl rfl (by decide) ?_ | refine Z4 rfl rfl (by decide) ?_ | refine Z5 rfl rfl ?_) | (refine Z6 ?_; first | refine Z7 rfl rfl ?_ | refine Z8 rfl rfl ?_) | (refine Z9 ?_; first | refine Z10 rfl (by assumption) (by rfl) ?_ | refine Z11 rfl (by assumption) ?_) | (refine Z12 ?_; first | refine Z13 (Z14 rfl (by decide) rfl) ?_ | refine Z13 (Z15 rfl (by decide) rfl) ?_) | (refine Z16 ?_; first | refine Z17 rfl ?_ | refine Z18 rfl ?_) | (refine Z19 ?_; first | refine Z20 rfl rfl (by omega) ?_ | refine Z21 rfl rfl (by omega) ?_ | refine Z22 rfl rfl (by omega) ?_ | refine Z23 rfl rfl (by omega) (by omega) ?_ | refine Z24 rfl rfl (by omega) (by omega) (by omega) ?_ | refine Z13 (Z25 rfl rfl) ?_ | refine Z13 (Z26 rfl rfl) ?_) | (refine Z27 ?_; refine Z13 (Z28 rfl (Z53 ⟨by omega, by omega⟩)) ?_) | (refine Z29 ?_; refine Z13 (Z30 rfl (by rfl) (by simp only [Z84, List.set_cons_zero, List.set_cons_succ]; rfl)) ?_) | refine Z31 ?_) | (refine Z32 ?_; first | refine Z33 ?_ | refine Z34 ?_ | refine Z35 ?_ | refine Z36 ?_ | refine Z37 ?_ | refine Z38 rfl ?_ | refine Z39 ?_ | refine Z40 ?_ | refine Z41 ?_) | (refine Z42 ?_; first | refine Z43 ?_ | refine Z44 ?_ | refine Z45 ?_ | refine Z46 ?_ | refine Z47 ?_ | refine Z48 ?_ | refine Z49 rfl (by decide) ?_ | refine Z50 rfl (by decide) ?_))
  refine WO_call rfl (sProgramValid_ret tv _ tl l F F2 w2 (ht.ext e0) (hb.ext e0) (by omega)) ?_
  rintro _ w3 ⟨rfl, e3⟩
  replace hs := hs.ext e3
  replace hr := hr.ext e3
  replace e0 := e0.trans e3
  have s3 := e3.size_le
  cases hv : validP tl l
  · have hnone := unrR_none (tl := tl) (l := l) (k := k) (by simp [hv])
    repeat (first | (refine Z0 ?_; first | refine Z1 rfl ?_ | (refine Z2 ?_; first | refine Z3 rfl rfl (by decide) ?_ | refine Z4 rfl rfl (by decide) ?_ | refine Z5 rfl rfl ?_) | (refine Z6 ?_; first | refine Z7 rfl rfl ?_ | refine Z8 rfl rfl ?_) | (refine Z9 ?_; first | refine Z10 rfl (by assumption) (by rfl) ?_ | refine Z11 rfl (by assumption) ?_) | (refine Z12 ?_; first | refine Z13 (Z14 rfl (by decide) rfl) ?_ | refine Z13 (Z15 rfl (by decide) rfl) ?_) | (refine Z16 ?_; first | refine Z17 rfl ?_ | refine Z18 rfl ?_) | (refine Z19 ?_; first | refine Z20 rfl rfl (by omega) ?_ | refine Z21 rfl rfl (by omega) ?_ | refine Z22 rfl rfl (by omega) ?_ | refine Z23 rfl rfl (by omega) (by omega) ?_ | refine Z24 rfl rfl (by omega) (by omega) (by omega) ?_ | refine Z13 (Z25 rfl rfl) ?_ | refine Z13 (Z26 rfl rfl) ?_) | (refine Z27 ?_; refine Z13 (Z28 rfl (Z53 ⟨by omega, by omega⟩)) ?_) | (refine Z29 ?_; refine Z13 (Z30 rfl (by rfl) (by simp only [Z84, List.set_cons_zero, List.set_cons_succ]; rfl)) ?_) | refine Z31 ?_) | (refine Z32 ?_; first | refine Z33 ?_ | refine Z34 ?_ | refine Z35 ?_ | refine Z36 ?_ | refine Z37 ?_ | refine Z38 rfl ?_ | refine Z39 ?_ | refine Z40 ?_ | refine Z41 ?_) | (refine Z42 ?_; first | refine Z43 ?_ | refine Z44 ?_ | refine Z45 ?_ | refine Z46 ?_ | refine Z47 ?_ | refine Z48 ?_ | refine Z49 rfl (by decide) ?_ | refine Z50 rfl (by decide) ?_))
    refine WO_storeS (k := 2) (vs := [.slice none 0 0, .slice none 0 0]) rfl rfl rfl (by intro v hv; simp at hv; subst hv; rfl) hr (by decide) fun wz hz oz => ?_
    replace hz : Blk wz w1.heap.size [.slice none 0 0, .slice none 0 0] _ := hz
    repeat (first | (refine Z0 ?_; first | refine Z1 rfl ?_ | (refine Z2 ?_; first | refine Z3 rfl rfl (by decide) ?_ | refine Z4 rfl rfl (by decide) ?_ | refine Z5 rfl rfl ?_) | (refine Z6 ?_; first | refine Z7 rfl rfl ?_ | refine Z8 rfl rfl ?_) | (refine Z9 ?_; first | refine Z10 rfl (by assumption) (by rfl) ?_ | refine Z11 rfl (by assumption) ?_) | (refine Z12 ?_; first | refine Z13 (Z14 rfl (by decide) rfl) ?_ | refine Z13 (Z15 rfl (by decide) rfl) ?_) | (refine Z16 ?_; first | refine Z17 rfl ?_ | refine Z18 rfl ?_) | (refine Z19 ?_; first | refine Z20 rfl rfl (by omega) ?_ | refine Z21 rfl rfl (by omega) ?_ | refine Z22 rfl rfl (by omega) ?_ | refine Z23 rfl rfl (by omega) (by omega) ?_ | refine Z24 rfl rfl (by omega) (by omega) (by omega) ?_ | refine Z13 (Z25 rfl rfl) ?_ | refine Z13 (Z26 rfl rfl) ?_) | (refine Z27 ?_; refine Z13 (Z28 rfl (Z53 ⟨by omega, by omega⟩)) ?_) | (refine Z29 ?_; refine Z13 (Z30 rfl (by rfl) (by simp only [Z84, List.set_cons_zero, List.set_cons_succ]; rfl)) ?_) | refine Z31 ?_) | (refine Z32 ?_; first | refine Z33 ?_ | refine Z34 ?_ | refine Z35 ?_ | refine Z36 ?_ | refine Z37 ?_ | refine Z38 rfl ?_ | refine Z39 ?_ | refine Z40 ?_ | refine Z41 ?_) | (refine Z42 ?_; first | refine Z43 ?_ | refine Z44 ?_ | refine Z45 ?_ | refine Z46 ?_ | refine Z47 ?_ | refine Z48 ?_ | refine Z49 rfl (by decide) ?_ | refine Z50 rfl (by decide) ?_))
    exact at_ret2G rfl (.cell inferInstance rfl hz rfl) (.tmp rfl) (by rw [hnone]; exact PrO.none_ (Ext.only e0 oz s1))
  · by_cases hyes : 0 ≤ k ∧ k ≤ (l.len : Int) - 1
    · obtain ⟨hk0, hk2⟩ := hyes
      obtain ⟨i, rfl⟩ := Int.eq_ofNat_of_zero_le hk0
      obtain ⟨op, x, y, n, t, e, r, q1, q2, q3, q4⟩ := Ss.at_ (l := l) (k := i) (by omega)
      have hfw := unrR_some hv q3
      have hct := cnt_take_drop i l
      have htl := len_le_cntL t
      rw [q3] at hct
      simp only [cntL] at hct
      obtain ⟨b, o, vt, ve, Ft, Fe, rfl, _, hc1, hT, hE⟩ := hb.one_ q1
      obtain ⟨Fm, hMid⟩ := hb.mid_ (j := i) (i := i + 1) (by omega) (by omega)
      rw [q3, show i + 1 - i = 1 from by omega] at hMid
      have hone1 : (Ss.cons op x y n t e r).take 1 = Ss.one op x y n t e := by cases r <;> rfl
      rw [hone1] at hMid
      rw [q2] at hc1
      have c0 := cell_ext (hc1 0 _ rfl) e0
      rw [Nat.add_zero] at c0
      repeat' (first | (refine Z0 ?_; first | refine Z1 rfl ?_ | (refine Z2 ?_; first | refine Z3 rfl rfl (by decide) ?_ | refine Z4 rfl rfl (by decide) ?_ | refine Z5 rfl rfl ?_ | ((refine Z51 rfl rfl (fun c' hc' => ?_)); cases c' <;> (try simp only [decide_eq_true_eq, decide_eq_false_iff_not, beq_iff_eq, beq_eq_false_iff_ne, bne_iff_ne, bne_eq_false_iff_eq, ne_eq, gt_iff_lt, ge_iff_le, Int.not_lt, Int.not_le, Bool.not_eq_true', Bool.not_eq_false', Bool.not_true, Bool.not_false, reduceCtorEq, Decidable.not_not, not_true_eq_false, Bool.true_eq_false, Bool.false_eq_true] at hc') <;> (try (exfalso; omega)))) | (refine Z6 ?_; first | refine Z7 rfl rfl ?_ | refine Z8 rfl rfl ?_) | (refine Z9 ?_; first | refine Z10 rfl (by assumption) (by rfl) ?_ | refine Z11 rfl (by assumption) ?_) | (refine Z12 ?_; first | refine Z13 (Z14 rfl (by decide) rfl) ?_ | refine Z13 (Z15 rfl (by decide) rfl) ?_) | (refine Z16 ?_; first | refine Z17 rfl ?_ | refine Z18 rfl ?_) | (refine Z19 ?_; first | refine Z20 rfl rfl (by omega) ?_ | refine Z21 rfl rfl (by omega) ?_ | refine Z22 rfl rfl (by omega) ?_ | refine Z23 rfl rfl (by omega) (by omega) ?_ | refine Z24 rfl rfl (by omega) (by omega) (by omega) ?_ | refine Z13 (Z25 rfl rfl) ?_ | refine Z13 (Z26 rfl rfl) ?_) | (refine Z27 ?_; refine Z13 (Z28 rfl (Z53 ⟨by omega, by omega⟩)) ?_) | (refine Z29 ?_; refine Z13 (Z30 rfl (by rfl) (by simp only [Z84, List.set_cons_zero, List.set_cons_succ]; rfl)) ?_) | refine Z31 ?_) | (refine Z32 ?_; first | refine Z33 ?_ | refine Z34 ?_ | refine Z35 ?_ | refine Z36 ?_ | refine Z37 ?_ | refine Z38 rfl ?_ | refine Z39 ?_ | refine Z40 ?_ | refine Z41 ?_) | (refine Z42 ?_; first | refine Z43 ?_ | refine Z44 ?_ | refine Z45 ?_ | refine Z46 ?_ | refine Z47 ?_ | refine Z48 ?_ | refine Z49 rfl (by decide) ?_ | refine Z50 rfl (by decide) ?_ | ((refine Z52 rfl (fun hc' => ?_) (fun hc' => ?_)) <;> (try simp only [decide_eq_true_eq, decide_eq_false_iff_not, beq_iff_eq, beq_eq_false_iff_ne, bne_iff_ne, bne_eq_false_iff_eq, ne_eq, gt_iff_lt, ge_iff_le, Int.not_lt, Int.not_le, Bool.not_eq_true', Bool.not_eq_false', Bool.not_true, Bool.not_false, reduceCtorEq, Decidable.not_not, not_true_eq_false, Bool.true_eq_false, Bool.false_eq_true] at hc') <;> (try (exfalso; omega)))))
      refine Z83 (j := i) rfl rfl rfl (by omega) ?_
      repeat (first | (refine Z0 ?_; first | refine Z1 rfl ?_ | (refine Z2 ?_; first | refine Z3 rfl rfl (by decide) ?_ | refine Z4 rfl rfl (by decide) ?_ | refine Z5 rfl rfl ?_) | (refine Z6 ?_; first | refine Z7 rfl rfl ?_ | refine Z8 rfl rfl ?_) | (refine Z9 ?_; first | refine Z10 rfl (by assumption) (by rfl) ?_ | refine Z11 rfl (by assumption) ?_) | (refine Z12 ?_; first | refine Z13 (Z14 rfl (by decide) rfl) ?_ | refine Z13 (Z15 rfl (by decide) rfl) ?_) | (refine Z16 ?_; first | refine Z17 rfl ?_ | refine Z18 rfl ?_) | (refine Z19 ?_; first | refine Z20 rfl rfl (by omega) ?_ | refine Z21 rfl rfl (by omega) ?_ | refine Z22 rfl rfl (by omega) ?_ | refine Z23 rfl rfl (by omega) (by omega) ?_ | refine Z24 rfl rfl (by omega) (by omega) (by omega) ?_ | refine Z13 (Z25 rfl rfl) ?_ | refine Z13 (Z26 rfl rfl) ?_) | (refine Z27 ?_; refine Z13 (Z28 rfl (Z53 ⟨by omega, by omega⟩)) ?_) | (refine Z29 ?_; refine Z13 (Z30 rfl (by rfl) (by simp only [Z84, List.set_cons_zero, List.set_cons_succ]; rfl)) ?_) | refine Z31 ?_) | (refine Z32 ?_; first | refine Z33 ?_ | refine Z34 ?_ | refine Z35 ?_ | refine Z36 ?_ | refine Z37 ?_ | refine Z38 rfl ?_ | refine Z39 ?_ | refine Z40 ?_ | refine Z41 ?_) | (refine Z42 ?_; first | refine Z43 ?_ | refine Z44 ?_ | refine Z45 ?_ | refine Z46 ?_ | refine Z47 ?_ | refine Z48 ?_ | refine Z49 rfl (by decide) ?_ | refine Z50 rfl (by decide) ?_))
      by_cases h10 : op = 10
      · repeat' (first | (refine Z0 ?_; first | refine Z1 rfl ?_ | (refine Z2 ?_; first | refine Z3 rfl rfl (by decide) ?_ | refine Z4 rfl rfl (by decide) ?_ | refine Z5 rfl rfl ?_ | ((refine Z51 rfl rfl (fun c' hc' => ?_)); cases c' <;> (try simp only [decide_eq_true_eq, decide_eq_false_iff_not, beq_iff_eq, beq_eq_false_iff_ne, bne_iff_ne, bne_eq_false_iff_eq, ne_eq, gt_iff_lt, ge_iff_le, Int.not_lt, Int.not_le, Bool.not_eq_true', Bool.not_eq_false', Bool.not_true, Bool.not_false, reduceCtorEq, Decidable.not_not, not_true_eq_false, Bool.true_eq_false, Bool.false_eq_true] at hc') <;> (try (exfalso; omega)))) | (refine Z6 ?_; first | refine Z7 rfl rfl ?_ | refine Z8 rfl rfl ?_) | (refine Z9 ?_; first | refine Z10 rfl (by assumption) (by rfl) ?_ | refine Z11 rfl (by assumption) ?_) | (refine Z12 ?_; first | refine Z13 (Z14 rfl (by decide) rfl) ?_ | refine Z13 (Z15 rfl (by decide) rfl) ?_) | (refine Z16 ?_; first | refine Z17 rfl ?_ | refine Z18 rfl ?_) | (refine Z19 ?_; first | refine Z20 rfl rfl (by omega) ?_ | refine Z21 rfl rfl (by omega) ?_ | refine Z22 rfl rfl (by omega) ?_ | refine Z23 rfl rfl (by omega) (by omega) ?_ | refine Z24 rfl rfl (by omega) (by omega) (by omega) ?_ | refine Z13 (Z25 rfl rfl) ?_ | refine Z13 (Z26 rfl rfl) ?_) | (refine Z27 ?_; refine Z13 (Z28 rfl (Z53 ⟨by omega, by omega⟩)) ?_) | (refine Z29 ?_; refine Z13 (Z30 rfl (by rfl) (by simp only [Z84, List.set_cons_zero, List.set_cons_succ]; rfl)) ?_) | refine Z31 ?_) | (refine Z32 ?_; first | refine Z33 ?_ | refine Z34 ?_ | refine Z35 ?_ | refine Z36 ?_ | refine Z37 ?_ | refine Z38 rfl ?_ | refine Z39 ?_ | refine Z40 ?_ | refine Z41 ?_) | (refine Z42 ?_; first | refine Z43 ?_ | refine Z44 ?_ | refine Z45 ?_ | refine Z46 ?_ | refine Z47 ?_ | refine Z48 ?_ | refine Z49 rfl (by decide) ?_ | refine Z50 rfl (by decide) ?_ | ((refine Z52 rfl (fun hc' => ?_) (fun hc' => ?_)) <;> (try simp only [decide_eq_true_eq, decide_eq_false_iff_not, beq_iff_eq, beq_eq_false_iff_ne, bne_iff_ne, bne_eq_false_iff_eq, ne_eq, gt_iff_lt, ge_iff_le, Int.not_lt, Int.not_le, Bool.not_eq_true', Bool.not_eq_false', Bool.not_true, Bool.not_false, reduceCtorEq, Decidable.not_not, not_true_eq_false, Bool.true_eq_false, Bool.false_eq_true] at hc') <;> (try (exfalso; omega)))))
        refine WO_loadSB rfl hs rfl ?_
        refine WO_call rfl (l1CopyOf_ret tv _ tl l F F2 w3 (ht.ext e0) (StS.ext hb e0) hn hn2) ?_
        rintro _ w5 ⟨⟨tv', bv', rfl, Ft5, Fb5, h51, h52, h53, h54⟩, e5⟩
        have on1 := h51.one
        have on2 := h52.one
        replace hs := hs.ext e5
        replace hr := hr.ext e5
        replace e0 := e0.trans e5
        have s5 := e5.size_le
        repeat (first | (refine Z0 ?_; first | refine Z1 rfl ?_ | (refine Z2 ?_; first | refine Z3 rfl rfl (by decide) ?_ | refine Z4 rfl rfl (by decide) ?_ | refine Z5 rfl rfl ?_) | (refine Z6 ?_; first | refine Z7 rfl rfl ?_ | refine Z8 rfl rfl ?_) | (refine Z9 ?_; first | refine Z10 rfl (by assumption) (by rfl) ?_ | refine Z11 rfl (by assumption) ?_) | (refine Z12 ?_; first | refine Z13 (Z14 rfl (by decide) rfl) ?_ | refine Z13 (Z15 rfl (by decide) rfl) ?_) | (refine Z16 ?_; first | refine Z17 rfl ?_ | refine Z18 rfl ?_) | (refine Z19 ?_; first | refine Z20 rfl rfl (by omega) ?_ | refine Z21 rfl rfl (by omega) ?_ | refine Z22 rfl rfl (by omega) ?_ | refine Z23 rfl rfl (by omega) (by omega) ?_ | refine Z24 rfl rfl (by omega) (by omega) (by omega) ?_ | refine Z13 (Z25 rfl rfl) ?_ | refine Z13 (Z26 rfl rfl) ?_) | (refine Z27 ?_; refine Z13 (Z28 rfl (Z53 ⟨by omega, by omega⟩)) ?_) | (refine Z29 ?_; refine Z13 (Z30 rfl (by rfl) (by simp only [Z84, List.set_cons_zero, List.set_cons_succ]; rfl)) ?_) | refine Z31 ?_) | (refine Z32 ?_; first | refine Z33 ?_ | refine Z34 ?_ | refine Z35 ?_ | refine Z36 ?_ | refine Z37 ?_ | refine Z38 rfl ?_ | refine Z39 ?_ | refine Z40 ?_ | refine Z41 ?_) | (refine Z42 ?_; first | refine Z43 ?_ | refine Z44 ?_ | refine Z45 ?_ | refine Z46 ?_ | refine Z47 ?_ | refine Z48 ?_ | refine Z49 rfl (by decide) ?_ | refine Z50 rfl (by decide) ?_))
        refine WO_alloc fun w6 ho e6 z6 => ?_
        refine WO_storeS (k := 2) (vs := [tv', bv']) rfl rfl rfl (by simp; exact ⟨on1, on2⟩) ho (by decide) fun w9 ho7 o7 => ?_
        replace ho7 : Blk w9 w5.heap.size [tv', bv'] _ := ho7
        have e7 : Ext w5 w9 := e6.only o7 (Nat.le_refl _)
        replace hs := hs.ext e7
        replace hr := hr.ext e7
        replace h51 := h51.ext e7
        replace h52 := h52.ext e7
        replace e0 := e0.trans e7
        have s7 := ho7.lt
        rw [q1] at h52
        obtain ⟨g, cap, cs, vt2, ve2, G1, Gt, Ge, G2, rfl, rfl, k1, k2, kin, kT, kE, k3⟩ := h52.put
        rw [q2] at k2 kin
        have hlen2 : i < ((l.take i).app (.cons op x y n t e r)).len := by rw [← q1]; omega
        have hgB := h54 g (by simp)
        have hgl := k1.lt
        have hlt9 := h51.lt
        have hltF : ∀ z ∈ g :: (G1 ++ (Gt ++ (Ge ++ G2))), z < w9.heap.size := fun z hz => h52.lt z hz
        have hltG1 : ∀ z ∈ G1, z < w9.heap.size := fun z hz => hltF z (by simp [hz])
        have hltG2 : ∀ z ∈ G2, z < w9.heap.size := fun z hz => hltF z (by simp [hz])
        repeat (first | (refine Z0 ?_; first | refine Z1 rfl ?_ | (refine Z2 ?_; first | refine Z3 rfl rfl (by decide) ?_ | refine Z4 rfl rfl (by decide) ?_ | refine Z5 rfl rfl ?_) | (refine Z6 ?_; first | refine Z7 rfl rfl ?_ | refine Z8 rfl rfl ?_) | (refine Z9 ?_; first | refine Z10 rfl (by assumption) (by rfl) ?_ | refine Z11 rfl (by assumption) ?_) | (refine Z12 ?_; first | refine Z13 (Z14 rfl (by decide) rfl) ?_ | refine Z13 (Z15 rfl (by decide) rfl) ?_) | (refine Z16 ?_; first | refine Z17 rfl ?_ | refine Z18 rfl ?_) | (refine Z19 ?_; first | refine Z20 rfl rfl (by omega) ?_ | refine Z21 rfl rfl (by omega) ?_ | refine Z22 rfl rfl (by omega) ?_ | refine Z23 rfl rfl (by omega) (by omega) ?_ | refine Z24 rfl rfl (by omega) (by omega) (by omega) ?_ | refine Z13 (Z25 rfl rfl) ?_ | refine Z13 (Z26 rfl rfl) ?_) | (refine Z27 ?_; refine Z13 (Z28 rfl (Z53 ⟨by omega, by omega⟩)) ?_) | (refine Z29 ?_; refine Z13 (Z30 rfl (by rfl) (by simp only [Z84, List.set_cons_zero, List.set_cons_succ]; rfl)) ?_) | refine Z31 ?_) | (refine Z32 ?_; first | refine Z33 ?_ | refine Z34 ?_ | refine Z35 ?_ | refine Z36 ?_ | refine Z37 ?_ | refine Z38 rfl ?_ | refine Z39 ?_ | refine Z40 ?_ | refine Z41 ?_) | (refine Z42 ?_; first | refine Z43 ?_ | refine Z44 ?_ | refine Z45 ?_ | refine Z46 ?_ | refine Z47 ?_ | refine Z48 ?_ | refine Z49 rfl (by decide) ?_ | refine Z50 rfl (by decide) ?_))
        refine W_held0E [] (UnrB 29 [(1, .int .i64 (i : Int)), (4, .pointer (some ⟨w1.heap.size, 0, none⟩)), (6, .pointer (some ⟨w5.heap.size, 0, none⟩))] (t.snoc op x y n t e) w9) (by kernel_rfl) (fun ws es hS => ?_) (fun τ wa hTT => ?_)
        · have hss := es.size_le
          have e0s := e0.trans es
          replace hs := hs.ext es
          first | refine Z82 0 rfl (by kernel_rfl) (by kernel_rfl) (by kernel_rfl) (by assumption) (fun w' hw' => Z56 rfl) ?_ | refine Z82 0 rfl (by kernel_rfl) (by kernel_rfl) (by kernel_rfl) (by assumption) (fun w' hw' => Z63 rfl rfl) ?_ | refine Z82 0 rfl (by kernel_rfl) (by kernel_rfl) (by kernel_rfl) (by assumption) (fun w' hw' => Z64 rfl rfl) ?_ | refine Z82 0 rfl (by kernel_rfl) (by kernel_rfl) (by kernel_rfl) (by assumption) (fun w' hw' => Z75 rfl rfl (by omega)) ?_ | refine Z82 0 rfl (by kernel_rfl) (by kernel_rfl) (by kernel_rfl) (by assumption) (fun w' hw' => Z72 rfl) ?_ | refine Z82 0 rfl (by kernel_rfl) (by kernel_rfl) (by kernel_rfl) (by assumption) (fun w' hw' => Z69 rfl rfl rfl (by omega)) ?_ | refine Z82 0 rfl (by kernel_rfl) (by kernel_rfl) (by kernel_rfl) (by assumption) (fun w' hw' => Z30 rfl (by rfl) (by simp only [Z84, List.set_cons_zero, List.set_cons_succ]; rfl)) ?_
          refine Z82 1 rfl (by kernel_rfl) (by kernel_rfl) (by kernel_rfl) (by assumption) (fun w' hw' => Z66 rfl (hs.chg hw' (by simp)) rfl) ?_
          first | refine Z82 2 rfl (by kernel_rfl) (by kernel_rfl) (by kernel_rfl) (by assumption) (fun w' hw' => Z56 rfl) ?_ | refine Z82 2 rfl (by kernel_rfl) (by kernel_rfl) (by kernel_rfl) (by assumption) (fun w' hw' => Z63 rfl rfl) ?_ | refine Z82 2 rfl (by kernel_rfl) (by kernel_rfl) (by kernel_rfl) (by assumption) (fun w' hw' => Z64 rfl rfl) ?_ | refine Z82 2 rfl (by kernel_rfl) (by kernel_rfl) (by kernel_rfl) (by assumption) (fun w' hw' => Z75 rfl rfl (by omega)) ?_ | refine Z82 2 rfl (by kernel_rfl) (by kernel_rfl) (by kernel_rfl) (by assumption) (fun w' hw' => Z72 rfl) ?_ | refine Z82 2 rfl (by kernel_rfl) (by kernel_rfl) (by kernel_rfl) (by assumption) (fun w' hw' => Z69 rfl rfl rfl (by omega)) ?_ | refine Z82 2 rfl (by kernel_rfl) (by kernel_rfl) (by kernel_rfl) (by assumption) (fun w' hw' => Z30 rfl (by rfl) (by simp only [Z84, List.set_cons_zero, List.set_cons_succ]; rfl)) ?_
          refine Z82 3 rfl (by kernel_rfl) (by kernel_rfl) (by kernel_rfl) (by assumption) (fun w' hw' => Z69 (j := i) rfl rfl rfl (by omega)) ?_
          first | refine Z82 4 rfl (by kernel_rfl) (by kernel_rfl) (by kernel_rfl) (by assumption) (fun w' hw' => Z56 rfl) ?_ | refine Z82 4 rfl (by kernel_rfl) (by kernel_rfl) (by kernel_rfl) (by assumption) (fun w' hw' => Z63 rfl rfl) ?_ | refine Z82 4 rfl (by kernel_rfl) (by kernel_rfl) (by kernel_rfl) (by assumption) (fun w' hw' => Z64 rfl rfl) ?_ | refine Z82 4 rfl (by kernel_rfl) (by kernel_rfl) (by kernel_rfl) (by assumption) (fun w' hw' => Z75 rfl rfl (by omega)) ?_ | refine Z82 4 rfl (by kernel_rfl) (by kernel_rfl) (by kernel_rfl) (by assumption) (fun w' hw' => Z72 rfl) ?_ | refine Z82 4 rfl (by kernel_rfl) (by kernel_rfl) (by kernel_rfl) (by assumption) (fun w' hw' => Z69 rfl rfl rfl (by omega)) ?_ | refine Z82 4 rfl (by kernel_rfl) (by kernel_rfl) (by kernel_rfl) (by assumption) (fun w' hw' => Z30 rfl (by rfl) (by simp only [Z84, List.set_cons_zero, List.set_cons_succ]; rfl)) ?_
          refine Z82 5 rfl (by kernel_rfl) (by kernel_rfl) (by kernel_rfl) (by assumption) (fun w' hw' => Z67 rfl (by have := cell_chg (cell_ext (hc1 4 _ rfl) e0s) hw' (by simp); rw [Nat.zero_add] at *; exact this)) ?_
          first | refine Z82 7 rfl (by kernel_rfl) (by kernel_rfl) (by kernel_rfl) (by assumption) (fun w' hw' => Z56 rfl) ?_ | refine Z82 7 rfl (by kernel_rfl) (by kernel_rfl) (by kernel_rfl) (by assumption) (fun w' hw' => Z63 rfl rfl) ?_ | refine Z82 7 rfl (by kernel_rfl) (by kernel_rfl) (by kernel_rfl) (by assumption) (fun w' hw' => Z64 rfl rfl) ?_ | refine Z82 7 rfl (by kernel_rfl) (by kernel_rfl) (by kernel_rfl) (by assumption) (fun w' hw' => Z75 rfl rfl (by omega)) ?_ | refine Z82 7 rfl (by kernel_rfl) (by kernel_rfl) (by kernel_rfl) (by assumption) (fun w' hw' => Z72 rfl) ?_ | refine Z82 7 rfl (by kernel_rfl) (by kernel_rfl) (by kernel_rfl) (by assumption) (fun w' hw' => Z69 rfl rfl rfl (by omega)) ?_ | refine Z82 7 rfl (by kernel_rfl) (by kernel_rfl) (by kernel_rfl) (by assumption) (fun w' hw' => Z30 rfl (by rfl) (by simp only [Z84, List.set_cons_zero, List.set_cons_succ]; rfl)) ?_
          refine Z82 8 rfl (by kernel_rfl) (by kernel_rfl) (by kernel_rfl) (by assumption) (fun w' hw' => Z66 rfl (hs.chg hw' (by simp)) rfl) ?_
          first | refine Z82 9 rfl (by kernel_rfl) (by kernel_rfl) (by kernel_rfl) (by assumption) (fun w' hw' => Z56 rfl) ?_ | refine Z82 9 rfl (by kernel_rfl) (by kernel_rfl) (by kernel_rfl) (by assumption) (fun w' hw' => Z63 rfl rfl) ?_ | refine Z82 9 rfl (by kernel_rfl) (by kernel_rfl) (by kernel_rfl) (by assumption) (fun w' hw' => Z64 rfl rfl) ?_ | refine Z82 9 rfl (by kernel_rfl) (by kernel_rfl) (by kernel_rfl) (by assumption) (fun w' hw' => Z75 rfl rfl (by omega)) ?_ | refine Z82 9 rfl (by kernel_rfl) (by kernel_rfl) (by kernel_rfl) (by assumption) (fun w' hw' => Z72 rfl) ?_ | refine Z82 9 rfl (by kernel_rfl) (by kernel_rfl) (by kernel_rfl) (by assumption) (fun w' hw' => Z69 rfl rfl rfl (by omega)) ?_ | refine Z82 9 rfl (by kernel_rfl) (by kernel_rfl) (by kernel_rfl) (by assumption) (fun w' hw' => Z30 rfl (by rfl) (by simp only [Z84, List.set_cons_zero, List.set_cons_succ]; rfl)) ?_
          first | refine Z82 10 rfl (by kernel_rfl) (by kernel_rfl) (by kernel_rfl) (by assumption) (fun w' hw' => Z56 rfl) ?_ | refine Z82 10 rfl (by kernel_rfl) (by kernel_rfl) (by kernel_rfl) (by assumption) (fun w' hw' => Z63 rfl rfl) ?_ | refine Z82 10 rfl (by kernel_rfl) (by kernel_rfl) (by kernel_rfl) (by assumption) (fun w' hw' => Z64 rfl rfl) ?_ | refine Z82 10 rfl (by kernel_rfl) (by kernel_rfl) (by kernel_rfl) (by assumption) (fun w' hw' => Z75 rfl rfl (by omega)) ?_ | refine Z82 10 rfl (by kernel_rfl) (by kernel_rfl) (by kernel_rfl) (by assumption) (fun w' hw' => Z72 rfl) ?_ | refine Z82 10 rfl (by kernel_rfl) (by kernel_rfl) (by kernel_rfl) (by assumption) (fun w' hw' => Z69 rfl rfl rfl (by omega)) ?_ | refine Z82 10 rfl (by kernel_rfl) (by kernel_rfl) (by kernel_rfl) (by assumption) (fun w' hw' => Z30 rfl (by rfl) (by simp only [Z84, List.set_cons_zero, List.set_cons_succ]; rfl)) ?_
          first | refine Z82 11 rfl (by kernel_rfl) (by kernel_rfl) (by kernel_rfl) (by assumption) (fun w' hw' => Z56 rfl) ?_ | refine Z82 11 rfl (by kernel_rfl) (by kernel_rfl) (by kernel_rfl) (by assumption) (fun w' hw' => Z63 rfl rfl) ?_ | refine Z82 11 rfl (by kernel_rfl) (by kernel_rfl) (by kernel_rfl) (by assumption) (fun w' hw' => Z64 rfl rfl) ?_ | refine Z82 11 rfl (by kernel_rfl) (by kernel_rfl) (by kernel_rfl) (by assumption) (fun w' hw' => Z75 rfl rfl (by omega)) ?_ | refine Z82 11 rfl (by kernel_rfl) (by kernel_rfl) (by kernel_rfl) (by assumption) (fun w' hw' => Z72 rfl) ?_ | refine Z82 11 rfl (by kernel_rfl) (by kernel_rfl) (by kernel_rfl) (by assumption) (fun w' hw' => Z69 rfl rfl rfl (by omega)) ?_ | refine Z82 11 rfl (by kernel_rfl) (by kernel_rfl) (by kernel_rfl) (by assumption) (fun w' hw' => Z30 rfl (by rfl) (by simp only [Z84, List.set_cons_zero, List.set_cons_succ]; rfl)) ?_
          refine Z82 12 rfl (by kernel_rfl) (by kernel_rfl) (by kernel_rfl) (by assumption) (fun w' hw' => q_slMid (l := i) (h := i + 1) rfl rfl rfl rfl (by omega) (by omega) (by omega)) ?_
          rw [show i + 1 - i = 1 from by omega]
          refine WX_call 6 rfl (by kernel_rfl) rfl (l1Copy_all t vt Ft ws (hT.ext e0s) (by omega)) ?_
          rintro va wb ⟨⟨xs, Fs, r1, r2, r3, r4⟩, eb⟩
          refine ⟨eb.chg _, ?_⟩
          refine WX_call 13 rfl (by kernel_rfl) rfl (l1Copy_all (Ss.one op x y n t e) _ Fm wb (hMid.ext (e0s.trans eb)) (by simp [Ss.one, cntL]; omega)) ?_
          rintro vb wc ⟨⟨ys, Fy, y1, y2, y3, y4⟩, ec⟩
          refine ⟨(eb.trans ec).chg _, ?_⟩
          have hyl := StkS.length _ _ _ y2
          have hyo := StkS.one _ _ _ y2
          have hlt2 := StkS.lt _ _ _ r2
          have hlty := StkS.lt _ _ _ y2
          have sb := eb.size_le
          have sc := ec.size_le
          obtain ⟨gy, capy, rfl, hcy⟩ := row_cells y1 (by simp [Ss.one, Ss.len])
          refine WH_one 14 rfl (by kernel_rfl) (WO_append (B := ws.heap.size) (mm := 1) (news := ys) rfl (ownsRow_ext r1 ec) rfl (by rw [hyl]; rfl) (fun j u hu => by have := hcy j u hu; exact this) hyo (eb.trans ec).size_le (by decide) (by omega) (by decide) fun v3 wd k31 k32 k33 => Z31 (at_held ((ext_grown (eb.trans ec) k32 fun b hb => r4 b (by simp [hb])).chg _) ?_))
          have ed := ext_grown (eb.trans ec) k32 fun b hb => r4 b (by simp [hb])
          have hvlt : ∀ z ∈ va.ownBlock.toList, z < wb.heap.size := fun z hz => (r1.lt z (by simpa using hz)).2
          have hdd : ∀ z ∈ Fs ++ Fy, z ∉ va.ownBlock.toList := fun z hz hm => by
            rcases List.mem_append.1 hz with hz | hz
            · exact (List.nodup_append.1 r3).2.2 z hm z hz rfl
            · have := hvlt z hm
              have := y4 z (by simp [hz])
              omega
          have hrow3 := row_app (StkS.ext ec r2) y2 (grown_chg k32) hdd k31
          have hSd : Chg [] ws wd := ed.chg _
          refine Z82 15 rfl (by kernel_rfl) (by kernel_rfl) (by kernel_rfl) (by assumption) (fun w' hw' => Z56 rfl) ?_
          refine WH_doneE (by kernel_rfl) (by repeat (first | exact True.intro | refine And.intro rfl ?_)) ⟨v3, _, rfl, hrow3, ?_, ?_, es.trans ed⟩
          · refine List.nodup_append.2 ⟨nodup_own _, List.nodup_append.2 ⟨(List.nodup_append.1 r3).2.1, (List.nodup_append.1 y3).2.1, fun a ha b hb e => ?_⟩, fun a ha b hb e => ?_⟩
            · subst e
              have := hlt2 _ ha
              have := y4 a (by simp [hb])
              omega
            · subst e
              rcases k33 with k33 | k33
              · rw [k33] at ha; exact hdd _ hb ha
              · rw [k33] at ha
                simp at ha
                rcases List.mem_append.1 hb with hb | hb
                · have := hlt2 _ hb; omega
                · have := hlty _ hb; omega
          · intro b hb
            rcases List.mem_append.1 hb with hb | hb
            · rcases k33 with k33 | k33
              · rw [k33] at hb; have := r4 b (by simp at hb; simp [hb]); omega
              · rw [k33] at hb; simp at hb; omega
            · rcases List.mem_append.1 hb with hb | hb
              · have := r4 b (by simp [hb]); omega
              · have := y4 b (by simp [hb]); omega
        · obtain ⟨v3, F3, rfl, hr3, n3, b3, e10⟩ := hTT
          have on5 := hr3.one
          have hlt3 := hr3.lt
          replace k1 := k1.ext e10
          have ho7' := ho7.ext e10
          have s10' := e10.size_le
          have hcnt : cntL ((l.take i).app (.cons 9 0 0 0 (t.snoc op x y n t e) .nil r)) ≤ 1073741824 := by
            have := cntL_app t (Ss.one op x y n t e)
            simp only [cntL_app, cntL, Ss.snoc, Ss.one] at *
            omega
          repeat (first | (refine Z0 ?_; first | refine Z1 rfl ?_ | (refine Z2 ?_; first | refine Z3 rfl rfl (by decide) ?_ | refine Z4 rfl rfl (by decide) ?_ | refine Z5 rfl rfl ?_) | (refine Z6 ?_; first | refine Z7 rfl rfl ?_ | refine Z8 rfl rfl ?_) | (refine Z9 ?_; first | refine Z10 rfl (by assumption) (by rfl) ?_ | refine Z11 rfl (by assumption) ?_) | (refine Z12 ?_; first | refine Z13 (Z14 rfl (by decide) rfl) ?_ | refine Z13 (Z15 rfl (by decide) rfl) ?_) | (refine Z16 ?_; first | refine Z17 rfl ?_ | refine Z18 rfl ?_) | (refine Z19 ?_; first | refine Z20 rfl rfl (by omega) ?_ | refine Z21 rfl rfl (by omega) ?_ | refine Z22 rfl rfl (by omega) ?_ | refine Z23 rfl rfl (by omega) (by omega) ?_ | refine Z24 rfl rfl (by omega) (by omega) (by omega) ?_ | refine Z13 (Z25 rfl rfl) ?_ | refine Z13 (Z26 rfl rfl) ?_) | (refine Z27 ?_; refine Z13 (Z28 rfl (Z53 ⟨by omega, by omega⟩)) ?_) | (refine Z29 ?_; refine Z13 (Z30 rfl (by rfl) (by simp only [Z84, List.set_cons_zero, List.set_cons_succ]; rfl)) ?_) | refine Z31 ?_) | (refine Z32 ?_; first | refine Z33 ?_ | refine Z34 ?_ | refine Z35 ?_ | refine Z36 ?_ | refine Z37 ?_ | refine Z38 rfl ?_ | refine Z39 ?_ | refine Z40 ?_ | refine Z41 ?_) | (refine Z42 ?_; first | refine Z43 ?_ | refine Z44 ?_ | refine Z45 ?_ | refine Z46 ?_ | refine Z47 ?_ | refine Z48 ?_ | refine Z49 rfl (by decide) ?_ | refine Z50 rfl (by decide) ?_))
          refine Z13 (Z30 (cs := [.int .i64 9, .int .i64 0, .int .i64 0, .int .i64 0, v3, .slice none 0 0]) rfl (by simp [partsOk, on5]; rfl) rfl) ?_
          refine Z83 (j := i) rfl rfl rfl hlen2 ?_
          refine WO_storeS (k := 6) (vs := [.int .i64 9, .int .i64 0, .int .i64 0, .int .i64 0, v3, .slice none 0 0]) rfl rfl rfl (by intro v hv; simp at hv; rcases hv with rfl | rfl | rfl | rfl <;> first | rfl | exact on5) k1 (by omega) fun w10 hb10 o10 => ?_
          have c10 : Chg [g] w9 w10 := (e10.chg _).trans o10.chg
          replace hr3 := hr3.chg o10.chg (fun z hz hm => by simp at hm; subst hm; have := b3 _ hz; omega)
          have b3' : ∀ b ∈ F3, b ∈ Gt ++ Ge ∨ w9.heap.size ≤ b := fun b hb => .inr (b3 b hb)
          have hgn : g ∉ G1 ++ G2 := by
            have := (List.nodup_append.1 h53).2.1
            simp only [List.nodup_cons, List.mem_append, not_or] at this
            simp only [List.mem_append, not_or]
            exact ⟨this.1.1, this.1.2.2.2⟩
          have hnew := k3 w10 9 0 0 0 (t.snoc op x y n t e) .nil v3 (.slice none 0 0) F3 [] (by rw [q2]; exact hb10) hr3 (RowS.nil_ _ _) c10 hgn
          replace hr := hr.chg c10 (by simp; omega)
          replace ho7 := ho7.chg c10 (by simp; omega)
          replace h51 := h51.chg c10 (fun z hz hm => by simp at hm; subst hm; exact (List.nodup_append.1 h53).2.2 z hz z (by simp) rfl)
          have e10 : Ext w w10 := c10.ext_of e0 (by simp; omega)
          have s10 := c10.size
          have hlt5 := h51.lt
          have heq : (l.take i).app (.cons 9 0 0 0 (t.snoc op x y n t e) .nil r) = (l.take i).app (.cons 9 0 0 0 (t.snoc op x y n t e) .nil r) := rfl
          have hnd : (Ft5 ++ g :: (G1 ++ (F3 ++ ([] ++ G2)))).Nodup := by
            have hq := h53
            simp only [List.nil_append, List.nodup_append, List.nodup_cons, List.mem_append, List.mem_cons, not_or] at hq ⊢
            obtain ⟨a1, ⟨⟨a2, a3, a4, a5⟩, b1, ⟨b2, ⟨b3, b4, b5⟩, b6⟩, b7⟩, a6⟩ := hq
            have fresh : ∀ z, z < w9.heap.size → z ∉ Gt → z ∉ Ge → z ∉ F3 := fun z h1 h2 h3 hm => by
              rcases b3' z hm with h | h
              · rcases List.mem_append.1 h with h | h
                · exact h2 h
                · exact h3 h
              · omega
            have l5 : ∀ z ∈ Ft5, z < w9.heap.size := hlt9
            refine ⟨a1, ⟨⟨a2, fresh g hgl a3 a4, a5⟩, b1, ⟨n3, b4, fun a ha b hb e => ?_⟩, fun a ha b hb e => ?_⟩, fun a ha b hb e => ?_⟩
            · subst e; exact fresh _ (hltG2 _ hb) (fun h => b6 _ h _ (.inr hb) rfl) (fun h => b5 _ h _ hb rfl) ha
            · subst e
              rcases hb with hb | hb
              · exact fresh _ (hltG1 _ ha) (fun h => b7 _ ha _ (.inl h) rfl) (fun h => b7 _ ha _ (.inr (.inl h)) rfl) hb
              · exact b7 _ ha _ (.inr (.inr hb)) rfl
            · subst e
              rcases hb with hb | hb | hb | hb
              · exact a6 _ ha _ (.inl hb) rfl
              · exact a6 _ ha _ (.inr (.inl hb)) rfl
              · exact fresh _ (l5 _ ha) (fun h => a6 _ ha _ (.inr (.inr (.inl h))) rfl) (fun h => a6 _ ha _ (.inr (.inr (.inr (.inl h)))) rfl) hb
              · exact a6 _ ha _ (.inr (.inr (.inr (.inr hb)))) rfl
          have hmem : ∀ z ∈ Ft5 ++ g :: (G1 ++ (F3 ++ ([] ++ G2))), w1.heap.size < z := fun z hz => by
            simp only [List.nil_append, List.mem_append, List.mem_cons] at hz
            have hold : ∀ z, z ∈ Ft5 ++ g :: (G1 ++ (Gt ++ (Ge ++ G2))) → w1.heap.size < z := fun z hz => by have := (h54 z hz).1; omega
            rcases hz with hz | hz | hz | hz | hz
            · exact hold z (by simp [hz])
            · exact hold z (by simp [hz])
            · exact hold z (by simp [hz])
            · rcases b3' z hz with h | h
              · exact hold z (by simp at h; rcases h with h | h <;> simp [h])
              · omega
            · exact hold z (by simp [hz])
          repeat (first | (refine Z0 ?_; first | refine Z1 rfl ?_ | (refine Z2 ?_; first | refine Z3 rfl rfl (by decide) ?_ | refine Z4 rfl rfl (by decide) ?_ | refine Z5 rfl rfl ?_) | (refine Z6 ?_; first | refine Z7 rfl rfl ?_ | refine Z8 rfl rfl ?_) | (refine Z9 ?_; first | refine Z10 rfl (by assumption) (by rfl) ?_ | refine Z11 rfl (by assumption) ?_) | (refine Z12 ?_; first | refine Z13 (Z14 rfl (by decide) rfl) ?_ | refine Z13 (Z15 rfl (by decide) rfl) ?_) | (refine Z16 ?_; first | refine Z17 rfl ?_ | refine Z18 rfl ?_) | (refine Z19 ?_; first | refine Z20 rfl rfl (by omega) ?_ | refine Z21 rfl rfl (by omega) ?_ | refine Z22 rfl rfl (by omega) ?_ | refine Z23 rfl rfl (by omega) (by omega) ?_ | refine Z24 rfl rfl (by omega) (by omega) (by omega) ?_ | refine Z13 (Z25 rfl rfl) ?_ | refine Z13 (Z26 rfl rfl) ?_) | (refine Z27 ?_; refine Z13 (Z28 rfl (Z53 ⟨by omega, by omega⟩)) ?_) | (refine Z29 ?_; refine Z13 (Z30 rfl (by rfl) (by simp only [Z84, List.set_cons_zero, List.set_cons_succ]; rfl)) ?_) | refine Z31 ?_) | (refine Z32 ?_; first | refine Z33 ?_ | refine Z34 ?_ | refine Z35 ?_ | refine Z36 ?_ | refine Z37 ?_ | refine Z38 rfl ?_ | refine Z39 ?_ | refine Z40 ?_ | refine Z41 ?_) | (refine Z42 ?_; first | refine Z43 ?_ | refine Z44 ?_ | refine Z45 ?_ | refine Z46 ?_ | refine Z47 ?_ | refine Z48 ?_ | refine Z49 rfl (by decide) ?_ | refine Z50 rfl (by decide) ?_))
          refine WO_loadSB rfl ho7 rfl ?_
          refine WO_call rfl (sProgramValid_ret tv' _ tl _ _ _ w10 h51.int hnew.sts hcnt) ?_
          rintro _ w11 ⟨rfl, e11⟩
          replace hr := hr.ext e11
          replace ho7 := ho7.ext e11
          replace h51 := h51.ext e11
          replace hnew := hnew.ext e11
          replace e10 := e10.trans e11
          cases hv2 : validP tl ((l.take i).app (.cons 9 0 0 0 (t.snoc op x y n t e) .nil r))
          · have hnone : unrR tl l (i : Int) = none := by rw [hfw]; simp only [unrAt]; rw [if_neg (fun h => by rw [hv2] at h; cases h.2)]
            repeat (first | (refine Z0 ?_; first | refine Z1 rfl ?_ | (refine Z2 ?_; first | refine Z3 rfl rfl (by decide) ?_ | refine Z4 rfl rfl (by decide) ?_ | refine Z5 rfl rfl ?_) | (refine Z6 ?_; first | refine Z7 rfl rfl ?_ | refine Z8 rfl rfl ?_) | (refine Z9 ?_; first | refine Z10 rfl (by assumption) (by rfl) ?_ | refine Z11 rfl (by assumption) ?_) | (refine Z12 ?_; first | refine Z13 (Z14 rfl (by decide) rfl) ?_ | refine Z13 (Z15 rfl (by decide) rfl) ?_) | (refine Z16 ?_; first | refine Z17 rfl ?_ | refine Z18 rfl ?_) | (refine Z19 ?_; first | refine Z20 rfl rfl (by omega) ?_ | refine Z21 rfl rfl (by omega) ?_ | refine Z22 rfl rfl (by omega) ?_ | refine Z23 rfl rfl (by omega) (by omega) ?_ | refine Z24 rfl rfl (by omega) (by omega) (by omega) ?_ | refine Z13 (Z25 rfl rfl) ?_ | refine Z13 (Z26 rfl rfl) ?_) | (refine Z27 ?_; refine Z13 (Z28 rfl (Z53 ⟨by omega, by omega⟩)) ?_) | (refine Z29 ?_; refine Z13 (Z30 rfl (by rfl) (by simp only [Z84, List.set_cons_zero, List.set_cons_succ]; rfl)) ?_) | refine Z31 ?_) | (refine Z32 ?_; first | refine Z33 ?_ | refine Z34 ?_ | refine Z35 ?_ | refine Z36 ?_ | refine Z37 ?_ | refine Z38 rfl ?_ | refine Z39 ?_ | refine Z40 ?_ | refine Z41 ?_) | (refine Z42 ?_; first | refine Z43 ?_ | refine Z44 ?_ | refine Z45 ?_ | refine Z46 ?_ | refine Z47 ?_ | refine Z48 ?_ | refine Z49 rfl (by decide) ?_ | refine Z50 rfl (by decide) ?_))
            refine WO_storeS (k := 2) (vs := [.slice none 0 0, .slice none 0 0]) rfl rfl rfl (by intro v hv; simp at hv; subst hv; rfl) hr (by decide) fun wz hz oz => ?_
            replace hz : Blk wz w1.heap.size [.slice none 0 0, .slice none 0 0] _ := hz
            repeat (first | (refine Z0 ?_; first | refine Z1 rfl ?_ | (refine Z2 ?_; first | refine Z3 rfl rfl (by decide) ?_ | refine Z4 rfl rfl (by decide) ?_ | refine Z5 rfl rfl ?_) | (refine Z6 ?_; first | refine Z7 rfl rfl ?_ | refine Z8 rfl rfl ?_) | (refine Z9 ?_; first | refine Z10 rfl (by assumption) (by rfl) ?_ | refine Z11 rfl (by assumption) ?_) | (refine Z12 ?_; first | refine Z13 (Z14 rfl (by decide) rfl) ?_ | refine Z13 (Z15 rfl (by decide) rfl) ?_) | (refine Z16 ?_; first | refine Z17 rfl ?_ | refine Z18 rfl ?_) | (refine Z19 ?_; first | refine Z20 rfl rfl (by omega) ?_ | refine Z21 rfl rfl (by omega) ?_ | refine Z22 rfl rfl (by omega) ?_ | refine Z23 rfl rfl (by omega) (by omega) ?_ | refine Z24 rfl rfl (by omega) (by omega) (by omega) ?_ | refine Z13 (Z25 rfl rfl) ?_ | refine Z13 (Z26 rfl rfl) ?_) | (refine Z27 ?_; refine Z13 (Z28 rfl (Z53 ⟨by omega, by omega⟩)) ?_) | (refine Z29 ?_; refine Z13 (Z30 rfl (by rfl) (by simp only [Z84, List.set_cons_zero, List.set_cons_succ]; rfl)) ?_) | refine Z31 ?_) | (refine Z32 ?_; first | refine Z33 ?_ | refine Z34 ?_ | refine Z35 ?_ | refine Z36 ?_ | refine Z37 ?_ | refine Z38 rfl ?_ | refine Z39 ?_ | refine Z40 ?_ | refine Z41 ?_) | (refine Z42 ?_; first | refine Z43 ?_ | refine Z44 ?_ | refine Z45 ?_ | refine Z46 ?_ | refine Z47 ?_ | refine Z48 ?_ | refine Z49 rfl (by decide) ?_ | refine Z50 rfl (by decide) ?_))
            exact at_ret2G rfl (.cell inferInstance rfl hz rfl) (.tmp rfl) (by rw [hnone]; exact PrO.none_ (Ext.only e10 oz s1))
          · have hsome : unrR tl l (i : Int) = some ((l.take i).app (.cons 9 0 0 0 (t.snoc op x y n t e) .nil r)) := by rw [hfw]; simp only [unrAt]; rw [if_pos ⟨h10, hv2⟩]
            repeat (first | (refine Z0 ?_; first | refine Z1 rfl ?_ | (refine Z2 ?_; first | refine Z3 rfl rfl (by decide) ?_ | refine Z4 rfl rfl (by decide) ?_ | refine Z5 rfl rfl ?_) | (refine Z6 ?_; first | refine Z7 rfl rfl ?_ | refine Z8 rfl rfl ?_) | (refine Z9 ?_; first | refine Z10 rfl (by assumption) (by rfl) ?_ | refine Z11 rfl (by assumption) ?_) | (refine Z12 ?_; first | refine Z13 (Z14 rfl (by decide) rfl) ?_ | refine Z13 (Z15 rfl (by decide) rfl) ?_) | (refine Z16 ?_; first | refine Z17 rfl ?_ | refine Z18 rfl ?_) | (refine Z19 ?_; first | refine Z20 rfl rfl (by omega) ?_ | refine Z21 rfl rfl (by omega) ?_ | refine Z22 rfl rfl (by omega) ?_ | refine Z23 rfl rfl (by omega) (by omega) ?_ | refine Z24 rfl rfl (by omega) (by omega) (by omega) ?_ | refine Z13 (Z25 rfl rfl) ?_ | refine Z13 (Z26 rfl rfl) ?_) | (refine Z27 ?_; refine Z13 (Z28 rfl (Z53 ⟨by omega, by omega⟩)) ?_) | (refine Z29 ?_; refine Z13 (Z30 rfl (by rfl) (by simp only [Z84, List.set_cons_zero, List.set_cons_succ]; rfl)) ?_) | refine Z31 ?_) | (refine Z32 ?_; first | refine Z33 ?_ | refine Z34 ?_ | refine Z35 ?_ | refine Z36 ?_ | refine Z37 ?_ | refine Z38 rfl ?_ | refine Z39 ?_ | refine Z40 ?_ | refine Z41 ?_) | (refine Z42 ?_; first | refine Z43 ?_ | refine Z44 ?_ | refine Z45 ?_ | refine Z46 ?_ | refine Z47 ?_ | refine Z48 ?_ | refine Z49 rfl (by decide) ?_ | refine Z50 rfl (by decide) ?_))
            refine WO_loadSB rfl ho7 rfl ?_
            refine WO_storeS (k := 2) (vs := [tv', .slice (some ⟨g, 0, none⟩) ((l.take i).app (.cons op x y n t e r)).len cap]) rfl rfl rfl (by simp; exact ⟨on1, rfl⟩) hr (by decide) fun w12 hr12 o12 => ?_
            replace hr12 : Blk w12 w1.heap.size [tv', .slice (some ⟨g, 0, none⟩) ((l.take i).app (.cons op x y n t e r)).len cap] _ := hr12
            repeat (first | (refine Z0 ?_; first | refine Z1 rfl ?_ | (refine Z2 ?_; first | refine Z3 rfl rfl (by decide) ?_ | refine Z4 rfl rfl (by decide) ?_ | refine Z5 rfl rfl ?_) | (refine Z6 ?_; first | refine Z7 rfl rfl ?_ | refine Z8 rfl rfl ?_) | (refine Z9 ?_; first | refine Z10 rfl (by assumption) (by rfl) ?_ | refine Z11 rfl (by assumption) ?_) | (refine Z12 ?_; first | refine Z13 (Z14 rfl (by decide) rfl) ?_ | refine Z13 (Z15 rfl (by decide) rfl) ?_) | (refine Z16 ?_; first | refine Z17 rfl ?_ | refine Z18 rfl ?_) | (refine Z19 ?_; first | refine Z20 rfl rfl (by omega) ?_ | refine Z21 rfl rfl (by omega) ?_ | refine Z22 rfl rfl (by omega) ?_ | refine Z23 rfl rfl (by omega) (by omega) ?_ | refine Z24 rfl rfl (by omega) (by omega) (by omega) ?_ | refine Z13 (Z25 rfl rfl) ?_ | refine Z13 (Z26 rfl rfl) ?_) | (refine Z27 ?_; refine Z13 (Z28 rfl (Z53 ⟨by omega, by omega⟩)) ?_) | (refine Z29 ?_; refine Z13 (Z30 rfl (by rfl) (by simp only [Z84, List.set_cons_zero, List.set_cons_succ]; rfl)) ?_) | refine Z31 ?_) | (refine Z32 ?_; first | refine Z33 ?_ | refine Z34 ?_ | refine Z35 ?_ | refine Z36 ?_ | refine Z37 ?_ | refine Z38 rfl ?_ | refine Z39 ?_ | refine Z40 ?_ | refine Z41 ?_) | (refine Z42 ?_; first | refine Z43 ?_ | refine Z44 ?_ | refine Z45 ?_ | refine Z46 ?_ | refine Z47 ?_ | refine Z48 ?_ | refine Z49 rfl (by decide) ?_ | refine Z50 rfl (by decide) ?_))
            refine at_ret2G rfl (.cell inferInstance rfl hr12 rfl) (.tmp rfl) ?_
            rw [hsome]
            exact PrO.some_ (h51.chg o12.chg (fun z hz hm => by simp at hm; subst hm; have := hmem _ (List.mem_append_left _ hz); omega)) (hnew.chg o12.chg (fun z hz hm => by simp only [List.mem_singleton] at hm; subst hm; have := hmem _ (List.mem_append_right _ hz); omega)) hnd (fun z hz => by have := hmem z hz; omega) (e10.only o12 (by omega))
      · have hnone : unrR tl l (i : Int) = none := by rw [hfw]; simp [unrAt, h10]
        repeat' (first | (refine Z0 ?_; first | refine Z1 rfl ?_ | (refine Z2 ?_; first | refine Z3 rfl rfl (by decide) ?_ | refine Z4 rfl rfl (by decide) ?_ | refine Z5 rfl rfl ?_ | ((refine Z51 rfl rfl (fun c' hc' => ?_)); cases c' <;> (try simp only [decide_eq_true_eq, decide_eq_false_iff_not, beq_iff_eq, beq_eq_false_iff_ne, bne_iff_ne, bne_eq_false_iff_eq, ne_eq, gt_iff_lt, ge_iff_le, Int.not_lt, Int.not_le, Bool.not_eq_true', Bool.not_eq_false', Bool.not_true, Bool.not_false, reduceCtorEq, Decidable.not_not, not_true_eq_false, Bool.true_eq_false, Bool.false_eq_true] at hc') <;> (try (exfalso; omega)))) | (refine Z6 ?_; first | refine Z7 rfl rfl ?_ | refine Z8 rfl rfl ?_) | (refine Z9 ?_; first | refine Z10 rfl (by assumption) (by rfl) ?_ | refine Z11 rfl (by assumption) ?_) | (refine Z12 ?_; first | refine Z13 (Z14 rfl (by decide) rfl) ?_ | refine Z13 (Z15 rfl (by decide) rfl) ?_) | (refine Z16 ?_; first | refine Z17 rfl ?_ | refine Z18 rfl ?_) | (refine Z19 ?_; first | refine Z20 rfl rfl (by omega) ?_ | refine Z21 rfl rfl (by omega) ?_ | refine Z22 rfl rfl (by omega) ?_ | refine Z23 rfl rfl (by omega) (by omega) ?_ | refine Z24 rfl rfl (by omega) (by omega) (by omega) ?_ | refine Z13 (Z25 rfl rfl) ?_ | refine Z13 (Z26 rfl rfl) ?_) | (refine Z27 ?_; refine Z13 (Z28 rfl (Z53 ⟨by omega, by omega⟩)) ?_) | (refine Z29 ?_; refine Z13 (Z30 rfl (by rfl) (by simp only [Z84, List.set_cons_zero, List.set_cons_succ]; rfl)) ?_) | refine Z31 ?_) | (refine Z32 ?_; first | refine Z33 ?_ | refine Z34 ?_ | refine Z35 ?_ | refine Z36 ?_ | refine Z37 ?_ | refine Z38 rfl ?_ | refine Z39 ?_ | refine Z40 ?_ | refine Z41 ?_) | (refine Z42 ?_; first | refine Z43 ?_ | refine Z44 ?_ | refine Z45 ?_ | refine Z46 ?_ | refine Z47 ?_ | refine Z48 ?_ | refine Z49 rfl (by decide) ?_ | refine Z50 rfl (by decide) ?_ | ((refine Z52 rfl (fun hc' => ?_) (fun hc' => ?_)) <;> (try simp only [decide_eq_true_eq, decide_eq_false_iff_not, beq_iff_eq, beq_eq_false_iff_ne, bne_iff_ne, bne_eq_false_iff_eq, ne_eq, gt_iff_lt, ge_iff_le, Int.not_lt, Int.not_le, Bool.not_eq_true', Bool.not_eq_false', Bool.not_true, Bool.not_false, reduceCtorEq, Decidable.not_not, not_true_eq_false, Bool.true_eq_false, Bool.false_eq_true] at hc') <;> (try (exfalso; omega)))))
        refine WO_storeS (k := 2) (vs := [.slice none 0 0, .slice none 0 0]) rfl rfl rfl (by intro v hv; simp at hv; subst hv; rfl) hr (by decide) fun wz hz oz => ?_
        replace hz : Blk wz w1.heap.size [.slice none 0 0, .slice none 0 0] _ := hz
        repeat (first | (refine Z0 ?_; first | refine Z1 rfl ?_ | (refine Z2 ?_; first | refine Z3 rfl rfl (by decide) ?_ | refine Z4 rfl rfl (by decide) ?_ | refine Z5 rfl rfl ?_) | (refine Z6 ?_; first | refine Z7 rfl rfl ?_ | refine Z8 rfl rfl ?_) | (refine Z9 ?_; first | refine Z10 rfl (by assumption) (by rfl) ?_ | refine Z11 rfl (by assumption) ?_) | (refine Z12 ?_; first | refine Z13 (Z14 rfl (by decide) rfl) ?_ | refine Z13 (Z15 rfl (by decide) rfl) ?_) | (refine Z16 ?_; first | refine Z17 rfl ?_ | refine Z18 rfl ?_) | (refine Z19 ?_; first | refine Z20 rfl rfl (by omega) ?_ | refine Z21 rfl rfl (by omega) ?_ | refine Z22 rfl rfl (by omega) ?_ | refine Z23 rfl rfl (by omega) (by omega) ?_ | refine Z24 rfl rfl (by omega) (by omega) (by omega) ?_ | refine Z13 (Z25 rfl rfl) ?_ | refine Z13 (Z26 rfl rfl) ?_) | (refine Z27 ?_; refine Z13 (Z28 rfl (Z53 ⟨by omega, by omega⟩)) ?_) | (refine Z29 ?_; refine Z13 (Z30 rfl (by rfl) (by simp only [Z84, List.set_cons_zero, List.set_cons_succ]; rfl)) ?_) | refine Z31 ?_) | (refine Z32 ?_; first | refine Z33 ?_ | refine Z34 ?_ | refine Z35 ?_ | refine Z36 ?_ | refine Z37 ?_ | refine Z38 rfl ?_ | refine Z39 ?_ | refine Z40 ?_ | refine Z41 ?_) | (refine Z42 ?_; first | refine Z43 ?_ | refine Z44 ?_ | refine Z45 ?_ | refine Z46 ?_ | refine Z47 ?_ | refine Z48 ?_ | refine Z49 rfl (by decide) ?_ | refine Z50 rfl (by decide) ?_))
        exact at_ret2G rfl (.cell inferInstance rfl hz rfl) (.tmp rfl) (by rw [hnone]; exact PrO.none_ (Ext.only e0 oz s1))
    · have hnone := unrR_none (tl := tl) (l := l) (k := k) (by simp [hv]; omega)
      repeat' (first | (refine Z0 ?_; first | refine Z1 rfl ?_ | (refine Z2 ?_; first | refine Z3 rfl rfl (by decide) ?_ | refine Z4 rfl rfl (by decide) ?_ | refine Z5 rfl rfl ?_ | ((refine Z51 rfl rfl (fun c' hc' => ?_)); cases c' <;> (try simp only [decide_eq_true_eq, decide_eq_false_iff_not, beq_iff_eq, beq_eq_false_iff_ne, bne_iff_ne, bne_eq_false_iff_eq, ne_eq, gt_iff_lt, ge_iff_le, Int.not_lt, Int.not_le, Bool.not_eq_true', Bool.not_eq_false', Bool.not_true, Bool.not_false, reduceCtorEq, Decidable.not_not, not_true_eq_false, Bool.true_eq_false, Bool.false_eq_true] at hc') <;> (try (exfalso; omega)))) | (refine Z6 ?_; first | refine Z7 rfl rfl ?_ | refine Z8 rfl rfl ?_) | (refine Z9 ?_; first | refine Z10 rfl (by assumption) (by rfl) ?_ | refine Z11 rfl (by assumption) ?_) | (refine Z12 ?_; first | refine Z13 (Z14 rfl (by decide) rfl) ?_ | refine Z13 (Z15 rfl (by decide) rfl) ?_) | (refine Z16 ?_; first | refine Z17 rfl ?_ | refine Z18 rfl ?_) | (refine Z19 ?_; first | refine Z20 rfl rfl (by omega) ?_ | refine Z21 rfl rfl (by omega) ?_ | refine Z22 rfl rfl (by omega) ?_ | refine Z23 rfl rfl (by omega) (by omega) ?_ | refine Z24 rfl rfl (by omega) (by omega) (by omega) ?_ | refine Z13 (Z25 rfl rfl) ?_ | refine Z13 (Z26 rfl rfl) ?_) | (refine Z27 ?_; refine Z13 (Z28 rfl (Z53 ⟨by omega, by omega⟩)) ?_) | (refine Z29 ?_; refine Z13 (Z30 rfl (by rfl) (by simp only [Z84, List.set_cons_zero, List.set_cons_succ]; rfl)) ?_) | refine Z31 ?_) | (refine Z32 ?_; first | refine Z33 ?_ | refine Z34 ?_ | refine Z35 ?_ | refine Z36 ?_ | refine Z37 ?_ | refine Z38 rfl ?_ | refine Z39 ?_ | refine Z40 ?_ | refine Z41 ?_) | (refine Z42 ?_; first | refine Z43 ?_ | refine Z44 ?_ | refine Z45 ?_ | refine Z46 ?_ | refine Z47 ?_ | refine Z48 ?_ | refine Z49 rfl (by decide) ?_ | refine Z50 rfl (by decide) ?_ | ((refine Z52 rfl (fun hc' => ?_) (fun hc' => ?_)) <;> (try simp only [decide_eq_true_eq, decide_eq_false_iff_not, beq_iff_eq, beq_eq_false_iff_ne, bne_iff_ne, bne_eq_false_iff_eq, ne_eq, gt_iff_lt, ge_iff_le, Int.not_lt, Int.not_le, Bool.not_eq_true', Bool.not_eq_false', Bool.not_true, Bool.not_false, reduceCtorEq, Decidable.not_not, not_true_eq_false, Bool.true_eq_false, Bool.false_eq_true] at hc') <;> (try (exfalso; omega)))))
      all_goals
        refine WO_storeS (k := 2) (vs := [.slice none 0 0, .slice none 0 0]) rfl rfl rfl (by intro v hv; simp at hv; subst hv; rfl) hr (by decide) fun wz hz oz => ?_
        replace hz : Blk wz w1.heap.size [.slice none 0 0, .slice none 0 0] _ := hz
        repeat (first | (refine Z0 ?_; first | refine Z1 rfl ?_ | (refine Z2 ?_; first | refine Z3 rfl rfl (by decide) ?_ | refine Z4 rfl rfl (by decide) ?_ | refine Z5 rfl rfl ?_) | (refine Z6 ?_; first | refine Z7 rfl rfl ?_ | refine Z8 rfl rfl ?_) | (refine Z9 ?_; first | refine Z10 rfl (by assumption) (by rfl) ?_ | refine Z11 rfl (by assumption) ?_) | (refine Z12 ?_; first | refine Z13 (Z14 rfl (by decide) rfl) ?_ | refine Z13 (Z15 rfl (by decide) rfl) ?_) | (refine Z16 ?_; first | refine Z17 rfl ?_ | refine Z18 rfl ?_) | (refine Z19 ?_; first | refine Z20 rfl rfl (by omega) ?_ | refine Z21 rfl rfl (by omega) ?_ | refine Z22 rfl rfl (by omega) ?_ | refine Z23 rfl rfl (by omega) (by omega) ?_ | refine Z24 rfl rfl (by omega) (by omega) (by omega) ?_ | refine Z13 (Z25 rfl rfl) ?_ | refine Z13 (Z26 rfl rfl) ?_) | (refine Z27 ?_; refine Z13 (Z28 rfl (Z53 ⟨by omega, by omega⟩)) ?_) | (refine Z29 ?_; refine Z13 (Z30 rfl (by rfl) (by simp only [Z84, List.set_cons_zero, List.set_cons_succ]; rfl)) ?_) | refine Z31 ?_) | (refine Z32 ?_; first | refine Z33 ?_ | refine Z34 ?_ | refine Z35 ?_ | refine Z36 ?_ | refine Z37 ?_ | refine Z38 rfl ?_ | refine Z39 ?_ | refine Z40 ?_ | refine Z41 ?_) | (refine Z42 ?_; first | refine Z43 ?_ | refine Z44 ?_ | refine Z45 ?_ | refine Z46 ?_ | refine Z47 ?_ | refine Z48 ?_ | refine Z49 rfl (by decide) ?_ | refine Z50 rfl (by decide) ?_))
        exact at_ret2G rfl (.cell inferInstance rfl hz rfl) (.tmp rfl) (by rw [hnone]; exact PrO.none_ (Ext.only e0 oz s1))
end Go.Proofs.Ytpmfngnhfgnkmaa
