/-
  What is proved here: the program's reader of programs reads what the reference's reader reads.
-/
import Derived.Test.YteonnoijdnjpdaaDoorRdS
import Derived.Test.YteonnoijdnjpdaaDoorPrs
import Derived.Test.YteonnoijdnjpdaaDoorPrV
import Derived.Test.YteonnoijdnjpdaaDoorGrow
namespace Go.Proofs.YteonnoijdnjpdaaDoor
set_option linter.unusedVariables false
set_option linter.unusedSimpArgs false
set_option linter.unnecessarySimpa false
open Go.RowKit

theorem index58 : ∀ t : Tx, Lib.index t [58] = if headLen t < t.length then (headLen t : Int) else -1
  | [] => rfl
  | b :: r => by
    have ih := index58 r
    have hle := headLen_le r
    have hh : headLen (b :: r) = if b = 58 then 0 else headLen r + 1 := by
      unfold headLen
      rw [List.findIdx_cons]
      by_cases hb : b = 58
      · rw [if_pos hb, hb]; rfl
      · rw [if_neg hb, show (b == 58) = false from by simpa using hb]; rfl
    rw [hh]
    unfold Lib.index
    by_cases hb : b = 58
    · rw [if_pos hb, if_pos (by rw [hb]; rfl), if_pos (by simp)]
      rfl
    · have h58 : ¬ 58 = b := fun h => hb h.symm
      have hp : ([58] : Tx).isPrefixOf (b :: r) = false := by simp [List.isPrefixOf, h58]
      rw [if_neg hb, if_neg (by rw [hp]; simp), ih]
      by_cases hl : headLen r < r.length
      · rw [if_pos hl, if_neg (by rw [beq_iff_eq]; omega), if_pos (by simp; omega)]
        push_cast
        rfl
      · rw [if_neg hl, if_neg (show ¬ headLen r + 1 < (b :: r).length by simp; omega)]
        rfl
theorem cut58 (t : Tx) : Lib.cut t [58] = (t.take (headLen t), bodyT t, decide (headLen t < t.length)) := by
  have hle := headLen_le t
  unfold Lib.cut
  rw [index58]
  by_cases hl : headLen t < t.length
  · rw [if_pos hl, if_pos (by omega), decide_eq_true hl]
    rfl
  · rw [if_neg hl, if_neg (by omega), decide_eq_false hl]
    have : headLen t = t.length := by omega
    unfold bodyT
    rw [this, List.take_length, List.drop_of_length_le (by omega)]
theorem kindOf_bound (c : UInt8) : 0 ≤ kindOf c ∧ kindOf c ≤ 4 := by
  unfold kindOf
  repeat' split
  all_goals omega
theorem index_kind (c : UInt8) : Lib.indexByte [105, 98, 114, 109] c = kindOf c - 1 := by
  unfold kindOf
  by_cases h1 : c = 105
  · subst h1; decide
  · by_cases h2 : c = 98
    · subst h2; decide
    · by_cases h3 : c = 114
      · subst h3; decide
      · by_cases h4 : c = 109
        · subst h4; decide
        · rw [if_neg h1, if_neg h2, if_neg h3, if_neg h4]
          have k1 : (105 == c) = false := by simp; exact fun h => h1 h.symm
          have k2 : (98 == c) = false := by simp; exact fun h => h2 h.symm
          have k3 : (114 == c) = false := by simp; exact fun h => h3 h.symm
          have k4 : (109 == c) = false := by simp; exact fun h => h4 h.symm
          simp [Lib.indexByte, k1, k2, k3, k4]
theorem cut_ret (t : Tx) (m : Int) (w : World) (hl : t.length ≤ 1000000) (hm : w.cell? ⟨0, 0, none⟩ = some (.int .i64 m)) : Ret Tryd.prog 31 [sV t, sV [58]] w fun r w' => r = .tuple #[sV (t.take (headLen t)), sV (bodyT t), .bool (decide (headLen t < t.length))] ∧ Ext w w' := by
  refine Calls.mono (Tryd.strings_Cut ⟨t.toArray⟩ ⟨#[58]⟩ m w (Nat.lt_of_le_of_lt hl (by decide)) hm) fun e w' h => ⟨_, h.1, ?_, ?_⟩
  · have := cut58 t
    show Value.tuple #[.string ⟨(Lib.cut t [58]).1.toArray⟩, .string ⟨(Lib.cut t [58]).2.1.toArray⟩, .bool (Lib.cut t [58]).2.2] = _
    rw [this]
  · obtain ⟨n, rfl⟩ := h.2
    exact ⟨rfl, rfl, rfl, Nat.le_refl _, fun i _ => rfl⟩
theorem indexByte_ret (c : UInt8) (w : World) : Ret Tryd.prog 32 [sV [105, 98, 114, 109], .int .u8 (c.toNat : Int)] w fun r w' => r = .int .i64 (kindOf c - 1) ∧ w' = w := by
  refine Calls.mono (Tryd.strings_IndexByte ⟨#[105, 98, 114, 109]⟩ (c.toNat : Int) w) fun e w' h => ⟨_, h.1, ?_, h.2⟩
  rw [show ((c.toNat : Nat) : Int).toNat.toUInt8 = c from by rw [Int.toNat_natCast]; exact UInt8.ofNat_toNat]
  exact congrArg (Value.int .i64) (index_kind c)
/-- What stands behind the region that appends a type. -/
def TyGrew (e eP : TypeId) (B pb i : Nat) (v : Value) (xs : List Value) (k : Int) (w w' : World) : Prop :=
  ∃ v', Blk w' pb [v', .slice none 0 0] eP ∧ w'.ownsRow B e 1 v' (i + 1) (xs ++ [.int .i64 k]) ∧ Chg (pb :: v.ownBlock.toList) w w'
theorem parseProgram_ret (t : Tx) (m : Int) (w : World) (hm : w.cell? ⟨0, 0, none⟩ = some (.int .i64 m)) : Ret Tryd.prog 12 [sV t] w (ParR 65 (parseI t) w) := by
  refine enter Tryd.func12 rfl Tryd.ntmps12 rfl rfl ?_
  refine goT ?_
  refine WO_alloc fun w1 hr e1 z1 => ?_
  replace hr : Blk w1 w.heap.size [.slice none 0 0, .slice none 0 0] _ := hr
  refine goT ?_
  by_cases h600 : t.length > 600
  · have hq : parseI t = none := by unfold parseI; rw [if_pos h600]
    rw [decide_eq_true (show (t.length : Int) > 600 by omega)]
    refine goT ?_
    refine WO_storeS (k := 2) (vs := [.slice none 0 0, .slice none 0 0]) rfl rfl rfl (by intro v hv; simp at hv; subst hv; rfl) hr (by decide) fun wz hz oz => ?_
    replace hz : Blk wz w.heap.size [.slice none 0 0, .slice none 0 0] _ := hz
    refine goT ?_
    exact at_ret2G rfl (.cell inferInstance rfl hz rfl) (.tmp rfl) (by rw [hq]; exact ParR.none_ (Ext.only e1 oz (Nat.le_refl _)))
  rw [decide_eq_false (show ¬ (t.length : Int) > 600 by omega)]
  refine goT ?_
  refine WO_call rfl (cut_ret t m w1 (by omega) (cell_ext hm e1)) ?_
  rintro _ w2 ⟨rfl, e2⟩
  refine goT ?_
  refine WO_alloc fun w3 hp e3 z3 => ?_
  replace hp : Blk w3 w2.heap.size [.slice none 0 0, .slice none 0 0] _ := hp
  have e03 := (e1.trans e2).trans e3
  replace hr := (hr.ext e2).ext e3
  have hrl := hr.lt
  have s1 := e1.size_le
  have s2 := e2.size_le
  have s3 := hp.lt
  have hle := headLen_le t
  have hTl : (t.take (headLen t)).length = headLen t := by simp; omega
  refine goT ?_
  refine W_loop (α := Nat) (fun i => [(0, sV t), (2, .pointer (some ⟨w.heap.size, 0, none⟩)), (4, sV (t.take (headLen t))), (5, sV (bodyT t)), (7, .pointer (some ⟨w2.heap.size, 0, none⟩)), (21, .int .i64 ((t.take (headLen t)).length : Int)), (22, .int .i64 (i : Int))])
    (fun i w' => i ≤ headLen t ∧ TyIn t i w2.heap.size w3.heap.size 3 30 w w' ∧ Blk w' w.heap.size [.slice none 0 0, .slice none 0 0] 30 ∧ w3.heap.size ≤ w'.heap.size) (fun i => headLen t - i) 0 (by repeat (first | exact True.intro | refine And.intro rfl ?_))
    ⟨Nat.zero_le _, ⟨_, hp, World.ownsRow_nil _ _ _ _, e03⟩, hr, Nat.le_refl _⟩ ?_
  rintro i w4 ⟨hi, ⟨v, hb, hrow, he⟩, hr4, hs4⟩
  refine goT ?_
  by_cases hlt : i < headLen t
  · have hlt2 : i < t.length := by omega
    have hkb := kindOf_bound t[i]
    have hvp : v.ownBlock ≠ some w2.heap.size := by
      intro h
      have := (hrow.lt _ h).1
      omega
    refine Z49 rfl (by rw [hTl]; simpa using hlt) ?_
    refine goT ?_
    refine W_held0 (w2.heap.size :: v.ownBlock.toList) [(0, sV t), (2, .pointer (some ⟨w.heap.size, 0, none⟩)), (4, sV (t.take (headLen t))), (5, sV (bodyT t)), (7, .pointer (some ⟨w2.heap.size, 0, none⟩)), (21, .int .i64 ((t.take (headLen t)).length : Int)), (22, .int .i64 (i : Int))] (TyGrew 3 30 w3.heap.size w2.heap.size i v (((t.take i).map kindOf).map (.int .i64)) (kindOf t[i]) w4) (by kernel_rfl) (fun ws es hS => ?_) (fun w7 hR => ?_)
    · have hbs := hb.ext es
      first | refine Z82 0 rfl (by kernel_rfl) (by kernel_rfl) (by kernel_rfl) (by assumption) (fun w' hw' => Z56 rfl) ?_ | refine Z82 0 rfl (by kernel_rfl) (by kernel_rfl) (by kernel_rfl) (by assumption) (fun w' hw' => Z63 rfl rfl) ?_ | refine Z82 0 rfl (by kernel_rfl) (by kernel_rfl) (by kernel_rfl) (by assumption) (fun w' hw' => Z64 rfl rfl) ?_ | refine Z82 0 rfl (by kernel_rfl) (by kernel_rfl) (by kernel_rfl) (by assumption) (fun w' hw' => Z75 rfl rfl (by omega)) ?_ | refine Z82 0 rfl (by kernel_rfl) (by kernel_rfl) (by kernel_rfl) (by assumption) (fun w' hw' => Z72 rfl) ?_ | refine Z82 0 rfl (by kernel_rfl) (by kernel_rfl) (by kernel_rfl) (by assumption) (fun w' hw' => Z69 rfl rfl rfl (by omega)) ?_ | refine Z82 0 rfl (by kernel_rfl) (by kernel_rfl) (by kernel_rfl) (by assumption) (fun w' hw' => Z30 rfl (by rfl) (by simp only [Z84, List.set_cons_zero, List.set_cons_succ]; rfl)) ?_
      first | refine Z82 2 rfl (by kernel_rfl) (by kernel_rfl) (by kernel_rfl) (by assumption) (fun w' hw' => Z56 rfl) ?_ | refine Z82 2 rfl (by kernel_rfl) (by kernel_rfl) (by kernel_rfl) (by assumption) (fun w' hw' => Z63 rfl rfl) ?_ | refine Z82 2 rfl (by kernel_rfl) (by kernel_rfl) (by kernel_rfl) (by assumption) (fun w' hw' => Z64 rfl rfl) ?_ | refine Z82 2 rfl (by kernel_rfl) (by kernel_rfl) (by kernel_rfl) (by assumption) (fun w' hw' => Z75 rfl rfl (by omega)) ?_ | refine Z82 2 rfl (by kernel_rfl) (by kernel_rfl) (by kernel_rfl) (by assumption) (fun w' hw' => Z72 rfl) ?_ | refine Z82 2 rfl (by kernel_rfl) (by kernel_rfl) (by kernel_rfl) (by assumption) (fun w' hw' => Z69 rfl rfl rfl (by omega)) ?_ | refine Z82 2 rfl (by kernel_rfl) (by kernel_rfl) (by kernel_rfl) (by assumption) (fun w' hw' => Z30 rfl (by rfl) (by simp only [Z84, List.set_cons_zero, List.set_cons_succ]; rfl)) ?_
      first | refine Z82 3 rfl (by kernel_rfl) (by kernel_rfl) (by kernel_rfl) (by assumption) (fun w' hw' => Z56 rfl) ?_ | refine Z82 3 rfl (by kernel_rfl) (by kernel_rfl) (by kernel_rfl) (by assumption) (fun w' hw' => Z63 rfl rfl) ?_ | refine Z82 3 rfl (by kernel_rfl) (by kernel_rfl) (by kernel_rfl) (by assumption) (fun w' hw' => Z64 rfl rfl) ?_ | refine Z82 3 rfl (by kernel_rfl) (by kernel_rfl) (by kernel_rfl) (by assumption) (fun w' hw' => Z75 rfl rfl (by omega)) ?_ | refine Z82 3 rfl (by kernel_rfl) (by kernel_rfl) (by kernel_rfl) (by assumption) (fun w' hw' => Z72 rfl) ?_ | refine Z82 3 rfl (by kernel_rfl) (by kernel_rfl) (by kernel_rfl) (by assumption) (fun w' hw' => Z69 rfl rfl rfl (by omega)) ?_ | refine Z82 3 rfl (by kernel_rfl) (by kernel_rfl) (by kernel_rfl) (by assumption) (fun w' hw' => Z30 rfl (by rfl) (by simp only [Z84, List.set_cons_zero, List.set_cons_succ]; rfl)) ?_
      refine Z82 4 rfl (by kernel_rfl) (by kernel_rfl) (by kernel_rfl) (by assumption) (fun w' hw' => q_strAt (j := i) rfl rfl rfl (by rw [hTl]; exact hlt)) ?_
      rw [show (t.take (headLen t))[i]'(by rw [hTl]; exact hlt) = t[i] from List.getElem_take]
      refine WH_two 1 5 rfl rfl (by kernel_rfl) ?_ ?_
      · refine Z10 rfl hbs rfl (Z31 (at_held hS ?_))
        refine WX_call 5 rfl (by kernel_rfl) rfl (indexByte_ret t[i] ws) ?_
        rintro _ _ ⟨rfl, rfl⟩
        refine ⟨hS, ?_⟩
        first | refine Z82 6 rfl (by kernel_rfl) (by kernel_rfl) (by kernel_rfl) (by assumption) (fun w' hw' => Z56 rfl) ?_ | refine Z82 6 rfl (by kernel_rfl) (by kernel_rfl) (by kernel_rfl) (by assumption) (fun w' hw' => Z63 rfl rfl) ?_ | refine Z82 6 rfl (by kernel_rfl) (by kernel_rfl) (by kernel_rfl) (by assumption) (fun w' hw' => Z64 rfl rfl) ?_ | refine Z82 6 rfl (by kernel_rfl) (by kernel_rfl) (by kernel_rfl) (by assumption) (fun w' hw' => Z75 rfl rfl (by omega)) ?_ | refine Z82 6 rfl (by kernel_rfl) (by kernel_rfl) (by kernel_rfl) (by assumption) (fun w' hw' => Z72 rfl) ?_ | refine Z82 6 rfl (by kernel_rfl) (by kernel_rfl) (by kernel_rfl) (by assumption) (fun w' hw' => Z69 rfl rfl rfl (by omega)) ?_ | refine Z82 6 rfl (by kernel_rfl) (by kernel_rfl) (by kernel_rfl) (by assumption) (fun w' hw' => Z30 rfl (by rfl) (by simp only [Z84, List.set_cons_zero, List.set_cons_succ]; rfl)) ?_
        rw [show (1 : Int) + (kindOf t[i] - 1) = kindOf t[i] from by omega]
        refine WH_one 7 rfl (by kernel_rfl) (WO_build (e := 3) (k := 1) [.tmp 31] (vs := [.int .i64 (kindOf t[i])]) (cs := [.int .i64 (kindOf t[i])]) rfl rfl rfl (by decide) (by decide) (by simp [Value.cells]) (by simp [Value.cells]) fun wb hb2 eb zb => Z31 (at_held (eb.chg _) ?_))
        refine WH_appSt 8 9 10 (e := 3) (k := 1) (B := w3.heap.size) (m := i) (news := [.int .i64 (kindOf t[i])]) (f := 0) rfl rfl rfl (by kernel_rfl) (by kernel_rfl) (by kernel_rfl) rfl rfl rfl ⟨rfl, rfl⟩ rfl (ownsRow_ext hrow (es.trans eb)) (by rfl) (fun j u hu => by rw [Nat.zero_add]; exact Blk.cell hb2 hu) (by intro u hu; simp at hu; subst hu; rfl) (by have := Ext.size_le (es.trans eb); omega) (by decide) (by omega) (by decide) (hb.ext (es.trans eb)) (by simp) hvp (fun w' k => (Ext.chg eb _).trans k) fun v' w' q1 q2 q3 q4 => ?_
        exact WH_done (by kernel_rfl) (by repeat (first | exact True.intro | refine And.intro rfl ?_)) ⟨v', q1, q2, (Ext.chg (es.trans eb) _).trans q3⟩
      · refine WO_call rfl (indexByte_ret t[i] ws) ?_
        rintro _ _ ⟨rfl, rfl⟩
        refine Z31 (at_held hS ?_)
        first | refine Z82 6 rfl (by kernel_rfl) (by kernel_rfl) (by kernel_rfl) (by assumption) (fun w' hw' => Z56 rfl) ?_ | refine Z82 6 rfl (by kernel_rfl) (by kernel_rfl) (by kernel_rfl) (by assumption) (fun w' hw' => Z63 rfl rfl) ?_ | refine Z82 6 rfl (by kernel_rfl) (by kernel_rfl) (by kernel_rfl) (by assumption) (fun w' hw' => Z64 rfl rfl) ?_ | refine Z82 6 rfl (by kernel_rfl) (by kernel_rfl) (by kernel_rfl) (by assumption) (fun w' hw' => Z75 rfl rfl (by omega)) ?_ | refine Z82 6 rfl (by kernel_rfl) (by kernel_rfl) (by kernel_rfl) (by assumption) (fun w' hw' => Z72 rfl) ?_ | refine Z82 6 rfl (by kernel_rfl) (by kernel_rfl) (by kernel_rfl) (by assumption) (fun w' hw' => Z69 rfl rfl rfl (by omega)) ?_ | refine Z82 6 rfl (by kernel_rfl) (by kernel_rfl) (by kernel_rfl) (by assumption) (fun w' hw' => Z30 rfl (by rfl) (by simp only [Z84, List.set_cons_zero, List.set_cons_succ]; rfl)) ?_
        rw [show (1 : Int) + (kindOf t[i] - 1) = kindOf t[i] from by omega]
        refine WH_loadBuild 1 7 (e := 3) (k := 1) (f := 0) rfl rfl (by kernel_rfl) (by kernel_rfl) (by kernel_rfl) (by decide) ⟨⟨rfl, rfl⟩, rfl, rfl⟩ rfl rfl (by rfl) (by decide) hbs rfl (fun w' k => k.chg _) fun σ' wb l1 l2 lk hb2 eb zb => ?_
        refine WH_appSt 8 9 10 (e := 3) (k := 1) (B := w3.heap.size) (m := i) (news := [.int .i64 (kindOf t[i])]) (f := 0) rfl rfl rfl (by kernel_rfl) (by kernel_rfl) (by kernel_rfl) l1 l2 (by rw [lk _ rfl]; rfl) ⟨rfl, rfl⟩ rfl (ownsRow_ext hrow (es.trans eb)) (by rfl) (fun j u hu => by rw [Nat.zero_add]; exact Blk.cell hb2 hu) (by intro u hu; simp at hu; subst hu; rfl) (by have := Ext.size_le (es.trans eb); omega) (by decide) (by omega) (by decide) (hb.ext (es.trans eb)) (by simp) hvp (fun w' k => (Ext.chg eb _).trans k) fun v' w' q1 q2 q3 q4 => ?_
        exact WH_done (by kernel_rfl) (sub_kept (ds := [26, 32, 33, 34]) (by repeat (first | exact True.intro | refine And.intro rfl ?_)) (((lk.mono (by simp)).put (by simp)).put (by simp)) rfl) ⟨v', q1, q2, (Ext.chg (es.trans eb) _).trans q3⟩
    · obtain ⟨v', q1, q2, q3⟩ := hR
      have hF : ∀ b ∈ w2.heap.size :: v.ownBlock.toList, w.heap.size < b := fun b hb => by
        rcases List.mem_cons.1 hb with rfl | hb
        · omega
        · have := (hrow.lt b (by simpa using hb)).1; omega
      have hsn : ((t.take i).map kindOf).map (Value.int .i64) ++ [.int .i64 (kindOf t[i])] = ((t.take (i + 1)).map kindOf).map (Value.int .i64) := by
        rw [List.take_succ_eq_append_getElem hlt2, List.map_append, List.map_append]
        rfl
      rw [hsn] at q2
      have s7 := q3.size
      refine goT ?_
      exact at_loop (i + 1) (by repeat (first | exact True.intro | refine And.intro rfl ?_)) ⟨hlt, ⟨v', q1, q2, q3.ext_of he (fun b hb => by have := hF b hb; omega)⟩, hr4.chg q3 (fun hm => by have := hF _ hm; omega), by omega⟩ (by omega)
  · have hii : i = headLen t := by omega
    subst hii
    refine Z50 rfl (by rw [hTl]; simp) ?_
    have hone := row_one (ownsRow_base0 hrow)
    have hs5 := rs_all 5 (by decide)
    unfold RsP at hs5
    rw [show (5 : Int) - ((5 : Nat) : Int) = 0 from rfl] at hs5
    have hbl : (bodyT t).length ≤ 600 := by unfold bodyT; simp; omega
    refine goT ?_
    refine WO_box rfl fun w5 hrd e5 z5 => ?_
    replace hrd : RdX w5 w4.heap.size (bodyT t, false) := hrd
    have s5 := hrd.lt
    have hvb : ∀ b ∈ v.ownBlock.toList, w3.heap.size ≤ b ∧ b < w4.heap.size := fun b hb => hrow.lt b (by simpa using hb)
    replace hrow := ownsRow_ext hrow e5
    replace hb := hb.ext e5
    have hr5 := hr4.ext e5
    have hbl2 := hb.lt
    refine goT ?_
    refine WO_call rfl (hs5 w4.heap.size (bodyT t, false) w5 hrd (by simp only; omega)) ?_
    rintro bv w6 ⟨L, hrd6, c6⟩
    obtain ⟨G, q1, n1, b1⟩ := L.row
    have l1 := q1.lt
    have honeB := q1.one
    have s6 := c6.size
    replace hb := hb.chg c6 (by simp; omega)
    have hr6 := hr5.chg c6 (by simp; omega)
    have e6 : Ext w w6 := c6.ext_of (he.trans e5) (by simp; omega)
    refine goT ?_
    refine WO_store1 rfl rfl honeB hb (by simp) fun w7 hb7 o7 => ?_
    simp only [List.set_cons_zero, List.set_cons_succ] at hb7
    have s7 := o7.size
    have hrow7 := ownsRow_chg (ownsRow_chg hrow c6 (fun z hz hm => by have := hvb z (by simpa using hz); simp at hm; omega)) o7.chg (fun z hz hm => by have := hvb z (by simpa using hz); simp at hm; omega)
    have q7 := q1.chg o7.chg (fun z hz hm => by have := b1 z hz; simp at hm; omega)
    have hrd7 := hrd6.chg o7.chg (by simp; omega)
    have hr7 := hr6.chg o7.chg (by simp; omega)
    have e7 : Ext w w7 := e6.only o7 (by omega)
    have hTl2 : (headT t).length = headLen t := by unfold headT; simp; omega
    replace hrow7 : w7.ownsRow w3.heap.size 3 1 v (headT t).length ((headT t).map (.int .i64)) := by rw [hTl2]; exact hrow7
    obtain ⟨Ft, hF, hFb, hFv⟩ := OwnI.of_row hrow7 rfl (by rw [hTl2]; unfold maxI; omega)
    have hP : parseI t = if t.length > 600 then none else if (stmtsF 5 (bodyT t, false)).2 ≠ ([], false) then none else if validP (headT t) (stmtsF 5 (bodyT t, false)).1 = false then none else if progT (headT t) (stmtsF 5 (bodyT t, false)).1 ≠ t then none else some (headT t, (stmtsF 5 (bodyT t, false)).1) := rfl
    rw [if_neg h600] at hP
    clear L hrd6
    generalize stmtsF 5 (bodyT t, false) = g at hP hrd7 q7 q1
    obtain ⟨l, sx, sb⟩ := g
    simp only at hP hrd7 q7 q1
    have hrdB : Blk w7 w4.heap.size [sV sx, .bool sb] 60 := hrd7
    refine goT ?_
    cases sb with
    | true =>
      have hq : parseI t = none := hP.trans (if_pos (by simp))
      refine goT ?_
      refine goT ?_
      refine WO_storeS (k := 2) (vs := [.slice none 0 0, .slice none 0 0]) rfl rfl rfl (by intro v hv; simp at hv; subst hv; rfl) hr7 (by decide) fun wz hz oz => ?_
      replace hz : Blk wz w.heap.size [.slice none 0 0, .slice none 0 0] _ := hz
      refine goT ?_
      exact at_ret2G rfl (.cell inferInstance rfl hz rfl) (.tmp rfl) (by rw [hq]; exact ParR.none_ (Ext.only e7 oz (Nat.le_refl _)))
    | false =>
      refine goT ?_
      by_cases hsx : sx = []
      · subst hsx
        rw [if_neg (by simp)] at hP
        rw [show (!decide (([] : List UInt8) = [])) = false from by simp]
        refine goT ?_
        refine WO_loadSB rfl hb7 rfl ?_
        refine goT ?_
        refine WO_call rfl (ProgramValid_ret v bv (headT t) l Ft G w7 hF.int q7.sts) ?_
        rintro _ w8 ⟨rfl, e8⟩
        replace hb7 := hb7.ext e8
        replace hr7 := hr7.ext e8
        cases hvd : validP (headT t) l with
        | false =>
          have hq : parseI t = none := hP.trans (if_pos hvd)
          refine goT ?_
          refine goT ?_
          refine WO_storeS (k := 2) (vs := [.slice none 0 0, .slice none 0 0]) rfl rfl rfl (by intro v hv; simp at hv; subst hv; rfl) hr7 (by decide) fun wz hz oz => ?_
          replace hz : Blk wz w.heap.size [.slice none 0 0, .slice none 0 0] _ := hz
          refine goT ?_
          exact at_ret2G rfl (.cell inferInstance rfl hz rfl) (.tmp rfl) (by rw [hq]; exact ParR.none_ (Ext.only (e7.trans e8) oz (Nat.le_refl _)))
        | true =>
          rw [if_neg (by rw [hvd]; simp)] at hP
          refine goT ?_
          refine WO_loadSB rfl hb7 rfl ?_
          refine goT ?_
          refine WO_call rfl (programText_ret v bv (headT t) l Ft G w8 (hF.int.ext e8) (q7.sts.ext e8) hvd) ?_
          rintro _ w9 ⟨rfl, e9⟩
          replace hb7 := hb7.ext e9
          replace hr7 := hr7.ext e9
          refine goT ?_
          by_cases hpt : progT (headT t) l = t
          · have hq : parseI t = some (headT t, l) := hP.trans (if_neg (by simp [hpt]))
            rw [hpt, show (!decide (t = t)) = false from by simp]
            refine goT ?_
            refine WO_loadSB rfl hb7 rfl ?_
            refine WO_storeS (k := 2) (vs := [v, bv]) rfl rfl rfl (by simp; exact ⟨hone, honeB⟩) hr7 (by decide) fun wz hz oz => ?_
            replace hz : Blk wz w.heap.size [v, bv] _ := hz
            refine goT ?_
            refine at_ret2G rfl (.cell inferInstance rfl hz rfl) (.tmp rfl) ?_
            rw [hq]
            refine PrB.mk (Ft := Ft) (Fb := G) (((hF.ext e8).ext e9).chg oz.chg (fun z hz hm => ?_)) (((q7.ext e8).ext e9).chg oz.chg (fun z hz hm => ?_)) ?_ ?_ (((e7.trans e8).trans e9).only oz (Nat.le_refl _))
            · simp only [List.mem_singleton] at hm; subst hm; have := hFb _ hz; omega
            · simp only [List.mem_singleton] at hm; subst hm; have := b1 _ hz; omega
            · refine List.nodup_append.2 ⟨hF.nodup, n1, fun a ha b hb e => ?_⟩
              subst e
              have h1 := b1 a hb
              rw [hFv] at ha
              have := hvb a ha
              omega
            · intro b hb
              rcases List.mem_append.1 hb with hb | hb
              · have := hFb b hb; omega
              · have := b1 b hb; omega
          · have hq : parseI t = none := hP.trans (if_pos hpt)
            rw [show (!decide (progT (headT t) l = t)) = true from by simp [hpt]]
            refine goT ?_
            refine WO_storeS (k := 2) (vs := [.slice none 0 0, .slice none 0 0]) rfl rfl rfl (by intro v hv; simp at hv; subst hv; rfl) hr7 (by decide) fun wz hz oz => ?_
            replace hz : Blk wz w.heap.size [.slice none 0 0, .slice none 0 0] _ := hz
            refine goT ?_
            exact at_ret2G rfl (.cell inferInstance rfl hz rfl) (.tmp rfl) (by rw [hq]; exact ParR.none_ (Ext.only ((e7.trans e8).trans e9) oz (Nat.le_refl _)))
      · have hq : parseI t = none := hP.trans (if_pos (by simp [hsx]))
        rw [show (!decide (sx = [])) = true from by simp [hsx]]
        refine goT ?_
        refine WO_storeS (k := 2) (vs := [.slice none 0 0, .slice none 0 0]) rfl rfl rfl (by intro v hv; simp at hv; subst hv; rfl) hr7 (by decide) fun wz hz oz => ?_
        replace hz : Blk wz w.heap.size [.slice none 0 0, .slice none 0 0] _ := hz
        refine goT ?_
        exact at_ret2G rfl (.cell inferInstance rfl hz rfl) (.tmp rfl) (by rw [hq]; exact ParR.none_ (Ext.only e7 oz (Nat.le_refl _)))
theorem ParseProgram_ret (t : Tx) (m : Int) (w : World) (hm : w.cell? ⟨0, 0, none⟩ = some (.int .i64 m)) : Ret Tryd.prog 12 [sV t] w (ParR 65 (parseS t) w) := by
  rw [← parse_same]
  exact parseProgram_ret t m w hm
end Go.Proofs.YteonnoijdnjpdaaDoor
