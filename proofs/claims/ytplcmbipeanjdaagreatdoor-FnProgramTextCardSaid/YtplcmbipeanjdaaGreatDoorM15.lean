/-
  What is proved here: the program's reader and the reference's reader read the same programs, said of lists of bytes. No function of the program stands here; the program's reader of programs reads what the reference's reader reads; the text that the reference writes of a program whose statements can be written, be it valid or not.
-/
import Derived.Test.YtplcmbipeanjdaaGreatDoorM14
import Derived.Test.YtplcmbipeanjdaaGreatDoorM9
import Derived.Test.YtplcmbipeanjdaaGreatDoorM7
import Derived.Test.YtplcmbipeanjdaaGreatDoorM6
namespace Go.Proofs.YtplcmbipeanjdaaGreatDoor
set_option linter.unusedVariables false
set_option linter.unusedSimpArgs false
set_option linter.unnecessarySimpa false
open Go.RowKit

/-- The program that the program's own reader reads from a text. -/
def parseI (t : Tx) : Option (List Int × Ss) :=
  if t.length > 600 then none
  else if (stmtsF 5 (bodyT t, false)).2 ≠ ([], false) then none
  else if validP (headT t) (stmtsF 5 (bodyT t, false)).1 = false then none
  else if progT (headT t) (stmtsF 5 (bodyT t, false)).1 ≠ t then none
  else some (headT t, (stmtsF 5 (bodyT t, false)).1)
theorem parseI_prog {tl : List Int} {l : Ss} (hv : validP tl l = true) (hl : (progT tl l).length ≤ 600) : parseI (progT tl l) = some (tl, l) := by
  obtain ⟨h1, h2, h3⟩ := vp_parts hv
  have hr := (read_all l 4 tl [] h2 (okT_len h1) (.inl rfl)).1
  rw [List.append_nil] at hr
  unfold parseI
  rw [if_neg (by omega), bodyT_prog, headT_prog h1, hr]
  simp only
  rw [if_neg (by simp), if_neg (by rw [hv]; simp), if_neg (by simp)]
theorem parseS_prog {tl : List Int} {l : Ss} (hv : validP tl l = true) (hl : (progT tl l).length ≤ 600) : parseS (progT tl l) = some (tl, l) := by
  obtain ⟨h1, h2, h3⟩ := vp_parts hv
  have hlen : (progT tl l).length = tl.length + 1 + (lsT l).length := by unfold progT; simp; omega
  have hb : (progT tl l).drop ((tl.length : Int) + 1).toNat = lsT l ++ [] := by
    rw [List.append_nil, ← bodyT_prog tl l]
    unfold bodyT
    rw [headLen_prog]
    congr 1
  have hr := (readS_all l 4 tl (progT tl l) [] ((tl.length : Int) + 1) (by omega) (by omega) hb h2 (okT_len h1) (.inl rfl)).1
  unfold parseS
  rw [headLen_prog, headT_prog h1, hr, if_neg (by omega)]
  simp only
  rw [if_neg (by omega), if_neg (by rw [hv]; simp), if_neg (by simp)]
theorem parseI_valid {t : Tx} {tl : List Int} {l : Ss} (h : parseI t = some (tl, l)) : validP tl l = true ∧ progT tl l = t ∧ t.length ≤ 600 := by
  unfold parseI at h
  split at h
  · cases h
  · split at h
    · cases h
    · split at h
      · cases h
      · split at h
        · cases h
        · rename_i h1 h2 h3 h4
          have h5 := Option.some.inj h
          have h6 : headT t = tl := congrArg Prod.fst h5
          have h7 : (stmtsF 5 (bodyT t, false)).1 = l := congrArg Prod.snd h5
          rw [h6, h7] at h3 h4
          exact ⟨by simpa using h3, Decidable.not_not.1 h4, by omega⟩
theorem parse_same (t : Tx) : parseI t = parseS t := by
  cases h : parseI t with
  | some p =>
    obtain ⟨tl, l⟩ := p
    obtain ⟨h1, h2, h3⟩ := parseI_valid h
    rw [← h2, parseS_prog h1 (by rw [h2]; exact h3)]
  | none =>
    cases h' : parseS t with
    | none => rfl
    | some p =>
      obtain ⟨tl, l⟩ := p
      obtain ⟨h1, h2, h3⟩ := parseS_valid h'
      rw [← h2, parseI_prog h1 (by rw [h2]; exact h3)] at h
      cases h
end Go.Proofs.YtplcmbipeanjdaaGreatDoor
namespace Go.Proofs.YtplcmbipeanjdaaGreatDoor
set_option linter.unusedVariables false
set_option linter.unusedSimpArgs false
set_option linter.unnecessarySimpa false
open Go.RowKit

theorem index58 : ∀ t : Tx, Lib.index t [58] = if headLen t < t.length then (headLen t : Int) else -1
  | [] => rfl
  | b :: r => by
    have ih := index58 r
    have hle := headLen_le r
    have hh : headLen (b :: r) = if b = 58 then 0 else headLen r + 1 := by
      unfold headLen
      rw [List.findIdx_cons]
      by_cases hb : b = 58
      · rw [if_pos hb, hb]; rfl
      · rw [if_neg hb, show (b == 58) = false from by simpa using hb]; rfl
    rw [hh]
    unfold Lib.index
    by_cases hb : b = 58
    · rw [if_pos hb, if_pos (by rw [hb]; rfl), if_pos (by simp)]
      rfl
    · have h58 : ¬ 58 = b := fun h => hb h.symm
      have hp : ([58] : Tx).isPrefixOf (b :: r) = false := by simp [List.isPrefixOf, h58]
      rw [if_neg hb, if_neg (by rw [hp]; simp), ih]
      by_cases hl : headLen r < r.length
      · rw [if_pos hl, if_neg (by rw [beq_iff_eq]; omega), if_pos (by simp; omega)]
        push_cast
        rfl
      · rw [if_neg hl, if_neg (show ¬ headLen r + 1 < (b :: r).length by simp; omega)]
        rfl
theorem cut58 (t : Tx) : Lib.cut t [58] = (t.take (headLen t), bodyT t, decide (headLen t < t.length)) := by
  have hle := headLen_le t
  unfold Lib.cut
  rw [index58]
  by_cases hl : headLen t < t.length
  · rw [if_pos hl, if_pos (by omega), decide_eq_true hl]
    rfl
  · rw [if_neg hl, if_neg (by omega), decide_eq_false hl]
    have : headLen t = t.length := by omega
    unfold bodyT
    rw [this, List.take_length, List.drop_of_length_le (by omega)]
theorem kindOf_bound (c : UInt8) : 0 ≤ kindOf c ∧ kindOf c ≤ 4 := by
  unfold kindOf
  repeat' split
  all_goals omega
theorem index_kind (c : UInt8) : Lib.indexByte [105, 98, 114, 109] c = kindOf c - 1 := by
  unfold kindOf
  by_cases h1 : c = 105
  · subst h1; decide
  · by_cases h2 : c = 98
    · subst h2; decide
    · by_cases h3 : c = 114
      · subst h3; decide
      · by_cases h4 : c = 109
        · subst h4; decide
        · rw [if_neg h1, if_neg h2, if_neg h3, if_neg h4]
          have k1 : (105 == c) = false := by simp; exact fun h => h1 h.symm
          have k2 : (98 == c) = false := by simp; exact fun h => h2 h.symm
          have k3 : (114 == c) = false := by simp; exact fun h => h3 h.symm
          have k4 : (109 == c) = false := by simp; exact fun h => h4 h.symm
          simp [Lib.indexByte, k1, k2, k3, k4]
theorem cut_ret (t : Tx) (m : Int) (w : World) (hl : t.length ≤ 1000000) (hm : w.cell? ⟨0, 0, none⟩ = some (.int .i64 m)) : Ret Tryz.prog 15 [sV t, sV [58]] w fun r w' => r = .tuple #[sV (t.take (headLen t)), sV (bodyT t), .bool (decide (headLen t < t.length))] ∧ Ext w w' := by
  refine Calls.mono (Tryz.strings_Cut ⟨t.toArray⟩ ⟨#[58]⟩ m w (Nat.lt_of_le_of_lt hl (by decide)) hm) fun e w' h => ⟨_, h.1, ?_, ?_⟩
  · have := cut58 t
    show Value.tuple #[.string ⟨(Lib.cut t [58]).1.toArray⟩, .string ⟨(Lib.cut t [58]).2.1.toArray⟩, .bool (Lib.cut t [58]).2.2] = _
    rw [this]
  · obtain ⟨n, rfl⟩ := h.2
    exact ⟨rfl, rfl, rfl, Nat.le_refl _, fun i _ => rfl⟩
theorem indexByte_ret (c : UInt8) (w : World) : Ret Tryz.prog 16 [sV [105, 98, 114, 109], .int .u8 (c.toNat : Int)] w fun r w' => r = .int .i64 (kindOf c - 1) ∧ w' = w := by
  refine Calls.mono (Tryz.strings_IndexByte ⟨#[105, 98, 114, 109]⟩ (c.toNat : Int) w) fun e w' h => ⟨_, h.1, ?_, h.2⟩
  rw [show ((c.toNat : Nat) : Int).toNat.toUInt8 = c from by rw [Int.toNat_natCast]; exact UInt8.ofNat_toNat]
  exact congrArg (Value.int .i64) (index_kind c)
/-- What stands behind the region that appends a type. -/
def TyGrew (e eP : TypeId) (B pb i : Nat) (v : Value) (xs : List Value) (k : Int) (w w' : World) : Prop :=
  ∃ v', Blk w' pb [v', .slice none 0 0] eP ∧ w'.ownsRow B e 1 v' (i + 1) (xs ++ [.int .i64 k]) ∧ Chg (pb :: v.ownBlock.toList) w w'
theorem parseProgram_ret (t : Tx) (m : Int) (w : World) (hm : w.cell? ⟨0, 0, none⟩ = some (.int .i64 m)) : Ret Tryz.prog 6 [sV t] w (ParR 59 (parseI t) w) := by
  refine enter Tryz.func6 rfl Tryz.ntmps6 rfl rfl ?_
  refine goT ?_
  refine WO_alloc fun w1 hr e1 z1 => ?_
  replace hr : Blk w1 w.heap.size [.slice none 0 0, .slice none 0 0] _ := hr
  refine goT ?_
  by_cases h600 : t.length > 600
  · have hq : parseI t = none := by unfold parseI; rw [if_pos h600]
    rw [decide_eq_true (show (t.length : Int) > 600 by omega)]
    refine goT ?_
    refine WO_storeS (k := 2) (vs := [.slice none 0 0, .slice none 0 0]) rfl rfl rfl (by intro v hv; simp at hv; subst hv; rfl) hr (by decide) fun wz hz oz => ?_
    replace hz : Blk wz w.heap.size [.slice none 0 0, .slice none 0 0] _ := hz
    refine goT ?_
    exact at_ret2G rfl (.cell inferInstance rfl hz rfl) (.tmp rfl) (by rw [hq]; exact ParR.none_ (Ext.only e1 oz (Nat.le_refl _)))
  rw [decide_eq_false (show ¬ (t.length : Int) > 600 by omega)]
  refine goT ?_
  refine WO_call rfl (cut_ret t m w1 (by omega) (cell_ext hm e1)) ?_
  rintro _ w2 ⟨rfl, e2⟩
  refine goT ?_
  refine WO_alloc fun w3 hp e3 z3 => ?_
  replace hp : Blk w3 w2.heap.size [.slice none 0 0, .slice none 0 0] _ := hp
  have e03 := (e1.trans e2).trans e3
  replace hr := (hr.ext e2).ext e3
  have hrl := hr.lt
  have s1 := e1.size_le
  have s2 := e2.size_le
  have s3 := hp.lt
  have hle := headLen_le t
  have hTl : (t.take (headLen t)).length = headLen t := by simp; omega
  refine goT ?_
  refine W_loop (α := Nat) (fun i => [(0, sV t), (2, .pointer (some ⟨w.heap.size, 0, none⟩)), (4, sV (t.take (headLen t))), (5, sV (bodyT t)), (7, .pointer (some ⟨w2.heap.size, 0, none⟩)), (21, .int .i64 ((t.take (headLen t)).length : Int)), (22, .int .i64 (i : Int))])
    (fun i w' => i ≤ headLen t ∧ TyIn t i w2.heap.size w3.heap.size 3 26 w w' ∧ Blk w' w.heap.size [.slice none 0 0, .slice none 0 0] 26 ∧ w3.heap.size ≤ w'.heap.size) (fun i => headLen t - i) 0 (by repeat (first | exact True.intro | refine And.intro rfl ?_))
    ⟨Nat.zero_le _, ⟨_, hp, World.ownsRow_nil _ _ _ _, e03⟩, hr, Nat.le_refl _⟩ ?_
  rintro i w4 ⟨hi, ⟨v, hb, hrow, he⟩, hr4, hs4⟩
  refine goT ?_
  by_cases hlt : i < headLen t
  · have hlt2 : i < t.length := by omega
    have hkb := kindOf_bound t[i]
    have hvp : v.ownBlock ≠ some w2.heap.size := by
      intro h
      have := (hrow.lt _ h).1
      omega
    refine Z49 rfl (by rw [hTl]; simpa using hlt) ?_
    refine goT ?_
    refine W_held0 (w2.heap.size :: v.ownBlock.toList) [(0, sV t), (2, .pointer (some ⟨w.heap.size, 0, none⟩)), (4, sV (t.take (headLen t))), (5, sV (bodyT t)), (7, .pointer (some ⟨w2.heap.size, 0, none⟩)), (21, .int .i64 ((t.take (headLen t)).length : Int)), (22, .int .i64 (i : Int))] (TyGrew 3 26 w3.heap.size w2.heap.size i v (((t.take i).map kindOf).map (.int .i64)) (kindOf t[i]) w4) (by kernel_rfl) (fun ws es hS => ?_) (fun w7 hR => ?_)
    · have hbs := hb.ext es
      first | refine Z82 0 rfl (by kernel_rfl) (by kernel_rfl) (by kernel_rfl) (by assumption) (fun w' hw' => Z56 rfl) ?_ | refine Z82 0 rfl (by kernel_rfl) (by kernel_rfl) (by kernel_rfl) (by assumption) (fun w' hw' => Z63 rfl rfl) ?_ | refine Z82 0 rfl (by kernel_rfl) (by kernel_rfl) (by kernel_rfl) (by assumption) (fun w' hw' => Z64 rfl rfl) ?_ | refine Z82 0 rfl (by kernel_rfl) (by kernel_rfl) (by kernel_rfl) (by assumption) (fun w' hw' => Z75 rfl rfl (by omega)) ?_ | refine Z82 0 rfl (by kernel_rfl) (by kernel_rfl) (by kernel_rfl) (by assumption) (fun w' hw' => Z72 rfl) ?_ | refine Z82 0 rfl (by kernel_rfl) (by kernel_rfl) (by kernel_rfl) (by assumption) (fun w' hw' => Z69 rfl rfl rfl (by omega)) ?_ | refine Z82 0 rfl (by kernel_rfl) (by kernel_rfl) (by kernel_rfl) (by assumption) (fun w' hw' => Z30 rfl (by rfl) (by simp only [Z84, List.set_cons_zero, List.set_cons_succ]; rfl)) ?_
      first | refine Z82 2 rfl (by kernel_rfl) (by kernel_rfl) (by kernel_rfl) (by assumption) (fun w' hw' => Z56 rfl) ?_ | refine Z82 2 rfl (by kernel_rfl) (by kernel_rfl) (by kernel_rfl) (by assumption) (fun w' hw' => Z63 rfl rfl) ?_ | refine Z82 2 rfl (by kernel_rfl) (by kernel_rfl) (by kernel_rfl) (by assumption) (fun w' hw' => Z64 rfl rfl) ?_ | refine Z82 2 rfl (by kernel_rfl) (by kernel_rfl) (by kernel_rfl) (by assumption) (fun w' hw' => Z75 rfl rfl (by omega)) ?_ | refine Z82 2 rfl (by kernel_rfl) (by kernel_rfl) (by kernel_rfl) (by assumption) (fun w' hw' => Z72 rfl) ?_ | refine Z82 2 rfl (by kernel_rfl) (by kernel_rfl) (by kernel_rfl) (by assumption) (fun w' hw' => Z69 rfl rfl rfl (by omega)) ?_ | refine Z82 2 rfl (by kernel_rfl) (by kernel_rfl) (by kernel_rfl) (by assumption) (fun w' hw' => Z30 rfl (by rfl) (by simp only [Z84, List.set_cons_zero, List.set_cons_succ]; rfl)) ?_
      first | refine Z82 3 rfl (by kernel_rfl) (by kernel_rfl) (by kernel_rfl) (by assumption) (fun w' hw' => Z56 rfl) ?_ | refine Z82 3 rfl (by kernel_rfl) (by kernel_rfl) (by kernel_rfl) (by assumption) (fun w' hw' => Z63 rfl rfl) ?_ | refine Z82 3 rfl (by kernel_rfl) (by kernel_rfl) (by kernel_rfl) (by assumption) (fun w' hw' => Z64 rfl rfl) ?_ | refine Z82 3 rfl (by kernel_rfl) (by kernel_rfl) (by kernel_rfl) (by assumption) (fun w' hw' => Z75 rfl rfl (by omega)) ?_ | refine Z82 3 rfl (by kernel_rfl) (by kernel_rfl) (by kernel_rfl) (by assumption) (fun w' hw' => Z72 rfl) ?_ | refine Z82 3 rfl (by kernel_rfl) (by kernel_rfl) (by kernel_rfl) (by assumption) (fun w' hw' => Z69 rfl rfl rfl (by omega)) ?_ | refine Z82 3 rfl (by kernel_rfl) (by kernel_rfl) (by kernel_rfl) (by assumption) (fun w' hw' => Z30 rfl (by rfl) (by simp only [Z84, List.set_cons_zero, List.set_cons_succ]; rfl)) ?_
      refine Z82 4 rfl (by kernel_rfl) (by kernel_rfl) (by kernel_rfl) (by assumption) (fun w' hw' => q_strAt (j := i) rfl rfl rfl (by rw [hTl]; exact hlt)) ?_
      rw [show (t.take (headLen t))[i]'(by rw [hTl]; exact hlt) = t[i] from List.getElem_take]
      refine WH_two 1 5 rfl rfl (by kernel_rfl) ?_ ?_
      · refine Z10 rfl hbs rfl (Z31 (at_held hS ?_))
        refine WX_call 5 rfl (by kernel_rfl) rfl (indexByte_ret t[i] ws) ?_
        rintro _ _ ⟨rfl, rfl⟩
        refine ⟨hS, ?_⟩
        first | refine Z82 6 rfl (by kernel_rfl) (by kernel_rfl) (by kernel_rfl) (by assumption) (fun w' hw' => Z56 rfl) ?_ | refine Z82 6 rfl (by kernel_rfl) (by kernel_rfl) (by kernel_rfl) (by assumption) (fun w' hw' => Z63 rfl rfl) ?_ | refine Z82 6 rfl (by kernel_rfl) (by kernel_rfl) (by kernel_rfl) (by assumption) (fun w' hw' => Z64 rfl rfl) ?_ | refine Z82 6 rfl (by kernel_rfl) (by kernel_rfl) (by kernel_rfl) (by assumption) (fun w' hw' => Z75 rfl rfl (by omega)) ?_ | refine Z82 6 rfl (by kernel_rfl) (by kernel_rfl) (by kernel_rfl) (by assumption) (fun w' hw' => Z72 rfl) ?_ | refine Z82 6 rfl (by kernel_rfl) (by kernel_rfl) (by kernel_rfl) (by assumption) (fun w' hw' => Z69 rfl rfl rfl (by omega)) ?_ | refine Z82 6 rfl (by kernel_rfl) (by kernel_rfl) (by kernel_rfl) (by assumption) (fun w' hw' => Z30 rfl (by rfl) (by simp only [Z84, List.set_cons_zero, List.set_cons_succ]; rfl)) ?_
        rw [show (1 : Int) + (kindOf t[i] - 1) = kindOf t[i] from by omega]
        refine WH_one 7 rfl (by kernel_rfl) (WO_build (e := 3) (k := 1) [.tmp 31] (vs := [.int .i64 (kindOf t[i])]) (cs := [.int .i64 (kindOf t[i])]) rfl rfl rfl (by decide) (by decide) (by simp [Value.cells]) (by simp [Value.cells]) fun wb hb2 eb zb => Z31 (at_held (eb.chg _) ?_))
        refine WH_appSt 8 9 10 (e := 3) (k := 1) (B := w3.heap.size) (m := i) (news := [.int .i64 (kindOf t[i])]) (f := 0) rfl rfl rfl (by kernel_rfl) (by kernel_rfl) (by kernel_rfl) rfl rfl rfl ⟨rfl, rfl⟩ rfl (ownsRow_ext hrow (es.trans eb)) (by rfl) (fun j u hu => by rw [Nat.zero_add]; exact Blk.cell hb2 hu) (by intro u hu; simp at hu; subst hu; rfl) (by have := Ext.size_le (es.trans eb); omega) (by decide) (by omega) (by decide) (hb.ext (es.trans eb)) (by simp) hvp (fun w' k => (Ext.chg eb _).trans k) fun v' w' q1 q2 q3 q4 => ?_
        exact WH_done (by kernel_rfl) (by repeat (first | exact True.intro | refine And.intro rfl ?_)) ⟨v', q1, q2, (Ext.chg (es.trans eb) _).trans q3⟩
      · refine WO_call rfl (indexByte_ret t[i] ws) ?_
        rintro _ _ ⟨rfl, rfl⟩
        refine Z31 (at_held hS ?_)
        first | refine Z82 6 rfl (by kernel_rfl) (by kernel_rfl) (by kernel_rfl) (by assumption) (fun w' hw' => Z56 rfl) ?_ | refine Z82 6 rfl (by kernel_rfl) (by kernel_rfl) (by kernel_rfl) (by assumption) (fun w' hw' => Z63 rfl rfl) ?_ | refine Z82 6 rfl (by kernel_rfl) (by kernel_rfl) (by kernel_rfl) (by assumption) (fun w' hw' => Z64 rfl rfl) ?_ | refine Z82 6 rfl (by kernel_rfl) (by kernel_rfl) (by kernel_rfl) (by assumption) (fun w' hw' => Z75 rfl rfl (by omega)) ?_ | refine Z82 6 rfl (by kernel_rfl) (by kernel_rfl) (by kernel_rfl) (by assumption) (fun w' hw' => Z72 rfl) ?_ | refine Z82 6 rfl (by kernel_rfl) (by kernel_rfl) (by kernel_rfl) (by assumption) (fun w' hw' => Z69 rfl rfl rfl (by omega)) ?_ | refine Z82 6 rfl (by kernel_rfl) (by kernel_rfl) (by kernel_rfl) (by assumption) (fun w' hw' => Z30 rfl (by rfl) (by simp only [Z84, List.set_cons_zero, List.set_cons_succ]; rfl)) ?_
        rw [show (1 : Int) + (kindOf t[i] - 1) = kindOf t[i] from by omega]
        refine WH_loadBuild 1 7 (e := 3) (k := 1) (f := 0) rfl rfl (by kernel_rfl) (by kernel_rfl) (by kernel_rfl) (by decide) ⟨⟨rfl, rfl⟩, rfl, rfl⟩ rfl rfl (by rfl) (by decide) hbs rfl (fun w' k => k.chg _) fun σ' wb l1 l2 lk hb2 eb zb => ?_
        refine WH_appSt 8 9 10 (e := 3) (k := 1) (B := w3.heap.size) (m := i) (news := [.int .i64 (kindOf t[i])]) (f := 0) rfl rfl rfl (by kernel_rfl) (by kernel_rfl) (by kernel_rfl) l1 l2 (by rw [lk _ rfl]; rfl) ⟨rfl, rfl⟩ rfl (ownsRow_ext hrow (es.trans eb)) (by rfl) (fun j u hu => by rw [Nat.zero_add]; exact Blk.cell hb2 hu) (by intro u hu; simp at hu; subst hu; rfl) (by have := Ext.size_le (es.trans eb); omega) (by decide) (by omega) (by decide) (hb.ext (es.trans eb)) (by simp) hvp (fun w' k => (Ext.chg eb _).trans k) fun v' w' q1 q2 q3 q4 => ?_
        exact WH_done (by kernel_rfl) (sub_kept (ds := [26, 32, 33, 34]) (by repeat (first | exact True.intro | refine And.intro rfl ?_)) (((lk.mono (by simp)).put (by simp)).put (by simp)) rfl) ⟨v', q1, q2, (Ext.chg (es.trans eb) _).trans q3⟩
    · obtain ⟨v', q1, q2, q3⟩ := hR
      have hF : ∀ b ∈ w2.heap.size :: v.ownBlock.toList, w.heap.size < b := fun b hb => by
        rcases List.mem_cons.1 hb with rfl | hb
        · omega
        · have := (hrow.lt b (by simpa using hb)).1; omega
      have hsn : ((t.take i).map kindOf).map (Value.int .i64) ++ [.int .i64 (kindOf t[i])] = ((t.take (i + 1)).map kindOf).map (Value.int .i64) := by
        rw [List.take_succ_eq_append_getElem hlt2, List.map_append, List.map_append]
        rfl
      rw [hsn] at q2
      have s7 := q3.size
      refine goT ?_
      exact at_loop (i + 1) (by repeat (first | exact True.intro | refine And.intro rfl ?_)) ⟨hlt, ⟨v', q1, q2, q3.ext_of he (fun b hb => by have := hF b hb; omega)⟩, hr4.chg q3 (fun hm => by have := hF _ hm; omega), by omega⟩ (by omega)
  · have hii : i = headLen t := by omega
    subst hii
    refine Z50 rfl (by rw [hTl]; simp) ?_
    have hone := row_one (ownsRow_base0 hrow)
    have hs5 := rs_all 5 (by decide)
    unfold RsP at hs5
    rw [show (5 : Int) - ((5 : Nat) : Int) = 0 from rfl] at hs5
    have hbl : (bodyT t).length ≤ 600 := by unfold bodyT; simp; omega
    refine goT ?_
    refine WO_box rfl fun w5 hrd e5 z5 => ?_
    replace hrd : RdX w5 w4.heap.size (bodyT t, false) := hrd
    have s5 := hrd.lt
    have hvb : ∀ b ∈ v.ownBlock.toList, w3.heap.size ≤ b ∧ b < w4.heap.size := fun b hb => hrow.lt b (by simpa using hb)
    replace hrow := ownsRow_ext hrow e5
    replace hb := hb.ext e5
    have hr5 := hr4.ext e5
    have hbl2 := hb.lt
    refine goT ?_
    refine WO_call rfl (hs5 w4.heap.size (bodyT t, false) w5 hrd (by simp only; omega)) ?_
    rintro bv w6 ⟨L, hrd6, c6⟩
    obtain ⟨G, q1, n1, b1⟩ := L.row
    have l1 := q1.lt
    have honeB := q1.one
    have s6 := c6.size
    replace hb := hb.chg c6 (by simp; omega)
    have hr6 := hr5.chg c6 (by simp; omega)
    have e6 : Ext w w6 := c6.ext_of (he.trans e5) (by simp; omega)
    refine goT ?_
    refine WO_store1 rfl rfl honeB hb (by simp) fun w7 hb7 o7 => ?_
    simp only [List.set_cons_zero, List.set_cons_succ] at hb7
    have s7 := o7.size
    have hrow7 := ownsRow_chg (ownsRow_chg hrow c6 (fun z hz hm => by have := hvb z (by simpa using hz); simp at hm; omega)) o7.chg (fun z hz hm => by have := hvb z (by simpa using hz); simp at hm; omega)
    have q7 := q1.chg o7.chg (fun z hz hm => by have := b1 z hz; simp at hm; omega)
    have hrd7 := hrd6.chg o7.chg (by simp; omega)
    have hr7 := hr6.chg o7.chg (by simp; omega)
    have e7 : Ext w w7 := e6.only o7 (by omega)
    have hTl2 : (headT t).length = headLen t := by unfold headT; simp; omega
    replace hrow7 : w7.ownsRow w3.heap.size 3 1 v (headT t).length ((headT t).map (.int .i64)) := by rw [hTl2]; exact hrow7
    obtain ⟨Ft, hF, hFb, hFv⟩ := OwnI.of_row hrow7 rfl (by rw [hTl2]; unfold maxI; omega)
    have hP : parseI t = if t.length > 600 then none else if (stmtsF 5 (bodyT t, false)).2 ≠ ([], false) then none else if validP (headT t) (stmtsF 5 (bodyT t, false)).1 = false then none else if progT (headT t) (stmtsF 5 (bodyT t, false)).1 ≠ t then none else some (headT t, (stmtsF 5 (bodyT t, false)).1) := rfl
    rw [if_neg h600] at hP
    clear L hrd6
    generalize stmtsF 5 (bodyT t, false) = g at hP hrd7 q7 q1
    obtain ⟨l, sx, sb⟩ := g
    simp only at hP hrd7 q7 q1
    have hrdB : Blk w7 w4.heap.size [sV sx, .bool sb] 40 := hrd7
    refine goT ?_
    cases sb with
    | true =>
      have hq : parseI t = none := hP.trans (if_pos (by simp))
      refine goT ?_
      refine goT ?_
      refine WO_storeS (k := 2) (vs := [.slice none 0 0, .slice none 0 0]) rfl rfl rfl (by intro v hv; simp at hv; subst hv; rfl) hr7 (by decide) fun wz hz oz => ?_
      replace hz : Blk wz w.heap.size [.slice none 0 0, .slice none 0 0] _ := hz
      refine goT ?_
      exact at_ret2G rfl (.cell inferInstance rfl hz rfl) (.tmp rfl) (by rw [hq]; exact ParR.none_ (Ext.only e7 oz (Nat.le_refl _)))
    | false =>
      refine goT ?_
      by_cases hsx : sx = []
      · subst hsx
        rw [if_neg (by simp)] at hP
        rw [show (!decide (([] : List UInt8) = [])) = false from by simp]
        refine goT ?_
        refine WO_loadSB rfl hb7 rfl ?_
        refine goT ?_
        refine WO_call rfl (ProgramValid_ret v bv (headT t) l Ft G w7 hF.int q7.sts) ?_
        rintro _ w8 ⟨rfl, e8⟩
        replace hb7 := hb7.ext e8
        replace hr7 := hr7.ext e8
        cases hvd : validP (headT t) l with
        | false =>
          have hq : parseI t = none := hP.trans (if_pos hvd)
          refine goT ?_
          refine goT ?_
          refine WO_storeS (k := 2) (vs := [.slice none 0 0, .slice none 0 0]) rfl rfl rfl (by intro v hv; simp at hv; subst hv; rfl) hr7 (by decide) fun wz hz oz => ?_
          replace hz : Blk wz w.heap.size [.slice none 0 0, .slice none 0 0] _ := hz
          refine goT ?_
          exact at_ret2G rfl (.cell inferInstance rfl hz rfl) (.tmp rfl) (by rw [hq]; exact ParR.none_ (Ext.only (e7.trans e8) oz (Nat.le_refl _)))
        | true =>
          rw [if_neg (by rw [hvd]; simp)] at hP
          refine goT ?_
          refine WO_loadSB rfl hb7 rfl ?_
          refine goT ?_
          refine WO_call rfl (programText_ret v bv (headT t) l Ft G w8 (hF.int.ext e8) (q7.sts.ext e8) hvd) ?_
          rintro _ w9 ⟨rfl, e9⟩
          replace hb7 := hb7.ext e9
          replace hr7 := hr7.ext e9
          refine goT ?_
          by_cases hpt : progT (headT t) l = t
          · have hq : parseI t = some (headT t, l) := hP.trans (if_neg (by simp [hpt]))
            rw [hpt, show (!decide (t = t)) = false from by simp]
            refine goT ?_
            refine WO_loadSB rfl hb7 rfl ?_
            refine WO_storeS (k := 2) (vs := [v, bv]) rfl rfl rfl (by simp; exact ⟨hone, honeB⟩) hr7 (by decide) fun wz hz oz => ?_
            replace hz : Blk wz w.heap.size [v, bv] _ := hz
            refine goT ?_
            refine at_ret2G rfl (.cell inferInstance rfl hz rfl) (.tmp rfl) ?_
            rw [hq]
            refine PrB.mk (Ft := Ft) (Fb := G) (((hF.ext e8).ext e9).chg oz.chg (fun z hz hm => ?_)) (((q7.ext e8).ext e9).chg oz.chg (fun z hz hm => ?_)) ?_ ?_ (((e7.trans e8).trans e9).only oz (Nat.le_refl _))
            · simp only [List.mem_singleton] at hm; subst hm; have := hFb _ hz; omega
            · simp only [List.mem_singleton] at hm; subst hm; have := b1 _ hz; omega
            · refine List.nodup_append.2 ⟨hF.nodup, n1, fun a ha b hb e => ?_⟩
              subst e
              have h1 := b1 a hb
              rw [hFv] at ha
              have := hvb a ha
              omega
            · intro b hb
              rcases List.mem_append.1 hb with hb | hb
              · have := hFb b hb; omega
              · have := b1 b hb; omega
          · have hq : parseI t = none := hP.trans (if_pos hpt)
            rw [show (!decide (progT (headT t) l = t)) = true from by simp [hpt]]
            refine goT ?_
            refine WO_storeS (k := 2) (vs := [.slice none 0 0, .slice none 0 0]) rfl rfl rfl (by intro v hv; simp at hv; subst hv; rfl) hr7 (by decide) fun wz hz oz => ?_
            replace hz : Blk wz w.heap.size [.slice none 0 0, .slice none 0 0] _ := hz
            refine goT ?_
            exact at_ret2G rfl (.cell inferInstance rfl hz rfl) (.tmp rfl) (by rw [hq]; exact ParR.none_ (Ext.only ((e7.trans e8).trans e9) oz (Nat.le_refl _)))
      · have hq : parseI t = none := hP.trans (if_pos (by simp [hsx]))
        rw [show (!decide (sx = [])) = true from by simp [hsx]]
        refine goT ?_
        refine WO_storeS (k := 2) (vs := [.slice none 0 0, .slice none 0 0]) rfl rfl rfl (by intro v hv; simp at hv; subst hv; rfl) hr7 (by decide) fun wz hz oz => ?_
        replace hz : Blk wz w.heap.size [.slice none 0 0, .slice none 0 0] _ := hz
        refine goT ?_
        exact at_ret2G rfl (.cell inferInstance rfl hz rfl) (.tmp rfl) (by rw [hq]; exact ParR.none_ (Ext.only e7 oz (Nat.le_refl _)))
theorem ParseProgram_ret (t : Tx) (m : Int) (w : World) (hm : w.cell? ⟨0, 0, none⟩ = some (.int .i64 m)) : Ret Tryz.prog 6 [sV t] w (ParR 59 (parseS t) w) := by
  rw [← parse_same]
  exact parseProgram_ret t m w hm
end Go.Proofs.YtplcmbipeanjdaaGreatDoor
namespace Go.Proofs.YtplcmbipeanjdaaGreatDoor
set_option linter.unusedVariables false
set_option linter.unusedSimpArgs false
set_option linter.unnecessarySimpa false
open Go.RowKit

/-- Statements that can be written. -/
def okX : Ss → Bool
  | .nil => true
  | .cons op x y n t e r => (if op = 9 ∨ op = 10 then okX t && okX e else decide ((1 ≤ op ∧ op ≤ 8) ∧ (0 ≤ x ∧ x < 6) ∧ (0 ≤ y ∧ y < 6) ∧ (0 ≤ n ∧ n ≤ 9))) && okX r
def oneX (op x y n : Int) (t e : Ss) : Bool := if op = 9 ∨ op = 10 then okX t && okX e else decide ((1 ≤ op ∧ op ≤ 8) ∧ (0 ≤ x ∧ x < 6) ∧ (0 ≤ y ∧ y < 6) ∧ (0 ≤ n ∧ n ≤ 9))
theorem okX_cons (op x y n : Int) (t e r : Ss) : okX (.cons op x y n t e r) = (oneX op x y n t e && okX r) := rfl
theorem okX_app : ∀ a b : Ss, okX (a.app b) = (okX a && okX b)
  | .nil, b => by simp [Ss.app, okX]
  | .cons op x y n t e r, b => by
    show okX (.cons op x y n t e (r.app b)) = _
    rw [okX_cons, okX_cons, okX_app r b, Bool.and_assoc]
def LtX (l : Ss) : Prop := ∀ v F w, okX l = true → StS w v l F → cntL l ≤ 1000 → Ret Tryz.prog 40 [v] w fun r w' => r = sV (lsT l) ∧ Ext w w'
theorem l1TextX_ret (op x y n : Int) (t e : Ss) (vt ve : Value) (Ft Fe : List Nat) (w : World) (hok : oneX op x y n t e = true) (ht : StS w vt t Ft) (he : StS w ve e Fe) (it : LtX t) (ie : LtX e) (ct : cntL t ≤ 1000) (ce : cntL e ≤ 1000) :
    Ret Tryz.prog 63 [stV op x y n vt ve] w fun r w' => r = sV (itT op x y n (lsT t) (lsT e)) ∧ Ext w w' := by
  have bt := lsT_bound t
  have be := lsT_bound e
  refine enter Tryz.func63 rfl Tryz.ntmps63 rfl rfl ?_
  refine Z43 (Z44 (WO_box rfl fun w1 hs e1 z1 => ?_))
  replace hs : Blk w1 w.heap.size [.int .i64 op, .int .i64 x, .int .i64 y, .int .i64 n, vt, ve] _ := hs
  unfold oneX at hok
  by_cases h9 : op = 9 ∨ op = 10
  · rw [if_pos h9, Bool.and_eq_true] at hok
    obtain ⟨hT, hE⟩ := hok
    refine goT ?_
    rw [decide_eq_false (show ¬ op < 9 by omega)]
    refine goT ?_
    rw [show (op == 1) = false from by simp; omega]
    refine goT ?_
    rw [show (op == 2) = false from by simp; omega]
    refine goT ?_
    rw [show (op == 3) = false from by simp; omega]
    refine goT ?_
    rw [show (op == 4) = false from by simp; omega]
    refine goT ?_
    rw [show (op == 5) = false from by simp; omega]
    refine goT ?_
    rw [show (op == 6) = false from by simp; omega]
    refine goT ?_
    rw [show (op == 7) = false from by simp; omega]
    refine goT ?_
    rw [show (op == 8) = false from by simp; omega]
    refine goT ?_
    rcases h9 with rfl | rfl
    · rw [show ((9 : Int) == 10) = false from rfl]
      refine goT ?_
      refine Z54 (by kernel_rfl) (by kernel_rfl) ?_
      repeat' (first | refine Z55 (Z56 rfl) ?_ | (refine Z57 ?_; first | refine Z58 rfl rfl (by decide) ?_ | refine Z59 rfl rfl (by decide) ?_ | refine Z60 rfl rfl ?_ | ((refine Z61 rfl rfl (fun c' hc' => ?_)); cases c' <;> (try simp only [decide_eq_true_eq, decide_eq_false_iff_not, beq_iff_eq, beq_eq_false_iff_ne, bne_iff_ne, bne_eq_false_iff_eq, ne_eq, gt_iff_lt, ge_iff_le, Int.not_lt, Int.not_le, Bool.not_eq_true', Bool.not_eq_false', Bool.not_true, Bool.not_false, reduceCtorEq, Decidable.not_not, not_true_eq_false, Bool.true_eq_false, Bool.false_eq_true] at hc') <;> (try (exfalso; omega)))) | (refine Z62 ?_; first | refine Z55 (Z63 rfl rfl) ?_ | refine Z55 (Z64 rfl rfl) ?_) | (refine Z65 ?_; first | refine Z55 (Z66 rfl (by assumption) (by rfl)) ?_ | refine Z55 (Z67 rfl (by assumption)) ?_) | (refine Z68 ?_; refine Z55 (Z69 rfl rfl rfl (by omega)) ?_) | (refine Z70 ?_; first | refine Z55 (Z14 rfl (by decide) rfl) ?_ | refine Z55 (Z15 rfl (by decide) rfl) ?_) | (refine Z71 ?_; first | refine Z55 (Z72 rfl) ?_ | refine Z55 (Z73 rfl) ?_) | (refine Z74 ?_; first | refine Z55 (Z75 rfl rfl (by omega)) ?_ | refine Z55 (Z76 rfl rfl (by omega)) ?_ | refine Z55 (Z77 rfl rfl (by omega)) ?_ | refine Z55 (Z78 rfl rfl (by omega) (by omega)) ?_ | refine Z55 (Z79 rfl rfl (by omega) (by omega) (by omega)) ?_ | refine Z55 (Z25 rfl rfl) ?_ | refine Z55 (Z26 rfl rfl) ?_) | (refine Z80 ?_; refine Z55 (Z28 rfl (Z53 ⟨by omega, by omega⟩)) ?_) | refine Z81 fun w' hw' => ?_)
      refine WQ_call rfl (fun w' hw' => it vt Ft w' hT ((ht.ext e1).ext hw') ct) ?_
      refine Z55 (Z87 rfl rfl (by simp; omega)) ?_
      refine Z55 (Z87 rfl rfl (by simp; omega)) ?_
      repeat' (first | refine Z55 (Z56 rfl) ?_ | (refine Z57 ?_; first | refine Z58 rfl rfl (by decide) ?_ | refine Z59 rfl rfl (by decide) ?_ | refine Z60 rfl rfl ?_ | ((refine Z61 rfl rfl (fun c' hc' => ?_)); cases c' <;> (try simp only [decide_eq_true_eq, decide_eq_false_iff_not, beq_iff_eq, beq_eq_false_iff_ne, bne_iff_ne, bne_eq_false_iff_eq, ne_eq, gt_iff_lt, ge_iff_le, Int.not_lt, Int.not_le, Bool.not_eq_true', Bool.not_eq_false', Bool.not_true, Bool.not_false, reduceCtorEq, Decidable.not_not, not_true_eq_false, Bool.true_eq_false, Bool.false_eq_true] at hc') <;> (try (exfalso; omega)))) | (refine Z62 ?_; first | refine Z55 (Z63 rfl rfl) ?_ | refine Z55 (Z64 rfl rfl) ?_) | (refine Z65 ?_; first | refine Z55 (Z66 rfl (by assumption) (by rfl)) ?_ | refine Z55 (Z67 rfl (by assumption)) ?_) | (refine Z68 ?_; refine Z55 (Z69 rfl rfl rfl (by omega)) ?_) | (refine Z70 ?_; first | refine Z55 (Z14 rfl (by decide) rfl) ?_ | refine Z55 (Z15 rfl (by decide) rfl) ?_) | (refine Z71 ?_; first | refine Z55 (Z72 rfl) ?_ | refine Z55 (Z73 rfl) ?_) | (refine Z74 ?_; first | refine Z55 (Z75 rfl rfl (by omega)) ?_ | refine Z55 (Z76 rfl rfl (by omega)) ?_ | refine Z55 (Z77 rfl rfl (by omega)) ?_ | refine Z55 (Z78 rfl rfl (by omega) (by omega)) ?_ | refine Z55 (Z79 rfl rfl (by omega) (by omega) (by omega)) ?_ | refine Z55 (Z25 rfl rfl) ?_ | refine Z55 (Z26 rfl rfl) ?_) | (refine Z80 ?_; refine Z55 (Z28 rfl (Z53 ⟨by omega, by omega⟩)) ?_) | refine Z81 fun w' hw' => ?_)
      refine WQ_call rfl (fun w' hw' => ie ve Fe w' hE ((he.ext e1).ext hw') ce) ?_
      refine Z55 (Z87 rfl rfl (by simp; omega)) ?_
      refine Z55 (Z87 rfl rfl (by simp; omega)) ?_
      repeat' (first | refine Z55 (Z56 rfl) ?_ | (refine Z57 ?_; first | refine Z58 rfl rfl (by decide) ?_ | refine Z59 rfl rfl (by decide) ?_ | refine Z60 rfl rfl ?_ | ((refine Z61 rfl rfl (fun c' hc' => ?_)); cases c' <;> (try simp only [decide_eq_true_eq, decide_eq_false_iff_not, beq_iff_eq, beq_eq_false_iff_ne, bne_iff_ne, bne_eq_false_iff_eq, ne_eq, gt_iff_lt, ge_iff_le, Int.not_lt, Int.not_le, Bool.not_eq_true', Bool.not_eq_false', Bool.not_true, Bool.not_false, reduceCtorEq, Decidable.not_not, not_true_eq_false, Bool.true_eq_false, Bool.false_eq_true] at hc') <;> (try (exfalso; omega)))) | (refine Z62 ?_; first | refine Z55 (Z63 rfl rfl) ?_ | refine Z55 (Z64 rfl rfl) ?_) | (refine Z65 ?_; first | refine Z55 (Z66 rfl (by assumption) (by rfl)) ?_ | refine Z55 (Z67 rfl (by assumption)) ?_) | (refine Z68 ?_; refine Z55 (Z69 rfl rfl rfl (by omega)) ?_) | (refine Z70 ?_; first | refine Z55 (Z14 rfl (by decide) rfl) ?_ | refine Z55 (Z15 rfl (by decide) rfl) ?_) | (refine Z71 ?_; first | refine Z55 (Z72 rfl) ?_ | refine Z55 (Z73 rfl) ?_) | (refine Z74 ?_; first | refine Z55 (Z75 rfl rfl (by omega)) ?_ | refine Z55 (Z76 rfl rfl (by omega)) ?_ | refine Z55 (Z77 rfl rfl (by omega)) ?_ | refine Z55 (Z78 rfl rfl (by omega) (by omega)) ?_ | refine Z55 (Z79 rfl rfl (by omega) (by omega) (by omega)) ?_ | refine Z55 (Z25 rfl rfl) ?_ | refine Z55 (Z26 rfl rfl) ?_) | (refine Z80 ?_; refine Z55 (Z28 rfl (Z53 ⟨by omega, by omega⟩)) ?_) | refine Z81 fun w' hw' => ?_)
      refine goT ?_
      refine at_ret1 rfl rfl ⟨?_, e1.trans hw'⟩
      exact congrArg sV (by simp [itT, wIf, wMid])
    · refine goT ?_
      refine WO_call rfl (it vt Ft w1 hT (ht.ext e1) ct) ?_
      rintro _ w2 ⟨rfl, e2⟩
      refine goT ?_
      refine at_ret1 rfl rfl ⟨?_, e1.trans e2⟩
      exact congrArg sV (by simp [itT, wLoop])
  · rw [if_neg h9, decide_eq_true_eq] at hok
    obtain ⟨a1, a2, a3, a4⟩ := hok
    refine goT ?_
    rw [decide_eq_true (show op < 9 by omega)]
    refine goT ?_
    refine WO_call rfl (l1Letter_ret x w1 (by omega)) ?_
    rintro _ w2 ⟨rfl, e2⟩
    replace hs := hs.ext e2
    refine goT ?_
    refine WO_call rfl (l1Letter_ret y w2 (by omega)) ?_
    rintro _ w3 ⟨rfl, e3⟩
    replace hs := hs.ext e3
    have e0 := (e1.trans e2).trans e3
    have hop' : op = 1 ∨ op = 2 ∨ op = 3 ∨ op = 4 ∨ op = 5 ∨ op = 6 ∨ op = 7 ∨ op = 8 := by omega
    rcases hop' with rfl | rfl | rfl | rfl | rfl | rfl | rfl | rfl
    · refine goT ?_
      refine WO_call rfl (l17Dig_ret n w3 (by omega)) ?_
      rintro _ w4 ⟨rfl, e4⟩
      refine goT ?_
      exact at_ret1 rfl rfl ⟨rfl, e0.trans e4⟩
    · refine goT ?_
      refine WO_call rfl (l17Dig_ret n w3 (by omega)) ?_
      rintro _ w4 ⟨rfl, e4⟩
      refine goT ?_
      exact at_ret1 rfl rfl ⟨rfl, e0.trans e4⟩
    · refine goT ?_
      exact at_ret1 rfl rfl ⟨rfl, e0⟩
    · refine goT ?_
      exact at_ret1 rfl rfl ⟨rfl, e0⟩
    · refine goT ?_
      exact at_ret1 rfl rfl ⟨rfl, e0⟩
    · refine goT ?_
      exact at_ret1 rfl rfl ⟨rfl, e0⟩
    · refine goT ?_
      exact at_ret1 rfl rfl ⟨rfl, e0⟩
    · refine goT ?_
      exact at_ret1 rfl rfl ⟨rfl, e0⟩
theorem l1ListX_all (l : Ss) : LtX l := Ss.strong (fun l ih => by
  intro v F w hok h hn
  obtain ⟨A, c, rfl, hl, _⟩ := h.slice
  have hst := restS_start h
  unfold maxI at hl
  have hlc := len_le_cntL l
  refine enter Tryz.func40 rfl Tryz.ntmps40 rfl rfl ?_
  refine goT ?_
  refine W_loop (α := Nat × Ss × Ss) (fun p => [(0, .slice A l.len c), (3, sV (lsT p.2.1)), (4, .int .i64 (p.1 : Int))])
    (fun p w' => p.2.1.app p.2.2 = l ∧ p.2.1.len = p.1 ∧ RestS w A p.1 p.2.2 ∧ okX p.2.2 = true ∧ Ext w w') (fun p => p.2.2.len) (0, .nil, l) (by repeat (first | exact True.intro | refine And.intro rfl ?_))
    ⟨rfl, rfl, hst, hok, Ext.refl _⟩ ?_
  rintro ⟨i, dl, r⟩ w1 ⟨hap, hdl, hr, hokr, he⟩
  simp only at hap hdl hr hokr he ⊢
  have hlen : dl.len + r.len = l.len := by rw [← hap, Ss.len_app]
  have hcn : cntL dl + cntL r = cntL l := by rw [← hap, cntL_app]
  refine goT ?_
  refine Z52 rfl (fun hc => ?_) (fun hc => ?_)
  · have hlt : i < l.len := by simpa using hc
    cases r with
    | nil => simp only [Ss.len] at hlen; omega
    | cons op x y n t e r =>
      obtain ⟨b, o, vt, ve, Ft, Fe, rfl, hcells, hT, hE, hrest⟩ := restS_cons hr
      simp only [Ss.len, cntL] at hlen hcn
      rw [okX_cons, Bool.and_eq_true] at hokr
      have hbd := lsT_bound dl
      have hbt := lsT_bound t
      have hbe := lsT_bound e
      have hit : (itT op x y n (lsT t) (lsT e)).length ≤ 9 * (1 + cntL t + cntL e) := by
        have := lsT_bound (.cons op x y n t e .nil)
        simpa [lsT, Ss.len, cntL] using this
      have hsn : lsT (dl.snoc op x y n t e) = (if i = 0 then [] else lsT dl ++ [59]) ++ itT op x y n (lsT t) (lsT e) := by
        unfold Ss.snoc
        rw [lsT_app, hdl]
        have h1 : lsT (Ss.one op x y n t e) = itT op x y n (lsT t) (lsT e) := by simp [Ss.one, lsT, Ss.len]
        rw [h1]
        by_cases h0 : i = 0
        · rw [if_pos h0, if_pos h0]; rfl
        · rw [if_neg h0, if_neg h0, if_neg (by simp [Ss.one, Ss.len])]
          simp
      refine goT ?_
      refine W_cut [(0, .slice (some ⟨b, o, none⟩) l.len c), (3, sV (if i = 0 then [] else lsT dl ++ [59])), (4, .int .i64 (i : Int))] (Ext w) ?_ (fun w2 e2 => ?_)
      · by_cases h0 : i = 0
        · rw [if_pos h0]
          subst h0
          have hd0 := Ss.len_zero hdl
          subst hd0
          rw [show decide (((0 : Nat) : Int) > 0) = false from by decide]
          refine goT ?_
          exact at_meets (by repeat (first | exact True.intro | refine And.intro rfl ?_)) he
        · rw [if_neg h0, decide_eq_true (show (i : Int) > 0 by omega)]
          refine goT ?_
          exact at_meets (by repeat (first | exact True.intro | refine And.intro rfl ?_)) he
      · have hql : (if i = 0 then ([] : Tx) else lsT dl ++ [59]).length ≤ 9 * cntL dl + 1 := by
          split
          · simp
          · simp; omega
        have cells : ∀ j u, [Value.int .i64 op, .int .i64 x, .int .i64 y, .int .i64 n, vt, ve][j]? = some u → w2.cell? ⟨b, o + i * 6 + j, none⟩ = some u := fun j u hu => cell_ext (hcells j u hu) e2
        generalize hq : (if i = 0 then ([] : Tx) else lsT dl ++ [59]) = q at hsn hql ⊢
        refine goT ?_
        refine Z83 rfl rfl rfl hlt ?_
        refine WO_loadS rfl rfl cells ?_
        refine WO_call rfl (l1TextX_ret op x y n t e vt ve Ft Fe w2 hokr.1 (hT.ext e2) (hE.ext e2) (ih t (by omega)) (ih e (by omega)) (by omega) (by omega)) ?_
        rintro _ w3 ⟨rfl, e3⟩
        refine Z13 (Z87 rfl rfl (by omega)) ?_
        rw [← hsn]
        refine goT ?_
        exact at_loop (i + 1, dl.snoc op x y n t e, r) (by repeat (first | exact True.intro | refine And.intro rfl ?_)) ⟨by rw [Ss.snoc_app]; exact hap, by simp only; rw [Ss.len_snoc]; omega, hrest, hokr.2, e2.trans e3⟩ (by simp only [Ss.len]; omega)
  · have hge : i = l.len := by simp at hc; omega
    have hr0 : r = .nil := Ss.len_zero (by omega)
    subst hr0
    rw [Ss.app_nil] at hap
    subst hap
    refine goT ?_
    exact at_ret1 rfl rfl ⟨rfl, he⟩) l
theorem l1ProgramX_ret (tv bv : Value) (tl : List Int) (l : Ss) (Ft F : List Nat) (w : World) (ht : IntF w tv tl Ft) (h : StS w bv l F) (hT : ∀ a ∈ tl, 1 ≤ a ∧ a ≤ 4) (htl : tl.length ≤ 6) (hL : okX l = true) (hC : cntL l ≤ 1000) :
    Ret Tryz.prog 20 [prV tv bv] w fun r w' => r = sV (progT tl l) ∧ Ext w w' := by
  obtain ⟨A, c, rfl, hl, hx⟩ := ht
  refine enter Tryz.func20 rfl Tryz.ntmps20 rfl rfl ?_
  refine Z43 (Z44 (WO_box rfl fun w1 hs e1 z1 => ?_))
  replace hs : Blk w1 w.heap.size [.slice A tl.length c, bv] _ := hs
  refine goT ?_
  refine W_loop (α := Nat) (fun i => [(1, .pointer (some ⟨w.heap.size, 0, none⟩)), (3, sV ((tl.take i).map tyCh)), (4, .int .i64 (i : Int))])
    (fun i w' => i ≤ tl.length ∧ Ext w1 w') (fun i => tl.length - i) 0 (by repeat (first | exact True.intro | refine And.intro rfl ?_)) ⟨Nat.zero_le _, Ext.refl _⟩ ?_
  rintro i w2 ⟨hi, he⟩
  have hs2 := hs.ext he
  refine goT ?_
  refine Z52 rfl (fun hc => ?_) (fun hc => ?_)
  · have hlt : i < tl.length := by simpa using hc
    obtain ⟨b, o, rfl, _, hcell⟩ := int_at hx hlt
    have hr := hT _ (List.getElem_mem hlt)
    refine goT ?_
    refine WO_build (e := 9) (k := 1) [.const (.string ⟨#[]⟩), .const (.string ⟨#[105]⟩), .const (.string ⟨#[98]⟩), .const (.string ⟨#[114]⟩), .const (.string ⟨#[109]⟩)] (vs := [sV [], sV [105], sV [98], sV [114], sV [109]]) (cs := [sV [], sV [105], sV [98], sV [114], sV [109]]) rfl rfl rfl (by decide) (by decide) (by simp [Value.cells]) (by simp [Value.cells]) fun w3 hb3 e3 z3 => ?_
    have hs3 := hs2.ext e3
    have hcell := cell_ext hcell ((e1.trans he).trans e3)
    refine goT ?_
    refine Z83 rfl rfl rfl hlt ?_
    refine goT ?_
    obtain ⟨k, hk⟩ : ∃ k : Nat, tl[i] = (k : Int) := ⟨tl[i].toNat, by omega⟩
    have hk4 : k < 5 := by omega
    refine Z83 (j := k) rfl rfl hk hk4 ?_
    have hcs : [sV [], sV [105], sV [98], sV [114], sV [109]][k]? = some (sV [tyCh tl[i]]) := by
      have h5 : k = 1 ∨ k = 2 ∨ k = 3 ∨ k = 4 := by omega
      rw [hk]
      rcases h5 with rfl | rfl | rfl | rfl <;> rfl
    have hcell2 : w3.cell? ⟨w2.heap.size, 0 + k * 1, none⟩ = some (sV [tyCh tl[i]]) := by rw [Nat.zero_add, Nat.mul_one]; exact hb3.cell hcs
    refine Z11 rfl hcell2 ?_
    refine Z13 (Z87 rfl rfl (by simp; omega)) ?_
    have hsn : (tl.take i).map tyCh ++ [tyCh tl[i]] = (tl.take (i + 1)).map tyCh := by rw [List.take_succ_eq_append_getElem hlt, List.map_append]; rfl
    rw [hsn]
    refine goT ?_
    exact at_loop (i + 1) (by repeat (first | exact True.intro | refine And.intro rfl ?_)) ⟨hlt, he.trans e3⟩ (by omega)
  · have hge : i = tl.length := by simp at hc; omega
    subst hge
    rw [List.take_length]
    have hb := lsT_bound l
    refine goT ?_
    refine Z13 (Z87 rfl rfl (by simp; omega)) ?_
    refine goT ?_
    refine WO_call rfl (l1ListX_all l bv F w2 hL (h.ext (e1.trans he)) (by omega)) ?_
    rintro _ w3 ⟨rfl, e3⟩
    refine Z13 (Z87 rfl rfl (by simp; omega)) ?_
    refine goT ?_
    refine at_ret1 rfl rfl ⟨?_, (e1.trans he).trans e3⟩
    exact congrArg sV (by simp [progT])
theorem okL_okX {tl : List Int} (htl : tl.length ≤ 6) : ∀ (d : Nat) (l : Ss), okL tl d l = true → okX l = true
  | _, .nil, _ => rfl
  | d, .cons op x y n t e r, h => by
    rw [okL_cons, Bool.and_eq_true] at h
    rw [okX_cons, Bool.and_eq_true]
    refine ⟨?_, okL_okX htl d r h.2⟩
    have h1 := h.1
    unfold okS at h1
    unfold oneX
    by_cases h9 : op = 9 ∨ op = 10
    · rw [if_pos h9, Bool.and_eq_true, Bool.and_eq_true] at h1
      rw [if_pos h9, Bool.and_eq_true]
      exact ⟨okL_okX htl (d - 1) t h1.1.2, okL_okX htl (d - 1) e h1.2⟩
    · rw [if_neg h9, decide_eq_true_eq] at h1
      rw [if_neg h9, decide_eq_true_eq]
      obtain ⟨a1, a2, a3, a4, _, _⟩ := simple_form h1 htl
      omega
end Go.Proofs.YtplcmbipeanjdaaGreatDoor
