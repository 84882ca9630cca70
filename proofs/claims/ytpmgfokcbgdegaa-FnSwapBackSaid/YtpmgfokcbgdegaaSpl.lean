/-
  What is proved here: which two programs SplitProgram of the program and of the reference make.
-/
import Derived.Test.YtpmgfokcbgdegaaChg
namespace Go.Proofs.Ytpmgfokcbgdegaa
set_option linter.unusedVariables false
set_option linter.unusedSimpArgs false
set_option linter.unnecessarySimpa false
open Go.RowKit

def splOk (tl : List Int) (l : Ss) (k : Int) : Prop := validP tl l = true ∧ 0 ≤ k ∧ k ≤ l.len
instance (tl : List Int) (l : Ss) (k : Int) : Decidable (splOk tl l k) := by unfold splOk; infer_instance
def splT (tl : List Int) (l : Ss) (k : Int) : List Int := if splOk tl l k then tl else []
def splA (tl : List Int) (l : Ss) (k : Int) : Ss := if splOk tl l k then l.take k.toNat else .nil
def splB (tl : List Int) (l : Ss) (k : Int) : Ss := if splOk tl l k then l.drop k.toNat else .nil
theorem splT_len (tl : List Int) (l : Ss) (k : Int) : (splT tl l k).length ≤ tl.length := by unfold splT; split <;> simp
theorem spl_cnt (tl : List Int) (l : Ss) (k : Int) : cntL (splA tl l k) + cntL (splB tl l k) ≤ cntL l := by
  unfold splA splB
  split
  · exact Nat.le_of_eq (cnt_take_drop _ _)
  · simp [cntL]
/-- Two programs by value in new memory, and whether there are. -/
def PrPB (e : TypeId) (tl1 : List Int) (l1 : Ss) (tl2 : List Int) (l2 : Ss) (b : Bool) (w : World) (r : Value) (w' : World) : Prop :=
  ∃ m t b1 u d, r = .tuple #[prV t b1, prV u d, .bool b] ∧ OwnP e w.heap.size m tl1 l1 w' t b1 ∧ OwnP e m w'.heap.size tl2 l2 w' u d ∧ w.heap.size ≤ m ∧ m ≤ w'.heap.size ∧ Ext w w'
def SplP (e : TypeId) (tl : List Int) (l : Ss) (k : Int) (w : World) (r : Value) (w' : World) : Prop := PrPB e (splT tl l k) (splA tl l k) (splT tl l k) (splB tl l k) (decide (splOk tl l k)) w r w'
theorem OwnP.zero {e : TypeId} {B U : Nat} {w : World} : OwnP e B U [] .nil w (.slice none 0 0) (.slice none 0 0) := ⟨[], [], ⟨none, 0, rfl, ⟨by simp, Nat.le_refl _⟩, .inl ⟨rfl, rfl⟩⟩, RowS.nil_ e w, by simp, by simp⟩
theorem SplP.none_ {e : TypeId} {tl : List Int} {l : Ss} {k : Int} {w w' : World} (h : ¬ splOk tl l k) (he : Ext w w') : SplP e tl l k w (.tuple #[prV (.slice none 0 0) (.slice none 0 0), prV (.slice none 0 0) (.slice none 0 0), .bool false]) w' := by
  unfold SplP splT splA splB
  rw [if_neg h, if_neg h, if_neg h, decide_eq_false h]
  exact ⟨w.heap.size, _, _, _, _, rfl, OwnP.zero, OwnP.zero, Nat.le_refl _, he.size_le, he⟩
/-- A program of a part of the statements, in a block. -/
def PartIn (d : Nat) (base : Env) (e eP : TypeId) (tl : List Int) (l : Ss) (tv : Value) (w : World) (τ : Env) (w' : World) : Prop :=
  ∃ a bv F F', τ = (d, .pointer (some ⟨a, 0, none⟩)) :: base ∧ Blk w' a [tv, bv] eP ∧ StS w' bv l F ∧ IntF w' tv tl F' ∧ Ext w w' ∧ w.heap.size ≤ a
theorem SplitProgram_ret (tv bv : Value) (tl : List Int) (l : Ss) (F F2 : List Nat) (k : Int) (w : World) (ht : IntF w tv tl F) (hb : StS w bv l F2) (hk : -9223372036854775808 ≤ k ∧ k ≤ 9223372036854775807) (hn : tl.length ≤ 1048576) (hn2 : cntL l ≤ 1048576) :
    Ret Try.prog 7 [prV tv bv, .int .i64 k] w (SplP 62 tl l k w) := by
  obtain ⟨A, c, rfl, hl, hlc⟩ := hb.slice
  unfold maxI at hl
  have hcl := len_le_cntL l
  have htone : tv.oneCell' = true := by obtain ⟨_, _, rfl, _⟩ := ht; rfl
  refine enter Try.func7 rfl Try.ntmps7 rfl rfl ?_
  refine Z43 (Z44 (WO_box rfl fun w1 hs e1 z1 => WO_alloc fun w2 hr e2 z2 => WO_alloc fun w3 hq e3 z3 => ?_))
  replace hs : Blk w3 w.heap.size [tv, .slice A l.len c] _ := (Blk.ext hs e2).ext e3
  replace hr : Blk w3 w1.heap.size [.slice none 0 0, .slice none 0 0] _ := Blk.ext hr e3
  replace hq : Blk w3 w2.heap.size [.slice none 0 0, .slice none 0 0] _ := hq
  have e0 := (e1.trans e2).trans e3
  have s1 := e1.size_le
  have s2 := hq.lt
  refine goS ?_
  refine WO_loadSB rfl hs rfl ?_
  refine goS ?_
  refine WO_call rfl (ProgramValid_ret tv _ tl l F F2 w3 (ht.ext e0) (hb.ext e0)) ?_
  rintro _ w4 ⟨rfl, e4⟩
  replace hs := hs.ext e4
  replace hr := hr.ext e4
  replace hq := hq.ext e4
  replace e0 := e0.trans e4
  have s4 := e4.size_le
  cases hv : validP tl l
  · have hno : ¬ splOk tl l k := fun h => by have := h.1; rw [hv] at this; cases this
    refine goS ?_
    refine WO_storeS (k := 2) (vs := [.slice none 0 0, .slice none 0 0]) rfl rfl rfl (by intro v hv; simp at hv; subst hv; rfl) hr (by decide) fun wy hy oy => ?_
    replace hy : Blk wy w1.heap.size [.slice none 0 0, .slice none 0 0] _ := hy
    refine WO_storeS (k := 2) (vs := [.slice none 0 0, .slice none 0 0]) rfl rfl rfl (by intro v hv; simp at hv; subst hv; rfl) (hq.only oy (by omega)) (by decide) fun wz hz oz => ?_
    replace hz : Blk wz w2.heap.size [.slice none 0 0, .slice none 0 0] _ := hz
    replace hy := hy.only oz (by omega)
    refine goS ?_
    exact at_ret3G rfl (.cell inferInstance rfl hy rfl) (.cell inferInstance rfl hz rfl) (.tmp rfl) (SplP.none_ hno (Ext.only (Ext.only e0 oy s1) oz (by omega)))
  · refine goS ?_
    refine WO_call rfl (within_ret k 0 (l.len : Int) w4) ?_
    rintro _ w4 ⟨rfl, rfl⟩
    by_cases hyes : 0 ≤ k ∧ k ≤ (l.len : Int)
    · have hok : splOk tl l k := ⟨hv, hyes⟩
      obtain ⟨hk0, hk2⟩ := hyes
      obtain ⟨i, rfl⟩ := Int.eq_ofNat_of_zero_le hk0
      rw [decide_eq_true (show 0 ≤ (i : Int) ∧ (i : Int) ≤ (l.len : Int) from ⟨hk0, hk2⟩)]
      obtain ⟨Fa, hA⟩ := hb.take_ i (by omega)
      obtain ⟨Fb, hB⟩ := hb.drop_ i (by omega)
      generalize hAd : (if c = i then A else A.map (·.add (i * 6))) = A2 at hB
      refine goS ?_
      refine W_held0E [] (PartIn 7 [(1, .int .i64 (i : Int)), (2, .pointer (some ⟨w.heap.size, 0, none⟩)), (4, .pointer (some ⟨w1.heap.size, 0, none⟩)), (5, .pointer (some ⟨w2.heap.size, 0, none⟩))] 62 26 tl (l.take i) tv w4) (by kernel_rfl) (fun ws es hS => ?_) (fun τ w5 hT => ?_)
      · have hbs := hs.ext es
        first | refine Z82 0 rfl (by kernel_rfl) (by kernel_rfl) (by kernel_rfl) (by assumption) (fun w' hw' => Z56 rfl) ?_ | refine Z82 0 rfl (by kernel_rfl) (by kernel_rfl) (by kernel_rfl) (by assumption) (fun w' hw' => Z63 rfl rfl) ?_ | refine Z82 0 rfl (by kernel_rfl) (by kernel_rfl) (by kernel_rfl) (by assumption) (fun w' hw' => Z64 rfl rfl) ?_ | refine Z82 0 rfl (by kernel_rfl) (by kernel_rfl) (by kernel_rfl) (by assumption) (fun w' hw' => Z75 rfl rfl (by omega)) ?_ | refine Z82 0 rfl (by kernel_rfl) (by kernel_rfl) (by kernel_rfl) (by assumption) (fun w' hw' => Z72 rfl) ?_ | refine Z82 0 rfl (by kernel_rfl) (by kernel_rfl) (by kernel_rfl) (by assumption) (fun w' hw' => Z69 rfl rfl rfl (by omega)) ?_ | refine Z82 0 rfl (by kernel_rfl) (by kernel_rfl) (by kernel_rfl) (by assumption) (fun w' hw' => Z30 rfl (by rfl) (by simp only [Z84, List.set_cons_zero, List.set_cons_succ]; rfl)) ?_
        refine Z82 1 rfl (by kernel_rfl) (by kernel_rfl) (by kernel_rfl) (by assumption) (fun w' hw' => Z66 rfl (hbs.chg hw' (by simp)) rfl) ?_
        first | refine Z82 2 rfl (by kernel_rfl) (by kernel_rfl) (by kernel_rfl) (by assumption) (fun w' hw' => Z56 rfl) ?_ | refine Z82 2 rfl (by kernel_rfl) (by kernel_rfl) (by kernel_rfl) (by assumption) (fun w' hw' => Z63 rfl rfl) ?_ | refine Z82 2 rfl (by kernel_rfl) (by kernel_rfl) (by kernel_rfl) (by assumption) (fun w' hw' => Z64 rfl rfl) ?_ | refine Z82 2 rfl (by kernel_rfl) (by kernel_rfl) (by kernel_rfl) (by assumption) (fun w' hw' => Z75 rfl rfl (by omega)) ?_ | refine Z82 2 rfl (by kernel_rfl) (by kernel_rfl) (by kernel_rfl) (by assumption) (fun w' hw' => Z72 rfl) ?_ | refine Z82 2 rfl (by kernel_rfl) (by kernel_rfl) (by kernel_rfl) (by assumption) (fun w' hw' => Z69 rfl rfl rfl (by omega)) ?_ | refine Z82 2 rfl (by kernel_rfl) (by kernel_rfl) (by kernel_rfl) (by assumption) (fun w' hw' => Z30 rfl (by rfl) (by simp only [Z84, List.set_cons_zero, List.set_cons_succ]; rfl)) ?_
        refine Z82 3 rfl (by kernel_rfl) (by kernel_rfl) (by kernel_rfl) (by assumption) (fun w' hw' => Z66 rfl (hbs.chg hw' (by simp)) rfl) ?_
        first | refine Z82 4 rfl (by kernel_rfl) (by kernel_rfl) (by kernel_rfl) (by assumption) (fun w' hw' => Z56 rfl) ?_ | refine Z82 4 rfl (by kernel_rfl) (by kernel_rfl) (by kernel_rfl) (by assumption) (fun w' hw' => Z63 rfl rfl) ?_ | refine Z82 4 rfl (by kernel_rfl) (by kernel_rfl) (by kernel_rfl) (by assumption) (fun w' hw' => Z64 rfl rfl) ?_ | refine Z82 4 rfl (by kernel_rfl) (by kernel_rfl) (by kernel_rfl) (by assumption) (fun w' hw' => Z75 rfl rfl (by omega)) ?_ | refine Z82 4 rfl (by kernel_rfl) (by kernel_rfl) (by kernel_rfl) (by assumption) (fun w' hw' => Z72 rfl) ?_ | refine Z82 4 rfl (by kernel_rfl) (by kernel_rfl) (by kernel_rfl) (by assumption) (fun w' hw' => Z69 rfl rfl rfl (by omega)) ?_ | refine Z82 4 rfl (by kernel_rfl) (by kernel_rfl) (by kernel_rfl) (by assumption) (fun w' hw' => Z30 rfl (by rfl) (by simp only [Z84, List.set_cons_zero, List.set_cons_succ]; rfl)) ?_
        refine Z82 5 rfl (by kernel_rfl) (by kernel_rfl) (by kernel_rfl) (by assumption) (fun w' hw' => q_slTo (h := i) rfl rfl rfl (by omega)) ?_
        refine Z82 6 rfl (by kernel_rfl) (by kernel_rfl) (by kernel_rfl) (by assumption) (fun w' hw' => Z30 (cs := [tv, .slice A i c]) rfl (by simp [partsOk, htone]; rfl) rfl) ?_
        refine WH_one 7 rfl (by kernel_rfl) (WO_alloc fun wa ha ea za => Z31 (at_held (ea.chg _) ?_))
        refine WH_one 8 rfl (by kernel_rfl) (WO_storeS (k := 2) (vs := [tv, .slice A i c]) rfl rfl rfl (by simp; exact ⟨htone, rfl⟩) ha (by decide) fun wb hb' ob => Z31 (at_held ((ea.only ob (Nat.le_refl _)).chg _) ?_))
        have eb : Ext w4 wb := es.trans (ea.only ob (Nat.le_refl _))
        exact WH_doneE (by kernel_rfl) (by repeat (first | exact True.intro | refine And.intro rfl ?_)) ⟨_, _, _, _, rfl, hb', hA.ext (e0.trans eb), ht.ext (e0.trans eb), eb, es.size_le⟩
      · obtain ⟨a1, bv1, F1, F1', rfl, b1, hs1, ht1, e5, la1⟩ := hT
        replace hs := hs.ext e5
        replace hr := hr.ext e5
        replace hq := hq.ext e5
        replace e0 := e0.trans e5
        have s5 := e5.size_le
        refine goS ?_
        refine W_held0E [] (PartIn 8 [(4, .pointer (some ⟨w1.heap.size, 0, none⟩)), (5, .pointer (some ⟨w2.heap.size, 0, none⟩)), (7, .pointer (some ⟨a1, 0, none⟩))] 62 26 tl (l.drop i) tv w5) (by kernel_rfl) (fun ws es hS => ?_) (fun τ w6 hT => ?_)
        · have hbs := hs.ext es
          first | refine Z82 0 rfl (by kernel_rfl) (by kernel_rfl) (by kernel_rfl) (by assumption) (fun w' hw' => Z56 rfl) ?_ | refine Z82 0 rfl (by kernel_rfl) (by kernel_rfl) (by kernel_rfl) (by assumption) (fun w' hw' => Z63 rfl rfl) ?_ | refine Z82 0 rfl (by kernel_rfl) (by kernel_rfl) (by kernel_rfl) (by assumption) (fun w' hw' => Z64 rfl rfl) ?_ | refine Z82 0 rfl (by kernel_rfl) (by kernel_rfl) (by kernel_rfl) (by assumption) (fun w' hw' => Z75 rfl rfl (by omega)) ?_ | refine Z82 0 rfl (by kernel_rfl) (by kernel_rfl) (by kernel_rfl) (by assumption) (fun w' hw' => Z72 rfl) ?_ | refine Z82 0 rfl (by kernel_rfl) (by kernel_rfl) (by kernel_rfl) (by assumption) (fun w' hw' => Z69 rfl rfl rfl (by omega)) ?_ | refine Z82 0 rfl (by kernel_rfl) (by kernel_rfl) (by kernel_rfl) (by assumption) (fun w' hw' => Z30 rfl (by rfl) (by simp only [Z84, List.set_cons_zero, List.set_cons_succ]; rfl)) ?_
          refine Z82 1 rfl (by kernel_rfl) (by kernel_rfl) (by kernel_rfl) (by assumption) (fun w' hw' => Z66 rfl (hbs.chg hw' (by simp)) rfl) ?_
          first | refine Z82 2 rfl (by kernel_rfl) (by kernel_rfl) (by kernel_rfl) (by assumption) (fun w' hw' => Z56 rfl) ?_ | refine Z82 2 rfl (by kernel_rfl) (by kernel_rfl) (by kernel_rfl) (by assumption) (fun w' hw' => Z63 rfl rfl) ?_ | refine Z82 2 rfl (by kernel_rfl) (by kernel_rfl) (by kernel_rfl) (by assumption) (fun w' hw' => Z64 rfl rfl) ?_ | refine Z82 2 rfl (by kernel_rfl) (by kernel_rfl) (by kernel_rfl) (by assumption) (fun w' hw' => Z75 rfl rfl (by omega)) ?_ | refine Z82 2 rfl (by kernel_rfl) (by kernel_rfl) (by kernel_rfl) (by assumption) (fun w' hw' => Z72 rfl) ?_ | refine Z82 2 rfl (by kernel_rfl) (by kernel_rfl) (by kernel_rfl) (by assumption) (fun w' hw' => Z69 rfl rfl rfl (by omega)) ?_ | refine Z82 2 rfl (by kernel_rfl) (by kernel_rfl) (by kernel_rfl) (by assumption) (fun w' hw' => Z30 rfl (by rfl) (by simp only [Z84, List.set_cons_zero, List.set_cons_succ]; rfl)) ?_
          refine Z82 3 rfl (by kernel_rfl) (by kernel_rfl) (by kernel_rfl) (by assumption) (fun w' hw' => Z66 rfl (hbs.chg hw' (by simp)) rfl) ?_
          first | refine Z82 4 rfl (by kernel_rfl) (by kernel_rfl) (by kernel_rfl) (by assumption) (fun w' hw' => Z56 rfl) ?_ | refine Z82 4 rfl (by kernel_rfl) (by kernel_rfl) (by kernel_rfl) (by assumption) (fun w' hw' => Z63 rfl rfl) ?_ | refine Z82 4 rfl (by kernel_rfl) (by kernel_rfl) (by kernel_rfl) (by assumption) (fun w' hw' => Z64 rfl rfl) ?_ | refine Z82 4 rfl (by kernel_rfl) (by kernel_rfl) (by kernel_rfl) (by assumption) (fun w' hw' => Z75 rfl rfl (by omega)) ?_ | refine Z82 4 rfl (by kernel_rfl) (by kernel_rfl) (by kernel_rfl) (by assumption) (fun w' hw' => Z72 rfl) ?_ | refine Z82 4 rfl (by kernel_rfl) (by kernel_rfl) (by kernel_rfl) (by assumption) (fun w' hw' => Z69 rfl rfl rfl (by omega)) ?_ | refine Z82 4 rfl (by kernel_rfl) (by kernel_rfl) (by kernel_rfl) (by assumption) (fun w' hw' => Z30 rfl (by rfl) (by simp only [Z84, List.set_cons_zero, List.set_cons_succ]; rfl)) ?_
          refine Z82 5 rfl (by kernel_rfl) (by kernel_rfl) (by kernel_rfl) (by assumption) (fun w' hw' => q_slFrom (l := i) rfl rfl rfl (by omega) (by omega)) ?_
          rw [hAd]
          refine Z82 6 rfl (by kernel_rfl) (by kernel_rfl) (by kernel_rfl) (by assumption) (fun w' hw' => Z30 (cs := [tv, .slice A2 (l.len - i) (c - i)]) rfl (by simp [partsOk, htone]; rfl) rfl) ?_
          refine WH_one 7 rfl (by kernel_rfl) (WO_alloc fun wa ha ea za => Z31 (at_held (ea.chg _) ?_))
          refine WH_one 8 rfl (by kernel_rfl) (WO_storeS (k := 2) (vs := [tv, .slice A2 (l.len - i) (c - i)]) rfl rfl rfl (by simp; exact ⟨htone, rfl⟩) ha (by decide) fun wb hb' ob => Z31 (at_held ((ea.only ob (Nat.le_refl _)).chg _) ?_))
          have eb : Ext w5 wb := es.trans (ea.only ob (Nat.le_refl _))
          exact WH_doneE (by kernel_rfl) (by repeat (first | exact True.intro | refine And.intro rfl ?_)) ⟨_, _, _, _, rfl, hb', hB.ext (e0.trans eb), ht.ext (e0.trans eb), eb, es.size_le⟩
        · obtain ⟨a2, bv2, F2a, F2b, rfl, b2, hs2, ht2, e6, la2⟩ := hT
          replace b1 := b1.ext e6
          replace hs1 := hs1.ext e6
          replace ht1 := ht1.ext e6
          replace hr := hr.ext e6
          replace hq := hq.ext e6
          replace e0 := e0.trans e6
          have s6 := e6.size_le
          have hct := cnt_take_drop i l
          refine goS ?_
          refine W_held0 [w1.heap.size, w2.heap.size] [(4, .pointer (some ⟨w1.heap.size, 0, none⟩)), (5, .pointer (some ⟨w2.heap.size, 0, none⟩)), (6, .bool true)]
            (fun w' => ∃ m t1 d1 t2 d2, Blk w' w1.heap.size [t1, d1] 26 ∧ Blk w' w2.heap.size [t2, d2] 26 ∧ OwnP 62 w6.heap.size m tl (l.take i) w' t1 d1 ∧ OwnP 62 m w'.heap.size tl (l.drop i) w' t2 d2 ∧ w6.heap.size ≤ m ∧ m ≤ w'.heap.size ∧ Chg [w1.heap.size, w2.heap.size] w6 w') (by kernel_rfl) (fun ws es hS => ?_) (fun w7 hR => ?_)
          · have hss := es.size_le
            refine Z82 0 rfl (by kernel_rfl) (by kernel_rfl) (by kernel_rfl) (by assumption) (fun w' hw' => q_loadS (cs := [tv, bv1]) rfl rfl (fun j u hu => by rw [Nat.zero_add]; exact ((b1.ext es).chg hw' (by simp; omega)).cell hu)) ?_
            refine Z82 2 rfl (by kernel_rfl) (by kernel_rfl) (by kernel_rfl) (by assumption) (fun w' hw' => q_loadS (cs := [tv, bv2]) rfl rfl (fun j u hu => by rw [Nat.zero_add]; exact ((b2.ext es).chg hw' (by simp; omega)).cell hu)) ?_
            refine WX_call 1 rfl (by kernel_rfl) rfl (own_ret tv bv1 tl (l.take i) _ _ ws (ht1.ext es) (hs1.ext es) hn (by omega)) ?_
            rintro _ wa ⟨⟨t1, d1, rfl, hP1⟩, ea⟩
            obtain ⟨o1, o2⟩ := hP1.ones
            refine ⟨ea.chg _, ?_⟩
            refine WX_call 3 rfl (by kernel_rfl) rfl (own_ret tv bv2 tl (l.drop i) _ _ wa (ht2.ext (es.trans ea)) (hs2.ext (es.trans ea)) hn (by omega)) ?_
            rintro _ wb ⟨⟨t2, d2, rfl, hP2⟩, eb⟩
            obtain ⟨o3, o4⟩ := hP2.ones
            have eab := ea.trans eb
            have sa := ea.size_le
            have sb := eb.size_le
            have hSb : Chg [w1.heap.size, w2.heap.size] ws wb := eab.chg _
            refine ⟨hSb, ?_⟩
            refine WH_one 4 rfl (by kernel_rfl) (WO_storeS (k := 2) (vs := [t1, d1]) rfl rfl rfl (by simp; exact ⟨o1, o2⟩) ((hr.ext es).ext eab) (by decide) fun wc hc oc => Z31 (at_held (hSb.trans (oc.chg.mono (by simp))) ?_))
            replace hc : Blk wc w1.heap.size [t1, d1] _ := hc
            refine WH_one 5 rfl (by kernel_rfl) (WO_storeS (k := 2) (vs := [t2, d2]) rfl rfl rfl (by simp; exact ⟨o3, o4⟩) (((hq.ext es).ext eab).only oc (by omega)) (by decide) fun wd hd od => Z31 (at_held ((hSb.trans (oc.chg.mono (by simp))).trans (od.chg.mono (by simp))) ?_))
            replace hd : Blk wd w2.heap.size [t2, d2] _ := hd
            have hSd : Chg [w1.heap.size, w2.heap.size] ws wd := (hSb.trans (oc.chg.mono (by simp))).trans (od.chg.mono (by simp))
            refine Z82 6 rfl (by kernel_rfl) (by kernel_rfl) (by kernel_rfl) (by assumption) (fun w' hw' => Z56 rfl) ?_
            have sc := oc.size
            have sd := od.size
            exact WH_done (by kernel_rfl) (by repeat (first | exact True.intro | refine And.intro rfl ?_)) ⟨wa.heap.size, t1, d1, t2, d2, hc.only od (by omega), hd, (((hP1.ext eb).chgI oc.toI (by omega)).chgI od.toI (by omega)).wide hss (Nat.le_refl _), ((hP2.chgI oc.toI (by omega)).chgI od.toI (by omega)).wide (Nat.le_refl _) (by omega), by omega, by omega, (es.chg _).trans hSd⟩
          · obtain ⟨m, t1, d1, t2, d2, h1, h2, hP1, hP2, hm1, hm2, c7⟩ := hR
            refine goS ?_
            refine at_ret3G rfl (.cell inferInstance rfl h1 rfl) (.cell inferInstance rfl h2 rfl) (.tmp rfl) ?_
            unfold SplP splT splA splB
            rw [if_pos hok, if_pos hok, if_pos hok, decide_eq_true hok]
            exact ⟨m, t1, d1, t2, d2, rfl, hP1.wide (by omega) (Nat.le_refl _), hP2, by omega, hm2, c7.ext_of e0 (by simp; omega)⟩
    · have hno : ¬ splOk tl l k := fun h => hyes h.2
      rw [decide_eq_false hyes]
      refine goS ?_
      refine WO_storeS (k := 2) (vs := [.slice none 0 0, .slice none 0 0]) rfl rfl rfl (by intro v hv; simp at hv; subst hv; rfl) hr (by decide) fun wy hy oy => ?_
      replace hy : Blk wy w1.heap.size [.slice none 0 0, .slice none 0 0] _ := hy
      refine WO_storeS (k := 2) (vs := [.slice none 0 0, .slice none 0 0]) rfl rfl rfl (by intro v hv; simp at hv; subst hv; rfl) (hq.only oy (by omega)) (by decide) fun wz hz oz => ?_
      replace hz : Blk wz w2.heap.size [.slice none 0 0, .slice none 0 0] _ := hz
      replace hy := hy.only oz (by omega)
      refine goS ?_
      exact at_ret3G rfl (.cell inferInstance rfl hy rfl) (.cell inferInstance rfl hz rfl) (.tmp rfl) (SplP.none_ hno (Ext.only (Ext.only e0 oy s1) oz (by omega)))
/-- The copy of a part, in a block. -/
def CopIn (d : Nat) (base : Env) (e eP : TypeId) (tl : List Int) (l : Ss) (w : World) (τ : Env) (w' : World) : Prop :=
  ∃ a tv bv, τ = (d, .pointer (some ⟨a, 0, none⟩)) :: base ∧ Blk w' a [tv, bv] eP ∧ OwnP e w.heap.size w'.heap.size tl l w' tv bv ∧ Ext w w' ∧ w.heap.size ≤ a
theorem sSplitProgram_ret (tv bv : Value) (tl : List Int) (l : Ss) (F F2 : List Nat) (k : Int) (w : World) (ht : IntF w tv tl F) (hb : StS w bv l F2) (hk : -9223372036854775808 ≤ k ∧ k ≤ 9223372036854775807) (hn : tl.length ≤ 1048576) (hn2 : cntL l ≤ 1048576) :
    Ret Try.prog 8 [prV tv bv, .int .i64 k] w (SplP 62 tl l k w) := by
  obtain ⟨A, c, rfl, hl, hlc⟩ := hb.slice
  unfold maxI at hl
  have hcl := len_le_cntL l
  have htone : tv.oneCell' = true := by obtain ⟨_, _, rfl, _⟩ := ht; rfl
  refine enter Try.func8 rfl Try.ntmps8 rfl rfl ?_
  refine Z43 (Z44 (WO_box rfl fun w1 hs e1 z1 => WO_alloc fun w2 hr e2 z2 => WO_alloc fun w3 hq e3 z3 => ?_))
  replace hs : Blk w3 w.heap.size [tv, .slice A l.len c] _ := (Blk.ext hs e2).ext e3
  replace hr : Blk w3 w1.heap.size [.slice none 0 0, .slice none 0 0] _ := Blk.ext hr e3
  replace hq : Blk w3 w2.heap.size [.slice none 0 0, .slice none 0 0] _ := hq
  have e0 := (e1.trans e2).trans e3
  have s1 := e1.size_le
  have s2 := hq.lt
  refine goS ?_
  refine WO_loadSB rfl hs rfl ?_
  refine goS ?_
  refine WO_call rfl (sProgramValid_ret tv _ tl l F F2 w3 (ht.ext e0) (hb.ext e0) (by omega)) ?_
  rintro _ w4 ⟨rfl, e4⟩
  replace hs := hs.ext e4
  replace hr := hr.ext e4
  replace hq := hq.ext e4
  replace e0 := e0.trans e4
  have s4 := e4.size_le
  cases hv : validP tl l
  · have hno : ¬ splOk tl l k := fun h => by have := h.1; rw [hv] at this; cases this
    refine goS ?_
    refine WO_storeS (k := 2) (vs := [.slice none 0 0, .slice none 0 0]) rfl rfl rfl (by intro v hv; simp at hv; subst hv; rfl) hr (by decide) fun wy hy oy => ?_
    replace hy : Blk wy w1.heap.size [.slice none 0 0, .slice none 0 0] _ := hy
    refine WO_storeS (k := 2) (vs := [.slice none 0 0, .slice none 0 0]) rfl rfl rfl (by intro v hv; simp at hv; subst hv; rfl) (hq.only oy (by omega)) (by decide) fun wz hz oz => ?_
    replace hz : Blk wz w2.heap.size [.slice none 0 0, .slice none 0 0] _ := hz
    replace hy := hy.only oz (by omega)
    refine goS ?_
    exact at_ret3G rfl (.cell inferInstance rfl hy rfl) (.cell inferInstance rfl hz rfl) (.tmp rfl) (SplP.none_ hno (Ext.only (Ext.only e0 oy s1) oz (by omega)))
  · by_cases hyes : 0 ≤ k ∧ k ≤ (l.len : Int)
    · have hok : splOk tl l k := ⟨hv, hyes⟩
      obtain ⟨hk0, hk2⟩ := hyes
      obtain ⟨i, rfl⟩ := Int.eq_ofNat_of_zero_le hk0
      obtain ⟨Fa, hA⟩ := hb.take_ i (by omega)
      obtain ⟨Fb, hB⟩ := hb.drop_ i (by omega)
      generalize hAd : (if c = i then A else A.map (·.add (i * 6))) = A2 at hB
      have hct := cnt_take_drop i l
      (refine goS ?_; repeat' (first | ((refine Z51 rfl rfl (fun c' hc' => ?_)); cases c' <;> (try simp only [decide_eq_true_eq, decide_eq_false_iff_not, beq_iff_eq, beq_eq_false_iff_ne, bne_iff_ne, bne_eq_false_iff_eq, ne_eq, gt_iff_lt, ge_iff_le, Int.not_lt, Int.not_le, Bool.not_eq_true', Bool.not_eq_false', Bool.not_true, Bool.not_false, reduceCtorEq, Decidable.not_not, not_true_eq_false, Bool.true_eq_false, Bool.false_eq_true] at hc') <;> (try (exfalso; omega)) <;> refine goS ?_) | ((refine Z52 rfl (fun hc' => ?_) (fun hc' => ?_)) <;> (try simp only [decide_eq_true_eq, decide_eq_false_iff_not, beq_iff_eq, beq_eq_false_iff_ne, bne_iff_ne, bne_eq_false_iff_eq, ne_eq, gt_iff_lt, ge_iff_le, Int.not_lt, Int.not_le, Bool.not_eq_true', Bool.not_eq_false', Bool.not_true, Bool.not_false, reduceCtorEq, Decidable.not_not, not_true_eq_false, Bool.true_eq_false, Bool.false_eq_true] at hc') <;> (try (exfalso; omega)) <;> refine goS ?_)))
      refine W_held0E [] (CopIn 7 [(1, .int .i64 (i : Int)), (2, .pointer (some ⟨w.heap.size, 0, none⟩)), (4, .pointer (some ⟨w1.heap.size, 0, none⟩)), (5, .pointer (some ⟨w2.heap.size, 0, none⟩))] 62 26 tl (l.take i) w4) (by kernel_rfl) (fun ws es hS => ?_) (fun τ w5 hT => ?_)
      · have hbs := hs.ext es
        first | refine Z82 0 rfl (by kernel_rfl) (by kernel_rfl) (by kernel_rfl) (by assumption) (fun w' hw' => Z56 rfl) ?_ | refine Z82 0 rfl (by kernel_rfl) (by kernel_rfl) (by kernel_rfl) (by assumption) (fun w' hw' => Z63 rfl rfl) ?_ | refine Z82 0 rfl (by kernel_rfl) (by kernel_rfl) (by kernel_rfl) (by assumption) (fun w' hw' => Z64 rfl rfl) ?_ | refine Z82 0 rfl (by kernel_rfl) (by kernel_rfl) (by kernel_rfl) (by assumption) (fun w' hw' => Z75 rfl rfl (by omega)) ?_ | refine Z82 0 rfl (by kernel_rfl) (by kernel_rfl) (by kernel_rfl) (by assumption) (fun w' hw' => Z72 rfl) ?_ | refine Z82 0 rfl (by kernel_rfl) (by kernel_rfl) (by kernel_rfl) (by assumption) (fun w' hw' => Z69 rfl rfl rfl (by omega)) ?_ | refine Z82 0 rfl (by kernel_rfl) (by kernel_rfl) (by kernel_rfl) (by assumption) (fun w' hw' => Z30 rfl (by rfl) (by simp only [Z84, List.set_cons_zero, List.set_cons_succ]; rfl)) ?_
        refine Z82 1 rfl (by kernel_rfl) (by kernel_rfl) (by kernel_rfl) (by assumption) (fun w' hw' => Z66 rfl (hbs.chg hw' (by simp)) rfl) ?_
        first | refine Z82 2 rfl (by kernel_rfl) (by kernel_rfl) (by kernel_rfl) (by assumption) (fun w' hw' => Z56 rfl) ?_ | refine Z82 2 rfl (by kernel_rfl) (by kernel_rfl) (by kernel_rfl) (by assumption) (fun w' hw' => Z63 rfl rfl) ?_ | refine Z82 2 rfl (by kernel_rfl) (by kernel_rfl) (by kernel_rfl) (by assumption) (fun w' hw' => Z64 rfl rfl) ?_ | refine Z82 2 rfl (by kernel_rfl) (by kernel_rfl) (by kernel_rfl) (by assumption) (fun w' hw' => Z75 rfl rfl (by omega)) ?_ | refine Z82 2 rfl (by kernel_rfl) (by kernel_rfl) (by kernel_rfl) (by assumption) (fun w' hw' => Z72 rfl) ?_ | refine Z82 2 rfl (by kernel_rfl) (by kernel_rfl) (by kernel_rfl) (by assumption) (fun w' hw' => Z69 rfl rfl rfl (by omega)) ?_ | refine Z82 2 rfl (by kernel_rfl) (by kernel_rfl) (by kernel_rfl) (by assumption) (fun w' hw' => Z30 rfl (by rfl) (by simp only [Z84, List.set_cons_zero, List.set_cons_succ]; rfl)) ?_
        refine Z82 3 rfl (by kernel_rfl) (by kernel_rfl) (by kernel_rfl) (by assumption) (fun w' hw' => Z66 rfl (hbs.chg hw' (by simp)) rfl) ?_
        first | refine Z82 4 rfl (by kernel_rfl) (by kernel_rfl) (by kernel_rfl) (by assumption) (fun w' hw' => Z56 rfl) ?_ | refine Z82 4 rfl (by kernel_rfl) (by kernel_rfl) (by kernel_rfl) (by assumption) (fun w' hw' => Z63 rfl rfl) ?_ | refine Z82 4 rfl (by kernel_rfl) (by kernel_rfl) (by kernel_rfl) (by assumption) (fun w' hw' => Z64 rfl rfl) ?_ | refine Z82 4 rfl (by kernel_rfl) (by kernel_rfl) (by kernel_rfl) (by assumption) (fun w' hw' => Z75 rfl rfl (by omega)) ?_ | refine Z82 4 rfl (by kernel_rfl) (by kernel_rfl) (by kernel_rfl) (by assumption) (fun w' hw' => Z72 rfl) ?_ | refine Z82 4 rfl (by kernel_rfl) (by kernel_rfl) (by kernel_rfl) (by assumption) (fun w' hw' => Z69 rfl rfl rfl (by omega)) ?_ | refine Z82 4 rfl (by kernel_rfl) (by kernel_rfl) (by kernel_rfl) (by assumption) (fun w' hw' => Z30 rfl (by rfl) (by simp only [Z84, List.set_cons_zero, List.set_cons_succ]; rfl)) ?_
        refine Z82 5 rfl (by kernel_rfl) (by kernel_rfl) (by kernel_rfl) (by assumption) (fun w' hw' => q_slTo (h := i) rfl rfl rfl (by omega)) ?_
        skip
        refine Z82 6 rfl (by kernel_rfl) (by kernel_rfl) (by kernel_rfl) (by assumption) (fun w' hw' => Z30 (cs := [tv, .slice A i c]) rfl (by simp [partsOk, htone]; rfl) rfl) ?_
        have hss := es.size_le
        refine WH_two 7 8 rfl rfl (by kernel_rfl) ?_ ?_
        · refine WO_call rfl (l1CopyOf_ret tv _ tl (l.take i) _ _ ws (ht.ext (e0.trans es)) (hA.ext (e0.trans es)) hn (by omega)) ?_
          rintro _ wa ⟨⟨t1, d1, rfl, hP⟩, ea⟩
          obtain ⟨o1, o2⟩ := hP.ones
          refine Z31 (at_held (ea.chg _) ?_)
          refine WH_one 8 rfl (by kernel_rfl) (WO_alloc fun wb hb' eb zb => Z31 (at_held ((ea.trans eb).chg _) ?_))
          refine WH_one 9 rfl (by kernel_rfl) (WO_storeS (k := 2) (vs := [t1, d1]) rfl rfl rfl (by simp; exact ⟨o1, o2⟩) hb' (by decide) fun wc hc oc => Z31 (at_held (((ea.trans eb).only oc ea.size_le).chg _) ?_))
          replace hc : Blk wc wa.heap.size [t1, d1] _ := hc
          have sb := eb.size_le
          have sc := oc.size
          exact WH_doneE (by kernel_rfl) (by repeat (first | exact True.intro | refine And.intro rfl ?_)) ⟨_, t1, d1, rfl, hc, ((hP.ext eb).chgI oc.toI (by omega)).wide hss (by omega), es.trans ((ea.trans eb).only oc ea.size_le), by have := ea.size_le; omega⟩
        · refine WO_alloc fun wa hb' ea za => Z31 (at_held (ea.chg _) ?_)
          refine WX_call 7 rfl (by kernel_rfl) rfl (l1CopyOf_ret tv _ tl (l.take i) _ _ wa (ht.ext (e0.trans (es.trans ea))) (hA.ext (e0.trans (es.trans ea))) hn (by omega)) ?_
          rintro _ wb ⟨⟨t1, d1, rfl, hP⟩, eb⟩
          obtain ⟨o1, o2⟩ := hP.ones
          refine ⟨(ea.trans eb).chg _, ?_⟩
          refine WH_one 9 rfl (by kernel_rfl) (WO_storeS (k := 2) (vs := [t1, d1]) rfl rfl rfl (by simp; exact ⟨o1, o2⟩) (Blk.ext hb' eb) (by decide) fun wc hc oc => Z31 (at_held (((ea.trans eb).only oc (Nat.le_refl _)).chg _) ?_))
          replace hc : Blk wc ws.heap.size [t1, d1] _ := hc
          have sc := oc.size
          exact WH_doneE (by kernel_rfl) (by repeat (first | exact True.intro | refine And.intro rfl ?_)) ⟨_, t1, d1, rfl, hc, (hP.chgI oc.toI (by omega)).wide (by omega) (by omega), es.trans ((ea.trans eb).only oc (Nat.le_refl _)), hss⟩
      · obtain ⟨a1, t1, d1, rfl, b1, hP1, e5, la1⟩ := hT
        replace hs := hs.ext e5
        replace hr := hr.ext e5
        replace hq := hq.ext e5
        replace e0 := e0.trans e5
        have s5 := e5.size_le
        refine goS ?_
        refine W_held0E [] (CopIn 8 [(4, .pointer (some ⟨w1.heap.size, 0, none⟩)), (5, .pointer (some ⟨w2.heap.size, 0, none⟩)), (7, .pointer (some ⟨a1, 0, none⟩))] 62 26 tl (l.drop i) w5) (by kernel_rfl) (fun ws es hS => ?_) (fun τ w6 hT => ?_)
        · have hbs := hs.ext es
          first | refine Z82 0 rfl (by kernel_rfl) (by kernel_rfl) (by kernel_rfl) (by assumption) (fun w' hw' => Z56 rfl) ?_ | refine Z82 0 rfl (by kernel_rfl) (by kernel_rfl) (by kernel_rfl) (by assumption) (fun w' hw' => Z63 rfl rfl) ?_ | refine Z82 0 rfl (by kernel_rfl) (by kernel_rfl) (by kernel_rfl) (by assumption) (fun w' hw' => Z64 rfl rfl) ?_ | refine Z82 0 rfl (by kernel_rfl) (by kernel_rfl) (by kernel_rfl) (by assumption) (fun w' hw' => Z75 rfl rfl (by omega)) ?_ | refine Z82 0 rfl (by kernel_rfl) (by kernel_rfl) (by kernel_rfl) (by assumption) (fun w' hw' => Z72 rfl) ?_ | refine Z82 0 rfl (by kernel_rfl) (by kernel_rfl) (by kernel_rfl) (by assumption) (fun w' hw' => Z69 rfl rfl rfl (by omega)) ?_ | refine Z82 0 rfl (by kernel_rfl) (by kernel_rfl) (by kernel_rfl) (by assumption) (fun w' hw' => Z30 rfl (by rfl) (by simp only [Z84, List.set_cons_zero, List.set_cons_succ]; rfl)) ?_
          refine Z82 1 rfl (by kernel_rfl) (by kernel_rfl) (by kernel_rfl) (by assumption) (fun w' hw' => Z66 rfl (hbs.chg hw' (by simp)) rfl) ?_
          first | refine Z82 2 rfl (by kernel_rfl) (by kernel_rfl) (by kernel_rfl) (by assumption) (fun w' hw' => Z56 rfl) ?_ | refine Z82 2 rfl (by kernel_rfl) (by kernel_rfl) (by kernel_rfl) (by assumption) (fun w' hw' => Z63 rfl rfl) ?_ | refine Z82 2 rfl (by kernel_rfl) (by kernel_rfl) (by kernel_rfl) (by assumption) (fun w' hw' => Z64 rfl rfl) ?_ | refine Z82 2 rfl (by kernel_rfl) (by kernel_rfl) (by kernel_rfl) (by assumption) (fun w' hw' => Z75 rfl rfl (by omega)) ?_ | refine Z82 2 rfl (by kernel_rfl) (by kernel_rfl) (by kernel_rfl) (by assumption) (fun w' hw' => Z72 rfl) ?_ | refine Z82 2 rfl (by kernel_rfl) (by kernel_rfl) (by kernel_rfl) (by assumption) (fun w' hw' => Z69 rfl rfl rfl (by omega)) ?_ | refine Z82 2 rfl (by kernel_rfl) (by kernel_rfl) (by kernel_rfl) (by assumption) (fun w' hw' => Z30 rfl (by rfl) (by simp only [Z84, List.set_cons_zero, List.set_cons_succ]; rfl)) ?_
          refine Z82 3 rfl (by kernel_rfl) (by kernel_rfl) (by kernel_rfl) (by assumption) (fun w' hw' => Z66 rfl (hbs.chg hw' (by simp)) rfl) ?_
          first | refine Z82 4 rfl (by kernel_rfl) (by kernel_rfl) (by kernel_rfl) (by assumption) (fun w' hw' => Z56 rfl) ?_ | refine Z82 4 rfl (by kernel_rfl) (by kernel_rfl) (by kernel_rfl) (by assumption) (fun w' hw' => Z63 rfl rfl) ?_ | refine Z82 4 rfl (by kernel_rfl) (by kernel_rfl) (by kernel_rfl) (by assumption) (fun w' hw' => Z64 rfl rfl) ?_ | refine Z82 4 rfl (by kernel_rfl) (by kernel_rfl) (by kernel_rfl) (by assumption) (fun w' hw' => Z75 rfl rfl (by omega)) ?_ | refine Z82 4 rfl (by kernel_rfl) (by kernel_rfl) (by kernel_rfl) (by assumption) (fun w' hw' => Z72 rfl) ?_ | refine Z82 4 rfl (by kernel_rfl) (by kernel_rfl) (by kernel_rfl) (by assumption) (fun w' hw' => Z69 rfl rfl rfl (by omega)) ?_ | refine Z82 4 rfl (by kernel_rfl) (by kernel_rfl) (by kernel_rfl) (by assumption) (fun w' hw' => Z30 rfl (by rfl) (by simp only [Z84, List.set_cons_zero, List.set_cons_succ]; rfl)) ?_
          refine Z82 5 rfl (by kernel_rfl) (by kernel_rfl) (by kernel_rfl) (by assumption) (fun w' hw' => q_slFrom (l := i) rfl rfl rfl (by omega) (by omega)) ?_
          rw [hAd]
          refine Z82 6 rfl (by kernel_rfl) (by kernel_rfl) (by kernel_rfl) (by assumption) (fun w' hw' => Z30 (cs := [tv, .slice A2 (l.len - i) (c - i)]) rfl (by simp [partsOk, htone]; rfl) rfl) ?_
          have hss := es.size_le
          refine WH_two 7 8 rfl rfl (by kernel_rfl) ?_ ?_
          · refine WO_call rfl (l1CopyOf_ret tv _ tl (l.drop i) _ _ ws (ht.ext (e0.trans es)) (hB.ext (e0.trans es)) hn (by omega)) ?_
            rintro _ wa ⟨⟨t1, d1, rfl, hP⟩, ea⟩
            obtain ⟨o1, o2⟩ := hP.ones
            refine Z31 (at_held (ea.chg _) ?_)
            refine WH_one 8 rfl (by kernel_rfl) (WO_alloc fun wb hb' eb zb => Z31 (at_held ((ea.trans eb).chg _) ?_))
            refine WH_one 9 rfl (by kernel_rfl) (WO_storeS (k := 2) (vs := [t1, d1]) rfl rfl rfl (by simp; exact ⟨o1, o2⟩) hb' (by decide) fun wc hc oc => Z31 (at_held (((ea.trans eb).only oc ea.size_le).chg _) ?_))
            replace hc : Blk wc wa.heap.size [t1, d1] _ := hc
            have sb := eb.size_le
            have sc := oc.size
            exact WH_doneE (by kernel_rfl) (by repeat (first | exact True.intro | refine And.intro rfl ?_)) ⟨_, t1, d1, rfl, hc, ((hP.ext eb).chgI oc.toI (by omega)).wide hss (by omega), es.trans ((ea.trans eb).only oc ea.size_le), by have := ea.size_le; omega⟩
          · refine WO_alloc fun wa hb' ea za => Z31 (at_held (ea.chg _) ?_)
            refine WX_call 7 rfl (by kernel_rfl) rfl (l1CopyOf_ret tv _ tl (l.drop i) _ _ wa (ht.ext (e0.trans (es.trans ea))) (hB.ext (e0.trans (es.trans ea))) hn (by omega)) ?_
            rintro _ wb ⟨⟨t1, d1, rfl, hP⟩, eb⟩
            obtain ⟨o1, o2⟩ := hP.ones
            refine ⟨(ea.trans eb).chg _, ?_⟩
            refine WH_one 9 rfl (by kernel_rfl) (WO_storeS (k := 2) (vs := [t1, d1]) rfl rfl rfl (by simp; exact ⟨o1, o2⟩) (Blk.ext hb' eb) (by decide) fun wc hc oc => Z31 (at_held (((ea.trans eb).only oc (Nat.le_refl _)).chg _) ?_))
            replace hc : Blk wc ws.heap.size [t1, d1] _ := hc
            have sc := oc.size
            exact WH_doneE (by kernel_rfl) (by repeat (first | exact True.intro | refine And.intro rfl ?_)) ⟨_, t1, d1, rfl, hc, (hP.chgI oc.toI (by omega)).wide (by omega) (by omega), es.trans ((ea.trans eb).only oc (Nat.le_refl _)), hss⟩
        · obtain ⟨a2, t2, d2, rfl, b2, hP2, e6, la2⟩ := hT
          replace b1 := b1.ext e6
          replace hP1 := hP1.ext e6
          replace hr := hr.ext e6
          replace hq := hq.ext e6
          replace e0 := e0.trans e6
          have s6 := e6.size_le
          obtain ⟨o1, o2⟩ := hP1.ones
          obtain ⟨o3, o4⟩ := hP2.ones
          refine goS ?_
          refine W_held0 [w1.heap.size, w2.heap.size] [(4, .pointer (some ⟨w1.heap.size, 0, none⟩)), (5, .pointer (some ⟨w2.heap.size, 0, none⟩)), (6, .bool true)]
            (fun w' => Blk w' w1.heap.size [t1, d1] 26 ∧ Blk w' w2.heap.size [t2, d2] 26 ∧ Chg [w1.heap.size, w2.heap.size] w6 w') (by kernel_rfl) (fun ws es hS => ?_) (fun w7 hR => ?_)
          · have hss := es.size_le
            refine Z82 0 rfl (by kernel_rfl) (by kernel_rfl) (by kernel_rfl) (by assumption) (fun w' hw' => q_loadS (cs := [t1, d1]) rfl rfl (fun j u hu => by rw [Nat.zero_add]; exact ((b1.ext es).chg hw' (by simp; omega)).cell hu)) ?_
            refine Z82 1 rfl (by kernel_rfl) (by kernel_rfl) (by kernel_rfl) (by assumption) (fun w' hw' => q_loadS (cs := [t2, d2]) rfl rfl (fun j u hu => by rw [Nat.zero_add]; exact ((b2.ext es).chg hw' (by simp; omega)).cell hu)) ?_
            refine WH_one 2 rfl (by kernel_rfl) (WO_storeS (k := 2) (vs := [t1, d1]) rfl rfl rfl (by simp; exact ⟨o1, o2⟩) (hr.ext es) (by decide) fun wc hc oc => Z31 (at_held (oc.chg.mono (by simp)) ?_))
            replace hc : Blk wc w1.heap.size [t1, d1] _ := hc
            refine WH_one 3 rfl (by kernel_rfl) (WO_storeS (k := 2) (vs := [t2, d2]) rfl rfl rfl (by simp; exact ⟨o3, o4⟩) ((hq.ext es).only oc (by omega)) (by decide) fun wd hd od => Z31 (at_held ((oc.chg.mono (by simp)).trans (od.chg.mono (by simp))) ?_))
            replace hd : Blk wd w2.heap.size [t2, d2] _ := hd
            have hSd : Chg [w1.heap.size, w2.heap.size] ws wd := (oc.chg.mono (by simp)).trans (od.chg.mono (by simp))
            refine Z82 4 rfl (by kernel_rfl) (by kernel_rfl) (by kernel_rfl) (by assumption) (fun w' hw' => Z56 rfl) ?_
            exact WH_done (by kernel_rfl) (by repeat (first | exact True.intro | refine And.intro rfl ?_)) ⟨hc.only od (by omega), hd, (es.chg _).trans hSd⟩
          · obtain ⟨h1, h2, c7⟩ := hR
            have s7 := c7.size
            have c7i : ChgI w1.heap.size (w2.heap.size + 1) w6 w7 := c7.toI (by simp; omega)
            refine goS ?_
            refine at_ret3G rfl (.cell inferInstance rfl h1 rfl) (.cell inferInstance rfl h2 rfl) (.tmp rfl) ?_
            unfold SplP splT splA splB
            rw [if_pos hok, if_pos hok, if_pos hok, decide_eq_true hok]
            exact ⟨w5.heap.size, t1, d1, t2, d2, rfl, (hP1.chgI c7i (by omega)).wide (by omega) (Nat.le_refl _), (hP2.chgI c7i (by omega)).wide (Nat.le_refl _) s7, by omega, by omega, c7.ext_of e0 (by simp; omega)⟩
    · have hno : ¬ splOk tl l k := fun h => hyes h.2
      (refine goS ?_; repeat' (first | ((refine Z51 rfl rfl (fun c' hc' => ?_)); cases c' <;> (try simp only [decide_eq_true_eq, decide_eq_false_iff_not, beq_iff_eq, beq_eq_false_iff_ne, bne_iff_ne, bne_eq_false_iff_eq, ne_eq, gt_iff_lt, ge_iff_le, Int.not_lt, Int.not_le, Bool.not_eq_true', Bool.not_eq_false', Bool.not_true, Bool.not_false, reduceCtorEq, Decidable.not_not, not_true_eq_false, Bool.true_eq_false, Bool.false_eq_true] at hc') <;> (try (exfalso; omega)) <;> refine goS ?_) | ((refine Z52 rfl (fun hc' => ?_) (fun hc' => ?_)) <;> (try simp only [decide_eq_true_eq, decide_eq_false_iff_not, beq_iff_eq, beq_eq_false_iff_ne, bne_iff_ne, bne_eq_false_iff_eq, ne_eq, gt_iff_lt, ge_iff_le, Int.not_lt, Int.not_le, Bool.not_eq_true', Bool.not_eq_false', Bool.not_true, Bool.not_false, reduceCtorEq, Decidable.not_not, not_true_eq_false, Bool.true_eq_false, Bool.false_eq_true] at hc') <;> (try (exfalso; omega)) <;> refine goS ?_)))
      all_goals
        refine WO_storeS (k := 2) (vs := [.slice none 0 0, .slice none 0 0]) rfl rfl rfl (by intro v hv; simp at hv; subst hv; rfl) hr (by decide) fun wy hy oy => ?_
        replace hy : Blk wy w1.heap.size [.slice none 0 0, .slice none 0 0] _ := hy
        refine WO_storeS (k := 2) (vs := [.slice none 0 0, .slice none 0 0]) rfl rfl rfl (by intro v hv; simp at hv; subst hv; rfl) (hq.only oy (by omega)) (by decide) fun wz hz oz => ?_
        replace hz : Blk wz w2.heap.size [.slice none 0 0, .slice none 0 0] _ := hz
        replace hy := hy.only oz (by omega)
        refine goS ?_
        exact at_ret3G rfl (.cell inferInstance rfl hy rfl) (.cell inferInstance rfl hz rfl) (.tmp rfl) (SplP.none_ hno (Ext.only (Ext.only e0 oy s1) oz (by omega)))
end Go.Proofs.Ytpmgfokcbgdegaa
