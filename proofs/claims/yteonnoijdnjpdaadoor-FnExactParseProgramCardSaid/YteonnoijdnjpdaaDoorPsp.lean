/-
  What is proved here: which program the reference's parser returns for a text.
-/
import Derived.Test.YteonnoijdnjpdaaDoorPar
import Derived.Test.YteonnoijdnjpdaaDoorPin
import Derived.Test.YteonnoijdnjpdaaDoorPrV
import Derived.Test.YteonnoijdnjpdaaDoorCopy
namespace Go.Proofs.YteonnoijdnjpdaaDoor
set_option linter.unusedVariables false
set_option linter.unusedSimpArgs false
set_option linter.unnecessarySimpa false
open Go.RowKit

/-- The program that the reference reads from a text. -/
def parseS (t : Tx) : Option (List Int × Ss) :=
  if t.length > 600 ∨ headLen t = t.length then none
  else if (lisS t 4 ((headLen t : Int) + 1)).2 ≠ t.length then none
  else if validP (headT t) (lisS t 4 ((headLen t : Int) + 1)).1 = false then none
  else if progT (headT t) (lisS t 4 ((headLen t : Int) + 1)).1 ≠ t then none
  else some (headT t, (lisS t 4 ((headLen t : Int) + 1)).1)
def paT (o : Option (List Int × Ss)) : List Int := (o.map Prod.fst).getD []
def paL (o : Option (List Int × Ss)) : Ss := (o.map Prod.snd).getD .nil
/-- What a parser returns. -/
def ParR (e : TypeId) (o : Option (List Int × Ss)) (w : World) (r : Value) (w' : World) : Prop := PrB e (paT o) (paL o) o.isSome w r w'
theorem parseS_valid {t : Tx} {tl : List Int} {l : Ss} (h : parseS t = some (tl, l)) : validP tl l = true ∧ progT tl l = t ∧ t.length ≤ 600 := by
  unfold parseS at h
  split at h
  · cases h
  · split at h
    · cases h
    · split at h
      · cases h
      · split at h
        · cases h
        · rename_i h1 h2 h3 h4
          have h5 := Option.some.inj h
          have h6 : headT t = tl := congrArg Prod.fst h5
          have h7 : (lisS t 4 ((headLen t : Int) + 1)).1 = l := congrArg Prod.snd h5
          rw [h6, h7] at h3 h4
          exact ⟨by simpa using h3, Decidable.not_not.1 h4, by omega⟩
theorem PrB.mk {e : TypeId} {tl : List Int} {l : Ss} {b : Bool} {w w' : World} {tv bv : Value} {Ft Fb : List Nat} (h1 : OwnI w' tv tl Ft) (h2 : RowS e w' bv l Fb) (h3 : (Ft ++ Fb).Nodup) (h4 : ∀ b ∈ Ft ++ Fb, w.heap.size ≤ b) (he : Ext w w') : PrB e tl l b w (.tuple #[prV tv bv, .bool b]) w' := by
  obtain ⟨⟨tv', bv', hr, ho⟩, he⟩ := NewPr.mk (w1 := w) h1 h2 h3 h4 he
  have h5 : #[tv, bv] = #[tv', bv'] := by injection hr
  have h6 := congrArg Array.toList h5
  simp only [List.cons.injEq] at h6
  obtain ⟨rfl, rfl, _⟩ := h6
  exact ⟨_, _, rfl, ho, he⟩
theorem OwnP.nil_ (e : TypeId) (B U : Nat) (w : World) : OwnP e B U [] .nil w (.slice none 0 0) (.slice none 0 0) :=
  ⟨[], [], ⟨none, 0, rfl, ⟨by simp, Nat.le_refl _⟩, .inl ⟨rfl, rfl⟩⟩, RowS.nil_ _ _, by simp, by simp⟩
theorem ParR.none_ {e : TypeId} {w w' : World} (he : Ext w w') : ParR e none w (.tuple #[prV (.slice none 0 0) (.slice none 0 0), .bool false]) w' := ⟨_, _, rfl, OwnP.nil_ _ _ _ _, he⟩
theorem u8_eq {b : UInt8} {k : Nat} (hk : k < 256) : ((b.toNat : Int) == (k : Int)) = decide (b = UInt8.ofNat k) := by
  rw [Bool.eq_iff_iff, beq_iff_eq, decide_eq_true_eq]
  constructor
  · intro h
    apply UInt8.toNat_inj.1
    simp
    omega
  · rintro rfl
    simp
    omega
/-- What is known at the end of a round of the loop over the types' letters. -/
def TyIn (t : Tx) (i : Nat) (pb B : Nat) (e eP : TypeId) (w : World) (w' : World) : Prop := ∃ v, Blk w' pb [v, .slice none 0 0] eP ∧ w'.ownsRow B e 1 v i (((t.take i).map kindOf).map (.int .i64)) ∧ Ext w w'
theorem sParseProgram_ret (t : Tx) (w : World) (hsz : t.length ≤ 2000000) : Ret Tryd.prog 11 [sV t] w (ParR 65 (parseS t) w) := by
  refine enter Tryd.func11 rfl Tryd.ntmps11 rfl rfl ?_
  refine goT ?_
  refine WO_alloc fun w1 hr e1 z1 => ?_
  replace hr : Blk w1 w.heap.size [.slice none 0 0, .slice none 0 0] _ := hr
  refine goT ?_
  by_cases h600 : t.length > 600
  · have hq : parseS t = none := by unfold parseS; rw [if_pos (.inl h600)]
    rw [decide_eq_true (show (t.length : Int) > 600 by omega)]
    refine goT ?_
    refine WO_storeS (k := 2) (vs := [.slice none 0 0, .slice none 0 0]) rfl rfl rfl (by intro v hv; simp at hv; subst hv; rfl) hr (by decide) fun wz hz oz => ?_
    replace hz : Blk wz w.heap.size [.slice none 0 0, .slice none 0 0] _ := hz
    refine goT ?_
    exact at_ret2G rfl (.cell inferInstance rfl hz rfl) (.tmp rfl) (by rw [hq]; exact ParR.none_ (Ext.only e1 oz (Nat.le_refl _)))
  rw [decide_eq_false (show ¬ (t.length : Int) > 600 by omega)]
  refine goT ?_
  refine WO_alloc fun w2 hp e2 z2 => ?_
  replace hp : Blk w2 w1.heap.size [.slice none 0 0, .slice none 0 0] _ := hp
  refine goT ?_
  refine WO_storeS (k := 2) (vs := [.slice none 0 0, .slice none 0 0]) rfl rfl rfl (by intro v hv; simp at hv; subst hv; rfl) hp (by decide) fun w3 hp3 o3 => ?_
  replace hp3 : Blk w3 w1.heap.size [.slice none 0 0, .slice none 0 0] _ := hp3
  have e3 : Ext w1 w3 := e2.only o3 (Nat.le_refl _)
  have s3 := hp3.lt
  replace hr := hr.ext e3
  have e03 := e1.trans e3
  refine goT ?_
  have hle := headLen_le t
  refine W_loop (α := Nat) (fun i => [(0, sV t), (2, .pointer (some ⟨w.heap.size, 0, none⟩)), (4, .pointer (some ⟨w1.heap.size, 0, none⟩)), (5, .int .i64 (i : Int))])
    (fun i w' => i ≤ headLen t ∧ TyIn t i w1.heap.size w3.heap.size 3 30 w w' ∧ Blk w' w.heap.size [.slice none 0 0, .slice none 0 0] 30 ∧ w3.heap.size ≤ w'.heap.size) (fun i => t.length - i) 0 (by repeat (first | exact True.intro | refine And.intro rfl ?_))
    ⟨Nat.zero_le _, ⟨_, hp3, World.ownsRow_nil _ _ _ _, e03⟩, hr, Nat.le_refl _⟩ ?_
  rintro i w4 ⟨hi, ⟨v, hb, hrow, he⟩, hr4, hs4⟩
  refine goT ?_
  by_cases hlt : i < t.length
  · rw [decide_eq_true (show (i : Int) < (t.length : Int) by omega)]
    refine goT ?_
    refine Z13 (q_strAt (j := i) rfl rfl rfl hlt) ?_
    refine goT ?_
    rw [show ((((t[i].toNat : Nat) : Int)) != 58) = !decide (t[i] = UInt8.ofNat 58) from congrArg Bool.not (u8_eq (b := t[i]) (k := 58) (by decide))]
    by_cases h58 : t[i] = 58
    · have hii : i = headLen t := by
        rcases Nat.lt_or_ge i (headLen t) with h | h
        · exact absurd h58 (headLen_ne h hlt)
        · omega
      subst hii
      rw [decide_eq_true (show t[headLen t] = UInt8.ofNat 58 from h58)]
      have hone := row_one (ownsRow_base0 hrow)
      refine goT ?_
      rw [show (((headLen t : Nat) : Int) == (t.length : Int)) = false from by simp; omega]
      refine goT ?_
      refine WO_call rfl (l1ParseList_all 4 (by decide) t ((headLen t : Int) + 1) w4 (by omega) (by omega) (by omega)) ?_
      rintro _ w5 ⟨bv, rfl, ⟨G, q1, n1, b1⟩, e5⟩
      have hin := lisS_in t 4 ((headLen t : Int) + 1) (by omega) (by omega)
      have hlr := row_one (ownsRow_base0 hrow)
      have hrow5 := ownsRow_ext hrow e5
      have honeB := q1.one
      refine goT ?_
      refine WO_store1 rfl rfl honeB (hb.ext e5) (by simp) fun w6 hb6 o6 => ?_
      simp only [List.set_cons_zero, List.set_cons_succ] at hb6
      have hvp : v.ownBlock ≠ some w1.heap.size := by
        intro h
        have := (hrow.lt _ h).1
        omega
      have hs1 := e1.size_le
      have hpl := hb.lt
      have e6 : Ext w w6 := (he.trans e5).only o6 hs1
      have hrow6 := ownsRow_only hrow5 o6 hvp
      have hr6 := (hr4.ext e5).only o6 (by have := hr.lt; omega)
      have q6 := q1.chg o6.chg (fun z hz hm => by simp only [List.mem_singleton] at hm; subst hm; have := b1 _ hz; omega)
      have hTl : (headT t).length = headLen t := by unfold headT; simp; omega
      replace hrow6 : w6.ownsRow w3.heap.size 3 1 v (headT t).length ((headT t).map (.int .i64)) := by rw [hTl]; exact hrow6
      obtain ⟨Ft, hF, hFb, hFv⟩ := OwnI.of_row hrow6 rfl (by rw [hTl]; unfold maxI; omega)
      refine goT ?_
      by_cases hn1 : (lisS t 4 ((headLen t : Int) + 1)).2 = t.length
      · have hcnt : cntL (lisS t 4 ((headLen t : Int) + 1)).1 ≤ 600 := by rcases hin with ⟨h, _⟩ | ⟨_, _, h⟩ <;> omega
        rw [show ((lisS t 4 ((headLen t : Int) + 1)).2 != (t.length : Int)) = false from by simp [hn1]]
        refine goT ?_
        refine WO_loadSB rfl hb6 rfl ?_
        refine goT ?_
        refine WO_call rfl (sProgramValid_ret v bv (headT t) (lisS t 4 ((headLen t : Int) + 1)).1 _ _ w6 hF.int q6.sts (by omega)) ?_
        rintro _ w7 ⟨rfl, e7⟩
        replace hb6 := hb6.ext e7
        replace hr6 := hr6.ext e7
        cases hvd : validP (headT t) (lisS t 4 ((headLen t : Int) + 1)).1 with
        | false =>
          have hq : parseS t = none := by unfold parseS; rw [if_neg (by omega), if_neg (by simp [hn1]), if_pos hvd]
          refine goT ?_
          refine WO_storeS (k := 2) (vs := [.slice none 0 0, .slice none 0 0]) rfl rfl rfl (by intro v hv; simp at hv; subst hv; rfl) hr6 (by decide) fun wz hz oz => ?_
          replace hz : Blk wz w.heap.size [.slice none 0 0, .slice none 0 0] _ := hz
          refine goT ?_
          exact at_ret2G rfl (.cell inferInstance rfl hz rfl) (.tmp rfl) (by rw [hq]; exact ParR.none_ (Ext.only (e6.trans e7) oz (Nat.le_refl _)))
        | true =>
          refine goT ?_
          refine WO_loadSB rfl hb6 rfl ?_
          refine goT ?_
          refine WO_call rfl (l1Program_ret v bv (headT t) (lisS t 4 ((headLen t : Int) + 1)).1 _ _ w7 (hF.int.ext e7) (q6.sts.ext e7) hvd) ?_
          rintro _ w8 ⟨rfl, e8⟩
          replace hb6 := hb6.ext e8
          replace hr6 := hr6.ext e8
          refine goT ?_
          by_cases hpt : progT (headT t) (lisS t 4 ((headLen t : Int) + 1)).1 = t
          · have hq : parseS t = some (headT t, (lisS t 4 ((headLen t : Int) + 1)).1) := by unfold parseS; rw [if_neg (by omega), if_neg (by simp [hn1]), if_neg (by rw [hvd]; decide), if_neg (by simp [hpt])]
            rw [decide_eq_true hpt]
            refine goT ?_
            refine WO_loadSB rfl hb6 rfl ?_
            refine WO_storeS (k := 2) (vs := [v, bv]) rfl rfl rfl (by simp; exact ⟨hone, honeB⟩) hr6 (by decide) fun wz hz oz => ?_
            replace hz : Blk wz w.heap.size [v, bv] _ := hz
            have hrl := hr.lt
            refine goT ?_
            refine at_ret2G rfl (.cell inferInstance rfl hz rfl) (.tmp rfl) ?_
            rw [hq]
            have s3e := e03.size_le
            have s4e := e5.size_le
            have s5e := e5.size_le
            refine PrB.mk (Ft := Ft) (Fb := G) (((hF.ext e7).ext e8).chg oz.chg (fun z hz hm => ?_)) (((q6.ext e7).ext e8).chg oz.chg (fun z hz hm => ?_)) ?_ ?_ (((e6.trans e7).trans e8).only oz (Nat.le_refl _))
            · simp only [List.mem_singleton] at hm; subst hm; have := hFb _ hz; have := e1.size_le; omega
            · simp only [List.mem_singleton] at hm; subst hm; have := b1 _ hz; have := hr4.lt; omega
            · refine List.nodup_append.2 ⟨hF.nodup, n1, fun a ha b hb e => ?_⟩
              subst e
              have h1 := b1 a hb
              rw [hFv] at ha
              have := (hrow.lt a (by simpa using ha)).2
              omega
            · intro b hb
              rcases List.mem_append.1 hb with hb | hb
              · have := hFb b hb; omega
              · have := b1 b hb; have := hr4.lt; omega
          · have hq : parseS t = none := by unfold parseS; rw [if_neg (by omega), if_neg (by simp [hn1]), if_neg (by rw [hvd]; decide), if_pos hpt]
            rw [decide_eq_false hpt]
            refine goT ?_
            refine WO_storeS (k := 2) (vs := [.slice none 0 0, .slice none 0 0]) rfl rfl rfl (by intro v hv; simp at hv; subst hv; rfl) hr6 (by decide) fun wz hz oz => ?_
            replace hz : Blk wz w.heap.size [.slice none 0 0, .slice none 0 0] _ := hz
            refine goT ?_
            exact at_ret2G rfl (.cell inferInstance rfl hz rfl) (.tmp rfl) (by rw [hq]; exact ParR.none_ (Ext.only ((e6.trans e7).trans e8) oz (Nat.le_refl _)))
      · have hq : parseS t = none := by unfold parseS; rw [if_neg (by omega), if_pos hn1]
        rw [show ((lisS t 4 ((headLen t : Int) + 1)).2 != (t.length : Int)) = true from by simp [hn1]]
        refine goT ?_
        refine WO_storeS (k := 2) (vs := [.slice none 0 0, .slice none 0 0]) rfl rfl rfl (by intro v hv; simp at hv; subst hv; rfl) hr6 (by decide) fun wz hz oz => ?_
        replace hz : Blk wz w.heap.size [.slice none 0 0, .slice none 0 0] _ := hz
        refine goT ?_
        exact at_ret2G rfl (.cell inferInstance rfl hz rfl) (.tmp rfl) (by rw [hq]; exact ParR.none_ (Ext.only e6 oz (Nat.le_refl _)))
    · have hih : i < headLen t := by
        rcases Nat.lt_or_ge i (headLen t) with h | h
        · exact h
        · have : i = headLen t := by omega
          subst this
          exact absurd (headLen_at hlt) h58
      rw [decide_eq_false (show ¬ t[i] = UInt8.ofNat 58 from h58)]
      refine goT ?_
      refine Z13 (q_strAt (j := i) rfl rfl rfl hlt) ?_
      refine goT ?_
      refine W_cut [(0, sV t), (2, .pointer (some ⟨w.heap.size, 0, none⟩)), (4, .pointer (some ⟨w1.heap.size, 0, none⟩)), (5, .int .i64 (i : Int)), (6, .int .i64 (kindOf t[i]))] (fun w' => w' = w4) ?_ (fun w' hw => ?_)
      · refine goT ?_
        rw [show (((t[i].toNat : Nat) : Int) == 105) = decide (t[i] = UInt8.ofNat 105) from u8_eq (b := t[i]) (k := 105) (by decide)]
        by_cases h1 : t[i] = 105
        · rw [decide_eq_true (show t[i] = UInt8.ofNat 105 from h1), show kindOf t[i] = 1 from by unfold kindOf; rw [if_pos h1]]
          refine goT ?_
          exact at_meets (by repeat (first | exact True.intro | refine And.intro rfl ?_)) rfl
        · rw [decide_eq_false (show ¬ t[i] = UInt8.ofNat 105 from h1)]
          refine goT ?_
          rw [show (((t[i].toNat : Nat) : Int) == 98) = decide (t[i] = UInt8.ofNat 98) from u8_eq (b := t[i]) (k := 98) (by decide)]
          by_cases h2 : t[i] = 98
          · rw [decide_eq_true (show t[i] = UInt8.ofNat 98 from h2), show kindOf t[i] = 2 from by unfold kindOf; rw [if_neg h1, if_pos h2]]
            refine goT ?_
            exact at_meets (by repeat (first | exact True.intro | refine And.intro rfl ?_)) rfl
          · rw [decide_eq_false (show ¬ t[i] = UInt8.ofNat 98 from h2)]
            refine goT ?_
            rw [show (((t[i].toNat : Nat) : Int) == 114) = decide (t[i] = UInt8.ofNat 114) from u8_eq (b := t[i]) (k := 114) (by decide)]
            by_cases h3 : t[i] = 114
            · rw [decide_eq_true (show t[i] = UInt8.ofNat 114 from h3), show kindOf t[i] = 3 from by unfold kindOf; rw [if_neg h1, if_neg h2, if_pos h3]]
              refine goT ?_
              exact at_meets (by repeat (first | exact True.intro | refine And.intro rfl ?_)) rfl
            · rw [decide_eq_false (show ¬ t[i] = UInt8.ofNat 114 from h3)]
              refine goT ?_
              rw [show (((t[i].toNat : Nat) : Int) == 109) = decide (t[i] = UInt8.ofNat 109) from u8_eq (b := t[i]) (k := 109) (by decide)]
              by_cases h4 : t[i] = 109
              · rw [decide_eq_true (show t[i] = UInt8.ofNat 109 from h4), show kindOf t[i] = 4 from by unfold kindOf; rw [if_neg h1, if_neg h2, if_neg h3, if_pos h4]]
                refine goT ?_
                exact at_meets (by repeat (first | exact True.intro | refine And.intro rfl ?_)) rfl
              · rw [decide_eq_false (show ¬ t[i] = UInt8.ofNat 109 from h4), show kindOf t[i] = 0 from by unfold kindOf; rw [if_neg h1, if_neg h2, if_neg h3, if_neg h4]]
                refine goT ?_
                exact at_meets (by repeat (first | exact True.intro | refine And.intro rfl ?_)) rfl
      · cases hw
        have hone := row_one (ownsRow_base0 hrow)
        have hvp : v.ownBlock ≠ some w1.heap.size := by
          intro h
          have := (hrow.lt _ h).1
          omega
        refine goT ?_
        refine WO_app1 (m := i) (u := .int .i64 (kindOf t[i])) rfl rfl (by intro v hv; simp [Value.cells] at hv; subst hv; rfl) rfl hrow hs4 rfl (by omega) (by decide) fun v' w5 hrow5 hg5 hat5 => ?_
        have hb5 := hb.grown hg5 (fun e => hvp e.symm)
        have hr5 := hr4.grown hg5 (fun e => by have := (hrow.lt _ e.symm).1; have := hr.lt; omega)
        have he5 := ext_grown he hg5 (fun k hk => by have := (hrow.lt _ hk).1; have := e03.size_le; omega)
        have hone5 := row_one (ownsRow_base0 hrow5)
        have s5 := hg5.size
        refine goT ?_
        refine WO_store1 rfl rfl hone5 hb5 (by simp) fun w6 hb6 o6 => ?_
        simp only [List.set_cons_zero] at hb6
        have hvp' : v'.ownBlock ≠ some w1.heap.size := by
          rcases hat5 with h | h
          · rw [h]; exact hvp
          · rw [h]; intro h'; have := Option.some.inj h'; omega
        have s6 := o6.size
        have hsn : ((t.take i).map kindOf).map (Value.int .i64) ++ (Value.int .i64 (kindOf t[i])).cells.toList = ((t.take (i + 1)).map kindOf).map (Value.int .i64) := by
          rw [List.take_succ_eq_append_getElem hlt, List.map_append, List.map_append]
          rfl
        rw [hsn] at hrow5
        have hs1 := e1.size_le
        refine goT ?_
        exact at_loop (i + 1) (by repeat (first | exact True.intro | refine And.intro rfl ?_)) ⟨hih, ⟨v', hb6, ownsRow_only hrow5 o6 hvp', he5.only o6 hs1⟩, hr5.only o6 (by have := hr.lt; omega), by omega⟩ (by omega)
  · rw [decide_eq_false (show ¬ (i : Int) < (t.length : Int) by omega)]
    have hii : i = headLen t := by omega
    have hend : headLen t = t.length := by omega
    subst hii
    have hq : parseS t = none := by unfold parseS; rw [if_pos (.inr hend)]
    refine goT ?_
    rw [show (((headLen t : Nat) : Int) == (t.length : Int)) = true from by simp [hend]]
    refine goT ?_
    refine WO_storeS (k := 2) (vs := [.slice none 0 0, .slice none 0 0]) rfl rfl rfl (by intro v hv; simp at hv; subst hv; rfl) hr4 (by decide) fun wz hz oz => ?_
    replace hz : Blk wz w.heap.size [.slice none 0 0, .slice none 0 0] _ := hz
    refine goT ?_
    exact at_ret2G rfl (.cell inferInstance rfl hz rfl) (.tmp rfl) (by rw [hq]; exact ParR.none_ (Ext.only he oz (Nat.le_refl _)))
end Go.Proofs.YteonnoijdnjpdaaDoor
