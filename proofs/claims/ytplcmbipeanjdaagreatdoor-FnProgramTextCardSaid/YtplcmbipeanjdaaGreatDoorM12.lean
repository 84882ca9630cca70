/-
  What is proved here: the reference's changed copy of a program is a program of bounded size in memory that can be read.
-/
import Derived.Test.YtplcmbipeanjdaaGreatDoorM11
namespace Go.Proofs.YtplcmbipeanjdaaGreatDoor
set_option linter.unusedVariables false
set_option linter.unusedSimpArgs false
set_option linter.unnecessarySimpa false
open Go.RowKit

/-- A slice that owns a row, its statements, and the blocks below it. -/
structure Grw (e : TypeId) (B ob : Nat) (tF : List Nat) (w : World) (v : Value) (l : Ss) (xs : List Value) (G : List Nat) : Prop where
  own : w.ownsRow B e 6 v l.len xs
  stk : StkS e w l xs G
  away : ∀ x ∈ G, x ∉ v.ownBlock.toList ∧ B ≤ x ∧ x ≠ ob
  ownA : ∀ b, v.ownBlock = some b → b ≠ ob ∧ b ∉ tF
theorem Grw.sts {e : TypeId} {B ob : Nat} {tF : List Nat} {w : World} {v : Value} {l : Ss} {xs : List Value} {G : List Nat} (h : Grw e B ob tF w v l xs G) : ∃ F, StS w v l F ∧ ∀ x ∈ F, B ≤ x ∧ x < w.heap.size := by
  have hr : RowS e w v l (v.ownBlock.toList ++ G) := ⟨xs, G, ownsRow_base0 h.own, h.stk, rfl⟩
  refine ⟨_, hr.sts, fun x hx => ⟨?_, hr.lt x hx⟩⟩
  rcases List.mem_append.1 hx with hx | hx
  · exact (h.own.lt x (by simpa using hx)).1
  · exact (h.away x hx).2.1
theorem l1Mutate_ret (rb q k : Nat) (tv bv : Value) (tl : List Int) (l : Ss) (w : World) (hr : RdU w rb q) (hq : q ≤ 100000000) (hP : PrD w [rb] tv bv tl l) (htk : tl.length ≤ k) (hlk : cntL l ≤ k) (hk : k ≤ 32000) :
    Ret Tryz.prog 30 [.pointer (some ⟨rb, 0, none⟩), prV tv bv] w fun r w' => DrP w.heap.size (32 * k + 1) w' r ∧ RdU w' rb (q + 3) ∧ Chg [rb] w w' := by
  obtain ⟨Ft, Fl, a1, a2, a3⟩ := hP
  have hrl := hr.lt
  have hlc := len_le_cntL l
  refine enter Tryz.func30 rfl Tryz.ntmps30 rfl rfl ?_
  refine Z43 (Z44 (WO_box rfl fun w1 hs e1 z1 => WO_alloc fun w2 hz e2 z2 => ?_))
  replace hs : Blk w2 w.heap.size [tv, bv] _ := Blk.ext hs e2
  replace hz : Blk w2 w1.heap.size [.slice none 0 0, .slice none 0 0] _ := hz
  have e12 := e1.trans e2
  have s1 := e1.size_le
  have s2 := hz.lt
  refine goS ?_
  refine WO_loadSB rfl hs rfl ?_
  refine WO_call rfl (l1CopyOfR_ret tv bv tl l Ft Fl w2 (a1.ext e12) (a2.ext e12) (by omega) (by omega)) ?_
  rintro _ w3 ⟨tv', bv', Fb, rfl, h1, h2, h3, h4, e3⟩
  have hF : ∀ x ∈ tv'.ownBlock.toList ++ Fb, w2.heap.size ≤ x ∧ x < w3.heap.size := fun x hx => ⟨h4 x hx, by
    rcases List.mem_append.1 hx with h | h
    · exact (h1.lt x (by simpa using h)).2
    · exact h2.lt x h⟩
  have hFb : ∀ x ∈ Fb, w2.heap.size ≤ x ∧ x < w3.heap.size := fun x hx => hF x (by simp [hx])
  have hFt : ∀ x ∈ tv'.ownBlock.toList, w2.heap.size ≤ x ∧ x < w3.heap.size := fun x hx => hF x (List.mem_append_left _ hx)
  have nd := List.nodup_append.1 h3
  have oneT := row_one (ownsRow_base0 h1)
  have oneB' := h2.one
  have s3 := e3.size_le
  refine goS ?_
  refine WO_alloc fun w4 hb4 e4 z4 => ?_
  refine WO_storeS (k := 2) (vs := [tv', bv']) rfl rfl rfl (by simp; exact ⟨oneT, oneB'⟩) hb4 (by decide) fun w5 ho o5 => ?_
  replace ho : Blk w5 w3.heap.size [tv', bv'] _ := ho
  have e5 : Ext w3 w5 := e4.only o5 (Nat.le_refl _)
  have s5 := ho.lt
  have e05 := (e12.trans e3).trans e5
  have r5 := ownsRow_ext h1 e5
  have p5 := h2.ext e5
  have hz5 := (hz.ext e3).ext e5
  have hr5 := hr.ext e05
  obtain ⟨A, c, hbv, hlc2, hc2⟩ := p5.slice
  have tl5 := OwnI.of_row r5 rfl (by unfold maxI; omega)
  obtain ⟨Ftv, i5, _, hFtv⟩ := tl5
  subst hFtv
  have i5 := i5.int
  have hlen5 : l.len ≤ 32000 := by omega
  by_cases h0 : l.len = 0
  · have hoE := ho
    have hzE := hz5
    have iE := i5
    have jE := p5.sts
    have mE : ∀ x ∈ tv'.ownBlock.toList ++ Fb, w2.heap.size ≤ x ∧ x < w5.heap.size := fun x hx => by have := hF x hx; omega
    have tlE : tl.length ≤ 32 * k + 1 := by omega
    have clE : cntL l ≤ 32 * k + 1 := by omega
    have rE := hr5
    have cE : Chg [rb] w w5 := e05.chg _
    subst hbv
    refine goS ?_
    rw [show (((l.len : Nat) : Int) == 0) = true from by rw [beq_iff_eq]; omega]
    refine goS ?_
    refine WO_loadSB rfl hoE rfl ?_
    refine WO_storeS (k := 2) (vs := [tv', .slice A l.len c]) rfl rfl rfl (by simp; exact ⟨oneT, oneB'⟩) hzE (by decide) fun wz hzz oz => ?_
    replace hzz : Blk wz w1.heap.size [tv', .slice A l.len c] _ := hzz
    have sz := oz.size
    refine goS ?_
    refine at_retC rfl rfl hzz rfl ⟨⟨tv', .slice A l.len c, _, _, _, _, rfl, IntF.chg iE oz.chg (fun x hx hm => by simp at hm; have := mE x (by simp [hx]); omega), StS.chg jE oz.chg (fun x hx hm => by simp at hm; have := mE x (by simp [hx]); omega), fun x hx => by have := mE x hx; omega, tlE, clE⟩, RdU.mono (RdU.chg rE oz.chg (by simp; omega)) (by omega), Chg.freshS cE oz.chg (by simp; omega)⟩
  · subst hbv
    refine goS ?_
    rw [show (((l.len : Nat) : Int) == 0) = false from by rw [beq_eq_false_iff_ne]; omega]
    refine goS ?_
    refine WO_call rfl (pickU_ret rb q (l.len : Int) w5 hr5 (by omega) (by omega)) ?_
    rintro _ w5' ⟨i, rfl, hi, hr5', c5'⟩
    have hi : i < l.len := by omega
    refine goS ?_
    refine WO_call rfl (pickU_ret rb (q + 1) 30 w5' hr5' (by omega) (by decide)) ?_
    rintro _ w6 ⟨m, rfl, hm, hr6, c6'⟩
    have c56 := c5'.trans c6'
    have hno : ∀ x ∈ tv'.ownBlock.toList ++ Fb, x ∉ [rb] := fun x hx hm => by simp at hm; have := hF x hx; omega
    have ho6 := ho.chg c56 (by simp; omega)
    have hz6 := hz5.chg c56 (by simp; omega)
    have i6 := i5.chg c56 (fun x hx => hno x (by simp only [List.mem_append]; exact .inl hx))
    have r6 := ownsRow_chg r5 c56 (fun x hx => hno x (by simp only [List.mem_append]; exact .inl (by simpa using hx)))
    have p6 := p5.chg c56 (fun x hx => hno x (by simp [hx]))
    have c6 : Chg [rb] w w6 := (e05.chg _).trans c56
    have s6 := c56.size
    clear c5' c6' hr5' hr5 hz5 ho i5 r5 p5 hb4 hz hs
    by_cases hm0 : m = 0
    · subst hm0
      obtain ⟨g, cap, cs, hv, hcap, hgF, hg, hcl, hup⟩ := row_fld p6 nd.2.1 hi
      injection hv with hA _ hc
      subst hA
      subst hc
      have hgB := hFb g hgF
      have hgt : ∀ z ∈ tv'.ownBlock.toList, z ≠ g := fun z hz e => nd.2.2 z hz g hgF e
      refine goS ?_
      refine W_held0 [rb, g] [(4, .pointer (some ⟨w1.heap.size, 0, none⟩)), (5, .pointer (some ⟨w3.heap.size, 0, none⟩))] (fun w' => ∃ z : Int, Blk w' g (cs.set (i * 6 + 0) (.int .i64 z)) 59 ∧ RdU w' rb (q + 3) ∧ Chg [rb, g] w6 w') (by kernel_rfl) (fun ws es hS => ?_) (fun w8 hR => ?_)
      · have hos := ho6.ext es
        have hrs := hr6.ext es
        first | refine Z82 0 rfl (by kernel_rfl) (by kernel_rfl) (by kernel_rfl) (by assumption) (fun w' hw' => Z56 rfl) ?_ | refine Z82 0 rfl (by kernel_rfl) (by kernel_rfl) (by kernel_rfl) (by assumption) (fun w' hw' => Z63 rfl rfl) ?_ | refine Z82 0 rfl (by kernel_rfl) (by kernel_rfl) (by kernel_rfl) (by assumption) (fun w' hw' => Z64 rfl rfl) ?_ | refine Z82 0 rfl (by kernel_rfl) (by kernel_rfl) (by kernel_rfl) (by assumption) (fun w' hw' => Z75 rfl rfl (by omega)) ?_ | refine Z82 0 rfl (by kernel_rfl) (by kernel_rfl) (by kernel_rfl) (by assumption) (fun w' hw' => Z72 rfl) ?_ | refine Z82 0 rfl (by kernel_rfl) (by kernel_rfl) (by kernel_rfl) (by assumption) (fun w' hw' => Z69 rfl rfl rfl (by omega)) ?_ | refine Z82 0 rfl (by kernel_rfl) (by kernel_rfl) (by kernel_rfl) (by assumption) (fun w' hw' => Z30 rfl (by rfl) (by simp only [Z84, List.set_cons_zero, List.set_cons_succ]; rfl)) ?_
        refine Z82 1 rfl (by kernel_rfl) (by kernel_rfl) (by kernel_rfl) (by assumption) (fun w' hw' => Z66 rfl (hos.chg hw' (by simp; omega)) rfl) ?_
        first | refine Z82 2 rfl (by kernel_rfl) (by kernel_rfl) (by kernel_rfl) (by assumption) (fun w' hw' => Z56 rfl) ?_ | refine Z82 2 rfl (by kernel_rfl) (by kernel_rfl) (by kernel_rfl) (by assumption) (fun w' hw' => Z63 rfl rfl) ?_ | refine Z82 2 rfl (by kernel_rfl) (by kernel_rfl) (by kernel_rfl) (by assumption) (fun w' hw' => Z64 rfl rfl) ?_ | refine Z82 2 rfl (by kernel_rfl) (by kernel_rfl) (by kernel_rfl) (by assumption) (fun w' hw' => Z75 rfl rfl (by omega)) ?_ | refine Z82 2 rfl (by kernel_rfl) (by kernel_rfl) (by kernel_rfl) (by assumption) (fun w' hw' => Z72 rfl) ?_ | refine Z82 2 rfl (by kernel_rfl) (by kernel_rfl) (by kernel_rfl) (by assumption) (fun w' hw' => Z69 rfl rfl rfl (by omega)) ?_ | refine Z82 2 rfl (by kernel_rfl) (by kernel_rfl) (by kernel_rfl) (by assumption) (fun w' hw' => Z30 rfl (by rfl) (by simp only [Z84, List.set_cons_zero, List.set_cons_succ]; rfl)) ?_
        first | refine Z82 3 rfl (by kernel_rfl) (by kernel_rfl) (by kernel_rfl) (by assumption) (fun w' hw' => Z56 rfl) ?_ | refine Z82 3 rfl (by kernel_rfl) (by kernel_rfl) (by kernel_rfl) (by assumption) (fun w' hw' => Z63 rfl rfl) ?_ | refine Z82 3 rfl (by kernel_rfl) (by kernel_rfl) (by kernel_rfl) (by assumption) (fun w' hw' => Z64 rfl rfl) ?_ | refine Z82 3 rfl (by kernel_rfl) (by kernel_rfl) (by kernel_rfl) (by assumption) (fun w' hw' => Z75 rfl rfl (by omega)) ?_ | refine Z82 3 rfl (by kernel_rfl) (by kernel_rfl) (by kernel_rfl) (by assumption) (fun w' hw' => Z72 rfl) ?_ | refine Z82 3 rfl (by kernel_rfl) (by kernel_rfl) (by kernel_rfl) (by assumption) (fun w' hw' => Z69 rfl rfl rfl (by omega)) ?_ | refine Z82 3 rfl (by kernel_rfl) (by kernel_rfl) (by kernel_rfl) (by assumption) (fun w' hw' => Z30 rfl (by rfl) (by simp only [Z84, List.set_cons_zero, List.set_cons_succ]; rfl)) ?_
        refine WH_one 4 rfl (by kernel_rfl) (WO_ints [0, 11, 1, 3, 8] rfl rfl (by decide) (by decide) fun wa hia ea za => Z31 (at_held (ea.chg _) ?_))
        have hlr := hrs.lt
        refine WX_call 5 rfl (by kernel_rfl) rfl (numU_ret rb (q + 2) _ [0, 11, 1, 3, 8] _ wa (hrs.ext ea) (by omega) hia.int (by decide) (by simp; omega)) ?_
        rintro _ wb ⟨z, hz, rfl, hrb, cb⟩
        have Sb : Chg [rb, g] ws wb := (ea.chg _).trans (cb.mono (by simp))
        refine ⟨Sb, ?_⟩
        refine Z82 6 rfl (by kernel_rfl) (by kernel_rfl) (by kernel_rfl) (by assumption) (fun w' hw' => Z69 (j := i) rfl rfl rfl (by omega)) ?_
        first | refine Z82 7 rfl (by kernel_rfl) (by kernel_rfl) (by kernel_rfl) (by assumption) (fun w' hw' => Z56 rfl) ?_ | refine Z82 7 rfl (by kernel_rfl) (by kernel_rfl) (by kernel_rfl) (by assumption) (fun w' hw' => Z63 rfl rfl) ?_ | refine Z82 7 rfl (by kernel_rfl) (by kernel_rfl) (by kernel_rfl) (by assumption) (fun w' hw' => Z64 rfl rfl) ?_ | refine Z82 7 rfl (by kernel_rfl) (by kernel_rfl) (by kernel_rfl) (by assumption) (fun w' hw' => Z75 rfl rfl (by omega)) ?_ | refine Z82 7 rfl (by kernel_rfl) (by kernel_rfl) (by kernel_rfl) (by assumption) (fun w' hw' => Z72 rfl) ?_ | refine Z82 7 rfl (by kernel_rfl) (by kernel_rfl) (by kernel_rfl) (by assumption) (fun w' hw' => Z69 rfl rfl rfl (by omega)) ?_ | refine Z82 7 rfl (by kernel_rfl) (by kernel_rfl) (by kernel_rfl) (by assumption) (fun w' hw' => Z30 rfl (by rfl) (by simp only [Z84, List.set_cons_zero, List.set_cons_succ]; rfl)) ?_
        have hgb := (((hg.ext es).ext ea)).chg cb (by simp; omega)
        refine WH_one 8 rfl (by kernel_rfl) (WO_store1 rfl rfl rfl hgb (by omega) fun wc hgc oc => Z31 (at_held (Sb.trans (oc.chg.mono (by simp))) ?_))
        have sa := es.size_le
        refine WH_done (by kernel_rfl) (by repeat (first | exact True.intro | refine And.intro rfl ?_)) ⟨z, by simpa using hgc, RdU.chg hrb oc.chg (by simp; omega), (es.chg _).trans (Sb.trans (oc.chg.mono (by simp)))⟩
      · obtain ⟨z, hg8, rE, c8⟩ := hR
        have hno : ∀ x ∈ tv'.ownBlock.toList ++ Fb, x ≠ g → x ∉ [rb, g] := fun x hx hne hm => by simp at hm; have := hF x hx; omega
        obtain ⟨l', hrow, _, hcl'⟩ := hup 0 z w8 _ (by decide) hg8 c8 (fun x hx => hno x (by simp [hx]))
        have iE := (IntF.chg i6 c8 (fun x hx => hno x (by simp only [List.mem_append]; exact .inl hx) (hgt x hx)))
        have jE := hrow.sts
        have hoE := ho6.chg c8 (by simp; omega)
        have hzE := hz6.chg c8 (by simp; omega)
        have s8 := c8.size
        have oneB' : (Value.slice (some ⟨g, 0, none⟩) l.len c).oneCell' = true := rfl
        have mE : ∀ x ∈ tv'.ownBlock.toList ++ Fb, w2.heap.size ≤ x ∧ x < w8.heap.size := fun x hx => by have := hF x hx; omega
        have tlE : tl.length ≤ 32 * k + 1 := by omega
        have clE : cntL l' ≤ 32 * k + 1 := by omega
        have cE : Chg [rb] w w8 := Chg.freshS c6 c8 (by simp; omega)
        refine goS ?_
        refine WO_loadSB rfl hoE rfl ?_
        refine WO_storeS (k := 2) (vs := [tv', .slice (some ⟨g, 0, none⟩) l.len c]) rfl rfl rfl (by simp; exact ⟨oneT, oneB'⟩) hzE (by decide) fun wz hzz oz => ?_
        replace hzz : Blk wz w1.heap.size [tv', .slice (some ⟨g, 0, none⟩) l.len c] _ := hzz
        have sz := oz.size
        refine goS ?_
        refine at_retC rfl rfl hzz rfl ⟨⟨tv', .slice (some ⟨g, 0, none⟩) l.len c, _, _, _, _, rfl, IntF.chg iE oz.chg (fun x hx hm => by simp at hm; have := mE x (by simp [hx]); omega), StS.chg jE oz.chg (fun x hx hm => by simp at hm; have := mE x (by simp [hx]); omega), fun x hx => by have := mE x hx; omega, tlE, clE⟩, RdU.mono (RdU.chg rE oz.chg (by simp; omega)) (by omega), Chg.freshS cE oz.chg (by simp; omega)⟩
    by_cases hm1 : m = 1
    · subst hm1
      obtain ⟨g, cap, cs, hv, hcap, hgF, hg, hcl, hup⟩ := row_fld p6 nd.2.1 hi
      injection hv with hA _ hc
      subst hA
      subst hc
      have hgB := hFb g hgF
      have hgt : ∀ z ∈ tv'.ownBlock.toList, z ≠ g := fun z hz e => nd.2.2 z hz g hgF e
      refine goS ?_
      refine W_held0 [rb, g] [(4, .pointer (some ⟨w1.heap.size, 0, none⟩)), (5, .pointer (some ⟨w3.heap.size, 0, none⟩))] (fun w' => ∃ z : Int, Blk w' g (cs.set (i * 6 + 1) (.int .i64 z)) 59 ∧ RdU w' rb (q + 3) ∧ Chg [rb, g] w6 w') (by kernel_rfl) (fun ws es hS => ?_) (fun w8 hR => ?_)
      · have hos := ho6.ext es
        have hrs := hr6.ext es
        first | refine Z82 0 rfl (by kernel_rfl) (by kernel_rfl) (by kernel_rfl) (by assumption) (fun w' hw' => Z56 rfl) ?_ | refine Z82 0 rfl (by kernel_rfl) (by kernel_rfl) (by kernel_rfl) (by assumption) (fun w' hw' => Z63 rfl rfl) ?_ | refine Z82 0 rfl (by kernel_rfl) (by kernel_rfl) (by kernel_rfl) (by assumption) (fun w' hw' => Z64 rfl rfl) ?_ | refine Z82 0 rfl (by kernel_rfl) (by kernel_rfl) (by kernel_rfl) (by assumption) (fun w' hw' => Z75 rfl rfl (by omega)) ?_ | refine Z82 0 rfl (by kernel_rfl) (by kernel_rfl) (by kernel_rfl) (by assumption) (fun w' hw' => Z72 rfl) ?_ | refine Z82 0 rfl (by kernel_rfl) (by kernel_rfl) (by kernel_rfl) (by assumption) (fun w' hw' => Z69 rfl rfl rfl (by omega)) ?_ | refine Z82 0 rfl (by kernel_rfl) (by kernel_rfl) (by kernel_rfl) (by assumption) (fun w' hw' => Z30 rfl (by rfl) (by simp only [Z84, List.set_cons_zero, List.set_cons_succ]; rfl)) ?_
        refine Z82 1 rfl (by kernel_rfl) (by kernel_rfl) (by kernel_rfl) (by assumption) (fun w' hw' => Z66 rfl (hos.chg hw' (by simp; omega)) rfl) ?_
        first | refine Z82 2 rfl (by kernel_rfl) (by kernel_rfl) (by kernel_rfl) (by assumption) (fun w' hw' => Z56 rfl) ?_ | refine Z82 2 rfl (by kernel_rfl) (by kernel_rfl) (by kernel_rfl) (by assumption) (fun w' hw' => Z63 rfl rfl) ?_ | refine Z82 2 rfl (by kernel_rfl) (by kernel_rfl) (by kernel_rfl) (by assumption) (fun w' hw' => Z64 rfl rfl) ?_ | refine Z82 2 rfl (by kernel_rfl) (by kernel_rfl) (by kernel_rfl) (by assumption) (fun w' hw' => Z75 rfl rfl (by omega)) ?_ | refine Z82 2 rfl (by kernel_rfl) (by kernel_rfl) (by kernel_rfl) (by assumption) (fun w' hw' => Z72 rfl) ?_ | refine Z82 2 rfl (by kernel_rfl) (by kernel_rfl) (by kernel_rfl) (by assumption) (fun w' hw' => Z69 rfl rfl rfl (by omega)) ?_ | refine Z82 2 rfl (by kernel_rfl) (by kernel_rfl) (by kernel_rfl) (by assumption) (fun w' hw' => Z30 rfl (by rfl) (by simp only [Z84, List.set_cons_zero, List.set_cons_succ]; rfl)) ?_
        first | refine Z82 3 rfl (by kernel_rfl) (by kernel_rfl) (by kernel_rfl) (by assumption) (fun w' hw' => Z56 rfl) ?_ | refine Z82 3 rfl (by kernel_rfl) (by kernel_rfl) (by kernel_rfl) (by assumption) (fun w' hw' => Z63 rfl rfl) ?_ | refine Z82 3 rfl (by kernel_rfl) (by kernel_rfl) (by kernel_rfl) (by assumption) (fun w' hw' => Z64 rfl rfl) ?_ | refine Z82 3 rfl (by kernel_rfl) (by kernel_rfl) (by kernel_rfl) (by assumption) (fun w' hw' => Z75 rfl rfl (by omega)) ?_ | refine Z82 3 rfl (by kernel_rfl) (by kernel_rfl) (by kernel_rfl) (by assumption) (fun w' hw' => Z72 rfl) ?_ | refine Z82 3 rfl (by kernel_rfl) (by kernel_rfl) (by kernel_rfl) (by assumption) (fun w' hw' => Z69 rfl rfl rfl (by omega)) ?_ | refine Z82 3 rfl (by kernel_rfl) (by kernel_rfl) (by kernel_rfl) (by assumption) (fun w' hw' => Z30 rfl (by rfl) (by simp only [Z84, List.set_cons_zero, List.set_cons_succ]; rfl)) ?_
        refine WH_one 4 rfl (by kernel_rfl) (WO_ints [6, -1, 0, 1] rfl rfl (by decide) (by decide) fun wa hia ea za => Z31 (at_held (ea.chg _) ?_))
        have hlr := hrs.lt
        refine WX_call 5 rfl (by kernel_rfl) rfl (numU_ret rb (q + 2) _ [6, -1, 0, 1] _ wa (hrs.ext ea) (by omega) hia.int (by decide) (by simp; omega)) ?_
        rintro _ wb ⟨z, hz, rfl, hrb, cb⟩
        have Sb : Chg [rb, g] ws wb := (ea.chg _).trans (cb.mono (by simp))
        refine ⟨Sb, ?_⟩
        refine Z82 6 rfl (by kernel_rfl) (by kernel_rfl) (by kernel_rfl) (by assumption) (fun w' hw' => Z69 (j := i) rfl rfl rfl (by omega)) ?_
        first | refine Z82 7 rfl (by kernel_rfl) (by kernel_rfl) (by kernel_rfl) (by assumption) (fun w' hw' => Z56 rfl) ?_ | refine Z82 7 rfl (by kernel_rfl) (by kernel_rfl) (by kernel_rfl) (by assumption) (fun w' hw' => Z63 rfl rfl) ?_ | refine Z82 7 rfl (by kernel_rfl) (by kernel_rfl) (by kernel_rfl) (by assumption) (fun w' hw' => Z64 rfl rfl) ?_ | refine Z82 7 rfl (by kernel_rfl) (by kernel_rfl) (by kernel_rfl) (by assumption) (fun w' hw' => Z75 rfl rfl (by omega)) ?_ | refine Z82 7 rfl (by kernel_rfl) (by kernel_rfl) (by kernel_rfl) (by assumption) (fun w' hw' => Z72 rfl) ?_ | refine Z82 7 rfl (by kernel_rfl) (by kernel_rfl) (by kernel_rfl) (by assumption) (fun w' hw' => Z69 rfl rfl rfl (by omega)) ?_ | refine Z82 7 rfl (by kernel_rfl) (by kernel_rfl) (by kernel_rfl) (by assumption) (fun w' hw' => Z30 rfl (by rfl) (by simp only [Z84, List.set_cons_zero, List.set_cons_succ]; rfl)) ?_
        have hgb := (((hg.ext es).ext ea)).chg cb (by simp; omega)
        refine WH_one 8 rfl (by kernel_rfl) (WO_store1 rfl rfl rfl hgb (by omega) fun wc hgc oc => Z31 (at_held (Sb.trans (oc.chg.mono (by simp))) ?_))
        have sa := es.size_le
        refine WH_done (by kernel_rfl) (by repeat (first | exact True.intro | refine And.intro rfl ?_)) ⟨z, by simpa using hgc, RdU.chg hrb oc.chg (by simp; omega), (es.chg _).trans (Sb.trans (oc.chg.mono (by simp)))⟩
      · obtain ⟨z, hg8, rE, c8⟩ := hR
        have hno : ∀ x ∈ tv'.ownBlock.toList ++ Fb, x ≠ g → x ∉ [rb, g] := fun x hx hne hm => by simp at hm; have := hF x hx; omega
        obtain ⟨l', hrow, _, hcl'⟩ := hup 1 z w8 _ (by decide) hg8 c8 (fun x hx => hno x (by simp [hx]))
        have iE := (IntF.chg i6 c8 (fun x hx => hno x (by simp only [List.mem_append]; exact .inl hx) (hgt x hx)))
        have jE := hrow.sts
        have hoE := ho6.chg c8 (by simp; omega)
        have hzE := hz6.chg c8 (by simp; omega)
        have s8 := c8.size
        have oneB' : (Value.slice (some ⟨g, 0, none⟩) l.len c).oneCell' = true := rfl
        have mE : ∀ x ∈ tv'.ownBlock.toList ++ Fb, w2.heap.size ≤ x ∧ x < w8.heap.size := fun x hx => by have := hF x hx; omega
        have tlE : tl.length ≤ 32 * k + 1 := by omega
        have clE : cntL l' ≤ 32 * k + 1 := by omega
        have cE : Chg [rb] w w8 := Chg.freshS c6 c8 (by simp; omega)
        refine goS ?_
        refine WO_loadSB rfl hoE rfl ?_
        refine WO_storeS (k := 2) (vs := [tv', .slice (some ⟨g, 0, none⟩) l.len c]) rfl rfl rfl (by simp; exact ⟨oneT, oneB'⟩) hzE (by decide) fun wz hzz oz => ?_
        replace hzz : Blk wz w1.heap.size [tv', .slice (some ⟨g, 0, none⟩) l.len c] _ := hzz
        have sz := oz.size
        refine goS ?_
        refine at_retC rfl rfl hzz rfl ⟨⟨tv', .slice (some ⟨g, 0, none⟩) l.len c, _, _, _, _, rfl, IntF.chg iE oz.chg (fun x hx hm => by simp at hm; have := mE x (by simp [hx]); omega), StS.chg jE oz.chg (fun x hx hm => by simp at hm; have := mE x (by simp [hx]); omega), fun x hx => by have := mE x hx; omega, tlE, clE⟩, RdU.mono (RdU.chg rE oz.chg (by simp; omega)) (by omega), Chg.freshS cE oz.chg (by simp; omega)⟩
    by_cases hm2 : m = 2
    · subst hm2
      obtain ⟨g, cap, cs, hv, hcap, hgF, hg, hcl, hup⟩ := row_fld p6 nd.2.1 hi
      injection hv with hA _ hc
      subst hA
      subst hc
      have hgB := hFb g hgF
      have hgt : ∀ z ∈ tv'.ownBlock.toList, z ≠ g := fun z hz e => nd.2.2 z hz g hgF e
      refine goS ?_
      refine W_held0 [rb, g] [(4, .pointer (some ⟨w1.heap.size, 0, none⟩)), (5, .pointer (some ⟨w3.heap.size, 0, none⟩))] (fun w' => ∃ z : Int, Blk w' g (cs.set (i * 6 + 2) (.int .i64 z)) 59 ∧ RdU w' rb (q + 3) ∧ Chg [rb, g] w6 w') (by kernel_rfl) (fun ws es hS => ?_) (fun w8 hR => ?_)
      · have hos := ho6.ext es
        have hrs := hr6.ext es
        first | refine Z82 0 rfl (by kernel_rfl) (by kernel_rfl) (by kernel_rfl) (by assumption) (fun w' hw' => Z56 rfl) ?_ | refine Z82 0 rfl (by kernel_rfl) (by kernel_rfl) (by kernel_rfl) (by assumption) (fun w' hw' => Z63 rfl rfl) ?_ | refine Z82 0 rfl (by kernel_rfl) (by kernel_rfl) (by kernel_rfl) (by assumption) (fun w' hw' => Z64 rfl rfl) ?_ | refine Z82 0 rfl (by kernel_rfl) (by kernel_rfl) (by kernel_rfl) (by assumption) (fun w' hw' => Z75 rfl rfl (by omega)) ?_ | refine Z82 0 rfl (by kernel_rfl) (by kernel_rfl) (by kernel_rfl) (by assumption) (fun w' hw' => Z72 rfl) ?_ | refine Z82 0 rfl (by kernel_rfl) (by kernel_rfl) (by kernel_rfl) (by assumption) (fun w' hw' => Z69 rfl rfl rfl (by omega)) ?_ | refine Z82 0 rfl (by kernel_rfl) (by kernel_rfl) (by kernel_rfl) (by assumption) (fun w' hw' => Z30 rfl (by rfl) (by simp only [Z84, List.set_cons_zero, List.set_cons_succ]; rfl)) ?_
        refine Z82 1 rfl (by kernel_rfl) (by kernel_rfl) (by kernel_rfl) (by assumption) (fun w' hw' => Z66 rfl (hos.chg hw' (by simp; omega)) rfl) ?_
        first | refine Z82 2 rfl (by kernel_rfl) (by kernel_rfl) (by kernel_rfl) (by assumption) (fun w' hw' => Z56 rfl) ?_ | refine Z82 2 rfl (by kernel_rfl) (by kernel_rfl) (by kernel_rfl) (by assumption) (fun w' hw' => Z63 rfl rfl) ?_ | refine Z82 2 rfl (by kernel_rfl) (by kernel_rfl) (by kernel_rfl) (by assumption) (fun w' hw' => Z64 rfl rfl) ?_ | refine Z82 2 rfl (by kernel_rfl) (by kernel_rfl) (by kernel_rfl) (by assumption) (fun w' hw' => Z75 rfl rfl (by omega)) ?_ | refine Z82 2 rfl (by kernel_rfl) (by kernel_rfl) (by kernel_rfl) (by assumption) (fun w' hw' => Z72 rfl) ?_ | refine Z82 2 rfl (by kernel_rfl) (by kernel_rfl) (by kernel_rfl) (by assumption) (fun w' hw' => Z69 rfl rfl rfl (by omega)) ?_ | refine Z82 2 rfl (by kernel_rfl) (by kernel_rfl) (by kernel_rfl) (by assumption) (fun w' hw' => Z30 rfl (by rfl) (by simp only [Z84, List.set_cons_zero, List.set_cons_succ]; rfl)) ?_
        first | refine Z82 3 rfl (by kernel_rfl) (by kernel_rfl) (by kernel_rfl) (by assumption) (fun w' hw' => Z56 rfl) ?_ | refine Z82 3 rfl (by kernel_rfl) (by kernel_rfl) (by kernel_rfl) (by assumption) (fun w' hw' => Z63 rfl rfl) ?_ | refine Z82 3 rfl (by kernel_rfl) (by kernel_rfl) (by kernel_rfl) (by assumption) (fun w' hw' => Z64 rfl rfl) ?_ | refine Z82 3 rfl (by kernel_rfl) (by kernel_rfl) (by kernel_rfl) (by assumption) (fun w' hw' => Z75 rfl rfl (by omega)) ?_ | refine Z82 3 rfl (by kernel_rfl) (by kernel_rfl) (by kernel_rfl) (by assumption) (fun w' hw' => Z72 rfl) ?_ | refine Z82 3 rfl (by kernel_rfl) (by kernel_rfl) (by kernel_rfl) (by assumption) (fun w' hw' => Z69 rfl rfl rfl (by omega)) ?_ | refine Z82 3 rfl (by kernel_rfl) (by kernel_rfl) (by kernel_rfl) (by assumption) (fun w' hw' => Z30 rfl (by rfl) (by simp only [Z84, List.set_cons_zero, List.set_cons_succ]; rfl)) ?_
        refine WH_one 4 rfl (by kernel_rfl) (WO_ints [6, -1, 0, 1] rfl rfl (by decide) (by decide) fun wa hia ea za => Z31 (at_held (ea.chg _) ?_))
        have hlr := hrs.lt
        refine WX_call 5 rfl (by kernel_rfl) rfl (numU_ret rb (q + 2) _ [6, -1, 0, 1] _ wa (hrs.ext ea) (by omega) hia.int (by decide) (by simp; omega)) ?_
        rintro _ wb ⟨z, hz, rfl, hrb, cb⟩
        have Sb : Chg [rb, g] ws wb := (ea.chg _).trans (cb.mono (by simp))
        refine ⟨Sb, ?_⟩
        refine Z82 6 rfl (by kernel_rfl) (by kernel_rfl) (by kernel_rfl) (by assumption) (fun w' hw' => Z69 (j := i) rfl rfl rfl (by omega)) ?_
        first | refine Z82 7 rfl (by kernel_rfl) (by kernel_rfl) (by kernel_rfl) (by assumption) (fun w' hw' => Z56 rfl) ?_ | refine Z82 7 rfl (by kernel_rfl) (by kernel_rfl) (by kernel_rfl) (by assumption) (fun w' hw' => Z63 rfl rfl) ?_ | refine Z82 7 rfl (by kernel_rfl) (by kernel_rfl) (by kernel_rfl) (by assumption) (fun w' hw' => Z64 rfl rfl) ?_ | refine Z82 7 rfl (by kernel_rfl) (by kernel_rfl) (by kernel_rfl) (by assumption) (fun w' hw' => Z75 rfl rfl (by omega)) ?_ | refine Z82 7 rfl (by kernel_rfl) (by kernel_rfl) (by kernel_rfl) (by assumption) (fun w' hw' => Z72 rfl) ?_ | refine Z82 7 rfl (by kernel_rfl) (by kernel_rfl) (by kernel_rfl) (by assumption) (fun w' hw' => Z69 rfl rfl rfl (by omega)) ?_ | refine Z82 7 rfl (by kernel_rfl) (by kernel_rfl) (by kernel_rfl) (by assumption) (fun w' hw' => Z30 rfl (by rfl) (by simp only [Z84, List.set_cons_zero, List.set_cons_succ]; rfl)) ?_
        have hgb := (((hg.ext es).ext ea)).chg cb (by simp; omega)
        refine WH_one 8 rfl (by kernel_rfl) (WO_store1 rfl rfl rfl hgb (by omega) fun wc hgc oc => Z31 (at_held (Sb.trans (oc.chg.mono (by simp))) ?_))
        have sa := es.size_le
        refine WH_done (by kernel_rfl) (by repeat (first | exact True.intro | refine And.intro rfl ?_)) ⟨z, by simpa using hgc, RdU.chg hrb oc.chg (by simp; omega), (es.chg _).trans (Sb.trans (oc.chg.mono (by simp)))⟩
      · obtain ⟨z, hg8, rE, c8⟩ := hR
        have hno : ∀ x ∈ tv'.ownBlock.toList ++ Fb, x ≠ g → x ∉ [rb, g] := fun x hx hne hm => by simp at hm; have := hF x hx; omega
        obtain ⟨l', hrow, _, hcl'⟩ := hup 2 z w8 _ (by decide) hg8 c8 (fun x hx => hno x (by simp [hx]))
        have iE := (IntF.chg i6 c8 (fun x hx => hno x (by simp only [List.mem_append]; exact .inl hx) (hgt x hx)))
        have jE := hrow.sts
        have hoE := ho6.chg c8 (by simp; omega)
        have hzE := hz6.chg c8 (by simp; omega)
        have s8 := c8.size
        have oneB' : (Value.slice (some ⟨g, 0, none⟩) l.len c).oneCell' = true := rfl
        have mE : ∀ x ∈ tv'.ownBlock.toList ++ Fb, w2.heap.size ≤ x ∧ x < w8.heap.size := fun x hx => by have := hF x hx; omega
        have tlE : tl.length ≤ 32 * k + 1 := by omega
        have clE : cntL l' ≤ 32 * k + 1 := by omega
        have cE : Chg [rb] w w8 := Chg.freshS c6 c8 (by simp; omega)
        refine goS ?_
        refine WO_loadSB rfl hoE rfl ?_
        refine WO_storeS (k := 2) (vs := [tv', .slice (some ⟨g, 0, none⟩) l.len c]) rfl rfl rfl (by simp; exact ⟨oneT, oneB'⟩) hzE (by decide) fun wz hzz oz => ?_
        replace hzz : Blk wz w1.heap.size [tv', .slice (some ⟨g, 0, none⟩) l.len c] _ := hzz
        have sz := oz.size
        refine goS ?_
        refine at_retC rfl rfl hzz rfl ⟨⟨tv', .slice (some ⟨g, 0, none⟩) l.len c, _, _, _, _, rfl, IntF.chg iE oz.chg (fun x hx hm => by simp at hm; have := mE x (by simp [hx]); omega), StS.chg jE oz.chg (fun x hx hm => by simp at hm; have := mE x (by simp [hx]); omega), fun x hx => by have := mE x hx; omega, tlE, clE⟩, RdU.mono (RdU.chg rE oz.chg (by simp; omega)) (by omega), Chg.freshS cE oz.chg (by simp; omega)⟩
    by_cases hm3 : m = 3
    · subst hm3
      obtain ⟨g, cap, cs, hv, hcap, hgF, hg, hcl, hup⟩ := row_fld p6 nd.2.1 hi
      injection hv with hA _ hc
      subst hA
      subst hc
      have hgB := hFb g hgF
      have hgt : ∀ z ∈ tv'.ownBlock.toList, z ≠ g := fun z hz e => nd.2.2 z hz g hgF e
      refine goS ?_
      refine W_held0 [rb, g] [(4, .pointer (some ⟨w1.heap.size, 0, none⟩)), (5, .pointer (some ⟨w3.heap.size, 0, none⟩))] (fun w' => ∃ z : Int, Blk w' g (cs.set (i * 6 + 3) (.int .i64 z)) 59 ∧ RdU w' rb (q + 3) ∧ Chg [rb, g] w6 w') (by kernel_rfl) (fun ws es hS => ?_) (fun w8 hR => ?_)
      · have hos := ho6.ext es
        have hrs := hr6.ext es
        first | refine Z82 0 rfl (by kernel_rfl) (by kernel_rfl) (by kernel_rfl) (by assumption) (fun w' hw' => Z56 rfl) ?_ | refine Z82 0 rfl (by kernel_rfl) (by kernel_rfl) (by kernel_rfl) (by assumption) (fun w' hw' => Z63 rfl rfl) ?_ | refine Z82 0 rfl (by kernel_rfl) (by kernel_rfl) (by kernel_rfl) (by assumption) (fun w' hw' => Z64 rfl rfl) ?_ | refine Z82 0 rfl (by kernel_rfl) (by kernel_rfl) (by kernel_rfl) (by assumption) (fun w' hw' => Z75 rfl rfl (by omega)) ?_ | refine Z82 0 rfl (by kernel_rfl) (by kernel_rfl) (by kernel_rfl) (by assumption) (fun w' hw' => Z72 rfl) ?_ | refine Z82 0 rfl (by kernel_rfl) (by kernel_rfl) (by kernel_rfl) (by assumption) (fun w' hw' => Z69 rfl rfl rfl (by omega)) ?_ | refine Z82 0 rfl (by kernel_rfl) (by kernel_rfl) (by kernel_rfl) (by assumption) (fun w' hw' => Z30 rfl (by rfl) (by simp only [Z84, List.set_cons_zero, List.set_cons_succ]; rfl)) ?_
        refine Z82 1 rfl (by kernel_rfl) (by kernel_rfl) (by kernel_rfl) (by assumption) (fun w' hw' => Z66 rfl (hos.chg hw' (by simp; omega)) rfl) ?_
        first | refine Z82 2 rfl (by kernel_rfl) (by kernel_rfl) (by kernel_rfl) (by assumption) (fun w' hw' => Z56 rfl) ?_ | refine Z82 2 rfl (by kernel_rfl) (by kernel_rfl) (by kernel_rfl) (by assumption) (fun w' hw' => Z63 rfl rfl) ?_ | refine Z82 2 rfl (by kernel_rfl) (by kernel_rfl) (by kernel_rfl) (by assumption) (fun w' hw' => Z64 rfl rfl) ?_ | refine Z82 2 rfl (by kernel_rfl) (by kernel_rfl) (by kernel_rfl) (by assumption) (fun w' hw' => Z75 rfl rfl (by omega)) ?_ | refine Z82 2 rfl (by kernel_rfl) (by kernel_rfl) (by kernel_rfl) (by assumption) (fun w' hw' => Z72 rfl) ?_ | refine Z82 2 rfl (by kernel_rfl) (by kernel_rfl) (by kernel_rfl) (by assumption) (fun w' hw' => Z69 rfl rfl rfl (by omega)) ?_ | refine Z82 2 rfl (by kernel_rfl) (by kernel_rfl) (by kernel_rfl) (by assumption) (fun w' hw' => Z30 rfl (by rfl) (by simp only [Z84, List.set_cons_zero, List.set_cons_succ]; rfl)) ?_
        first | refine Z82 3 rfl (by kernel_rfl) (by kernel_rfl) (by kernel_rfl) (by assumption) (fun w' hw' => Z56 rfl) ?_ | refine Z82 3 rfl (by kernel_rfl) (by kernel_rfl) (by kernel_rfl) (by assumption) (fun w' hw' => Z63 rfl rfl) ?_ | refine Z82 3 rfl (by kernel_rfl) (by kernel_rfl) (by kernel_rfl) (by assumption) (fun w' hw' => Z64 rfl rfl) ?_ | refine Z82 3 rfl (by kernel_rfl) (by kernel_rfl) (by kernel_rfl) (by assumption) (fun w' hw' => Z75 rfl rfl (by omega)) ?_ | refine Z82 3 rfl (by kernel_rfl) (by kernel_rfl) (by kernel_rfl) (by assumption) (fun w' hw' => Z72 rfl) ?_ | refine Z82 3 rfl (by kernel_rfl) (by kernel_rfl) (by kernel_rfl) (by assumption) (fun w' hw' => Z69 rfl rfl rfl (by omega)) ?_ | refine Z82 3 rfl (by kernel_rfl) (by kernel_rfl) (by kernel_rfl) (by assumption) (fun w' hw' => Z30 rfl (by rfl) (by simp only [Z84, List.set_cons_zero, List.set_cons_succ]; rfl)) ?_
        refine WH_one 4 rfl (by kernel_rfl) (WO_ints [10, -1, 5] rfl rfl (by decide) (by decide) fun wa hia ea za => Z31 (at_held (ea.chg _) ?_))
        have hlr := hrs.lt
        refine WX_call 5 rfl (by kernel_rfl) rfl (numU_ret rb (q + 2) _ [10, -1, 5] _ wa (hrs.ext ea) (by omega) hia.int (by decide) (by simp; omega)) ?_
        rintro _ wb ⟨z, hz, rfl, hrb, cb⟩
        have Sb : Chg [rb, g] ws wb := (ea.chg _).trans (cb.mono (by simp))
        refine ⟨Sb, ?_⟩
        refine Z82 6 rfl (by kernel_rfl) (by kernel_rfl) (by kernel_rfl) (by assumption) (fun w' hw' => Z69 (j := i) rfl rfl rfl (by omega)) ?_
        first | refine Z82 7 rfl (by kernel_rfl) (by kernel_rfl) (by kernel_rfl) (by assumption) (fun w' hw' => Z56 rfl) ?_ | refine Z82 7 rfl (by kernel_rfl) (by kernel_rfl) (by kernel_rfl) (by assumption) (fun w' hw' => Z63 rfl rfl) ?_ | refine Z82 7 rfl (by kernel_rfl) (by kernel_rfl) (by kernel_rfl) (by assumption) (fun w' hw' => Z64 rfl rfl) ?_ | refine Z82 7 rfl (by kernel_rfl) (by kernel_rfl) (by kernel_rfl) (by assumption) (fun w' hw' => Z75 rfl rfl (by omega)) ?_ | refine Z82 7 rfl (by kernel_rfl) (by kernel_rfl) (by kernel_rfl) (by assumption) (fun w' hw' => Z72 rfl) ?_ | refine Z82 7 rfl (by kernel_rfl) (by kernel_rfl) (by kernel_rfl) (by assumption) (fun w' hw' => Z69 rfl rfl rfl (by omega)) ?_ | refine Z82 7 rfl (by kernel_rfl) (by kernel_rfl) (by kernel_rfl) (by assumption) (fun w' hw' => Z30 rfl (by rfl) (by simp only [Z84, List.set_cons_zero, List.set_cons_succ]; rfl)) ?_
        have hgb := (((hg.ext es).ext ea)).chg cb (by simp; omega)
        refine WH_one 8 rfl (by kernel_rfl) (WO_store1 rfl rfl rfl hgb (by omega) fun wc hgc oc => Z31 (at_held (Sb.trans (oc.chg.mono (by simp))) ?_))
        have sa := es.size_le
        refine WH_done (by kernel_rfl) (by repeat (first | exact True.intro | refine And.intro rfl ?_)) ⟨z, by simpa using hgc, RdU.chg hrb oc.chg (by simp; omega), (es.chg _).trans (Sb.trans (oc.chg.mono (by simp)))⟩
      · obtain ⟨z, hg8, rE, c8⟩ := hR
        have hno : ∀ x ∈ tv'.ownBlock.toList ++ Fb, x ≠ g → x ∉ [rb, g] := fun x hx hne hm => by simp at hm; have := hF x hx; omega
        obtain ⟨l', hrow, _, hcl'⟩ := hup 3 z w8 _ (by decide) hg8 c8 (fun x hx => hno x (by simp [hx]))
        have iE := (IntF.chg i6 c8 (fun x hx => hno x (by simp only [List.mem_append]; exact .inl hx) (hgt x hx)))
        have jE := hrow.sts
        have hoE := ho6.chg c8 (by simp; omega)
        have hzE := hz6.chg c8 (by simp; omega)
        have s8 := c8.size
        have oneB' : (Value.slice (some ⟨g, 0, none⟩) l.len c).oneCell' = true := rfl
        have mE : ∀ x ∈ tv'.ownBlock.toList ++ Fb, w2.heap.size ≤ x ∧ x < w8.heap.size := fun x hx => by have := hF x hx; omega
        have tlE : tl.length ≤ 32 * k + 1 := by omega
        have clE : cntL l' ≤ 32 * k + 1 := by omega
        have cE : Chg [rb] w w8 := Chg.freshS c6 c8 (by simp; omega)
        refine goS ?_
        refine WO_loadSB rfl hoE rfl ?_
        refine WO_storeS (k := 2) (vs := [tv', .slice (some ⟨g, 0, none⟩) l.len c]) rfl rfl rfl (by simp; exact ⟨oneT, oneB'⟩) hzE (by decide) fun wz hzz oz => ?_
        replace hzz : Blk wz w1.heap.size [tv', .slice (some ⟨g, 0, none⟩) l.len c] _ := hzz
        have sz := oz.size
        refine goS ?_
        refine at_retC rfl rfl hzz rfl ⟨⟨tv', .slice (some ⟨g, 0, none⟩) l.len c, _, _, _, _, rfl, IntF.chg iE oz.chg (fun x hx hm => by simp at hm; have := mE x (by simp [hx]); omega), StS.chg jE oz.chg (fun x hx hm => by simp at hm; have := mE x (by simp [hx]); omega), fun x hx => by have := mE x hx; omega, tlE, clE⟩, RdU.mono (RdU.chg rE oz.chg (by simp; omega)) (by omega), Chg.freshS cE oz.chg (by simp; omega)⟩
    by_cases hm4 : m = 4
    · subst hm4
      have hvp : tv'.ownBlock ≠ some w3.heap.size := fun e => by have := hFt w3.heap.size (by rw [e]; simp); omega
      refine goS ?_
      refine W_held0 (rb :: w3.heap.size :: tv'.ownBlock.toList) [(4, .pointer (some ⟨w1.heap.size, 0, none⟩)), (5, .pointer (some ⟨w3.heap.size, 0, none⟩))] (fun w' => ∃ v' y, Blk w' w3.heap.size [v', .slice A l.len c] 26 ∧ w'.ownsRow w2.heap.size 3 1 v' (tl.length + 1) (tl.map (.int .i64) ++ [.int .i64 y]) ∧ RdU w' rb (q + 3) ∧ Chg (rb :: w3.heap.size :: tv'.ownBlock.toList) w6 w' ∧ (v'.ownBlock = tv'.ownBlock ∨ ∃ b, v'.ownBlock = some b ∧ w6.heap.size ≤ b)) (by kernel_rfl) (fun ws es hS => ?_) (fun w8 hR => ?_)
      · have hos := ho6.ext es
        have hrs := hr6.ext es
        have ros := ownsRow_ext r6 es
        have hlr := hrs.lt
        have ss := es.size_le
        have hFtS : ∀ x ∈ tv'.ownBlock.toList, x ≠ rb := fun x hx e => by have := hFt x hx; omega
        first | refine Z82 0 rfl (by kernel_rfl) (by kernel_rfl) (by kernel_rfl) (by assumption) (fun w' hw' => Z56 rfl) ?_ | refine Z82 0 rfl (by kernel_rfl) (by kernel_rfl) (by kernel_rfl) (by assumption) (fun w' hw' => Z63 rfl rfl) ?_ | refine Z82 0 rfl (by kernel_rfl) (by kernel_rfl) (by kernel_rfl) (by assumption) (fun w' hw' => Z64 rfl rfl) ?_ | refine Z82 0 rfl (by kernel_rfl) (by kernel_rfl) (by kernel_rfl) (by assumption) (fun w' hw' => Z75 rfl rfl (by omega)) ?_ | refine Z82 0 rfl (by kernel_rfl) (by kernel_rfl) (by kernel_rfl) (by assumption) (fun w' hw' => Z72 rfl) ?_ | refine Z82 0 rfl (by kernel_rfl) (by kernel_rfl) (by kernel_rfl) (by assumption) (fun w' hw' => Z69 rfl rfl rfl (by omega)) ?_ | refine Z82 0 rfl (by kernel_rfl) (by kernel_rfl) (by kernel_rfl) (by assumption) (fun w' hw' => Z30 rfl (by rfl) (by simp only [Z84, List.set_cons_zero, List.set_cons_succ]; rfl)) ?_
        first | refine Z82 2 rfl (by kernel_rfl) (by kernel_rfl) (by kernel_rfl) (by assumption) (fun w' hw' => Z56 rfl) ?_ | refine Z82 2 rfl (by kernel_rfl) (by kernel_rfl) (by kernel_rfl) (by assumption) (fun w' hw' => Z63 rfl rfl) ?_ | refine Z82 2 rfl (by kernel_rfl) (by kernel_rfl) (by kernel_rfl) (by assumption) (fun w' hw' => Z64 rfl rfl) ?_ | refine Z82 2 rfl (by kernel_rfl) (by kernel_rfl) (by kernel_rfl) (by assumption) (fun w' hw' => Z75 rfl rfl (by omega)) ?_ | refine Z82 2 rfl (by kernel_rfl) (by kernel_rfl) (by kernel_rfl) (by assumption) (fun w' hw' => Z72 rfl) ?_ | refine Z82 2 rfl (by kernel_rfl) (by kernel_rfl) (by kernel_rfl) (by assumption) (fun w' hw' => Z69 rfl rfl rfl (by omega)) ?_ | refine Z82 2 rfl (by kernel_rfl) (by kernel_rfl) (by kernel_rfl) (by assumption) (fun w' hw' => Z30 rfl (by rfl) (by simp only [Z84, List.set_cons_zero, List.set_cons_succ]; rfl)) ?_
        refine WH_two 1 3 rfl rfl (by kernel_rfl) ?_ ?_
        · refine Z10 rfl hos rfl (Z31 (at_held hS ?_))
          refine WH_one 3 rfl (by kernel_rfl) (WO_ints [1, 5, 0, 4] rfl rfl (by decide) (by decide) fun wa hia ea za => Z31 (at_held (ea.chg _) ?_))
          refine WX_call 4 rfl (by kernel_rfl) rfl (numU_ret rb (q + 2) _ [1, 5, 0, 4] _ wa (hrs.ext ea) (by omega) hia.int (by decide) (by simp; omega)) ?_
          rintro _ wb ⟨y, hy, rfl, hrb, cb⟩
          have Sb : Chg (rb :: w3.heap.size :: tv'.ownBlock.toList) ws wb := (ea.chg _).trans (cb.mono (by simp))
          refine ⟨Sb, ?_⟩
          refine WH_one 5 rfl (by kernel_rfl) (WO_build (e := 3) (k := 1) [.tmp 68] (vs := [.int .i64 y]) (cs := [.int .i64 y]) rfl rfl rfl (by decide) (by decide) (by simp [Value.cells]) (by simp [Value.cells]) fun wc hbc ec zc => Z31 (at_held (Sb.trans (ec.chg _)) ?_))
          refine WH_appSt 6 7 8 (e := 3) (k := 1) (B := w2.heap.size) (m := tl.length) (news := [.int .i64 y]) (f := 0) rfl rfl rfl (by kernel_rfl) (by kernel_rfl) (by kernel_rfl) rfl rfl rfl ⟨rfl, rfl⟩ rfl (ownsRow_ext (ownsRow_chg (ownsRow_ext ros ea) cb (by simpa using hFtS)) ec) (by rfl) (fun j u hu => by rw [Nat.zero_add]; exact Blk.cell hbc hu) (by intro u hu; simp at hu; subst hu; rfl) (by have := Chg.size (Sb.trans (ec.chg _)); omega) (by decide) (by omega) (by decide) (((hos.ext ea).chg cb (by simp; omega)).ext ec) (by simp) hvp (fun w' kk => Chg.trans (Sb.trans (ec.chg _)) (kk.mono (by intro x hx; simp at hx ⊢; rcases hx with h | h; exact .inr (.inl h); exact .inr (.inr h)))) fun v' w' q1 q2 q3 q4 => ?_
          have sF := Chg.size (Sb.trans (ec.chg _))
          refine WH_done (by kernel_rfl) (by repeat (first | exact True.intro | refine And.intro rfl ?_)) ⟨v', y, q1, q2, RdU.chg (hrb.ext ec) q3 (by intro x hx; simp at hx; rcases hx with h | h; omega; have := hF x (by simp [h]); omega), (es.chg _).trans (Chg.trans (Sb.trans (ec.chg _)) (q3.mono (by intro x hx; simp at hx ⊢; rcases hx with h | h; exact .inr (.inl h); exact .inr (.inr h)))), ?_⟩
          rcases q4 with h | h
          · exact .inl h
          · exact .inr ⟨_, h, by omega⟩
        · refine WO_ints [1, 5, 0, 4] rfl rfl (by decide) (by decide) fun wa hia ea za => Z31 (at_held (ea.chg _) ?_)
          refine WH_two 1 4 rfl rfl (by kernel_rfl) ?_ ?_
          · refine Z10 rfl (hos.ext ea) rfl (Z31 (at_held (ea.chg _) ?_))
            refine WX_call 4 rfl (by kernel_rfl) rfl (numU_ret rb (q + 2) _ [1, 5, 0, 4] _ wa (hrs.ext ea) (by omega) hia.int (by decide) (by simp; omega)) ?_
            rintro _ wb ⟨y, hy, rfl, hrb, cb⟩
            have Sb : Chg (rb :: w3.heap.size :: tv'.ownBlock.toList) ws wb := (ea.chg _).trans (cb.mono (by simp))
            refine ⟨Sb, ?_⟩
            refine WH_one 5 rfl (by kernel_rfl) (WO_build (e := 3) (k := 1) [.tmp 68] (vs := [.int .i64 y]) (cs := [.int .i64 y]) rfl rfl rfl (by decide) (by decide) (by simp [Value.cells]) (by simp [Value.cells]) fun wc hbc ec zc => Z31 (at_held (Sb.trans (ec.chg _)) ?_))
            refine WH_appSt 6 7 8 (e := 3) (k := 1) (B := w2.heap.size) (m := tl.length) (news := [.int .i64 y]) (f := 0) rfl rfl rfl (by kernel_rfl) (by kernel_rfl) (by kernel_rfl) rfl rfl rfl ⟨rfl, rfl⟩ rfl (ownsRow_ext (ownsRow_chg (ownsRow_ext ros ea) cb (by simpa using hFtS)) ec) (by rfl) (fun j u hu => by rw [Nat.zero_add]; exact Blk.cell hbc hu) (by intro u hu; simp at hu; subst hu; rfl) (by have := Chg.size (Sb.trans (ec.chg _)); omega) (by decide) (by omega) (by decide) (((hos.ext ea).chg cb (by simp; omega)).ext ec) (by simp) hvp (fun w' kk => Chg.trans (Sb.trans (ec.chg _)) (kk.mono (by intro x hx; simp at hx ⊢; rcases hx with h | h; exact .inr (.inl h); exact .inr (.inr h)))) fun v' w' q1 q2 q3 q4 => ?_
            have sF := Chg.size (Sb.trans (ec.chg _))
            refine WH_done (by kernel_rfl) (by repeat (first | exact True.intro | refine And.intro rfl ?_)) ⟨v', y, q1, q2, RdU.chg (hrb.ext ec) q3 (by intro x hx; simp at hx; rcases hx with h | h; omega; have := hF x (by simp [h]); omega), (es.chg _).trans (Chg.trans (Sb.trans (ec.chg _)) (q3.mono (by intro x hx; simp at hx ⊢; rcases hx with h | h; exact .inr (.inl h); exact .inr (.inr h)))), ?_⟩
            rcases q4 with h | h
            · exact .inl h
            · exact .inr ⟨_, h, by omega⟩
          · refine WO_call rfl (numU_ret rb (q + 2) _ [1, 5, 0, 4] _ wa (hrs.ext ea) (by omega) hia.int (by decide) (by simp; omega)) ?_
            rintro _ wb ⟨y, hy, rfl, hrb, cb⟩
            have Sb : Chg (rb :: w3.heap.size :: tv'.ownBlock.toList) ws wb := (ea.chg _).trans (cb.mono (by simp))
            refine Z31 (at_held Sb ?_)
            refine WH_two 1 5 rfl rfl (by kernel_rfl) ?_ ?_
            · refine Z10 rfl ((hos.ext ea).chg cb (by simp; omega)) rfl (Z31 (at_held Sb ?_))
              refine WH_one 5 rfl (by kernel_rfl) (WO_build (e := 3) (k := 1) [.tmp 68] (vs := [.int .i64 y]) (cs := [.int .i64 y]) rfl rfl rfl (by decide) (by decide) (by simp [Value.cells]) (by simp [Value.cells]) fun wc hbc ec zc => Z31 (at_held (Sb.trans (ec.chg _)) ?_))
              refine WH_appSt 6 7 8 (e := 3) (k := 1) (B := w2.heap.size) (m := tl.length) (news := [.int .i64 y]) (f := 0) rfl rfl rfl (by kernel_rfl) (by kernel_rfl) (by kernel_rfl) rfl rfl rfl ⟨rfl, rfl⟩ rfl (ownsRow_ext (ownsRow_chg (ownsRow_ext ros ea) cb (by simpa using hFtS)) ec) (by rfl) (fun j u hu => by rw [Nat.zero_add]; exact Blk.cell hbc hu) (by intro u hu; simp at hu; subst hu; rfl) (by have := Chg.size (Sb.trans (ec.chg _)); omega) (by decide) (by omega) (by decide) (((hos.ext ea).chg cb (by simp; omega)).ext ec) (by simp) hvp (fun w' kk => Chg.trans (Sb.trans (ec.chg _)) (kk.mono (by intro x hx; simp at hx ⊢; rcases hx with h | h; exact .inr (.inl h); exact .inr (.inr h)))) fun v' w' q1 q2 q3 q4 => ?_
              have sF := Chg.size (Sb.trans (ec.chg _))
              refine WH_done (by kernel_rfl) (by repeat (first | exact True.intro | refine And.intro rfl ?_)) ⟨v', y, q1, q2, RdU.chg (hrb.ext ec) q3 (by intro x hx; simp at hx; rcases hx with h | h; omega; have := hF x (by simp [h]); omega), (es.chg _).trans (Chg.trans (Sb.trans (ec.chg _)) (q3.mono (by intro x hx; simp at hx ⊢; rcases hx with h | h; exact .inr (.inl h); exact .inr (.inr h)))), ?_⟩
              rcases q4 with h | h
              · exact .inl h
              · exact .inr ⟨_, h, by omega⟩
            · refine WO_build (e := 3) (k := 1) [.tmp 68] (vs := [.int .i64 y]) (cs := [.int .i64 y]) rfl rfl rfl (by decide) (by decide) (by simp [Value.cells]) (by simp [Value.cells]) fun wc hbc ec zc => Z31 (at_held (Sb.trans (ec.chg _)) ?_)
              refine WH_one 1 rfl (by kernel_rfl) (Z10 rfl (((hos.ext ea).chg cb (by simp; omega)).ext ec) rfl (Z31 (at_held (Sb.trans (ec.chg _)) ?_)))
              refine WH_appSt 6 7 8 (e := 3) (k := 1) (B := w2.heap.size) (m := tl.length) (news := [.int .i64 y]) (f := 0) rfl rfl rfl (by kernel_rfl) (by kernel_rfl) (by kernel_rfl) rfl rfl rfl ⟨rfl, rfl⟩ rfl (ownsRow_ext (ownsRow_chg (ownsRow_ext ros ea) cb (by simpa using hFtS)) ec) (by rfl) (fun j u hu => by rw [Nat.zero_add]; exact Blk.cell hbc hu) (by intro u hu; simp at hu; subst hu; rfl) (by have := Chg.size (Sb.trans (ec.chg _)); omega) (by decide) (by omega) (by decide) (((hos.ext ea).chg cb (by simp; omega)).ext ec) (by simp) hvp (fun w' kk => Chg.trans (Sb.trans (ec.chg _)) (kk.mono (by intro x hx; simp at hx ⊢; rcases hx with h | h; exact .inr (.inl h); exact .inr (.inr h)))) fun v' w' q1 q2 q3 q4 => ?_
              have sF := Chg.size (Sb.trans (ec.chg _))
              refine WH_done (by kernel_rfl) (by repeat (first | exact True.intro | refine And.intro rfl ?_)) ⟨v', y, q1, q2, RdU.chg (hrb.ext ec) q3 (by intro x hx; simp at hx; rcases hx with h | h; omega; have := hF x (by simp [h]); omega), (es.chg _).trans (Chg.trans (Sb.trans (ec.chg _)) (q3.mono (by intro x hx; simp at hx ⊢; rcases hx with h | h; exact .inr (.inl h); exact .inr (.inr h)))), ?_⟩
              rcases q4 with h | h
              · exact .inl h
              · exact .inr ⟨_, h, by omega⟩
      · obtain ⟨v', y, hoE, k1, rE, c8, k4⟩ := hR
        have hzE := hz6.chg c8 (by simp; exact ⟨by omega, by omega, fun h => by have := hFt w1.heap.size (by simp [h]); omega⟩)
        have jE := p6.sts.chg c8 (fun x hx => by have := hFb x hx; simp; exact ⟨by omega, by omega, fun h => nd.2.2 x (by simp [h]) x hx rfl⟩)
        have e1l : tl.map (Value.int .i64) ++ [Value.int .i64 y] = (tl ++ [y]).map (.int .i64) := by simp
        rw [e1l] at k1
        have oneT := row_one (ownsRow_base0 k1)
        obtain ⟨Fz, iE, hFz, hFz2⟩ := OwnI.of_row (l := tl ++ [y]) k1 (by simp) (by simp; unfold maxI; omega)
        have hlt := iE.lt
        replace iE := iE.int
        have s8 := c8.size
        have mE : ∀ x ∈ Fz ++ Fb, w2.heap.size ≤ x ∧ x < w8.heap.size := fun x hx => by
          rcases List.mem_append.1 hx with h | h
          · exact ⟨hFz x h, hlt x h⟩
          · have := hFb x h; omega
        have tlE : (tl ++ [y]).length ≤ 32 * k + 1 := by simp; omega
        have clE : cntL l ≤ 32 * k + 1 := by omega
        have cE : Chg [rb] w w8 := Chg.freshS c6 c8 (by intro b hb; simp at hb; rcases hb with h | h | h; exact .inl (by simp [h]); exact .inr (by omega); exact .inr (by have := hFt b (by simp [h]); omega))
        refine goS ?_
        refine WO_loadSB rfl hoE rfl ?_
        refine WO_storeS (k := 2) (vs := [v', .slice A l.len c]) rfl rfl rfl (by simp; exact ⟨oneT, oneB'⟩) hzE (by decide) fun wz hzz oz => ?_
        replace hzz : Blk wz w1.heap.size [v', .slice A l.len c] _ := hzz
        have sz := oz.size
        refine goS ?_
        refine at_retC rfl rfl hzz rfl ⟨⟨v', .slice A l.len c, _, _, _, _, rfl, IntF.chg iE oz.chg (fun x hx hm => by simp at hm; have := mE x (by simp [hx]); omega), StS.chg jE oz.chg (fun x hx hm => by simp at hm; have := mE x (by simp [hx]); omega), fun x hx => by have := mE x hx; omega, tlE, clE⟩, RdU.mono (RdU.chg rE oz.chg (by simp; omega)) (by omega), Chg.freshS cE oz.chg (by simp; omega)⟩
    by_cases hm5 : m = 5
    · subst hm5
      have hi2 := hi
      have hF6 : ∀ x ∈ tv'.ownBlock.toList ++ Fb, x < w6.heap.size := fun x hx => by have := hF x hx; omega
      obtain ⟨xs0, G0, g1, g2, g3⟩ := id p6
      have hG0 : ∀ x ∈ G0, x ∉ (Value.slice A l.len c).ownBlock.toList ∧ w2.heap.size ≤ x ∧ x ≠ w3.heap.size := fun x hx => by
        have hx2 := hFb x (by rw [g3]; simp [hx])
        have nd2 := nd.2.1
        rw [g3] at nd2
        exact ⟨fun h => (List.nodup_append.1 nd2).2.2 x h x hx rfl, hx2.1, by omega⟩
      have hown0 : ∀ b, (Value.slice A l.len c).ownBlock = some b → b ≠ w3.heap.size ∧ b ∉ tv'.ownBlock.toList := fun b hb => by
        have hm : b ∈ Fb := by rw [g3]; simp [hb]
        have := hFb b hm
        exact ⟨by omega, fun h => nd.2.2 b h b hm rfl⟩
      have hown1 : w6.ownsRow w2.heap.size 59 6 (.slice A l.len c) l.len xs0 := ⟨g1.1, by
        rcases g1.2 with h | ⟨gg, cap, cur, h1, h2, h3⟩
        · exact .inl h
        · exact .inr ⟨gg, cap, cur, h1, (hFb gg (by rw [g3, h1]; simp [Value.ownBlock])).1, h3⟩⟩
      have hhead : ∃ op x y n t el r, l = .cons op x y n t el r ∧ 1 + cntL t + cntL el ≤ cntL l := by
        cases l with
        | nil => simp [Ss.len] at hi2
        | cons op x y n t el r => exact ⟨op, x, y, n, t, el, r, rfl, by simp only [cntL]; omega⟩
      refine goS ?_
      refine W_loop (α := Nat × Value) (fun p => [(4, .pointer (some ⟨w1.heap.size, 0, none⟩)), (5, .pointer (some ⟨w3.heap.size, 0, none⟩)), (7, .int .i64 (p.1 : Int))])
        (fun p w' => p.1 ≤ 31 ∧ Blk w' w3.heap.size [tv', p.2] 26 ∧ (∃ lx xs G, Grw 59 w2.heap.size w3.heap.size tv'.ownBlock.toList w' p.2 lx xs G ∧ lx.len = l.len + p.1 ∧ cntL lx ≤ cntL l + p.1 * cntL l ∧ ∃ op x y n t el r, lx = .cons op x y n t el r ∧ 1 + cntL t + cntL el ≤ cntL l) ∧ IntF w' tv' tl tv'.ownBlock.toList ∧ Blk w' w1.heap.size [.slice none 0 0, .slice none 0 0] 26 ∧ RdU w' rb (q + 2) ∧ Chg [rb] w w' ∧ w6.heap.size ≤ w'.heap.size) (fun p => 31 - p.1) (0, _) (by repeat (first | exact True.intro | refine And.intro rfl ?_))
        ⟨Nat.zero_le _, ho6, ⟨l, xs0, G0, ⟨hown1, g2, hG0, hown0⟩, rfl, by simp, hhead⟩, i6, hz6, hr6, c6, Nat.le_refl _⟩ ?_
      rintro ⟨j, v⟩ wL ⟨hj, hob, ⟨lx, xs, G, hgr, hll, hcl, op, x, y, n, t, el, r, hlx, hck⟩, iL, hzL, hrL, cL, hsL⟩
      simp only at hj hob hgr hll hcl iL hzL hrL cL hsL ⊢
      have hjk : j * cntL l ≤ 31 * cntL l := Nat.mul_le_mul hj (Nat.le_refl _)
      have hone := row_one (ownsRow_base0 hgr.own)
      refine goS ?_
      by_cases hlt : j < 31
      · rw [decide_eq_true (show (j : Int) ≤ 30 by omega)]
        have hst := hgr.stk
        rw [hlx] at hst
        obtain ⟨vt, ve, Ft1, Fe1, Fr1, xr, hxs, hG, b1, b2, b3⟩ := hst.cons_
        have ov := b1.one
        have oe := b2.one
        obtain ⟨g, cap, hv, hcell⟩ := row_cells hgr.own (by omega)
        have hcells : ∀ (w' : World), Ext wL w' → ∀ j u, [Value.int .i64 op, .int .i64 x, .int .i64 y, .int .i64 n, vt, ve][j]? = some u → w'.cell? ⟨g, 0 + 0 * 6 + j, none⟩ = some u := fun w' he j u hu => by
          refine cell_ext ?_ he
          rw [Nat.zero_mul, Nat.add_zero]
          refine hcell j u ?_
          rw [hxs]
          have hj6 : j < 6 := (List.getElem?_eq_some_iff.1 hu).1
          match j, hj6 with
          | 0, _ => exact hu
          | 1, _ => exact hu
          | 2, _ => exact hu
          | 3, _ => exact hu
          | 4, _ => exact hu
          | 5, _ => exact hu
        have hvp : v.ownBlock ≠ some w3.heap.size := fun e => (hgr.ownA _ e).1 rfl
        have howL := hgr.own
        refine goS ?_
        refine W_held0 (w3.heap.size :: v.ownBlock.toList) [(4, .pointer (some ⟨w1.heap.size, 0, none⟩)), (5, .pointer (some ⟨w3.heap.size, 0, none⟩)), (7, .int .i64 (j : Int))] (fun w' => ∃ v', Blk w' w3.heap.size [tv', v'] 26 ∧ w'.ownsRow w2.heap.size 59 6 v' (lx.len + 1) (xs ++ [.int .i64 op, .int .i64 x, .int .i64 y, .int .i64 n, vt, ve]) ∧ Chg (w3.heap.size :: v.ownBlock.toList) wL w' ∧ (v'.ownBlock = v.ownBlock ∨ ∃ b, v'.ownBlock = some b ∧ wL.heap.size ≤ b)) (by kernel_rfl) (fun ws es hS => ?_) (fun w8 hR => ?_)
        · have hos := hob.ext es
          have ros := ownsRow_ext howL es
          have ss := es.size_le
          first | refine Z82 0 rfl (by kernel_rfl) (by kernel_rfl) (by kernel_rfl) (by assumption) (fun w' hw' => Z56 rfl) ?_ | refine Z82 0 rfl (by kernel_rfl) (by kernel_rfl) (by kernel_rfl) (by assumption) (fun w' hw' => Z63 rfl rfl) ?_ | refine Z82 0 rfl (by kernel_rfl) (by kernel_rfl) (by kernel_rfl) (by assumption) (fun w' hw' => Z64 rfl rfl) ?_ | refine Z82 0 rfl (by kernel_rfl) (by kernel_rfl) (by kernel_rfl) (by assumption) (fun w' hw' => Z75 rfl rfl (by omega)) ?_ | refine Z82 0 rfl (by kernel_rfl) (by kernel_rfl) (by kernel_rfl) (by assumption) (fun w' hw' => Z72 rfl) ?_ | refine Z82 0 rfl (by kernel_rfl) (by kernel_rfl) (by kernel_rfl) (by assumption) (fun w' hw' => Z69 rfl rfl rfl (by omega)) ?_ | refine Z82 0 rfl (by kernel_rfl) (by kernel_rfl) (by kernel_rfl) (by assumption) (fun w' hw' => Z30 rfl (by rfl) (by simp only [Z84, List.set_cons_zero, List.set_cons_succ]; rfl)) ?_
          first | refine Z82 2 rfl (by kernel_rfl) (by kernel_rfl) (by kernel_rfl) (by assumption) (fun w' hw' => Z56 rfl) ?_ | refine Z82 2 rfl (by kernel_rfl) (by kernel_rfl) (by kernel_rfl) (by assumption) (fun w' hw' => Z63 rfl rfl) ?_ | refine Z82 2 rfl (by kernel_rfl) (by kernel_rfl) (by kernel_rfl) (by assumption) (fun w' hw' => Z64 rfl rfl) ?_ | refine Z82 2 rfl (by kernel_rfl) (by kernel_rfl) (by kernel_rfl) (by assumption) (fun w' hw' => Z75 rfl rfl (by omega)) ?_ | refine Z82 2 rfl (by kernel_rfl) (by kernel_rfl) (by kernel_rfl) (by assumption) (fun w' hw' => Z72 rfl) ?_ | refine Z82 2 rfl (by kernel_rfl) (by kernel_rfl) (by kernel_rfl) (by assumption) (fun w' hw' => Z69 rfl rfl rfl (by omega)) ?_ | refine Z82 2 rfl (by kernel_rfl) (by kernel_rfl) (by kernel_rfl) (by assumption) (fun w' hw' => Z30 rfl (by rfl) (by simp only [Z84, List.set_cons_zero, List.set_cons_succ]; rfl)) ?_
          refine WH_two 1 3 rfl rfl (by kernel_rfl) ?_ ?_
          · refine Z10 rfl hos rfl (Z31 (at_held hS ?_))
            refine WH_one 3 rfl (by kernel_rfl) (Z10 rfl hos rfl (Z31 (at_held hS ?_)))
            refine Z82 4 rfl (by kernel_rfl) (by kernel_rfl) (by kernel_rfl) (by assumption) (fun w' hw' => Z69 (j := 0) (by rw [hv]; rfl) rfl rfl (by omega)) ?_
            refine WH_one 5 rfl (by kernel_rfl) (WO_loadS rfl rfl (hcells _ es) (Z31 (at_held hS ?_)))
            refine WH_one 6 rfl (by kernel_rfl) (WO_build (e := 59) (k := 6) [.tmp 83] (vs := [stV op x y n vt ve]) (cs := [.int .i64 op, .int .i64 x, .int .i64 y, .int .i64 n, vt, ve]) rfl rfl rfl (by decide) (by decide) (by simp [stV, Value.cells]) (by simp [stV, Value.cells]) fun wb hbb eb zb => Z31 (at_held (eb.chg _) ?_))
            refine WH_appSt 7 8 9 (e := 59) (k := 6) (B := w2.heap.size) (m := lx.len) (news := [.int .i64 op, .int .i64 x, .int .i64 y, .int .i64 n, vt, ve]) (f := 1) rfl rfl rfl (by kernel_rfl) (by kernel_rfl) (by kernel_rfl) rfl rfl rfl ⟨rfl, rfl⟩ rfl (ownsRow_ext ros eb) (by rfl) (fun j u hu => by rw [Nat.zero_add]; exact Blk.cell hbb hu) (by intro u hu; simp at hu; rcases hu with rfl | rfl | rfl | rfl | rfl | rfl <;> first | rfl | assumption) (by have := Chg.size (eb.chg (w3.heap.size :: v.ownBlock.toList)); omega) (by decide) (by omega) (by decide) (hos.ext eb) (by simp) hvp (fun w' kk => Chg.trans (eb.chg (w3.heap.size :: v.ownBlock.toList)) kk) fun v' w' q1 q2 q3 q4 => ?_
            have sF := Chg.size (eb.chg (w3.heap.size :: v.ownBlock.toList))
            refine WH_done (by kernel_rfl) (by repeat (first | exact True.intro | refine And.intro rfl ?_)) ⟨v', q1, q2, (es.chg _).trans (Chg.trans (eb.chg (w3.heap.size :: v.ownBlock.toList)) q3), ?_⟩
            rcases q4 with h | h
            · exact .inl h
            · exact .inr ⟨_, h, by omega⟩
          · refine Z10 rfl hos rfl (Z31 (at_held hS ?_))
            refine Z82 4 rfl (by kernel_rfl) (by kernel_rfl) (by kernel_rfl) (by assumption) (fun w' hw' => Z69 (j := 0) (by rw [hv]; rfl) rfl rfl (by omega)) ?_
            refine WH_two 1 5 rfl rfl (by kernel_rfl) ?_ ?_
            · refine Z10 rfl hos rfl (Z31 (at_held hS ?_))
              refine WH_one 5 rfl (by kernel_rfl) (WO_loadS rfl rfl (hcells _ es) (Z31 (at_held hS ?_)))
              refine WH_one 6 rfl (by kernel_rfl) (WO_build (e := 59) (k := 6) [.tmp 83] (vs := [stV op x y n vt ve]) (cs := [.int .i64 op, .int .i64 x, .int .i64 y, .int .i64 n, vt, ve]) rfl rfl rfl (by decide) (by decide) (by simp [stV, Value.cells]) (by simp [stV, Value.cells]) fun wb hbb eb zb => Z31 (at_held (eb.chg _) ?_))
              refine WH_appSt 7 8 9 (e := 59) (k := 6) (B := w2.heap.size) (m := lx.len) (news := [.int .i64 op, .int .i64 x, .int .i64 y, .int .i64 n, vt, ve]) (f := 1) rfl rfl rfl (by kernel_rfl) (by kernel_rfl) (by kernel_rfl) rfl rfl rfl ⟨rfl, rfl⟩ rfl (ownsRow_ext ros eb) (by rfl) (fun j u hu => by rw [Nat.zero_add]; exact Blk.cell hbb hu) (by intro u hu; simp at hu; rcases hu with rfl | rfl | rfl | rfl | rfl | rfl <;> first | rfl | assumption) (by have := Chg.size (eb.chg (w3.heap.size :: v.ownBlock.toList)); omega) (by decide) (by omega) (by decide) (hos.ext eb) (by simp) hvp (fun w' kk => Chg.trans (eb.chg (w3.heap.size :: v.ownBlock.toList)) kk) fun v' w' q1 q2 q3 q4 => ?_
              have sF := Chg.size (eb.chg (w3.heap.size :: v.ownBlock.toList))
              refine WH_done (by kernel_rfl) (by repeat (first | exact True.intro | refine And.intro rfl ?_)) ⟨v', q1, q2, (es.chg _).trans (Chg.trans (eb.chg (w3.heap.size :: v.ownBlock.toList)) q3), ?_⟩
              rcases q4 with h | h
              · exact .inl h
              · exact .inr ⟨_, h, by omega⟩
            · refine WO_loadS rfl rfl (hcells _ es) (Z31 (at_held hS ?_))
              refine WH_two 1 6 rfl rfl (by kernel_rfl) ?_ ?_
              · refine Z10 rfl hos rfl (Z31 (at_held hS ?_))
                refine WH_one 6 rfl (by kernel_rfl) (WO_build (e := 59) (k := 6) [.tmp 83] (vs := [stV op x y n vt ve]) (cs := [.int .i64 op, .int .i64 x, .int .i64 y, .int .i64 n, vt, ve]) rfl rfl rfl (by decide) (by decide) (by simp [stV, Value.cells]) (by simp [stV, Value.cells]) fun wb hbb eb zb => Z31 (at_held (eb.chg _) ?_))
                refine WH_appSt 7 8 9 (e := 59) (k := 6) (B := w2.heap.size) (m := lx.len) (news := [.int .i64 op, .int .i64 x, .int .i64 y, .int .i64 n, vt, ve]) (f := 1) rfl rfl rfl (by kernel_rfl) (by kernel_rfl) (by kernel_rfl) rfl rfl rfl ⟨rfl, rfl⟩ rfl (ownsRow_ext ros eb) (by rfl) (fun j u hu => by rw [Nat.zero_add]; exact Blk.cell hbb hu) (by intro u hu; simp at hu; rcases hu with rfl | rfl | rfl | rfl | rfl | rfl <;> first | rfl | assumption) (by have := Chg.size (eb.chg (w3.heap.size :: v.ownBlock.toList)); omega) (by decide) (by omega) (by decide) (hos.ext eb) (by simp) hvp (fun w' kk => Chg.trans (eb.chg (w3.heap.size :: v.ownBlock.toList)) kk) fun v' w' q1 q2 q3 q4 => ?_
                have sF := Chg.size (eb.chg (w3.heap.size :: v.ownBlock.toList))
                refine WH_done (by kernel_rfl) (by repeat (first | exact True.intro | refine And.intro rfl ?_)) ⟨v', q1, q2, (es.chg _).trans (Chg.trans (eb.chg (w3.heap.size :: v.ownBlock.toList)) q3), ?_⟩
                rcases q4 with h | h
                · exact .inl h
                · exact .inr ⟨_, h, by omega⟩
              · refine (WO_build (e := 59) (k := 6) [.tmp 83] (vs := [stV op x y n vt ve]) (cs := [.int .i64 op, .int .i64 x, .int .i64 y, .int .i64 n, vt, ve]) rfl rfl rfl (by decide) (by decide) (by simp [stV, Value.cells]) (by simp [stV, Value.cells]) fun wb hbb eb zb => Z31 (at_held (eb.chg _) ?_))
                refine WH_one 1 rfl (by kernel_rfl) (Z10 rfl (hos.ext eb) rfl (Z31 (at_held (eb.chg _) ?_)))
                refine WH_appSt 7 8 9 (e := 59) (k := 6) (B := w2.heap.size) (m := lx.len) (news := [.int .i64 op, .int .i64 x, .int .i64 y, .int .i64 n, vt, ve]) (f := 1) rfl rfl rfl (by kernel_rfl) (by kernel_rfl) (by kernel_rfl) rfl rfl rfl ⟨rfl, rfl⟩ rfl (ownsRow_ext ros eb) (by rfl) (fun j u hu => by rw [Nat.zero_add]; exact Blk.cell hbb hu) (by intro u hu; simp at hu; rcases hu with rfl | rfl | rfl | rfl | rfl | rfl <;> first | rfl | assumption) (by have := Chg.size (eb.chg (w3.heap.size :: v.ownBlock.toList)); omega) (by decide) (by omega) (by decide) (hos.ext eb) (by simp) hvp (fun w' kk => Chg.trans (eb.chg (w3.heap.size :: v.ownBlock.toList)) kk) fun v' w' q1 q2 q3 q4 => ?_
                have sF := Chg.size (eb.chg (w3.heap.size :: v.ownBlock.toList))
                refine WH_done (by kernel_rfl) (by repeat (first | exact True.intro | refine And.intro rfl ?_)) ⟨v', q1, q2, (es.chg _).trans (Chg.trans (eb.chg (w3.heap.size :: v.ownBlock.toList)) q3), ?_⟩
                rcases q4 with h | h
                · exact .inl h
                · exact .inr ⟨_, h, by omega⟩
        · obtain ⟨v', ho8, k1, c8, k4⟩ := hR
          have s8 := c8.size
          have hlo := howL.lt
          have hvb : ∀ b ∈ v.ownBlock.toList, w2.heap.size ≤ b ∧ b < wL.heap.size ∧ b ≠ w3.heap.size ∧ b ∉ tv'.ownBlock.toList := fun b hb => by
            have h := hlo b (by simpa using hb)
            have h' := hgr.ownA b (by simpa using hb)
            exact ⟨h.1, h.2, h'.1, h'.2⟩
          have hGlt := StkS.lt _ _ _ hgr.stk
          have hnoG : ∀ z ∈ G, z ∉ w3.heap.size :: v.ownBlock.toList := fun z hz hm => by
            rcases List.mem_cons.1 hm with h | h
            · exact (hgr.away z hz).2.2 h
            · exact (hgr.away z hz).1 h
          have hst8 := StkS.chg c8 _ _ _ hgr.stk hnoG
          have b18 := b1.chg c8 (fun z hz => hnoG z (by rw [hG]; simp [hz]))
          have b28 := b2.chg c8 (fun z hz => hnoG z (by rw [hG]; simp [hz]))
          have hst9 := StkS.append _ _ _ _ _ _ hst8 (stk_one (op := op) (x := x) (y := y) (n := n) b18 b28)
          have hno3 : ∀ z, z = w1.heap.size ∨ z = rb → z ∉ w3.heap.size :: v.ownBlock.toList := fun z hz hm => by
            rcases List.mem_cons.1 hm with h | h
            · omega
            · have := hvb z h; omega
          refine goS ?_
          refine at_loop (j + 1, v') (by repeat (first | exact True.intro | refine And.intro rfl ?_)) ⟨hlt, ho8, ⟨lx.app (Ss.one op x y n t el), _, _, ⟨by rw [Ss.len_app]; exact k1, hst9, fun z hz => ?_, fun b hb => ?_⟩, by rw [Ss.len_app]; simp only [Ss.one, Ss.len]; omega, ?_, ?_⟩, iL.chg c8 (fun z hz hm => ?_), hzL.chg c8 (hno3 _ (.inl rfl)), RdU.chg hrL c8 (fun z hz => ?_), Chg.freshS cL c8 (fun z hz => ?_), by omega⟩ (by simp only; omega)
          · have hzG : z ∈ G := by
              rcases List.mem_append.1 hz with h | h
              · exact h
              · rw [hG]; simp only [List.mem_append] at h ⊢; rcases h with h | h
                · exact .inl h
                · exact .inr (.inl h)
            refine ⟨fun hm => ?_, (hgr.away z hzG).2⟩
            rcases k4 with h | ⟨b, h, hb⟩
            · rw [h] at hm; exact (hgr.away z hzG).1 hm
            · rw [h] at hm; simp at hm; have := hGlt z hzG; omega
          · rcases k4 with h | ⟨b', h, hb'⟩
            · rw [h] at hb; exact hgr.ownA b hb
            · rw [h] at hb
              have hbb := Option.some.inj hb
              refine ⟨by omega, fun hm => ?_⟩
              have := hFt b hm
              omega
          · simp only [cntL_app, Ss.one, cntL]
            rw [Nat.succ_mul]
            omega
          · rw [hlx]
            exact ⟨op, x, y, n, t, el, _, rfl, hck⟩
          · rcases List.mem_cons.1 hm with h | h
            · have := hFt z hz; omega
            · exact (hvb z h).2.2.2 hz
          · rcases List.mem_cons.1 hz with h | h
            · omega
            · have := hvb z h; omega
          · rcases List.mem_cons.1 hz with h | h
            · right; omega
            · right; have := hvb z h; omega
      · rw [decide_eq_false (show ¬ (j : Int) ≤ 30 by omega)]
        have hoE := hob
        have hzE := hzL
        have iE := iL
        obtain ⟨Fx, jE, hFx⟩ := hgr.sts
        have oneB' := hone
        have mE : ∀ x ∈ tv'.ownBlock.toList ++ Fx, w2.heap.size ≤ x ∧ x < wL.heap.size := fun x hx => by
          rcases List.mem_append.1 hx with h | h
          · have := hFt x h; omega
          · exact hFx x h
        have tlE : tl.length ≤ 32 * k + 1 := by omega
        have clE : cntL lx ≤ 32 * k + 1 := by omega
        have rE := hrL
        have cE := cL
        refine goS ?_
        refine WO_loadSB rfl hoE rfl ?_
        refine WO_storeS (k := 2) (vs := [tv', v]) rfl rfl rfl (by simp; exact ⟨oneT, oneB'⟩) hzE (by decide) fun wz hzz oz => ?_
        replace hzz : Blk wz w1.heap.size [tv', v] _ := hzz
        have sz := oz.size
        refine goS ?_
        refine at_retC rfl rfl hzz rfl ⟨⟨tv', v, _, _, _, _, rfl, IntF.chg iE oz.chg (fun x hx hm => by simp at hm; have := mE x (by simp [hx]); omega), StS.chg jE oz.chg (fun x hx hm => by simp at hm; have := mE x (by simp [hx]); omega), fun x hx => by have := mE x hx; omega, tlE, clE⟩, RdU.mono (RdU.chg rE oz.chg (by simp; omega)) (by omega), Chg.freshS cE oz.chg (by simp; omega)⟩
    by_cases hm6 : m = 6
    · subst hm6
      obtain ⟨g, cap, Fs, Fd0, wd, hv, hcap, hF0, _⟩ := del_run (P := Tryz.prog) (t := 24) p6 nd.2.1 hi
      injection hv with hA _ hc
      subst hA
      subst hc
      subst hF0
      have hgB := hFb g (by simp)
      refine goS ?_
      refine W_held0 [g, w3.heap.size] [(4, .pointer (some ⟨w1.heap.size, 0, none⟩)), (5, .pointer (some ⟨w3.heap.size, 0, none⟩))] (fun w' => ∃ Fd, Blk w' w3.heap.size [tv', .slice (some ⟨g, 0, none⟩) (l.len - 1) c] 26 ∧ RowS 59 w' (.slice (some ⟨g, 0, none⟩) (l.len - 1) c) (drpL l i) (g :: Fd) ∧ Fd.Sublist Fs ∧ Chg [g, w3.heap.size] w6 w') (by kernel_rfl) (fun ws es hS => ?_) (fun w8 hR => ?_)
      · obtain ⟨g', cap', Fs', Fd, we, hv, _, hF1, hrun, hrow, hsub, hch⟩ := del_run (P := Tryz.prog) (t := 24) (p6.ext es) nd.2.1 hi
        injection hv with hA _ hc
        have hA := Option.some.inj hA
        injection hA with hA
        subst hA
        subst hc
        injection hF1 with _ hF1
        subst hF1
        have hos := ho6.ext es
        have hmemF : ∀ z ∈ g :: Fd, z < w3.heap.size := fun z hz => (hFb z (by
          simp at hz ⊢
          rcases hz with h | h
          · exact .inl h
          · exact .inr (hsub.subset h))).2
        first | refine Z82 0 rfl (by kernel_rfl) (by kernel_rfl) (by kernel_rfl) (by assumption) (fun w' hw' => Z56 rfl) ?_ | refine Z82 0 rfl (by kernel_rfl) (by kernel_rfl) (by kernel_rfl) (by assumption) (fun w' hw' => Z63 rfl rfl) ?_ | refine Z82 0 rfl (by kernel_rfl) (by kernel_rfl) (by kernel_rfl) (by assumption) (fun w' hw' => Z64 rfl rfl) ?_ | refine Z82 0 rfl (by kernel_rfl) (by kernel_rfl) (by kernel_rfl) (by assumption) (fun w' hw' => Z75 rfl rfl (by omega)) ?_ | refine Z82 0 rfl (by kernel_rfl) (by kernel_rfl) (by kernel_rfl) (by assumption) (fun w' hw' => Z72 rfl) ?_ | refine Z82 0 rfl (by kernel_rfl) (by kernel_rfl) (by kernel_rfl) (by assumption) (fun w' hw' => Z69 rfl rfl rfl (by omega)) ?_ | refine Z82 0 rfl (by kernel_rfl) (by kernel_rfl) (by kernel_rfl) (by assumption) (fun w' hw' => Z30 rfl (by rfl) (by simp only [Z84, List.set_cons_zero, List.set_cons_succ]; rfl)) ?_
        first | refine Z82 2 rfl (by kernel_rfl) (by kernel_rfl) (by kernel_rfl) (by assumption) (fun w' hw' => Z56 rfl) ?_ | refine Z82 2 rfl (by kernel_rfl) (by kernel_rfl) (by kernel_rfl) (by assumption) (fun w' hw' => Z63 rfl rfl) ?_ | refine Z82 2 rfl (by kernel_rfl) (by kernel_rfl) (by kernel_rfl) (by assumption) (fun w' hw' => Z64 rfl rfl) ?_ | refine Z82 2 rfl (by kernel_rfl) (by kernel_rfl) (by kernel_rfl) (by assumption) (fun w' hw' => Z75 rfl rfl (by omega)) ?_ | refine Z82 2 rfl (by kernel_rfl) (by kernel_rfl) (by kernel_rfl) (by assumption) (fun w' hw' => Z72 rfl) ?_ | refine Z82 2 rfl (by kernel_rfl) (by kernel_rfl) (by kernel_rfl) (by assumption) (fun w' hw' => Z69 rfl rfl rfl (by omega)) ?_ | refine Z82 2 rfl (by kernel_rfl) (by kernel_rfl) (by kernel_rfl) (by assumption) (fun w' hw' => Z30 rfl (by rfl) (by simp only [Z84, List.set_cons_zero, List.set_cons_succ]; rfl)) ?_
        first | refine Z82 4 rfl (by kernel_rfl) (by kernel_rfl) (by kernel_rfl) (by assumption) (fun w' hw' => Z56 rfl) ?_ | refine Z82 4 rfl (by kernel_rfl) (by kernel_rfl) (by kernel_rfl) (by assumption) (fun w' hw' => Z63 rfl rfl) ?_ | refine Z82 4 rfl (by kernel_rfl) (by kernel_rfl) (by kernel_rfl) (by assumption) (fun w' hw' => Z64 rfl rfl) ?_ | refine Z82 4 rfl (by kernel_rfl) (by kernel_rfl) (by kernel_rfl) (by assumption) (fun w' hw' => Z75 rfl rfl (by omega)) ?_ | refine Z82 4 rfl (by kernel_rfl) (by kernel_rfl) (by kernel_rfl) (by assumption) (fun w' hw' => Z72 rfl) ?_ | refine Z82 4 rfl (by kernel_rfl) (by kernel_rfl) (by kernel_rfl) (by assumption) (fun w' hw' => Z69 rfl rfl rfl (by omega)) ?_ | refine Z82 4 rfl (by kernel_rfl) (by kernel_rfl) (by kernel_rfl) (by assumption) (fun w' hw' => Z30 rfl (by rfl) (by simp only [Z84, List.set_cons_zero, List.set_cons_succ]; rfl)) ?_
        first | refine Z82 6 rfl (by kernel_rfl) (by kernel_rfl) (by kernel_rfl) (by assumption) (fun w' hw' => Z56 rfl) ?_ | refine Z82 6 rfl (by kernel_rfl) (by kernel_rfl) (by kernel_rfl) (by assumption) (fun w' hw' => Z63 rfl rfl) ?_ | refine Z82 6 rfl (by kernel_rfl) (by kernel_rfl) (by kernel_rfl) (by assumption) (fun w' hw' => Z64 rfl rfl) ?_ | refine Z82 6 rfl (by kernel_rfl) (by kernel_rfl) (by kernel_rfl) (by assumption) (fun w' hw' => Z75 rfl rfl (by omega)) ?_ | refine Z82 6 rfl (by kernel_rfl) (by kernel_rfl) (by kernel_rfl) (by assumption) (fun w' hw' => Z72 rfl) ?_ | refine Z82 6 rfl (by kernel_rfl) (by kernel_rfl) (by kernel_rfl) (by assumption) (fun w' hw' => Z69 rfl rfl rfl (by omega)) ?_ | refine Z82 6 rfl (by kernel_rfl) (by kernel_rfl) (by kernel_rfl) (by assumption) (fun w' hw' => Z30 rfl (by rfl) (by simp only [Z84, List.set_cons_zero, List.set_cons_succ]; rfl)) ?_
        first | refine Z82 7 rfl (by kernel_rfl) (by kernel_rfl) (by kernel_rfl) (by assumption) (fun w' hw' => Z56 rfl) ?_ | refine Z82 7 rfl (by kernel_rfl) (by kernel_rfl) (by kernel_rfl) (by assumption) (fun w' hw' => Z63 rfl rfl) ?_ | refine Z82 7 rfl (by kernel_rfl) (by kernel_rfl) (by kernel_rfl) (by assumption) (fun w' hw' => Z64 rfl rfl) ?_ | refine Z82 7 rfl (by kernel_rfl) (by kernel_rfl) (by kernel_rfl) (by assumption) (fun w' hw' => Z75 rfl rfl (by omega)) ?_ | refine Z82 7 rfl (by kernel_rfl) (by kernel_rfl) (by kernel_rfl) (by assumption) (fun w' hw' => Z72 rfl) ?_ | refine Z82 7 rfl (by kernel_rfl) (by kernel_rfl) (by kernel_rfl) (by assumption) (fun w' hw' => Z69 rfl rfl rfl (by omega)) ?_ | refine Z82 7 rfl (by kernel_rfl) (by kernel_rfl) (by kernel_rfl) (by assumption) (fun w' hw' => Z30 rfl (by rfl) (by simp only [Z84, List.set_cons_zero, List.set_cons_succ]; rfl)) ?_
        refine WH_two 1 5 rfl rfl (by kernel_rfl) ?_ ?_
        · refine Z10 rfl hos rfl (Z31 (at_held hS ?_))
          refine Z82 3 rfl (by kernel_rfl) (by kernel_rfl) (by kernel_rfl) (by assumption) (fun w' hw' => q_slTo (h := i) rfl rfl rfl (by omega)) ?_
          refine WH_one 5 rfl (by kernel_rfl) (Z10 rfl hos rfl (Z31 (at_held hS ?_)))
          refine Z82 8 rfl (by kernel_rfl) (by kernel_rfl) (by kernel_rfl) (by assumption) (fun w' hw' => q_slFrom (l := i + 1) rfl rfl (by omega) (by omega) (by omega)) ?_
          refine WH_one 9 rfl (by kernel_rfl) (WO_appRun rfl rfl hrun (Z31 (at_held (hch.mono (by simp)) ?_)))
          have Sd : Chg [g, w3.heap.size] ws we := hch.mono (by simp)
          first | refine Z82 10 rfl (by kernel_rfl) (by kernel_rfl) (by kernel_rfl) (by assumption) (fun w' hw' => Z56 rfl) ?_ | refine Z82 10 rfl (by kernel_rfl) (by kernel_rfl) (by kernel_rfl) (by assumption) (fun w' hw' => Z63 rfl rfl) ?_ | refine Z82 10 rfl (by kernel_rfl) (by kernel_rfl) (by kernel_rfl) (by assumption) (fun w' hw' => Z64 rfl rfl) ?_ | refine Z82 10 rfl (by kernel_rfl) (by kernel_rfl) (by kernel_rfl) (by assumption) (fun w' hw' => Z75 rfl rfl (by omega)) ?_ | refine Z82 10 rfl (by kernel_rfl) (by kernel_rfl) (by kernel_rfl) (by assumption) (fun w' hw' => Z72 rfl) ?_ | refine Z82 10 rfl (by kernel_rfl) (by kernel_rfl) (by kernel_rfl) (by assumption) (fun w' hw' => Z69 rfl rfl rfl (by omega)) ?_ | refine Z82 10 rfl (by kernel_rfl) (by kernel_rfl) (by kernel_rfl) (by assumption) (fun w' hw' => Z30 rfl (by rfl) (by simp only [Z84, List.set_cons_zero, List.set_cons_succ]; rfl)) ?_
          refine WH_one 11 rfl (by kernel_rfl) (WO_store1 rfl rfl rfl (hos.chg hch (by simp; omega)) (by simp) fun wf hof of_ => Z31 (at_held ((hch.mono (by simp)).trans (of_.chg.mono (by simp))) ?_))
          replace hof : Blk wf w3.heap.size [tv', .slice (some ⟨g, 0, none⟩) (l.len - 1) c] _ := hof
          exact WH_done (by kernel_rfl) (by repeat (first | exact True.intro | refine And.intro rfl ?_)) ⟨Fd, hof, hrow.chg of_.chg (fun z hz hm => by simp only [List.mem_singleton] at hm; have := hmemF z hz; omega), hsub, (es.chg _).trans ((hch.mono (by simp)).trans (of_.chg.mono (by simp)))⟩
        · refine Z10 rfl hos rfl (Z31 (at_held hS ?_))
          refine Z82 8 rfl (by kernel_rfl) (by kernel_rfl) (by kernel_rfl) (by assumption) (fun w' hw' => q_slFrom (l := i + 1) rfl rfl (by omega) (by omega) (by omega)) ?_
          refine WH_one 1 rfl (by kernel_rfl) (Z10 rfl hos rfl (Z31 (at_held hS ?_)))
          refine Z82 3 rfl (by kernel_rfl) (by kernel_rfl) (by kernel_rfl) (by assumption) (fun w' hw' => q_slTo (h := i) rfl rfl rfl (by omega)) ?_
          refine WH_one 9 rfl (by kernel_rfl) (WO_appRun rfl rfl hrun (Z31 (at_held (hch.mono (by simp)) ?_)))
          have Sd : Chg [g, w3.heap.size] ws we := hch.mono (by simp)
          first | refine Z82 10 rfl (by kernel_rfl) (by kernel_rfl) (by kernel_rfl) (by assumption) (fun w' hw' => Z56 rfl) ?_ | refine Z82 10 rfl (by kernel_rfl) (by kernel_rfl) (by kernel_rfl) (by assumption) (fun w' hw' => Z63 rfl rfl) ?_ | refine Z82 10 rfl (by kernel_rfl) (by kernel_rfl) (by kernel_rfl) (by assumption) (fun w' hw' => Z64 rfl rfl) ?_ | refine Z82 10 rfl (by kernel_rfl) (by kernel_rfl) (by kernel_rfl) (by assumption) (fun w' hw' => Z75 rfl rfl (by omega)) ?_ | refine Z82 10 rfl (by kernel_rfl) (by kernel_rfl) (by kernel_rfl) (by assumption) (fun w' hw' => Z72 rfl) ?_ | refine Z82 10 rfl (by kernel_rfl) (by kernel_rfl) (by kernel_rfl) (by assumption) (fun w' hw' => Z69 rfl rfl rfl (by omega)) ?_ | refine Z82 10 rfl (by kernel_rfl) (by kernel_rfl) (by kernel_rfl) (by assumption) (fun w' hw' => Z30 rfl (by rfl) (by simp only [Z84, List.set_cons_zero, List.set_cons_succ]; rfl)) ?_
          refine WH_one 11 rfl (by kernel_rfl) (WO_store1 rfl rfl rfl (hos.chg hch (by simp; omega)) (by simp) fun wf hof of_ => Z31 (at_held ((hch.mono (by simp)).trans (of_.chg.mono (by simp))) ?_))
          replace hof : Blk wf w3.heap.size [tv', .slice (some ⟨g, 0, none⟩) (l.len - 1) c] _ := hof
          exact WH_done (by kernel_rfl) (by repeat (first | exact True.intro | refine And.intro rfl ?_)) ⟨Fd, hof, hrow.chg of_.chg (fun z hz hm => by simp only [List.mem_singleton] at hm; have := hmemF z hz; omega), hsub, (es.chg _).trans ((hch.mono (by simp)).trans (of_.chg.mono (by simp)))⟩
      · obtain ⟨Fd, hoE, h82, hsub, c8⟩ := hR
        have hdc := drp_cnt l i
        have iE := i6.chg c8 (fun z hz hm => by
          simp at hm
          rcases hm with rfl | rfl
          · exact nd.2.2 z hz z (by simp) rfl
          · have := hFt _ hz; omega)
        have jE := h82.sts
        have s8 := c8.size
        have hzE := hz6.chg c8 (by simp; omega)
        have rE := RdU.chg hr6 c8 (by simp; omega)
        have cE : Chg [rb] w w8 := Chg.freshS c6 c8 (by simp; omega)
        have mE : ∀ x ∈ tv'.ownBlock.toList ++ (g :: Fd), w2.heap.size ≤ x ∧ x < w8.heap.size := fun x hx => by
          have h9 : x ∈ tv'.ownBlock.toList ++ (g :: Fs) := by
            simp at hx ⊢
            rcases hx with h | h | h
            · exact .inl h
            · exact .inr (.inl h)
            · exact .inr (.inr (hsub.subset h))
          have := hF x h9
          omega
        have tlE : tl.length ≤ 32 * k + 1 := by omega
        have clE : cntL (drpL l i) ≤ 32 * k + 1 := by omega
        have oneB' : (Value.slice (some ⟨g, 0, none⟩) (l.len - 1) c).oneCell' = true := rfl
        refine goS ?_
        refine WO_loadSB rfl hoE rfl ?_
        refine WO_storeS (k := 2) (vs := [tv', .slice (some ⟨g, 0, none⟩) (l.len - 1) c]) rfl rfl rfl (by simp; exact ⟨oneT, oneB'⟩) hzE (by decide) fun wz hzz oz => ?_
        replace hzz : Blk wz w1.heap.size [tv', .slice (some ⟨g, 0, none⟩) (l.len - 1) c] _ := hzz
        have sz := oz.size
        refine goS ?_
        refine at_retC rfl rfl hzz rfl ⟨⟨tv', .slice (some ⟨g, 0, none⟩) (l.len - 1) c, _, _, _, _, rfl, IntF.chg iE oz.chg (fun x hx hm => by simp at hm; have := mE x (by simp [hx]); omega), StS.chg jE oz.chg (fun x hx hm => by simp at hm; have := mE x (by simp [hx]); omega), fun x hx => by have := mE x hx; omega, tlE, clE⟩, RdU.mono (RdU.chg rE oz.chg (by simp; omega)) (by omega), Chg.freshS cE oz.chg (by simp; omega)⟩
    refine goS ?_
    refine Z50 rfl (by simp; omega) ?_
    refine goS ?_
    refine Z50 rfl (by simp; omega) ?_
    refine goS ?_
    refine Z50 rfl (by simp; omega) ?_
    refine goS ?_
    refine Z50 rfl (by simp; omega) ?_
    refine goS ?_
    refine Z50 rfl (by simp; omega) ?_
    refine goS ?_
    refine Z50 rfl (by simp; omega) ?_
    refine goS ?_
    refine Z50 rfl (by simp; omega) ?_
    have hoE := ho6
    have hzE := hz6
    have iE := i6
    have jE := p6.sts
    have mE : ∀ x ∈ tv'.ownBlock.toList ++ Fb, w2.heap.size ≤ x ∧ x < w6.heap.size := fun x hx => by have := hF x hx; omega
    have tlE : tl.length ≤ 32 * k + 1 := by omega
    have clE : cntL l ≤ 32 * k + 1 := by omega
    have rE := hr6
    have cE := c6
    refine goS ?_
    refine WO_loadSB rfl hoE rfl ?_
    refine WO_storeS (k := 2) (vs := [tv', .slice A l.len c]) rfl rfl rfl (by simp; exact ⟨oneT, oneB'⟩) hzE (by decide) fun wz hzz oz => ?_
    replace hzz : Blk wz w1.heap.size [tv', .slice A l.len c] _ := hzz
    have sz := oz.size
    refine goS ?_
    refine at_retC rfl rfl hzz rfl ⟨⟨tv', .slice A l.len c, _, _, _, _, rfl, IntF.chg iE oz.chg (fun x hx hm => by simp at hm; have := mE x (by simp [hx]); omega), StS.chg jE oz.chg (fun x hx hm => by simp at hm; have := mE x (by simp [hx]); omega), fun x hx => by have := mE x hx; omega, tlE, clE⟩, RdU.mono (RdU.chg rE oz.chg (by simp; omega)) (by omega), Chg.freshS cE oz.chg (by simp; omega)⟩
end Go.Proofs.YtplcmbipeanjdaaGreatDoor
