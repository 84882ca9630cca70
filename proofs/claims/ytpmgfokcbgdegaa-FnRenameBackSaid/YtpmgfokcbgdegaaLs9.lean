/-
  What is proved here: the law RenameBack on drawn programs.
-/
import Derived.Test.YtpmgfokcbgdegaaDr7
import Derived.Test.YtpmgfokcbgdegaaRenQ
import Derived.Test.YtpmgfokcbgdegaaSame
import Derived.Test.YtpmgfokcbgdegaaRen
import Derived.Test.YtpmgfokcbgdegaaRenS
namespace Go.Proofs.Ytpmgfokcbgdegaa
set_option linter.unusedVariables false
set_option linter.unusedSimpArgs false
set_option linter.unnecessarySimpa false
open Go.RowKit

/-- A number of an owned row is set. -/
theorem int_set {w : World} {B e : Nat} {v : Value} {ns : List Int} (h : w.ownsRow B e 1 v ns.length (ns.map (.int .i64))) (hn : 0 < ns.length) :
    ∃ g cap cs, v = .slice (some ⟨g, 0, none⟩) ns.length cap ∧ v.ownBlock = some g ∧ Blk w g cs e ∧ ns.length ≤ cs.length ∧ (∀ j (hj : j < ns.length), cs[j]? = some (.int .i64 ns[j])) ∧ ∀ w' i z, i < ns.length → Blk w' g (cs.set i (.int .i64 z)) e → w'.ownsRow B e 1 v (ns.set i z).length ((ns.set i z).map (.int .i64)) := by
  obtain ⟨g, cap, cs, rfl, hb, hl, hx, hup⟩ := ownsRow_upd h hn
  rw [Nat.mul_one] at hl hx
  refine ⟨g, cap, cs, rfl, rfl, hb, hl, fun j hj => ?_, fun w' i z hi hb' => ?_⟩
  · have h1 : (ns.map (Value.int .i64))[j]? = some (.int .i64 ns[j]) := by simp [hj]
    rw [hx, List.getElem?_take, if_pos hj] at h1
    exact h1
  · have h1 := hup w' _ hb' (by simp)
    have h2 : (cs.set i (.int .i64 z)).take ns.length = (ns.set i z).map (.int .i64) := by rw [List.take_set, ← hx, List.map_set]
    rw [Nat.mul_one, h2] at h1
    rw [List.length_set]
    exact h1
/-- A program of bounded size and some numbers that can be read, in new memory. -/
def AnyN (w : World) (r : Value) (w' : World) : Prop := ∃ tv bv tl l Ft Fb nv ns Fn, r = .tuple #[prV tv bv, nv] ∧ IntF w' tv tl Ft ∧ StS w' bv l Fb ∧ IntF w' nv ns Fn ∧ (tl.length ≤ 20000 ∧ cntL l ≤ 20000 ∧ ns.length ≤ 20000) ∧ Ext w w'
theorem DrawRenameVars_ret (v0 : Value) (w : World) (hd : ByD w v0) : Ret Try.prog 12 [v0] w (AnyN w) := by
  refine enter Try.func12 rfl Try.ntmps12 rfl rfl ?_
  refine goS ?_
  refine WO_alloc fun w0 hz ez zz => ?_
  replace hz : Blk w0 w.heap.size [.slice none 0 0, .slice none 0 0] _ := hz
  have s0 := hz.lt
  refine goS ?_
  refine WO_call rfl (openU_ret v0 w0 (hd.ext ez)) ?_
  rintro _ w1 ⟨rb, rfl, hrb, hr, e1⟩
  have s1 := e1.size_le
  refine goS ?_
  refine WO_call rfl (l1Draw_ret rb 0 w1 hr (by omega)) ?_
  rintro _ w2 ⟨⟨tv0, bv0, tl0, l0, Ft0, Fb0, rfl, d1, d2, d3, d4, d5⟩, hr2, c2⟩
  have s2 := c2.size
  have hrl := hr.lt
  refine WO_call rfl (l1Mutate_ret rb (0 + 1000) 600 tv0 bv0 tl0 l0 w2 hr2 (by omega) (DrP.drD d1 d2 d3 (by omega)) d4 d5 (by omega)) ?_
  rintro _ w3 ⟨⟨tv, bv, tl, l, Ft, Fb, rfl, h1, h2, h3, htl, hl⟩, hr3, c3⟩
  have s3 := c3.size
  have o1 := h1.one
  have o2 := h2.one
  have hz3 := ((hz.ext e1).chg c2 (by simp; omega)).chg c3 (by simp; omega)
  have e03 : Ext w w3 := (c2.trans c3).ext_of (ez.trans e1) (by simp; omega)
  refine WO_alloc fun w4 hp4 e4 z4 => ?_
  refine WO_storeS (k := 2) (vs := [tv, bv]) rfl rfl rfl (by simp; exact ⟨o1, o2⟩) hp4 (by decide) fun w5 hp o5 => ?_
  replace hp : Blk w5 w3.heap.size [tv, bv] _ := hp
  have e5 : Ext w3 w5 := e4.only o5 (Nat.le_refl _)
  replace h1 := h1.ext e5
  replace h2 := h2.ext e5
  have hz5 := hz3.ext e5
  have hr5 := hr3.ext e5
  have e05 := e03.trans e5
  have s5 := hp.lt
  obtain ⟨A, c, rfl, hlm, hix⟩ := h1
  have h1 : IntF w5 (.slice A tl.length c) tl Ft := ⟨A, c, rfl, hlm, hix⟩
  refine goS ?_
  refine WO_build0 (e := 3) (k := 1) fun w6 hn6 e6 z6 => ?_
  have hown6 := owns_empty (B := w5.heap.size) (k := 1) hn6 (Nat.le_refl _)
  refine goS ?_
  refine W_loop (α := Nat × Value) (fun p => [(0, v0), (2, .pointer (some ⟨w.heap.size, 0, none⟩)), (4, .pointer (some ⟨rb, 0, none⟩)), (5, .pointer (some ⟨w3.heap.size, 0, none⟩)), (6, p.2), (7, .int .i64 (p.1 : Int))])
    (fun p w' => p.1 ≤ tl.length ∧ (∃ ns : List Int, ns.length = p.1 ∧ w'.ownsRow w5.heap.size 3 1 p.2 ns.length (ns.map (.int .i64))) ∧ Ext w5 w') (fun p => tl.length - p.1) (0, _) (by repeat (first | exact True.intro | refine And.intro rfl ?_)) ⟨Nat.zero_le _, ⟨[], rfl, hown6⟩, e6⟩ ?_
  rintro ⟨i, v⟩ w7 ⟨hi, ⟨ns, hns, hrow⟩, e7⟩
  simp only at hi hns hrow e7 ⊢
  have hp7 := hp.ext e7
  refine goS ?_
  by_cases hlt : i < tl.length
  · rw [decide_eq_true (show (i : Int) < (tl.length : Int) by omega)]
    refine goS ?_
    refine WO_app1 (m := ns.length) (u := .int .i64 (i : Int)) rfl rfl (by intro v hv; simp [Value.cells] at hv; subst hv; rfl) rfl hrow e7.size rfl (by omega) (by decide) fun v' w8 hrow8 hg8 hat8 => ?_
    have e8 := grown_below e7 hrow hg8 (Nat.le_refl _)
    refine goS ?_
    exact at_loop (i + 1, v') (by repeat (first | exact True.intro | refine And.intro rfl ?_)) ⟨hlt, ⟨ns ++ [(i : Int)], by simp [hns], by simpa [Value.cells] using hrow8⟩, e8⟩ (by simp only; omega)
  · rw [decide_eq_false (show ¬ (i : Int) < (tl.length : Int) by omega)]
    have hil : i = tl.length := by omega
    subst hil
    have hz7 := hz5.ext e7
    have hr7 := hr5.ext e7
    have e07 := e05.trans e7
    have s7 := e7.size_le
    replace h1 := h1.ext e7
    replace h2 := h2.ext e7
    obtain ⟨Av, cv, hvv, _, _⟩ := ownsRow_slice hrow
    rw [hns] at hvv
    subst hvv
    refine goS ?_
    refine WO_call rfl (pickU_ret rb (0 + 1000 + 3) 4 w7 hr7 (by omega) (by decide)) ?_
    rintro _ w8 ⟨m, rfl, hm, hr8, c8⟩
    have hvlt : ∀ b, (Value.slice Av tl.length cv).ownBlock = some b → w5.heap.size ≤ b ∧ b < w7.heap.size := hrow.lt
    have hp8 := hp7.chg c8 (by simp; omega)
    have hz8 := hz7.chg c8 (by simp; omega)
    replace h1 := h1.chg c8 (fun z hz => by have := h3 z (by simp [hz]); simp; omega)
    replace h2 := h2.chg c8 (fun z hz => by have := h3 z (by simp [hz]); simp; omega)
    have hrow8 := ownsRow_chg hrow c8 (fun z hz => by have := hvlt z (by simpa using hz); simp; omega)
    have e08 : Ext w w8 := c8.ext_of e07 (by simp; omega)
    have s8 := c8.size
    refine goS ?_
    refine W_loop (α := Nat) (fun m => [(0, v0), (2, .pointer (some ⟨w.heap.size, 0, none⟩)), (4, .pointer (some ⟨rb, 0, none⟩)), (5, .pointer (some ⟨w3.heap.size, 0, none⟩)), (6, .slice Av tl.length cv), (8, .int .i64 (m : Int))])
      (fun m w' => m ≤ 3 ∧ (∃ ns : List Int, ns.length = tl.length ∧ w'.ownsRow w5.heap.size 3 1 (.slice Av tl.length cv) ns.length (ns.map (.int .i64))) ∧ RdU w' rb (1100 - 2 * m) ∧ Chg (rb :: (Value.slice Av tl.length cv).ownBlock.toList) w8 w') (fun m => m) m (by repeat (first | exact True.intro | refine And.intro rfl ?_)) ⟨by omega, ⟨ns, hns, hrow8⟩, hr8.mono (by omega), Chg.refl _ _⟩ ?_
    clear hm hr8
    rintro m w9 ⟨hm, ⟨ns, hns, hrow9⟩, hr9, c9⟩
    have hG : ∀ x ∈ rb :: (Value.slice Av tl.length cv).ownBlock.toList, x = rb ∨ (w5.heap.size ≤ x ∧ x < w7.heap.size) := fun x hx => by
      rcases List.mem_cons.1 hx with h | h
      · exact .inl h
      · exact .inr (hvlt x (by simpa using h))
    have hnoG : ∀ x, x < w5.heap.size → x ≠ rb → x ∉ rb :: (Value.slice Av tl.length cv).ownBlock.toList := fun x h1 h2 hm => by rcases hG x hm with h | h <;> omega
    have hp9 := hp8.chg c9 (hnoG _ (by omega) (by omega))
    have hz9 := hz8.chg c9 (hnoG _ (by omega) (by omega))
    have h19 := h1.chg c9 (fun z hz => hnoG _ (by have := h3 z (by simp [hz]); omega) (by have := h3 z (by simp [hz]); omega))
    have h29 := h2.chg c9 (fun z hz => hnoG _ (by have := h3 z (by simp [hz]); omega) (by have := h3 z (by simp [hz]); omega))
    have e09 : Ext w w9 := c9.ext_of e08 (fun x hx => by rcases hG x hx with h | h <;> omega)
    have s9 := c9.size
    refine goS ?_
    by_cases hgo : 0 < m ∧ 1 < tl.length
    · rw [decide_eq_true (show (m : Int) > 0 by omega)]
      refine goS ?_
      rw [decide_eq_true (show (tl.length : Int) > 1 by omega)]
      refine goS ?_
      refine WO_call rfl (pickU_ret rb (1100 - 2 * m) (tl.length : Int) w9 hr9 (by omega) (by omega)) ?_
      rintro _ wa ⟨a, rfl, ha, hra, ca⟩
      refine goS ?_
      refine WO_call rfl (pickU_ret rb (1100 - 2 * m + 1) (tl.length : Int) wa hra (by omega) (by omega)) ?_
      rintro _ wb ⟨b, rfl, hb, hrb2, cb⟩
      have cab := ca.trans cb
      have hrowb := ownsRow_chg hrow9 cab (fun z hz => by have := hvlt z (by simpa using hz); simp; omega)
      have sb := cab.size
      obtain ⟨g, cap, cs, hv, hvg, hgb, hgl, hcs, hup⟩ := int_set hrowb (by omega)
      rw [hns] at hv
      injection hv with hA _ hc
      subst hA
      subst hc
      have hgi := hvlt g hvg
      have cellb : ∀ j (hj : j < ns.length), wb.cell? ⟨g, 0 + j * 1, none⟩ = some (.int .i64 ns[j]) := fun j hj => by rw [Nat.zero_add, Nat.mul_one]; exact hgb.cell (hcs j hj)
      refine goS ?_
      refine Z83 (j := a) rfl rfl rfl (by omega) ?_
      refine Z11 rfl (cellb a (by omega)) ?_
      refine goS ?_
      refine Z83 (j := b) rfl rfl rfl (by omega) ?_
      refine Z11 rfl (cellb b (by omega)) ?_
      refine Z83 (j := a) rfl rfl rfl (by omega) ?_
      refine WO_store1 rfl rfl rfl hgb (by omega) fun wc hgc oc => ?_
      rw [Nat.zero_add, Nat.mul_one] at hgc
      have hrowc := hup wc a _ (by omega) hgc
      obtain ⟨g2, cap2, cs2, hv2, hvg2, hgb2, hgl2, hcs2, hup2⟩ := int_set hrowc (by simp; omega)
      rw [List.length_set, hns] at hv2
      injection hv2 with hA2 _ hc2
      have hA2 := Option.some.inj hA2
      injection hA2 with hA2
      subst hA2
      refine goS ?_
      refine Z83 (j := b) rfl rfl rfl (by omega) ?_
      refine WO_store1 rfl rfl rfl hgb2 (by rw [List.length_set] at hgl2; omega) fun wd hgd od => ?_
      rw [Nat.zero_add, Nat.mul_one] at hgd
      have hrowd := hup2 wd b _ (by rw [List.length_set]; omega) hgd
      have co : Chg (rb :: (Value.slice (some ⟨g, 0, none⟩) tl.length cv).ownBlock.toList) w8 wd := ((c9.trans (cab.mono (by simp))).trans (oc.chg.mono (by simp [Value.ownBlock]))).trans (od.chg.mono (by simp [Value.ownBlock]))
      have hrd : RdU wd rb (1100 - 2 * m + 1 + 1) := RdU.chg (RdU.chg hrb2 oc.chg (by simp; omega)) od.chg (by simp; omega)
      refine goS ?_
      rw [show (m : Int) - 1 = ((m - 1 : Nat) : Int) from by omega]
      refine goS ?_
      exact at_loop (m - 1) (by repeat (first | exact True.intro | refine And.intro rfl ?_)) ⟨by omega, ⟨_, by simp [hns], hrowd⟩, hrd.mono (by omega), co⟩ (by omega)
    · by_cases hm0 : 0 < m
      · rw [decide_eq_true (show (m : Int) > 0 by omega)]
        refine goS ?_
        rw [decide_eq_false (show ¬ (tl.length : Int) > 1 by omega)]
        refine goS ?_
        by_cases h0 : 0 < tl.length
        · rw [decide_eq_true (show (tl.length : Int) > 0 by omega)]
          refine goS ?_
          refine WO_call rfl (pickU_ret rb (1100 - 2 * m) 10 w9 hr9 (by omega) (by decide)) ?_
          rintro _ wa ⟨k, rfl, hk, hra, ca⟩
          have hrowa := ownsRow_chg hrow9 ca (fun z hz => by have := hvlt z (by simpa using hz); simp; omega)
          have hpa := hp9.chg ca (by simp; omega)
          have hza := hz9.chg ca (by simp; omega)
          have h1a := h19.chg ca (fun z hz => by have := h3 z (by simp [hz]); simp; omega)
          have h2a := h29.chg ca (fun z hz => by have := h3 z (by simp [hz]); simp; omega)
          have e0a : Ext w wa := ca.ext_of e09 (by simp; omega)
          have sa := ca.size
          by_cases hk0 : k = 0
          · subst hk0
            refine goS ?_
            refine WO_ints [9, -1, 1] rfl rfl (by decide) (by decide) fun wb hib eb zb => ?_
            refine goS ?_
            refine WO_call rfl (numU_ret rb (1100 - 2 * m + 1) _ [9, -1, 1] _ wb (hra.ext eb) (by omega) hib.int (by decide) (by have := hra.lt; simp; omega)) ?_
            rintro _ wc ⟨y, hy, rfl, hrc, cc⟩
            have hrowc := ownsRow_chg (ownsRow_ext hrowa eb) cc (fun z hz => by have := hvlt z (by simpa using hz); simp; omega)
            obtain ⟨g, cap, cs, hv, hvg, hgb, hgl, hcs, hup⟩ := int_set hrowc (by omega)
            rw [hns] at hv
            injection hv with hA _ hc
            subst hA
            subst hc
            have hgi := hvlt g hvg
            have sb := eb.size_le
            have scc := cc.size
            refine Z83 (j := 0) rfl rfl rfl (by omega) ?_
            refine WO_store1 rfl rfl rfl hgb (by omega) fun wd hgd od => ?_
            have hrowd := hup wd 0 y (by omega) (by simpa using hgd)
            have cod : Chg [rb, g] wb wd := (cc.mono (by simp)).trans (od.chg.mono (by simp))
            have hnd : ∀ z, z < w5.heap.size → z ≠ rb → z ∉ [rb, g] := fun z h1 h2 => by simp; omega
            generalize hns' : ns.set 0 y = ns' at hrowd
            have hnl : ns'.length = tl.length := by rw [← hns', List.length_set, hns]
            refine goS ?_
            refine WO_loadSB rfl ((hpa.ext eb).chg cod (hnd _ (by omega) (by omega))) rfl ?_
            refine goS ?_
            refine WO_storeS (k := 2) (vs := [.slice A tl.length c, bv]) rfl rfl rfl (by simp; exact ⟨rfl, o2⟩) ((hza.ext eb).chg cod (hnd _ (by omega) (by omega))) (by decide) fun wz hzz oz => ?_
            replace hzz : Blk wz w.heap.size [.slice A tl.length c, bv] _ := hzz
            obtain ⟨Fn, iN, hFn, hFv⟩ := OwnI.of_row hrowd rfl (by unfold maxI; omega)
            refine goS ?_
            exact at_ret2G rfl (.cell inferInstance rfl hzz rfl) (.tmp rfl) ⟨_, bv, tl, l, Ft, Fb, _, ns', Fn, rfl, IntF.chg ((h1a.ext eb).chg cod (fun z hz => hnd z (by have := h3 z (by simp [hz]); omega) (by have := h3 z (by simp [hz]); omega))) oz.chg (fun z hz => by have := h3 z (by simp [hz]); simp; omega), StS.chg ((h2a.ext eb).chg cod (fun z hz => hnd z (by have := h3 z (by simp [hz]); omega) (by have := h3 z (by simp [hz]); omega))) oz.chg (fun z hz => by have := h3 z (by simp [hz]); simp; omega), iN.int.chg oz.chg (fun z hz => by have := hFn z hz; simp; omega), by omega, Ext.only (cod.ext_of (e0a.trans eb) (by simp; omega)) oz (Nat.le_refl _)⟩
          · refine goS ?_
            rw [show (((k : Nat) : Int) == 0) = false from by rw [beq_eq_false_iff_ne]; omega]
            refine goS ?_
            refine WO_loadSB rfl hpa rfl ?_
            refine goS ?_
            refine WO_storeS (k := 2) (vs := [.slice A tl.length c, bv]) rfl rfl rfl (by simp; exact ⟨rfl, o2⟩) hza (by decide) fun wz hzz oz => ?_
            replace hzz : Blk wz w.heap.size [.slice A tl.length c, bv] _ := hzz
            obtain ⟨Fn, iN, hFn, hFv⟩ := OwnI.of_row hrowa rfl (by unfold maxI; omega)
            refine goS ?_
            exact at_ret2G rfl (.cell inferInstance rfl hzz rfl) (.tmp rfl) ⟨_, bv, tl, l, Ft, Fb, _, ns, Fn, rfl, IntF.chg h1a oz.chg (fun z hz => by have := h3 z (by simp [hz]); simp; omega), StS.chg h2a oz.chg (fun z hz => by have := h3 z (by simp [hz]); simp; omega), iN.int.chg oz.chg (fun z hz => by have := hFn z hz; simp; omega), by omega, Ext.only e0a oz (Nat.le_refl _)⟩
        · rw [decide_eq_false (show ¬ (tl.length : Int) > 0 by omega)]
          refine goS ?_
          refine WO_loadSB rfl hp9 rfl ?_
          refine goS ?_
          refine WO_storeS (k := 2) (vs := [.slice A tl.length c, bv]) rfl rfl rfl (by simp; exact ⟨rfl, o2⟩) hz9 (by decide) fun wz hzz oz => ?_
          replace hzz : Blk wz w.heap.size [.slice A tl.length c, bv] _ := hzz
          obtain ⟨Fn, iN, hFn, hFv⟩ := OwnI.of_row hrow9 rfl (by unfold maxI; omega)
          refine goS ?_
          exact at_ret2G rfl (.cell inferInstance rfl hzz rfl) (.tmp rfl) ⟨_, bv, tl, l, Ft, Fb, _, ns, Fn, rfl, IntF.chg h19 oz.chg (fun z hz => by have := h3 z (by simp [hz]); simp; omega), StS.chg h29 oz.chg (fun z hz => by have := h3 z (by simp [hz]); simp; omega), iN.int.chg oz.chg (fun z hz => by have := hFn z hz; simp; omega), by omega, Ext.only e09 oz (Nat.le_refl _)⟩
      · rw [decide_eq_false (show ¬ (m : Int) > 0 by omega)]
        refine goS ?_
        by_cases h0 : 0 < tl.length
        · rw [decide_eq_true (show (tl.length : Int) > 0 by omega)]
          refine goS ?_
          refine WO_call rfl (pickU_ret rb (1100 - 2 * m) 10 w9 hr9 (by omega) (by decide)) ?_
          rintro _ wa ⟨k, rfl, hk, hra, ca⟩
          have hrowa := ownsRow_chg hrow9 ca (fun z hz => by have := hvlt z (by simpa using hz); simp; omega)
          have hpa := hp9.chg ca (by simp; omega)
          have hza := hz9.chg ca (by simp; omega)
          have h1a := h19.chg ca (fun z hz => by have := h3 z (by simp [hz]); simp; omega)
          have h2a := h29.chg ca (fun z hz => by have := h3 z (by simp [hz]); simp; omega)
          have e0a : Ext w wa := ca.ext_of e09 (by simp; omega)
          have sa := ca.size
          by_cases hk0 : k = 0
          · subst hk0
            refine goS ?_
            refine WO_ints [9, -1, 1] rfl rfl (by decide) (by decide) fun wb hib eb zb => ?_
            refine goS ?_
            refine WO_call rfl (numU_ret rb (1100 - 2 * m + 1) _ [9, -1, 1] _ wb (hra.ext eb) (by omega) hib.int (by decide) (by have := hra.lt; simp; omega)) ?_
            rintro _ wc ⟨y, hy, rfl, hrc, cc⟩
            have hrowc := ownsRow_chg (ownsRow_ext hrowa eb) cc (fun z hz => by have := hvlt z (by simpa using hz); simp; omega)
            obtain ⟨g, cap, cs, hv, hvg, hgb, hgl, hcs, hup⟩ := int_set hrowc (by omega)
            rw [hns] at hv
            injection hv with hA _ hc
            subst hA
            subst hc
            have hgi := hvlt g hvg
            have sb := eb.size_le
            have scc := cc.size
            refine Z83 (j := 0) rfl rfl rfl (by omega) ?_
            refine WO_store1 rfl rfl rfl hgb (by omega) fun wd hgd od => ?_
            have hrowd := hup wd 0 y (by omega) (by simpa using hgd)
            have cod : Chg [rb, g] wb wd := (cc.mono (by simp)).trans (od.chg.mono (by simp))
            have hnd : ∀ z, z < w5.heap.size → z ≠ rb → z ∉ [rb, g] := fun z h1 h2 => by simp; omega
            generalize hns' : ns.set 0 y = ns' at hrowd
            have hnl : ns'.length = tl.length := by rw [← hns', List.length_set, hns]
            refine goS ?_
            refine WO_loadSB rfl ((hpa.ext eb).chg cod (hnd _ (by omega) (by omega))) rfl ?_
            refine goS ?_
            refine WO_storeS (k := 2) (vs := [.slice A tl.length c, bv]) rfl rfl rfl (by simp; exact ⟨rfl, o2⟩) ((hza.ext eb).chg cod (hnd _ (by omega) (by omega))) (by decide) fun wz hzz oz => ?_
            replace hzz : Blk wz w.heap.size [.slice A tl.length c, bv] _ := hzz
            obtain ⟨Fn, iN, hFn, hFv⟩ := OwnI.of_row hrowd rfl (by unfold maxI; omega)
            refine goS ?_
            exact at_ret2G rfl (.cell inferInstance rfl hzz rfl) (.tmp rfl) ⟨_, bv, tl, l, Ft, Fb, _, ns', Fn, rfl, IntF.chg ((h1a.ext eb).chg cod (fun z hz => hnd z (by have := h3 z (by simp [hz]); omega) (by have := h3 z (by simp [hz]); omega))) oz.chg (fun z hz => by have := h3 z (by simp [hz]); simp; omega), StS.chg ((h2a.ext eb).chg cod (fun z hz => hnd z (by have := h3 z (by simp [hz]); omega) (by have := h3 z (by simp [hz]); omega))) oz.chg (fun z hz => by have := h3 z (by simp [hz]); simp; omega), iN.int.chg oz.chg (fun z hz => by have := hFn z hz; simp; omega), by omega, Ext.only (cod.ext_of (e0a.trans eb) (by simp; omega)) oz (Nat.le_refl _)⟩
          · refine goS ?_
            rw [show (((k : Nat) : Int) == 0) = false from by rw [beq_eq_false_iff_ne]; omega]
            refine goS ?_
            refine WO_loadSB rfl hpa rfl ?_
            refine goS ?_
            refine WO_storeS (k := 2) (vs := [.slice A tl.length c, bv]) rfl rfl rfl (by simp; exact ⟨rfl, o2⟩) hza (by decide) fun wz hzz oz => ?_
            replace hzz : Blk wz w.heap.size [.slice A tl.length c, bv] _ := hzz
            obtain ⟨Fn, iN, hFn, hFv⟩ := OwnI.of_row hrowa rfl (by unfold maxI; omega)
            refine goS ?_
            exact at_ret2G rfl (.cell inferInstance rfl hzz rfl) (.tmp rfl) ⟨_, bv, tl, l, Ft, Fb, _, ns, Fn, rfl, IntF.chg h1a oz.chg (fun z hz => by have := h3 z (by simp [hz]); simp; omega), StS.chg h2a oz.chg (fun z hz => by have := h3 z (by simp [hz]); simp; omega), iN.int.chg oz.chg (fun z hz => by have := hFn z hz; simp; omega), by omega, Ext.only e0a oz (Nat.le_refl _)⟩
        · rw [decide_eq_false (show ¬ (tl.length : Int) > 0 by omega)]
          refine goS ?_
          refine WO_loadSB rfl hp9 rfl ?_
          refine goS ?_
          refine WO_storeS (k := 2) (vs := [.slice A tl.length c, bv]) rfl rfl rfl (by simp; exact ⟨rfl, o2⟩) hz9 (by decide) fun wz hzz oz => ?_
          replace hzz : Blk wz w.heap.size [.slice A tl.length c, bv] _ := hzz
          obtain ⟨Fn, iN, hFn, hFv⟩ := OwnI.of_row hrow9 rfl (by unfold maxI; omega)
          refine goS ?_
          exact at_ret2G rfl (.cell inferInstance rfl hzz rfl) (.tmp rfl) ⟨_, bv, tl, l, Ft, Fb, _, ns, Fn, rfl, IntF.chg h19 oz.chg (fun z hz => by have := h3 z (by simp [hz]); simp; omega), StS.chg h29 oz.chg (fun z hz => by have := h3 z (by simp [hz]); simp; omega), iN.int.chg oz.chg (fun z hz => by have := hFn z hz; simp; omega), by omega, Ext.only e09 oz (Nat.le_refl _)⟩
theorem FnRenameBack_ret {v : Value} {w : World} (hd : ByD w v) : Ret Try.prog 4 [v] w fun r w' => r = .bool true ∧ Ext w w' := by
  have hd0 := hd
  obtain ⟨A0, n0, c0, rfl, _, hn0, _⟩ := hd0
  refine enter Try.func4 rfl Try.ntmps4 rfl rfl ?_
  (refine goS ?_; repeat' (first | ((refine Z51 rfl rfl (fun c' hc' => ?_)); cases c' <;> (try simp only [decide_eq_true_eq, decide_eq_false_iff_not, beq_iff_eq, beq_eq_false_iff_ne, bne_iff_ne, bne_eq_false_iff_eq, ne_eq, gt_iff_lt, ge_iff_le, Int.not_lt, Int.not_le, Bool.not_eq_true', Bool.not_eq_false', Bool.not_true, Bool.not_false, reduceCtorEq, Decidable.not_not, not_true_eq_false, Bool.true_eq_false, Bool.false_eq_true] at hc') <;> (try (exfalso; omega)) <;> refine goS ?_) | ((refine Z52 rfl (fun hc' => ?_) (fun hc' => ?_)) <;> (try simp only [decide_eq_true_eq, decide_eq_false_iff_not, beq_iff_eq, beq_eq_false_iff_ne, bne_iff_ne, bne_eq_false_iff_eq, ne_eq, gt_iff_lt, ge_iff_le, Int.not_lt, Int.not_le, Bool.not_eq_true', Bool.not_eq_false', Bool.not_true, Bool.not_false, reduceCtorEq, Decidable.not_not, not_true_eq_false, Bool.true_eq_false, Bool.false_eq_true] at hc') <;> (try (exfalso; omega)) <;> refine goS ?_)))
  any_goals (exact at_ret1 rfl rfl ⟨rfl, Ext.refl _⟩)
  refine WO_call rfl (DrawRenameVars_ret _ w hd) ?_
  rintro _ w1 ⟨tv, bv, tl, l, Ft, Fb, nv, ns, Fn, rfl, i1, j1, n1, ⟨htl, hcl, hnl⟩, e1⟩
  have oT := i1.one
  have oB := j1.one
  obtain ⟨An, cn, rfl, hnm, hnx⟩ := n1
  have n1 : IntF w1 (.slice An ns.length cn) ns Fn := ⟨An, cn, rfl, hnm, hnx⟩
  refine goS ?_
  refine WO_alloc fun w2 hb2 e2 z2 => ?_
  refine WO_storeS (k := 2) (vs := [tv, bv]) rfl rfl rfl (by simp; exact ⟨oT, oB⟩) hb2 (by decide) fun w3 hp o3 => ?_
  replace hp : Blk w3 w1.heap.size [tv, bv] _ := hp
  have e3 : Ext w1 w3 := e2.only o3 (Nat.le_refl _)
  replace i1 := i1.ext e3
  replace j1 := j1.ext e3
  replace n1 := n1.ext e3
  have e0 := e1.trans e3
  refine goS ?_
  refine WO_loadSB rfl hp rfl ?_
  refine goS ?_
  refine WO_call rfl (RenameVars_ret tv bv _ tl l ns Ft Fb Fn w3 i1 j1 n1 (by omega) (by omega)) ?_
  rintro _ w4 ⟨tq, bq, rfl, hq, e4⟩
  obtain ⟨oq1, oq2⟩ := hq.ones
  refine goS ?_
  refine WO_alloc fun w5 hb5 e5 z5 => ?_
  refine WO_storeS (k := 2) (vs := [tq, bq]) rfl rfl rfl (by simp; exact ⟨oq1, oq2⟩) hb5 (by decide) fun w6 hq6 o6 => ?_
  replace hq6 : Blk w6 w4.heap.size [tq, bq] _ := hq6
  have e6 : Ext w4 w6 := e5.only o6 (Nat.le_refl _)
  replace hq := hq.ext e6
  have e46 := e4.trans e6
  refine goS ?_
  refine WO_loadSB rfl (hp.ext e46) rfl ?_
  refine goS ?_
  refine WO_call rfl (sRenameVars_ret tv bv _ tl l ns Ft Fb Fn w6 (i1.ext e46) (j1.ext e46) (n1.ext e46) (by omega) (by omega)) ?_
  rintro _ w7 ⟨ts, bs, rfl, hs, e7⟩
  obtain ⟨os1, os2⟩ := hs.ones
  refine goS ?_
  refine WO_alloc fun w8 hb8 e8 z8 => ?_
  refine WO_storeS (k := 2) (vs := [ts, bs]) rfl rfl rfl (by simp; exact ⟨os1, os2⟩) hb8 (by decide) fun w9 hs9 o9 => ?_
  replace hs9 : Blk w9 w7.heap.size [ts, bs] _ := hs9
  have e9 : Ext w7 w9 := e8.only o9 (Nat.le_refl _)
  replace hs := hs.ext e9
  have e79 := e7.trans e9
  have hq9 := hq6.ext e79
  have e39 := e46.trans e79
  have hp9 := hp.ext e39
  obtain ⟨g1, k1⟩ := (hq.ext e79).int
  obtain ⟨g2, k2⟩ := (hq.ext e79).sts
  obtain ⟨g3, k3⟩ := hs.int
  obtain ⟨g4, k4⟩ := hs.sts
  have i9 := i1.ext e39
  have j9 := j1.ext e39
  have n9 := n1.ext e39
  refine goS ?_
  rw [show (decide (rnOk tl l ns) == decide (rnOk tl l ns)) = true from by simp]
  refine goS ?_
  refine WO_loadSB rfl hq9 rfl ?_
  refine goS ?_
  refine WO_loadSB rfl hs9 rfl ?_
  refine goS ?_
  refine WO_call rfl (ProgramSame_ret tq bq ts bs _ _ _ _ _ _ _ _ w9 k1 k2 k3 k4) ?_
  rintro _ w10 ⟨rfl, ex⟩
  rw [decide_eq_true ⟨rfl, rfl⟩]
  have fin : ∀ w11, Ext w10 w11 → Ext w w11 := fun w11 h => ((e0.trans e39).trans ex).trans h
  by_cases hok : rnOk tl l ns
  · rw [decide_eq_true hok]
    have hT : rnT tl l ns = setTo ns tl ns.length := by unfold rnT; rw [if_pos hok]
    have hL : rnB tl l ns = renL ns l := by unfold rnB; rw [if_pos hok]
    rw [hT] at k1
    rw [hL] at k2
    obtain ⟨b1, b2, b3⟩ := ren_back hok
    obtain ⟨_, hlt, hren⟩ := hok
    have hcr := renL_cnt ns l
    refine goS ?_
    refine WO_make (m := ns.length) rfl rfl rfl rfl (by omega) (by decide) (by decide) fun w11 hb11 e11 z11 => ?_
    have hz : (List.replicate ns.length (Value.int .i64 0).cells.toList).flatten = (setTo ns (upTo ns.length) 0).map (.int .i64) := by simp [Value.cells, setTo]
    rw [hz] at hb11
    refine goS ?_
    refine W_loop (α := Nat) (fun i => [(3, .pointer (some ⟨w1.heap.size, 0, none⟩)), (4, .slice An ns.length cn), (5, .pointer (some ⟨w4.heap.size, 0, none⟩)), (9, .slice (some ⟨w10.heap.size, 0, none⟩) ns.length ns.length), (10, .int .i64 (i : Int))])
      (fun i w' => i ≤ ns.length ∧ Ext w10 w' ∧ Blk w' w10.heap.size ((setTo ns (upTo ns.length) i).map (.int .i64)) 3) (fun i => ns.length - i) 0 (by repeat (first | exact True.intro | refine And.intro rfl ?_)) ⟨Nat.zero_le _, e11, hb11⟩ ?_
    rintro i w12 ⟨hi, he, hb12⟩
    refine goS ?_
    by_cases hlt2 : i < ns.length
    · rw [decide_eq_true (show (i : Int) < (ns.length : Int) by omega)]
      have hin := ren_in hren hlt2
      rw [getD_lt hlt2] at hin
      obtain ⟨b, o, rfl, _, hcell⟩ := int_at hnx hlt2
      have hcell := cell_ext (cell_ext (cell_ext hcell (e3.trans e39)) ex) he
      refine goS ?_
      refine Z83 (j := i) rfl rfl rfl hlt2 ?_
      refine Z11 rfl hcell ?_
      refine goS ?_
      refine Z83 (j := ns[i].toNat) rfl rfl (by omega) (by omega) ?_
      refine WO_store1 rfl rfl rfl hb12 (by simp [setTo_length]; omega) fun w13 hb13 o13 => ?_
      have hsn : ((setTo ns (upTo ns.length) i).map (Value.int .i64)).set (0 + ns[i].toNat * 1) (.int .i64 (i : Int)) = (setTo ns (upTo ns.length) (i + 1)).map (.int .i64) := by
        simp only [setTo]
        rw [getD_lt hlt2, upTo_getD hlt2, Nat.zero_add, Nat.mul_one, List.map_set]
      rw [hsn] at hb13
      refine goS ?_
      exact at_loop (i + 1) (by repeat (first | exact True.intro | refine And.intro rfl ?_)) ⟨hlt2, he.only o13 (Nat.le_refl _), hb13⟩ (by omega)
    · rw [decide_eq_false (show ¬ (i : Int) < (ns.length : Int) by omega)]
      have hil : i = ns.length := by omega
      subst hil
      have hown := owns_blk (B := 0) (k := 1) (m := (backL ns).length) hb12 (Nat.zero_le _) (by simp [backL]) (by rw [backL_len]; unfold maxLen; omega)
      obtain ⟨Fbk, ibk, _, _⟩ := OwnI.of_row (l := backL ns) hown rfl (by rw [backL_len]; unfold maxI; omega)
      rw [backL_len] at ibk
      have ex2 := ex.trans he
      refine goS ?_
      refine WO_loadSB rfl (hq9.ext ex2) rfl ?_
      refine goS ?_
      refine WO_call rfl (RenameVars_ret tq bq _ (setTo ns tl ns.length) (renL ns l) (backL ns) _ _ Fbk w12 (k1.ext ex2) (k2.ext ex2) ibk.int (by rw [setTo_length]; omega) (by omega)) ?_
      rintro _ w14 ⟨tr, br, rfl, hr, e14⟩
      rw [b2, b3] at hr
      rw [decide_eq_true b1]
      obtain ⟨or1, or2⟩ := hr.ones
      refine goS ?_
      refine WO_alloc fun w15 hb15 e15 z15 => ?_
      refine WO_storeS (k := 2) (vs := [tr, br]) rfl rfl rfl (by simp; exact ⟨or1, or2⟩) hb15 (by decide) fun w16 hr16 o16 => ?_
      replace hr16 : Blk w16 w14.heap.size [tr, br] _ := hr16
      have e16 : Ext w14 w16 := e15.only o16 (Nat.le_refl _)
      replace hr := hr.ext e16
      have e1216 := e14.trans e16
      have hp16 := (hp9.ext ex2).ext e1216
      obtain ⟨g5, k5⟩ := hr.int
      obtain ⟨g6, k6⟩ := hr.sts
      refine goS ?_
      refine WO_loadSB rfl hr16 rfl ?_
      refine goS ?_
      refine WO_loadSB rfl hp16 rfl ?_
      refine goS ?_
      refine WO_call rfl (ProgramSame_ret tr br tv bv tl tl l l _ _ _ _ w16 k5 k6 ((i9.ext ex2).ext e1216) ((j9.ext ex2).ext e1216)) ?_
      rintro _ w17 ⟨rfl, e17⟩
      rw [decide_eq_true ⟨rfl, rfl⟩]
      refine goS ?_
      exact at_ret1 rfl rfl ⟨rfl, fin _ ((he.trans e1216).trans e17)⟩
  · rw [decide_eq_false hok]
    refine goS ?_
    refine WO_loadSB rfl (hq9.ext ex) rfl ?_
    refine goS ?_
    refine WO_loadSB rfl (hs9.ext ex) rfl ?_
    refine goS ?_
    refine WO_call rfl (ProgramSame_ret tq bq ts bs _ _ _ _ _ _ _ _ w10 (k1.ext ex) (k2.ext ex) (k3.ext ex) (k4.ext ex)) ?_
    rintro _ w11 ⟨rfl, ey⟩
    rw [decide_eq_true ⟨rfl, rfl⟩]
    refine goS ?_
    exact at_ret1 rfl rfl ⟨rfl, fin _ ey⟩
end Go.Proofs.Ytpmgfokcbgdegaa
