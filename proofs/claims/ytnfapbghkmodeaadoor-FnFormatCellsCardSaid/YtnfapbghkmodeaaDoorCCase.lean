/-
  What is proved here: what the reference's drawn cases of cells are: some memory, some pointer.
-/
import Derived.Test.YtnfapbghkmodeaaDoorCDraw
namespace Go.Proofs.YtnfapbghkmodeaaDoor
set_option linter.unusedVariables false
set_option linter.unusedSimpArgs false
set_option linter.unnecessarySimpa false
open Go.RowKit

/-- Worlds that agree below a place. -/
theorem NewCells.rebase {e eT : TypeId} {l : List Ce} {w w' w'' : World} {v : Value} {G : List Nat} (h : NewCells e eT l w v w') (c : Chg G w' w'') (hG : ∀ x ∈ G, x < w.heap.size) : ∃ W0, W0.heap.size = w.heap.size ∧ NewCells e eT l W0 v w'' := by
  obtain ⟨⟨F, h1, h2, h3⟩, h4⟩ := h
  have s1 := h4.size_le
  have s2 := c.size
  have hs : (w''.heap.extract 0 w.heap.size).size = w.heap.size := by simp; omega
  refine ⟨{ w'' with heap := w''.heap.extract 0 w.heap.size }, hs, ⟨F, h1.chg c (fun x hx hm => by have := h3 x hx; have := hG x hm; omega), h2, fun b hb => by show (w''.heap.extract 0 w.heap.size).size ≤ b; rw [hs]; exact h3 b hb⟩, rfl, rfl, rfl, ?_, ?_⟩
  · show (w''.heap.extract 0 w.heap.size).size ≤ _
    rw [hs]; omega
  · intro i hi
    replace hi : i < (w''.heap.extract 0 w.heap.size).size := hi
    rw [hs] at hi
    show w''.heap[i]? = (w''.heap.extract 0 w.heap.size)[i]?
    rw [Array.getElem?_extract]
    rw [if_pos (by omega)]
    simp
theorem blkC {w : World} {b : Nat} {cs : List Value} {ty : TypeId} (hb : Blk w b cs ty) : ∀ (j : Nat) u, cs[j]? = some u → w.cell? ⟨b, 0 + j, none⟩ = some u := fun j u hu => by rw [Nat.zero_add]; exact hb.cell hu
/-- Some memory that is not too large. -/
def AnyM (B : Nat) (w : World) (v : Value) : Prop := ∃ m F, CeS w v m F ∧ cSize m ≤ 1048576 ∧ ∀ x ∈ F, B ≤ x ∧ x < w.heap.size
/-- What stands behind the region that appends a tag. -/
def MutB (rb q : Nat) (e eT : TypeId) (W0 : World) (v : Value) (m : List Ce) (w w' : World) : Prop :=
  ∃ m', NewCells e eT m' W0 v w' ∧ cSize m' ≤ 1048576 ∧ RdU w' rb q ∧ Chg [rb] W0 w'
theorem l6Mutate_ret (rb q : Nat) (vm : Value) (m : List Ce) (w : World) (hr : RdU w rb q) (hq : q ≤ 1000000000) (hD : DrM w [rb] vm m) :
    Ret Tryd.prog 42 [.pointer (some ⟨rb, 0, none⟩), vm] w fun r w' => AnyM w.heap.size w' r ∧ RdU w' rb (q + 3) ∧ Chg [rb] w w' := by
  obtain ⟨Fm, hm, hFm, hok, hl⟩ := hD
  have hrw := hr.lt
  refine enter Tryd.func42 rfl Tryd.ntmps42 rfl rfl ?_
  refine goS ?_
  refine WO_call rfl (l6Copy_ret vm m Fm w hm (cells_size hok)) ?_
  rintro vo w1 hrow
  have hN1 : NewCells 43 54 m w vo w1 := NewRow.cells hrow
  clear hrow
  have e1 := hN1.2
  obtain ⟨A, c, rfl⟩ := hN1.sl
  refine goS ?_
  refine WO_call rfl (pickU_ret rb q (m.length : Int) w1 (hr.ext e1) (by omega) (by omega)) ?_
  rintro _ w2 ⟨k, rfl, hk, hr2, c2⟩
  have hkm : k < m.length := by omega
  refine goS ?_
  refine WO_call rfl (pickU_ret rb (q + 1) 24 w2 hr2 (by omega) (by decide)) ?_
  rintro _ w3 ⟨k24, rfl, hk24, hr3, c3⟩
  obtain ⟨W0, hW0, hN⟩ := hN1.rebase (c2.trans c3) (by simp; exact hrw)
  have c03 : Chg [rb] w w3 := (e1.chg _).trans (c2.trans c3)
  have hW3 := hN.2.size_le
  have hmem := List.getElem_mem hkm
  have hcok := hok.2 _ hmem
  have hsl := hcok.2.2.1.2
  by_cases h0 : k24 = 0
  · subst h0
    refine goS ?_
    refine WO_ints [10, -1, 3] rfl rfl (by decide) (by decide) fun w4 hi4 e4 z4 => ?_
    refine WO_call rfl (numU_ret rb (q + 2) _ [10, -1, 3] _ w4 (hr3.ext e4) (by omega) hi4.int (by decide) (by have := hr3.lt; simp; omega)) ?_
    rintro _ w5 ⟨z, hz, rfl, hr5, c5⟩
    obtain ⟨W1, hW1, hM⟩ := (hN.ext e4).rebase c5 (by simp; omega)
    obtain ⟨g, cap, cs, hv, hb, hlen, hg, f1, f2, f3⟩ := hM.setF hkm
    cases hv
    refine goS ?_
    refine Z83 (j := k) rfl rfl rfl hkm ?_
    refine goS ?_
    refine WO_store1 rfl rfl rfl hb (by omega) fun w6 hb6 o6 => ?_
    simp only [Nat.zero_add] at hb6
    have hNE := f1 w6 z hb6 o6
    have hc := hNE.ces
    obtain ⟨F', q1, q2⟩ := hc
    refine goS ?_
    refine at_ret1 rfl rfl ⟨⟨_, F', q1, set_small hok (by simp only; omega), fun b hb => by have := q2 b hb; omega⟩, hr5.chg o6.chg (by simp; omega), ((c03.trans (e4.chg _)).trans c5).fresh o6.chg (by simp; omega)⟩
  · by_cases h1 : k24 = 1
    · subst h1
      refine goS ?_
      obtain ⟨g, cap, cs, vs, Fc, hv, hg, hb, hlen, _, _, _, _, _, _, _, hup⟩ := hN.setSt hkm
      cases hv
      have hgl := hb.lt
      refine WO_build0 (e := 54) (k := 2) fun w4 hb4 e4 z4 => ?_
      refine goS ?_
      refine Z83 (j := k) rfl rfl rfl hkm ?_
      refine goS ?_
      refine WO_store1 rfl rfl rfl (hb.ext e4) (by omega) fun w6 hb6 o6 => ?_
      simp only [Nat.zero_add] at hb6
      have hNE := hup w6 _ [] [w3.heap.size] hb6 ⟨owns_empty (hb4.only o6 (by omega)) (Nat.zero_le _), rfl⟩ ((e4.chg _).trans (o6.chg.mono (by simp))) (by simp)
      have hc := hNE.ces
      obtain ⟨F', q1, q2⟩ := hc
      refine goS ?_
      refine at_ret1 rfl rfl ⟨⟨_, F', q1, set_small hok (by simp only; simp), fun b hb => by have := q2 b hb; omega⟩, ((hr3.ext e4).chg o6.chg (by simp; omega)).mono (by omega), (c03.trans (e4.chg _)).fresh o6.chg (by simp; omega)⟩
    · by_cases h2 : k24 = 2
      · subst h2
        refine goS ?_
        obtain ⟨g, cap, cs, vs, Fc, hv, hg, hb, hlen, _, _, _, k3, hrt, hgF, hFc, hup⟩ := hN.setSt hkm
        cases hv
        have hgl := hb.lt
        have hFl := hrt.lt
        obtain ⟨As, cS, rfl, hlc⟩ := hrt.slice
        have hft := hrt.foot
        have hrl := hr3.lt
        refine W_held0 (rb :: g :: Fc) [(0, .pointer (some ⟨rb, 0, none⟩)), (5, .slice (some ⟨g, 0, none⟩) m.length c), (6, .int .i64 (k : Int))] (fun w' => (∃ z W1, W1.heap.size = w.heap.size ∧ NewCells 43 54 (m.set k ⟨m[k].val, m[k].al, m[k].nx, m[k].st ++ [⟨z, false⟩]⟩) W1 (.slice (some ⟨g, 0, none⟩) m.length c) w') ∧ RdU w' rb (q + 3) ∧ Chg [rb] w w') (by kernel_rfl) (fun ws es hS => ?_) (fun w7 hR => ?_)
        · have hss := es.size_le
          have hbs := hb.ext es
          have cell0 : ws.cell? ⟨g, 0 + k * 4 + 3, none⟩ = some (.slice As m[k].st.length cS) := by rw [Nat.zero_add]; exact hbs.cell k3
          have hrbF : rb ∉ Fc := fun hm => by have := hFc _ hm; omega
          have hgrb : g ≠ rb := by omega
          first | refine Z82 0 rfl (by kernel_rfl) (by kernel_rfl) (by kernel_rfl) (by assumption) (fun w' hw' => Z56 rfl) ?_ | refine Z82 0 rfl (by kernel_rfl) (by kernel_rfl) (by kernel_rfl) (by assumption) (fun w' hw' => Z63 rfl rfl) ?_ | refine Z82 0 rfl (by kernel_rfl) (by kernel_rfl) (by kernel_rfl) (by assumption) (fun w' hw' => Z64 rfl rfl) ?_ | refine Z82 0 rfl (by kernel_rfl) (by kernel_rfl) (by kernel_rfl) (by assumption) (fun w' hw' => Z75 rfl rfl (by omega)) ?_ | refine Z82 0 rfl (by kernel_rfl) (by kernel_rfl) (by kernel_rfl) (by assumption) (fun w' hw' => Z72 rfl) ?_ | refine Z82 0 rfl (by kernel_rfl) (by kernel_rfl) (by kernel_rfl) (by assumption) (fun w' hw' => Z69 rfl rfl rfl (by omega)) ?_ | refine Z82 0 rfl (by kernel_rfl) (by kernel_rfl) (by kernel_rfl) (by assumption) (fun w' hw' => Z30 rfl (by rfl) (by simp only [Z84, List.set_cons_zero, List.set_cons_succ]; rfl)) ?_
          first | refine Z82 1 rfl (by kernel_rfl) (by kernel_rfl) (by kernel_rfl) (by assumption) (fun w' hw' => Z56 rfl) ?_ | refine Z82 1 rfl (by kernel_rfl) (by kernel_rfl) (by kernel_rfl) (by assumption) (fun w' hw' => Z63 rfl rfl) ?_ | refine Z82 1 rfl (by kernel_rfl) (by kernel_rfl) (by kernel_rfl) (by assumption) (fun w' hw' => Z64 rfl rfl) ?_ | refine Z82 1 rfl (by kernel_rfl) (by kernel_rfl) (by kernel_rfl) (by assumption) (fun w' hw' => Z75 rfl rfl (by omega)) ?_ | refine Z82 1 rfl (by kernel_rfl) (by kernel_rfl) (by kernel_rfl) (by assumption) (fun w' hw' => Z72 rfl) ?_ | refine Z82 1 rfl (by kernel_rfl) (by kernel_rfl) (by kernel_rfl) (by assumption) (fun w' hw' => Z69 rfl rfl rfl (by omega)) ?_ | refine Z82 1 rfl (by kernel_rfl) (by kernel_rfl) (by kernel_rfl) (by assumption) (fun w' hw' => Z30 rfl (by rfl) (by simp only [Z84, List.set_cons_zero, List.set_cons_succ]; rfl)) ?_
          first | refine Z82 2 rfl (by kernel_rfl) (by kernel_rfl) (by kernel_rfl) (by assumption) (fun w' hw' => Z56 rfl) ?_ | refine Z82 2 rfl (by kernel_rfl) (by kernel_rfl) (by kernel_rfl) (by assumption) (fun w' hw' => Z63 rfl rfl) ?_ | refine Z82 2 rfl (by kernel_rfl) (by kernel_rfl) (by kernel_rfl) (by assumption) (fun w' hw' => Z64 rfl rfl) ?_ | refine Z82 2 rfl (by kernel_rfl) (by kernel_rfl) (by kernel_rfl) (by assumption) (fun w' hw' => Z75 rfl rfl (by omega)) ?_ | refine Z82 2 rfl (by kernel_rfl) (by kernel_rfl) (by kernel_rfl) (by assumption) (fun w' hw' => Z72 rfl) ?_ | refine Z82 2 rfl (by kernel_rfl) (by kernel_rfl) (by kernel_rfl) (by assumption) (fun w' hw' => Z69 rfl rfl rfl (by omega)) ?_ | refine Z82 2 rfl (by kernel_rfl) (by kernel_rfl) (by kernel_rfl) (by assumption) (fun w' hw' => Z30 rfl (by rfl) (by simp only [Z84, List.set_cons_zero, List.set_cons_succ]; rfl)) ?_
          first | refine Z82 3 rfl (by kernel_rfl) (by kernel_rfl) (by kernel_rfl) (by assumption) (fun w' hw' => Z56 rfl) ?_ | refine Z82 3 rfl (by kernel_rfl) (by kernel_rfl) (by kernel_rfl) (by assumption) (fun w' hw' => Z63 rfl rfl) ?_ | refine Z82 3 rfl (by kernel_rfl) (by kernel_rfl) (by kernel_rfl) (by assumption) (fun w' hw' => Z64 rfl rfl) ?_ | refine Z82 3 rfl (by kernel_rfl) (by kernel_rfl) (by kernel_rfl) (by assumption) (fun w' hw' => Z75 rfl rfl (by omega)) ?_ | refine Z82 3 rfl (by kernel_rfl) (by kernel_rfl) (by kernel_rfl) (by assumption) (fun w' hw' => Z72 rfl) ?_ | refine Z82 3 rfl (by kernel_rfl) (by kernel_rfl) (by kernel_rfl) (by assumption) (fun w' hw' => Z69 rfl rfl rfl (by omega)) ?_ | refine Z82 3 rfl (by kernel_rfl) (by kernel_rfl) (by kernel_rfl) (by assumption) (fun w' hw' => Z30 rfl (by rfl) (by simp only [Z84, List.set_cons_zero, List.set_cons_succ]; rfl)) ?_
          refine Z82 4 rfl (by kernel_rfl) (by kernel_rfl) (by kernel_rfl) (by assumption) (fun w' hw' => Z69 (j := k) rfl rfl rfl hkm) ?_
          first | refine Z82 5 rfl (by kernel_rfl) (by kernel_rfl) (by kernel_rfl) (by assumption) (fun w' hw' => Z56 rfl) ?_ | refine Z82 5 rfl (by kernel_rfl) (by kernel_rfl) (by kernel_rfl) (by assumption) (fun w' hw' => Z63 rfl rfl) ?_ | refine Z82 5 rfl (by kernel_rfl) (by kernel_rfl) (by kernel_rfl) (by assumption) (fun w' hw' => Z64 rfl rfl) ?_ | refine Z82 5 rfl (by kernel_rfl) (by kernel_rfl) (by kernel_rfl) (by assumption) (fun w' hw' => Z75 rfl rfl (by omega)) ?_ | refine Z82 5 rfl (by kernel_rfl) (by kernel_rfl) (by kernel_rfl) (by assumption) (fun w' hw' => Z72 rfl) ?_ | refine Z82 5 rfl (by kernel_rfl) (by kernel_rfl) (by kernel_rfl) (by assumption) (fun w' hw' => Z69 rfl rfl rfl (by omega)) ?_ | refine Z82 5 rfl (by kernel_rfl) (by kernel_rfl) (by kernel_rfl) (by assumption) (fun w' hw' => Z30 rfl (by rfl) (by simp only [Z84, List.set_cons_zero, List.set_cons_succ]; rfl)) ?_
          first | refine Z82 7 rfl (by kernel_rfl) (by kernel_rfl) (by kernel_rfl) (by assumption) (fun w' hw' => Z56 rfl) ?_ | refine Z82 7 rfl (by kernel_rfl) (by kernel_rfl) (by kernel_rfl) (by assumption) (fun w' hw' => Z63 rfl rfl) ?_ | refine Z82 7 rfl (by kernel_rfl) (by kernel_rfl) (by kernel_rfl) (by assumption) (fun w' hw' => Z64 rfl rfl) ?_ | refine Z82 7 rfl (by kernel_rfl) (by kernel_rfl) (by kernel_rfl) (by assumption) (fun w' hw' => Z75 rfl rfl (by omega)) ?_ | refine Z82 7 rfl (by kernel_rfl) (by kernel_rfl) (by kernel_rfl) (by assumption) (fun w' hw' => Z72 rfl) ?_ | refine Z82 7 rfl (by kernel_rfl) (by kernel_rfl) (by kernel_rfl) (by assumption) (fun w' hw' => Z69 rfl rfl rfl (by omega)) ?_ | refine Z82 7 rfl (by kernel_rfl) (by kernel_rfl) (by kernel_rfl) (by assumption) (fun w' hw' => Z30 rfl (by rfl) (by simp only [Z84, List.set_cons_zero, List.set_cons_succ]; rfl)) ?_
          refine WH_two 6 8 rfl rfl (by kernel_rfl) ?_ ?_
          · refine Z11 rfl cell0 (Z31 (at_held hS ?_))
            refine WH_one 8 rfl (by kernel_rfl) (WO_ints [0, -1, 9, 1001] rfl rfl (by decide) (by decide) fun wa hi4 ea za => Z31 (at_held (ea.chg _) ?_))
            refine WH_one 9 rfl (by kernel_rfl) (WO_call rfl (numU_ret rb (q + 2) _ [0, -1, 9, 1001] _ wa ((hr3.ext es).ext ea) (by omega) hi4.int (by decide) (by simp; omega)) ?_)
            rintro _ wb ⟨z, hz, rfl, hr5, cb⟩
            have Sb : Chg (rb :: g :: Fc) ws wb := (ea.chg _).trans (cb.mono (by simp))
            refine Z31 (at_held Sb ?_)
            first | refine Z82 10 rfl (by kernel_rfl) (by kernel_rfl) (by kernel_rfl) (by assumption) (fun w' hw' => Z56 rfl) ?_ | refine Z82 10 rfl (by kernel_rfl) (by kernel_rfl) (by kernel_rfl) (by assumption) (fun w' hw' => Z63 rfl rfl) ?_ | refine Z82 10 rfl (by kernel_rfl) (by kernel_rfl) (by kernel_rfl) (by assumption) (fun w' hw' => Z64 rfl rfl) ?_ | refine Z82 10 rfl (by kernel_rfl) (by kernel_rfl) (by kernel_rfl) (by assumption) (fun w' hw' => Z75 rfl rfl (by omega)) ?_ | refine Z82 10 rfl (by kernel_rfl) (by kernel_rfl) (by kernel_rfl) (by assumption) (fun w' hw' => Z72 rfl) ?_ | refine Z82 10 rfl (by kernel_rfl) (by kernel_rfl) (by kernel_rfl) (by assumption) (fun w' hw' => Z69 rfl rfl rfl (by omega)) ?_ | refine Z82 10 rfl (by kernel_rfl) (by kernel_rfl) (by kernel_rfl) (by assumption) (fun w' hw' => Z30 rfl (by rfl) (by simp only [Z84, List.set_cons_zero, List.set_cons_succ]; rfl)) ?_
            refine WH_one 11 rfl (by kernel_rfl) (WO_build (e := 54) (k := 2) [.tmp 43] (vs := [.agg #[.int .i64 z, .bool false]]) (cs := [.int .i64 z, .bool false]) rfl rfl rfl (by decide) (by decide) (by simp [Value.cells]) (by simp [Value.cells]) fun wc hb7 ec zc => Z31 (at_held (Sb.trans (ec.chg _)) ?_))
            have sa := ea.size_le
            have sb := cb.size
            have sc := ec.size_le
            obtain ⟨W1, hW1, hMb⟩ := ((hN.ext es).ext ea).rebase cb (by simp; omega)
            obtain ⟨g', cap', cs', vs', Fc', hv', hg', hb', hlen', _, _, _, k3', hrtb, hgF', hFc', hup'⟩ := (hMb.ext ec).setSt hkm
            cases hv'
            have hcs : cs' = cs := by
              have h1 := (((hb.ext es).ext ea).chg cb (by simp; omega)).ext ec
              have h2 := h1.symm.trans hb'
              injection h2 with h2
              injection h2 with h2
              exact (congrArg Array.toList h2).symm
            subst hcs
            cases (k3.symm.trans k3')
            have hft' : Fc' = Fc := by rw [hrtb.foot, hft]
            subst hft'
            refine WH_one 12 rfl (by kernel_rfl) (WO_append (B := 0) (mm := 1) (m := m[k].st.length) (news := [.int .i64 z, .bool false]) rfl hrtb.own rfl rfl (blkC hb7) (by intro v hv; simp at hv; rcases hv with rfl | rfl <;> rfl) (Nat.zero_le _) (by decide) (by omega) (by decide) fun v3 wd k31 k32 k33 => Z31 (at_held ((Sb.trans (ec.chg _)).trans ((grown_chg k32).mono (by rw [← hft]; intro b hb; simp [hb]))) ?_))
            have hgd := grown_chg k32
            rw [← hft] at hgd
            have Sd : Chg (rb :: g :: Fc') ws wd := (Sb.trans (ec.chg _)).trans (hgd.mono (by intro b hb; simp [hb]))
            have hr3' : RowT 54 wd v3 (m[k].st ++ [⟨z, false⟩]) v3.ownBlock.toList := ⟨by rw [List.length_append, tagCells_append]; exact k31, rfl⟩
            have hone' : v3.oneCell' = true := by obtain ⟨_, _, rfl, _⟩ := hr3'.slice; rfl
            have hbd := hb'.chg hgd hgF
            refine Z82 13 rfl (by kernel_rfl) (by kernel_rfl) (by kernel_rfl) (by assumption) (fun w' hw' => Z69 (j := k) rfl rfl rfl hkm) ?_
            first | refine Z82 14 rfl (by kernel_rfl) (by kernel_rfl) (by kernel_rfl) (by assumption) (fun w' hw' => Z56 rfl) ?_ | refine Z82 14 rfl (by kernel_rfl) (by kernel_rfl) (by kernel_rfl) (by assumption) (fun w' hw' => Z63 rfl rfl) ?_ | refine Z82 14 rfl (by kernel_rfl) (by kernel_rfl) (by kernel_rfl) (by assumption) (fun w' hw' => Z64 rfl rfl) ?_ | refine Z82 14 rfl (by kernel_rfl) (by kernel_rfl) (by kernel_rfl) (by assumption) (fun w' hw' => Z75 rfl rfl (by omega)) ?_ | refine Z82 14 rfl (by kernel_rfl) (by kernel_rfl) (by kernel_rfl) (by assumption) (fun w' hw' => Z72 rfl) ?_ | refine Z82 14 rfl (by kernel_rfl) (by kernel_rfl) (by kernel_rfl) (by assumption) (fun w' hw' => Z69 rfl rfl rfl (by omega)) ?_ | refine Z82 14 rfl (by kernel_rfl) (by kernel_rfl) (by kernel_rfl) (by assumption) (fun w' hw' => Z30 rfl (by rfl) (by simp only [Z84, List.set_cons_zero, List.set_cons_succ]; rfl)) ?_
            have hv3 : ∀ b ∈ v3.ownBlock.toList, b ∈ Fc' ∨ wc.heap.size ≤ b := fun b hm => by
              rcases k33 with h | h
              · rw [h, ← hft] at hm; exact .inl hm
              · rw [h] at hm; simp at hm; exact .inr (by omega)
            have hgv : g ∉ v3.ownBlock.toList := fun hm => by
              rcases hv3 _ hm with h | h
              · exact hgF h
              · omega
            refine WH_one 15 rfl (by kernel_rfl) (WO_store1 rfl rfl hone' hbd (by omega) fun we hbe oe => Z31 (at_held (Sd.trans (oe.chg.mono (by simp))) ?_))
            simp only [Nat.zero_add] at hbe
            refine WH_done (by kernel_rfl) (by repeat (first | exact True.intro | refine And.intro rfl ?_)) ⟨⟨z, W1, by omega, hup' we v3 _ _ hbe (hr3'.chg oe.chg (fun z hz hm => by simp only [List.mem_singleton] at hm; subst hm; exact hgv hz)) ((hgd.mono (by intro b hb; simp [hb])).trans (oe.chg.mono (by simp))) hv3⟩, ?_, ?_⟩
            · exact (((hr5.ext ec).chg hgd (fun b hb => by have := hFc b hb; omega)).chg oe.chg (by simp; omega)).mono (by omega)
            · exact (((((c03.trans (es.chg _)).trans (ea.chg _)).trans cb).trans (ec.chg _)).fresh hgd (fun b hb => .inr (by have := hFc b hb; omega))).fresh oe.chg (by simp; omega)
          · refine WO_ints [0, -1, 9, 1001] rfl rfl (by decide) (by decide) fun wa hi4 ea za => Z31 (at_held (ea.chg _) ?_)
            refine WH_two 6 9 rfl rfl (by kernel_rfl) ?_ ?_
            · refine Z11 rfl (cell_ext cell0 ea) (Z31 (at_held (ea.chg _) ?_))
              refine WH_one 9 rfl (by kernel_rfl) (WO_call rfl (numU_ret rb (q + 2) _ [0, -1, 9, 1001] _ wa ((hr3.ext es).ext ea) (by omega) hi4.int (by decide) (by simp; omega)) ?_)
              rintro _ wb ⟨z, hz, rfl, hr5, cb⟩
              have Sb : Chg (rb :: g :: Fc) ws wb := (ea.chg _).trans (cb.mono (by simp))
              refine Z31 (at_held Sb ?_)
              first | refine Z82 10 rfl (by kernel_rfl) (by kernel_rfl) (by kernel_rfl) (by assumption) (fun w' hw' => Z56 rfl) ?_ | refine Z82 10 rfl (by kernel_rfl) (by kernel_rfl) (by kernel_rfl) (by assumption) (fun w' hw' => Z63 rfl rfl) ?_ | refine Z82 10 rfl (by kernel_rfl) (by kernel_rfl) (by kernel_rfl) (by assumption) (fun w' hw' => Z64 rfl rfl) ?_ | refine Z82 10 rfl (by kernel_rfl) (by kernel_rfl) (by kernel_rfl) (by assumption) (fun w' hw' => Z75 rfl rfl (by omega)) ?_ | refine Z82 10 rfl (by kernel_rfl) (by kernel_rfl) (by kernel_rfl) (by assumption) (fun w' hw' => Z72 rfl) ?_ | refine Z82 10 rfl (by kernel_rfl) (by kernel_rfl) (by kernel_rfl) (by assumption) (fun w' hw' => Z69 rfl rfl rfl (by omega)) ?_ | refine Z82 10 rfl (by kernel_rfl) (by kernel_rfl) (by kernel_rfl) (by assumption) (fun w' hw' => Z30 rfl (by rfl) (by simp only [Z84, List.set_cons_zero, List.set_cons_succ]; rfl)) ?_
              refine WH_one 11 rfl (by kernel_rfl) (WO_build (e := 54) (k := 2) [.tmp 43] (vs := [.agg #[.int .i64 z, .bool false]]) (cs := [.int .i64 z, .bool false]) rfl rfl rfl (by decide) (by decide) (by simp [Value.cells]) (by simp [Value.cells]) fun wc hb7 ec zc => Z31 (at_held (Sb.trans (ec.chg _)) ?_))
              have sa := ea.size_le
              have sb := cb.size
              have sc := ec.size_le
              obtain ⟨W1, hW1, hMb⟩ := ((hN.ext es).ext ea).rebase cb (by simp; omega)
              obtain ⟨g', cap', cs', vs', Fc', hv', hg', hb', hlen', _, _, _, k3', hrtb, hgF', hFc', hup'⟩ := (hMb.ext ec).setSt hkm
              cases hv'
              have hcs : cs' = cs := by
                have h1 := (((hb.ext es).ext ea).chg cb (by simp; omega)).ext ec
                have h2 := h1.symm.trans hb'
                injection h2 with h2
                injection h2 with h2
                exact (congrArg Array.toList h2).symm
              subst hcs
              cases (k3.symm.trans k3')
              have hft' : Fc' = Fc := by rw [hrtb.foot, hft]
              subst hft'
              refine WH_one 12 rfl (by kernel_rfl) (WO_append (B := 0) (mm := 1) (m := m[k].st.length) (news := [.int .i64 z, .bool false]) rfl hrtb.own rfl rfl (blkC hb7) (by intro v hv; simp at hv; rcases hv with rfl | rfl <;> rfl) (Nat.zero_le _) (by decide) (by omega) (by decide) fun v3 wd k31 k32 k33 => Z31 (at_held ((Sb.trans (ec.chg _)).trans ((grown_chg k32).mono (by rw [← hft]; intro b hb; simp [hb]))) ?_))
              have hgd := grown_chg k32
              rw [← hft] at hgd
              have Sd : Chg (rb :: g :: Fc') ws wd := (Sb.trans (ec.chg _)).trans (hgd.mono (by intro b hb; simp [hb]))
              have hr3' : RowT 54 wd v3 (m[k].st ++ [⟨z, false⟩]) v3.ownBlock.toList := ⟨by rw [List.length_append, tagCells_append]; exact k31, rfl⟩
              have hone' : v3.oneCell' = true := by obtain ⟨_, _, rfl, _⟩ := hr3'.slice; rfl
              have hbd := hb'.chg hgd hgF
              refine Z82 13 rfl (by kernel_rfl) (by kernel_rfl) (by kernel_rfl) (by assumption) (fun w' hw' => Z69 (j := k) rfl rfl rfl hkm) ?_
              first | refine Z82 14 rfl (by kernel_rfl) (by kernel_rfl) (by kernel_rfl) (by assumption) (fun w' hw' => Z56 rfl) ?_ | refine Z82 14 rfl (by kernel_rfl) (by kernel_rfl) (by kernel_rfl) (by assumption) (fun w' hw' => Z63 rfl rfl) ?_ | refine Z82 14 rfl (by kernel_rfl) (by kernel_rfl) (by kernel_rfl) (by assumption) (fun w' hw' => Z64 rfl rfl) ?_ | refine Z82 14 rfl (by kernel_rfl) (by kernel_rfl) (by kernel_rfl) (by assumption) (fun w' hw' => Z75 rfl rfl (by omega)) ?_ | refine Z82 14 rfl (by kernel_rfl) (by kernel_rfl) (by kernel_rfl) (by assumption) (fun w' hw' => Z72 rfl) ?_ | refine Z82 14 rfl (by kernel_rfl) (by kernel_rfl) (by kernel_rfl) (by assumption) (fun w' hw' => Z69 rfl rfl rfl (by omega)) ?_ | refine Z82 14 rfl (by kernel_rfl) (by kernel_rfl) (by kernel_rfl) (by assumption) (fun w' hw' => Z30 rfl (by rfl) (by simp only [Z84, List.set_cons_zero, List.set_cons_succ]; rfl)) ?_
              have hv3 : ∀ b ∈ v3.ownBlock.toList, b ∈ Fc' ∨ wc.heap.size ≤ b := fun b hm => by
                rcases k33 with h | h
                · rw [h, ← hft] at hm; exact .inl hm
                · rw [h] at hm; simp at hm; exact .inr (by omega)
              have hgv : g ∉ v3.ownBlock.toList := fun hm => by
                rcases hv3 _ hm with h | h
                · exact hgF h
                · omega
              refine WH_one 15 rfl (by kernel_rfl) (WO_store1 rfl rfl hone' hbd (by omega) fun we hbe oe => Z31 (at_held (Sd.trans (oe.chg.mono (by simp))) ?_))
              simp only [Nat.zero_add] at hbe
              refine WH_done (by kernel_rfl) (by repeat (first | exact True.intro | refine And.intro rfl ?_)) ⟨⟨z, W1, by omega, hup' we v3 _ _ hbe (hr3'.chg oe.chg (fun z hz hm => by simp only [List.mem_singleton] at hm; subst hm; exact hgv hz)) ((hgd.mono (by intro b hb; simp [hb])).trans (oe.chg.mono (by simp))) hv3⟩, ?_, ?_⟩
              · exact (((hr5.ext ec).chg hgd (fun b hb => by have := hFc b hb; omega)).chg oe.chg (by simp; omega)).mono (by omega)
              · exact (((((c03.trans (es.chg _)).trans (ea.chg _)).trans cb).trans (ec.chg _)).fresh hgd (fun b hb => .inr (by have := hFc b hb; omega))).fresh oe.chg (by simp; omega)
            · refine WO_call rfl (numU_ret rb (q + 2) _ [0, -1, 9, 1001] _ wa ((hr3.ext es).ext ea) (by omega) hi4.int (by decide) (by simp; omega)) ?_
              rintro _ wb ⟨z, hz, rfl, hr5, cb⟩
              have Sb : Chg (rb :: g :: Fc) ws wb := (ea.chg _).trans (cb.mono (by simp))
              refine Z31 (at_held Sb ?_)
              first | refine Z82 10 rfl (by kernel_rfl) (by kernel_rfl) (by kernel_rfl) (by assumption) (fun w' hw' => Z56 rfl) ?_ | refine Z82 10 rfl (by kernel_rfl) (by kernel_rfl) (by kernel_rfl) (by assumption) (fun w' hw' => Z63 rfl rfl) ?_ | refine Z82 10 rfl (by kernel_rfl) (by kernel_rfl) (by kernel_rfl) (by assumption) (fun w' hw' => Z64 rfl rfl) ?_ | refine Z82 10 rfl (by kernel_rfl) (by kernel_rfl) (by kernel_rfl) (by assumption) (fun w' hw' => Z75 rfl rfl (by omega)) ?_ | refine Z82 10 rfl (by kernel_rfl) (by kernel_rfl) (by kernel_rfl) (by assumption) (fun w' hw' => Z72 rfl) ?_ | refine Z82 10 rfl (by kernel_rfl) (by kernel_rfl) (by kernel_rfl) (by assumption) (fun w' hw' => Z69 rfl rfl rfl (by omega)) ?_ | refine Z82 10 rfl (by kernel_rfl) (by kernel_rfl) (by kernel_rfl) (by assumption) (fun w' hw' => Z30 rfl (by rfl) (by simp only [Z84, List.set_cons_zero, List.set_cons_succ]; rfl)) ?_
              refine WH_two 6 11 rfl rfl (by kernel_rfl) ?_ ?_
              · refine Z11 rfl (cell_chg (cell_ext cell0 ea) cb (by simp; omega)) (Z31 (at_held Sb ?_))
                refine WH_one 11 rfl (by kernel_rfl) (WO_build (e := 54) (k := 2) [.tmp 43] (vs := [.agg #[.int .i64 z, .bool false]]) (cs := [.int .i64 z, .bool false]) rfl rfl rfl (by decide) (by decide) (by simp [Value.cells]) (by simp [Value.cells]) fun wc hb7 ec zc => Z31 (at_held (Sb.trans (ec.chg _)) ?_))
                have sa := ea.size_le
                have sb := cb.size
                have sc := ec.size_le
                obtain ⟨W1, hW1, hMb⟩ := ((hN.ext es).ext ea).rebase cb (by simp; omega)
                obtain ⟨g', cap', cs', vs', Fc', hv', hg', hb', hlen', _, _, _, k3', hrtb, hgF', hFc', hup'⟩ := (hMb.ext ec).setSt hkm
                cases hv'
                have hcs : cs' = cs := by
                  have h1 := (((hb.ext es).ext ea).chg cb (by simp; omega)).ext ec
                  have h2 := h1.symm.trans hb'
                  injection h2 with h2
                  injection h2 with h2
                  exact (congrArg Array.toList h2).symm
                subst hcs
                cases (k3.symm.trans k3')
                have hft' : Fc' = Fc := by rw [hrtb.foot, hft]
                subst hft'
                refine WH_one 12 rfl (by kernel_rfl) (WO_append (B := 0) (mm := 1) (m := m[k].st.length) (news := [.int .i64 z, .bool false]) rfl hrtb.own rfl rfl (blkC hb7) (by intro v hv; simp at hv; rcases hv with rfl | rfl <;> rfl) (Nat.zero_le _) (by decide) (by omega) (by decide) fun v3 wd k31 k32 k33 => Z31 (at_held ((Sb.trans (ec.chg _)).trans ((grown_chg k32).mono (by rw [← hft]; intro b hb; simp [hb]))) ?_))
                have hgd := grown_chg k32
                rw [← hft] at hgd
                have Sd : Chg (rb :: g :: Fc') ws wd := (Sb.trans (ec.chg _)).trans (hgd.mono (by intro b hb; simp [hb]))
                have hr3' : RowT 54 wd v3 (m[k].st ++ [⟨z, false⟩]) v3.ownBlock.toList := ⟨by rw [List.length_append, tagCells_append]; exact k31, rfl⟩
                have hone' : v3.oneCell' = true := by obtain ⟨_, _, rfl, _⟩ := hr3'.slice; rfl
                have hbd := hb'.chg hgd hgF
                refine Z82 13 rfl (by kernel_rfl) (by kernel_rfl) (by kernel_rfl) (by assumption) (fun w' hw' => Z69 (j := k) rfl rfl rfl hkm) ?_
                first | refine Z82 14 rfl (by kernel_rfl) (by kernel_rfl) (by kernel_rfl) (by assumption) (fun w' hw' => Z56 rfl) ?_ | refine Z82 14 rfl (by kernel_rfl) (by kernel_rfl) (by kernel_rfl) (by assumption) (fun w' hw' => Z63 rfl rfl) ?_ | refine Z82 14 rfl (by kernel_rfl) (by kernel_rfl) (by kernel_rfl) (by assumption) (fun w' hw' => Z64 rfl rfl) ?_ | refine Z82 14 rfl (by kernel_rfl) (by kernel_rfl) (by kernel_rfl) (by assumption) (fun w' hw' => Z75 rfl rfl (by omega)) ?_ | refine Z82 14 rfl (by kernel_rfl) (by kernel_rfl) (by kernel_rfl) (by assumption) (fun w' hw' => Z72 rfl) ?_ | refine Z82 14 rfl (by kernel_rfl) (by kernel_rfl) (by kernel_rfl) (by assumption) (fun w' hw' => Z69 rfl rfl rfl (by omega)) ?_ | refine Z82 14 rfl (by kernel_rfl) (by kernel_rfl) (by kernel_rfl) (by assumption) (fun w' hw' => Z30 rfl (by rfl) (by simp only [Z84, List.set_cons_zero, List.set_cons_succ]; rfl)) ?_
                have hv3 : ∀ b ∈ v3.ownBlock.toList, b ∈ Fc' ∨ wc.heap.size ≤ b := fun b hm => by
                  rcases k33 with h | h
                  · rw [h, ← hft] at hm; exact .inl hm
                  · rw [h] at hm; simp at hm; exact .inr (by omega)
                have hgv : g ∉ v3.ownBlock.toList := fun hm => by
                  rcases hv3 _ hm with h | h
                  · exact hgF h
                  · omega
                refine WH_one 15 rfl (by kernel_rfl) (WO_store1 rfl rfl hone' hbd (by omega) fun we hbe oe => Z31 (at_held (Sd.trans (oe.chg.mono (by simp))) ?_))
                simp only [Nat.zero_add] at hbe
                refine WH_done (by kernel_rfl) (by repeat (first | exact True.intro | refine And.intro rfl ?_)) ⟨⟨z, W1, by omega, hup' we v3 _ _ hbe (hr3'.chg oe.chg (fun z hz hm => by simp only [List.mem_singleton] at hm; subst hm; exact hgv hz)) ((hgd.mono (by intro b hb; simp [hb])).trans (oe.chg.mono (by simp))) hv3⟩, ?_, ?_⟩
                · exact (((hr5.ext ec).chg hgd (fun b hb => by have := hFc b hb; omega)).chg oe.chg (by simp; omega)).mono (by omega)
                · exact (((((c03.trans (es.chg _)).trans (ea.chg _)).trans cb).trans (ec.chg _)).fresh hgd (fun b hb => .inr (by have := hFc b hb; omega))).fresh oe.chg (by simp; omega)
              · refine WO_build (e := 54) (k := 2) [.tmp 43] (vs := [.agg #[.int .i64 z, .bool false]]) (cs := [.int .i64 z, .bool false]) rfl rfl rfl (by decide) (by decide) (by simp [Value.cells]) (by simp [Value.cells]) fun wc hb7 ec zc => Z31 (at_held (Sb.trans (ec.chg _)) ?_)
                refine WH_one 6 rfl (by kernel_rfl) (Z11 rfl (cell_ext (cell_chg (cell_ext cell0 ea) cb (by simp; omega)) ec) (Z31 (at_held (Sb.trans (ec.chg _)) ?_)))
                have sa := ea.size_le
                have sb := cb.size
                have sc := ec.size_le
                obtain ⟨W1, hW1, hMb⟩ := ((hN.ext es).ext ea).rebase cb (by simp; omega)
                obtain ⟨g', cap', cs', vs', Fc', hv', hg', hb', hlen', _, _, _, k3', hrtb, hgF', hFc', hup'⟩ := (hMb.ext ec).setSt hkm
                cases hv'
                have hcs : cs' = cs := by
                  have h1 := (((hb.ext es).ext ea).chg cb (by simp; omega)).ext ec
                  have h2 := h1.symm.trans hb'
                  injection h2 with h2
                  injection h2 with h2
                  exact (congrArg Array.toList h2).symm
                subst hcs
                cases (k3.symm.trans k3')
                have hft' : Fc' = Fc := by rw [hrtb.foot, hft]
                subst hft'
                refine WH_one 12 rfl (by kernel_rfl) (WO_append (B := 0) (mm := 1) (m := m[k].st.length) (news := [.int .i64 z, .bool false]) rfl hrtb.own rfl rfl (blkC hb7) (by intro v hv; simp at hv; rcases hv with rfl | rfl <;> rfl) (Nat.zero_le _) (by decide) (by omega) (by decide) fun v3 wd k31 k32 k33 => Z31 (at_held ((Sb.trans (ec.chg _)).trans ((grown_chg k32).mono (by rw [← hft]; intro b hb; simp [hb]))) ?_))
                have hgd := grown_chg k32
                rw [← hft] at hgd
                have Sd : Chg (rb :: g :: Fc') ws wd := (Sb.trans (ec.chg _)).trans (hgd.mono (by intro b hb; simp [hb]))
                have hr3' : RowT 54 wd v3 (m[k].st ++ [⟨z, false⟩]) v3.ownBlock.toList := ⟨by rw [List.length_append, tagCells_append]; exact k31, rfl⟩
                have hone' : v3.oneCell' = true := by obtain ⟨_, _, rfl, _⟩ := hr3'.slice; rfl
                have hbd := hb'.chg hgd hgF
                refine Z82 13 rfl (by kernel_rfl) (by kernel_rfl) (by kernel_rfl) (by assumption) (fun w' hw' => Z69 (j := k) rfl rfl rfl hkm) ?_
                first | refine Z82 14 rfl (by kernel_rfl) (by kernel_rfl) (by kernel_rfl) (by assumption) (fun w' hw' => Z56 rfl) ?_ | refine Z82 14 rfl (by kernel_rfl) (by kernel_rfl) (by kernel_rfl) (by assumption) (fun w' hw' => Z63 rfl rfl) ?_ | refine Z82 14 rfl (by kernel_rfl) (by kernel_rfl) (by kernel_rfl) (by assumption) (fun w' hw' => Z64 rfl rfl) ?_ | refine Z82 14 rfl (by kernel_rfl) (by kernel_rfl) (by kernel_rfl) (by assumption) (fun w' hw' => Z75 rfl rfl (by omega)) ?_ | refine Z82 14 rfl (by kernel_rfl) (by kernel_rfl) (by kernel_rfl) (by assumption) (fun w' hw' => Z72 rfl) ?_ | refine Z82 14 rfl (by kernel_rfl) (by kernel_rfl) (by kernel_rfl) (by assumption) (fun w' hw' => Z69 rfl rfl rfl (by omega)) ?_ | refine Z82 14 rfl (by kernel_rfl) (by kernel_rfl) (by kernel_rfl) (by assumption) (fun w' hw' => Z30 rfl (by rfl) (by simp only [Z84, List.set_cons_zero, List.set_cons_succ]; rfl)) ?_
                have hv3 : ∀ b ∈ v3.ownBlock.toList, b ∈ Fc' ∨ wc.heap.size ≤ b := fun b hm => by
                  rcases k33 with h | h
                  · rw [h, ← hft] at hm; exact .inl hm
                  · rw [h] at hm; simp at hm; exact .inr (by omega)
                have hgv : g ∉ v3.ownBlock.toList := fun hm => by
                  rcases hv3 _ hm with h | h
                  · exact hgF h
                  · omega
                refine WH_one 15 rfl (by kernel_rfl) (WO_store1 rfl rfl hone' hbd (by omega) fun we hbe oe => Z31 (at_held (Sd.trans (oe.chg.mono (by simp))) ?_))
                simp only [Nat.zero_add] at hbe
                refine WH_done (by kernel_rfl) (by repeat (first | exact True.intro | refine And.intro rfl ?_)) ⟨⟨z, W1, by omega, hup' we v3 _ _ hbe (hr3'.chg oe.chg (fun z hz hm => by simp only [List.mem_singleton] at hm; subst hm; exact hgv hz)) ((hgd.mono (by intro b hb; simp [hb])).trans (oe.chg.mono (by simp))) hv3⟩, ?_, ?_⟩
                · exact (((hr5.ext ec).chg hgd (fun b hb => by have := hFc b hb; omega)).chg oe.chg (by simp; omega)).mono (by omega)
                · exact (((((c03.trans (es.chg _)).trans (ea.chg _)).trans cb).trans (ec.chg _)).fresh hgd (fun b hb => .inr (by have := hFc b hb; omega))).fresh oe.chg (by simp; omega)
        · obtain ⟨⟨z, W1, hW1, hNE⟩, r1, r2⟩ := hR
          have hc := hNE.ces
          obtain ⟨F', q1, q2⟩ := hc
          refine goS ?_
          refine at_ret1 rfl rfl ⟨⟨_, F', q1, set_small hok (by simp only; simp; omega), fun b hb => by have := q2 b hb; omega⟩, r1, r2⟩
      · by_cases h3 : k24 = 3
        · subst h3
          refine goS ?_
          obtain ⟨g, cap, cs, vs, Fc, hv, hg, hb, hlen, c0', c1', _, _, _, _, _, _⟩ := hN.upd hkm
          obtain ⟨g', cap', cs', hv', hb', hlen', hg', f1, f2, f3⟩ := hN.setF hkm
          cases hv
          cases hv'
          cases (hb.symm.trans hb')
          refine goS ?_
          refine Z83 (j := k) rfl rfl rfl hkm ?_
          refine goS ?_
          refine Z11 rfl (by rw [Nat.zero_add]; exact hb.cell c1') ?_
          refine goS ?_
          refine Z83 (j := k) rfl rfl rfl hkm ?_
          refine goS ?_
          refine WO_store1 rfl rfl rfl hb (by omega) fun w6 hb6 o6 => ?_
          simp only [Nat.zero_add] at hb6
          have hNE := f2 w6 _ hb6 o6
          have hc := hNE.ces
          obtain ⟨F', q1, q2⟩ := hc
          refine goS ?_
          refine at_ret1 rfl rfl ⟨⟨_, F', q1, set_small hok (by simp only; omega), fun b hb => by have := q2 b hb; omega⟩, (hr3.chg o6.chg (by simp; omega)).mono (by omega), c03.fresh o6.chg (by simp; omega)⟩
        · by_cases h4 : k24 = 4
          · subst h4
            refine goS ?_
            refine WO_ints [0, 1, 1000, 1001] rfl rfl (by decide) (by decide) fun w4 hi4 e4 z4 => ?_
            refine WO_call rfl (numU_ret rb (q + 2) _ [0, 1, 1000, 1001] _ w4 (hr3.ext e4) (by omega) hi4.int (by decide) (by have := hr3.lt; simp; omega)) ?_
            rintro _ w5 ⟨z, hz, rfl, hr5, c5⟩
            obtain ⟨W1, hW1, hM⟩ := (hN.ext e4).rebase c5 (by simp; omega)
            obtain ⟨g, cap, cs, hv, hb, hlen, hg, f1, f2, f3⟩ := hM.setF hkm
            cases hv
            refine goS ?_
            refine Z83 (j := k) rfl rfl rfl hkm ?_
            refine goS ?_
            refine WO_store1 rfl rfl rfl hb (by omega) fun w6 hb6 o6 => ?_
            simp only [Nat.zero_add] at hb6
            have hNE := f3 w6 z hb6 o6
            have hc := hNE.ces
            obtain ⟨F', q1, q2⟩ := hc
            refine goS ?_
            refine at_ret1 rfl rfl ⟨⟨_, F', q1, set_small hok (by simp only; omega), fun b hb => by have := q2 b hb; omega⟩, hr5.chg o6.chg (by simp; omega), ((c03.trans (e4.chg _)).trans c5).fresh o6.chg (by simp; omega)⟩
          · have hne : ∀ j : Int, j ∈ [0, 1, 2, 3, 4] → ((k24 : Int) == j) = false := by intro j hj; simp at hj ⊢; omega
            refine goS ?_
            refine Z50 rfl (hne 0 (by simp)) ?_
            refine goS ?_
            refine Z50 rfl (hne 1 (by simp)) ?_
            refine goS ?_
            refine Z50 rfl (hne 2 (by simp)) ?_
            refine goS ?_
            refine Z50 rfl (hne 3 (by simp)) ?_
            refine goS ?_
            refine Z50 rfl (hne 4 (by simp)) ?_
            refine goS ?_
            obtain ⟨F', q1, q2⟩ := hN.ces
            exact at_ret1 rfl rfl ⟨⟨_, F', q1, cells_size hok, fun b hb => by have := q2 b hb; omega⟩, hr3.mono (by omega), c03⟩
def CaseP (w : World) (r : Value) (w' : World) : Prop := ∃ vm x, r = .tuple #[vm, ptV x] ∧ AnyM w.heap.size w' vm ∧ Ext w w'
def CaseB (xb : Nat) (x : Pt) (ty : TypeId) (w : World) (τ : Env) (w' : World) : Prop := ∃ vm, τ = [(2, vm), (3, .pointer (some ⟨xb, 0, none⟩))] ∧ AnyM w.heap.size w' vm ∧ Blk w' xb [.int .i64 x.cell, .int .i64 x.tag] ty ∧ Ext w w'
theorem AnyM.chg {B B' : Nat} {w w' : World} {v : Value} {G : List Nat} (h : AnyM B w v) (c : Chg G w w') (hG : ∀ x ∈ G, x < B ∨ w.heap.size ≤ x) (hB : B' ≤ B) : AnyM B' w' v := by
  obtain ⟨m, F, h1, h2, h3⟩ := h
  exact ⟨m, F, h1.chg c (fun x hx hm => by have := h3 x hx; have := hG x hm; omega), h2, fun x hx => by have := h3 x hx; have := c.size; omega⟩
theorem AnyM.ext {B : Nat} {w w' : World} {v : Value} (h : AnyM B w v) (c : Ext w w') : AnyM B w' v := h.chg (c.chg []) (by simp) (Nat.le_refl _)
theorem DrM.more {w : World} {G G' : List Nat} {v : Value} {m : List Ce} (h : DrM w G v m) (hG : ∀ x ∈ G', x ∈ G ∨ w.heap.size ≤ x) : DrM w G' v m := by
  obtain ⟨F, h1, h2, h3⟩ := h
  refine ⟨F, h1, fun x hx => ⟨fun hm => ?_, (h2 x hx).2⟩, h3⟩
  rcases hG x hm with h | h
  · exact (h2 x hx).1 h
  · have := (h2 x hx).2; omega
theorem DrM.less {w : World} {G G' : List Nat} {v : Value} {m : List Ce} (h : DrM w G v m) (hG : ∀ x ∈ G', x ∈ G) : DrM w G' v m := h.more fun x hx => .inl (hG x hx)
theorem l6Case_ret (v : Value) (w : World) (hd : ByD w v) : Ret Tryd.prog 32 [v] w (CaseP w) := by
  refine enter Tryd.func32 rfl Tryd.ntmps32 rfl rfl ?_
  refine Z43 (Z44 (Z1 rfl (WO_alloc fun w1 hx e1 z1 => ?_)))
  replace hx : Blk w1 w.heap.size [.int .i64 0, .int .i64 0] _ := hx
  refine goS ?_
  refine WO_call rfl (l17Open_ret v w1 (hd.ext e1)) ?_
  rintro _ w2 ⟨rb, rfl, hrb, hr2, e2⟩
  have s1 := e1.size_le
  have hU2 : RdU w2 rb 0 := ⟨0, Nat.le_refl _, hr2⟩
  have hrw := hr2.lt
  refine goS ?_
  refine WO_call rfl (l6Draw_ret rb 0 w2 hU2 (by omega)) ?_
  rintro _ w3 ⟨vm, m, vl, l, rfl, hD, hl, hl0, hl1, hvl, hr3, c3⟩
  have hxlt := hx.lt
  have hx3 := (hx.ext e2).chg c3 (by simp; omega)
  obtain ⟨g0, cap0, rfl, _, _, _⟩ := hl.at_ (i := 0) hl0
  have hvb := hvl g0 rfl
  refine goS ?_
  refine WO_call rfl (pickU_ret rb _ (l.length : Int) w3 hr3 (by omega) (by omega)) ?_
  rintro _ w4 ⟨k, rfl, hk, hr4, c4⟩
  have hkl : k < l.length := by omega
  have hl4 := RowPt.chg hl c4 (by simp [Value.ownBlock]; omega)
  obtain ⟨g, cap, hvv, hgo, hglt, hcell⟩ := hl4.at_ hkl
  cases hvv
  refine goS ?_
  refine Z83 (j := k) rfl rfl rfl hkl ?_
  refine WO_loadS (cs := [.int .i64 l[k].cell, .int .i64 l[k].tag]) rfl rfl (fun j u hu => by rw [Nat.zero_add]; exact hcell j u hu) ?_
  refine WO_alloc fun wa hy ea za => ?_
  refine WO_storeS (k := 2) (vs := [.int .i64 l[k].cell, .int .i64 l[k].tag]) rfl rfl rfl (by intro v hv; simp at hv; rcases hv with rfl | rfl <;> rfl) hy (by decide) fun wb hyb ob => ?_
  replace hyb : Blk wb w4.heap.size [.int .i64 l[k].cell, .int .i64 l[k].tag] _ := hyb
  have eb : Ext w4 wb := ea.only ob (Nat.le_refl _)
  have hDb := ((hD.chg c4 (by simp)).more (G' := [rb, w4.heap.size]) (by simp)).ext eb
  have hxb := ((hx3.chg c4 (by simp; omega)).ext eb)
  have s2 := e2.size_le
  have s3 := c3.size
  have s4 := c4.size
  have sb := eb.size_le
  refine goS ?_
  refine WO_call rfl (pickU_ret rb _ 12 wb (hr4.ext eb) (by omega) (by decide)) ?_
  rintro _ wc ⟨k12, rfl, hk12, hrc, cc⟩
  have hDc := hDb.chg cc (by simp)
  have hxc := hxb.chg cc (by simp; omega)
  have hyc := hyb.chg cc (by simp; omega)
  have c2c : Chg [rb] w2 wc := ((c3.trans c4).trans (eb.chg _)).trans cc
  have s5 := cc.size
  by_cases h0 : k12 = 0
  · subst h0
    refine goS ?_
    refine WO_ints [0, 9, -1] rfl rfl (by decide) (by decide) fun wd hi4 ed zd => ?_
    have sd := ed.size_le
    refine WO_call rfl (numU_ret rb _ _ [0, 9, -1] _ wd (hrc.ext ed) (by omega) hi4.int (by decide) (by simp; omega)) ?_
    rintro _ w5 ⟨z, hz, rfl, hr5, c5⟩
    have hD5 := (hDc.ext ed).chg c5 (by simp)
    have hx5 := (hxc.ext ed).chg c5 (by simp; omega)
    have hy5 := (hyc.ext ed).chg c5 (by simp; omega)
    have s6 := c5.size
    refine goS ?_
    refine WO_store1 rfl rfl rfl hy5 (by simp) fun w6 hz6 o6 => ?_
    have hx6 := hx5.only o6 (by omega)
    have hD6 := hD5.chg o6.chg (by simp)
    have hr6 := hr5.chg o6.chg (by simp; omega)
    have c26 : Chg [rb] w2 w6 := ((c2c.trans (ed.chg _)).trans c5).fresh o6.chg (by simp; omega)
    have s7 := o6.size
    replace hz6 : Blk w6 w4.heap.size [.int .i64 l[k].cell, .int .i64 z] _ := hz6
    refine goS ?_
    refine W_held0E [rb, w.heap.size] (CaseB w.heap.size (⟨l[k].cell, z⟩ : Pt) 65 w) (by kernel_rfl) (fun ws es hS => ?_) (fun τ w9 hR => ?_)
    · first | refine Z82 0 rfl (by kernel_rfl) (by kernel_rfl) (by kernel_rfl) (by assumption) (fun w' hw' => Z56 rfl) ?_ | refine Z82 0 rfl (by kernel_rfl) (by kernel_rfl) (by kernel_rfl) (by assumption) (fun w' hw' => Z63 rfl rfl) ?_ | refine Z82 0 rfl (by kernel_rfl) (by kernel_rfl) (by kernel_rfl) (by assumption) (fun w' hw' => Z64 rfl rfl) ?_ | refine Z82 0 rfl (by kernel_rfl) (by kernel_rfl) (by kernel_rfl) (by assumption) (fun w' hw' => Z75 rfl rfl (by omega)) ?_ | refine Z82 0 rfl (by kernel_rfl) (by kernel_rfl) (by kernel_rfl) (by assumption) (fun w' hw' => Z72 rfl) ?_ | refine Z82 0 rfl (by kernel_rfl) (by kernel_rfl) (by kernel_rfl) (by assumption) (fun w' hw' => Z69 rfl rfl rfl (by omega)) ?_ | refine Z82 0 rfl (by kernel_rfl) (by kernel_rfl) (by kernel_rfl) (by assumption) (fun w' hw' => Z30 rfl (by rfl) (by simp only [Z84, List.set_cons_zero, List.set_cons_succ]; rfl)) ?_
      first | refine Z82 1 rfl (by kernel_rfl) (by kernel_rfl) (by kernel_rfl) (by assumption) (fun w' hw' => Z56 rfl) ?_ | refine Z82 1 rfl (by kernel_rfl) (by kernel_rfl) (by kernel_rfl) (by assumption) (fun w' hw' => Z63 rfl rfl) ?_ | refine Z82 1 rfl (by kernel_rfl) (by kernel_rfl) (by kernel_rfl) (by assumption) (fun w' hw' => Z64 rfl rfl) ?_ | refine Z82 1 rfl (by kernel_rfl) (by kernel_rfl) (by kernel_rfl) (by assumption) (fun w' hw' => Z75 rfl rfl (by omega)) ?_ | refine Z82 1 rfl (by kernel_rfl) (by kernel_rfl) (by kernel_rfl) (by assumption) (fun w' hw' => Z72 rfl) ?_ | refine Z82 1 rfl (by kernel_rfl) (by kernel_rfl) (by kernel_rfl) (by assumption) (fun w' hw' => Z69 rfl rfl rfl (by omega)) ?_ | refine Z82 1 rfl (by kernel_rfl) (by kernel_rfl) (by kernel_rfl) (by assumption) (fun w' hw' => Z30 rfl (by rfl) (by simp only [Z84, List.set_cons_zero, List.set_cons_succ]; rfl)) ?_
      refine Z82 3 rfl (by kernel_rfl) (by kernel_rfl) (by kernel_rfl) (by assumption) (fun w' hw' => q_loadS (cs := [.int .i64 (⟨l[k].cell, z⟩ : Pt).cell, .int .i64 (⟨l[k].cell, z⟩ : Pt).tag]) rfl rfl (blkC (((hz6).ext es).chg hw' (by simp; omega)))) ?_
      refine WX_call 2 rfl (by kernel_rfl) rfl (l6Mutate_ret rb _ vm m ws ((hr6).ext es) (by omega) (DrM.less (DrM.ext hD6 es) (by simp))) ?_
      rintro vm' wf ⟨hA, hrf, cf⟩
      have hSf : Chg [rb, w.heap.size] ws wf := cf.mono (by simp)
      refine ⟨hSf, ?_⟩
      refine Z82 4 rfl (by kernel_rfl) (by kernel_rfl) (by kernel_rfl) (by assumption) (fun w' hw' => Z56 rfl) ?_
      have hss := es.size_le
      refine WH_one 5 rfl (by kernel_rfl) (WO_storeS (k := 2) (vs := [.int .i64 (⟨l[k].cell, z⟩ : Pt).cell, .int .i64 (⟨l[k].cell, z⟩ : Pt).tag]) rfl rfl rfl (by intro v hv; simp at hv; rcases hv with rfl | rfl <;> rfl) (((hx6).ext es).chg cf (by simp; omega)) (by decide) fun wg hg og => Z31 (at_held (hSf.trans (og.chg.mono (by simp))) ?_))
      replace hg : Blk wg w.heap.size [.int .i64 (⟨l[k].cell, z⟩ : Pt).cell, .int .i64 (⟨l[k].cell, z⟩ : Pt).tag] _ := hg
      have c2s := (((c26).trans (es.chg [rb])).trans cf)
      exact WH_doneE (by kernel_rfl) (by repeat (first | exact True.intro | refine And.intro rfl ?_)) ⟨vm', rfl, hA.chg og.chg (by simp; omega) (by omega), hg, Ext.only (Chg.ext_of (e1.trans e2) c2s (by simp; omega)) og (Nat.le_refl _)⟩
    · obtain ⟨vm', rfl, hA, hB, hE⟩ := hR
      refine goS ?_
      exact at_ret2G rfl (.tmp rfl) (.cell (k := 2) inferInstance rfl hB rfl) ⟨vm', (⟨l[k].cell, z⟩ : Pt), rfl, hA, hE⟩
  · by_cases h1 : k12 = 1
    · subst h1
      refine goS ?_
      refine WO_ints [0, 9, -1] rfl rfl (by decide) (by decide) fun wd hi4 ed zd => ?_
      have sd := ed.size_le
      refine WO_call rfl (numU_ret rb _ _ [0, 9, -1] _ wd (hrc.ext ed) (by omega) hi4.int (by decide) (by simp; omega)) ?_
      rintro _ w5 ⟨z, hz, rfl, hr5, c5⟩
      have hD5 := (hDc.ext ed).chg c5 (by simp)
      have hx5 := (hxc.ext ed).chg c5 (by simp; omega)
      have hy5 := (hyc.ext ed).chg c5 (by simp; omega)
      have s6 := c5.size
      refine goS ?_
      refine WO_store1 rfl rfl rfl hy5 (by simp) fun w6 hz6 o6 => ?_
      have hx6 := hx5.only o6 (by omega)
      have hD6 := hD5.chg o6.chg (by simp)
      have hr6 := hr5.chg o6.chg (by simp; omega)
      have c26 : Chg [rb] w2 w6 := ((c2c.trans (ed.chg _)).trans c5).fresh o6.chg (by simp; omega)
      have s7 := o6.size
      replace hz6 : Blk w6 w4.heap.size [.int .i64 z, .int .i64 l[k].tag] _ := hz6
      refine goS ?_
      refine W_held0E [rb, w.heap.size] (CaseB w.heap.size (⟨z, l[k].tag⟩ : Pt) 65 w) (by kernel_rfl) (fun ws es hS => ?_) (fun τ w9 hR => ?_)
      · first | refine Z82 0 rfl (by kernel_rfl) (by kernel_rfl) (by kernel_rfl) (by assumption) (fun w' hw' => Z56 rfl) ?_ | refine Z82 0 rfl (by kernel_rfl) (by kernel_rfl) (by kernel_rfl) (by assumption) (fun w' hw' => Z63 rfl rfl) ?_ | refine Z82 0 rfl (by kernel_rfl) (by kernel_rfl) (by kernel_rfl) (by assumption) (fun w' hw' => Z64 rfl rfl) ?_ | refine Z82 0 rfl (by kernel_rfl) (by kernel_rfl) (by kernel_rfl) (by assumption) (fun w' hw' => Z75 rfl rfl (by omega)) ?_ | refine Z82 0 rfl (by kernel_rfl) (by kernel_rfl) (by kernel_rfl) (by assumption) (fun w' hw' => Z72 rfl) ?_ | refine Z82 0 rfl (by kernel_rfl) (by kernel_rfl) (by kernel_rfl) (by assumption) (fun w' hw' => Z69 rfl rfl rfl (by omega)) ?_ | refine Z82 0 rfl (by kernel_rfl) (by kernel_rfl) (by kernel_rfl) (by assumption) (fun w' hw' => Z30 rfl (by rfl) (by simp only [Z84, List.set_cons_zero, List.set_cons_succ]; rfl)) ?_
        first | refine Z82 1 rfl (by kernel_rfl) (by kernel_rfl) (by kernel_rfl) (by assumption) (fun w' hw' => Z56 rfl) ?_ | refine Z82 1 rfl (by kernel_rfl) (by kernel_rfl) (by kernel_rfl) (by assumption) (fun w' hw' => Z63 rfl rfl) ?_ | refine Z82 1 rfl (by kernel_rfl) (by kernel_rfl) (by kernel_rfl) (by assumption) (fun w' hw' => Z64 rfl rfl) ?_ | refine Z82 1 rfl (by kernel_rfl) (by kernel_rfl) (by kernel_rfl) (by assumption) (fun w' hw' => Z75 rfl rfl (by omega)) ?_ | refine Z82 1 rfl (by kernel_rfl) (by kernel_rfl) (by kernel_rfl) (by assumption) (fun w' hw' => Z72 rfl) ?_ | refine Z82 1 rfl (by kernel_rfl) (by kernel_rfl) (by kernel_rfl) (by assumption) (fun w' hw' => Z69 rfl rfl rfl (by omega)) ?_ | refine Z82 1 rfl (by kernel_rfl) (by kernel_rfl) (by kernel_rfl) (by assumption) (fun w' hw' => Z30 rfl (by rfl) (by simp only [Z84, List.set_cons_zero, List.set_cons_succ]; rfl)) ?_
        refine Z82 3 rfl (by kernel_rfl) (by kernel_rfl) (by kernel_rfl) (by assumption) (fun w' hw' => q_loadS (cs := [.int .i64 (⟨z, l[k].tag⟩ : Pt).cell, .int .i64 (⟨z, l[k].tag⟩ : Pt).tag]) rfl rfl (blkC (((hz6).ext es).chg hw' (by simp; omega)))) ?_
        refine WX_call 2 rfl (by kernel_rfl) rfl (l6Mutate_ret rb _ vm m ws ((hr6).ext es) (by omega) (DrM.less (DrM.ext hD6 es) (by simp))) ?_
        rintro vm' wf ⟨hA, hrf, cf⟩
        have hSf : Chg [rb, w.heap.size] ws wf := cf.mono (by simp)
        refine ⟨hSf, ?_⟩
        refine Z82 4 rfl (by kernel_rfl) (by kernel_rfl) (by kernel_rfl) (by assumption) (fun w' hw' => Z56 rfl) ?_
        have hss := es.size_le
        refine WH_one 5 rfl (by kernel_rfl) (WO_storeS (k := 2) (vs := [.int .i64 (⟨z, l[k].tag⟩ : Pt).cell, .int .i64 (⟨z, l[k].tag⟩ : Pt).tag]) rfl rfl rfl (by intro v hv; simp at hv; rcases hv with rfl | rfl <;> rfl) (((hx6).ext es).chg cf (by simp; omega)) (by decide) fun wg hg og => Z31 (at_held (hSf.trans (og.chg.mono (by simp))) ?_))
        replace hg : Blk wg w.heap.size [.int .i64 (⟨z, l[k].tag⟩ : Pt).cell, .int .i64 (⟨z, l[k].tag⟩ : Pt).tag] _ := hg
        have c2s := (((c26).trans (es.chg [rb])).trans cf)
        exact WH_doneE (by kernel_rfl) (by repeat (first | exact True.intro | refine And.intro rfl ?_)) ⟨vm', rfl, hA.chg og.chg (by simp; omega) (by omega), hg, Ext.only (Chg.ext_of (e1.trans e2) c2s (by simp; omega)) og (Nat.le_refl _)⟩
      · obtain ⟨vm', rfl, hA, hB, hE⟩ := hR
        refine goS ?_
        exact at_ret2G rfl (.tmp rfl) (.cell (k := 2) inferInstance rfl hB rfl) ⟨vm', (⟨z, l[k].tag⟩ : Pt), rfl, hA, hE⟩
    · refine goS ?_
      refine Z50 rfl (by simp; omega) ?_
      refine goS ?_
      refine Z50 rfl (by simp; omega) ?_
      refine goS ?_
      refine W_held0E [rb, w.heap.size] (CaseB w.heap.size (l[k]'hkl) 65 w) (by kernel_rfl) (fun ws es hS => ?_) (fun τ w9 hR => ?_)
      · first | refine Z82 0 rfl (by kernel_rfl) (by kernel_rfl) (by kernel_rfl) (by assumption) (fun w' hw' => Z56 rfl) ?_ | refine Z82 0 rfl (by kernel_rfl) (by kernel_rfl) (by kernel_rfl) (by assumption) (fun w' hw' => Z63 rfl rfl) ?_ | refine Z82 0 rfl (by kernel_rfl) (by kernel_rfl) (by kernel_rfl) (by assumption) (fun w' hw' => Z64 rfl rfl) ?_ | refine Z82 0 rfl (by kernel_rfl) (by kernel_rfl) (by kernel_rfl) (by assumption) (fun w' hw' => Z75 rfl rfl (by omega)) ?_ | refine Z82 0 rfl (by kernel_rfl) (by kernel_rfl) (by kernel_rfl) (by assumption) (fun w' hw' => Z72 rfl) ?_ | refine Z82 0 rfl (by kernel_rfl) (by kernel_rfl) (by kernel_rfl) (by assumption) (fun w' hw' => Z69 rfl rfl rfl (by omega)) ?_ | refine Z82 0 rfl (by kernel_rfl) (by kernel_rfl) (by kernel_rfl) (by assumption) (fun w' hw' => Z30 rfl (by rfl) (by simp only [Z84, List.set_cons_zero, List.set_cons_succ]; rfl)) ?_
        first | refine Z82 1 rfl (by kernel_rfl) (by kernel_rfl) (by kernel_rfl) (by assumption) (fun w' hw' => Z56 rfl) ?_ | refine Z82 1 rfl (by kernel_rfl) (by kernel_rfl) (by kernel_rfl) (by assumption) (fun w' hw' => Z63 rfl rfl) ?_ | refine Z82 1 rfl (by kernel_rfl) (by kernel_rfl) (by kernel_rfl) (by assumption) (fun w' hw' => Z64 rfl rfl) ?_ | refine Z82 1 rfl (by kernel_rfl) (by kernel_rfl) (by kernel_rfl) (by assumption) (fun w' hw' => Z75 rfl rfl (by omega)) ?_ | refine Z82 1 rfl (by kernel_rfl) (by kernel_rfl) (by kernel_rfl) (by assumption) (fun w' hw' => Z72 rfl) ?_ | refine Z82 1 rfl (by kernel_rfl) (by kernel_rfl) (by kernel_rfl) (by assumption) (fun w' hw' => Z69 rfl rfl rfl (by omega)) ?_ | refine Z82 1 rfl (by kernel_rfl) (by kernel_rfl) (by kernel_rfl) (by assumption) (fun w' hw' => Z30 rfl (by rfl) (by simp only [Z84, List.set_cons_zero, List.set_cons_succ]; rfl)) ?_
        refine Z82 3 rfl (by kernel_rfl) (by kernel_rfl) (by kernel_rfl) (by assumption) (fun w' hw' => q_loadS (cs := [.int .i64 (l[k]'hkl).cell, .int .i64 (l[k]'hkl).tag]) rfl rfl (blkC (((hyc).ext es).chg hw' (by simp; omega)))) ?_
        refine WX_call 2 rfl (by kernel_rfl) rfl (l6Mutate_ret rb _ vm m ws ((hrc).ext es) (by omega) (DrM.less (DrM.ext hDc es) (by simp))) ?_
        rintro vm' wf ⟨hA, hrf, cf⟩
        have hSf : Chg [rb, w.heap.size] ws wf := cf.mono (by simp)
        refine ⟨hSf, ?_⟩
        refine Z82 4 rfl (by kernel_rfl) (by kernel_rfl) (by kernel_rfl) (by assumption) (fun w' hw' => Z56 rfl) ?_
        have hss := es.size_le
        refine WH_one 5 rfl (by kernel_rfl) (WO_storeS (k := 2) (vs := [.int .i64 (l[k]'hkl).cell, .int .i64 (l[k]'hkl).tag]) rfl rfl rfl (by intro v hv; simp at hv; rcases hv with rfl | rfl <;> rfl) (((hxc).ext es).chg cf (by simp; omega)) (by decide) fun wg hg og => Z31 (at_held (hSf.trans (og.chg.mono (by simp))) ?_))
        replace hg : Blk wg w.heap.size [.int .i64 (l[k]'hkl).cell, .int .i64 (l[k]'hkl).tag] _ := hg
        have c2s := (((c2c).trans (es.chg [rb])).trans cf)
        exact WH_doneE (by kernel_rfl) (by repeat (first | exact True.intro | refine And.intro rfl ?_)) ⟨vm', rfl, hA.chg og.chg (by simp; omega) (by omega), hg, Ext.only (Chg.ext_of (e1.trans e2) c2s (by simp; omega)) og (Nat.le_refl _)⟩
      · obtain ⟨vm', rfl, hA, hB, hE⟩ := hR
        refine goS ?_
        exact at_ret2G rfl (.tmp rfl) (.cell (k := 2) inferInstance rfl hB rfl) ⟨vm', (l[k]'hkl), rfl, hA, hE⟩
end Go.Proofs.YtnfapbghkmodeaaDoor
