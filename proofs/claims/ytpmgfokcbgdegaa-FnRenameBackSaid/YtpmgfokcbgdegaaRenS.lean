/-
  What is proved here: the reference's renaming of variables.
-/
import Derived.Test.YtpmgfokcbgdegaaRen
import Derived.Test.YtpmgfokcbgdegaaFld
namespace Go.Proofs.Ytpmgfokcbgdegaa
set_option linter.unusedVariables false
set_option linter.unusedSimpArgs false
set_option linter.unnecessarySimpa false
open Go.RowKit

theorem l11Names_ret (nv : Value) (ns : List Int) (Fn : List Nat) (w : World) (h : IntF w nv ns Fn) : Ret Try.prog 35 [nv] w fun r w' => r = .bool (decide (renOk ns)) ∧ Ext w w' := by
  obtain ⟨A, c, rfl, hl, hx⟩ := id h
  unfold maxI at hl
  refine enter Try.func35 rfl Try.ntmps35 rfl rfl ?_
  refine goS ?_
  refine W_loop (α := Nat) (fun i => [(0, .slice A ns.length c), (3, .int .i64 (i : Int))]) (fun i w' => i ≤ ns.length ∧ (∀ j : Nat, j < i → (j : Int) ∈ ns) ∧ w' = w) (fun i => ns.length - i) 0 (by repeat (first | exact True.intro | refine And.intro rfl ?_)) ⟨Nat.zero_le _, by intro j hj; omega, rfl⟩ ?_
  rintro i w1 ⟨hi, hall, rfl⟩
  refine goS ?_
  refine Z52 rfl (fun hc => ?_) (fun hc => ?_)
  · have hlt : i < ns.length := by simpa using hc
    refine goS ?_
    refine WO_call rfl (l2Has_ret _ ns Fn (i : Int) w1 h) ?_
    rintro _ w2 ⟨rfl, rfl⟩
    by_cases hm : (i : Int) ∈ ns
    · rw [decide_eq_true hm]
      refine goS ?_
      refine at_loop (i + 1) (by repeat (first | exact True.intro | refine And.intro rfl ?_)) ⟨by omega, fun j hj => ?_, rfl⟩ (by omega)
      by_cases hji : j = i
      · subst hji; exact hm
      · exact hall j (by omega)
    · rw [decide_eq_false hm]
      refine goS ?_
      exact at_ret1 rfl rfl ⟨by rw [decide_eq_false (fun h => hm ((renOk_iff ns).1 h i hlt))], Ext.refl _⟩
  · have hge : i = ns.length := by simp at hc; omega
    subst hge
    refine goS ?_
    exact at_ret1 rfl rfl ⟨by rw [decide_eq_true ((renOk_iff ns).2 hall)], Ext.refl _⟩
def LrP (l : Ss) : Prop := ∀ v F w (d : List Int × Nat) ns vn Fn, StS w v l F → IntF w vn ns Fn → okL d.1 d.2 l = true → d.1.length = ns.length → cntL l ≤ 1048576 → Ret Try.prog 36 [v, vn] w (NewS 62 (renL ns l) w)
theorem l11Rename_all (l : Ss) : LrP l := Ss.strong (fun l ih => by
  intro v F w d ns vn Fn h hns hok htl hn
  obtain ⟨tl, dp⟩ := d
  simp only at hok htl
  have hvn := hns
  obtain ⟨An, cn, rfl, hln, hxn⟩ := hvn
  unfold maxI at hln
  have hlc := len_le_cntL l
  refine enter Try.func36 rfl Try.ntmps36 rfl rfl ?_
  refine goS ?_
  refine WO_call rfl (l1Copy_all l v F w h hn) ?_
  rintro vo w0 hg0
  obtain ⟨⟨F0, c1, c2, c3⟩, e0⟩ := hg0.new
  obtain ⟨A, c, rfl, hlcap, hl⟩ := c1.slice
  unfold maxI at hl
  refine goS ?_
  refine W_loop (α := Nat × Ss × Ss) (fun p => [(1, .slice An ns.length cn), (5, .slice A l.len c), (6, .int .i64 (p.1 : Int))])
    (fun p w' => p.2.1.app p.2.2 = l ∧ p.2.1.len = p.1 ∧ okL tl dp p.2.2 = true ∧ ∃ F', RowS 62 w' (.slice A l.len c) ((renL ns p.2.1).app p.2.2) F' ∧ F'.Nodup ∧ (∀ b ∈ F', w.heap.size ≤ b) ∧ Ext w w') (fun p => p.2.2.len) (0, .nil, l) (by repeat (first | exact True.intro | refine And.intro rfl ?_))
    ⟨rfl, rfl, hok, F0, c1, c2, c3, e0⟩ ?_
  rintro ⟨i, d, r⟩ w1 ⟨hap, hdl, hokr, F', hrow, hnd, hnew, he⟩
  simp only at hap hdl hokr hrow ⊢
  have hlen : d.len + r.len = l.len := by rw [← hap, Ss.len_app]
  have hcn : cntL d + cntL r = cntL l := by rw [← hap, cntL_app]
  have hdl2 := renL_len ns d
  refine goS ?_
  refine Z52 rfl (fun hc => ?_) (fun hc => ?_)
  · have hlt : i < l.len := by simpa using hc
    cases r with
    | nil => simp only [Ss.len] at hlen; omega
    | cons op x y n t e r =>
      simp only [Ss.len, cntL] at hlen hcn
      rw [okL_cons, Bool.and_eq_true] at hokr
      have hvars := okS_vars hokr.1
      obtain ⟨g, cap, cs, vt, ve, F1, Ft, Fe, F2, hsl, rfl, hb, hcl, hcells, hT, hE, hup⟩ := hrow.upd
      have hA : A = some ⟨g, 0, none⟩ := by injection hsl
      subst hA
      rw [hdl2, hdl] at hcl hcells hup
      have hone : ∀ u ∈ [Value.int .i64 op, .int .i64 x, .int .i64 y, .int .i64 n, vt, ve], u.oneCell' = true := by
        intro u hu; simp at hu; rcases hu with rfl | rfl | rfl | rfl | rfl | rfl <;> first | rfl | exact hT.one | exact hE.one
      have hgF := (List.nodup_cons.1 hnd).1
      have hndF := (List.nodup_cons.1 hnd).2
      simp only [List.mem_append, not_or] at hgF
      have hgB := hnew g (by simp)
      have hlt1 := hrow.lt
      refine goS ?_
      refine Z83 (j := i) rfl rfl rfl hlt ?_
      refine WO_loadS (cs := [.int .i64 op, .int .i64 x, .int .i64 y, .int .i64 n, vt, ve]) rfl rfl (fun j u hu => by rw [Nat.zero_add]; exact hb.cell (hcells j u hu)) ?_
      refine WO_alloc fun w2 hb2 he2 hz2 => ?_
      refine WO_storeS (k := 6) (vs := [.int .i64 op, .int .i64 x, .int .i64 y, .int .i64 n, vt, ve]) rfl rfl rfl hone hb2 (by simp [Value.cells]) fun w3 hb3 ho3 => ?_
      replace hb3 : Blk w3 w1.heap.size [Value.int .i64 op, .int .i64 x, .int .i64 y, .int .i64 n, vt, ve] _ := hb3
      have he3 : Ext w1 w3 := he2.only ho3 (Nat.le_refl _)
      have he03 := he.trans he3
      have hlt3 := hb3.lt
      clear hb2
      have hb' := hb.ext he3
      have hglt := hb.lt
      rcases hvars with ⟨h9, hokt, hoke⟩ | ⟨h18, hxin, hyin, rfl, rfl⟩
      · have hX : (if 1 ≤ op ∧ op ≤ 8 then nmL ns x else x) = x := if_neg (by omega)
        have hY : (if 3 ≤ op ∧ op ≤ 7 then nmL ns y else y) = y := if_neg (by omega)
        (refine goS ?_; repeat' (first | ((refine Z51 rfl rfl (fun c' hc' => ?_)); cases c' <;> (try simp only [decide_eq_true_eq, decide_eq_false_iff_not, beq_iff_eq, beq_eq_false_iff_ne, bne_iff_ne, bne_eq_false_iff_eq, ne_eq, gt_iff_lt, ge_iff_le, Int.not_lt, Int.not_le, Bool.not_eq_true', Bool.not_eq_false', Bool.not_true, Bool.not_false, reduceCtorEq, Decidable.not_not, not_true_eq_false, Bool.true_eq_false, Bool.false_eq_true] at hc') <;> (try (exfalso; omega)) <;> refine goS ?_) | ((refine Z52 rfl (fun hc' => ?_) (fun hc' => ?_)) <;> (try simp only [decide_eq_true_eq, decide_eq_false_iff_not, beq_iff_eq, beq_eq_false_iff_ne, bne_iff_ne, bne_eq_false_iff_eq, ne_eq, gt_iff_lt, ge_iff_le, Int.not_lt, Int.not_le, Bool.not_eq_true', Bool.not_eq_false', Bool.not_true, Bool.not_false, reduceCtorEq, Decidable.not_not, not_true_eq_false, Bool.true_eq_false, Bool.false_eq_true] at hc') <;> (try (exfalso; omega)) <;> refine goS ?_)))
        all_goals
          refine WO_call rfl (ih t (by omega) vt _ w3 (tl, dp - 1) ns _ Fn (hT.ext he3).sts (hns.ext he03) hokt htl (by omega)) ?_
          rintro vt' w4 ⟨⟨G1, q1, n1, b1⟩, e4⟩
          have hone1 := q1.one
          have hlq1 := q1.lt
          have s4 := e4.size_le
          refine goS ?_
          refine Z83 (j := i) rfl rfl rfl hlt ?_
          refine goS ?_
          refine WO_store1 rfl rfl hone1 (hb'.ext e4) (by omega) fun w5 hb5 o5 => ?_
          replace hb3 := (hb3.ext e4).only o5 (by omega)
          have he05 := (he03.trans e4).only o5 hgB
          have s5 := o5.size
          refine goS ?_
          refine WO_call rfl (ih e (by omega) ve _ w5 (tl, dp - 1) ns _ Fn ((((hE.ext he3).ext e4).chg o5.chg (fun z hz hm => by simp at hm; subst hm; exact hgF.2.2.1 hz))).sts (hns.ext he05) hoke htl (by omega)) ?_
          rintro ve' w6 ⟨⟨G2, q2, n2, b2⟩, e6⟩
          have hone2 := q2.one
          have s6 := e6.size_le
          refine goS ?_
          refine Z83 (j := i) rfl rfl rfl hlt ?_
          refine goS ?_
          refine WO_store1 rfl rfl hone2 (hb5.ext e6) (by simp; omega) fun w7 hb7 o7 => ?_
          have he07 := (he05.trans e6).only o7 hgB
          have hc7 : Chg [g] w1 w7 := (((he3.trans e4).chg _).trans o5.chg).trans ((e6.chg _).trans o7.chg)
          have q1' := ((q1.chg o5.chg (fun z hz hm => by simp at hm; subst hm; have := b1 _ hz; omega)).ext e6).chg o7.chg (fun z hz hm => by simp at hm; subst hm; have := b1 _ hz; omega)
          have q2' := q2.chg o7.chg (fun z hz hm => by simp at hm; subst hm; have := b2 _ hz; omega)
          rw [Nat.zero_add] at hb7
          have hin1 := fld_in (f := 4) (v := vt') hcells
          have hin2 := fld_in (f := 5) (v := ve') hin1
          have hfin := hup w7 _ op x y n (renL ns t) (renL ns e) vt' ve' G1 G2 [g] hb7 (by simp) (fun p hp => by rw [fld_out (by decide) hp, fld_out (by decide) hp]) hin2 q1' q2' hc7 (fun z hz hm => by simp only [List.mem_singleton] at hm; subst hm; rcases List.mem_append.1 hz with h | h; exact hgF.1 h; exact hgF.2.2.2 h)
          refine goS ?_
          refine at_loop (i + 1, d.snoc op x y n t e, r) (by refine And.intro rfl (And.intro rfl (And.intro ?_ trivial)); rfl) ⟨by rw [Ss.snoc_app]; exact hap, by simp only; rw [Ss.len_snoc]; omega, hokr.2, _, (by
            simp only
            rw [renL_snoc, Ss.snoc_app]
            exact by rw [hX, hY]; exact hfin), ?_, ?_, he07⟩ (by simp only [Ss.len]; omega)
          · have m1 : ∀ z ∈ F1 ++ (Ft ++ (Fe ++ F2)), z < w1.heap.size := fun z hz => hlt1 z (List.mem_cons_of_mem _ hz)
            have n3 := List.nodup_append.1 hndF
            have n4 := List.nodup_append.1 n3.2.1
            have n5 := List.nodup_append.1 n4.2.1
            refine List.nodup_cons.2 ⟨fun hm => ?_, List.nodup_append.2 ⟨n3.1, List.nodup_append.2 ⟨n1, List.nodup_append.2 ⟨n2, n5.2.1, fun a ha b hb e => ?_⟩, fun a ha b hb e => ?_⟩, fun a ha b hb e => ?_⟩⟩
            · simp only [List.mem_append] at hm
              rcases hm with h | h | h | h
              · exact hgF.1 h
              · have := b1 _ h; omega
              · have := b2 _ h; omega
              · exact hgF.2.2.2 h
            · subst e; have := b2 _ ha; have := m1 a (by simp [hb]); omega
            · subst e
              rcases List.mem_append.1 hb with h | h
              · have := hlq1 _ ha; have := b2 _ h; omega
              · have := b1 _ ha; have := m1 a (by simp [h]); omega
            · subst e
              have ha1 := m1 a (by simp [ha])
              simp only [List.mem_append] at hb
              rcases hb with h | h | h
              · have := b1 _ h; omega
              · have := b2 _ h; omega
              · exact n3.2.2 a ha a (by simp [h]) rfl
          · intro z hz
            simp only [List.mem_cons, List.mem_append] at hz
            have hw := he.size_le
            rcases hz with h | h | h | h | h
            · exact hnew z (by simp [h])
            · exact hnew z (by simp [h])
            · have := b1 _ h; omega
            · have := b2 _ h; omega
            · exact hnew z (by simp [h])
      · have hX : (if 1 ≤ op ∧ op ≤ 8 then nmL ns x else x) = nmL ns x := if_pos h18
        obtain ⟨jx, rfl, hjx, hnx⟩ := nm_at (show 0 ≤ x ∧ x < (ns.length : Int) by rw [← htl]; exact hxin)
        obtain ⟨bn, on, rfl, _, hcx⟩ := int_at hxn hjx
        have hbn : ∀ j (hj : j < ns.length), w.cell? ⟨bn, on + j * 1, none⟩ = some (.int .i64 ns[j]) := fun j hj => by
          obtain ⟨b', o', hA, _, hh⟩ := int_at hxn hj
          cases hA
          exact hh
        replace hcx := cell_ext hcx he03
        (refine goS ?_; repeat' (first | ((refine Z51 rfl rfl (fun c' hc' => ?_)); cases c' <;> (try simp only [decide_eq_true_eq, decide_eq_false_iff_not, beq_iff_eq, beq_eq_false_iff_ne, bne_iff_ne, bne_eq_false_iff_eq, ne_eq, gt_iff_lt, ge_iff_le, Int.not_lt, Int.not_le, Bool.not_eq_true', Bool.not_eq_false', Bool.not_true, Bool.not_false, reduceCtorEq, Decidable.not_not, not_true_eq_false, Bool.true_eq_false, Bool.false_eq_true] at hc') <;> (try (exfalso; omega)) <;> refine goS ?_) | ((refine Z52 rfl (fun hc' => ?_) (fun hc' => ?_)) <;> (try simp only [decide_eq_true_eq, decide_eq_false_iff_not, beq_iff_eq, beq_eq_false_iff_ne, bne_iff_ne, bne_eq_false_iff_eq, ne_eq, gt_iff_lt, ge_iff_le, Int.not_lt, Int.not_le, Bool.not_eq_true', Bool.not_eq_false', Bool.not_true, Bool.not_false, reduceCtorEq, Decidable.not_not, not_true_eq_false, Bool.true_eq_false, Bool.false_eq_true] at hc') <;> (try (exfalso; omega)) <;> refine goS ?_)))
        refine Z83 (j := jx) rfl rfl rfl hjx ?_
        refine goS ?_
        refine Z83 (j := i) rfl rfl rfl hlt ?_
        refine goS ?_
        refine WO_store1 rfl rfl rfl hb' (by omega) fun w5 hb5 o5 => ?_
        replace hb3 := hb3.only o5 (by omega)
        have he05 := he03.only o5 hgB
        have s5 := o5.size
        have hin1 := fld_in (f := 1) (v := .int .i64 ns[jx]) hcells
        by_cases h37 : 3 ≤ op ∧ op ≤ 7
        · have hY : (if 3 ≤ op ∧ op ≤ 7 then nmL ns y else y) = nmL ns y := if_pos h37
          obtain ⟨jy, rfl, hjy, hny⟩ := nm_at (show 0 ≤ y ∧ y < (ns.length : Int) by rw [← htl]; exact hyin h37)
          have hcy := cell_ext (hbn jy hjy) he05
          (refine goS ?_; repeat' (first | ((refine Z51 rfl rfl (fun c' hc' => ?_)); cases c' <;> (try simp only [decide_eq_true_eq, decide_eq_false_iff_not, beq_iff_eq, beq_eq_false_iff_ne, bne_iff_ne, bne_eq_false_iff_eq, ne_eq, gt_iff_lt, ge_iff_le, Int.not_lt, Int.not_le, Bool.not_eq_true', Bool.not_eq_false', Bool.not_true, Bool.not_false, reduceCtorEq, Decidable.not_not, not_true_eq_false, Bool.true_eq_false, Bool.false_eq_true] at hc') <;> (try (exfalso; omega)) <;> refine goS ?_) | ((refine Z52 rfl (fun hc' => ?_) (fun hc' => ?_)) <;> (try simp only [decide_eq_true_eq, decide_eq_false_iff_not, beq_iff_eq, beq_eq_false_iff_ne, bne_iff_ne, bne_eq_false_iff_eq, ne_eq, gt_iff_lt, ge_iff_le, Int.not_lt, Int.not_le, Bool.not_eq_true', Bool.not_eq_false', Bool.not_true, Bool.not_false, reduceCtorEq, Decidable.not_not, not_true_eq_false, Bool.true_eq_false, Bool.false_eq_true] at hc') <;> (try (exfalso; omega)) <;> refine goS ?_)))
          refine Z83 (j := jy) rfl rfl rfl hjy ?_
          refine goS ?_
          refine Z83 (j := i) rfl rfl rfl hlt ?_
          refine goS ?_
          refine WO_store1 rfl rfl rfl hb5 (by simp; omega) fun w7 hb7 o7 => ?_
          have he07 := he05.only o7 hgB
          have hc7 : Chg [g] w1 w7 := ((he3.chg _).trans o5.chg).trans o7.chg
          rw [Nat.zero_add] at hb7
          have hin2 := fld_in (f := 2) (v := .int .i64 ns[jy]) hin1
          have hfin := hup w7 _ op ns[jx] ns[jy] n .nil .nil vt ve Ft Fe [g] hb7 (by simp) (fun p hp => by rw [fld_out (by decide) hp, fld_out (by decide) hp]) hin2 (hT.chg hc7 (fun z hz hm => by simp only [List.mem_singleton] at hm; subst hm; exact hgF.2.1 hz)) (hE.chg hc7 (fun z hz hm => by simp only [List.mem_singleton] at hm; subst hm; exact hgF.2.2.1 hz)) hc7 (fun z hz hm => by simp only [List.mem_singleton] at hm; subst hm; rcases List.mem_append.1 hz with h | h; exact hgF.1 h; exact hgF.2.2.2 h)
          refine goS ?_
          refine at_loop (i + 1, d.snoc op (jx : Int) (jy : Int) n .nil .nil, r) (by refine And.intro rfl (And.intro rfl (And.intro ?_ trivial)); rfl) ⟨by rw [Ss.snoc_app]; exact hap, by simp only; rw [Ss.len_snoc]; omega, hokr.2, _, (by
            simp only
            rw [renL_snoc, Ss.snoc_app]
            exact by rw [hX, hY, hnx, hny]; exact hfin), ?_, ?_, he07⟩ (by simp only [Ss.len]; omega)
          · exact hnd
          · exact hnew
        · have hY : (if 3 ≤ op ∧ op ≤ 7 then nmL ns y else y) = y := if_neg h37
          have hc7 : Chg [g] w1 w5 := (he3.chg _).trans o5.chg
          rw [Nat.zero_add] at hb5
          have hfin := hup w5 _ op ns[jx] y n .nil .nil vt ve Ft Fe [g] hb5 (by simp) (fun p hp => by rw [fld_out (by decide) hp]) hin1 (hT.chg hc7 (fun z hz hm => by simp only [List.mem_singleton] at hm; subst hm; exact hgF.2.1 hz)) (hE.chg hc7 (fun z hz hm => by simp only [List.mem_singleton] at hm; subst hm; exact hgF.2.2.1 hz)) hc7 (fun z hz hm => by simp only [List.mem_singleton] at hm; subst hm; rcases List.mem_append.1 hz with h | h; exact hgF.1 h; exact hgF.2.2.2 h)
          (refine goS ?_; repeat' (first | ((refine Z51 rfl rfl (fun c' hc' => ?_)); cases c' <;> (try simp only [decide_eq_true_eq, decide_eq_false_iff_not, beq_iff_eq, beq_eq_false_iff_ne, bne_iff_ne, bne_eq_false_iff_eq, ne_eq, gt_iff_lt, ge_iff_le, Int.not_lt, Int.not_le, Bool.not_eq_true', Bool.not_eq_false', Bool.not_true, Bool.not_false, reduceCtorEq, Decidable.not_not, not_true_eq_false, Bool.true_eq_false, Bool.false_eq_true] at hc') <;> (try (exfalso; omega)) <;> refine goS ?_) | ((refine Z52 rfl (fun hc' => ?_) (fun hc' => ?_)) <;> (try simp only [decide_eq_true_eq, decide_eq_false_iff_not, beq_iff_eq, beq_eq_false_iff_ne, bne_iff_ne, bne_eq_false_iff_eq, ne_eq, gt_iff_lt, ge_iff_le, Int.not_lt, Int.not_le, Bool.not_eq_true', Bool.not_eq_false', Bool.not_true, Bool.not_false, reduceCtorEq, Decidable.not_not, not_true_eq_false, Bool.true_eq_false, Bool.false_eq_true] at hc') <;> (try (exfalso; omega)) <;> refine goS ?_)))
          all_goals
            refine at_loop (i + 1, d.snoc op (jx : Int) y n .nil .nil, r) (by refine And.intro rfl (And.intro rfl (And.intro ?_ trivial)); rfl) ⟨by rw [Ss.snoc_app]; exact hap, by simp only; rw [Ss.len_snoc]; omega, hokr.2, _, (by
              simp only
              rw [renL_snoc, Ss.snoc_app]
              exact by rw [hX, hY, hnx]; exact hfin), ?_, ?_, he05⟩ (by simp only [Ss.len]; omega)
            · exact hnd
            · exact hnew
  · have hge : i = l.len := by simp at hc; omega
    have hr0 : r = .nil := Ss.len_zero (by omega)
    subst hr0
    rw [Ss.app_nil] at hap
    subst hap
    rw [Ss.app_nil] at hrow
    refine goS ?_
    exact at_ret1 rfl rfl ⟨⟨F', hrow, hnd, hnew⟩, he⟩) l
section
variable {P : Program} {n : Nat} {ops : List Oper} {σ : Env} {T : Env → World → Prop} {S : World → Prop} {fuel : Nat} {listed : List Bool} {w : World}
/-- One of three operations can come up. -/
theorem WH_three (i k m : Nat) {o o' o'' : Oper} (hi : ops[i]? = some o) (hk : ops[k]? = some o') (hm : ops[m]? = some o'') (hr : Region.ready .any ops.toArray listed.toArray = [i, k, m])
    (h : WO P n ops.toArray (HeldQ P n ops T S fuel (listed.set i true)) [o] σ w) (h' : WO P n ops.toArray (HeldQ P n ops T S fuel (listed.set k true)) [o'] σ w) (h'' : WO P n ops.toArray (HeldQ P n ops T S fuel (listed.set m true)) [o''] σ w) : WH P n ops T S (fuel + 1) listed σ w :=
  ⟨fun hok a hfit => wpAnyH_all hr (by simp) fun j hj => by
    simp only [List.mem_cons, List.not_mem_nil, or_false] at hj
    rcases hj with rfl | rfl | rfl
    · exact wpOp_of_WO hi h hok hfit
    · exact wpOp_of_WO hk h' hok hfit
    · exact wpOp_of_WO hm h'' hok hfit⟩
end
/-- A program's types and body in new memory, and the block that holds them. -/
def RnIn (d : Nat) (base : Env) (e eP eI : TypeId) (m : Nat) (l : Ss) (w : World) (τ : Env) (w' : World) : Prop :=
  ∃ tb ob bv Fb, τ = (d, .pointer (some ⟨ob, 0, none⟩)) :: base ∧ Blk w' tb ((List.replicate m (0 : Int)).map (.int .i64)) eI ∧ RowS e w' bv l Fb ∧ Fb.Nodup ∧ (∀ z ∈ Fb, w.heap.size ≤ z ∧ z ≠ tb ∧ z ≠ ob) ∧ w.heap.size ≤ tb ∧ w.heap.size ≤ ob ∧ tb ≠ ob ∧
    Blk w' ob [.slice (some ⟨tb, 0, none⟩) m m, bv] eP ∧ Ext w w'
theorem sRenameVars_ret (tv bv nv : Value) (tl : List Int) (l : Ss) (ns : List Int) (F F2 Fn : List Nat) (w : World) (ht : IntF w tv tl F) (hb : StS w bv l F2) (hns : IntF w nv ns Fn) (hn : tl.length ≤ 1048576) (hn2 : cntL l ≤ 1048576) :
    Ret Try.prog 14 [prV tv bv, nv] w (PrB 62 (rnT tl l ns) (rnB tl l ns) (decide (rnOk tl l ns)) w) := by
  have hcl := len_le_cntL l
  have hns0 := hns
  have ht0 := ht
  obtain ⟨An, cn, rfl, hln, hxn⟩ := hns0
  obtain ⟨At, ct, rfl, hlt, hxt⟩ := ht0
  unfold maxI at hln hlt
  refine enter Try.func14 rfl Try.ntmps14 rfl rfl ?_
  refine Z43 (Z44 (WO_box rfl fun w1 hs e1 z1 => WO_alloc fun w2 hr e2 z2 => ?_))
  replace hs : Blk w2 w.heap.size [.slice At tl.length ct, bv] _ := Blk.ext hs e2
  replace hr : Blk w2 w1.heap.size [.slice none 0 0, .slice none 0 0] _ := hr
  have e0 := e1.trans e2
  have s1 := e1.size_le
  have s2 := hr.lt
  refine goS ?_
  refine WO_loadSB rfl hs rfl ?_
  refine WO_call rfl (sProgramValid_ret _ _ tl l F F2 w2 (ht.ext e0) (hb.ext e0) (by omega)) ?_
  rintro _ w3 ⟨rfl, e3⟩
  replace hs := hs.ext e3
  replace hr := hr.ext e3
  replace e0 := e0.trans e3
  have s3 := e3.size_le
  cases hv : validP tl l
  · refine goS ?_
    have hbad : ¬ rnOk tl l ns := (fun h => by have := h.1; rw [hv] at this; cases this)
    refine WO_storeS (k := 2) (vs := [.slice none 0 0, .slice none 0 0]) rfl rfl rfl (by intro v hv; simp at hv; subst hv; rfl) hr (by decide) fun wz hz oz => ?_
    replace hz : Blk wz w1.heap.size [.slice none 0 0, .slice none 0 0] _ := hz
    refine goS ?_
    exact at_ret2G rfl (.cell inferInstance rfl hz rfl) (.tmp rfl) (by unfold rnT rnB; rw [if_neg hbad, if_neg hbad, decide_eq_false hbad]; exact PrB.none_ (Ext.only e0 oz s1))
  · by_cases hleq : ns.length = tl.length
    · have hok4 := (validP_cnt hv).2.1
      have hle1 : ns.length ≤ 1048576 := by omega
      (refine goS ?_; repeat' (first | ((refine Z51 rfl rfl (fun c' hc' => ?_)); cases c' <;> (try simp only [decide_eq_true_eq, decide_eq_false_iff_not, beq_iff_eq, beq_eq_false_iff_ne, bne_iff_ne, bne_eq_false_iff_eq, ne_eq, gt_iff_lt, ge_iff_le, Int.not_lt, Int.not_le, Bool.not_eq_true', Bool.not_eq_false', Bool.not_true, Bool.not_false, reduceCtorEq, Decidable.not_not, not_true_eq_false, Bool.true_eq_false, Bool.false_eq_true] at hc') <;> (try (exfalso; omega)) <;> refine goS ?_) | ((refine Z52 rfl (fun hc' => ?_) (fun hc' => ?_)) <;> (try simp only [decide_eq_true_eq, decide_eq_false_iff_not, beq_iff_eq, beq_eq_false_iff_ne, bne_iff_ne, bne_eq_false_iff_eq, ne_eq, gt_iff_lt, ge_iff_le, Int.not_lt, Int.not_le, Bool.not_eq_true', Bool.not_eq_false', Bool.not_true, Bool.not_false, reduceCtorEq, Decidable.not_not, not_true_eq_false, Bool.true_eq_false, Bool.false_eq_true] at hc') <;> (try (exfalso; omega)) <;> refine goS ?_)))
      refine WO_call rfl (l11Names_ret _ ns Fn w3 (hns.ext e0)) ?_
      rintro _ w4 ⟨rfl, e4⟩
      replace hs := hs.ext e4
      replace hr := hr.ext e4
      replace e0 := e0.trans e4
      have s4 := e4.size_le
      by_cases hno : renOk ns
      · rw [decide_eq_true hno]
        have hok : rnOk tl l ns := ⟨hv, hleq, hno⟩
        refine goS ?_
        refine W_held0E [] (RnIn 6 [(1, .slice An ns.length cn), (2, .pointer (some ⟨w.heap.size, 0, none⟩)), (4, .pointer (some ⟨w1.heap.size, 0, none⟩))] 62 26 3 tl.length (renL ns l) w4) (by kernel_rfl) (fun ws es hS => ?_) (fun τ w6 hT => ?_)
        · have hss := es.size_le
          have hsls := hs.ext es
          have ex := Ext.refl ws
          first | refine Z82 0 rfl (by kernel_rfl) (by kernel_rfl) (by kernel_rfl) (by assumption) (fun w' hw' => Z56 rfl) ?_ | refine Z82 0 rfl (by kernel_rfl) (by kernel_rfl) (by kernel_rfl) (by assumption) (fun w' hw' => Z63 rfl rfl) ?_ | refine Z82 0 rfl (by kernel_rfl) (by kernel_rfl) (by kernel_rfl) (by assumption) (fun w' hw' => Z64 rfl rfl) ?_ | refine Z82 0 rfl (by kernel_rfl) (by kernel_rfl) (by kernel_rfl) (by assumption) (fun w' hw' => Z75 rfl rfl (by omega)) ?_ | refine Z82 0 rfl (by kernel_rfl) (by kernel_rfl) (by kernel_rfl) (by assumption) (fun w' hw' => Z72 rfl) ?_ | refine Z82 0 rfl (by kernel_rfl) (by kernel_rfl) (by kernel_rfl) (by assumption) (fun w' hw' => Z69 rfl rfl rfl (by omega)) ?_ | refine Z82 0 rfl (by kernel_rfl) (by kernel_rfl) (by kernel_rfl) (by assumption) (fun w' hw' => Z30 rfl (by rfl) (by simp only [Z84, List.set_cons_zero, List.set_cons_succ]; rfl)) ?_
          refine Z82 1 rfl (by kernel_rfl) (by kernel_rfl) (by kernel_rfl) (by assumption) (fun w' hw' => Z66 rfl (hsls.chg hw' (by simp)) rfl) ?_
          first | refine Z82 2 rfl (by kernel_rfl) (by kernel_rfl) (by kernel_rfl) (by assumption) (fun w' hw' => Z56 rfl) ?_ | refine Z82 2 rfl (by kernel_rfl) (by kernel_rfl) (by kernel_rfl) (by assumption) (fun w' hw' => Z63 rfl rfl) ?_ | refine Z82 2 rfl (by kernel_rfl) (by kernel_rfl) (by kernel_rfl) (by assumption) (fun w' hw' => Z64 rfl rfl) ?_ | refine Z82 2 rfl (by kernel_rfl) (by kernel_rfl) (by kernel_rfl) (by assumption) (fun w' hw' => Z75 rfl rfl (by omega)) ?_ | refine Z82 2 rfl (by kernel_rfl) (by kernel_rfl) (by kernel_rfl) (by assumption) (fun w' hw' => Z72 rfl) ?_ | refine Z82 2 rfl (by kernel_rfl) (by kernel_rfl) (by kernel_rfl) (by assumption) (fun w' hw' => Z69 rfl rfl rfl (by omega)) ?_ | refine Z82 2 rfl (by kernel_rfl) (by kernel_rfl) (by kernel_rfl) (by assumption) (fun w' hw' => Z30 rfl (by rfl) (by simp only [Z84, List.set_cons_zero, List.set_cons_succ]; rfl)) ?_
          first | refine Z82 4 rfl (by kernel_rfl) (by kernel_rfl) (by kernel_rfl) (by assumption) (fun w' hw' => Z56 rfl) ?_ | refine Z82 4 rfl (by kernel_rfl) (by kernel_rfl) (by kernel_rfl) (by assumption) (fun w' hw' => Z63 rfl rfl) ?_ | refine Z82 4 rfl (by kernel_rfl) (by kernel_rfl) (by kernel_rfl) (by assumption) (fun w' hw' => Z64 rfl rfl) ?_ | refine Z82 4 rfl (by kernel_rfl) (by kernel_rfl) (by kernel_rfl) (by assumption) (fun w' hw' => Z75 rfl rfl (by omega)) ?_ | refine Z82 4 rfl (by kernel_rfl) (by kernel_rfl) (by kernel_rfl) (by assumption) (fun w' hw' => Z72 rfl) ?_ | refine Z82 4 rfl (by kernel_rfl) (by kernel_rfl) (by kernel_rfl) (by assumption) (fun w' hw' => Z69 rfl rfl rfl (by omega)) ?_ | refine Z82 4 rfl (by kernel_rfl) (by kernel_rfl) (by kernel_rfl) (by assumption) (fun w' hw' => Z30 rfl (by rfl) (by simp only [Z84, List.set_cons_zero, List.set_cons_succ]; rfl)) ?_
          refine Z82 5 rfl (by kernel_rfl) (by kernel_rfl) (by kernel_rfl) (by assumption) (fun w' hw' => Z66 rfl (hsls.chg hw' (by simp)) rfl) ?_
          first | refine Z82 6 rfl (by kernel_rfl) (by kernel_rfl) (by kernel_rfl) (by assumption) (fun w' hw' => Z56 rfl) ?_ | refine Z82 6 rfl (by kernel_rfl) (by kernel_rfl) (by kernel_rfl) (by assumption) (fun w' hw' => Z63 rfl rfl) ?_ | refine Z82 6 rfl (by kernel_rfl) (by kernel_rfl) (by kernel_rfl) (by assumption) (fun w' hw' => Z64 rfl rfl) ?_ | refine Z82 6 rfl (by kernel_rfl) (by kernel_rfl) (by kernel_rfl) (by assumption) (fun w' hw' => Z75 rfl rfl (by omega)) ?_ | refine Z82 6 rfl (by kernel_rfl) (by kernel_rfl) (by kernel_rfl) (by assumption) (fun w' hw' => Z72 rfl) ?_ | refine Z82 6 rfl (by kernel_rfl) (by kernel_rfl) (by kernel_rfl) (by assumption) (fun w' hw' => Z69 rfl rfl rfl (by omega)) ?_ | refine Z82 6 rfl (by kernel_rfl) (by kernel_rfl) (by kernel_rfl) (by assumption) (fun w' hw' => Z30 rfl (by rfl) (by simp only [Z84, List.set_cons_zero, List.set_cons_succ]; rfl)) ?_
          refine WH_three 3 7 9 rfl rfl rfl (by kernel_rfl) ?_ ?_ ?_
          · refine WO_make (e := 3) (k := 1) (m := tl.length) rfl rfl rfl rfl (by omega) (by decide) (by decide) fun wa hm ea za => Z31 (at_held ((ex.trans ea).chg _) ?_)
            try replace hm := Blk.ext hm ea
            try replace ho := Blk.ext ho ea
            try replace q2 := RowS.ext q2 ea
            replace ex := ex.trans ea
            have := Ext.size_le ea
            refine WH_two 7 9 rfl rfl (by kernel_rfl) ?_ ?_
            · refine WO_call rfl (l11Rename_all l _ F2 _ (tl, 4) ns _ Fn (StS.ext hb ((e0.trans es).trans ex)) (hns.ext ((e0.trans es).trans ex)) hok4 hleq.symm hn2) ?_
              rintro bv' wc ⟨⟨Fb, q2, n2, b2⟩, ec⟩
              refine Z31 (at_held ((ex.trans ec).chg _) ?_)
              have q2lt := q2.lt
              try replace hm := Blk.ext hm ec
              try replace ho := Blk.ext ho ec
              try replace q2 := RowS.ext q2 ec
              replace ex := ex.trans ec
              have := Ext.size_le ec
              have hone := q2.one
              have hS2 := Ext.chg ex []
              refine Z82 8 rfl (by kernel_rfl) (by kernel_rfl) (by kernel_rfl) (by assumption) (fun w' hw' => Z30 (cs := [.slice (some ⟨_, 0, none⟩) tl.length tl.length, bv']) rfl (by simp only [partsOk, hone]; rfl) rfl) ?_
              refine WH_one 9 rfl (by kernel_rfl) ?_
              refine WO_alloc fun wo ho eo zo => Z31 (at_held ((ex.trans eo).chg _) ?_)
              try replace hm := Blk.ext hm eo
              try replace ho := Blk.ext ho eo
              try replace q2 := RowS.ext q2 eo
              replace ex := ex.trans eo
              have := Ext.size_le eo
              refine WH_one 10 rfl (by kernel_rfl) (WO_storeS (k := 2) (vs := [.slice (some ⟨_, 0, none⟩) tl.length tl.length, bv']) rfl rfl rfl (by simp; exact ⟨rfl, hone⟩) ho (by decide) fun wf hf of_ => Z31 (at_held ((ex.only of_ (by omega)).chg _) ?_))
              refine WH_doneE (by kernel_rfl) (by repeat (first | exact True.intro | refine And.intro rfl ?_)) ⟨_, _, bv', Fb, rfl, by rw [← zeros_flat]; exact Blk.only hm of_ (by omega), q2.chg of_.chg (fun z hz hm2 => by simp only [List.mem_singleton] at hm2; have := b2 z hz; have := q2lt z hz; omega), n2, fun z hz => by have := b2 z hz; have := q2lt z hz; omega, by omega, by omega, by omega, hf, es.trans (ex.only of_ (by omega))⟩
            · refine WO_alloc fun wo ho eo zo => Z31 (at_held ((ex.trans eo).chg _) ?_)
              try replace hm := Blk.ext hm eo
              try replace ho := Blk.ext ho eo
              try replace q2 := RowS.ext q2 eo
              replace ex := ex.trans eo
              have := Ext.size_le eo
              refine WH_one 7 rfl (by kernel_rfl) ?_
              refine WO_call rfl (l11Rename_all l _ F2 _ (tl, 4) ns _ Fn (StS.ext hb ((e0.trans es).trans ex)) (hns.ext ((e0.trans es).trans ex)) hok4 hleq.symm hn2) ?_
              rintro bv' wc ⟨⟨Fb, q2, n2, b2⟩, ec⟩
              refine Z31 (at_held ((ex.trans ec).chg _) ?_)
              have q2lt := q2.lt
              try replace hm := Blk.ext hm ec
              try replace ho := Blk.ext ho ec
              try replace q2 := RowS.ext q2 ec
              replace ex := ex.trans ec
              have := Ext.size_le ec
              have hone := q2.one
              have hS2 := Ext.chg ex []
              refine Z82 8 rfl (by kernel_rfl) (by kernel_rfl) (by kernel_rfl) (by assumption) (fun w' hw' => Z30 (cs := [.slice (some ⟨_, 0, none⟩) tl.length tl.length, bv']) rfl (by simp only [partsOk, hone]; rfl) rfl) ?_
              refine WH_one 10 rfl (by kernel_rfl) (WO_storeS (k := 2) (vs := [.slice (some ⟨_, 0, none⟩) tl.length tl.length, bv']) rfl rfl rfl (by simp; exact ⟨rfl, hone⟩) ho (by decide) fun wf hf of_ => Z31 (at_held ((ex.only of_ (by omega)).chg _) ?_))
              refine WH_doneE (by kernel_rfl) (by repeat (first | exact True.intro | refine And.intro rfl ?_)) ⟨_, _, bv', Fb, rfl, by rw [← zeros_flat]; exact Blk.only hm of_ (by omega), q2.chg of_.chg (fun z hz hm2 => by simp only [List.mem_singleton] at hm2; have := b2 z hz; have := q2lt z hz; omega), n2, fun z hz => by have := b2 z hz; have := q2lt z hz; omega, by omega, by omega, by omega, hf, es.trans (ex.only of_ (by omega))⟩
          · refine WO_call rfl (l11Rename_all l _ F2 _ (tl, 4) ns _ Fn (StS.ext hb ((e0.trans es).trans ex)) (hns.ext ((e0.trans es).trans ex)) hok4 hleq.symm hn2) ?_
            rintro bv' wc ⟨⟨Fb, q2, n2, b2⟩, ec⟩
            refine Z31 (at_held ((ex.trans ec).chg _) ?_)
            have q2lt := q2.lt
            try replace hm := Blk.ext hm ec
            try replace ho := Blk.ext ho ec
            try replace q2 := RowS.ext q2 ec
            replace ex := ex.trans ec
            have := Ext.size_le ec
            refine WH_two 3 9 rfl rfl (by kernel_rfl) ?_ ?_
            · refine WO_make (e := 3) (k := 1) (m := tl.length) rfl rfl rfl rfl (by omega) (by decide) (by decide) fun wa hm ea za => Z31 (at_held ((ex.trans ea).chg _) ?_)
              try replace hm := Blk.ext hm ea
              try replace ho := Blk.ext ho ea
              try replace q2 := RowS.ext q2 ea
              replace ex := ex.trans ea
              have := Ext.size_le ea
              have hone := q2.one
              have hS2 := Ext.chg ex []
              refine Z82 8 rfl (by kernel_rfl) (by kernel_rfl) (by kernel_rfl) (by assumption) (fun w' hw' => Z30 (cs := [.slice (some ⟨_, 0, none⟩) tl.length tl.length, bv']) rfl (by simp only [partsOk, hone]; rfl) rfl) ?_
              refine WH_one 9 rfl (by kernel_rfl) ?_
              refine WO_alloc fun wo ho eo zo => Z31 (at_held ((ex.trans eo).chg _) ?_)
              try replace hm := Blk.ext hm eo
              try replace ho := Blk.ext ho eo
              try replace q2 := RowS.ext q2 eo
              replace ex := ex.trans eo
              have := Ext.size_le eo
              refine WH_one 10 rfl (by kernel_rfl) (WO_storeS (k := 2) (vs := [.slice (some ⟨_, 0, none⟩) tl.length tl.length, bv']) rfl rfl rfl (by simp; exact ⟨rfl, hone⟩) ho (by decide) fun wf hf of_ => Z31 (at_held ((ex.only of_ (by omega)).chg _) ?_))
              refine WH_doneE (by kernel_rfl) (by repeat (first | exact True.intro | refine And.intro rfl ?_)) ⟨_, _, bv', Fb, rfl, by rw [← zeros_flat]; exact Blk.only hm of_ (by omega), q2.chg of_.chg (fun z hz hm2 => by simp only [List.mem_singleton] at hm2; have := b2 z hz; have := q2lt z hz; omega), n2, fun z hz => by have := b2 z hz; have := q2lt z hz; omega, by omega, by omega, by omega, hf, es.trans (ex.only of_ (by omega))⟩
            · refine WO_alloc fun wo ho eo zo => Z31 (at_held ((ex.trans eo).chg _) ?_)
              try replace hm := Blk.ext hm eo
              try replace ho := Blk.ext ho eo
              try replace q2 := RowS.ext q2 eo
              replace ex := ex.trans eo
              have := Ext.size_le eo
              refine WH_one 3 rfl (by kernel_rfl) ?_
              refine WO_make (e := 3) (k := 1) (m := tl.length) rfl rfl rfl rfl (by omega) (by decide) (by decide) fun wa hm ea za => Z31 (at_held ((ex.trans ea).chg _) ?_)
              try replace hm := Blk.ext hm ea
              try replace ho := Blk.ext ho ea
              try replace q2 := RowS.ext q2 ea
              replace ex := ex.trans ea
              have := Ext.size_le ea
              have hone := q2.one
              have hS2 := Ext.chg ex []
              refine Z82 8 rfl (by kernel_rfl) (by kernel_rfl) (by kernel_rfl) (by assumption) (fun w' hw' => Z30 (cs := [.slice (some ⟨_, 0, none⟩) tl.length tl.length, bv']) rfl (by simp only [partsOk, hone]; rfl) rfl) ?_
              refine WH_one 10 rfl (by kernel_rfl) (WO_storeS (k := 2) (vs := [.slice (some ⟨_, 0, none⟩) tl.length tl.length, bv']) rfl rfl rfl (by simp; exact ⟨rfl, hone⟩) ho (by decide) fun wf hf of_ => Z31 (at_held ((ex.only of_ (by omega)).chg _) ?_))
              refine WH_doneE (by kernel_rfl) (by repeat (first | exact True.intro | refine And.intro rfl ?_)) ⟨_, _, bv', Fb, rfl, by rw [← zeros_flat]; exact Blk.only hm of_ (by omega), q2.chg of_.chg (fun z hz hm2 => by simp only [List.mem_singleton] at hm2; have := b2 z hz; have := q2lt z hz; omega), n2, fun z hz => by have := b2 z hz; have := q2lt z hz; omega, by omega, by omega, by omega, hf, es.trans (ex.only of_ (by omega))⟩
          · refine WO_alloc fun wo ho eo zo => Z31 (at_held ((ex.trans eo).chg _) ?_)
            try replace hm := Blk.ext hm eo
            try replace ho := Blk.ext ho eo
            try replace q2 := RowS.ext q2 eo
            replace ex := ex.trans eo
            have := Ext.size_le eo
            refine WH_two 3 7 rfl rfl (by kernel_rfl) ?_ ?_
            · refine WO_make (e := 3) (k := 1) (m := tl.length) rfl rfl rfl rfl (by omega) (by decide) (by decide) fun wa hm ea za => Z31 (at_held ((ex.trans ea).chg _) ?_)
              try replace hm := Blk.ext hm ea
              try replace ho := Blk.ext ho ea
              try replace q2 := RowS.ext q2 ea
              replace ex := ex.trans ea
              have := Ext.size_le ea
              refine WH_one 7 rfl (by kernel_rfl) ?_
              refine WO_call rfl (l11Rename_all l _ F2 _ (tl, 4) ns _ Fn (StS.ext hb ((e0.trans es).trans ex)) (hns.ext ((e0.trans es).trans ex)) hok4 hleq.symm hn2) ?_
              rintro bv' wc ⟨⟨Fb, q2, n2, b2⟩, ec⟩
              refine Z31 (at_held ((ex.trans ec).chg _) ?_)
              have q2lt := q2.lt
              try replace hm := Blk.ext hm ec
              try replace ho := Blk.ext ho ec
              try replace q2 := RowS.ext q2 ec
              replace ex := ex.trans ec
              have := Ext.size_le ec
              have hone := q2.one
              have hS2 := Ext.chg ex []
              refine Z82 8 rfl (by kernel_rfl) (by kernel_rfl) (by kernel_rfl) (by assumption) (fun w' hw' => Z30 (cs := [.slice (some ⟨_, 0, none⟩) tl.length tl.length, bv']) rfl (by simp only [partsOk, hone]; rfl) rfl) ?_
              refine WH_one 10 rfl (by kernel_rfl) (WO_storeS (k := 2) (vs := [.slice (some ⟨_, 0, none⟩) tl.length tl.length, bv']) rfl rfl rfl (by simp; exact ⟨rfl, hone⟩) ho (by decide) fun wf hf of_ => Z31 (at_held ((ex.only of_ (by omega)).chg _) ?_))
              refine WH_doneE (by kernel_rfl) (by repeat (first | exact True.intro | refine And.intro rfl ?_)) ⟨_, _, bv', Fb, rfl, by rw [← zeros_flat]; exact Blk.only hm of_ (by omega), q2.chg of_.chg (fun z hz hm2 => by simp only [List.mem_singleton] at hm2; have := b2 z hz; have := q2lt z hz; omega), n2, fun z hz => by have := b2 z hz; have := q2lt z hz; omega, by omega, by omega, by omega, hf, es.trans (ex.only of_ (by omega))⟩
            · refine WO_call rfl (l11Rename_all l _ F2 _ (tl, 4) ns _ Fn (StS.ext hb ((e0.trans es).trans ex)) (hns.ext ((e0.trans es).trans ex)) hok4 hleq.symm hn2) ?_
              rintro bv' wc ⟨⟨Fb, q2, n2, b2⟩, ec⟩
              refine Z31 (at_held ((ex.trans ec).chg _) ?_)
              have q2lt := q2.lt
              try replace hm := Blk.ext hm ec
              try replace ho := Blk.ext ho ec
              try replace q2 := RowS.ext q2 ec
              replace ex := ex.trans ec
              have := Ext.size_le ec
              refine WH_one 3 rfl (by kernel_rfl) ?_
              refine WO_make (e := 3) (k := 1) (m := tl.length) rfl rfl rfl rfl (by omega) (by decide) (by decide) fun wa hm ea za => Z31 (at_held ((ex.trans ea).chg _) ?_)
              try replace hm := Blk.ext hm ea
              try replace ho := Blk.ext ho ea
              try replace q2 := RowS.ext q2 ea
              replace ex := ex.trans ea
              have := Ext.size_le ea
              have hone := q2.one
              have hS2 := Ext.chg ex []
              refine Z82 8 rfl (by kernel_rfl) (by kernel_rfl) (by kernel_rfl) (by assumption) (fun w' hw' => Z30 (cs := [.slice (some ⟨_, 0, none⟩) tl.length tl.length, bv']) rfl (by simp only [partsOk, hone]; rfl) rfl) ?_
              refine WH_one 10 rfl (by kernel_rfl) (WO_storeS (k := 2) (vs := [.slice (some ⟨_, 0, none⟩) tl.length tl.length, bv']) rfl rfl rfl (by simp; exact ⟨rfl, hone⟩) ho (by decide) fun wf hf of_ => Z31 (at_held ((ex.only of_ (by omega)).chg _) ?_))
              refine WH_doneE (by kernel_rfl) (by repeat (first | exact True.intro | refine And.intro rfl ?_)) ⟨_, _, bv', Fb, rfl, by rw [← zeros_flat]; exact Blk.only hm of_ (by omega), q2.chg of_.chg (fun z hz hm2 => by simp only [List.mem_singleton] at hm2; have := b2 z hz; have := q2lt z hz; omega), n2, fun z hz => by have := b2 z hz; have := q2lt z hz; omega, by omega, by omega, by omega, hf, es.trans (ex.only of_ (by omega))⟩
        · obtain ⟨tb, ob, bv', Fb, rfl, hm, q2, n2, b2, htb, hob, htob, ho6, e6⟩ := hT
          replace hs := hs.ext e6
          replace hr := hr.ext e6
          replace e0 := e0.trans e6
          have s6 := ho6.lt
          have s6' := hm.lt
          have hone := q2.one
          rw [← hleq] at hm ho6
          refine goS ?_
          refine W_loop (α := Nat) (fun v => [(1, .slice An ns.length cn), (2, .pointer (some ⟨w.heap.size, 0, none⟩)), (4, .pointer (some ⟨w1.heap.size, 0, none⟩)), (6, .pointer (some ⟨ob, 0, none⟩)), (7, .int .i64 (v : Int))])
            (fun v w' => v ≤ ns.length ∧ Blk w' tb ((setTo ns tl v).map (.int .i64)) 3 ∧ Chg [tb] w6 w') (fun v => ns.length - v) 0 (by repeat (first | exact True.intro | refine And.intro rfl ?_)) ⟨Nat.zero_le _, hm, Chg.refl _ _⟩ ?_
          rintro v wl ⟨hvn, hml, hcl2⟩
          have hsl := hs.chg hcl2 (by simp; omega)
          have hol := ho6.chg hcl2 (by simp; omega)
          replace hr := hr.chg hcl2 (by simp; omega)
          have e0l : Ext w wl := hcl2.ext_of e0 (by simp; omega)
          refine goS ?_
          refine Z52 rfl (fun hc => ?_) (fun hc => ?_)
          · have hvlt : v < ns.length := by simpa using hc
            have hvt : v < tl.length := by omega
            obtain ⟨bn, on, rfl, _, hcell⟩ := int_at hxn hvlt
            have hbn := World.block_lt_of_cell? w _ hcell
            replace hcell := cell_ext hcell e0l
            obtain ⟨bt, ot, rfl, _, hcellt⟩ := int_at hxt hvt
            have hbt := World.block_lt_of_cell? w _ hcellt
            replace hcellt := cell_ext hcellt e0l
            simp only at hbn hbt
            have hin := hno.1 _ (List.getElem_mem hvlt)
            obtain ⟨j, hj⟩ := Int.eq_ofNat_of_zero_le hin.1
            have hjn : j < ns.length := by omega
            have hsetl := setTo_length ns tl v
            refine goS ?_
            refine W_held0 [tb] [(1, .slice (some ⟨bn, on, none⟩) ns.length cn), (2, .pointer (some ⟨w.heap.size, 0, none⟩)), (4, .pointer (some ⟨w1.heap.size, 0, none⟩)), (6, .pointer (some ⟨ob, 0, none⟩)), (7, .int .i64 (v : Int))] (fun w' => Blk w' tb ((setTo ns tl (v + 1)).map (.int .i64)) 3 ∧ Chg [tb] w6 w') (by kernel_rfl) (fun ws es hS => ?_) (fun w8 hR => ?_)
            · have hmls := hml.ext es
              have hols := hol.ext es
              have hsls := hsl.ext es
              first | refine Z82 0 rfl (by kernel_rfl) (by kernel_rfl) (by kernel_rfl) (by assumption) (fun w' hw' => Z56 rfl) ?_ | refine Z82 0 rfl (by kernel_rfl) (by kernel_rfl) (by kernel_rfl) (by assumption) (fun w' hw' => Z63 rfl rfl) ?_ | refine Z82 0 rfl (by kernel_rfl) (by kernel_rfl) (by kernel_rfl) (by assumption) (fun w' hw' => Z64 rfl rfl) ?_ | refine Z82 0 rfl (by kernel_rfl) (by kernel_rfl) (by kernel_rfl) (by assumption) (fun w' hw' => Z75 rfl rfl (by omega)) ?_ | refine Z82 0 rfl (by kernel_rfl) (by kernel_rfl) (by kernel_rfl) (by assumption) (fun w' hw' => Z72 rfl) ?_ | refine Z82 0 rfl (by kernel_rfl) (by kernel_rfl) (by kernel_rfl) (by assumption) (fun w' hw' => Z69 rfl rfl rfl (by omega)) ?_ | refine Z82 0 rfl (by kernel_rfl) (by kernel_rfl) (by kernel_rfl) (by assumption) (fun w' hw' => Z30 rfl (by rfl) (by simp only [Z84, List.set_cons_zero, List.set_cons_succ]; rfl)) ?_
              refine Z82 1 rfl (by kernel_rfl) (by kernel_rfl) (by kernel_rfl) (by assumption) (fun w' hw' => Z66 rfl (hols.chg hw' (by simp; omega)) rfl) ?_
              first | refine Z82 2 rfl (by kernel_rfl) (by kernel_rfl) (by kernel_rfl) (by assumption) (fun w' hw' => Z56 rfl) ?_ | refine Z82 2 rfl (by kernel_rfl) (by kernel_rfl) (by kernel_rfl) (by assumption) (fun w' hw' => Z63 rfl rfl) ?_ | refine Z82 2 rfl (by kernel_rfl) (by kernel_rfl) (by kernel_rfl) (by assumption) (fun w' hw' => Z64 rfl rfl) ?_ | refine Z82 2 rfl (by kernel_rfl) (by kernel_rfl) (by kernel_rfl) (by assumption) (fun w' hw' => Z75 rfl rfl (by omega)) ?_ | refine Z82 2 rfl (by kernel_rfl) (by kernel_rfl) (by kernel_rfl) (by assumption) (fun w' hw' => Z72 rfl) ?_ | refine Z82 2 rfl (by kernel_rfl) (by kernel_rfl) (by kernel_rfl) (by assumption) (fun w' hw' => Z69 rfl rfl rfl (by omega)) ?_ | refine Z82 2 rfl (by kernel_rfl) (by kernel_rfl) (by kernel_rfl) (by assumption) (fun w' hw' => Z30 rfl (by rfl) (by simp only [Z84, List.set_cons_zero, List.set_cons_succ]; rfl)) ?_
              first | refine Z82 3 rfl (by kernel_rfl) (by kernel_rfl) (by kernel_rfl) (by assumption) (fun w' hw' => Z56 rfl) ?_ | refine Z82 3 rfl (by kernel_rfl) (by kernel_rfl) (by kernel_rfl) (by assumption) (fun w' hw' => Z63 rfl rfl) ?_ | refine Z82 3 rfl (by kernel_rfl) (by kernel_rfl) (by kernel_rfl) (by assumption) (fun w' hw' => Z64 rfl rfl) ?_ | refine Z82 3 rfl (by kernel_rfl) (by kernel_rfl) (by kernel_rfl) (by assumption) (fun w' hw' => Z75 rfl rfl (by omega)) ?_ | refine Z82 3 rfl (by kernel_rfl) (by kernel_rfl) (by kernel_rfl) (by assumption) (fun w' hw' => Z72 rfl) ?_ | refine Z82 3 rfl (by kernel_rfl) (by kernel_rfl) (by kernel_rfl) (by assumption) (fun w' hw' => Z69 rfl rfl rfl (by omega)) ?_ | refine Z82 3 rfl (by kernel_rfl) (by kernel_rfl) (by kernel_rfl) (by assumption) (fun w' hw' => Z30 rfl (by rfl) (by simp only [Z84, List.set_cons_zero, List.set_cons_succ]; rfl)) ?_
              refine Z82 4 rfl (by kernel_rfl) (by kernel_rfl) (by kernel_rfl) (by assumption) (fun w' hw' => Z69 (j := v) rfl rfl rfl hvlt) ?_
              refine Z82 5 rfl (by kernel_rfl) (by kernel_rfl) (by kernel_rfl) (by assumption) (fun w' hw' => Z67 rfl (cell_chg (cell_ext hcell es) hw' (by simp; omega))) ?_
              first | refine Z82 6 rfl (by kernel_rfl) (by kernel_rfl) (by kernel_rfl) (by assumption) (fun w' hw' => Z56 rfl) ?_ | refine Z82 6 rfl (by kernel_rfl) (by kernel_rfl) (by kernel_rfl) (by assumption) (fun w' hw' => Z63 rfl rfl) ?_ | refine Z82 6 rfl (by kernel_rfl) (by kernel_rfl) (by kernel_rfl) (by assumption) (fun w' hw' => Z64 rfl rfl) ?_ | refine Z82 6 rfl (by kernel_rfl) (by kernel_rfl) (by kernel_rfl) (by assumption) (fun w' hw' => Z75 rfl rfl (by omega)) ?_ | refine Z82 6 rfl (by kernel_rfl) (by kernel_rfl) (by kernel_rfl) (by assumption) (fun w' hw' => Z72 rfl) ?_ | refine Z82 6 rfl (by kernel_rfl) (by kernel_rfl) (by kernel_rfl) (by assumption) (fun w' hw' => Z69 rfl rfl rfl (by omega)) ?_ | refine Z82 6 rfl (by kernel_rfl) (by kernel_rfl) (by kernel_rfl) (by assumption) (fun w' hw' => Z30 rfl (by rfl) (by simp only [Z84, List.set_cons_zero, List.set_cons_succ]; rfl)) ?_
              refine Z82 7 rfl (by kernel_rfl) (by kernel_rfl) (by kernel_rfl) (by assumption) (fun w' hw' => Z66 rfl (hsls.chg hw' (by simp; omega)) rfl) ?_
              first | refine Z82 8 rfl (by kernel_rfl) (by kernel_rfl) (by kernel_rfl) (by assumption) (fun w' hw' => Z56 rfl) ?_ | refine Z82 8 rfl (by kernel_rfl) (by kernel_rfl) (by kernel_rfl) (by assumption) (fun w' hw' => Z63 rfl rfl) ?_ | refine Z82 8 rfl (by kernel_rfl) (by kernel_rfl) (by kernel_rfl) (by assumption) (fun w' hw' => Z64 rfl rfl) ?_ | refine Z82 8 rfl (by kernel_rfl) (by kernel_rfl) (by kernel_rfl) (by assumption) (fun w' hw' => Z75 rfl rfl (by omega)) ?_ | refine Z82 8 rfl (by kernel_rfl) (by kernel_rfl) (by kernel_rfl) (by assumption) (fun w' hw' => Z72 rfl) ?_ | refine Z82 8 rfl (by kernel_rfl) (by kernel_rfl) (by kernel_rfl) (by assumption) (fun w' hw' => Z69 rfl rfl rfl (by omega)) ?_ | refine Z82 8 rfl (by kernel_rfl) (by kernel_rfl) (by kernel_rfl) (by assumption) (fun w' hw' => Z30 rfl (by rfl) (by simp only [Z84, List.set_cons_zero, List.set_cons_succ]; rfl)) ?_
              refine Z82 9 rfl (by kernel_rfl) (by kernel_rfl) (by kernel_rfl) (by assumption) (fun w' hw' => Z69 (j := v) rfl rfl rfl hvt) ?_
              refine Z82 10 rfl (by kernel_rfl) (by kernel_rfl) (by kernel_rfl) (by assumption) (fun w' hw' => Z67 rfl (cell_chg (cell_ext hcellt es) hw' (by simp; omega))) ?_
              refine Z82 11 rfl (by kernel_rfl) (by kernel_rfl) (by kernel_rfl) (by assumption) (fun w' hw' => Z69 (j := j) rfl rfl hj hjn) ?_
              refine WH_one 12 rfl (by kernel_rfl) (WO_store1 rfl rfl rfl hmls (by simp; omega) fun wf hf of_ => Z31 (at_held of_.chg ?_))
              refine WH_done (by kernel_rfl) (by repeat (first | exact True.intro | refine And.intro rfl ?_)) ⟨?_, hcl2.trans ((es.chg _).trans of_.chg)⟩
              have hset : ((setTo ns tl v).map (Value.int .i64)).set (0 + j * 1) (.int .i64 tl[v]) = (setTo ns tl (v + 1)).map (.int .i64) := by
                simp only [setTo, List.map_set]
                rw [List.getD_eq_getElem?_getD, List.getElem?_eq_getElem hvlt, List.getD_eq_getElem?_getD, List.getElem?_eq_getElem hvt]
                simp [hj]
              rw [← hset]
              exact hf
            · obtain ⟨hm8, c8⟩ := hR
              refine goS ?_
              exact at_loop (v + 1) (by repeat (first | exact True.intro | refine And.intro rfl ?_)) ⟨by omega, hm8, c8⟩ (by omega)
          · have hge : v = ns.length := by simp at hc; omega
            subst hge
            have hsetl := setTo_length ns tl ns.length
            have sl := hcl2.size
            replace q2 := q2.chg hcl2 (fun z hz hm2 => by simp only [List.mem_singleton] at hm2; have := b2 z hz; omega)
            refine goS ?_
            refine WO_loadSB rfl hol rfl ?_
            refine WO_storeS (k := 2) (vs := [.slice (some ⟨tb, 0, none⟩) ns.length ns.length, bv']) rfl rfl rfl (by simp; exact ⟨rfl, hone⟩) hr (by decide) fun wb hrb obb => ?_
            replace hrb : Blk wb w1.heap.size [.slice (some ⟨tb, 0, none⟩) ns.length ns.length, bv'] _ := hrb
            replace hml := hml.only obb (by omega)
            refine goS ?_
            refine at_ret2G rfl (.cell inferInstance rfl hrb rfl) (.tmp rfl) ?_
            unfold rnT rnB
            rw [if_pos hok, if_pos hok, decide_eq_true hok]
            refine PrB.some_ (Ft := [tb]) ⟨_, ns.length, by rw [hsetl], ⟨by rw [hsetl]; unfold maxI; omega, by rw [hsetl]; exact Nat.le_refl _⟩, .inr ⟨_, 0, _, _, rfl, rfl, hml, by simp, fun i x hi => by simp [hi]⟩⟩ (q2.chg obb.chg (fun z hz hm2 => by simp only [List.mem_singleton] at hm2; have := b2 _ hz; omega)) ?_ ?_ (e0l.only obb (by omega))
            · simp only [List.singleton_append, List.nodup_cons]
              exact ⟨fun hm2 => (b2 _ hm2).2.1 rfl, n2⟩
            · intro z hz
              simp only [List.singleton_append, List.mem_cons] at hz
              rcases hz with rfl | hz
              · omega
              · have := b2 _ hz; omega
      · rw [decide_eq_false hno]
        refine goS ?_
        have hbad : ¬ rnOk tl l ns := (fun h => hno h.2.2)
        refine WO_storeS (k := 2) (vs := [.slice none 0 0, .slice none 0 0]) rfl rfl rfl (by intro v hv; simp at hv; subst hv; rfl) hr (by decide) fun wz hz oz => ?_
        replace hz : Blk wz w1.heap.size [.slice none 0 0, .slice none 0 0] _ := hz
        refine goS ?_
        exact at_ret2G rfl (.cell inferInstance rfl hz rfl) (.tmp rfl) (by unfold rnT rnB; rw [if_neg hbad, if_neg hbad, decide_eq_false hbad]; exact PrB.none_ (Ext.only e0 oz s1))
    · (refine goS ?_; repeat' (first | ((refine Z51 rfl rfl (fun c' hc' => ?_)); cases c' <;> (try simp only [decide_eq_true_eq, decide_eq_false_iff_not, beq_iff_eq, beq_eq_false_iff_ne, bne_iff_ne, bne_eq_false_iff_eq, ne_eq, gt_iff_lt, ge_iff_le, Int.not_lt, Int.not_le, Bool.not_eq_true', Bool.not_eq_false', Bool.not_true, Bool.not_false, reduceCtorEq, Decidable.not_not, not_true_eq_false, Bool.true_eq_false, Bool.false_eq_true] at hc') <;> (try (exfalso; omega)) <;> refine goS ?_) | ((refine Z52 rfl (fun hc' => ?_) (fun hc' => ?_)) <;> (try simp only [decide_eq_true_eq, decide_eq_false_iff_not, beq_iff_eq, beq_eq_false_iff_ne, bne_iff_ne, bne_eq_false_iff_eq, ne_eq, gt_iff_lt, ge_iff_le, Int.not_lt, Int.not_le, Bool.not_eq_true', Bool.not_eq_false', Bool.not_true, Bool.not_false, reduceCtorEq, Decidable.not_not, not_true_eq_false, Bool.true_eq_false, Bool.false_eq_true] at hc') <;> (try (exfalso; omega)) <;> refine goS ?_)))
      all_goals
        have hbad : ¬ rnOk tl l ns := (fun h => hleq h.2.1)
        refine WO_storeS (k := 2) (vs := [.slice none 0 0, .slice none 0 0]) rfl rfl rfl (by intro v hv; simp at hv; subst hv; rfl) hr (by decide) fun wz hz oz => ?_
        replace hz : Blk wz w1.heap.size [.slice none 0 0, .slice none 0 0] _ := hz
        refine goS ?_
        exact at_ret2G rfl (.cell inferInstance rfl hz rfl) (.tmp rfl) (by unfold rnT rnB; rw [if_neg hbad, if_neg hbad, decide_eq_false hbad]; exact PrB.none_ (Ext.only e0 oz s1))
end Go.Proofs.Ytpmgfokcbgdegaa
