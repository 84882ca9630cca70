/-
  What is proved here: the program's renaming of variables.
-/
import Derived.Test.YtpmgfokcbgdegaaRenP
import Derived.Test.YtpmgfokcbgdegaaVars
namespace Go.Proofs.Ytpmgfokcbgdegaa
set_option linter.unusedVariables false
set_option linter.unusedSimpArgs false
set_option linter.unnecessarySimpa false
open Go.RowKit

theorem nm_at {ns : List Int} {x : Int} (h : 0 ≤ x ∧ x < (ns.length : Int)) : ∃ j : Nat, x = (j : Int) ∧ ∃ hj : j < ns.length, nmL ns x = ns[j] := by
  obtain ⟨j, rfl⟩ := Int.eq_ofNat_of_zero_le h.1
  have hj : j < ns.length := by omega
  refine ⟨j, rfl, hj, ?_⟩
  unfold nmL
  rw [Int.toNat_natCast, List.getD_eq_getElem?_getD, List.getElem?_eq_getElem hj]
  rfl
def RnP (l : Ss) : Prop := ∀ v F w (d : List Int × Nat) ns vn Fn, StS w v l F → IntF w vn ns Fn → okL d.1 d.2 l = true → d.1.length = ns.length → cntL l ≤ 1048576 → Ret Try.prog 34 [v, vn] w (NewS 62 (renL ns l) w)
theorem renamed_all (l : Ss) : RnP l := Ss.strong (fun l ih => by
  intro v F w d ns vn Fn h hns hok htl hn
  obtain ⟨tl, dp⟩ := d
  simp only at hok htl
  have hvn := hns
  obtain ⟨An, cn, rfl, hln, hxn⟩ := hvn
  unfold maxI at hln
  obtain ⟨A, c, rfl, hl, _⟩ := h.slice
  have hst := restS_start h
  unfold maxI at hl
  have hlc := len_le_cntL l
  refine enter Try.func34 rfl Try.ntmps34 rfl rfl ?_
  refine goS ?_
  refine W_loop (α := Nat × Ss × Ss × Value) (fun p => [(1, .slice An ns.length cn), (5, p.2.2.2), (8, .slice A l.len c), (9, .int .i64 (l.len : Int)), (10, .int .i64 (p.1 : Int))])
    (fun p w' => p.2.1.app p.2.2.1 = l ∧ p.2.1.len = p.1 ∧ okL tl dp p.2.2.1 = true ∧ RestS w A p.1 p.2.2.1 ∧ GrowS 62 (renL ns p.2.1) w p.2.2.2 w') (fun p => p.2.2.1.len) (0, .nil, l, _) (by repeat (first | exact True.intro | refine And.intro rfl ?_))
    ⟨rfl, rfl, hok, hst, ⟨[], [], World.ownsRow_nil _ _ _ _, ⟨rfl, rfl⟩, by simp [Value.ownBlock], by simp [Value.ownBlock]⟩, Ext.refl _⟩ ?_
  rintro ⟨i, d, r, vo⟩ w1 ⟨hap, hdl, hokr, hr, hgr, he⟩
  simp only at hap hdl hokr hr hgr ⊢
  have hlen : d.len + r.len = l.len := by rw [← hap, Ss.len_app]
  have hcn : cntL d + cntL r = cntL l := by rw [← hap, cntL_app]
  refine goS ?_
  refine Z52 rfl (fun hc => ?_) (fun hc => ?_)
  · have hlt : i < l.len := by simpa using hc
    obtain ⟨xs, Fs, r1, r2, r3, r4⟩ := hgr
    cases r with
    | nil => simp only [Ss.len] at hlen; omega
    | cons op x y n t e r =>
      obtain ⟨b, o, vt, ve, Ft, Fe, rfl, hcells, hT, hE, hrest⟩ := restS_cons hr
      simp only [Ss.len, cntL] at hlen hcn
      rw [okL_cons, Bool.and_eq_true] at hokr
      have hvars := okS_vars hokr.1
      have hsub : ∃ dd, okL tl dd t = true ∧ okL tl dd e = true := by
        rcases hvars with ⟨_, h1, h2⟩ | ⟨_, _, _, rfl, rfl⟩
        · exact ⟨_, h1, h2⟩
        · exact ⟨0, rfl, rfl⟩
      obtain ⟨dd0, hokt0, hoke0⟩ := hsub
      have hxin : 1 ≤ op ∧ op ≤ 8 → 0 ≤ x ∧ x < (ns.length : Int) := fun h => by
        rcases hvars with ⟨h9, _⟩ | ⟨_, h1, _⟩
        · omega
        · rw [← htl]; exact h1
      have hyin : 3 ≤ op ∧ op ≤ 7 → 0 ≤ y ∧ y < (ns.length : Int) := fun h => by
        rcases hvars with ⟨h9, _⟩ | ⟨_, _, h1, _⟩
        · omega
        · rw [← htl]; exact h1 h
      refine goS ?_
      refine Z83 rfl rfl rfl hlt ?_
      refine WO_loadS rfl rfl (fun j u hu => cell_ext (hcells j u hu) he) ?_
      refine WO_alloc fun w2 hb2 he2 hz2 => ?_
      refine WO_storeS rfl rfl rfl (stmt_one hT hE op x y n) hb2 (by simp [Value.cells]) fun w3 hb3 ho3 => ?_
      replace hb3 : Blk w3 w1.heap.size [Value.int .i64 op, .int .i64 x, .int .i64 y, .int .i64 n, vt, ve] _ := hb3
      have he3 : Ext w1 w3 := he2.only ho3 (Nat.le_refl _)
      have he03 := he.trans he3
      have hlt3 := hb3.lt
      clear hb2
      refine goS ?_
      refine WO_call rfl (within_ret op 1 8 w3) ?_
      rintro _ wz ⟨rfl, rfl⟩
      refine goS ?_
      refine W_cut [(1, .slice An ns.length cn), (5, vo), (7, .pointer (some ⟨w1.heap.size, 0, none⟩)), (8, .slice (some ⟨b, o, none⟩) l.len c), (9, .int .i64 (l.len : Int)), (10, .int .i64 (i : Int))]
        (fun w' => Blk w' w1.heap.size [Value.int .i64 op, .int .i64 (if 1 ≤ op ∧ op ≤ 8 then nmL ns x else x), .int .i64 y, .int .i64 n, vt, ve] 62 ∧ Ext w1 w') ?_ (fun w4 hR => ?_)
      · by_cases h18 : 1 ≤ op ∧ op ≤ 8
        · rw [decide_eq_true h18, if_pos h18]
          obtain ⟨j, rfl, hj, hnm⟩ := nm_at (hxin h18)
          obtain ⟨bn, on, rfl, _, hcell⟩ := int_at hxn hj
          replace hcell := cell_ext hcell he03
          rw [hnm]
          refine goS ?_
          refine Z83 (j := j) rfl rfl rfl hj ?_
          refine goS ?_
          refine WO_store1 rfl rfl rfl hb3 (by simp) fun w5 hb5 o5 => ?_
          simp only [List.set_cons_zero, List.set_cons_succ] at hb5
          refine goS ?_
          exact at_meets (by repeat (first | exact True.intro | refine And.intro rfl ?_)) ⟨hb5, he3.only o5 (Nat.le_refl _)⟩
        · rw [decide_eq_false h18, if_neg h18]
          refine goS ?_
          exact at_meets (by repeat (first | exact True.intro | refine And.intro rfl ?_)) ⟨hb3, he3⟩
      obtain ⟨hb4, he4⟩ := hR
      clear hb3
      have he04' := he.trans he4
      generalize hX : (if 1 ≤ op ∧ op ≤ 8 then nmL ns x else x) = X at *
      refine goS ?_
      refine WO_call rfl (within_ret op 3 7 w4) ?_
      rintro _ wz ⟨rfl, rfl⟩
      refine goS ?_
      refine W_cut [(1, .slice An ns.length cn), (5, vo), (7, .pointer (some ⟨w1.heap.size, 0, none⟩)), (8, .slice (some ⟨b, o, none⟩) l.len c), (9, .int .i64 (l.len : Int)), (10, .int .i64 (i : Int))]
        (fun w' => Blk w' w1.heap.size [Value.int .i64 op, .int .i64 X, .int .i64 (if 3 ≤ op ∧ op ≤ 7 then nmL ns y else y), .int .i64 n, vt, ve] 62 ∧ Ext w1 w') ?_ (fun w5 hR => ?_)
      · by_cases h37 : 3 ≤ op ∧ op ≤ 7
        · rw [decide_eq_true h37, if_pos h37]
          obtain ⟨j, rfl, hj, hnm⟩ := nm_at (hyin h37)
          obtain ⟨bn, on, rfl, _, hcell⟩ := int_at hxn hj
          replace hcell := cell_ext hcell he04'
          rw [hnm]
          refine goS ?_
          refine Z83 (j := j) rfl rfl rfl hj ?_
          refine goS ?_
          refine WO_store1 rfl rfl rfl hb4 (by simp) fun w5 hb5 o5 => ?_
          simp only [List.set_cons_zero, List.set_cons_succ] at hb5
          refine goS ?_
          exact at_meets (by repeat (first | exact True.intro | refine And.intro rfl ?_)) ⟨hb5, he4.only o5 (Nat.le_refl _)⟩
        · rw [decide_eq_false h37, if_neg h37]
          refine goS ?_
          exact at_meets (by repeat (first | exact True.intro | refine And.intro rfl ?_)) ⟨hb4, he4⟩
      obtain ⟨hb5, he5⟩ := hR
      clear hb4
      generalize hY : (if 3 ≤ op ∧ op ≤ 7 then nmL ns y else y) = Y at *
      have he04 := he.trans he5
      have hlt5 := hb5.lt
      obtain ⟨dd, hdd, hokt, hoke⟩ : ∃ dd : List Int × Nat, dd.1 = tl ∧ okL dd.1 dd.2 t = true ∧ okL dd.1 dd.2 e = true := ⟨(tl, dd0), rfl, hokt0, hoke0⟩
      have htl0 := htl
      have htl : dd.1.length = ns.length := by rw [hdd]; exact htl0
      refine goS ?_
      refine W_held0 [w1.heap.size] [(1, .slice An ns.length cn), (5, vo), (7, .pointer (some ⟨w1.heap.size, 0, none⟩)), (8, .slice (some ⟨b, o, none⟩) l.len c), (9, .int .i64 (l.len : Int)), (10, .int .i64 (i : Int))] (OwnIn 62 w1.heap.size op X Y n (renL ns t) (renL ns e) w5) (by kernel_rfl) (fun ws es hS => ?_) (fun w6 hR => ?_)
      · have hss := es.size_le
        have hb := hb5.ext es
        first | refine Z82 0 rfl (by kernel_rfl) (by kernel_rfl) (by kernel_rfl) (by assumption) (fun w' hw' => Z56 rfl) ?_ | refine Z82 0 rfl (by kernel_rfl) (by kernel_rfl) (by kernel_rfl) (by assumption) (fun w' hw' => Z63 rfl rfl) ?_ | refine Z82 0 rfl (by kernel_rfl) (by kernel_rfl) (by kernel_rfl) (by assumption) (fun w' hw' => Z64 rfl rfl) ?_ | refine Z82 0 rfl (by kernel_rfl) (by kernel_rfl) (by kernel_rfl) (by assumption) (fun w' hw' => Z75 rfl rfl (by omega)) ?_ | refine Z82 0 rfl (by kernel_rfl) (by kernel_rfl) (by kernel_rfl) (by assumption) (fun w' hw' => Z72 rfl) ?_ | refine Z82 0 rfl (by kernel_rfl) (by kernel_rfl) (by kernel_rfl) (by assumption) (fun w' hw' => Z69 rfl rfl rfl (by omega)) ?_ | refine Z82 0 rfl (by kernel_rfl) (by kernel_rfl) (by kernel_rfl) (by assumption) (fun w' hw' => Z30 rfl (by rfl) (by simp only [Z84, List.set_cons_zero, List.set_cons_succ]; rfl)) ?_
        first | refine Z82 2 rfl (by kernel_rfl) (by kernel_rfl) (by kernel_rfl) (by assumption) (fun w' hw' => Z56 rfl) ?_ | refine Z82 2 rfl (by kernel_rfl) (by kernel_rfl) (by kernel_rfl) (by assumption) (fun w' hw' => Z63 rfl rfl) ?_ | refine Z82 2 rfl (by kernel_rfl) (by kernel_rfl) (by kernel_rfl) (by assumption) (fun w' hw' => Z64 rfl rfl) ?_ | refine Z82 2 rfl (by kernel_rfl) (by kernel_rfl) (by kernel_rfl) (by assumption) (fun w' hw' => Z75 rfl rfl (by omega)) ?_ | refine Z82 2 rfl (by kernel_rfl) (by kernel_rfl) (by kernel_rfl) (by assumption) (fun w' hw' => Z72 rfl) ?_ | refine Z82 2 rfl (by kernel_rfl) (by kernel_rfl) (by kernel_rfl) (by assumption) (fun w' hw' => Z69 rfl rfl rfl (by omega)) ?_ | refine Z82 2 rfl (by kernel_rfl) (by kernel_rfl) (by kernel_rfl) (by assumption) (fun w' hw' => Z30 rfl (by rfl) (by simp only [Z84, List.set_cons_zero, List.set_cons_succ]; rfl)) ?_
        first | refine Z82 4 rfl (by kernel_rfl) (by kernel_rfl) (by kernel_rfl) (by assumption) (fun w' hw' => Z56 rfl) ?_ | refine Z82 4 rfl (by kernel_rfl) (by kernel_rfl) (by kernel_rfl) (by assumption) (fun w' hw' => Z63 rfl rfl) ?_ | refine Z82 4 rfl (by kernel_rfl) (by kernel_rfl) (by kernel_rfl) (by assumption) (fun w' hw' => Z64 rfl rfl) ?_ | refine Z82 4 rfl (by kernel_rfl) (by kernel_rfl) (by kernel_rfl) (by assumption) (fun w' hw' => Z75 rfl rfl (by omega)) ?_ | refine Z82 4 rfl (by kernel_rfl) (by kernel_rfl) (by kernel_rfl) (by assumption) (fun w' hw' => Z72 rfl) ?_ | refine Z82 4 rfl (by kernel_rfl) (by kernel_rfl) (by kernel_rfl) (by assumption) (fun w' hw' => Z69 rfl rfl rfl (by omega)) ?_ | refine Z82 4 rfl (by kernel_rfl) (by kernel_rfl) (by kernel_rfl) (by assumption) (fun w' hw' => Z30 rfl (by rfl) (by simp only [Z84, List.set_cons_zero, List.set_cons_succ]; rfl)) ?_
        first | refine Z82 6 rfl (by kernel_rfl) (by kernel_rfl) (by kernel_rfl) (by assumption) (fun w' hw' => Z56 rfl) ?_ | refine Z82 6 rfl (by kernel_rfl) (by kernel_rfl) (by kernel_rfl) (by assumption) (fun w' hw' => Z63 rfl rfl) ?_ | refine Z82 6 rfl (by kernel_rfl) (by kernel_rfl) (by kernel_rfl) (by assumption) (fun w' hw' => Z64 rfl rfl) ?_ | refine Z82 6 rfl (by kernel_rfl) (by kernel_rfl) (by kernel_rfl) (by assumption) (fun w' hw' => Z75 rfl rfl (by omega)) ?_ | refine Z82 6 rfl (by kernel_rfl) (by kernel_rfl) (by kernel_rfl) (by assumption) (fun w' hw' => Z72 rfl) ?_ | refine Z82 6 rfl (by kernel_rfl) (by kernel_rfl) (by kernel_rfl) (by assumption) (fun w' hw' => Z69 rfl rfl rfl (by omega)) ?_ | refine Z82 6 rfl (by kernel_rfl) (by kernel_rfl) (by kernel_rfl) (by assumption) (fun w' hw' => Z30 rfl (by rfl) (by simp only [Z84, List.set_cons_zero, List.set_cons_succ]; rfl)) ?_
        refine WH_two 1 5 rfl rfl (by kernel_rfl) ?_ ?_
        · refine Z10 rfl hb rfl (Z31 (at_held hS ?_))
          refine WH_two 3 5 rfl rfl (by kernel_rfl) ?_ ?_
          · refine WO_call rfl (ih t (by omega) vt Ft ws dd ns _ Fn (hT.ext (he04.trans es)) (hns.ext (he04.trans es)) hokt htl (by omega)) ?_
            rintro vt' wc ⟨⟨G1, q1, n1, b1⟩, ec⟩
            refine Z31 (at_held (ec.chg _) ?_)
            refine WH_load 5 rfl (by kernel_rfl) rfl (hb.ext ec) rfl (ec.chg _) ?_
            have hSc : Chg [w1.heap.size] ws wc := ec.chg _
            refine Z82 8 rfl (by kernel_rfl) (by kernel_rfl) (by kernel_rfl) (by assumption) (fun w' hw' => Z63 rfl rfl) ?_
            refine WX_call 7 rfl (by kernel_rfl) rfl (ih e (by omega) ve Fe wc dd ns _ Fn (hE.ext ((he04.trans es).trans ec)) (hns.ext ((he04.trans es).trans ec)) hoke htl (by omega)) ?_
            rintro ve' wd ⟨⟨G2, q2, n2, b2⟩, ed⟩
            have ecd := ec.trans ed
            have hone1 := q1.one
            have hone2 := q2.one
            have hlt1 := q1.lt
            have hsc := ec.size_le
            refine ⟨ecd.chg _, ?_⟩
            refine WH_one 9 rfl (by kernel_rfl) (WO_store1 rfl rfl hone1 (hb.ext ecd) (by simp) fun wf hbf of => Z31 (at_held ((ecd.chg _).trans of.chg) ?_))
            refine WH_one 10 rfl (by kernel_rfl) (Z7 rfl rfl (Z31 (at_held ((ecd.chg _).trans of.chg) ?_)))
            refine WH_one 11 rfl (by kernel_rfl) (WO_store1 rfl rfl hone2 hbf (by simp) fun wg hbg og => Z31 (at_held (((ecd.chg _).trans of.chg).trans og.chg) ?_))
            refine WH_done (by kernel_rfl) (by repeat (first | exact True.intro | refine And.intro rfl ?_)) ⟨vt', ve', G1, G2, hbg, ?_, ?_, List.nodup_append.2 ⟨n1, n2, fun a ha b hb e => by subst e; have := hlt1 a ha; have := b2 a hb; omega⟩, fun b hb => ?_, ((es.trans ecd).chg _).trans (of.chg.trans og.chg)⟩
            · exact ((q1.ext ed).chg of.chg (fun z hz hm => by simp at hm; subst hm; have := b1 _ hz; omega)).chg og.chg (fun z hz hm => by simp at hm; subst hm; have := b1 _ hz; omega)
            · exact (q2.chg of.chg (fun z hz hm => by simp at hm; subst hm; have := b2 _ hz; omega)).chg og.chg (fun z hz hm => by simp at hm; subst hm; have := b2 _ hz; omega)
            · rcases List.mem_append.1 hb with hb | hb
              · have := b1 b hb; omega
              · have := b2 b hb; omega
          · refine Z10 rfl hb rfl (Z31 (at_held hS ?_))
            refine WX_call 3 rfl (by kernel_rfl) rfl (ih t (by omega) vt Ft ws dd ns _ Fn (hT.ext (he04.trans es)) (hns.ext (he04.trans es)) hokt htl (by omega)) ?_
            rintro vt' wc ⟨⟨G1, q1, n1, b1⟩, ec⟩
            refine ⟨ec.chg _, ?_⟩
            have hSc : Chg [w1.heap.size] ws wc := ec.chg _
            refine Z82 8 rfl (by kernel_rfl) (by kernel_rfl) (by kernel_rfl) (by assumption) (fun w' hw' => Z63 rfl rfl) ?_
            refine WX_call 7 rfl (by kernel_rfl) rfl (ih e (by omega) ve Fe wc dd ns _ Fn (hE.ext ((he04.trans es).trans ec)) (hns.ext ((he04.trans es).trans ec)) hoke htl (by omega)) ?_
            rintro ve' wd ⟨⟨G2, q2, n2, b2⟩, ed⟩
            have ecd := ec.trans ed
            have hone1 := q1.one
            have hone2 := q2.one
            have hlt1 := q1.lt
            have hsc := ec.size_le
            refine ⟨ecd.chg _, ?_⟩
            refine WH_one 9 rfl (by kernel_rfl) (WO_store1 rfl rfl hone1 (hb.ext ecd) (by simp) fun wf hbf of => Z31 (at_held ((ecd.chg _).trans of.chg) ?_))
            refine WH_one 10 rfl (by kernel_rfl) (Z7 rfl rfl (Z31 (at_held ((ecd.chg _).trans of.chg) ?_)))
            refine WH_one 11 rfl (by kernel_rfl) (WO_store1 rfl rfl hone2 hbf (by simp) fun wg hbg og => Z31 (at_held (((ecd.chg _).trans of.chg).trans og.chg) ?_))
            refine WH_done (by kernel_rfl) (by repeat (first | exact True.intro | refine And.intro rfl ?_)) ⟨vt', ve', G1, G2, hbg, ?_, ?_, List.nodup_append.2 ⟨n1, n2, fun a ha b hb e => by subst e; have := hlt1 a ha; have := b2 a hb; omega⟩, fun b hb => ?_, ((es.trans ecd).chg _).trans (of.chg.trans og.chg)⟩
            · exact ((q1.ext ed).chg of.chg (fun z hz hm => by simp at hm; subst hm; have := b1 _ hz; omega)).chg og.chg (fun z hz hm => by simp at hm; subst hm; have := b1 _ hz; omega)
            · exact (q2.chg of.chg (fun z hz hm => by simp at hm; subst hm; have := b2 _ hz; omega)).chg og.chg (fun z hz hm => by simp at hm; subst hm; have := b2 _ hz; omega)
            · rcases List.mem_append.1 hb with hb | hb
              · have := b1 b hb; omega
              · have := b2 b hb; omega
        · refine Z10 rfl hb rfl (Z31 (at_held hS ?_))
          refine WH_load 1 rfl (by kernel_rfl) rfl hb rfl hS ?_
          refine WX_call 3 rfl (by kernel_rfl) rfl (ih t (by omega) vt Ft ws dd ns _ Fn (hT.ext (he04.trans es)) (hns.ext (he04.trans es)) hokt htl (by omega)) ?_
          rintro vt' wc ⟨⟨G1, q1, n1, b1⟩, ec⟩
          refine ⟨ec.chg _, ?_⟩
          have hSc : Chg [w1.heap.size] ws wc := ec.chg _
          refine Z82 8 rfl (by kernel_rfl) (by kernel_rfl) (by kernel_rfl) (by assumption) (fun w' hw' => Z63 rfl rfl) ?_
          refine WX_call 7 rfl (by kernel_rfl) rfl (ih e (by omega) ve Fe wc dd ns _ Fn (hE.ext ((he04.trans es).trans ec)) (hns.ext ((he04.trans es).trans ec)) hoke htl (by omega)) ?_
          rintro ve' wd ⟨⟨G2, q2, n2, b2⟩, ed⟩
          have ecd := ec.trans ed
          have hone1 := q1.one
          have hone2 := q2.one
          have hlt1 := q1.lt
          have hsc := ec.size_le
          refine ⟨ecd.chg _, ?_⟩
          refine WH_one 9 rfl (by kernel_rfl) (WO_store1 rfl rfl hone1 (hb.ext ecd) (by simp) fun wf hbf of => Z31 (at_held ((ecd.chg _).trans of.chg) ?_))
          refine WH_one 10 rfl (by kernel_rfl) (Z7 rfl rfl (Z31 (at_held ((ecd.chg _).trans of.chg) ?_)))
          refine WH_one 11 rfl (by kernel_rfl) (WO_store1 rfl rfl hone2 hbf (by simp) fun wg hbg og => Z31 (at_held (((ecd.chg _).trans of.chg).trans og.chg) ?_))
          refine WH_done (by kernel_rfl) (by repeat (first | exact True.intro | refine And.intro rfl ?_)) ⟨vt', ve', G1, G2, hbg, ?_, ?_, List.nodup_append.2 ⟨n1, n2, fun a ha b hb e => by subst e; have := hlt1 a ha; have := b2 a hb; omega⟩, fun b hb => ?_, ((es.trans ecd).chg _).trans (of.chg.trans og.chg)⟩
          · exact ((q1.ext ed).chg of.chg (fun z hz hm => by simp at hm; subst hm; have := b1 _ hz; omega)).chg og.chg (fun z hz hm => by simp at hm; subst hm; have := b1 _ hz; omega)
          · exact (q2.chg of.chg (fun z hz hm => by simp at hm; subst hm; have := b2 _ hz; omega)).chg og.chg (fun z hz hm => by simp at hm; subst hm; have := b2 _ hz; omega)
          · rcases List.mem_append.1 hb with hb | hb
            · have := b1 b hb; omega
            · have := b2 b hb; omega
      · obtain ⟨vt', ve', G1, G2, hb4, q1, q2, nd, bd, c4⟩ := hR
        have e4 : Ext w1 w6 := c4.ext_of he5 (by simp)
        have r14 := ownsRow_ext r1 e4
        have r24 := StkS.ext e4 r2
        have hone1 := q1.one
        have hone2 := q2.one
        have s3 := he5.size_le
        have s4 := c4.size
        refine goS ?_
        refine WO_loadSB rfl hb4 rfl ?_
        refine WO_app1 (m := (renL ns d).len) (u := stV op X Y n vt' ve') rfl rfl (by intro v hv; simp [stV, Value.cells] at hv; rcases hv with rfl | rfl | rfl | rfl | rfl | rfl <;> first | rfl | assumption) rfl r14 (he.trans e4).size rfl (by rw [renL_len]; omega) (by decide) fun v' w7 hown7 hg7 hat7 => ?_
        refine goS ?_
        refine at_loop (i + 1, d.snoc op x y n t e, r, v') (by repeat (first | exact True.intro | refine And.intro rfl ?_)) ⟨by rw [Ss.snoc_app]; exact hap, by simp only; rw [Ss.len_snoc]; omega, hokr.2, hrest, ?_⟩ (by simp only [Ss.len]; omega)
        simp only
        rw [renL_snoc, hX, hY]
        refine GrowS.step r14 r24 r3 r4 (he.trans e4) q1 q2 nd (fun x hx hm => ?_) (fun x hx => ?_) hown7 hg7 ?_
        · have h1 := bd x hx
          have h2 : x < w1.heap.size := by
            rcases List.mem_append.1 hm with hm | hm
            · exact (r1.lt x (by simpa using hm)).2
            · exact StkS.lt _ _ _ r2 x hm
          omega
        · have := bd x hx; have := he.size_le; omega
        · rcases hat7 with h7 | h7
          · exact .inl h7
          · exact .inr ⟨_, h7, by omega⟩
  · have hge : i = l.len := by simp at hc; omega
    have hr0 : r = .nil := Ss.len_zero (by omega)
    subst hr0
    rw [Ss.app_nil] at hap
    subst hap
    refine goS ?_
    exact at_ret1 rfl rfl (GrowS.new ⟨hgr, he⟩)) l
theorem int_take {w : World} {A : Option Addr} {n c : Nat} {l : List Int} {F : List Nat} (h : IntF w (.slice A n c) l F) (k : Nat) (hk : k ≤ l.length) : ∃ F', IntF w (.slice A k c) (l.take k) F' := by
  obtain ⟨A', c', e, ⟨hm, hc⟩, hx⟩ := h
  cases e
  have hl : (l.take k).length = k := by simp; omega
  rcases hx with ⟨rfl, _⟩ | ⟨b, o, hA, _, hx⟩
  · exact ⟨[], A, c, by rw [hl], ⟨by omega, by omega⟩, .inl ⟨by simp, rfl⟩⟩
  · exact ⟨[b], A, c, by rw [hl], ⟨by omega, by omega⟩, .inr ⟨b, o, hA, rfl, fun i x hi => hx i x (by
      rw [List.getElem?_take] at hi
      split at hi
      · exact hi
      · cases hi)⟩⟩
theorem zeros_flat (m : Nat) : (List.replicate m ([.int .i64 0] : List Value)).flatten = (List.replicate m (0 : Int)).map (.int .i64) := by
  induction m with
  | zero => rfl
  | succ m ih => simp [List.replicate_succ, ih]
theorem PrB.none_ {e : TypeId} {w w' : World} (he : Ext w w') : PrB e [] .nil false w (.tuple #[prV (.slice none 0 0) (.slice none 0 0), .bool false]) w' :=
  ⟨_, _, rfl, ⟨[], [], ⟨none, 0, rfl, ⟨by simp, Nat.le_refl _⟩, .inl ⟨rfl, rfl⟩⟩, RowS.nil_ e w', by simp, by simp⟩, he⟩
theorem PrB.some_ {e : TypeId} {tl : List Int} {l : Ss} {w w' : World} {tv bv : Value} {Ft Fb : List Nat} (h1 : OwnI w' tv tl Ft) (h2 : RowS e w' bv l Fb) (h3 : (Ft ++ Fb).Nodup) (h4 : ∀ b ∈ Ft ++ Fb, w.heap.size ≤ b) (he : Ext w w') : PrB e tl l true w (.tuple #[prV tv bv, .bool true]) w' := by
  refine ⟨tv, bv, rfl, ⟨Ft, Fb, h1, h2, h3, fun b hb => ⟨h4 b hb, ?_⟩⟩, he⟩
  rcases List.mem_append.1 hb with hb | hb
  · exact h1.lt b hb
  · exact h2.lt b hb
theorem RenameVars_ret (tv bv nv : Value) (tl : List Int) (l : Ss) (ns : List Int) (F F2 Fn : List Nat) (w : World) (ht : IntF w tv tl F) (hb : StS w bv l F2) (hns : IntF w nv ns Fn) (hn : tl.length ≤ 1048576) (hn2 : cntL l ≤ 1048576) :
    Ret Try.prog 13 [prV tv bv, nv] w (PrB 62 (rnT tl l ns) (rnB tl l ns) (decide (rnOk tl l ns)) w) := by
  have hcl := len_le_cntL l
  have hns0 := hns
  have ht0 := ht
  obtain ⟨An, cn, rfl, hln, hxn⟩ := hns0
  obtain ⟨At, ct, rfl, hlt, hxt⟩ := ht0
  unfold maxI at hln hlt
  refine enter Try.func13 rfl Try.ntmps13 rfl rfl ?_
  refine Z43 (Z44 (WO_box rfl fun w1 hs e1 z1 => WO_alloc fun w2 hr e2 z2 => ?_))
  replace hs : Blk w2 w.heap.size [.slice At tl.length ct, bv] _ := Blk.ext hs e2
  replace hr : Blk w2 w1.heap.size [.slice none 0 0, .slice none 0 0] _ := hr
  have e0 := e1.trans e2
  have s1 := e1.size_le
  have s2 := hr.lt
  refine goS ?_
  refine WO_loadSB rfl hs rfl ?_
  refine WO_call rfl (ProgramValid_ret _ _ tl l F F2 w2 (ht.ext e0) (hb.ext e0)) ?_
  rintro _ w3 ⟨rfl, e3⟩
  replace hs := hs.ext e3
  replace hr := hr.ext e3
  replace e0 := e0.trans e3
  have s3 := e3.size_le
  cases hv : validP tl l
  · refine goS ?_
    have hbad : ¬ rnOk tl l ns := (fun h => by have := h.1; rw [hv] at this; cases this)
    refine WO_storeS (k := 2) (vs := [.slice none 0 0, .slice none 0 0]) rfl rfl rfl (by intro v hv; simp at hv; subst hv; rfl) hr (by decide) fun wz hz oz => ?_
    replace hz : Blk wz w1.heap.size [.slice none 0 0, .slice none 0 0] _ := hz
    refine goS ?_
    exact at_ret2G rfl (.cell inferInstance rfl hz rfl) (.tmp rfl) (by unfold rnT rnB; rw [if_neg hbad, if_neg hbad, decide_eq_false hbad]; exact PrB.none_ (Ext.only e0 oz s1))
  · by_cases hleq : ns.length = tl.length
    · have hok4 := (validP_cnt hv).2.1
      have hle1 : ns.length ≤ 1048576 := by omega
      (refine goS ?_; repeat' (first | ((refine Z51 rfl rfl (fun c' hc' => ?_)); cases c' <;> (try simp only [decide_eq_true_eq, decide_eq_false_iff_not, beq_iff_eq, beq_eq_false_iff_ne, bne_iff_ne, bne_eq_false_iff_eq, ne_eq, gt_iff_lt, ge_iff_le, Int.not_lt, Int.not_le, Bool.not_eq_true', Bool.not_eq_false', Bool.not_true, Bool.not_false, reduceCtorEq, Decidable.not_not, not_true_eq_false, Bool.true_eq_false, Bool.false_eq_true] at hc') <;> (try (exfalso; omega)) <;> refine goS ?_) | ((refine Z52 rfl (fun hc' => ?_) (fun hc' => ?_)) <;> (try simp only [decide_eq_true_eq, decide_eq_false_iff_not, beq_iff_eq, beq_eq_false_iff_ne, bne_iff_ne, bne_eq_false_iff_eq, ne_eq, gt_iff_lt, ge_iff_le, Int.not_lt, Int.not_le, Bool.not_eq_true', Bool.not_eq_false', Bool.not_true, Bool.not_false, reduceCtorEq, Decidable.not_not, not_true_eq_false, Bool.true_eq_false, Bool.false_eq_true] at hc') <;> (try (exfalso; omega)) <;> refine goS ?_)))
      refine WO_make (e := 3) (k := 1) (m := ns.length) rfl rfl rfl rfl (by omega) (by decide) (by decide) fun w4 hm e4 z4 => ?_
      replace hm : Blk w4 w3.heap.size (List.replicate ns.length ([.int .i64 0] : List Value)).flatten _ := hm
      rw [zeros_flat] at hm
      replace hs := hs.ext e4
      replace hr := hr.ext e4
      replace e0 := e0.trans e4
      have s4 := hm.lt
      refine goS ?_
      refine WO_alloc fun w5 ho e5 z5 => ?_
      refine WO_storeS (k := 2) (vs := [.slice (some ⟨w3.heap.size, 0, none⟩) ns.length ns.length, .slice none 0 0]) rfl rfl rfl (by intro v hv; simp at hv; rcases hv with rfl | rfl <;> rfl) ho (by decide) fun w6 ho6 o6 => ?_
      replace ho6 : Blk w6 w4.heap.size [.slice (some ⟨w3.heap.size, 0, none⟩) ns.length ns.length, .slice none 0 0] _ := ho6
      have e6 : Ext w4 w6 := e5.only o6 (Nat.le_refl _)
      replace hs := hs.ext e6
      replace hr := hr.ext e6
      replace hm := hm.ext e6
      replace e0 := e0.trans e6
      have s6 := ho6.lt
      clear ho
      refine goS ?_
      refine W_loop (α := Nat) (fun v => [(1, .slice An ns.length cn), (2, .pointer (some ⟨w.heap.size, 0, none⟩)), (4, .pointer (some ⟨w1.heap.size, 0, none⟩)), (6, .pointer (some ⟨w4.heap.size, 0, none⟩)), (25, .slice An ns.length cn), (26, .int .i64 (ns.length : Int)), (27, .int .i64 (v : Int))])
        (fun v w' => v ≤ ns.length ∧ (∀ x ∈ ns.take v, 0 ≤ x ∧ x < (ns.length : Int)) ∧ (ns.take v).Nodup ∧ Blk w' w3.heap.size ((setTo ns tl v).map (.int .i64)) 3 ∧ Chg [w3.heap.size] w6 w') (fun v => ns.length - v) 0 (by repeat (first | exact True.intro | refine And.intro rfl ?_)) ⟨Nat.zero_le _, by simp, by simp, hm, Chg.refl _ _⟩ ?_
      rintro v wl ⟨hvn, hin, hnd, hml, hcl2⟩
      have hsl := hs.chg hcl2 (by simp; omega)
      have hol := ho6.chg hcl2 (by simp; omega)
      replace hr := hr.chg hcl2 (by simp; omega)
      have e0l : Ext w wl := hcl2.ext_of e0 (by simp; omega)
      refine goS ?_
      refine Z52 rfl (fun hc => ?_) (fun hc => ?_)
      · have hvlt : v < ns.length := by simpa using hc
        obtain ⟨bn, on, rfl, _, hcell⟩ := int_at hxn hvlt
        replace hcell := cell_ext hcell e0l
        have htk : ns.take (v + 1) = ns.take v ++ [ns[v]] := List.take_succ_eq_append_getElem hvlt
        refine goS ?_
        refine Z83 (j := v) rfl rfl rfl hvlt ?_
        refine goS ?_
        refine WO_call rfl (within_ret ns[v] 0 ((ns.length : Int) - 1) wl) ?_
        rintro _ wz ⟨rfl, rfl⟩
        by_cases hw : 0 ≤ ns[v] ∧ ns[v] ≤ (ns.length : Int) - 1
        · rw [decide_eq_true hw]
          refine goS ?_
          refine Z13 (q_slTo (h := v) rfl rfl rfl (by omega)) ?_
          refine goS ?_
          obtain ⟨Ft', htk'⟩ := int_take (hns.ext e0l) v hvn
          refine WO_call rfl (slContains_ret _ (ns.take v) Ft' ns[v] _ htk') ?_
          rintro _ wz ⟨rfl, rfl⟩
          by_cases hmem : ns[v] ∈ ns.take v
          · rw [decide_eq_true hmem]
            have hbad0 : ¬ rnOk tl l ns := fun h => by
              have := h.2.2.2
              rw [← List.take_append_drop (v + 1) ns, htk] at this
              have h1 := (List.nodup_append.1 this).1
              exact (List.nodup_append.1 h1).2.2 _ hmem _ (by simp) rfl
            refine goS ?_
            have hbad : ¬ rnOk tl l ns := hbad0
            refine WO_storeS (k := 2) (vs := [.slice none 0 0, .slice none 0 0]) rfl rfl rfl (by intro v hv; simp at hv; subst hv; rfl) hr (by decide) fun wz hz oz => ?_
            replace hz : Blk wz w1.heap.size [.slice none 0 0, .slice none 0 0] _ := hz
            refine goS ?_
            exact at_ret2G rfl (.cell inferInstance rfl hz rfl) (.tmp rfl) (by unfold rnT rnB; rw [if_neg hbad, if_neg hbad, decide_eq_false hbad]; exact PrB.none_ (Ext.only e0l oz s1))
          · rw [decide_eq_false hmem]
            obtain ⟨j, hj⟩ := Int.eq_ofNat_of_zero_le hw.1
            have hjn : j < ns.length := by omega
            have hvt : v < tl.length := by omega
            obtain ⟨bt, ot, rfl, _, hcellt⟩ := int_at hxt hvt
            replace hcellt := cell_ext hcellt e0l
            have hbt : bt < w.heap.size := World.block_lt_of_cell? w _ (by have := (int_at hxt hvt); obtain ⟨b', o', hA, _, hh⟩ := this; cases hA; exact hh)
            have hsetl := setTo_length ns tl v
            refine goS ?_
            refine W_held0 [w3.heap.size] [(1, .slice (some ⟨bn, on, none⟩) ns.length cn), (2, .pointer (some ⟨w.heap.size, 0, none⟩)), (4, .pointer (some ⟨w1.heap.size, 0, none⟩)), (6, .pointer (some ⟨w4.heap.size, 0, none⟩)), (25, .slice (some ⟨bn, on, none⟩) ns.length cn), (26, .int .i64 (ns.length : Int)), (27, .int .i64 (v : Int))] (fun w' => Blk w' w3.heap.size ((setTo ns tl (v + 1)).map (.int .i64)) 3 ∧ Chg [w3.heap.size] w6 w') (by kernel_rfl) (fun ws es hS => ?_) (fun w8 hR => ?_)
            · have hmls := hml.ext es
              have hols := hol.ext es
              have hsls := hsl.ext es
              first | refine Z82 0 rfl (by kernel_rfl) (by kernel_rfl) (by kernel_rfl) (by assumption) (fun w' hw' => Z56 rfl) ?_ | refine Z82 0 rfl (by kernel_rfl) (by kernel_rfl) (by kernel_rfl) (by assumption) (fun w' hw' => Z63 rfl rfl) ?_ | refine Z82 0 rfl (by kernel_rfl) (by kernel_rfl) (by kernel_rfl) (by assumption) (fun w' hw' => Z64 rfl rfl) ?_ | refine Z82 0 rfl (by kernel_rfl) (by kernel_rfl) (by kernel_rfl) (by assumption) (fun w' hw' => Z75 rfl rfl (by omega)) ?_ | refine Z82 0 rfl (by kernel_rfl) (by kernel_rfl) (by kernel_rfl) (by assumption) (fun w' hw' => Z72 rfl) ?_ | refine Z82 0 rfl (by kernel_rfl) (by kernel_rfl) (by kernel_rfl) (by assumption) (fun w' hw' => Z69 rfl rfl rfl (by omega)) ?_ | refine Z82 0 rfl (by kernel_rfl) (by kernel_rfl) (by kernel_rfl) (by assumption) (fun w' hw' => Z30 rfl (by rfl) (by simp only [Z84, List.set_cons_zero, List.set_cons_succ]; rfl)) ?_
              refine Z82 1 rfl (by kernel_rfl) (by kernel_rfl) (by kernel_rfl) (by assumption) (fun w' hw' => Z66 rfl (hols.chg hw' (by simp; omega)) rfl) ?_
              first | refine Z82 2 rfl (by kernel_rfl) (by kernel_rfl) (by kernel_rfl) (by assumption) (fun w' hw' => Z56 rfl) ?_ | refine Z82 2 rfl (by kernel_rfl) (by kernel_rfl) (by kernel_rfl) (by assumption) (fun w' hw' => Z63 rfl rfl) ?_ | refine Z82 2 rfl (by kernel_rfl) (by kernel_rfl) (by kernel_rfl) (by assumption) (fun w' hw' => Z64 rfl rfl) ?_ | refine Z82 2 rfl (by kernel_rfl) (by kernel_rfl) (by kernel_rfl) (by assumption) (fun w' hw' => Z75 rfl rfl (by omega)) ?_ | refine Z82 2 rfl (by kernel_rfl) (by kernel_rfl) (by kernel_rfl) (by assumption) (fun w' hw' => Z72 rfl) ?_ | refine Z82 2 rfl (by kernel_rfl) (by kernel_rfl) (by kernel_rfl) (by assumption) (fun w' hw' => Z69 rfl rfl rfl (by omega)) ?_ | refine Z82 2 rfl (by kernel_rfl) (by kernel_rfl) (by kernel_rfl) (by assumption) (fun w' hw' => Z30 rfl (by rfl) (by simp only [Z84, List.set_cons_zero, List.set_cons_succ]; rfl)) ?_
              first | refine Z82 3 rfl (by kernel_rfl) (by kernel_rfl) (by kernel_rfl) (by assumption) (fun w' hw' => Z56 rfl) ?_ | refine Z82 3 rfl (by kernel_rfl) (by kernel_rfl) (by kernel_rfl) (by assumption) (fun w' hw' => Z63 rfl rfl) ?_ | refine Z82 3 rfl (by kernel_rfl) (by kernel_rfl) (by kernel_rfl) (by assumption) (fun w' hw' => Z64 rfl rfl) ?_ | refine Z82 3 rfl (by kernel_rfl) (by kernel_rfl) (by kernel_rfl) (by assumption) (fun w' hw' => Z75 rfl rfl (by omega)) ?_ | refine Z82 3 rfl (by kernel_rfl) (by kernel_rfl) (by kernel_rfl) (by assumption) (fun w' hw' => Z72 rfl) ?_ | refine Z82 3 rfl (by kernel_rfl) (by kernel_rfl) (by kernel_rfl) (by assumption) (fun w' hw' => Z69 rfl rfl rfl (by omega)) ?_ | refine Z82 3 rfl (by kernel_rfl) (by kernel_rfl) (by kernel_rfl) (by assumption) (fun w' hw' => Z30 rfl (by rfl) (by simp only [Z84, List.set_cons_zero, List.set_cons_succ]; rfl)) ?_
              refine Z82 4 rfl (by kernel_rfl) (by kernel_rfl) (by kernel_rfl) (by assumption) (fun w' hw' => Z66 rfl (hsls.chg hw' (by simp; omega)) rfl) ?_
              first | refine Z82 5 rfl (by kernel_rfl) (by kernel_rfl) (by kernel_rfl) (by assumption) (fun w' hw' => Z56 rfl) ?_ | refine Z82 5 rfl (by kernel_rfl) (by kernel_rfl) (by kernel_rfl) (by assumption) (fun w' hw' => Z63 rfl rfl) ?_ | refine Z82 5 rfl (by kernel_rfl) (by kernel_rfl) (by kernel_rfl) (by assumption) (fun w' hw' => Z64 rfl rfl) ?_ | refine Z82 5 rfl (by kernel_rfl) (by kernel_rfl) (by kernel_rfl) (by assumption) (fun w' hw' => Z75 rfl rfl (by omega)) ?_ | refine Z82 5 rfl (by kernel_rfl) (by kernel_rfl) (by kernel_rfl) (by assumption) (fun w' hw' => Z72 rfl) ?_ | refine Z82 5 rfl (by kernel_rfl) (by kernel_rfl) (by kernel_rfl) (by assumption) (fun w' hw' => Z69 rfl rfl rfl (by omega)) ?_ | refine Z82 5 rfl (by kernel_rfl) (by kernel_rfl) (by kernel_rfl) (by assumption) (fun w' hw' => Z30 rfl (by rfl) (by simp only [Z84, List.set_cons_zero, List.set_cons_succ]; rfl)) ?_
              refine Z82 6 rfl (by kernel_rfl) (by kernel_rfl) (by kernel_rfl) (by assumption) (fun w' hw' => Z69 (j := v) rfl rfl rfl hvt) ?_
              refine Z82 7 rfl (by kernel_rfl) (by kernel_rfl) (by kernel_rfl) (by assumption) (fun w' hw' => Z67 rfl (cell_chg (cell_ext hcellt es) hw' (by simp; omega))) ?_
              refine Z82 8 rfl (by kernel_rfl) (by kernel_rfl) (by kernel_rfl) (by assumption) (fun w' hw' => Z69 (j := j) rfl rfl hj hjn) ?_
              refine WH_one 9 rfl (by kernel_rfl) (WO_store1 rfl rfl rfl hmls (by simp; omega) fun wf hf of_ => Z31 (at_held of_.chg ?_))
              refine WH_done (by kernel_rfl) (by repeat (first | exact True.intro | refine And.intro rfl ?_)) ⟨?_, hcl2.trans ((es.chg _).trans of_.chg)⟩
              have hset : ((setTo ns tl v).map (Value.int .i64)).set (0 + j * 1) (.int .i64 tl[v]) = (setTo ns tl (v + 1)).map (.int .i64) := by
                simp only [setTo, List.map_set]
                rw [List.getD_eq_getElem?_getD, List.getElem?_eq_getElem hvlt, List.getD_eq_getElem?_getD, List.getElem?_eq_getElem hvt]
                simp [hj]
              rw [← hset]
              exact hf
            · obtain ⟨hm8, c8⟩ := hR
              refine goS ?_
              refine at_loop (v + 1) (by repeat (first | exact True.intro | refine And.intro rfl ?_)) ⟨by omega, ?_, ?_, hm8, c8⟩ (by omega)
              · intro x hx
                rw [htk] at hx
                rcases List.mem_append.1 hx with hx | hx
                · exact hin x hx
                · simp at hx; subst hx; omega
              · rw [htk]
                exact List.nodup_append.2 ⟨hnd, by simp, fun a ha b hb e => by simp at hb; subst e; subst hb; exact hmem ha⟩
        · rw [decide_eq_false hw]
          refine goS ?_
          have hbad : ¬ rnOk tl l ns := (fun h => hw (by have := h.2.2.1 _ (List.getElem_mem hvlt); omega))
          refine WO_storeS (k := 2) (vs := [.slice none 0 0, .slice none 0 0]) rfl rfl rfl (by intro v hv; simp at hv; subst hv; rfl) hr (by decide) fun wz hz oz => ?_
          replace hz : Blk wz w1.heap.size [.slice none 0 0, .slice none 0 0] _ := hz
          refine goS ?_
          exact at_ret2G rfl (.cell inferInstance rfl hz rfl) (.tmp rfl) (by unfold rnT rnB; rw [if_neg hbad, if_neg hbad, decide_eq_false hbad]; exact PrB.none_ (Ext.only e0l oz s1))
      · have hge : v = ns.length := by simp at hc; omega
        subst hge
        rw [List.take_length] at hin hnd
        have hok : rnOk tl l ns := ⟨hv, hleq, hin, hnd⟩
        have hsetl := setTo_length ns tl ns.length
        obtain ⟨Ab, cb, rfl, hlb, _⟩ := hb.slice
        refine goS ?_
        refine WO_call rfl (renamed_all l _ F2 wl (tl, 4) ns _ Fn (StS.ext hb e0l) (hns.ext e0l) hok4 hleq.symm hn2) ?_
        rintro bv' w9 ⟨⟨Fb, q2, n2, b2⟩, e9⟩
        have hone := q2.one
        have s9 := e9.size_le
        have sl := hcl2.size
        refine goS ?_
        refine WO_store1 rfl rfl hone (hol.ext e9) (by simp) fun wa hoa oa => ?_
        replace hoa : Blk wa w4.heap.size [.slice (some ⟨w3.heap.size, 0, none⟩) ns.length ns.length, bv'] _ := hoa
        replace hr := (hr.ext e9).only oa (by omega)
        replace hml := (hml.ext e9).only oa (by omega)
        have e0a := (e0l.trans e9).only oa (by omega)
        replace q2 := q2.chg oa.chg (fun z hz hm => by simp only [List.mem_singleton] at hm; subst hm; have := b2 _ hz; omega)
        refine goS ?_
        refine WO_loadSB rfl hoa rfl ?_
        refine WO_storeS (k := 2) (vs := [.slice (some ⟨w3.heap.size, 0, none⟩) ns.length ns.length, bv']) rfl rfl rfl (by simp; exact ⟨rfl, hone⟩) hr (by decide) fun wb hrb ob => ?_
        replace hrb : Blk wb w1.heap.size [.slice (some ⟨w3.heap.size, 0, none⟩) ns.length ns.length, bv'] _ := hrb
        replace hml := hml.only ob (by omega)
        refine goS ?_
        refine at_ret2G rfl (.cell inferInstance rfl hrb rfl) (.tmp rfl) ?_
        unfold rnT rnB
        rw [if_pos hok, if_pos hok, decide_eq_true hok]
        refine PrB.some_ (Ft := [w3.heap.size]) ⟨_, ns.length, by rw [hsetl], ⟨by rw [hsetl]; unfold maxI; omega, by rw [hsetl]; exact Nat.le_refl _⟩, .inr ⟨_, 0, _, _, rfl, rfl, hml, by simp, fun i x hi => by simp [hi]⟩⟩ (q2.chg ob.chg (fun z hz hm => by simp only [List.mem_singleton] at hm; subst hm; have := b2 _ hz; omega)) ?_ ?_ (e0a.only ob (by omega))
        · simp only [List.singleton_append, List.nodup_cons]
          exact ⟨fun hm => by have := b2 _ hm; omega, n2⟩
        · intro z hz
          simp only [List.singleton_append, List.mem_cons] at hz
          rcases hz with rfl | hz
          · omega
          · have := b2 _ hz; omega
    · (refine goS ?_; repeat' (first | ((refine Z51 rfl rfl (fun c' hc' => ?_)); cases c' <;> (try simp only [decide_eq_true_eq, decide_eq_false_iff_not, beq_iff_eq, beq_eq_false_iff_ne, bne_iff_ne, bne_eq_false_iff_eq, ne_eq, gt_iff_lt, ge_iff_le, Int.not_lt, Int.not_le, Bool.not_eq_true', Bool.not_eq_false', Bool.not_true, Bool.not_false, reduceCtorEq, Decidable.not_not, not_true_eq_false, Bool.true_eq_false, Bool.false_eq_true] at hc') <;> (try (exfalso; omega)) <;> refine goS ?_) | ((refine Z52 rfl (fun hc' => ?_) (fun hc' => ?_)) <;> (try simp only [decide_eq_true_eq, decide_eq_false_iff_not, beq_iff_eq, beq_eq_false_iff_ne, bne_iff_ne, bne_eq_false_iff_eq, ne_eq, gt_iff_lt, ge_iff_le, Int.not_lt, Int.not_le, Bool.not_eq_true', Bool.not_eq_false', Bool.not_true, Bool.not_false, reduceCtorEq, Decidable.not_not, not_true_eq_false, Bool.true_eq_false, Bool.false_eq_true] at hc') <;> (try (exfalso; omega)) <;> refine goS ?_)))
      all_goals
        have hbad : ¬ rnOk tl l ns := (fun h => hleq h.2.1)
        refine WO_storeS (k := 2) (vs := [.slice none 0 0, .slice none 0 0]) rfl rfl rfl (by intro v hv; simp at hv; subst hv; rfl) hr (by decide) fun wz hz oz => ?_
        replace hz : Blk wz w1.heap.size [.slice none 0 0, .slice none 0 0] _ := hz
        refine goS ?_
        exact at_ret2G rfl (.cell inferInstance rfl hz rfl) (.tmp rfl) (by unfold rnT rnB; rw [if_neg hbad, if_neg hbad, decide_eq_false hbad]; exact PrB.none_ (Ext.only e0 oz s1))
end Go.Proofs.Ytpmgfokcbgdegaa
