/-
  What is proved here: the program's and the reference's copies of numbers, statements and programs.
-/
import Derived.Test.YtplcmbipeanjdaaDoorGrow
import Derived.Test.YtplcmbipeanjdaaDoorPr
import Derived.Test.YtplcmbipeanjdaaDoorRes
import Derived.Test.YtplcmbipeanjdaaDoorApp
namespace Go.Proofs.YtplcmbipeanjdaaDoor
set_option linter.unusedVariables false
set_option linter.unusedSimpArgs false
set_option linter.unnecessarySimpa false
open Go.RowKit

theorem ints_cells {w : World} {A : Option Addr} {n c : Nat} {l : List Int} {F : List Nat} (h : IntF w (.slice A n c) l F) (h0 : l ≠ []) : ∃ b o, A = some ⟨b, o, none⟩ ∧ n = l.length ∧ ∀ j u, (l.map (Value.int .i64))[j]? = some u → w.cell? ⟨b, o + j, none⟩ = some u := by
  obtain ⟨A', c', e, _, ⟨h1, _⟩ | ⟨b, o, hA, hF, hc⟩⟩ := h
  · exact absurd h1 h0
  · cases e
    refine ⟨b, o, hA, rfl, fun j u hj => ?_⟩
    rw [List.getElem?_map] at hj
    obtain ⟨x, hx, rfl⟩ := Option.map_eq_some_iff.1 hj
    simpa using hc j x hx
theorem ints_one (l : List Int) : ∀ u ∈ l.map (Value.int .i64), u.oneCell' = true := by
  intro u hu
  obtain ⟨x, _, rfl⟩ := List.mem_map.1 hu
  rfl
section
variable {P : Program} {n : Nat} {ops : Array Oper} {Q : Exit → Act → World → Prop} {rest : List Oper} {σ : Env} {w : World} {v u : Value}
variable {d : Nat} {ty : TypeId} {pos : String} {af : Array Edge} {x s : Operand}
/-- Numbers that can be read are appended to an owned row. -/
theorem WO_appI {t e bytes B : Nat} {z : Value} [TSl P t e 1] [TE P e z 1 bytes] {l0 l : List Int} {F : List Nat} (hs : ev σ s = some v) (hown : w.ownsRow B e 1 v l0.length (l0.map (.int .i64))) (hx : ev σ x = some u) (hsrc : IntF w u l F)
    (hB : B ≤ w.heap.size) (hm : l0.length + l.length ≤ 1000000000000) (hby : bytes ≤ 100)
    (h : ∀ v' w', w'.ownsRow B e 1 v' (l0 ++ l).length ((l0 ++ l).map (.int .i64)) → w.grownBy w' v.ownBlock → (v'.ownBlock = v.ownBlock ∨ v'.ownBlock = some w.heap.size) → WO P n ops Q rest ((d, v') :: σ) w') :
    WO P n ops Q (⟨some d, .call ⟨.builtin .append, #[s, x], #[t, t]⟩, ty, pos, af, none⟩ :: rest) σ w := by
  obtain ⟨A, c, rfl, hl, hx2⟩ := id hsrc
  by_cases h0 : l = []
  · subst h0
    exact WO_append0 (e := e) (k := 1) (bytes := bytes) (z := z) hs hown hx hB (by decide) (by simpa using hm) hby fun v' w' h1 h2 h3 => h v' w' (by simpa using h1) h2 h3
  · obtain ⟨b, o, rfl, _, hc⟩ := ints_cells hsrc h0
    exact WO_append (e := e) (k := 1) (bytes := bytes) (z := z) (mm := l.length) (news := l.map (.int .i64)) hs hown hx (by simp) hc (ints_one l) hB (by decide) hm hby fun v' w' h1 h2 h3 => h v' w' (by rw [List.length_append, List.map_append]; exact h1) h2 h3
end
theorem NewInts.of_row {e : TypeId} {w w' : World} {v : Value} {l : List Int} {B : Nat} (h : w'.ownsRow B e 1 v l.length (l.map (.int .i64))) (hB : w.heap.size ≤ B) (he : Ext w w') (hm : l.length ≤ maxI) : NewInts l w v w' := by
  obtain ⟨F, h1, h2, _⟩ := OwnI.of_row h rfl hm
  exact ⟨⟨F, h1, fun b hb => Nat.le_trans hB (h2 b hb)⟩, he⟩
/-- What stands behind the region that makes a copy of a program. -/
def CopyIn (e eP : TypeId) (rb : Nat) (tl : List Int) (l : Ss) (w w' : World) : Prop :=
  ∃ tv bv Ft Fb, Blk w' rb [tv, bv] eP ∧ OwnI w' tv tl Ft ∧ RowS e w' bv l Fb ∧ (Ft ++ Fb).Nodup ∧ (∀ b ∈ Ft ++ Fb, w.heap.size ≤ b) ∧ Chg [rb] w w'
def LcP (l : Ss) : Prop := ∀ v F w, StS w v l F → cntL l ≤ 1048576 → Ret Tryd.prog 44 [v] w (GrowS 56 l w)
theorem l1Copy_all (l : Ss) : LcP l := Ss.strong (fun l ih => by
  intro v F w h hn
  obtain ⟨A, c, rfl, hl, _⟩ := h.slice
  have hst := restS_start h
  unfold maxI at hl
  have hlc := len_le_cntL l
  refine enter Tryd.func44 rfl Tryd.ntmps44 rfl rfl ?_
  refine goS ?_
  refine WO_build0 (e := 56) (k := 6) fun w0 hb0 e0 z0 => ?_
  have hown0 := owns_empty (B := w.heap.size) (k := 6) hb0 (Nat.le_refl _)
  refine goS ?_
  refine W_loop (α := Nat × Ss × Ss × Value) (fun p => [(0, .slice A l.len c), (3, p.2.2.2), (4, .int .i64 (p.1 : Int))])
    (fun p w' => p.2.1.app p.2.2.1 = l ∧ p.2.1.len = p.1 ∧ RestS w A p.1 p.2.2.1 ∧ GrowS 56 p.2.1 w p.2.2.2 w') (fun p => p.2.2.1.len) (0, .nil, l, _) (by repeat (first | exact True.intro | refine And.intro rfl ?_))
    ⟨rfl, rfl, hst, ⟨[], [], hown0, ⟨rfl, rfl⟩, by simp [Value.ownBlock], by simp [Value.ownBlock]⟩, e0⟩ ?_
  rintro ⟨i, d, r, vo⟩ w1 ⟨hap, hdl, hr, hgr, he⟩
  simp only at hap hdl hr hgr ⊢
  have hlen : d.len + r.len = l.len := by rw [← hap, Ss.len_app]
  have hcn : cntL d + cntL r = cntL l := by rw [← hap, cntL_app]
  refine goS ?_
  refine Z52 rfl (fun hc => ?_) (fun hc => ?_)
  · have hlt : i < l.len := by simpa using hc
    obtain ⟨xs, Fs, r1, r2, r3, r4⟩ := hgr
    cases r with
    | nil => simp only [Ss.len] at hlen; omega
    | cons op x y n t e r =>
      obtain ⟨b, o, vt, ve, Ft, Fe, rfl, hcells, hT, hE, hrest⟩ := restS_cons hr
      obtain ⟨A1, k1, rfl, hl1⟩ := hT.slice
      obtain ⟨A2, k2, rfl, hl2⟩ := hE.slice
      simp only [Ss.len, cntL] at hlen hcn
      have c4 := hcells 4 _ rfl
      have c5 := hcells 5 _ rfl
      refine goS ?_
      refine Z83 rfl rfl rfl hlt ?_
      refine WO_loadS rfl rfl (fun j u hu => cell_ext (hcells j u hu) he) ?_
      refine WO_alloc fun w2 hb2 he2 hz2 => ?_
      refine WO_storeS rfl rfl rfl (stmt_one hT hE op x y n) hb2 (by simp [Value.cells]) fun w3 hb3 ho3 => ?_
      replace hb3 : Blk w3 w1.heap.size [Value.int .i64 op, .int .i64 x, .int .i64 y, .int .i64 n, .slice A1 t.len k1, .slice A2 e.len k2] _ := hb3
      have he3 : Ext w1 w3 := he2.only ho3 (Nat.le_refl _)
      have hlt3 := hb3.lt
      clear hb2
      refine goS ?_
      refine WO_store1 rfl rfl rfl hb3 (by simp) fun w4 hb4 o4 => ?_
      simp only [List.set_cons_zero, List.set_cons_succ] at hb4
      refine goS ?_
      refine WO_store1 rfl rfl rfl hb4 (by simp) fun w5 hb5 o5 => ?_
      simp only [List.set_cons_zero, List.set_cons_succ] at hb5
      have he5 : Ext w1 w5 := (he3.only o4 (Nat.le_refl _)).only o5 (Nat.le_refl _)
      have h05 := he.trans he5
      have s5 : w1.heap.size < w5.heap.size := hb5.lt
      have cell4 : ∀ w', Ext w w' → w'.cell? ⟨b, o + i * 6 + 4, none⟩ = some (.slice A1 t.len k1) := fun w' h' => cell_ext c4 h'
      have cell5 : ∀ w', Ext w w' → w'.cell? ⟨b, o + i * 6 + 5, none⟩ = some (.slice A2 e.len k2) := fun w' h' => cell_ext c5 h'
      clear hb3 hb4 c4 c5
      have d4 := cell4 w5 h05
      refine goS ?_
      refine Z83 rfl rfl rfl hlt ?_
      refine goS ?_
      refine W_cut [(0, .slice (some ⟨b, o, none⟩) l.len c), (3, vo), (4, .int .i64 (i : Int)), (5, .pointer (some ⟨w1.heap.size, 0, none⟩))]
        (fun w' => ∃ vt' G1, Blk w' w1.heap.size [Value.int .i64 op, .int .i64 x, .int .i64 y, .int .i64 n, vt', .slice none 0 0] 56 ∧ RowS 56 w' vt' t G1 ∧ G1.Nodup ∧ (∀ b ∈ G1, w1.heap.size < b) ∧ Ext w1 w') ?_ (fun w6 hR => ?_)
      · refine Z52 rfl (fun hc => ?_) (fun hc => ?_)
        · refine goS ?_
          refine Z83 rfl rfl rfl hlt ?_
          refine goS ?_
          refine WO_call rfl (ih t (by omega) _ Ft w5 (hT.ext h05) (by omega)) ?_
          rintro vt' w6 hg
          obtain ⟨⟨G1, q1, n1, b1⟩, e6⟩ := hg.new
          have hone := q1.one
          refine goS ?_
          refine WO_store1 rfl rfl hone (hb5.ext e6) (by simp) fun w7 hb7 o7 => ?_
          simp only [List.set_cons_zero, List.set_cons_succ] at hb7
          refine goS ?_
          exact at_meets (by repeat (first | exact True.intro | refine And.intro rfl ?_)) ⟨vt', G1, hb7, q1.chg o7.chg (fun z hz hm => by simp at hm; subst hm; have := b1 _ hz; omega), n1, fun b hb => by have := b1 b hb; omega, (he5.trans e6).only o7 (Nat.le_refl _)⟩
        · have h0 : t = .nil := Ss.len_zero (by simp at hc; omega)
          subst h0
          refine goS ?_
          exact at_meets (by repeat (first | exact True.intro | refine And.intro rfl ?_)) ⟨_, [], hb5, RowS.nil_ _ _, by simp, by simp, he5⟩
      obtain ⟨vt', G1, hb6, q1, n1, b1, he6⟩ := hR
      have h06 := he.trans he6
      have s6 : w1.heap.size < w6.heap.size := hb6.lt
      have d5 := cell5 w6 h06
      clear d4
      refine goS ?_
      refine Z83 rfl rfl rfl hlt ?_
      refine goS ?_
      refine W_cut [(0, .slice (some ⟨b, o, none⟩) l.len c), (3, vo), (4, .int .i64 (i : Int)), (5, .pointer (some ⟨w1.heap.size, 0, none⟩))]
        (fun w' => ∃ ve' G2, Blk w' w1.heap.size [Value.int .i64 op, .int .i64 x, .int .i64 y, .int .i64 n, vt', ve'] 56 ∧ RowS 56 w' vt' t G1 ∧ RowS 56 w' ve' e G2 ∧ G2.Nodup ∧ (∀ b ∈ G2, w6.heap.size ≤ b) ∧ Ext w1 w') ?_ (fun w7 hR => ?_)
      · refine Z52 rfl (fun hc => ?_) (fun hc => ?_)
        · refine goS ?_
          refine Z83 rfl rfl rfl hlt ?_
          refine goS ?_
          refine WO_call rfl (ih e (by omega) _ Fe w6 (hE.ext h06) (by omega)) ?_
          rintro ve' w7 hg
          obtain ⟨⟨G2, q2, n2, b2⟩, e7⟩ := hg.new
          have hone := q2.one
          refine goS ?_
          refine WO_store1 rfl rfl hone (hb6.ext e7) (by simp) fun w8 hb8 o8 => ?_
          simp only [List.set_cons_zero, List.set_cons_succ] at hb8
          refine goS ?_
          exact at_meets (by repeat (first | exact True.intro | refine And.intro rfl ?_)) ⟨ve', G2, hb8, (q1.ext e7).chg o8.chg (fun z hz hm => by simp at hm; subst hm; have := b1 _ hz; omega), q2.chg o8.chg (fun z hz hm => by simp at hm; subst hm; have := b2 _ hz; omega), n2, b2, (he6.trans e7).only o8 (Nat.le_refl _)⟩
        · have h0 : e = .nil := Ss.len_zero (by simp at hc; omega)
          subst h0
          refine goS ?_
          exact at_meets (by repeat (first | exact True.intro | refine And.intro rfl ?_)) ⟨_, [], hb6, q1, RowS.nil_ _ _, by simp, by simp, he6⟩
      have hlt1 := q1.lt
      obtain ⟨ve', G2, hb7, q1, q2, n2, b2, he7⟩ := hR
      have nd : (G1 ++ G2).Nodup := List.nodup_append.2 ⟨n1, n2, fun a ha b hb e => by subst e; have := hlt1 a ha; have := b2 a hb; omega⟩
      have bd : ∀ b ∈ G1 ++ G2, w1.heap.size < b := fun b hb => by
        rcases List.mem_append.1 hb with hb | hb
        · exact b1 b hb
        · have := b2 b hb; omega
      have r14 := ownsRow_ext r1 he7
      have r24 := StkS.ext he7 r2
      have hone1 := q1.one
      have hone2 := q2.one
      have s7 := he7.size_le
      refine goS ?_
      refine WO_loadSB rfl hb7 rfl ?_
      refine WO_app1 (m := d.len) (u := stV op x y n vt' ve') rfl rfl (by intro v hv; simp [stV, Value.cells] at hv; rcases hv with rfl | rfl | rfl | rfl | rfl | rfl <;> first | rfl | assumption) rfl r14 (he.trans he7).size rfl (by omega) (by decide) fun v' w9 hown9 hg9 hat9 => ?_
      refine goS ?_
      refine at_loop (i + 1, d.snoc op x y n t e, r, v') (by repeat (first | exact True.intro | refine And.intro rfl ?_)) ⟨by rw [Ss.snoc_app]; exact hap, by simp only; rw [Ss.len_snoc]; omega, hrest, ?_⟩ (by simp only [Ss.len]; omega)
      refine GrowS.step r14 r24 r3 r4 (he.trans he7) q1 q2 nd (fun x hx hm => ?_) (fun x hx => ?_) hown9 hg9 ?_
      · have h1 := bd x hx
        have h2 : x < w1.heap.size := by
          rcases List.mem_append.1 hm with hm | hm
          · exact (r1.lt x (by simpa using hm)).2
          · exact StkS.lt _ _ _ r2 x hm
        omega
      · have := bd x hx; have := he.size_le; omega
      · rcases hat9 with h7 | h7
        · exact .inl h7
        · exact .inr ⟨_, h7, by omega⟩
  · have hge : i = l.len := by simp at hc; omega
    have hr0 : r = .nil := Ss.len_zero (by omega)
    subst hr0
    rw [Ss.app_nil] at hap
    subst hap
    refine goS ?_
    exact at_ret1 rfl rfl ⟨hgr, he⟩) l
theorem l1CopyOf_ret (tv bv : Value) (tl : List Int) (l : Ss) (Ft F : List Nat) (w : World) (ht : IntF w tv tl Ft) (h : StS w bv l F) (hn : tl.length ≤ 1048576) (hn2 : cntL l ≤ 1048576) :
    Ret Tryd.prog 30 [prV tv bv] w (NewPr 56 tl l w) := by
  refine enter Tryd.func30 rfl Tryd.ntmps30 rfl rfl ?_
  refine Z43 (Z44 (WO_box rfl fun w1 hs e1 z1 => WO_alloc fun w2 hr e2 z2 => ?_))
  replace hs : Blk w2 w.heap.size [tv, bv] _ := Blk.ext hs e2
  replace hr : Blk w2 w1.heap.size [.slice none 0 0, .slice none 0 0] _ := hr
  have e12 := e1.trans e2
  have s1 := e1.size_le
  have s2 := e2.size_le
  refine goS ?_
  refine W_held0 [w1.heap.size] [(2, .pointer (some ⟨w1.heap.size, 0, none⟩))] (CopyIn 56 26 w1.heap.size tl l w2) (by kernel_rfl) (fun ws es hS => ?_) (fun w4 hR => ?_)
  · have hss := es.size_le
    first | refine Z82 1 rfl (by kernel_rfl) (by kernel_rfl) (by kernel_rfl) (by assumption) (fun w' hw' => Z56 rfl) ?_ | refine Z82 1 rfl (by kernel_rfl) (by kernel_rfl) (by kernel_rfl) (by assumption) (fun w' hw' => Z63 rfl rfl) ?_ | refine Z82 1 rfl (by kernel_rfl) (by kernel_rfl) (by kernel_rfl) (by assumption) (fun w' hw' => Z64 rfl rfl) ?_ | refine Z82 1 rfl (by kernel_rfl) (by kernel_rfl) (by kernel_rfl) (by assumption) (fun w' hw' => Z75 rfl rfl (by omega)) ?_ | refine Z82 1 rfl (by kernel_rfl) (by kernel_rfl) (by kernel_rfl) (by assumption) (fun w' hw' => Z72 rfl) ?_ | refine Z82 1 rfl (by kernel_rfl) (by kernel_rfl) (by kernel_rfl) (by assumption) (fun w' hw' => Z69 rfl rfl rfl (by omega)) ?_ | refine Z82 1 rfl (by kernel_rfl) (by kernel_rfl) (by kernel_rfl) (by assumption) (fun w' hw' => Z30 rfl (by rfl) (by simp only [Z84, List.set_cons_zero, List.set_cons_succ]; rfl)) ?_
    refine Z82 2 rfl (by kernel_rfl) (by kernel_rfl) (by kernel_rfl) (by assumption) (fun w' hw' => Z66 rfl ((hs.ext es).chg hw' (by simp; omega)) rfl) ?_
    first | refine Z82 4 rfl (by kernel_rfl) (by kernel_rfl) (by kernel_rfl) (by assumption) (fun w' hw' => Z56 rfl) ?_ | refine Z82 4 rfl (by kernel_rfl) (by kernel_rfl) (by kernel_rfl) (by assumption) (fun w' hw' => Z63 rfl rfl) ?_ | refine Z82 4 rfl (by kernel_rfl) (by kernel_rfl) (by kernel_rfl) (by assumption) (fun w' hw' => Z64 rfl rfl) ?_ | refine Z82 4 rfl (by kernel_rfl) (by kernel_rfl) (by kernel_rfl) (by assumption) (fun w' hw' => Z75 rfl rfl (by omega)) ?_ | refine Z82 4 rfl (by kernel_rfl) (by kernel_rfl) (by kernel_rfl) (by assumption) (fun w' hw' => Z72 rfl) ?_ | refine Z82 4 rfl (by kernel_rfl) (by kernel_rfl) (by kernel_rfl) (by assumption) (fun w' hw' => Z69 rfl rfl rfl (by omega)) ?_ | refine Z82 4 rfl (by kernel_rfl) (by kernel_rfl) (by kernel_rfl) (by assumption) (fun w' hw' => Z30 rfl (by rfl) (by simp only [Z84, List.set_cons_zero, List.set_cons_succ]; rfl)) ?_
    refine Z82 5 rfl (by kernel_rfl) (by kernel_rfl) (by kernel_rfl) (by assumption) (fun w' hw' => Z66 rfl ((hs.ext es).chg hw' (by simp; omega)) rfl) ?_
    refine WH_one 0 rfl (by kernel_rfl) (WO_build0 (e := 3) (k := 1) fun w0 hb0 e0 z0 => Z31 (at_held (e0.chg _) ?_))
    have hown0 := owns_empty (B := ws.heap.size) (k := 1) hb0 (Nat.le_refl _)
    refine WH_one 3 rfl (by kernel_rfl) (WO_appI (l0 := []) rfl hown0 rfl (ht.ext ((e12.trans es).trans e0)) e0.size (by simp; omega) (by decide) fun tv' wc hown1 hg hat => Z31 (at_held ((grown_below e0 hown0 hg (Nat.le_refl _)).chg _) ?_))
    have ec : Ext ws wc := grown_below e0 hown0 hg (Nat.le_refl _)
    rw [List.nil_append] at hown1
    obtain ⟨⟨G1, q1, b1⟩, _⟩ := NewInts.of_row hown1 (Nat.le_refl _) ec (by unfold maxI; omega)
    refine WX_call 6 rfl (by kernel_rfl) rfl (l1Copy_all l bv F wc (h.ext ((e12.trans es).trans ec)) hn2) ?_
    rintro bv' wd hg2
    obtain ⟨⟨G2, q2, n2, b2⟩, ed⟩ := hg2.new
    have ecd := ec.trans ed
    have hSd : Chg [w1.heap.size] ws wd := ecd.chg _
    refine ⟨hSd, ?_⟩
    have hone1 := q1.one
    have hone2 := q2.one
    have hlt1 := q1.lt
    have hsc := ec.size_le
    refine Z82 7 rfl (by kernel_rfl) (by kernel_rfl) (by kernel_rfl) (by assumption) (fun w' hw' => Z30 (cs := [tv', bv']) rfl (by simp [partsOk, hone1, hone2]) rfl) ?_
    refine WH_one 8 rfl (by kernel_rfl) (WO_storeS (k := 2) (vs := [tv', bv']) rfl rfl rfl (by simp; exact ⟨hone1, hone2⟩) ((hr.ext es).ext ecd) (by decide) fun wf hbf of => Z31 (at_held (hSd.trans of.chg) ?_))
    replace hbf : Blk wf w1.heap.size [tv', bv'] _ := hbf
    refine WH_done (by kernel_rfl) (by repeat (first | exact True.intro | refine And.intro rfl ?_)) ⟨tv', bv', G1, G2, hbf, (q1.ext ed).chg of.chg (fun z hz hm => by simp at hm; subst hm; have := b1 _ hz; omega), q2.chg of.chg (fun z hz hm => by simp at hm; subst hm; have := b2 _ hz; omega), List.nodup_append.2 ⟨q1.nodup, n2, fun a ha b hb e => by subst e; have := hlt1 a ha; have := b2 a hb; omega⟩, fun b hb => ?_, (es.chg _).trans (hSd.trans of.chg)⟩
    rcases List.mem_append.1 hb with hb | hb
    · have := b1 b hb; omega
    · have := b2 b hb; omega
  · obtain ⟨tv', bv', G1, G2, hb4, q1, q2, nd, bd, c4⟩ := hR
    refine goS ?_
    exact at_retC rfl rfl hb4 rfl (NewPr.mk (w1 := w) q1 q2 nd (fun b hb => by have := bd b hb; omega) (c4.ext_of e12 (by simp; omega)))
end Go.Proofs.YtplcmbipeanjdaaDoor
