/-
  What is proved here: the reference's own copies of programs; two statements of a program are exchanged by the reference.
-/
import Derived.Test.YtpmgfokcbgdegaaSwp
namespace Go.Proofs.Ytpmgfokcbgdegaa
set_option linter.unusedVariables false
set_option linter.unusedSimpArgs false
set_option linter.unnecessarySimpa false
open Go.RowKit

def LoP (l : Ss) : Prop := ∀ v F w, StS w v l F → cntL l ≤ 1048576 → Ret Try.prog 63 [v] w (GrowS 62 l w)
theorem l17OwnStmt_ret0 (op x y n : Int) (t e : Ss) (vt ve : Value) (Ft Fe : List Nat) (w : World) (ht : StS w vt t Ft) (he : StS w ve e Fe) (it : LoP t) (ie : LoP e) (h1 : cntL t ≤ 1048576) (h2 : cntL e ≤ 1048576) :
    Ret Try.prog 73 [stV op x y n vt ve] w (NewSt 62 op x y n t e w) := by
  refine enter Try.func73 rfl Try.ntmps73 rfl rfl ?_
  refine Z43 (Z44 (WO_box rfl fun w1 hs e1 z1 => WO_alloc fun w2 hr e2 z2 => ?_))
  replace hs : Blk w2 w.heap.size [.int .i64 op, .int .i64 x, .int .i64 y, .int .i64 n, vt, ve] _ := Blk.ext hs e2
  replace hr : Blk w2 w1.heap.size [.int .i64 0, .int .i64 0, .int .i64 0, .int .i64 0, .slice none 0 0, .slice none 0 0] _ := hr
  have e0 := e1.trans e2
  have s1 := e1.size_le
  have s2 := hr.lt
  refine goS ?_
  refine WO_call rfl (it vt Ft w2 (ht.ext e0) h1) ?_
  rintro vt' w3 hg
  obtain ⟨⟨G1, q1, n1, b1⟩, e3⟩ := hg.new
  have hone1 := q1.one
  have hlt1 := q1.lt
  refine goS ?_
  refine WO_store1 rfl rfl hone1 (hs.ext e3) (by simp) fun w4 hs4 o4 => ?_
  simp only [List.set_cons_zero, List.set_cons_succ] at hs4
  have s3 := e3.size_le
  have s4 := o4.size
  replace hr := (hr.ext e3).only o4 (by omega)
  replace e0 := (e0.trans e3).only o4 (Nat.le_refl _)
  replace q1 := q1.chg o4.chg (fun z hz hm => by simp at hm; subst hm; have := b1 _ hz; omega)
  refine goS ?_
  refine WO_call rfl (ie ve Fe w4 (he.ext e0) h2) ?_
  rintro ve' w5 hg2
  obtain ⟨⟨G2, q2, n2, b2⟩, e5⟩ := hg2.new
  have hone2 := q2.one
  have s5 := e5.size_le
  refine goS ?_
  refine WO_store1 rfl rfl hone2 (hs4.ext e5) (by simp) fun w6 hs6 o6 => ?_
  simp only [List.set_cons_zero, List.set_cons_succ] at hs6
  replace hr := (hr.ext e5).only o6 (by omega)
  replace e0 := (e0.trans e5).only o6 (Nat.le_refl _)
  replace q1 := (q1.ext e5).chg o6.chg (fun z hz hm => by simp at hm; subst hm; have := b1 _ hz; omega)
  replace q2 := q2.chg o6.chg (fun z hz hm => by simp at hm; subst hm; have := b2 _ hz; omega)
  refine goS ?_
  refine WO_loadSB rfl hs6 rfl ?_
  refine WO_storeS (k := 6) (vs := [.int .i64 op, .int .i64 x, .int .i64 y, .int .i64 n, vt', ve']) rfl rfl rfl (by intro v hv; simp at hv; rcases hv with rfl | rfl | rfl | rfl | rfl | rfl <;> first | rfl | assumption) hr (by decide) fun w7 hr7 o7 => ?_
  replace hr7 : Blk w7 w1.heap.size [.int .i64 op, .int .i64 x, .int .i64 y, .int .i64 n, vt', ve'] _ := hr7
  refine goS ?_
  refine at_retC rfl rfl hr7 rfl ⟨vt', ve', G1, G2, rfl, q1.chg o7.chg (fun z hz hm => by simp at hm; subst hm; have := b1 _ hz; omega), q2.chg o7.chg (fun z hz hm => by simp at hm; subst hm; have := b2 _ hz; omega), List.nodup_append.2 ⟨n1, n2, fun a ha b hb e => by subst e; have := hlt1 a ha; have := b2 a hb; omega⟩, fun b hb => ?_, e0.only o7 (by omega)⟩
  rcases List.mem_append.1 hb with hb | hb
  · have := b1 b hb; omega
  · have := b2 b hb; omega
theorem l17List_all (l : Ss) : LoP l := Ss.strong (fun l ih => by
  intro v F w h hn
  obtain ⟨A, c, rfl, hl, _⟩ := h.slice
  have hst := restS_start h
  unfold maxI at hl
  have hlc := len_le_cntL l
  refine enter Try.func63 rfl Try.ntmps63 rfl rfl ?_
  refine goS ?_
  refine WO_build0 (e := 62) (k := 6) fun w0 hb0 e0 z0 => ?_
  have hown0 := owns_empty (B := w.heap.size) (k := 6) hb0 (Nat.le_refl _)
  refine goS ?_
  refine W_loop (α := Nat × Ss × Ss × Value) (fun p => [(3, p.2.2.2), (7, .slice A l.len c), (8, .int .i64 (l.len : Int)), (9, .int .i64 (p.1 : Int))])
    (fun p w' => p.2.1.app p.2.2.1 = l ∧ p.2.1.len = p.1 ∧ RestS w A p.1 p.2.2.1 ∧ GrowS 62 p.2.1 w p.2.2.2 w') (fun p => p.2.2.1.len) (0, .nil, l, _) (by repeat (first | exact True.intro | refine And.intro rfl ?_))
    ⟨rfl, rfl, hst, ⟨[], [], hown0, ⟨rfl, rfl⟩, by simp [Value.ownBlock], by simp [Value.ownBlock]⟩, e0⟩ ?_
  rintro ⟨i, d, r, vo⟩ w1 ⟨hap, hdl, hr, hgr, he⟩
  simp only at hap hdl hr hgr ⊢
  have hlen : d.len + r.len = l.len := by rw [← hap, Ss.len_app]
  have hcn : cntL d + cntL r = cntL l := by rw [← hap, cntL_app]
  refine goS ?_
  refine Z52 rfl (fun hc => ?_) (fun hc => ?_)
  · have hlt : i < l.len := by simpa using hc
    obtain ⟨xs, Fs, r1, r2, r3, r4⟩ := hgr
    cases r with
    | nil => simp only [Ss.len] at hlen; omega
    | cons op x y n t e r =>
      obtain ⟨b, o, vt, ve, Ft, Fe, rfl, hcells, hT, hE, hrest⟩ := restS_cons hr
      simp only [Ss.len, cntL] at hlen hcn
      refine goS ?_
      refine Z83 rfl rfl rfl hlt ?_
      refine WO_loadS rfl rfl (fun j u hu => cell_ext (hcells j u hu) he) ?_
      refine WO_alloc fun w2 hb2 he2 hz2 => ?_
      refine WO_storeS rfl rfl rfl (stmt_one hT hE op x y n) hb2 (by simp [Value.cells]) fun w3 hb3 ho3 => ?_
      replace hb3 : Blk w3 w1.heap.size [Value.int .i64 op, .int .i64 x, .int .i64 y, .int .i64 n, vt, ve] _ := hb3
      have he3 : Ext w1 w3 := he2.only ho3 (Nat.le_refl _)
      have he03 := he.trans he3
      refine goS ?_
      refine WO_loadSB rfl hb3 rfl ?_
      refine WO_call rfl (l17OwnStmt_ret0 op x y n t e vt ve Ft Fe w3 (hT.ext he03) (hE.ext he03) (ih t (by omega)) (ih e (by omega)) (by omega) (by omega)) ?_
      rintro _ w4 ⟨vt', ve', G1, G2, rfl, q1, q2, nd, bd, e4'⟩
      have e4 : Ext w1 w4 := he3.trans e4'
      have r14 := ownsRow_ext r1 e4
      have r24 := StkS.ext e4 r2
      have hone1 := q1.one
      have hone2 := q2.one
      have s3 := he3.size_le
      have s4 := e4'.size_le
      refine WO_app1 (m := d.len) (u := stV op x y n vt' ve') rfl rfl (by intro v hv; simp [stV, Value.cells] at hv; rcases hv with rfl | rfl | rfl | rfl | rfl | rfl <;> first | rfl | assumption) rfl r14 (he.trans e4).size rfl (by omega) (by decide) fun v' w7 hown7 hg7 hat7 => ?_
      refine goS ?_
      refine at_loop (i + 1, d.snoc op x y n t e, r, v') (by repeat (first | exact True.intro | refine And.intro rfl ?_)) ⟨by rw [Ss.snoc_app]; exact hap, by simp only; rw [Ss.len_snoc]; omega, hrest, ?_⟩ (by simp only [Ss.len]; omega)
      refine GrowS.step r14 r24 r3 r4 (he.trans e4) q1 q2 nd (fun x hx hm => ?_) (fun x hx => ?_) hown7 hg7 ?_
      · have h1 := bd x hx
        have h2 : x < w1.heap.size := by
          rcases List.mem_append.1 hm with hm | hm
          · exact (r1.lt x (by simpa using hm)).2
          · exact StkS.lt _ _ _ r2 x hm
        omega
      · have := bd x hx; have := he.size_le; omega
      · rcases hat7 with h7 | h7
        · exact .inl h7
        · exact .inr ⟨_, h7, by omega⟩
  · have hge : i = l.len := by simp at hc; omega
    have hr0 : r = .nil := Ss.len_zero (by omega)
    subst hr0
    rw [Ss.app_nil] at hap
    subst hap
    refine goS ?_
    exact at_ret1 rfl rfl ⟨hgr, he⟩) l
theorem l17OwnProgram_ret (tv bv : Value) (tl : List Int) (l : Ss) (Ft F : List Nat) (w : World) (ht : IntF w tv tl Ft) (h : StS w bv l F) (hn : tl.length ≤ 1048576) (hn2 : cntL l ≤ 1048576) :
    Ret Try.prog 41 [prV tv bv] w (NewPr 62 tl l w) := by
  refine enter Try.func41 rfl Try.ntmps41 rfl rfl ?_
  refine Z43 (Z44 (WO_box rfl fun w1 hs e1 z1 => WO_alloc fun w2 hr e2 z2 => ?_))
  replace hs : Blk w2 w.heap.size [tv, bv] _ := Blk.ext hs e2
  replace hr : Blk w2 w1.heap.size [.slice none 0 0, .slice none 0 0] _ := hr
  have e0 := e1.trans e2
  have s1 := e1.size_le
  have s2 := hr.lt
  refine goS ?_
  refine WO_build0 (e := 3) (k := 1) fun w3 hb3 e3 z3 => ?_
  have hown0 := owns_empty (B := w2.heap.size) (k := 1) hb3 (Nat.le_refl _)
  replace hs := hs.ext e3
  replace hr := hr.ext e3
  refine goS ?_
  refine WO_appI (l0 := []) rfl hown0 rfl (ht.ext (e0.trans e3)) e3.size (by simp; omega) (by decide) fun tv' w4 hown1 hg hat => ?_
  have e4 : Ext w2 w4 := grown_below e3 hown0 hg (Nat.le_refl _)
  rw [List.nil_append] at hown1
  obtain ⟨⟨G1, q1, b1⟩, _⟩ := NewInts.of_row hown1 (Nat.le_refl _) e4 (by unfold maxI; omega)
  have hc4 := grown_chg hg
  have hn2' : ∀ z ∈ (Value.slice (some ⟨w2.heap.size, 0, none⟩) 0 0).ownBlock.toList, z = w2.heap.size := by simp [Value.ownBlock]
  replace hs := hs.chg hc4 (fun hm => by have := hn2' _ hm; omega)
  replace hr := hr.chg hc4 (fun hm => by have := hn2' _ hm; omega)
  replace e0 := e0.trans e4
  have s4 := e4.size_le
  have hone1 := q1.one
  have hlt1 := q1.lt
  refine goS ?_
  refine WO_store1 rfl rfl hone1 hs (by simp) fun w5 hs5 o5 => ?_
  simp only [List.set_cons_zero, List.set_cons_succ] at hs5
  replace hr := hr.only o5 (by omega)
  replace e0 := e0.only o5 (Nat.le_refl _)
  replace q1 := q1.chg o5.chg (fun z hz hm => by simp at hm; subst hm; have := b1 _ hz; omega)
  have s5 := o5.size
  refine goS ?_
  refine WO_call rfl (l17List_all l bv F w5 (h.ext e0) hn2) ?_
  rintro bv' w6 hg2
  obtain ⟨⟨G2, q2, n2, b2⟩, e6⟩ := hg2.new
  have hone2 := q2.one
  have s6 := e6.size_le
  refine goS ?_
  refine WO_store1 rfl rfl hone2 (hs5.ext e6) (by simp) fun w7 hs7 o7 => ?_
  simp only [List.set_cons_zero, List.set_cons_succ] at hs7
  replace hr := (hr.ext e6).only o7 (by omega)
  replace e0 := (e0.trans e6).only o7 (Nat.le_refl _)
  replace q1 := (q1.ext e6).chg o7.chg (fun z hz hm => by simp at hm; subst hm; have := b1 _ hz; omega)
  replace q2 := q2.chg o7.chg (fun z hz hm => by simp at hm; subst hm; have := b2 _ hz; omega)
  refine goS ?_
  refine WO_loadSB rfl hs7 rfl ?_
  refine WO_storeS (k := 2) (vs := [tv', bv']) rfl rfl rfl (by simp; exact ⟨hone1, hone2⟩) hr (by decide) fun w8 hr8 o8 => ?_
  replace hr8 : Blk w8 w1.heap.size [tv', bv'] _ := hr8
  refine goS ?_
  refine at_retC rfl rfl hr8 rfl (NewPr.mk (w1 := w) (q1.chg o8.chg (fun z hz hm => by simp at hm; subst hm; have := b1 _ hz; omega)) (q2.chg o8.chg (fun z hz hm => by simp at hm; subst hm; have := b2 _ hz; omega)) (List.nodup_append.2 ⟨q1.nodup, n2, fun a ha b hb e => by subst e; have := hlt1 a ha; have := b2 a hb; omega⟩) (fun b hb => ?_) (e0.only o8 (by omega)))
  rcases List.mem_append.1 hb with hb | hb
  · have := b1 b hb; omega
  · have := b2 b hb; omega
theorem l11Simple_ret (op x y n : Int) (vt ve : Value) (w : World) : Ret Try.prog 42 [stV op x y n vt ve] w fun v w' => v = .bool (decide (¬ (op = 9 ∨ op = 10))) ∧ Ext w w' := by
  refine enter Try.func42 rfl Try.ntmps42 rfl rfl ?_
  refine Z43 (Z44 (WO_box rfl fun w1 hs e1 z1 => ?_))
  replace hs : Blk w1 w.heap.size [.int .i64 op, .int .i64 x, .int .i64 y, .int .i64 n, vt, ve] _ := hs
  (refine goS ?_; repeat' (first | ((refine Z51 rfl rfl (fun c' hc' => ?_)); cases c' <;> (try simp only [decide_eq_true_eq, decide_eq_false_iff_not, beq_iff_eq, beq_eq_false_iff_ne, bne_iff_ne, bne_eq_false_iff_eq, ne_eq, gt_iff_lt, ge_iff_le, Int.not_lt, Int.not_le, Bool.not_eq_true', Bool.not_eq_false', Bool.not_true, Bool.not_false, reduceCtorEq, Decidable.not_not, not_true_eq_false, Bool.true_eq_false, Bool.false_eq_true] at hc') <;> (try (exfalso; omega)) <;> refine goS ?_) | ((refine Z52 rfl (fun hc' => ?_) (fun hc' => ?_)) <;> (try simp only [decide_eq_true_eq, decide_eq_false_iff_not, beq_iff_eq, beq_eq_false_iff_ne, bne_iff_ne, bne_eq_false_iff_eq, ne_eq, gt_iff_lt, ge_iff_le, Int.not_lt, Int.not_le, Bool.not_eq_true', Bool.not_eq_false', Bool.not_true, Bool.not_false, reduceCtorEq, Decidable.not_not, not_true_eq_false, Bool.true_eq_false, Bool.false_eq_true] at hc') <;> (try (exfalso; omega)) <;> refine goS ?_)))
  all_goals (refine at_ret1 rfl rfl ⟨?_, e1⟩; refine congrArg Value.bool ?_; rw [Bool.eq_iff_iff]; simp <;> omega)
theorem mix_perm {Ft G1 G2 A B C D : List Nat} {g : Nat} : (Ft ++ g :: (G1 ++ (C ++ (D ++ (A ++ (B ++ G2)))))).Perm ((C ++ (D ++ (A ++ B))) ++ (Ft ++ g :: (G1 ++ G2))) := by
  refine List.perm_iff_count.2 fun a => ?_
  simp only [List.count_append, List.count_cons]
  omega
theorem mix_nodup {Ft G1 G2 A B C D X1 X2 X3 X4 H1 H2 : List Nat} {g h m : Nat} (h1 : (Ft ++ g :: (G1 ++ (X1 ++ (X2 ++ (X3 ++ (X4 ++ G2)))))).Nodup) (h2 : (h :: (H1 ++ (A ++ (B ++ (C ++ (D ++ H2)))))).Nodup)
    (h3 : ∀ z ∈ Ft ++ g :: (G1 ++ (X1 ++ (X2 ++ (X3 ++ (X4 ++ G2))))), m ≤ z) (h4 : ∀ z ∈ h :: (H1 ++ (A ++ (B ++ (C ++ (D ++ H2))))), z < m) : (Ft ++ g :: (G1 ++ (C ++ (D ++ (A ++ (B ++ G2)))))).Nodup := by
  refine (List.Perm.nodup_iff mix_perm).2 (List.nodup_append.2 ⟨?_, ?_, ?_⟩)
  · have p1 : (C ++ (D ++ (A ++ B))).Perm (A ++ (B ++ (C ++ D))) := List.perm_iff_count.2 fun a => by simp only [List.count_append]; omega
    refine (List.Perm.nodup_iff p1).2 (List.Nodup.sublist ?_ h2)
    refine List.Sublist.cons _ (List.Sublist.trans ?_ (List.sublist_append_right _ _))
    exact List.Sublist.append (List.Sublist.refl _) (List.Sublist.append (List.Sublist.refl _) (List.Sublist.append (List.Sublist.refl _) (List.sublist_append_left _ _)))
  · refine List.Nodup.sublist ?_ h1
    refine List.Sublist.append (List.Sublist.refl _) (List.Sublist.cons_cons _ (List.Sublist.append (List.Sublist.refl _) ?_))
    exact (List.sublist_append_right _ _).trans ((List.sublist_append_right _ _).trans ((List.sublist_append_right _ _).trans (List.sublist_append_right _ _)))
  · intro a ha b hb e
    subst e
    have q1 : a < m := h4 a (by simp only [List.mem_append, List.mem_cons] at ha ⊢; rcases ha with h | h | h | h <;> simp [h])
    have q2 : m ≤ a := h3 a (by simp only [List.mem_append, List.mem_cons] at hb ⊢; rcases hb with h | h | h | h <;> simp [h])
    omega
theorem sSwapStmts_ret (tv bv : Value) (tl : List Int) (l : Ss) (F F2 : List Nat) (k : Int) (w : World) (ht : IntF w tv tl F) (hb : StS w bv l F2) (hk : -9223372036854775808 ≤ k ∧ k ≤ 9223372036854775807) (hn : tl.length ≤ 1048576) (hn2 : cntL l ≤ 1048576) :
    Ret Try.prog 17 [prV tv bv, .int .i64 k] w (PrO 62 tl (swpR tl l k) w) := by
  have hcl := len_le_cntL l
  refine enter Try.func17 rfl Try.ntmps17 rfl rfl ?_
  refine Z43 (Z44 (WO_box rfl fun w1 hs e1 z1 => WO_alloc fun w2 hr e2 z2 => ?_))
  replace hs : Blk w2 w.heap.size [tv, bv] _ := Blk.ext hs e2
  replace hr : Blk w2 w1.heap.size [.slice none 0 0, .slice none 0 0] _ := hr
  have e0 := e1.trans e2
  have s1 := e1.size_le
  have s2 := hr.lt
  refine goS ?_
  refine WO_loadSB rfl hs rfl ?_
  refine WO_call rfl (l17OwnProgram_ret tv _ tl l F F2 w2 (ht.ext e0) (hb.ext e0) hn hn2) ?_
  rintro _ wp ⟨⟨tvp, bvp, rfl, Ftp, Fbp, p1, p2, p3, p4⟩, ep⟩
  have on1 := p1.one
  have on2 := p2.one
  replace hr := hr.ext ep
  replace e0 := e0.trans ep
  have sp := ep.size_le
  refine WO_storeS (k := 2) (vs := [tvp, bvp]) rfl rfl rfl (by simp; exact ⟨on1, on2⟩) (hs.ext ep) (by simp) fun w3 hs3 o3 => ?_
  replace hs3 : Blk w3 w.heap.size [tvp, bvp] _ := hs3
  replace hr := hr.only o3 (by omega)
  replace e0 := e0.only o3 (Nat.le_refl _)
  have s3 := o3.size
  replace p1 := p1.chg o3.chg (fun z hz hm => by simp at hm; subst hm; have := p4 _ (List.mem_append_left _ hz); omega)
  replace p2 := p2.chg o3.chg (fun z hz hm => by simp at hm; subst hm; have := p4 _ (List.mem_append_right _ hz); omega)
  clear hs
  obtain ⟨A, c, rfl, hlc, hl⟩ := p2.slice
  unfold maxI at hl
  refine goS ?_
  refine WO_loadSB rfl hs3 rfl ?_
  refine WO_call rfl (sProgramValid_ret tvp _ tl l _ _ w3 p1.int p2.sts (by omega)) ?_
  rintro _ w4 ⟨rfl, e4⟩
  replace hs3 := hs3.ext e4
  replace hr := hr.ext e4
  replace e0 := e0.trans e4
  replace p1 := p1.ext e4
  replace p2 := p2.ext e4
  have s4 := e4.size_le
  cases hv : validP tl l
  · have hnone : swpR tl l k = none := swpR_none (by simp [hv])
    refine goS ?_
    refine WO_storeS (k := 2) (vs := [.slice none 0 0, .slice none 0 0]) rfl rfl rfl (by intro v hv; simp at hv; subst hv; rfl) hr (by decide) fun wz hz oz => ?_
    replace hz : Blk wz w1.heap.size [.slice none 0 0, .slice none 0 0] _ := hz
    refine goS ?_
    exact at_ret2G rfl (.cell inferInstance rfl hz rfl) (.tmp rfl) (by rw [hnone]; exact PrO.none_ (Ext.only e0 oz s1))
  · by_cases hyes : 0 ≤ k ∧ k ≤ (l.len : Int) - 2
    · obtain ⟨hk0, hk2⟩ := hyes
      obtain ⟨i, rfl⟩ := Int.eq_ofNat_of_zero_le hk0
      obtain ⟨op, x, y, n, t, e, r, q1, q2, q3, q4⟩ := Ss.at_ (l := l) (k := i) (by omega)
      obtain ⟨op', x', y', n', t', e', r', _, _, q5, _⟩ := Ss.at_ (l := l) (k := i + 1) (by omega)
      have hr2 : r = .cons op' x' y' n' t' e' r' := by rw [← q4, q5]
      have hsw := swpR_some hv q3 hr2
      have q1' := q1
      rw [hr2] at q1'
      have hLq : (l.take i).app (St1.cons ⟨op, x, y, n, t, e⟩ (St1.cons ⟨op', x', y', n', t', e'⟩ r')) = l := q1'.symm
      have p2' := p2
      rw [← hLq] at p2'
      obtain ⟨gp, capp, csp, vt, ve, vt', ve', H1, Ht, He, Ht', He', H2, hbv, rfl, j1, j2, j3, j4, j8, j9, j10, j11, _⟩ := RowS.put2 p2'
      rw [hLq] at hbv
      cases hbv
      clear p2'
      rw [q2] at j2 j3 j4
      have hpB := p4 gp (by simp)
      have hone1 : ∀ u ∈ [Value.int .i64 op, .int .i64 x, .int .i64 y, .int .i64 n, vt, ve], u.oneCell' = true := by
        intro u hu; simp at hu; rcases hu with rfl | rfl | rfl | rfl | rfl | rfl <;> first | rfl | exact j8.one | exact j9.one
      have hone2 : ∀ u ∈ [Value.int .i64 op', .int .i64 x', .int .i64 y', .int .i64 n', vt', ve'], u.oneCell' = true := by
        intro u hu; simp at hu; rcases hu with rfl | rfl | rfl | rfl | rfl | rfl <;> first | rfl | exact j10.one | exact j11.one
      have ld1 : ∀ (j : Nat) u, [Value.int .i64 op, .int .i64 x, .int .i64 y, .int .i64 n, vt, ve][j]? = some u → w4.cell? ⟨gp, 0 + i * 6 + j, none⟩ = some u := fun j u hu => by
        rw [Nat.zero_add]; exact j1.cell (j3 j u hu)
      have ld2 : ∀ (j : Nat) u, [Value.int .i64 op', .int .i64 x', .int .i64 y', .int .i64 n', vt', ve'][j]? = some u → w4.cell? ⟨gp, 0 + (i + 1) * 6 + j, none⟩ = some u := fun j u hu => by
        rw [show 0 + (i + 1) * 6 + j = i * 6 + 6 + j from by omega]; exact j1.cell (j4 j u hu)
      (refine goS ?_; repeat' (first | ((refine Z51 rfl rfl (fun c' hc' => ?_)); cases c' <;> (try simp only [decide_eq_true_eq, decide_eq_false_iff_not, beq_iff_eq, beq_eq_false_iff_ne, bne_iff_ne, bne_eq_false_iff_eq, ne_eq, gt_iff_lt, ge_iff_le, Int.not_lt, Int.not_le, Bool.not_eq_true', Bool.not_eq_false', Bool.not_true, Bool.not_false, reduceCtorEq, Decidable.not_not, not_true_eq_false, Bool.true_eq_false, Bool.false_eq_true] at hc') <;> (try (exfalso; omega)) <;> refine goS ?_) | ((refine Z52 rfl (fun hc' => ?_) (fun hc' => ?_)) <;> (try simp only [decide_eq_true_eq, decide_eq_false_iff_not, beq_iff_eq, beq_eq_false_iff_ne, bne_iff_ne, bne_eq_false_iff_eq, ne_eq, gt_iff_lt, ge_iff_le, Int.not_lt, Int.not_le, Bool.not_eq_true', Bool.not_eq_false', Bool.not_true, Bool.not_false, reduceCtorEq, Decidable.not_not, not_true_eq_false, Bool.true_eq_false, Bool.false_eq_true] at hc') <;> (try (exfalso; omega)) <;> refine goS ?_)))
      refine Z83 (j := i) rfl rfl rfl (by omega) ?_
      refine WO_loadS (cs := [.int .i64 op, .int .i64 x, .int .i64 y, .int .i64 n, vt, ve]) rfl rfl ld1 ?_
      refine WO_alloc fun wa ha ea za => ?_
      refine WO_storeS (k := 6) (vs := [.int .i64 op, .int .i64 x, .int .i64 y, .int .i64 n, vt, ve]) rfl rfl rfl hone1 ha (by decide) fun wb b1 ob => ?_
      replace b1 : Blk wb w4.heap.size [.int .i64 op, .int .i64 x, .int .i64 y, .int .i64 n, vt, ve] _ := b1
      have eb : Ext w4 wb := ea.only ob (Nat.le_refl _)
      replace hs3 := hs3.ext eb
      replace hr := hr.ext eb
      replace e0 := e0.trans eb
      have sb := b1.lt
      refine goS ?_
      refine Z83 (j := i + 1) rfl rfl (by omega) (by omega) ?_
      refine WO_loadS (cs := [.int .i64 op', .int .i64 x', .int .i64 y', .int .i64 n', vt', ve']) rfl rfl (fun j u hu => cell_ext (ld2 j u hu) eb) ?_
      refine WO_alloc fun wc hc ec zc => ?_
      refine WO_storeS (k := 6) (vs := [.int .i64 op', .int .i64 x', .int .i64 y', .int .i64 n', vt', ve']) rfl rfl rfl hone2 hc (by decide) fun wd b2 od => ?_
      replace b2 : Blk wd wb.heap.size [.int .i64 op', .int .i64 x', .int .i64 y', .int .i64 n', vt', ve'] _ := b2
      have ed : Ext wb wd := ec.only od (Nat.le_refl _)
      have e4d : Ext w4 wd := eb.trans ed
      replace b1 := b1.ext ed
      replace hs3 := hs3.ext ed
      replace hr := hr.ext ed
      replace e0 := e0.trans ed
      have sd := b2.lt
      refine goS ?_
      refine WO_loadSB rfl b1 rfl ?_
      refine WO_call rfl (l11Simple_ret op x y n vt ve wd) ?_
      rintro _ we ⟨rfl, ee⟩
      replace b1 := b1.ext ee
      replace b2 := b2.ext ee
      replace hs3 := hs3.ext ee
      replace hr := hr.ext ee
      replace e0 := e0.trans ee
      replace e4d := e4d.trans ee
      have se := ee.size_le
      by_cases hb1 : op = 9 ∨ op = 10
      · rw [decide_eq_false (fun h => h hb1)]
        rw [if_neg (fun h => h.1 hb1)] at hsw
        refine goS ?_
        refine WO_storeS (k := 2) (vs := [.slice none 0 0, .slice none 0 0]) rfl rfl rfl (by intro v hv; simp at hv; subst hv; rfl) hr (by decide) fun wz hz oz => ?_
        replace hz : Blk wz w1.heap.size [.slice none 0 0, .slice none 0 0] _ := hz
        refine goS ?_
        exact at_ret2G rfl (.cell inferInstance rfl hz rfl) (.tmp rfl) (by rw [hsw]; exact PrO.none_ (Ext.only e0 oz s1))
      · rw [decide_eq_true hb1]
        refine goS ?_
        refine WO_loadSB rfl b2 rfl ?_
        refine goS ?_
        refine WO_call rfl (l11Simple_ret op' x' y' n' vt' ve' we) ?_
        rintro _ wf ⟨rfl, ef⟩
        replace b1 := b1.ext ef
        replace b2 := b2.ext ef
        replace hs3 := hs3.ext ef
        replace hr := hr.ext ef
        replace e0 := e0.trans ef
        replace e4d := e4d.trans ef
        have sf := ef.size_le
        by_cases hb2 : op' = 9 ∨ op' = 10
        · rw [decide_eq_false (fun h => h hb2)]
          rw [if_neg (fun h => h.2.1 hb2)] at hsw
          refine goS ?_
          refine WO_storeS (k := 2) (vs := [.slice none 0 0, .slice none 0 0]) rfl rfl rfl (by intro v hv; simp at hv; subst hv; rfl) hr (by decide) fun wz hz oz => ?_
          replace hz : Blk wz w1.heap.size [.slice none 0 0, .slice none 0 0] _ := hz
          refine goS ?_
          exact at_ret2G rfl (.cell inferInstance rfl hz rfl) (.tmp rfl) (by rw [hsw]; exact PrO.none_ (Ext.only e0 oz s1))
        · rw [decide_eq_true hb2]
          refine goS ?_
          refine WO_loadSB rfl b1 rfl ?_
          refine goS ?_
          refine WO_loadSB rfl b2 rfl ?_
          refine goS ?_
          refine WO_call rfl (sVarsApart_ret op x y n t e vt ve _ _ op' x' y' n' t' e' vt' ve' _ _ wf (j8.ext e4d).sts (j9.ext e4d).sts (j10.ext e4d).sts (j11.ext e4d).sts) ?_
          rintro _ wg ⟨rfl, eg⟩
          replace b1 := b1.ext eg
          replace b2 := b2.ext eg
          replace hs3 := hs3.ext eg
          replace hr := hr.ext eg
          replace e0 := e0.trans eg
          replace e4d := e4d.trans eg
          have sg := eg.size_le
          cases hap : apartB (varsL op x y t e) (varsL op' x' y' t' e')
          · rw [if_neg (fun h => by rw [hap] at h; cases h.2.2)] at hsw
            refine goS ?_
            refine WO_storeS (k := 2) (vs := [.slice none 0 0, .slice none 0 0]) rfl rfl rfl (by intro v hv; simp at hv; subst hv; rfl) hr (by decide) fun wz hz oz => ?_
            replace hz : Blk wz w1.heap.size [.slice none 0 0, .slice none 0 0] _ := hz
            refine goS ?_
            exact at_ret2G rfl (.cell inferInstance rfl hz rfl) (.tmp rfl) (by rw [hsw]; exact PrO.none_ (Ext.only e0 oz s1))
          · rw [if_pos ⟨hb1, hb2, hap⟩] at hsw
            refine goS ?_
            refine WO_loadSB rfl hs3 rfl ?_
            refine WO_call rfl (l1CopyOf_ret tvp _ tl l _ _ wg (p1.ext e4d).int (p2.ext e4d).sts hn hn2) ?_
            rintro _ w5 ⟨⟨tv', bv', rfl, Ft5, Fb5, h51, h52, h53, h54⟩, e5⟩
            have on1 := h51.one
            have on2 := h52.one
            replace b1 := b1.ext e5
            replace b2 := b2.ext e5
            replace hr := hr.ext e5
            replace e0 := e0.trans e5
            replace e4d := e4d.trans e5
            have s5 := e5.size_le
            refine goS ?_
            refine WO_alloc fun w6 ho e6 z6 => ?_
            refine WO_storeS (k := 2) (vs := [tv', bv']) rfl rfl rfl (by simp; exact ⟨on1, on2⟩) ho (by decide) fun w7 ho7 o7 => ?_
            replace ho7 : Blk w7 w5.heap.size [tv', bv'] _ := ho7
            have e7 : Ext w5 w7 := e6.only o7 (Nat.le_refl _)
            replace b1 := b1.ext e7
            replace b2 := b2.ext e7
            replace hr := hr.ext e7
            replace h51 := h51.ext e7
            replace h52 := h52.ext e7
            replace e0 := e0.trans e7
            replace e4d := e4d.trans e7
            have s7 := ho7.lt
            have hnd := List.nodup_append.1 h53
            rw [← hLq] at h52
            obtain ⟨g, cap, cs, ut, ue, ut', ue', G1, Gt, Ge, Gt', Ge', G2, hbv, rfl, k1, k2, k3, k4, k8, k9, k10, k11, k12⟩ := RowS.put2 h52
            rw [hLq] at hbv
            subst hbv
            rw [q2] at k2 k3 k4 k12
            have hgB := h54 g (by simp)
            have hgn := (List.nodup_cons.1 hnd.2.1).1
            simp only [List.mem_append, not_or] at hgn
            have hpw : ∀ z ∈ gp :: (H1 ++ (Ht ++ (He ++ (Ht' ++ (He' ++ H2))))), z < wp.heap.size := fun z hz => (p4 z (List.mem_append_right _ hz)).2
            have hp53 := (List.nodup_append.1 p3).2.1
            have hmix := mix_nodup (m := wg.heap.size) h53 hp53 (fun z hz => (h54 z hz).1) (fun z hz => by have := hpw z hz; omega)
            refine goS ?_
            refine WO_loadSB rfl b2 rfl ?_
            refine Z83 (j := i) rfl rfl rfl (by omega) ?_
            refine WO_storeS (k := 6) (vs := [.int .i64 op', .int .i64 x', .int .i64 y', .int .i64 n', vt', ve']) rfl rfl rfl hone2 k1 (by omega) fun w8 hg8 o8 => ?_
            have hl1 : (cs.take (0 + i * 6) ++ [.int .i64 op', .int .i64 x', .int .i64 y', .int .i64 n', vt', ve'] ++ cs.drop (0 + i * 6 + 6)).length = cs.length := by simp; omega
            replace b1 := b1.only o8 (by omega)
            replace ho7 := ho7.only o8 (by omega)
            replace hr := hr.only o8 (by omega)
            replace e0 := e0.only o8 (by omega)
            refine goS ?_
            refine WO_loadSB rfl b1 rfl ?_
            refine Z83 (j := i + 1) rfl rfl (by omega) (by omega) ?_
            refine WO_storeS (k := 6) (vs := [.int .i64 op, .int .i64 x, .int .i64 y, .int .i64 n, vt, ve]) rfl rfl rfl hone1 hg8 (by omega) fun w9 hg9 o9 => ?_
            obtain ⟨m1, m2, m3, m4⟩ := put_two (cs := cs) (i := i) (p := [.int .i64 op', .int .i64 x', .int .i64 y', .int .i64 n', vt', ve']) (q := [.int .i64 op, .int .i64 x, .int .i64 y, .int .i64 n, vt, ve]) rfl rfl (by omega) rfl rfl
            have cab := o8.chg.trans o9.chg
            have hpg : ∀ z ∈ gp :: (H1 ++ (Ht ++ (He ++ (Ht' ++ (He' ++ H2))))), z ∉ [g] := fun z hz hm => by simp at hm; subst hm; have := hpw _ hz; omega
            have hnew := k12 w9 _ ⟨op', x', y', n', t', e'⟩ ⟨op, x, y, n, t, e⟩ vt' ve' vt ve Ht' He' Ht He hg9 m1 m2 m3 m4 ((j10.ext e4d).chg cab (fun z hz => hpg z (by simp [hz]))) ((j11.ext e4d).chg cab (fun z hz => hpg z (by simp [hz]))) ((j8.ext e4d).chg cab (fun z hz => hpg z (by simp [hz]))) ((j9.ext e4d).chg cab (fun z hz => hpg z (by simp [hz]))) cab (by simp only [List.mem_append, not_or]; exact ⟨hgn.1, hgn.2.2.2.2.2⟩)
            have h81 := h51.chg cab (fun z hz hm => by simp at hm; subst hm; exact hnd.2.2 z hz z (by simp) rfl)
            replace ho7 := ho7.only o9 (by omega)
            replace hr := hr.only o9 (by omega)
            replace e0 := e0.only o9 (by omega)
            have hmem : ∀ z ∈ Ft5 ++ g :: (G1 ++ (Ht' ++ (He' ++ (Ht ++ (He ++ G2))))), w2.heap.size ≤ z := fun z hz => by
              simp only [List.mem_append, List.mem_cons] at hz
              have f1 : ∀ z ∈ gp :: (H1 ++ (Ht ++ (He ++ (Ht' ++ (He' ++ H2))))), w2.heap.size ≤ z := fun z hz => (p4 z (List.mem_append_right _ hz)).1
              have f2 : ∀ z ∈ Ft5 ++ g :: (G1 ++ (Gt ++ (Ge ++ (Gt' ++ (Ge' ++ G2))))), w2.heap.size ≤ z := fun z hz => by have := (h54 z hz).1; omega
              rcases hz with h | h | h | h | h | h | h | h
              · exact f2 z (by simp [h])
              · exact f2 z (by simp [h])
              · exact f2 z (by simp [h])
              · exact f1 z (by simp [h])
              · exact f1 z (by simp [h])
              · exact f1 z (by simp [h])
              · exact f1 z (by simp [h])
              · exact f2 z (by simp [h])
            refine goS ?_
            refine WO_loadSB rfl ho7 rfl ?_
            refine WO_storeS (k := 2) (vs := [tv', .slice (some ⟨g, 0, none⟩) l.len cap]) rfl rfl rfl (by simp; exact ⟨on1, rfl⟩) hr (by decide) fun wh hrh oh => ?_
            replace hrh : Blk wh w1.heap.size [tv', .slice (some ⟨g, 0, none⟩) l.len cap] _ := hrh
            refine goS ?_
            refine at_ret2G rfl (.cell inferInstance rfl hrh rfl) (.tmp rfl) ?_
            rw [hsw]
            exact PrO.some_ (h81.chg oh.chg (fun z hz hm => by simp at hm; subst hm; have := hmem _ (List.mem_append_left _ hz); omega)) (RowS.chg (l := (l.take i).app (.cons op' x' y' n' t' e' (.cons op x y n t e r'))) hnew oh.chg (fun z hz hm => by simp only [List.mem_singleton] at hm; subst hm; have := hmem _ (List.mem_append_right _ hz); omega)) hmix (fun z hz => by have := hmem z hz; omega) (e0.only oh (by omega))
    · have hnone := swpR_none (tl := tl) (l := l) (k := k) (by simp [hv]; omega)
      (refine goS ?_; repeat' (first | ((refine Z51 rfl rfl (fun c' hc' => ?_)); cases c' <;> (try simp only [decide_eq_true_eq, decide_eq_false_iff_not, beq_iff_eq, beq_eq_false_iff_ne, bne_iff_ne, bne_eq_false_iff_eq, ne_eq, gt_iff_lt, ge_iff_le, Int.not_lt, Int.not_le, Bool.not_eq_true', Bool.not_eq_false', Bool.not_true, Bool.not_false, reduceCtorEq, Decidable.not_not, not_true_eq_false, Bool.true_eq_false, Bool.false_eq_true] at hc') <;> (try (exfalso; omega)) <;> refine goS ?_) | ((refine Z52 rfl (fun hc' => ?_) (fun hc' => ?_)) <;> (try simp only [decide_eq_true_eq, decide_eq_false_iff_not, beq_iff_eq, beq_eq_false_iff_ne, bne_iff_ne, bne_eq_false_iff_eq, ne_eq, gt_iff_lt, ge_iff_le, Int.not_lt, Int.not_le, Bool.not_eq_true', Bool.not_eq_false', Bool.not_true, Bool.not_false, reduceCtorEq, Decidable.not_not, not_true_eq_false, Bool.true_eq_false, Bool.false_eq_true] at hc') <;> (try (exfalso; omega)) <;> refine goS ?_)))
      all_goals
        refine WO_storeS (k := 2) (vs := [.slice none 0 0, .slice none 0 0]) rfl rfl rfl (by intro v hv; simp at hv; subst hv; rfl) hr (by decide) fun wz hz oz => ?_
        replace hz : Blk wz w1.heap.size [.slice none 0 0, .slice none 0 0] _ := hz
        refine goS ?_
        exact at_ret2G rfl (.cell inferInstance rfl hz rfl) (.tmp rfl) (by rw [hnone]; exact PrO.none_ (Ext.only e0 oz s1))
end Go.Proofs.Ytpmgfokcbgdegaa
