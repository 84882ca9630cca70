/-
  What is proved here: the laws' copies of programs, what marks do to them, and what held answers.
-/
import Derived.Test.YteonnoijdnjpdaaDoorStMk
import Derived.Test.YteonnoijdnjpdaaDoorChgI
namespace Go.Proofs.YteonnoijdnjpdaaDoor
set_option linter.unusedVariables false
set_option linter.unusedSimpArgs false
set_option linter.unnecessarySimpa false
open Go.RowKit

/-- Numbers in memory of their own between two places. -/
def OwnN (B U : Nat) (l : List Int) (w : World) (v : Value) : Prop := ∃ F, OwnI w v l F ∧ ∀ b ∈ F, B ≤ b ∧ b < U
/-- A program in memory of its own between two places. -/
def OwnP (e : TypeId) (B U : Nat) (tl : List Int) (l : Ss) (w : World) (tv bv : Value) : Prop := ∃ Ft Fb, OwnI w tv tl Ft ∧ RowS e w bv l Fb ∧ (Ft ++ Fb).Nodup ∧ ∀ b ∈ Ft ++ Fb, B ≤ b ∧ b < U
/-- Two lists of statements in memory of their own between two places. -/
def OwnQ (e : TypeId) (B U : Nat) (t el : Ss) (w : World) (vt ve : Value) : Prop := ∃ Ft Fe, RowS e w vt t Ft ∧ RowS e w ve el Fe ∧ (Ft ++ Fe).Nodup ∧ ∀ b ∈ Ft ++ Fe, B ≤ b ∧ b < U
section
variable {e : TypeId} {B U : Nat} {tl : List Int} {l t el : Ss} {w w' : World} {v tv bv vt ve : Value}
theorem OwnN.ext (h : OwnN B U tl w v) (he : Ext w w') : OwnN B U tl w' v := by
  obtain ⟨F, h1, h2⟩ := h
  exact ⟨F, h1.ext he, h2⟩
theorem OwnN.chgI {B' U' : Nat} (h : OwnN B U tl w v) (k : ChgI B' U' w w') (hd : U ≤ B' ∨ U' ≤ B) : OwnN B U tl w' v := by
  obtain ⟨F, h1, h2⟩ := h
  exact ⟨F, h1.chg k.toChg (chgI_away h2 hd), h2⟩
theorem OwnN.int (h : OwnN B U tl w v) : ∃ F, IntF w v tl F := by
  obtain ⟨F, h1, _⟩ := h
  exact ⟨F, h1.int⟩
theorem NewInts.own (h : NewInts tl w v w') : OwnN w.heap.size w'.heap.size tl w' v := by
  obtain ⟨⟨F, h1, h2⟩, _⟩ := h
  exact ⟨F, h1, fun b hb => ⟨h2 b hb, h1.lt b hb⟩⟩
theorem OwnP.ext (h : OwnP e B U tl l w tv bv) (he : Ext w w') : OwnP e B U tl l w' tv bv := by
  obtain ⟨Ft, Fb, h1, h2, h3, h4⟩ := h
  exact ⟨Ft, Fb, h1.ext he, h2.ext he, h3, h4⟩
theorem OwnP.chgI {B' U' : Nat} (h : OwnP e B U tl l w tv bv) (k : ChgI B' U' w w') (hd : U ≤ B' ∨ U' ≤ B) : OwnP e B U tl l w' tv bv := by
  obtain ⟨Ft, Fb, h1, h2, h3, h4⟩ := h
  have hF := chgI_away (w := w) h4 hd
  exact ⟨Ft, Fb, h1.chg k.toChg fun x hx => hF x (by simp [hx]), h2.chg k.toChg fun x hx => hF x (by simp [hx]), h3, h4⟩
theorem OwnP.wide {B' U' : Nat} (h : OwnP e B U tl l w tv bv) (hB : B' ≤ B) (hU : U ≤ U') : OwnP e B' U' tl l w tv bv := by
  obtain ⟨Ft, Fb, h1, h2, h3, h4⟩ := h
  exact ⟨Ft, Fb, h1, h2, h3, fun b hb => by have := h4 b hb; omega⟩
theorem OwnP.int (h : OwnP e B U tl l w tv bv) : ∃ F, IntF w tv tl F := by
  obtain ⟨Ft, Fb, h1, _⟩ := h
  exact ⟨Ft, h1.int⟩
theorem OwnP.sts (h : OwnP e B U tl l w tv bv) : ∃ F, StS w bv l F := by
  obtain ⟨Ft, Fb, _, h2, _⟩ := h
  exact ⟨Fb, h2.sts⟩
theorem OwnQ.ext (h : OwnQ e B U t el w vt ve) (he : Ext w w') : OwnQ e B U t el w' vt ve := by
  obtain ⟨Ft, Fb, h1, h2, h3, h4⟩ := h
  exact ⟨Ft, Fb, h1.ext he, h2.ext he, h3, h4⟩
theorem OwnQ.chgI {B' U' : Nat} (h : OwnQ e B U t el w vt ve) (k : ChgI B' U' w w') (hd : U ≤ B' ∨ U' ≤ B) : OwnQ e B U t el w' vt ve := by
  obtain ⟨Ft, Fb, h1, h2, h3, h4⟩ := h
  have hF := chgI_away (w := w) h4 hd
  exact ⟨Ft, Fb, h1.chg k.toChg fun x hx => hF x (by simp [hx]), h2.chg k.toChg fun x hx => hF x (by simp [hx]), h3, h4⟩
theorem OwnQ.sts (h : OwnQ e B U t el w vt ve) : (∃ F, StS w vt t F) ∧ ∃ F, StS w ve el F := by
  obtain ⟨Ft, Fb, h1, h2, _⟩ := h
  exact ⟨⟨Ft, h1.sts⟩, ⟨Fb, h2.sts⟩⟩
theorem NewSt.own {op x y n : Int} {r : Value} (h : NewSt e op x y n t el w r w') : ∃ vt ve, r = stV op x y n vt ve ∧ OwnQ e w.heap.size w'.heap.size t el w' vt ve ∧ Ext w w' := by
  obtain ⟨vt, ve, Ft, Fe, rfl, h1, h2, h3, h4, h5⟩ := h
  refine ⟨vt, ve, rfl, ⟨Ft, Fe, h1, h2, h3, fun b hb => ⟨h4 b hb, ?_⟩⟩, h5⟩
  rcases List.mem_append.1 hb with hb | hb
  · exact h1.lt b hb
  · exact h2.lt b hb
end
theorem OwnP.ones {e : TypeId} {B U : Nat} {tl : List Int} {l : Ss} {w : World} {tv bv : Value} (h : OwnP e B U tl l w tv bv) : tv.oneCell' = true ∧ bv.oneCell' = true := by
  obtain ⟨Ft, Fb, ⟨A, c, rfl, _⟩, h2, _⟩ := h
  exact ⟨rfl, h2.one⟩
theorem OwnQ.ones {e : TypeId} {B U : Nat} {t el : Ss} {w : World} {vt ve : Value} (h : OwnQ e B U t el w vt ve) : vt.oneCell' = true ∧ ve.oneCell' = true := by
  obtain ⟨Ft, Fb, h1, h2, _⟩ := h
  exact ⟨h1.one, h2.one⟩
/-- A program by value in new memory, and whether there is one. -/
def PrB (e : TypeId) (tl : List Int) (l : Ss) (b : Bool) (w : World) (r : Value) (w' : World) : Prop := ∃ tv bv, r = .tuple #[prV tv bv, .bool b] ∧ OwnP e w.heap.size w'.heap.size tl l w' tv bv ∧ Ext w w'
/-- A program by value in new memory. -/
def NewPr (e : TypeId) (tl : List Int) (l : Ss) (w : World) (r : Value) (w' : World) : Prop := (∃ tv bv, r = prV tv bv ∧ OwnP e w.heap.size w'.heap.size tl l w' tv bv) ∧ Ext w w'
theorem NewPr.mk {e : TypeId} {tl : List Int} {l : Ss} {w w1 w' : World} {tv bv : Value} {Ft Fb : List Nat} (h1 : OwnI w' tv tl Ft) (h2 : RowS e w' bv l Fb) (h3 : (Ft ++ Fb).Nodup) (h4 : ∀ b ∈ Ft ++ Fb, w.heap.size ≤ b) (he : Ext w w') : NewPr e tl l w (prV tv bv) w' := by
  refine ⟨⟨tv, bv, rfl, Ft, Fb, h1, h2, h3, fun b hb => ⟨h4 b hb, ?_⟩⟩, he⟩
  rcases List.mem_append.1 hb with hb | hb
  · exact h1.lt b hb
  · exact h2.lt b hb
theorem OwnI.nodup {w : World} {v : Value} {l : List Int} {F : List Nat} (h : OwnI w v l F) : F.Nodup := by
  obtain ⟨A, c, rfl, hl, ⟨_, rfl⟩ | ⟨b, o, cs, t, _, rfl, _⟩⟩ := h <;> simp
theorem OwnI.one {w : World} {v : Value} {l : List Int} {F : List Nat} (h : OwnI w v l F) : v.oneCell' = true := by
  obtain ⟨A, c, rfl, _⟩ := h
  rfl
theorem toProgram_ret (tv bv : Value) (tl : List Int) (l : Ss) (Ft F : List Nat) (w : World) (ht : IntF w tv tl Ft) (h : StS w bv l F) (hn : tl.length + cntL l ≤ 1048576) :
    Ret Tryd.prog 8 [prV tv bv] w (NewPr 65 tl l w) := by
  refine enter Tryd.func8 rfl Tryd.ntmps8 rfl rfl ?_
  refine Z43 (Z44 (WO_box rfl fun w1 hs e1 z1 => WO_alloc fun w2 hr e2 z2 => ?_))
  replace hs : Blk w2 w.heap.size [tv, bv] _ := Blk.ext hs e2
  replace hr : Blk w2 w1.heap.size [.slice none 0 0, .slice none 0 0] _ := hr
  refine goS ?_
  refine WO_alloc fun w3 ho e3 z3 => ?_
  replace ho : Blk w3 w2.heap.size [.slice none 0 0, .slice none 0 0] _ := ho
  replace hs := hs.ext e3
  replace hr := hr.ext e3
  have e0 := e1.trans (e2.trans e3)
  have s1 := e1.size_le
  have s2 := e2.size_le
  refine goS ?_
  refine WO_call rfl (toIntS_ret tv tl Ft w3 (ht.ext e0) (by omega)) ?_
  rintro tv' w4 ⟨⟨G1, r1, b1⟩, e4⟩
  have hone1 := r1.one
  have hlt1 := r1.lt
  refine goS ?_
  refine WO_store1 rfl rfl hone1 (ho.ext e4) (by simp) fun w5 ho5 o5 => ?_
  have s4 := e4.size_le
  have s5 := o5.size
  replace hs := (hs.ext e4).only o5 (by omega)
  replace hr := (hr.ext e4).only o5 (by omega)
  replace e0 := (e0.trans e4).only o5 (by omega)
  replace r1 := r1.chg o5.chg (fun z hz hm => by simp only [List.mem_singleton] at hm; subst hm; have := b1 _ hz; omega)
  simp only [List.set_cons_zero, List.set_cons_succ] at ho5
  clear ho
  refine goS ?_
  refine WO_call rfl (toStmtS_ret bv l F w5 (h.ext e0) (by omega)) ?_
  rintro bv' w6 ⟨⟨G2, r2, n2, b2⟩, e6⟩
  have hone2 := r2.one
  have s6 := e6.size_le
  refine goS ?_
  refine WO_store1 rfl rfl hone2 (ho5.ext e6) (by simp) fun w7 ho7 o7 => ?_
  replace hs := (hs.ext e6).only o7 (by omega)
  replace hr := (hr.ext e6).only o7 (by omega)
  replace e0 := (e0.trans e6).only o7 (by omega)
  replace r1 := (r1.ext e6).chg o7.chg (fun z hz hm => by simp only [List.mem_singleton] at hm; subst hm; have := b1 _ hz; omega)
  replace r2 := r2.chg o7.chg (fun z hz hm => by simp only [List.mem_singleton] at hm; subst hm; have := b2 _ hz; omega)
  simp only [List.set_cons_zero, List.set_cons_succ] at ho7
  clear ho5
  refine goS ?_
  refine WO_loadSB rfl ho7 rfl ?_
  refine WO_storeS (k := 2) (vs := [tv', bv']) rfl rfl rfl (by intro v hv; simp at hv; rcases hv with rfl | rfl <;> assumption) hr (by decide) fun w8 hr8 o8 => ?_
  replace hr8 : Blk w8 w1.heap.size [tv', bv'] _ := hr8
  refine goS ?_
  refine at_retC rfl rfl hr8 rfl (NewPr.mk (w1 := w) (r1.chg o8.chg (fun z hz hm => by simp only [List.mem_singleton] at hm; subst hm; have := b1 _ hz; omega)) (r2.chg o8.chg (fun z hz hm => by simp only [List.mem_singleton] at hm; subst hm; have := b2 _ hz; omega)) ?_ ?_ (e0.only o8 (by omega)))
  · exact List.nodup_append.2 ⟨r1.nodup, n2, fun a ha b hb e => by subst e; have := hlt1 a ha; have := b2 a hb; omega⟩
  · intro b hb
    rcases List.mem_append.1 hb with hb | hb
    · have := b1 b hb; omega
    · have := b2 b hb; omega
theorem markProgram_ret (tv bv : Value) (tl : List Int) (l : Ss) (B U : Nat) (k : Int) (w : World) (h : OwnP 65 B U tl l w tv bv) (hk : 0 ≤ k) (hk2 : k + tl.length + 4 * cntL l ≤ 4611686018427387904) :
    Ret Tryd.prog 13 [prV tv bv, .int .i64 k] w fun r w' => r = .int .i64 (k + tl.length + 4 * cntL l) ∧ OwnP 65 B U (marks k tl.length) (markS (k + tl.length) l) w' tv bv ∧ (∃ wb, Ext w wb ∧ ChgI B U wb w') := by
  obtain ⟨Ft, Fb, h1, h2, h3, h4⟩ := h
  have hnd := List.nodup_append.1 h3
  refine enter Tryd.func13 rfl Tryd.ntmps13 rfl rfl ?_
  refine Z43 (Z44 (WO_box rfl fun w1 hs e1 z1 => ?_))
  replace hs : Blk w1 w.heap.size [tv, bv] _ := hs
  refine goS ?_
  refine WO_call rfl (markIntS_ret tv tl Ft k w1 (h1.ext e1) hk (by omega)) ?_
  rintro r w2 ⟨rfl, r2, c2⟩
  have hlt := h1.lt
  replace hs := hs.chg c2 (fun hm => by have := hlt _ hm; omega)
  refine goS ?_
  refine WO_call rfl (markStmtS_ret bv l Fb (k + tl.length) w2 ((h2.ext e1).chg c2 (fun z hz hm => hnd.2.2 z hm z hz rfl)) hnd.2.1 (by omega) (by omega)) ?_
  rintro r w3 ⟨rfl, r3, c3⟩
  refine goS ?_
  refine at_ret1 rfl rfl ⟨rfl, ⟨Ft, Fb, r2.chg c3 (fun z hz hm => hnd.2.2 z hz z hm rfl), r3, h3, h4⟩, w1, e1, ?_⟩
  exact ((c2.mono (G := Ft ++ Fb) (by simp +contextual)).trans (c3.mono (by simp +contextual))).toI h4
theorem heldProgram_ret (tv bv : Value) (n : Nat) (l : Ss) (Ft F : List Nat) (k : Int) (w : World) (ht : IntF w tv (marks k n) Ft) (h : StS w bv (markS (k + n) l) F) (hk : 0 ≤ k) (hk2 : k + n + 4 * cntL l ≤ 4611686018427387904) :
    Ret Tryd.prog 14 [prV tv bv, .int .i64 k] w fun r w' => r = .int .i64 (k + n + 4 * cntL l) ∧ Ext w w' := by
  refine enter Tryd.func14 rfl Tryd.ntmps14 rfl rfl ?_
  refine Z43 (Z44 (WO_box rfl fun w1 hs e1 z1 => ?_))
  replace hs : Blk w1 w.heap.size [tv, bv] _ := hs
  refine goS ?_
  refine WO_call rfl (heldIntS_ret tv n Ft k w1 (ht.ext e1) hk (by omega)) ?_
  rintro r w2 ⟨rfl, e2⟩
  replace hs := hs.ext e2
  (refine goS ?_; repeat' (first | ((refine Z51 rfl rfl (fun c' hc' => ?_)); cases c' <;> (try simp only [decide_eq_true_eq, decide_eq_false_iff_not, beq_iff_eq, beq_eq_false_iff_ne, bne_iff_ne, bne_eq_false_iff_eq, ne_eq, gt_iff_lt, ge_iff_le, Int.not_lt, Int.not_le, Bool.not_eq_true', Bool.not_eq_false', Bool.not_true, Bool.not_false, reduceCtorEq, Decidable.not_not, not_true_eq_false, Bool.true_eq_false, Bool.false_eq_true] at hc') <;> (try (exfalso; omega)) <;> refine goS ?_) | ((refine Z52 rfl (fun hc' => ?_) (fun hc' => ?_)) <;> (try simp only [decide_eq_true_eq, decide_eq_false_iff_not, beq_iff_eq, beq_eq_false_iff_ne, bne_iff_ne, bne_eq_false_iff_eq, ne_eq, gt_iff_lt, ge_iff_le, Int.not_lt, Int.not_le, Bool.not_eq_true', Bool.not_eq_false', Bool.not_true, Bool.not_false, reduceCtorEq, Decidable.not_not, not_true_eq_false, Bool.true_eq_false, Bool.false_eq_true] at hc') <;> (try (exfalso; omega)) <;> refine goS ?_)))
  refine WO_call rfl (heldStmtS_ret bv l F (k + n) w2 ((h.ext e1).ext e2) (by omega) (by omega)) ?_
  rintro r w3 ⟨rfl, rfl⟩
  (refine goS ?_; repeat' (first | ((refine Z51 rfl rfl (fun c' hc' => ?_)); cases c' <;> (try simp only [decide_eq_true_eq, decide_eq_false_iff_not, beq_iff_eq, beq_eq_false_iff_ne, bne_iff_ne, bne_eq_false_iff_eq, ne_eq, gt_iff_lt, ge_iff_le, Int.not_lt, Int.not_le, Bool.not_eq_true', Bool.not_eq_false', Bool.not_true, Bool.not_false, reduceCtorEq, Decidable.not_not, not_true_eq_false, Bool.true_eq_false, Bool.false_eq_true] at hc') <;> (try (exfalso; omega)) <;> refine goS ?_) | ((refine Z52 rfl (fun hc' => ?_) (fun hc' => ?_)) <;> (try simp only [decide_eq_true_eq, decide_eq_false_iff_not, beq_iff_eq, beq_eq_false_iff_ne, bne_iff_ne, bne_eq_false_iff_eq, ne_eq, gt_iff_lt, ge_iff_le, Int.not_lt, Int.not_le, Bool.not_eq_true', Bool.not_eq_false', Bool.not_true, Bool.not_false, reduceCtorEq, Decidable.not_not, not_true_eq_false, Bool.true_eq_false, Bool.false_eq_true] at hc') <;> (try (exfalso; omega)) <;> refine goS ?_)))
  exact at_ret1 rfl rfl ⟨rfl, e1.trans e2⟩
end Go.Proofs.YteonnoijdnjpdaaDoor
