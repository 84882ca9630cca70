/-
  What is proved here: the drawn arguments of the laws on statements and programs; what is valid of parts of programs, of wider types and of single statements. No function of the program stands here; the law ProgramJoin on drawn programs: the text of a program is the text of its first statement, a semicolon and the text of the others; what the program's reader of texts reads: the steps of the reader, statements and lists of statements, in new memory.
-/
import Derived.Test.YtplcmbipeanjdaaGreatDoorM12
import Derived.Test.YtplcmbipeanjdaaGreatDoorM7
import Derived.Test.YtplcmbipeanjdaaGreatDoorM8
import Derived.Test.YtplcmbipeanjdaaGreatDoorM10
namespace Go.Proofs.YtplcmbipeanjdaaGreatDoor
set_option linter.unusedVariables false
set_option linter.unusedSimpArgs false
set_option linter.unnecessarySimpa false
open Go.RowKit

/-- A program of bounded size that can be read, in new memory. -/
def AnyQ (w : World) (r : Value) (w' : World) : Prop := ∃ tv bv tl l Ft Fb, r = prV tv bv ∧ IntF w' tv tl Ft ∧ StS w' bv l Fb ∧ (∀ x ∈ Ft ++ Fb, w.heap.size ≤ x ∧ x < w'.heap.size) ∧ (tl.length ≤ 20000 ∧ cntL l ≤ 20000) ∧ Ext w w'
/-- Types and a statement of bounded size that can be read, in new memory. -/
def AnyS (w : World) (r : Value) (w' : World) : Prop := ∃ tv tl Ft op x y n vt ve t e F1 F2, r = .tuple #[tv, stV op x y n vt ve] ∧ IntF w' tv tl Ft ∧ StS w' vt t F1 ∧ StS w' ve e F2 ∧ (∀ z ∈ Ft ++ (F1 ++ F2), w.heap.size ≤ z ∧ z < w'.heap.size) ∧ (tl.length ≤ 20000 ∧ cntL t + cntL e ≤ 20000) ∧ Ext w w'
/-- A statement of bounded size that can be read, in new memory. -/
def AnyS1 (w : World) (r : Value) (w' : World) : Prop := ∃ op x y n vt ve t e F1 F2, r = stV op x y n vt ve ∧ StS w' vt t F1 ∧ StS w' ve e F2 ∧ (∀ z ∈ F1 ++ F2, w.heap.size ≤ z ∧ z < w'.heap.size) ∧ cntL t + cntL e ≤ 20000 ∧ Ext w w'
/-- Two statements of bounded size that can be read, in new memory. -/
def AnyS2 (w : World) (r : Value) (w' : World) : Prop := ∃ op x y n vt ve t e F1 F2 op' x' y' n' vt' ve' t' e' F3 F4, r = .tuple #[stV op x y n vt ve, stV op' x' y' n' vt' ve'] ∧ StS w' vt t F1 ∧ StS w' ve e F2 ∧ StS w' vt' t' F3 ∧ StS w' ve' e' F4 ∧ (cntL t + cntL e ≤ 20000 ∧ cntL t' + cntL e' ≤ 20000) ∧ Ext w w'
theorem csAt_dropS {w : World} : ∀ (k : Nat) (l : Ss) (b o : Nat) (F : List Nat), k ≤ l.len → CsAt w (encS l) b o F → ∃ F', CsAt w (encS (l.drop k)) b (o + k * 6) F' ∧ ∀ x ∈ F', x ∈ F
  | 0, _, _, _, F, _, h => ⟨F, by rw [Nat.zero_mul, Nat.add_zero]; exact h, fun _ h => h⟩
  | k + 1, .nil, _, _, _, hk, _ => by simp [Ss.len] at hk
  | k + 1, .cons op x y n t e r, b, o, F, hk, h => by
    obtain ⟨vt, ve, Ft, Fe, Fr, hF, _, _, _, hr⟩ := csAt_stmt h
    simp only [Ss.len] at hk
    obtain ⟨F', h', hs⟩ := csAt_dropS k r b (o + 6) Fr (by omega) hr
    exact ⟨F', by rw [show o + (k + 1) * 6 = o + 6 + k * 6 from by omega]; exact h', fun x hx => by rw [hF]; simp [hs x hx]⟩
/-- One statement of a slice, in memory of the slice. -/
theorem StS.oneF {w : World} {A : Option Addr} {m c : Nat} {l d r t e : Ss} {op x y n : Int} {F : List Nat} (h : StS w (.slice A m c) l F) (hl : l = d.app (.cons op x y n t e r)) : ∃ b o vt ve Ft Fe, A = some ⟨b, o, none⟩ ∧ m = l.len ∧
    (∀ (j : Nat) u, [Value.int .i64 op, .int .i64 x, .int .i64 y, .int .i64 n, vt, ve][j]? = some u → w.cell? ⟨b, o + d.len * 6 + j, none⟩ = some u) ∧ StS w vt t Ft ∧ StS w ve e Fe ∧ b ∈ F ∧ ∀ z ∈ Ft ++ Fe, z ∈ F := by
  obtain ⟨A', c', e', ⟨hm, hmc⟩, hs⟩ := h
  cases e'
  have hlen : l.len = d.len + 1 + r.len := by rw [hl, Ss.len_app]; simp [Ss.len]; omega
  rcases hs with ⟨h0, _⟩ | ⟨b, o, F', hA, hF, hs⟩
  · omega
  · obtain ⟨F2, h2, hsub⟩ := csAt_dropS d.len l b o F' (by omega) hs
    rw [hl, Ss.drop_app] at h2
    obtain ⟨vt, ve, Ft, Fe, Fr, hF2, hc, hT, hE, _⟩ := csAt_stmt h2
    exact ⟨b, o, vt, ve, Ft, Fe, hA, rfl, hc, hT, hE, by rw [hF]; simp, fun z hz => by rw [hF]; exact List.mem_cons_of_mem _ (hsub z (by rw [hF2]; simp only [List.mem_append] at hz ⊢; rcases hz with h | h; exact .inl h; exact .inr (.inl h)))⟩
theorem IntF.one {w : World} {v : Value} {l : List Int} {F : List Nat} (h : IntF w v l F) : v.oneCell' = true := by
  obtain ⟨A, c, rfl, _⟩ := h
  rfl
theorem StS.one {w : World} {v : Value} {l : Ss} {F : List Nat} (h : StS w v l F) : v.oneCell' = true := by
  obtain ⟨A, c, rfl, _⟩ := h.slice
  rfl
theorem cnt_app_part (d r t e : Ss) (op x y n : Int) : cntL t + cntL e ≤ cntL (d.app (.cons op x y n t e r)) := by
  rw [cntL_app]
  simp only [cntL]
  omega
theorem DrP.drD {B rb : Nat} {w : World} {tv bv : Value} {tl : List Int} {l : Ss} {Ft Fb : List Nat} (h1 : IntF w tv tl Ft) (h2 : StS w bv l Fb) (h3 : ∀ x ∈ Ft ++ Fb, B ≤ x ∧ x < w.heap.size) (hr : rb < B) : PrD w [rb] tv bv tl l :=
  ⟨Ft, Fb, h1, h2, fun x hx => by have := h3 x hx; exact ⟨by simp; omega, by omega⟩⟩
theorem DrawProgramValid_ret (v : Value) (w : World) (hd : ByD w v) : Ret Tryz.prog 13 [v] w (AnyQ w) := by
  refine enter Tryz.func13 rfl Tryz.ntmps13 rfl rfl ?_
  refine Z43 (Z44 (WO_alloc fun w0 hz ez zz => ?_))
  replace hz : Blk w0 w.heap.size [.slice none 0 0, .slice none 0 0] _ := hz
  have s0 := hz.lt
  refine goS ?_
  refine WO_call rfl (openU_ret v w0 (hd.ext ez)) ?_
  rintro _ w1 ⟨rb, rfl, hrb, hr, e1⟩
  have s1 := e1.size_le
  refine goS ?_
  refine WO_call rfl (l1Draw_ret rb 0 w1 hr (by omega)) ?_
  rintro _ w2 ⟨⟨tv0, bv0, tl0, l0, Ft0, Fb0, rfl, d1, d2, d3, d4, d5⟩, hr2, c2⟩
  have s2 := c2.size
  have hrl := hr.lt
  refine WO_call rfl (l1Mutate_ret rb (0 + 1000) 600 tv0 bv0 tl0 l0 w2 hr2 (by omega) (DrP.drD d1 d2 d3 (by omega)) d4 d5 (by omega)) ?_
  rintro _ w3 ⟨⟨tv, bv, tl, l, Ft, Fb, rfl, h1, h2, h3, htl, hl⟩, hr3, c3⟩
  have s3 := c3.size
  have o1 := h1.one
  have o2 := h2.one
  have hz3 := ((hz.ext e1).chg c2 (by simp; omega)).chg c3 (by simp; omega)
  refine WO_storeS (k := 2) (vs := [tv, bv]) rfl rfl rfl (by simp; exact ⟨o1, o2⟩) hz3 (by decide) fun w4 hz4 o4 => ?_
  replace hz4 : Blk w4 w.heap.size [tv, bv] _ := hz4
  have e3 : Ext w w3 := (c2.trans c3).ext_of (ez.trans e1) (by simp; omega)
  refine goS ?_
  have s4 := o4.size
  exact at_retC rfl rfl hz4 rfl ⟨tv, bv, tl, l, Ft, Fb, rfl, h1.chg o4.chg (fun x hx => by have := h3 x (by simp [hx]); simp; omega), h2.chg o4.chg (fun x hx => by have := h3 x (by simp [hx]); simp; omega), fun x hx => by have := h3 x hx; omega, by omega, e3.only o4 (Nat.le_refl _)⟩
end Go.Proofs.YtplcmbipeanjdaaGreatDoor
namespace Go.Proofs.YtplcmbipeanjdaaGreatDoor
set_option linter.unusedVariables false
set_option linter.unusedSimpArgs false
set_option linter.unnecessarySimpa false
open Go.RowKit

theorem stS_mk1 {w : World} {b : Nat} {ty : TypeId} {op x y n : Int} {vt ve : Value} {t e : Ss} {F1 F2 : List Nat} (hb : Blk w b [.int .i64 op, .int .i64 x, .int .i64 y, .int .i64 n, vt, ve] ty) (hT : StS w vt t F1) (hE : StS w ve e F2) :
    StS w (.slice (some ⟨b, 0, none⟩) 1 1) (Ss.one op x y n t e) (b :: (F1 ++ (F2 ++ []))) :=
  ⟨_, 1, rfl, ⟨by unfold maxI; simp [Ss.one, Ss.len], by simp [Ss.one, Ss.len]⟩, .inr ⟨b, 0, _, rfl, rfl, ⟨hb.cell rfl, hb.cell rfl, hb.cell rfl, hb.cell rfl, vt, F1, _, rfl, hb.cell rfl, hT, ve, F2, [], rfl, hb.cell rfl, hE, rfl⟩⟩⟩
theorem typeOfL_wide {tl : List Int} {v k : Int} (h : typeOfL tl v ≠ 0) : typeOfL (tl ++ [k]) v = typeOfL tl v := by
  unfold typeOfL at h ⊢
  by_cases hv : 0 ≤ v ∧ v < tl.length
  · have h2 : 0 ≤ v ∧ v < ((tl ++ [k]).length : Int) := by simp; omega
    simp only [hv, h2, and_self, if_true] at h ⊢
    rw [List.getD_eq_getElem?_getD, List.getD_eq_getElem?_getD, List.getElem?_append_left (by omega)]
  · exfalso
    apply h
    simp only [hv, if_false]
theorem simple_wide {tl : List Int} {op x y n k : Int} {a b : Nat} (h : SimpleP tl op x y n a b) : SimpleP (tl ++ [k]) op x y n a b := by
  unfold SimpleP at h ⊢
  obtain ⟨h1, h2, h3, h4, h5⟩ := h
  have hx := typeOfL_wide (tl := tl) (v := x) (k := k)
  have hy := typeOfL_wide (tl := tl) (v := y) (k := k)
  refine ⟨h1, h2, h3, h4, ?_⟩
  have ex : typeOfL (tl ++ [k]) x = typeOfL tl x := hx (by rcases h5 with h | h | h | h | h | h | h <;> omega)
  rw [ex]
  rcases h5 with h | h | h | h | h | h | h
  · exact .inl h
  · exact .inr (.inl h)
  · exact .inr (.inr (.inl ⟨h.1, h.2.1, by rw [hy (by omega)]; exact h.2.2⟩))
  · exact .inr (.inr (.inr (.inl ⟨h.1, h.2.1, by rw [hy (by omega)]; exact h.2.2⟩)))
  · exact .inr (.inr (.inr (.inr (.inl ⟨h.1, h.2.1, by rw [hy (by omega)]; exact h.2.2⟩))))
  · exact .inr (.inr (.inr (.inr (.inr (.inl ⟨h.1, h.2.1, by rw [hy (by omega)]; exact h.2.2⟩)))))
  · exact .inr (.inr (.inr (.inr (.inr (.inr ⟨h.1, h.2.1, by rw [hy (by omega)]; exact h.2.2⟩)))))
theorem okL_wide {tl : List Int} {k : Int} : ∀ (l : Ss) (d : Nat), okL tl d l = true → okL (tl ++ [k]) d l = true
  | .nil, _, _ => rfl
  | .cons op x y n t e r, d, h => by
    rw [okL_cons, Bool.and_eq_true] at h ⊢
    refine ⟨?_, okL_wide r d h.2⟩
    have h1 := h.1
    unfold okS at h1 ⊢
    by_cases h9 : op = 9 ∨ op = 10
    · rw [if_pos h9, Bool.and_eq_true, Bool.and_eq_true] at h1 ⊢
      exact ⟨⟨h1.1.1, okL_wide t _ h1.1.2⟩, okL_wide e _ h1.2⟩
    · rw [if_neg h9, decide_eq_true_eq] at h1 ⊢
      exact simple_wide h1
theorem validP_iff {tl : List Int} {l : Ss} : validP tl l = true ↔ okT tl = true ∧ okL tl 4 l = true ∧ cntL l ≤ 30 := by
  unfold validP
  rw [Bool.and_eq_true, Bool.and_eq_true, decide_eq_true_eq]
theorem validP_parts {tl : List Int} {op x y n : Int} {t e r : Ss} (h : validP tl (.cons op x y n t e r) = true) : validP tl r = true ∧ validP tl (Ss.one op x y n t e) = true := by
  rw [validP_iff] at h ⊢
  rw [validP_iff]
  obtain ⟨h1, h2, h3⟩ := h
  rw [okL_cons, Bool.and_eq_true] at h2
  simp only [cntL] at h3
  refine ⟨⟨h1, h2.2, by omega⟩, h1, ?_, ?_⟩
  · unfold Ss.one
    rw [okL_cons, h2.1]
    rfl
  · simp only [Ss.one, cntL]
    omega
theorem countP_of {tl : List Int} {l : Ss} (h : validP tl l = true) : countP tl l = cntL l := by unfold countP; rw [if_pos h]
theorem okL_appC (tl : List Int) (d : Nat) : ∀ a b : Ss, okL tl d (a.app b) = (okL tl d a && okL tl d b)
  | .nil, b => by simp [Ss.app, okL]
  | .cons op x y n t e r, b => by
    show okL tl d (.cons op x y n t e (r.app b)) = _
    rw [okL_cons, okL_cons, okL_appC tl d r b, Bool.and_assoc]
theorem validP_mid {tl : List Int} {a r t e : Ss} {op x y n : Int} (h : validP tl (a.app (.cons op x y n t e r)) = true) : validP tl (Ss.one op x y n t e) = true := by
  have h2 : validP tl (.cons op x y n t e r) = true := by
    rw [validP_iff] at h ⊢
    rw [okL_appC, Bool.and_eq_true, cntL_app] at h
    exact ⟨h.1, h.2.1.2, by omega⟩
  exact (validP_parts h2).2
theorem Ss.take_full : ∀ l : Ss, l.take l.len = l
  | .nil => rfl
  | .cons op x y n t e r => by
    show Ss.cons op x y n t e (r.take r.len) = _
    rw [Ss.take_full r]
theorem cnt_snoc (d t e : Ss) (op x y n : Int) : cntL (d.snoc op x y n t e) = cntL d + (1 + cntL t + cntL e) := by
  simp only [Ss.snoc, cntL_app, Ss.one, cntL]
  omega
end Go.Proofs.YtplcmbipeanjdaaGreatDoor
namespace Go.Proofs.YtplcmbipeanjdaaGreatDoor
set_option linter.unusedVariables false
set_option linter.unusedSimpArgs false
set_option linter.unnecessarySimpa false
open Go.RowKit

theorem DrawFormatProgram_ret (v : Value) (w : World) (hd : ByD w v) : Ret Tryz.prog 4 [v] w (AnyQ w) := by
  refine enter Tryz.func4 rfl Tryz.ntmps4 rfl rfl ?_
  refine Z43 (Z44 (WO_alloc fun w0 hz ez zz => ?_))
  replace hz : Blk w0 w.heap.size [.slice none 0 0, .slice none 0 0] _ := hz
  refine goS ?_
  refine WO_call rfl (DrawProgramValid_ret v w0 (hd.ext ez)) ?_
  rintro _ w3 ⟨tv, bv, tl, l, Ft, Fb, rfl, h1, h2, h3, hb, e3⟩
  have o1 := h1.one
  have o2 := h2.one
  have s0 := hz.lt
  have s3 := e3.size_le
  refine WO_storeS (k := 2) (vs := [tv, bv]) rfl rfl rfl (by simp; exact ⟨o1, o2⟩) (hz.ext e3) (by decide) fun w4 hz4 o4 => ?_
  replace hz4 : Blk w4 w.heap.size [tv, bv] _ := hz4
  have s4 := o4.size
  refine goS ?_
  exact at_retC rfl rfl hz4 rfl ⟨tv, bv, tl, l, Ft, Fb, rfl, h1.chg o4.chg (fun x hx => by have := h3 x (by simp [hx]); simp; omega), h2.chg o4.chg (fun x hx => by have := h3 x (by simp [hx]); simp; omega), fun x hx => by have := h3 x hx; omega, hb, (ez.trans e3).only o4 (Nat.le_refl _)⟩
end Go.Proofs.YtplcmbipeanjdaaGreatDoor
namespace Go.Proofs.YtplcmbipeanjdaaGreatDoor
set_option linter.unusedVariables false
set_option linter.unusedSimpArgs false
set_option linter.unnecessarySimpa false
open Go.RowKit

theorem cutPrefix_ret (s p : Tx) (w : World) : Ret Tryz.prog 59 [sV s, sV p] w fun r w' => r = .tuple #[sV (hasF p (s, false)).2.1, .bool (hasF p (s, false)).1] ∧ w' = w := by
  refine Calls.mono (Tryz.strings_CutPrefix ⟨s.toArray⟩ ⟨p.toArray⟩ w) fun e w' h => ⟨_, h.1, ?_, h.2⟩
  unfold Lib.trimPrefix Lib.hasPrefix hasF
  simp only
  by_cases hp : p.isPrefixOf s = true
  · simp only [hp, if_true]
  · rw [Bool.not_eq_true] at hp
    simp only [hp, Bool.false_eq_true, if_false]
theorem hasF_two (p s : Tx) (b : Bool) : hasF p (s, b) = ((hasF p (s, false)).1, ((hasF p (s, false)).2.1, b)) := by
  unfold hasF
  by_cases hp : p.isPrefixOf s = true
  · simp only [hp, if_true]
  · rw [Bool.not_eq_true] at hp
    simp only [hp, Bool.false_eq_true, if_false]
theorem hasF_miss {p s : Tx} (h : (hasF p (s, false)).1 = false) : (hasF p (s, false)).2.1 = s := by
  unfold hasF at h ⊢
  by_cases hp : p.isPrefixOf s = true
  · simp only [hp, if_true] at h
    cases h
  · rw [Bool.not_eq_true] at hp
    simp only [hp, Bool.false_eq_true, if_false]
/-- The reader in memory. -/
def RdX (w : World) (rb : Nat) (st : RSt) : Prop := Blk w rb [sV st.1, .bool st.2] 40
theorem RdX.chg {w w' : World} {rb : Nat} {st : RSt} {G : List Nat} (h : RdX w rb st) (c : Chg G w w') (hn : rb ∉ G) : RdX w' rb st := Blk.chg h c hn
theorem RdX.ext {w w' : World} {rb : Nat} {st : RSt} (h : RdX w rb st) (c : Ext w w') : RdX w' rb st := Blk.ext h c
theorem RdX.lt {w : World} {rb : Nat} {st : RSt} (h : RdX w rb st) : rb < w.heap.size := Blk.lt h
theorem has_ret (rb : Nat) (p : Tx) (st : RSt) (w : World) (h : RdX w rb st) : Ret Tryz.prog 35 [.pointer (some ⟨rb, 0, none⟩), sV p] w fun r w' => r = .bool (hasF p st).1 ∧ RdX w' rb (hasF p st).2 ∧ Chg [rb] w w' := by
  obtain ⟨s, b⟩ := st
  have hr : Blk w rb [sV s, .bool b] 40 := h
  refine enter Tryz.func35 rfl Tryz.ntmps35 rfl rfl ?_
  refine goT ?_
  refine WO_call rfl (cutPrefix_ret s p w) ?_
  rintro _ _ ⟨rfl, rfl⟩
  rw [hasF_two]
  cases hf : (hasF p (s, false)).1 with
  | false =>
    rw [hasF_miss hf]
    refine goT ?_
    exact at_ret1 rfl rfl ⟨rfl, h, Chg.refl _ _⟩
  | true =>
    refine goT ?_
    refine WO_store1 rfl rfl rfl hr (by simp) fun w1 hb o1 => ?_
    simp only [List.set_cons_zero, List.set_cons_succ] at hb
    refine goT ?_
    exact at_ret1 rfl rfl ⟨rfl, hb, o1.chg⟩
theorem skip_ret (rb : Nat) (p : Tx) (st : RSt) (w : World) (h : RdX w rb st) : Ret Tryz.prog 56 [.pointer (some ⟨rb, 0, none⟩), sV p] w fun r w' => r = .tuple #[] ∧ RdX w' rb (skipF p st) ∧ Chg [rb] w w' := by
  refine enter Tryz.func56 rfl Tryz.ntmps56 rfl rfl ?_
  refine goT ?_
  refine WO_call rfl (has_ret rb p st w h) ?_
  rintro _ w1 ⟨rfl, h1, c1⟩
  have hsk : skipF p st = ((hasF p st).2.1, !(hasF p st).1 || st.2) := rfl
  have hb : (hasF p st).2.2 = st.2 := by
    obtain ⟨s, b⟩ := st
    rw [hasF_two]
  have hr : Blk w1 rb [sV (hasF p st).2.1, .bool (hasF p st).2.2] 40 := h1
  rw [hsk]
  cases hf : (hasF p st).1 with
  | false =>
    refine goT ?_
    refine WO_store1 rfl rfl rfl hr (by simp) fun w2 hb o1 => ?_
    simp only [List.set_cons_zero, List.set_cons_succ] at hb
    refine goT ?_
    exact at_end0 rfl ⟨rfl, hb, c1.trans o1.chg⟩
  | true =>
    refine goT ?_
    refine WO_store1 rfl rfl rfl hr (by simp) fun w2 hb2 o1 => ?_
    simp only [List.set_cons_zero, List.set_cons_succ] at hb2
    rw [hb] at hb2
    refine goT ?_
    exact at_end0 rfl ⟨rfl, hb2, c1.trans o1.chg⟩
theorem from_ret (rb first many : Nat) (st : RSt) (w : World) (h : RdX w rb st) (hf : first < 200) (hm : many < 50) : Ret Tryz.prog 78 [.pointer (some ⟨rb, 0, none⟩), .int .u8 (first : Int), .int .i64 (many : Int)] w fun r w' => r = .int .i64 (fromF first many st).1 ∧ RdX w' rb (fromF first many st).2 ∧ Chg [rb] w w' := by
  obtain ⟨s, b⟩ := st
  have hr : Blk w rb [sV s, .bool b] 40 := h
  refine enter Tryz.func78 rfl Tryz.ntmps78 rfl rfl ?_
  cases s with
  | nil =>
    refine goT ?_
    rw [decide_eq_true (show ([] : List UInt8) = [] from rfl)]
    refine goT ?_
    refine WO_store1 rfl rfl rfl hr (by simp) fun w1 hb o1 => ?_
    simp only [List.set_cons_zero, List.set_cons_succ] at hb
    refine goT ?_
    exact at_ret1 rfl rfl ⟨rfl, hb, o1.chg⟩
  | cons c s =>
    have hc := c.toNat_lt
    refine goT ?_
    rw [decide_eq_false (show ¬ (c :: s) = [] from by simp)]
    refine goT ?_
    refine Z13 (q_strAt (j := 0) rfl rfl rfl (by simp)) ?_
    refine goT ?_
    have hfr : fromF first many (c :: s, b) = if c.toNat < first ∨ many ≤ c.toNat - first then (0, (c :: s, true)) else (((c.toNat - first : Nat) : Int), (s, b)) := rfl
    rw [hfr]
    by_cases hlt : c.toNat < first
    · rw [decide_eq_true (show (((c :: s)[0].toNat : Nat) : Int) < (first : Int) from by show ((c.toNat : Nat) : Int) < (first : Int); omega), if_pos (.inl hlt)]
      refine goT ?_
      refine WO_store1 rfl rfl rfl hr (by simp) fun w1 hb o1 => ?_
      simp only [List.set_cons_zero, List.set_cons_succ] at hb
      refine goT ?_
      exact at_ret1 rfl rfl ⟨rfl, hb, o1.chg⟩
    · rw [decide_eq_false (show ¬ (((c :: s)[0].toNat : Nat) : Int) < (first : Int) from by show ¬ ((c.toNat : Nat) : Int) < (first : Int); omega)]
      refine goT ?_
      refine Z13 (q_strAt (j := 0) rfl rfl rfl (by simp)) ?_
      rw [show (c :: s)[0] = c from rfl]
      refine goT ?_
      refine Z13 (q_subU8 (a := ((c.toNat : Nat) : Int)) (b := (first : Int)) rfl rfl (by omega)) ?_
      refine goT ?_
      refine goT ?_
      by_cases hge : many ≤ c.toNat - first
      · rw [decide_eq_true (show ((c.toNat : Nat) : Int) - (first : Int) ≥ (many : Int) by omega), if_pos (.inr hge)]
        refine goT ?_
        refine WO_store1 rfl rfl rfl hr (by simp) fun w1 hb o1 => ?_
        simp only [List.set_cons_zero, List.set_cons_succ] at hb
        refine goT ?_
        exact at_ret1 rfl rfl ⟨rfl, hb, o1.chg⟩
      · rw [decide_eq_false (show ¬ ((c.toNat : Nat) : Int) - (first : Int) ≥ (many : Int) by omega), if_neg (by omega)]
        refine goT ?_
        refine Z13 (q_strAt (j := 0) rfl rfl rfl (by simp)) ?_
        rw [show (c :: s)[0] = c from rfl]
        refine goT ?_
        refine Z13 (q_subU8 (a := ((c.toNat : Nat) : Int)) (b := (first : Int)) rfl rfl (by omega)) ?_
        refine goT ?_
        refine Z13 (q_strFrom (l := 1) rfl rfl rfl (by simp)) ?_
        rw [show (c :: s).drop 1 = s from rfl]
        refine goT ?_
        refine WO_store1 rfl rfl rfl hr (by simp) fun w1 hb o1 => ?_
        simp only [List.set_cons_zero, List.set_cons_succ] at hb
        refine goT ?_
        exact at_ret1 rfl rfl ⟨congrArg (Value.int .i64) (by omega), hb, o1.chg⟩
theorem variable_ret (rb : Nat) (st : RSt) (w : World) (h : RdX w rb st) : Ret Tryz.prog 57 [.pointer (some ⟨rb, 0, none⟩)] w fun r w' => r = .int .i64 (varF st).1 ∧ RdX w' rb (varF st).2 ∧ Chg [rb] w w' := by
  refine enter Tryz.func57 rfl Tryz.ntmps57 rfl rfl ?_
  refine goT ?_
  refine WO_call rfl (from_ret rb 97 6 st w h (by decide) (by decide)) ?_
  rintro _ w1 ⟨rfl, h1, c1⟩
  refine goT ?_
  exact at_ret1 rfl rfl ⟨rfl, h1, c1⟩
theorem number_ret (rb : Nat) (st : RSt) (w : World) (h : RdX w rb st) : Ret Tryz.prog 58 [.pointer (some ⟨rb, 0, none⟩)] w fun r w' => r = .int .i64 (numbF st).1 ∧ RdX w' rb (numbF st).2 ∧ Chg [rb] w w' := by
  refine enter Tryz.func58 rfl Tryz.ntmps58 rfl rfl ?_
  refine goT ?_
  refine WO_call rfl (from_ret rb 48 10 st w h (by decide) (by decide)) ?_
  rintro _ w1 ⟨rfl, h1, c1⟩
  refine goT ?_
  exact at_ret1 rfl rfl ⟨rfl, h1, c1⟩
/-- A statement in memory from B on. -/
def StX (e : TypeId) (B : Nat) (w : World) (r : Value) (o : One) : Prop :=
  ∃ vt ve Ft Fe, r = stV o.1 o.2.1 o.2.2.1 o.2.2.2.1 vt ve ∧ RowS e w vt o.2.2.2.2.1 Ft ∧ RowS e w ve o.2.2.2.2.2 Fe ∧ (Ft ++ Fe).Nodup ∧ (∀ b ∈ Ft ++ Fe, B ≤ b)
/-- Statements in memory from B on. -/
def LsX (e : TypeId) (B : Nat) (w : World) (v : Value) (l : Ss) : Prop := ∃ xs Fs, w.ownsRow B e 6 v l.len xs ∧ StkS e w l xs Fs ∧ (v.ownBlock.toList ++ Fs).Nodup ∧ (∀ b ∈ v.ownBlock.toList ++ Fs, B ≤ b)
section
variable {e : TypeId} {B : Nat} {w w' : World} {r v : Value} {G : List Nat} {l : Ss} {o : One}
theorem LsX.chg (h : LsX e B w v l) (c : Chg G w w') (hG : ∀ x ∈ G, x < B) : LsX e B w' v l := by
  obtain ⟨xs, Fs, h1, h2, h3, h4⟩ := h
  exact ⟨xs, Fs, ownsRow_chg h1 c (fun z hz hm => by have := h4 z (by simp [hz]); have := hG z hm; omega), StkS.chg c _ _ _ h2 (fun z hz hm => by have := h4 z (by simp [hz]); have := hG z hm; omega), h3, h4⟩
theorem LsX.one (h : LsX e B w v l) : v.oneCell' = true := by
  obtain ⟨xs, Fs, h1, _⟩ := h
  exact row_one (ownsRow_base0 h1)
theorem LsX.row (h : LsX e B w v l) : ∃ F, RowS e w v l F ∧ F.Nodup ∧ (∀ b ∈ F, B ≤ b) := by
  obtain ⟨xs, Fs, h1, h2, h3, h4⟩ := h
  exact ⟨_, ⟨xs, Fs, ownsRow_base0 h1, h2, rfl⟩, h3, h4⟩
theorem LsX.nil_ : LsX e B w (.slice none 0 0) .nil := ⟨[], [], World.ownsRow_nil _ _ _ _, ⟨rfl, rfl⟩, by simp [Value.ownBlock], by simp [Value.ownBlock]⟩
theorem StX.flat {op x y n : Int} : StX e B w (stV op x y n (.slice none 0 0) (.slice none 0 0)) (op, x, y, n, .nil, .nil) :=
  ⟨_, _, [], [], rfl, RowS.nil_ _ _, RowS.nil_ _ _, by simp, by simp⟩
theorem StX.cells (h : StX e B w r o) : ∃ vt ve, r = stV o.1 o.2.1 o.2.2.1 o.2.2.2.1 vt ve ∧ vt.oneCell' = true ∧ ve.oneCell' = true := by
  obtain ⟨vt, ve, Ft, Fe, h1, h2, h3, h4, h5⟩ := h
  exact ⟨vt, ve, h1, h2.one, h3.one⟩
theorem StX.chg (h : StX e B w r o) (c : Chg G w w') (hG : ∀ x ∈ G, x < B) : StX e B w' r o := by
  obtain ⟨vt, ve, Ft, Fe, h1, h2, h3, h4, h5⟩ := h
  exact ⟨vt, ve, Ft, Fe, h1, h2.chg c (fun z hz hm => by have := h5 z (by simp [hz]); have := hG z hm; omega), h3.chg c (fun z hz hm => by have := h5 z (by simp [hz]); have := hG z hm; omega), h4, h5⟩
end
def snocO (l : Ss) (o : One) : Ss := l.snoc o.1 o.2.1 o.2.2.1 o.2.2.2.1 o.2.2.2.2.1 o.2.2.2.2.2
theorem snocO_app (l : Ss) (o : One) (r : Ss) : (snocO l o).app r = l.app (consO o r) := Ss.snoc_app _ _ _ _ _ _ _ _
theorem snocO_len (l : Ss) (o : One) : (snocO l o).len = l.len + 1 := Ss.len_snoc _ _ _ _ _ _ _
/-- One more statement. -/
theorem LsX.step {e : TypeId} {l : Ss} {o : One} {B B2 : Nat} {w1 w2 : World} {v v' r : Value} {xs Fs} (h1 : w1.ownsRow B e 6 v l.len xs) (h2 : StkS e w1 l xs Fs) (h3 : (v.ownBlock.toList ++ Fs).Nodup) (h4 : ∀ b ∈ v.ownBlock.toList ++ Fs, B ≤ b ∧ b < B2) (hB : B ≤ B2) (hB2 : B2 ≤ w1.heap.size) (hs : StX e B2 w1 r o)
    (k1 : w2.ownsRow B e 6 v' (l.len + 1) (xs ++ r.cells.toList)) (k2 : w1.grownBy w2 v.ownBlock) (k3 : v'.ownBlock = v.ownBlock ∨ ∃ b, v'.ownBlock = some b ∧ w1.heap.size ≤ b) : LsX e B w2 v' (snocO l o) := by
  obtain ⟨op, x, y, n, t, el⟩ := o
  obtain ⟨vt, ve, Ft, Fe, rfl, q1, q2, q3, q4⟩ := hs
  simp only at q1 q2 k1
  obtain ⟨W0, hWB, hE⟩ := cutW (B := B) (w' := w1) (by omega)
  have hg := GrowS.step (e := e) (l := l) (t := t) (el := el) (op := op) (x := x) (y := y) (n := n) (w := W0) (by rw [hWB]; exact h1) h2 h3 (fun b hb => by rw [hWB]; exact (h4 b hb).1) hE q1 q2 q3 (fun z hz hm => by have := q4 z hz; have := (h4 z hm).2; omega) (fun z hz => by have := q4 z hz; omega) (by rw [hWB]; exact k1) k2 k3
  obtain ⟨⟨ys, Gs, g1, g2, g3, g4⟩, _⟩ := hg
  rw [hWB] at g1 g4
  exact ⟨ys, Gs, g1, g2, g3, g4⟩
theorem LsX.first {e : TypeId} {o : One} {B : Nat} {w w' : World} {b : Nat} {r vt ve : Value} (hs : StX e B w r o) (hr : r = stV o.1 o.2.1 o.2.2.1 o.2.2.2.1 vt ve) (hb : Blk w' b [.int .i64 o.1, .int .i64 o.2.1, .int .i64 o.2.2.1, .int .i64 o.2.2.2.1, vt, ve] e) (hx : Ext w w') (hB : B ≤ b) (hbw : w.heap.size ≤ b) : LsX e B w' (.slice (some ⟨b, 0, none⟩) 1 1) (consO o .nil) := by
  obtain ⟨op, x, y, n, t, el⟩ := o
  obtain ⟨vt', ve', Ft, Fe, hr', q1, q2, q3, q4⟩ := hs
  rw [hr] at hr'
  simp only at hr' q1 q2 hb
  unfold stV at hr'
  injection hr' with hr'
  simp at hr'
  obtain ⟨rfl, rfl⟩ := hr'
  refine ⟨_, Ft ++ (Fe ++ []), owns_blk hb hB (by simp) (by decide), StkS.mk (q1.ext hx) (q2.ext hx) ⟨rfl, rfl⟩, ?_, ?_⟩
  · show (b :: (Ft ++ (Fe ++ []))).Nodup
    rw [List.append_nil]
    refine List.nodup_cons.2 ⟨fun hm => ?_, q3⟩
    rcases List.mem_append.1 hm with h | h
    · have := q1.lt _ h; omega
    · have := q2.lt _ h; omega
  · intro z hz
    replace hz : z ∈ b :: (Ft ++ (Fe ++ [])) := hz
    rw [List.append_nil] at hz
    rcases List.mem_cons.1 hz with h | h
    · omega
    · exact q4 z h
end Go.Proofs.YtplcmbipeanjdaaGreatDoor
