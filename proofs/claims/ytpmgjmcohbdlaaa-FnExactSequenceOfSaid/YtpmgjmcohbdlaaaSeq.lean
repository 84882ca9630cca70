/-
  What is proved here: the statements of two programs, one behind the other.
-/
import Derived.Test.YtpmgjmcohbdlaaaUnr
import Derived.Test.YtpmgjmcohbdlaaaSame
namespace Go.Proofs.Ytpmgjmcohbdlaaa
set_option linter.unusedVariables false
set_option linter.unusedSimpArgs false
set_option linter.unnecessarySimpa false
open Go.RowKit

def seqR (tl : List Int) (l : Ss) (tl2 : List Int) (l2 : Ss) : Option Ss := if validP tl l = true ∧ validP tl2 l2 = true ∧ tl = tl2 ∧ validP tl (l.app l2) = true then some (l.app l2) else none
theorem seqR_cnt (tl : List Int) (l : Ss) (tl2 : List Int) (l2 : Ss) : cntL (chL (seqR tl l tl2 l2)) ≤ 30 := by
  unfold seqR chL
  split
  · rename_i h; exact (validP_cnt h.2.2.2).2.2
  · simp [cntL]
theorem seqR_none {tl tl2 : List Int} {l l2 : Ss} (h : ¬ (validP tl l = true ∧ validP tl2 l2 = true ∧ tl = tl2)) : seqR tl l tl2 l2 = none := by
  unfold seqR; rw [if_neg (fun k => h ⟨k.1, k.2.1, k.2.2.1⟩)]
/-- A program in a block of its own; the frame names the block. -/
def PrX (mk : Nat → Env) (e eP : TypeId) (tl : List Int) (l : Ss) (w : World) (τ : Env) (w' : World) : Prop :=
  ∃ b B U t d, τ = mk b ∧ Blk w' b [t, d] eP ∧ OwnP e B U tl l w' t d ∧ w.heap.size ≤ b ∧ b < w'.heap.size ∧ w.heap.size ≤ B ∧ U ≤ w'.heap.size ∧ (b < B ∨ U ≤ b) ∧ Ext w w'
def SeqIn (e eP : TypeId) (a B : Nat) (tv : Value) (l : Ss) (Ft G : List Nat) (w w' : World) : Prop :=
  ∃ v Fb, Blk w' a [tv, v] eP ∧ RowS e w' v l Fb ∧ (Ft ++ Fb).Nodup ∧ (∀ b ∈ Fb, B ≤ b ∧ b ≠ a) ∧ Chg G w w'
section
variable {P : Program} {n : Nat} {ops : Array Oper} {Q : Exit → Act → World → Prop} {rest : List Oper} {σ : Env} {w : World} {v u : Value}
variable {d : Nat} {ty : TypeId} {pos : String} {af : Array Edge} {x s : Operand}
/-- A row of statements is appended to an owned row. -/
theorem WO_appS {t e bytes B : Nat} {z : Value} [TSl P t e 6] [TE P e z 6 bytes] {m : Nat} {l2 : Ss} {xs ys : List Value} {Fu : List Nat} (hs : ev σ s = some v) (hown : w.ownsRow B e 6 v m xs) (hx : ev σ x = some u) (hu : w.ownsRow 0 e 6 u l2.len ys) (hy : StkS e w l2 ys Fu)
    (hB : B ≤ w.heap.size) (hm : m + l2.len ≤ 1000000000000) (hby : bytes ≤ 100)
    (h : ∀ v' w', w'.ownsRow B e 6 v' (m + l2.len) (xs ++ ys) → w.grownBy w' v.ownBlock → (v'.ownBlock = v.ownBlock ∨ v'.ownBlock = some w.heap.size) → WO P n ops Q rest ((d, v') :: σ) w') :
    WO P n ops Q (⟨some d, .call ⟨.builtin .append, #[s, x], #[t, t]⟩, ty, pos, af, none⟩ :: rest) σ w := by
  have hyl := StkS.length _ _ _ hy
  by_cases h0 : l2.len = 0
  · have hu2 := hu
    obtain ⟨_, ⟨rfl, _⟩ | ⟨g, cap, cur, rfl, _⟩⟩ := hu2
    all_goals
      have hys : ys = [] := List.eq_nil_of_length_eq_zero (by rw [hyl, h0])
      try rw [h0] at hx
      rw [h0] at h hm
      subst hys
      simp only [List.append_nil, Nat.add_zero] at h hm
      exact WO_append0 (e := e) (k := 6) (bytes := bytes) (z := z) hs hown hx hB (by decide) hm hby h
  · obtain ⟨g, cap, rfl, hc⟩ := row_cells hu (by omega)
    exact WO_append (e := e) (k := 6) (bytes := bytes) (z := z) (mm := l2.len) hs hown hx hyl hc (StkS.one _ _ _ hy) hB (by decide) hm hby h
end
theorem SequenceOf_ret (tv bv tv2 bv2 : Value) (tl tl2 : List Int) (l l2 : Ss) (F Fb F' Fb' : List Nat) (w : World) (ht : IntF w tv tl F) (hb : StS w bv l Fb) (ht2 : IntF w tv2 tl2 F') (hb2 : StS w bv2 l2 Fb') (hn : tl.length ≤ 1048576) (hn2 : cntL l ≤ 1048576) (hn3 : cntL l2 ≤ 1048576) :
    Ret Try.prog 15 [prV tv bv, prV tv2 bv2] w (PrO 58 tl (seqR tl l tl2 l2) w) := by
  obtain ⟨A, c, rfl, hl, hlc⟩ := hb.slice
  obtain ⟨A2, c2, rfl, hl2, hlc2⟩ := hb2.slice
  unfold maxI at hl hl2
  have hcl := len_le_cntL l
  refine enter Try.func15 rfl Try.ntmps15 rfl rfl ?_
  refine Z43 (Z44 (WO_box rfl fun w1 hs e1 z1 => WO_box rfl fun w2 hu e2 z2 => WO_alloc fun w3 hr e3 z3 => ?_))
  replace hs : Blk w3 w.heap.size [tv, .slice A l.len c] _ := (Blk.ext hs e2).ext e3
  replace hu : Blk w3 w1.heap.size [tv2, .slice A2 l2.len c2] _ := Blk.ext hu e3
  replace hr : Blk w3 w2.heap.size [.slice none 0 0, .slice none 0 0] _ := hr
  have e0 := (e1.trans e2).trans e3
  have s1' := e1.size_le
  have s2' := e2.size_le
  have s1 : w.heap.size ≤ w2.heap.size := by omega
  have s2 := hr.lt
  have s3 : w3.heap.size = w2.heap.size + 1 := z3
  have hlc2' := len_le_cntL l2
  repeat (first | (refine Z0 ?_; first | refine Z1 rfl ?_ | (refine Z2 ?_; first | refine Z3 rfl rfl (by decide) ?_ | refine Z4 rfl rfl (by decide) ?_ | refine Z5 rfl rfl ?_) | (refine Z6 ?_; first | refine Z7 rfl rfl ?_ | refine Z8 rfl rfl ?_) | (refine Z9 ?_; first | refine Z10 rfl (by assumption) (by rfl) ?_ | refine Z11 rfl (by assumption) ?_) | (refine Z12 ?_; first | refine Z13 (Z14 rfl (by decide) rfl) ?_ | refine Z13 (Z15 rfl (by decide) rfl) ?_) | (refine Z16 ?_; first | refine Z17 rfl ?_ | refine Z18 rfl ?_) | (refine Z19 ?_; first | refine Z20 rfl rfl (by omega) ?_ | refine Z21 rfl rfl (by omega) ?_ | refine Z22 rfl rfl (by omega) ?_ | refine Z23 rfl rfl (by omega) (by omega) ?_ | refine Z24 rfl rfl (by omega) (by omega) (by omega) ?_ | refine Z13 (Z25 rfl rfl) ?_ | refine Z13 (Z26 rfl rfl) ?_) | (refine Z27 ?_; refine Z13 (Z28 rfl (Z53 ⟨by omega, by omega⟩)) ?_) | (refine Z29 ?_; refine Z13 (Z30 rfl (by rfl) (by simp only [Z84, List.set_cons_zero, List.set_cons_succ]; rfl)) ?_) | refine Z31 ?_) | (refine Z32 ?_; first | refine Z33 ?_ | refine Z34 ?_ | refine Z35 ?_ | refine Z36 ?_ | refine Z37 ?_ | refine Z38 rfl ?_ | refine Z39 ?_ | refine Z40 ?_ | refine Z41 ?_) | (refine Z42 ?_; first | refine Z43 ?_ | refine Z44 ?_ | refine Z45 ?_ | refine Z46 ?_ | refine Z47 ?_ | refine Z48 ?_ | refine Z49 rfl (by decide) ?_ | refine Z50 rfl (by decide) ?_))
  refine WO_loadSB rfl hs rfl ?_
  refine WO_call rfl (ProgramValid_ret tv _ tl l F Fb w3 (ht.ext e0) (StS.ext hb e0) ) ?_
  rintro _ w4 ⟨rfl, e4⟩
  replace hs := hs.ext e4
  replace hu := hu.ext e4
  replace hr := hr.ext e4
  replace e0 := e0.trans e4
  cases hv : validP tl l
  · have hnone := seqR_none (tl := tl) (tl2 := tl2) (l := l) (l2 := l2) (by simp [hv])
    repeat (first | (refine Z0 ?_; first | refine Z1 rfl ?_ | (refine Z2 ?_; first | refine Z3 rfl rfl (by decide) ?_ | refine Z4 rfl rfl (by decide) ?_ | refine Z5 rfl rfl ?_) | (refine Z6 ?_; first | refine Z7 rfl rfl ?_ | refine Z8 rfl rfl ?_) | (refine Z9 ?_; first | refine Z10 rfl (by assumption) (by rfl) ?_ | refine Z11 rfl (by assumption) ?_) | (refine Z12 ?_; first | refine Z13 (Z14 rfl (by decide) rfl) ?_ | refine Z13 (Z15 rfl (by decide) rfl) ?_) | (refine Z16 ?_; first | refine Z17 rfl ?_ | refine Z18 rfl ?_) | (refine Z19 ?_; first | refine Z20 rfl rfl (by omega) ?_ | refine Z21 rfl rfl (by omega) ?_ | refine Z22 rfl rfl (by omega) ?_ | refine Z23 rfl rfl (by omega) (by omega) ?_ | refine Z24 rfl rfl (by omega) (by omega) (by omega) ?_ | refine Z13 (Z25 rfl rfl) ?_ | refine Z13 (Z26 rfl rfl) ?_) | (refine Z27 ?_; refine Z13 (Z28 rfl (Z53 ⟨by omega, by omega⟩)) ?_) | (refine Z29 ?_; refine Z13 (Z30 rfl (by rfl) (by simp only [Z84, List.set_cons_zero, List.set_cons_succ]; rfl)) ?_) | refine Z31 ?_) | (refine Z32 ?_; first | refine Z33 ?_ | refine Z34 ?_ | refine Z35 ?_ | refine Z36 ?_ | refine Z37 ?_ | refine Z38 rfl ?_ | refine Z39 ?_ | refine Z40 ?_ | refine Z41 ?_) | (refine Z42 ?_; first | refine Z43 ?_ | refine Z44 ?_ | refine Z45 ?_ | refine Z46 ?_ | refine Z47 ?_ | refine Z48 ?_ | refine Z49 rfl (by decide) ?_ | refine Z50 rfl (by decide) ?_))
    refine WO_storeS (k := 2) (vs := [.slice none 0 0, .slice none 0 0]) rfl rfl rfl (by intro v hv; simp at hv; subst hv; rfl) hr (by decide) fun wz hz oz => ?_
    replace hz : Blk wz w2.heap.size [.slice none 0 0, .slice none 0 0] _ := hz
    repeat (first | (refine Z0 ?_; first | refine Z1 rfl ?_ | (refine Z2 ?_; first | refine Z3 rfl rfl (by decide) ?_ | refine Z4 rfl rfl (by decide) ?_ | refine Z5 rfl rfl ?_) | (refine Z6 ?_; first | refine Z7 rfl rfl ?_ | refine Z8 rfl rfl ?_) | (refine Z9 ?_; first | refine Z10 rfl (by assumption) (by rfl) ?_ | refine Z11 rfl (by assumption) ?_) | (refine Z12 ?_; first | refine Z13 (Z14 rfl (by decide) rfl) ?_ | refine Z13 (Z15 rfl (by decide) rfl) ?_) | (refine Z16 ?_; first | refine Z17 rfl ?_ | refine Z18 rfl ?_) | (refine Z19 ?_; first | refine Z20 rfl rfl (by omega) ?_ | refine Z21 rfl rfl (by omega) ?_ | refine Z22 rfl rfl (by omega) ?_ | refine Z23 rfl rfl (by omega) (by omega) ?_ | refine Z24 rfl rfl (by omega) (by omega) (by omega) ?_ | refine Z13 (Z25 rfl rfl) ?_ | refine Z13 (Z26 rfl rfl) ?_) | (refine Z27 ?_; refine Z13 (Z28 rfl (Z53 ⟨by omega, by omega⟩)) ?_) | (refine Z29 ?_; refine Z13 (Z30 rfl (by rfl) (by simp only [Z84, List.set_cons_zero, List.set_cons_succ]; rfl)) ?_) | refine Z31 ?_) | (refine Z32 ?_; first | refine Z33 ?_ | refine Z34 ?_ | refine Z35 ?_ | refine Z36 ?_ | refine Z37 ?_ | refine Z38 rfl ?_ | refine Z39 ?_ | refine Z40 ?_ | refine Z41 ?_) | (refine Z42 ?_; first | refine Z43 ?_ | refine Z44 ?_ | refine Z45 ?_ | refine Z46 ?_ | refine Z47 ?_ | refine Z48 ?_ | refine Z49 rfl (by decide) ?_ | refine Z50 rfl (by decide) ?_))
    exact at_ret2G rfl (.cell inferInstance rfl hz rfl) (.tmp rfl) (by rw [hnone]; exact PrO.none_ (Ext.only e0 oz s1))
  · repeat (first | (refine Z0 ?_; first | refine Z1 rfl ?_ | (refine Z2 ?_; first | refine Z3 rfl rfl (by decide) ?_ | refine Z4 rfl rfl (by decide) ?_ | refine Z5 rfl rfl ?_) | (refine Z6 ?_; first | refine Z7 rfl rfl ?_ | refine Z8 rfl rfl ?_) | (refine Z9 ?_; first | refine Z10 rfl (by assumption) (by rfl) ?_ | refine Z11 rfl (by assumption) ?_) | (refine Z12 ?_; first | refine Z13 (Z14 rfl (by decide) rfl) ?_ | refine Z13 (Z15 rfl (by decide) rfl) ?_) | (refine Z16 ?_; first | refine Z17 rfl ?_ | refine Z18 rfl ?_) | (refine Z19 ?_; first | refine Z20 rfl rfl (by omega) ?_ | refine Z21 rfl rfl (by omega) ?_ | refine Z22 rfl rfl (by omega) ?_ | refine Z23 rfl rfl (by omega) (by omega) ?_ | refine Z24 rfl rfl (by omega) (by omega) (by omega) ?_ | refine Z13 (Z25 rfl rfl) ?_ | refine Z13 (Z26 rfl rfl) ?_) | (refine Z27 ?_; refine Z13 (Z28 rfl (Z53 ⟨by omega, by omega⟩)) ?_) | (refine Z29 ?_; refine Z13 (Z30 rfl (by rfl) (by simp only [Z84, List.set_cons_zero, List.set_cons_succ]; rfl)) ?_) | refine Z31 ?_) | (refine Z32 ?_; first | refine Z33 ?_ | refine Z34 ?_ | refine Z35 ?_ | refine Z36 ?_ | refine Z37 ?_ | refine Z38 rfl ?_ | refine Z39 ?_ | refine Z40 ?_ | refine Z41 ?_) | (refine Z42 ?_; first | refine Z43 ?_ | refine Z44 ?_ | refine Z45 ?_ | refine Z46 ?_ | refine Z47 ?_ | refine Z48 ?_ | refine Z49 rfl (by decide) ?_ | refine Z50 rfl (by decide) ?_))
    refine WO_loadSB rfl hu rfl ?_
    repeat (first | (refine Z0 ?_; first | refine Z1 rfl ?_ | (refine Z2 ?_; first | refine Z3 rfl rfl (by decide) ?_ | refine Z4 rfl rfl (by decide) ?_ | refine Z5 rfl rfl ?_) | (refine Z6 ?_; first | refine Z7 rfl rfl ?_ | refine Z8 rfl rfl ?_) | (refine Z9 ?_; first | refine Z10 rfl (by assumption) (by rfl) ?_ | refine Z11 rfl (by assumption) ?_) | (refine Z12 ?_; first | refine Z13 (Z14 rfl (by decide) rfl) ?_ | refine Z13 (Z15 rfl (by decide) rfl) ?_) | (refine Z16 ?_; first | refine Z17 rfl ?_ | refine Z18 rfl ?_) | (refine Z19 ?_; first | refine Z20 rfl rfl (by omega) ?_ | refine Z21 rfl rfl (by omega) ?_ | refine Z22 rfl rfl (by omega) ?_ | refine Z23 rfl rfl (by omega) (by omega) ?_ | refine Z24 rfl rfl (by omega) (by omega) (by omega) ?_ | refine Z13 (Z25 rfl rfl) ?_ | refine Z13 (Z26 rfl rfl) ?_) | (refine Z27 ?_; refine Z13 (Z28 rfl (Z53 ⟨by omega, by omega⟩)) ?_) | (refine Z29 ?_; refine Z13 (Z30 rfl (by rfl) (by simp only [Z84, List.set_cons_zero, List.set_cons_succ]; rfl)) ?_) | refine Z31 ?_) | (refine Z32 ?_; first | refine Z33 ?_ | refine Z34 ?_ | refine Z35 ?_ | refine Z36 ?_ | refine Z37 ?_ | refine Z38 rfl ?_ | refine Z39 ?_ | refine Z40 ?_ | refine Z41 ?_) | (refine Z42 ?_; first | refine Z43 ?_ | refine Z44 ?_ | refine Z45 ?_ | refine Z46 ?_ | refine Z47 ?_ | refine Z48 ?_ | refine Z49 rfl (by decide) ?_ | refine Z50 rfl (by decide) ?_))
    refine WO_call rfl (ProgramValid_ret tv2 _ tl2 l2 F' Fb' w4 (ht2.ext e0) (StS.ext hb2 e0) ) ?_
    rintro _ w5 ⟨rfl, e5⟩
    replace hs := hs.ext e5
    replace hu := hu.ext e5
    replace hr := hr.ext e5
    replace e0 := e0.trans e5
    cases hv2 : validP tl2 l2
    · have hnone := seqR_none (tl := tl) (tl2 := tl2) (l := l) (l2 := l2) (by simp [hv2])
      repeat (first | (refine Z0 ?_; first | refine Z1 rfl ?_ | (refine Z2 ?_; first | refine Z3 rfl rfl (by decide) ?_ | refine Z4 rfl rfl (by decide) ?_ | refine Z5 rfl rfl ?_) | (refine Z6 ?_; first | refine Z7 rfl rfl ?_ | refine Z8 rfl rfl ?_) | (refine Z9 ?_; first | refine Z10 rfl (by assumption) (by rfl) ?_ | refine Z11 rfl (by assumption) ?_) | (refine Z12 ?_; first | refine Z13 (Z14 rfl (by decide) rfl) ?_ | refine Z13 (Z15 rfl (by decide) rfl) ?_) | (refine Z16 ?_; first | refine Z17 rfl ?_ | refine Z18 rfl ?_) | (refine Z19 ?_; first | refine Z20 rfl rfl (by omega) ?_ | refine Z21 rfl rfl (by omega) ?_ | refine Z22 rfl rfl (by omega) ?_ | refine Z23 rfl rfl (by omega) (by omega) ?_ | refine Z24 rfl rfl (by omega) (by omega) (by omega) ?_ | refine Z13 (Z25 rfl rfl) ?_ | refine Z13 (Z26 rfl rfl) ?_) | (refine Z27 ?_; refine Z13 (Z28 rfl (Z53 ⟨by omega, by omega⟩)) ?_) | (refine Z29 ?_; refine Z13 (Z30 rfl (by rfl) (by simp only [Z84, List.set_cons_zero, List.set_cons_succ]; rfl)) ?_) | refine Z31 ?_) | (refine Z32 ?_; first | refine Z33 ?_ | refine Z34 ?_ | refine Z35 ?_ | refine Z36 ?_ | refine Z37 ?_ | refine Z38 rfl ?_ | refine Z39 ?_ | refine Z40 ?_ | refine Z41 ?_) | (refine Z42 ?_; first | refine Z43 ?_ | refine Z44 ?_ | refine Z45 ?_ | refine Z46 ?_ | refine Z47 ?_ | refine Z48 ?_ | refine Z49 rfl (by decide) ?_ | refine Z50 rfl (by decide) ?_))
      refine WO_storeS (k := 2) (vs := [.slice none 0 0, .slice none 0 0]) rfl rfl rfl (by intro v hv; simp at hv; subst hv; rfl) hr (by decide) fun wz hz oz => ?_
      replace hz : Blk wz w2.heap.size [.slice none 0 0, .slice none 0 0] _ := hz
      repeat (first | (refine Z0 ?_; first | refine Z1 rfl ?_ | (refine Z2 ?_; first | refine Z3 rfl rfl (by decide) ?_ | refine Z4 rfl rfl (by decide) ?_ | refine Z5 rfl rfl ?_) | (refine Z6 ?_; first | refine Z7 rfl rfl ?_ | refine Z8 rfl rfl ?_) | (refine Z9 ?_; first | refine Z10 rfl (by assumption) (by rfl) ?_ | refine Z11 rfl (by assumption) ?_) | (refine Z12 ?_; first | refine Z13 (Z14 rfl (by decide) rfl) ?_ | refine Z13 (Z15 rfl (by decide) rfl) ?_) | (refine Z16 ?_; first | refine Z17 rfl ?_ | refine Z18 rfl ?_) | (refine Z19 ?_; first | refine Z20 rfl rfl (by omega) ?_ | refine Z21 rfl rfl (by omega) ?_ | refine Z22 rfl rfl (by omega) ?_ | refine Z23 rfl rfl (by omega) (by omega) ?_ | refine Z24 rfl rfl (by omega) (by omega) (by omega) ?_ | refine Z13 (Z25 rfl rfl) ?_ | refine Z13 (Z26 rfl rfl) ?_) | (refine Z27 ?_; refine Z13 (Z28 rfl (Z53 ⟨by omega, by omega⟩)) ?_) | (refine Z29 ?_; refine Z13 (Z30 rfl (by rfl) (by simp only [Z84, List.set_cons_zero, List.set_cons_succ]; rfl)) ?_) | refine Z31 ?_) | (refine Z32 ?_; first | refine Z33 ?_ | refine Z34 ?_ | refine Z35 ?_ | refine Z36 ?_ | refine Z37 ?_ | refine Z38 rfl ?_ | refine Z39 ?_ | refine Z40 ?_ | refine Z41 ?_) | (refine Z42 ?_; first | refine Z43 ?_ | refine Z44 ?_ | refine Z45 ?_ | refine Z46 ?_ | refine Z47 ?_ | refine Z48 ?_ | refine Z49 rfl (by decide) ?_ | refine Z50 rfl (by decide) ?_))
      exact at_ret2G rfl (.cell inferInstance rfl hz rfl) (.tmp rfl) (by rw [hnone]; exact PrO.none_ (Ext.only e0 oz s1))
    · repeat (first | (refine Z0 ?_; first | refine Z1 rfl ?_ | (refine Z2 ?_; first | refine Z3 rfl rfl (by decide) ?_ | refine Z4 rfl rfl (by decide) ?_ | refine Z5 rfl rfl ?_) | (refine Z6 ?_; first | refine Z7 rfl rfl ?_ | refine Z8 rfl rfl ?_) | (refine Z9 ?_; first | refine Z10 rfl (by assumption) (by rfl) ?_ | refine Z11 rfl (by assumption) ?_) | (refine Z12 ?_; first | refine Z13 (Z14 rfl (by decide) rfl) ?_ | refine Z13 (Z15 rfl (by decide) rfl) ?_) | (refine Z16 ?_; first | refine Z17 rfl ?_ | refine Z18 rfl ?_) | (refine Z19 ?_; first | refine Z20 rfl rfl (by omega) ?_ | refine Z21 rfl rfl (by omega) ?_ | refine Z22 rfl rfl (by omega) ?_ | refine Z23 rfl rfl (by omega) (by omega) ?_ | refine Z24 rfl rfl (by omega) (by omega) (by omega) ?_ | refine Z13 (Z25 rfl rfl) ?_ | refine Z13 (Z26 rfl rfl) ?_) | (refine Z27 ?_; refine Z13 (Z28 rfl (Z53 ⟨by omega, by omega⟩)) ?_) | (refine Z29 ?_; refine Z13 (Z30 rfl (by rfl) (by simp only [Z84, List.set_cons_zero, List.set_cons_succ]; rfl)) ?_) | refine Z31 ?_) | (refine Z32 ?_; first | refine Z33 ?_ | refine Z34 ?_ | refine Z35 ?_ | refine Z36 ?_ | refine Z37 ?_ | refine Z38 rfl ?_ | refine Z39 ?_ | refine Z40 ?_ | refine Z41 ?_) | (refine Z42 ?_; first | refine Z43 ?_ | refine Z44 ?_ | refine Z45 ?_ | refine Z46 ?_ | refine Z47 ?_ | refine Z48 ?_ | refine Z49 rfl (by decide) ?_ | refine Z50 rfl (by decide) ?_))
      refine WO_call rfl (slEqual_ret tv tv2 tl tl2 F F' w5 (ht.ext e0) (ht2.ext e0)) ?_
      rintro _ w5' ⟨rfl, e6⟩
      replace hs := hs.ext e6
      replace hu := hu.ext e6
      replace hr := hr.ext e6
      replace e0 := e0.trans e6
      by_cases hty : tl = tl2
      · subst hty
        rw [(decide_eq_true (rfl : tl = tl))]
        have s5 := ((e4.trans e5).trans e6).size_le
        repeat (first | (refine Z0 ?_; first | refine Z1 rfl ?_ | (refine Z2 ?_; first | refine Z3 rfl rfl (by decide) ?_ | refine Z4 rfl rfl (by decide) ?_ | refine Z5 rfl rfl ?_) | (refine Z6 ?_; first | refine Z7 rfl rfl ?_ | refine Z8 rfl rfl ?_) | (refine Z9 ?_; first | refine Z10 rfl (by assumption) (by rfl) ?_ | refine Z11 rfl (by assumption) ?_) | (refine Z12 ?_; first | refine Z13 (Z14 rfl (by decide) rfl) ?_ | refine Z13 (Z15 rfl (by decide) rfl) ?_) | (refine Z16 ?_; first | refine Z17 rfl ?_ | refine Z18 rfl ?_) | (refine Z19 ?_; first | refine Z20 rfl rfl (by omega) ?_ | refine Z21 rfl rfl (by omega) ?_ | refine Z22 rfl rfl (by omega) ?_ | refine Z23 rfl rfl (by omega) (by omega) ?_ | refine Z24 rfl rfl (by omega) (by omega) (by omega) ?_ | refine Z13 (Z25 rfl rfl) ?_ | refine Z13 (Z26 rfl rfl) ?_) | (refine Z27 ?_; refine Z13 (Z28 rfl (Z53 ⟨by omega, by omega⟩)) ?_) | (refine Z29 ?_; refine Z13 (Z30 rfl (by rfl) (by simp only [Z84, List.set_cons_zero, List.set_cons_succ]; rfl)) ?_) | refine Z31 ?_) | (refine Z32 ?_; first | refine Z33 ?_ | refine Z34 ?_ | refine Z35 ?_ | refine Z36 ?_ | refine Z37 ?_ | refine Z38 rfl ?_ | refine Z39 ?_ | refine Z40 ?_ | refine Z41 ?_) | (refine Z42 ?_; first | refine Z43 ?_ | refine Z44 ?_ | refine Z45 ?_ | refine Z46 ?_ | refine Z47 ?_ | refine Z48 ?_ | refine Z49 rfl (by decide) ?_ | refine Z50 rfl (by decide) ?_))
        refine WO_loadSB rfl hs rfl ?_
        refine WO_call rfl (own_ret tv _ tl l F Fb w5' (ht.ext e0) (StS.ext hb e0) hn hn2) ?_
        rintro _ w6 ⟨⟨tv', bv', rfl, Ft5, Fb5, h51, ⟨xs, Fs, r1, r2, rfl⟩, h53, h54⟩, e6⟩
        have on1 := h51.one
        have on2 := one_of_row r1
        replace hs := hs.ext e6
        replace hu := hu.ext e6
        replace hr := hr.ext e6
        replace e0 := e0.trans e6
        have s6 := e6.size_le
        repeat (first | (refine Z0 ?_; first | refine Z1 rfl ?_ | (refine Z2 ?_; first | refine Z3 rfl rfl (by decide) ?_ | refine Z4 rfl rfl (by decide) ?_ | refine Z5 rfl rfl ?_) | (refine Z6 ?_; first | refine Z7 rfl rfl ?_ | refine Z8 rfl rfl ?_) | (refine Z9 ?_; first | refine Z10 rfl (by assumption) (by rfl) ?_ | refine Z11 rfl (by assumption) ?_) | (refine Z12 ?_; first | refine Z13 (Z14 rfl (by decide) rfl) ?_ | refine Z13 (Z15 rfl (by decide) rfl) ?_) | (refine Z16 ?_; first | refine Z17 rfl ?_ | refine Z18 rfl ?_) | (refine Z19 ?_; first | refine Z20 rfl rfl (by omega) ?_ | refine Z21 rfl rfl (by omega) ?_ | refine Z22 rfl rfl (by omega) ?_ | refine Z23 rfl rfl (by omega) (by omega) ?_ | refine Z24 rfl rfl (by omega) (by omega) (by omega) ?_ | refine Z13 (Z25 rfl rfl) ?_ | refine Z13 (Z26 rfl rfl) ?_) | (refine Z27 ?_; refine Z13 (Z28 rfl (Z53 ⟨by omega, by omega⟩)) ?_) | (refine Z29 ?_; refine Z13 (Z30 rfl (by rfl) (by simp only [Z84, List.set_cons_zero, List.set_cons_succ]; rfl)) ?_) | refine Z31 ?_) | (refine Z32 ?_; first | refine Z33 ?_ | refine Z34 ?_ | refine Z35 ?_ | refine Z36 ?_ | refine Z37 ?_ | refine Z38 rfl ?_ | refine Z39 ?_ | refine Z40 ?_ | refine Z41 ?_) | (refine Z42 ?_; first | refine Z43 ?_ | refine Z44 ?_ | refine Z45 ?_ | refine Z46 ?_ | refine Z47 ?_ | refine Z48 ?_ | refine Z49 rfl (by decide) ?_ | refine Z50 rfl (by decide) ?_))
        refine WO_alloc fun wo ho eo zo => ?_
        refine WO_storeS (k := 2) (vs := [tv', bv']) rfl rfl rfl (by simp; exact ⟨on1, on2⟩) ho (by decide) fun w7 ho7 o7 => ?_
        replace ho7 : Blk w7 w6.heap.size [tv', bv'] _ := ho7
        have e7 : Ext w6 w7 := eo.only o7 (Nat.le_refl _)
        replace hs := hs.ext e7
        replace hu := hu.ext e7
        replace hr := hr.ext e7
        replace e0 := e0.trans e7
        have s7 := ho7.lt
        repeat (first | (refine Z0 ?_; first | refine Z1 rfl ?_ | (refine Z2 ?_; first | refine Z3 rfl rfl (by decide) ?_ | refine Z4 rfl rfl (by decide) ?_ | refine Z5 rfl rfl ?_) | (refine Z6 ?_; first | refine Z7 rfl rfl ?_ | refine Z8 rfl rfl ?_) | (refine Z9 ?_; first | refine Z10 rfl (by assumption) (by rfl) ?_ | refine Z11 rfl (by assumption) ?_) | (refine Z12 ?_; first | refine Z13 (Z14 rfl (by decide) rfl) ?_ | refine Z13 (Z15 rfl (by decide) rfl) ?_) | (refine Z16 ?_; first | refine Z17 rfl ?_ | refine Z18 rfl ?_) | (refine Z19 ?_; first | refine Z20 rfl rfl (by omega) ?_ | refine Z21 rfl rfl (by omega) ?_ | refine Z22 rfl rfl (by omega) ?_ | refine Z23 rfl rfl (by omega) (by omega) ?_ | refine Z24 rfl rfl (by omega) (by omega) (by omega) ?_ | refine Z13 (Z25 rfl rfl) ?_ | refine Z13 (Z26 rfl rfl) ?_) | (refine Z27 ?_; refine Z13 (Z28 rfl (Z53 ⟨by omega, by omega⟩)) ?_) | (refine Z29 ?_; refine Z13 (Z30 rfl (by rfl) (by simp only [Z84, List.set_cons_zero, List.set_cons_succ]; rfl)) ?_) | refine Z31 ?_) | (refine Z32 ?_; first | refine Z33 ?_ | refine Z34 ?_ | refine Z35 ?_ | refine Z36 ?_ | refine Z37 ?_ | refine Z38 rfl ?_ | refine Z39 ?_ | refine Z40 ?_ | refine Z41 ?_) | (refine Z42 ?_; first | refine Z43 ?_ | refine Z44 ?_ | refine Z45 ?_ | refine Z46 ?_ | refine Z47 ?_ | refine Z48 ?_ | refine Z49 rfl (by decide) ?_ | refine Z50 rfl (by decide) ?_))
        refine W_held0 (w6.heap.size :: bv'.ownBlock.toList) [(2, .pointer (some ⟨w.heap.size, 0, none⟩)), (4, .pointer (some ⟨w2.heap.size, 0, none⟩)), (6, .pointer (some ⟨w6.heap.size, 0, none⟩))] (SeqIn 58 29 w6.heap.size w3.heap.size tv' (l.app l2) Ft5 (w6.heap.size :: bv'.ownBlock.toList) w7) (by kernel_rfl) (fun ws es hS => ?_) (fun w8 hR => ?_)
        · have hss := es.size_le
          have hos := ho7.ext es
          have hus := hu.ext es
          have r1s := ownsRow_ext r1 (e7.trans es)
          have r2s := StkS.ext (e7.trans es) r2
          have hb2s := StS.ext hb2 (e0.trans es)
          have huno : w1.heap.size ∉ w6.heap.size :: bv'.ownBlock.toList := fun hm => by
            rcases List.mem_cons.1 hm with h | h
            · omega
            · have := (h54 _ (List.mem_append_right _ (List.mem_append_left _ h))).1; omega
          first | refine Z82 0 rfl (by kernel_rfl) (by kernel_rfl) (by kernel_rfl) (by assumption) (fun w' hw' => Z56 rfl) ?_ | refine Z82 0 rfl (by kernel_rfl) (by kernel_rfl) (by kernel_rfl) (by assumption) (fun w' hw' => Z63 rfl rfl) ?_ | refine Z82 0 rfl (by kernel_rfl) (by kernel_rfl) (by kernel_rfl) (by assumption) (fun w' hw' => Z64 rfl rfl) ?_ | refine Z82 0 rfl (by kernel_rfl) (by kernel_rfl) (by kernel_rfl) (by assumption) (fun w' hw' => Z75 rfl rfl (by omega)) ?_ | refine Z82 0 rfl (by kernel_rfl) (by kernel_rfl) (by kernel_rfl) (by assumption) (fun w' hw' => Z72 rfl) ?_ | refine Z82 0 rfl (by kernel_rfl) (by kernel_rfl) (by kernel_rfl) (by assumption) (fun w' hw' => Z69 rfl rfl rfl (by omega)) ?_ | refine Z82 0 rfl (by kernel_rfl) (by kernel_rfl) (by kernel_rfl) (by assumption) (fun w' hw' => Z30 rfl (by rfl) (by simp only [Z84, List.set_cons_zero, List.set_cons_succ]; rfl)) ?_
          first | refine Z82 2 rfl (by kernel_rfl) (by kernel_rfl) (by kernel_rfl) (by assumption) (fun w' hw' => Z56 rfl) ?_ | refine Z82 2 rfl (by kernel_rfl) (by kernel_rfl) (by kernel_rfl) (by assumption) (fun w' hw' => Z63 rfl rfl) ?_ | refine Z82 2 rfl (by kernel_rfl) (by kernel_rfl) (by kernel_rfl) (by assumption) (fun w' hw' => Z64 rfl rfl) ?_ | refine Z82 2 rfl (by kernel_rfl) (by kernel_rfl) (by kernel_rfl) (by assumption) (fun w' hw' => Z75 rfl rfl (by omega)) ?_ | refine Z82 2 rfl (by kernel_rfl) (by kernel_rfl) (by kernel_rfl) (by assumption) (fun w' hw' => Z72 rfl) ?_ | refine Z82 2 rfl (by kernel_rfl) (by kernel_rfl) (by kernel_rfl) (by assumption) (fun w' hw' => Z69 rfl rfl rfl (by omega)) ?_ | refine Z82 2 rfl (by kernel_rfl) (by kernel_rfl) (by kernel_rfl) (by assumption) (fun w' hw' => Z30 rfl (by rfl) (by simp only [Z84, List.set_cons_zero, List.set_cons_succ]; rfl)) ?_
          refine Z82 3 rfl (by kernel_rfl) (by kernel_rfl) (by kernel_rfl) (by assumption) (fun w' hw' => Z66 rfl (hus.chg hw' huno) rfl) ?_
          refine WH_two 1 4 rfl rfl (by kernel_rfl) ?_ ?_
          · refine Z10 rfl hos rfl (Z31 (at_held hS ?_))
            refine WH_one 4 rfl (by kernel_rfl) (WO_call rfl (ownStmts_all l2 _ Fb' ws hb2s (by omega)) ?_)
            rintro vy wa hY
            have ea := (id hY).2
            replace hY := (id hY)
            refine Z31 (at_held (ea.chg _) ?_)
            have sa := Ext.size_le ea
            obtain ⟨⟨Fq, ⟨ys, Fy, y1, y2, rfl⟩, y3, y4⟩, _⟩ := hY
            have hlty := StkS.lt _ _ _ y2
            have r1a := ownsRow_ext r1s ea
            have r2a := StkS.ext ea r2s
            refine WH_one 5 rfl (by kernel_rfl) (WO_appS (e := 58) (l2 := l2) rfl r1a rfl y1 y2 (Nat.zero_le _) (by omega) (by decide) fun v3 wd k31 k32 k33 => Z31 (at_held ((Ext.chg ea _).trans ((grown_chg k32).mono (by intro b hb; simp [hb]))) ?_))
            have hgd := grown_chg k32
            have hdd : ∀ z ∈ Fs ++ Fy, z ∉ bv'.ownBlock.toList := fun z hz hm => by
              rcases List.mem_append.1 hz with hz | hz
              · exact (List.nodup_append.1 (List.nodup_append.1 h53).2.1).2.2 z hm z hz rfl
              · have := y4 z (by simp [hz])
                have := (r1s.lt z (by simpa using hm)).2
                omega
            have hrow3 := row_app r2a y2 hgd hdd k31
            have Sd : Chg (w6.heap.size :: bv'.ownBlock.toList) ws wd := (Ext.chg ea _).trans (hgd.mono (by intro b hb; simp [hb]))
            have hob : w6.heap.size ∉ bv'.ownBlock.toList := fun hm => by have := (h54 _ (List.mem_append_right _ (List.mem_append_left _ hm))).2; omega
            have hod := ((Blk.ext hos ea)).chg hgd hob
            first | refine Z82 6 rfl (by kernel_rfl) (by kernel_rfl) (by kernel_rfl) (by assumption) (fun w' hw' => Z56 rfl) ?_ | refine Z82 6 rfl (by kernel_rfl) (by kernel_rfl) (by kernel_rfl) (by assumption) (fun w' hw' => Z63 rfl rfl) ?_ | refine Z82 6 rfl (by kernel_rfl) (by kernel_rfl) (by kernel_rfl) (by assumption) (fun w' hw' => Z64 rfl rfl) ?_ | refine Z82 6 rfl (by kernel_rfl) (by kernel_rfl) (by kernel_rfl) (by assumption) (fun w' hw' => Z75 rfl rfl (by omega)) ?_ | refine Z82 6 rfl (by kernel_rfl) (by kernel_rfl) (by kernel_rfl) (by assumption) (fun w' hw' => Z72 rfl) ?_ | refine Z82 6 rfl (by kernel_rfl) (by kernel_rfl) (by kernel_rfl) (by assumption) (fun w' hw' => Z69 rfl rfl rfl (by omega)) ?_ | refine Z82 6 rfl (by kernel_rfl) (by kernel_rfl) (by kernel_rfl) (by assumption) (fun w' hw' => Z30 rfl (by rfl) (by simp only [Z84, List.set_cons_zero, List.set_cons_succ]; rfl)) ?_
            have hlt2 := StkS.lt _ _ _ r2s
            have hbl : ∀ z ∈ bv'.ownBlock.toList, z < w6.heap.size := fun z hz => (h54 z (by simp at hz; simp [hz])).2
            have hFsl : ∀ z ∈ Fs, z < w6.heap.size := fun z hz => (h54 z (by simp [hz])).2
            have hFtl : ∀ z ∈ Ft5, z < w6.heap.size := fun z hz => (h54 z (by simp [hz])).2
            have hv3 : ∀ z ∈ v3.ownBlock.toList, z ∈ bv'.ownBlock.toList ∨ wa.heap.size ≤ z := fun z hm => by
              rcases k33 with h | h
              · rw [h] at hm; exact .inl hm
              · rw [h] at hm; simp at hm; exact .inr (by omega)
            have hyF : ∀ z ∈ Fy, ws.heap.size ≤ z ∧ z < wa.heap.size := fun z hz => ⟨y4 z (by simp [hz]), hlty z hz⟩
            have hFb : ∀ z ∈ v3.ownBlock.toList ++ (Fs ++ Fy), w3.heap.size ≤ z ∧ z ≠ w6.heap.size := fun z hz => by
              rcases List.mem_append.1 hz with hz | hz
              · rcases hv3 z hz with h | h
                · have := h54 z (by simp at h; simp [h]); omega
                · omega
              · rcases List.mem_append.1 hz with hz | hz
                · have := h54 z (by simp [hz]); omega
                · have := hyF z hz; omega
            refine WH_one 7 rfl (by kernel_rfl) (WO_store1 rfl rfl (by exact one_of_row k31) hod (by simp) fun we hoe oe => Z31 (at_held (Sd.trans (oe.chg.mono (by simp))) ?_))
            replace hoe : Blk we w6.heap.size [tv', v3] _ := hoe
            refine WH_done (by kernel_rfl) (by repeat (first | exact True.intro | refine And.intro rfl ?_)) ⟨v3, _, hoe, hrow3.chg oe.chg (fun z hz hm => by simp only [List.mem_singleton] at hm; exact (hFb z hz).2 hm), ?_, hFb, (es.chg _).trans (Sd.trans (oe.chg.mono (by simp)))⟩
            have n1 := List.nodup_append.1 h53
            have n2 := List.nodup_append.1 n1.2.1
            refine List.nodup_append.2 ⟨n1.1, List.nodup_append.2 ⟨nodup_own _, List.nodup_append.2 ⟨n2.2.1, (List.nodup_append.1 y3).2.1, fun a ha b hb e => ?_⟩, fun a ha b hb e => ?_⟩, fun a ha b hb e => ?_⟩
            · subst e; have := hFsl _ ha; have := hyF _ hb; omega
            · subst e
              rcases hv3 _ ha with h | h
              · exact hdd _ hb h
              · rcases List.mem_append.1 hb with hb | hb
                · have := hFsl _ hb; omega
                · have := hyF _ hb; omega
            · subst e
              have hal := hFtl _ ha
              rcases List.mem_append.1 hb with hb | hb
              · rcases hv3 _ hb with h | h
                · exact n1.2.2 _ ha _ (List.mem_append_left _ h) rfl
                · omega
              · rcases List.mem_append.1 hb with hb | hb
                · exact n1.2.2 _ ha _ (List.mem_append_right _ hb) rfl
                · have := hyF _ hb; omega
          · refine WO_call rfl (ownStmts_all l2 _ Fb' ws hb2s (by omega)) ?_
            rintro vy wa hY
            have ea := (id hY).2
            replace hY := (id hY)
            refine Z31 (at_held (ea.chg _) ?_)
            refine WH_one 1 rfl (by kernel_rfl) (Z10 rfl (hos.ext ea) rfl (Z31 (at_held (ea.chg _) ?_)))
            have sa := Ext.size_le ea
            obtain ⟨⟨Fq, ⟨ys, Fy, y1, y2, rfl⟩, y3, y4⟩, _⟩ := hY
            have hlty := StkS.lt _ _ _ y2
            have r1a := ownsRow_ext r1s ea
            have r2a := StkS.ext ea r2s
            refine WH_one 5 rfl (by kernel_rfl) (WO_appS (e := 58) (l2 := l2) rfl r1a rfl y1 y2 (Nat.zero_le _) (by omega) (by decide) fun v3 wd k31 k32 k33 => Z31 (at_held ((Ext.chg ea _).trans ((grown_chg k32).mono (by intro b hb; simp [hb]))) ?_))
            have hgd := grown_chg k32
            have hdd : ∀ z ∈ Fs ++ Fy, z ∉ bv'.ownBlock.toList := fun z hz hm => by
              rcases List.mem_append.1 hz with hz | hz
              · exact (List.nodup_append.1 (List.nodup_append.1 h53).2.1).2.2 z hm z hz rfl
              · have := y4 z (by simp [hz])
                have := (r1s.lt z (by simpa using hm)).2
                omega
            have hrow3 := row_app r2a y2 hgd hdd k31
            have Sd : Chg (w6.heap.size :: bv'.ownBlock.toList) ws wd := (Ext.chg ea _).trans (hgd.mono (by intro b hb; simp [hb]))
            have hob : w6.heap.size ∉ bv'.ownBlock.toList := fun hm => by have := (h54 _ (List.mem_append_right _ (List.mem_append_left _ hm))).2; omega
            have hod := ((Blk.ext hos ea)).chg hgd hob
            first | refine Z82 6 rfl (by kernel_rfl) (by kernel_rfl) (by kernel_rfl) (by assumption) (fun w' hw' => Z56 rfl) ?_ | refine Z82 6 rfl (by kernel_rfl) (by kernel_rfl) (by kernel_rfl) (by assumption) (fun w' hw' => Z63 rfl rfl) ?_ | refine Z82 6 rfl (by kernel_rfl) (by kernel_rfl) (by kernel_rfl) (by assumption) (fun w' hw' => Z64 rfl rfl) ?_ | refine Z82 6 rfl (by kernel_rfl) (by kernel_rfl) (by kernel_rfl) (by assumption) (fun w' hw' => Z75 rfl rfl (by omega)) ?_ | refine Z82 6 rfl (by kernel_rfl) (by kernel_rfl) (by kernel_rfl) (by assumption) (fun w' hw' => Z72 rfl) ?_ | refine Z82 6 rfl (by kernel_rfl) (by kernel_rfl) (by kernel_rfl) (by assumption) (fun w' hw' => Z69 rfl rfl rfl (by omega)) ?_ | refine Z82 6 rfl (by kernel_rfl) (by kernel_rfl) (by kernel_rfl) (by assumption) (fun w' hw' => Z30 rfl (by rfl) (by simp only [Z84, List.set_cons_zero, List.set_cons_succ]; rfl)) ?_
            have hlt2 := StkS.lt _ _ _ r2s
            have hbl : ∀ z ∈ bv'.ownBlock.toList, z < w6.heap.size := fun z hz => (h54 z (by simp at hz; simp [hz])).2
            have hFsl : ∀ z ∈ Fs, z < w6.heap.size := fun z hz => (h54 z (by simp [hz])).2
            have hFtl : ∀ z ∈ Ft5, z < w6.heap.size := fun z hz => (h54 z (by simp [hz])).2
            have hv3 : ∀ z ∈ v3.ownBlock.toList, z ∈ bv'.ownBlock.toList ∨ wa.heap.size ≤ z := fun z hm => by
              rcases k33 with h | h
              · rw [h] at hm; exact .inl hm
              · rw [h] at hm; simp at hm; exact .inr (by omega)
            have hyF : ∀ z ∈ Fy, ws.heap.size ≤ z ∧ z < wa.heap.size := fun z hz => ⟨y4 z (by simp [hz]), hlty z hz⟩
            have hFb : ∀ z ∈ v3.ownBlock.toList ++ (Fs ++ Fy), w3.heap.size ≤ z ∧ z ≠ w6.heap.size := fun z hz => by
              rcases List.mem_append.1 hz with hz | hz
              · rcases hv3 z hz with h | h
                · have := h54 z (by simp at h; simp [h]); omega
                · omega
              · rcases List.mem_append.1 hz with hz | hz
                · have := h54 z (by simp [hz]); omega
                · have := hyF z hz; omega
            refine WH_one 7 rfl (by kernel_rfl) (WO_store1 rfl rfl (by exact one_of_row k31) hod (by simp) fun we hoe oe => Z31 (at_held (Sd.trans (oe.chg.mono (by simp))) ?_))
            replace hoe : Blk we w6.heap.size [tv', v3] _ := hoe
            refine WH_done (by kernel_rfl) (by repeat (first | exact True.intro | refine And.intro rfl ?_)) ⟨v3, _, hoe, hrow3.chg oe.chg (fun z hz hm => by simp only [List.mem_singleton] at hm; exact (hFb z hz).2 hm), ?_, hFb, (es.chg _).trans (Sd.trans (oe.chg.mono (by simp)))⟩
            have n1 := List.nodup_append.1 h53
            have n2 := List.nodup_append.1 n1.2.1
            refine List.nodup_append.2 ⟨n1.1, List.nodup_append.2 ⟨nodup_own _, List.nodup_append.2 ⟨n2.2.1, (List.nodup_append.1 y3).2.1, fun a ha b hb e => ?_⟩, fun a ha b hb e => ?_⟩, fun a ha b hb e => ?_⟩
            · subst e; have := hFsl _ ha; have := hyF _ hb; omega
            · subst e
              rcases hv3 _ ha with h | h
              · exact hdd _ hb h
              · rcases List.mem_append.1 hb with hb | hb
                · have := hFsl _ hb; omega
                · have := hyF _ hb; omega
            · subst e
              have hal := hFtl _ ha
              rcases List.mem_append.1 hb with hb | hb
              · rcases hv3 _ hb with h | h
                · exact n1.2.2 _ ha _ (List.mem_append_left _ h) rfl
                · omega
              · rcases List.mem_append.1 hb with hb | hb
                · exact n1.2.2 _ ha _ (List.mem_append_right _ hb) rfl
                · have := hyF _ hb; omega
        · obtain ⟨v3, Fb8, h81, h82, h83, h84, c8⟩ := hR
          have on8 := h82.one
          have hbl : ∀ z ∈ bv'.ownBlock.toList, w3.heap.size ≤ z ∧ z < w6.heap.size := fun z hz => by have := h54 z (by simp at hz; simp [hz]); omega
          have hG : ∀ z ∈ w6.heap.size :: bv'.ownBlock.toList, w3.heap.size ≤ z := fun z hz => by
            rcases List.mem_cons.1 hz with rfl | hz
            · omega
            · exact (hbl z hz).1
          replace hr := hr.chg c8 (fun hm => by have := hG _ hm; omega)
          have h518 := (h51.ext e7).chg c8 (fun z hz hm => by
            rcases List.mem_cons.1 hm with h | hm
            · have := h54 z (by simp [hz]); omega
            · exact (List.nodup_append.1 h53).2.2 z hz z (List.mem_append_left _ hm) rfl)
          have e8 : Ext w w8 := c8.ext_of e0 (fun z hz => by have := hG z hz; omega)
          repeat (first | (refine Z0 ?_; first | refine Z1 rfl ?_ | (refine Z2 ?_; first | refine Z3 rfl rfl (by decide) ?_ | refine Z4 rfl rfl (by decide) ?_ | refine Z5 rfl rfl ?_) | (refine Z6 ?_; first | refine Z7 rfl rfl ?_ | refine Z8 rfl rfl ?_) | (refine Z9 ?_; first | refine Z10 rfl (by assumption) (by rfl) ?_ | refine Z11 rfl (by assumption) ?_) | (refine Z12 ?_; first | refine Z13 (Z14 rfl (by decide) rfl) ?_ | refine Z13 (Z15 rfl (by decide) rfl) ?_) | (refine Z16 ?_; first | refine Z17 rfl ?_ | refine Z18 rfl ?_) | (refine Z19 ?_; first | refine Z20 rfl rfl (by omega) ?_ | refine Z21 rfl rfl (by omega) ?_ | refine Z22 rfl rfl (by omega) ?_ | refine Z23 rfl rfl (by omega) (by omega) ?_ | refine Z24 rfl rfl (by omega) (by omega) (by omega) ?_ | refine Z13 (Z25 rfl rfl) ?_ | refine Z13 (Z26 rfl rfl) ?_) | (refine Z27 ?_; refine Z13 (Z28 rfl (Z53 ⟨by omega, by omega⟩)) ?_) | (refine Z29 ?_; refine Z13 (Z30 rfl (by rfl) (by simp only [Z84, List.set_cons_zero, List.set_cons_succ]; rfl)) ?_) | refine Z31 ?_) | (refine Z32 ?_; first | refine Z33 ?_ | refine Z34 ?_ | refine Z35 ?_ | refine Z36 ?_ | refine Z37 ?_ | refine Z38 rfl ?_ | refine Z39 ?_ | refine Z40 ?_ | refine Z41 ?_) | (refine Z42 ?_; first | refine Z43 ?_ | refine Z44 ?_ | refine Z45 ?_ | refine Z46 ?_ | refine Z47 ?_ | refine Z48 ?_ | refine Z49 rfl (by decide) ?_ | refine Z50 rfl (by decide) ?_))
          refine WO_loadSB rfl h81 rfl ?_
          refine WO_call rfl (ProgramValid_ret tv' _ tl (l.app l2) _ _ w8 h518.int h82.sts ) ?_
          rintro _ w9 ⟨rfl, e9⟩
          replace hr := hr.ext e9
          replace h81 := h81.ext e9
          replace h518 := h518.ext e9
          replace h82 := h82.ext e9
          replace e8 := e8.trans e9
          cases hv3 : validP tl (l.app l2)
          · have hnone : seqR tl l tl l2 = none := by unfold seqR; rw [if_neg (fun h => by rw [hv3] at h; cases h.2.2.2)]
            repeat (first | (refine Z0 ?_; first | refine Z1 rfl ?_ | (refine Z2 ?_; first | refine Z3 rfl rfl (by decide) ?_ | refine Z4 rfl rfl (by decide) ?_ | refine Z5 rfl rfl ?_) | (refine Z6 ?_; first | refine Z7 rfl rfl ?_ | refine Z8 rfl rfl ?_) | (refine Z9 ?_; first | refine Z10 rfl (by assumption) (by rfl) ?_ | refine Z11 rfl (by assumption) ?_) | (refine Z12 ?_; first | refine Z13 (Z14 rfl (by decide) rfl) ?_ | refine Z13 (Z15 rfl (by decide) rfl) ?_) | (refine Z16 ?_; first | refine Z17 rfl ?_ | refine Z18 rfl ?_) | (refine Z19 ?_; first | refine Z20 rfl rfl (by omega) ?_ | refine Z21 rfl rfl (by omega) ?_ | refine Z22 rfl rfl (by omega) ?_ | refine Z23 rfl rfl (by omega) (by omega) ?_ | refine Z24 rfl rfl (by omega) (by omega) (by omega) ?_ | refine Z13 (Z25 rfl rfl) ?_ | refine Z13 (Z26 rfl rfl) ?_) | (refine Z27 ?_; refine Z13 (Z28 rfl (Z53 ⟨by omega, by omega⟩)) ?_) | (refine Z29 ?_; refine Z13 (Z30 rfl (by rfl) (by simp only [Z84, List.set_cons_zero, List.set_cons_succ]; rfl)) ?_) | refine Z31 ?_) | (refine Z32 ?_; first | refine Z33 ?_ | refine Z34 ?_ | refine Z35 ?_ | refine Z36 ?_ | refine Z37 ?_ | refine Z38 rfl ?_ | refine Z39 ?_ | refine Z40 ?_ | refine Z41 ?_) | (refine Z42 ?_; first | refine Z43 ?_ | refine Z44 ?_ | refine Z45 ?_ | refine Z46 ?_ | refine Z47 ?_ | refine Z48 ?_ | refine Z49 rfl (by decide) ?_ | refine Z50 rfl (by decide) ?_))
            refine WO_storeS (k := 2) (vs := [.slice none 0 0, .slice none 0 0]) rfl rfl rfl (by intro v hv; simp at hv; subst hv; rfl) hr (by decide) fun wz hz oz => ?_
            replace hz : Blk wz w2.heap.size [.slice none 0 0, .slice none 0 0] _ := hz
            repeat (first | (refine Z0 ?_; first | refine Z1 rfl ?_ | (refine Z2 ?_; first | refine Z3 rfl rfl (by decide) ?_ | refine Z4 rfl rfl (by decide) ?_ | refine Z5 rfl rfl ?_) | (refine Z6 ?_; first | refine Z7 rfl rfl ?_ | refine Z8 rfl rfl ?_) | (refine Z9 ?_; first | refine Z10 rfl (by assumption) (by rfl) ?_ | refine Z11 rfl (by assumption) ?_) | (refine Z12 ?_; first | refine Z13 (Z14 rfl (by decide) rfl) ?_ | refine Z13 (Z15 rfl (by decide) rfl) ?_) | (refine Z16 ?_; first | refine Z17 rfl ?_ | refine Z18 rfl ?_) | (refine Z19 ?_; first | refine Z20 rfl rfl (by omega) ?_ | refine Z21 rfl rfl (by omega) ?_ | refine Z22 rfl rfl (by omega) ?_ | refine Z23 rfl rfl (by omega) (by omega) ?_ | refine Z24 rfl rfl (by omega) (by omega) (by omega) ?_ | refine Z13 (Z25 rfl rfl) ?_ | refine Z13 (Z26 rfl rfl) ?_) | (refine Z27 ?_; refine Z13 (Z28 rfl (Z53 ⟨by omega, by omega⟩)) ?_) | (refine Z29 ?_; refine Z13 (Z30 rfl (by rfl) (by simp only [Z84, List.set_cons_zero, List.set_cons_succ]; rfl)) ?_) | refine Z31 ?_) | (refine Z32 ?_; first | refine Z33 ?_ | refine Z34 ?_ | refine Z35 ?_ | refine Z36 ?_ | refine Z37 ?_ | refine Z38 rfl ?_ | refine Z39 ?_ | refine Z40 ?_ | refine Z41 ?_) | (refine Z42 ?_; first | refine Z43 ?_ | refine Z44 ?_ | refine Z45 ?_ | refine Z46 ?_ | refine Z47 ?_ | refine Z48 ?_ | refine Z49 rfl (by decide) ?_ | refine Z50 rfl (by decide) ?_))
            exact at_ret2G rfl (.cell inferInstance rfl hz rfl) (.tmp rfl) (by rw [hnone]; exact PrO.none_ (Ext.only e8 oz s1))
          · have hsome : seqR tl l tl l2 = some (l.app l2) := by unfold seqR; rw [if_pos ⟨hv, hv2, rfl, hv3⟩]
            repeat (first | (refine Z0 ?_; first | refine Z1 rfl ?_ | (refine Z2 ?_; first | refine Z3 rfl rfl (by decide) ?_ | refine Z4 rfl rfl (by decide) ?_ | refine Z5 rfl rfl ?_) | (refine Z6 ?_; first | refine Z7 rfl rfl ?_ | refine Z8 rfl rfl ?_) | (refine Z9 ?_; first | refine Z10 rfl (by assumption) (by rfl) ?_ | refine Z11 rfl (by assumption) ?_) | (refine Z12 ?_; first | refine Z13 (Z14 rfl (by decide) rfl) ?_ | refine Z13 (Z15 rfl (by decide) rfl) ?_) | (refine Z16 ?_; first | refine Z17 rfl ?_ | refine Z18 rfl ?_) | (refine Z19 ?_; first | refine Z20 rfl rfl (by omega) ?_ | refine Z21 rfl rfl (by omega) ?_ | refine Z22 rfl rfl (by omega) ?_ | refine Z23 rfl rfl (by omega) (by omega) ?_ | refine Z24 rfl rfl (by omega) (by omega) (by omega) ?_ | refine Z13 (Z25 rfl rfl) ?_ | refine Z13 (Z26 rfl rfl) ?_) | (refine Z27 ?_; refine Z13 (Z28 rfl (Z53 ⟨by omega, by omega⟩)) ?_) | (refine Z29 ?_; refine Z13 (Z30 rfl (by rfl) (by simp only [Z84, List.set_cons_zero, List.set_cons_succ]; rfl)) ?_) | refine Z31 ?_) | (refine Z32 ?_; first | refine Z33 ?_ | refine Z34 ?_ | refine Z35 ?_ | refine Z36 ?_ | refine Z37 ?_ | refine Z38 rfl ?_ | refine Z39 ?_ | refine Z40 ?_ | refine Z41 ?_) | (refine Z42 ?_; first | refine Z43 ?_ | refine Z44 ?_ | refine Z45 ?_ | refine Z46 ?_ | refine Z47 ?_ | refine Z48 ?_ | refine Z49 rfl (by decide) ?_ | refine Z50 rfl (by decide) ?_))
            refine WO_loadSB rfl h81 rfl ?_
            refine WO_storeS (k := 2) (vs := [tv', v3]) rfl rfl rfl (by simp; exact ⟨on1, on8⟩) hr (by decide) fun w12 hr12 o12 => ?_
            replace hr12 : Blk w12 w2.heap.size [tv', v3] _ := hr12
            repeat (first | (refine Z0 ?_; first | refine Z1 rfl ?_ | (refine Z2 ?_; first | refine Z3 rfl rfl (by decide) ?_ | refine Z4 rfl rfl (by decide) ?_ | refine Z5 rfl rfl ?_) | (refine Z6 ?_; first | refine Z7 rfl rfl ?_ | refine Z8 rfl rfl ?_) | (refine Z9 ?_; first | refine Z10 rfl (by assumption) (by rfl) ?_ | refine Z11 rfl (by assumption) ?_) | (refine Z12 ?_; first | refine Z13 (Z14 rfl (by decide) rfl) ?_ | refine Z13 (Z15 rfl (by decide) rfl) ?_) | (refine Z16 ?_; first | refine Z17 rfl ?_ | refine Z18 rfl ?_) | (refine Z19 ?_; first | refine Z20 rfl rfl (by omega) ?_ | refine Z21 rfl rfl (by omega) ?_ | refine Z22 rfl rfl (by omega) ?_ | refine Z23 rfl rfl (by omega) (by omega) ?_ | refine Z24 rfl rfl (by omega) (by omega) (by omega) ?_ | refine Z13 (Z25 rfl rfl) ?_ | refine Z13 (Z26 rfl rfl) ?_) | (refine Z27 ?_; refine Z13 (Z28 rfl (Z53 ⟨by omega, by omega⟩)) ?_) | (refine Z29 ?_; refine Z13 (Z30 rfl (by rfl) (by simp only [Z84, List.set_cons_zero, List.set_cons_succ]; rfl)) ?_) | refine Z31 ?_) | (refine Z32 ?_; first | refine Z33 ?_ | refine Z34 ?_ | refine Z35 ?_ | refine Z36 ?_ | refine Z37 ?_ | refine Z38 rfl ?_ | refine Z39 ?_ | refine Z40 ?_ | refine Z41 ?_) | (refine Z42 ?_; first | refine Z43 ?_ | refine Z44 ?_ | refine Z45 ?_ | refine Z46 ?_ | refine Z47 ?_ | refine Z48 ?_ | refine Z49 rfl (by decide) ?_ | refine Z50 rfl (by decide) ?_))
            refine at_ret2G rfl (.cell inferInstance rfl hr12 rfl) (.tmp rfl) ?_
            rw [hsome]
            exact PrO.some_ (h518.chg o12.chg (fun z hz hm => by simp at hm; subst hm; have := h54 _ (List.mem_append_left _ hz); omega)) (h82.chg o12.chg (fun z hz hm => by simp only [List.mem_singleton] at hm; subst hm; have := h84 _ hz; omega)) h83 (fun z hz => by
              rcases List.mem_append.1 hz with hz | hz
              · have := h54 z (by simp [hz]); omega
              · have := h84 z hz; omega) (e8.only o12 (by omega))
      · rw [decide_eq_false (hty)]
        have hnone := seqR_none (tl := tl) (tl2 := tl2) (l := l) (l2 := l2) (fun h => hty h.2.2)
        repeat (first | (refine Z0 ?_; first | refine Z1 rfl ?_ | (refine Z2 ?_; first | refine Z3 rfl rfl (by decide) ?_ | refine Z4 rfl rfl (by decide) ?_ | refine Z5 rfl rfl ?_) | (refine Z6 ?_; first | refine Z7 rfl rfl ?_ | refine Z8 rfl rfl ?_) | (refine Z9 ?_; first | refine Z10 rfl (by assumption) (by rfl) ?_ | refine Z11 rfl (by assumption) ?_) | (refine Z12 ?_; first | refine Z13 (Z14 rfl (by decide) rfl) ?_ | refine Z13 (Z15 rfl (by decide) rfl) ?_) | (refine Z16 ?_; first | refine Z17 rfl ?_ | refine Z18 rfl ?_) | (refine Z19 ?_; first | refine Z20 rfl rfl (by omega) ?_ | refine Z21 rfl rfl (by omega) ?_ | refine Z22 rfl rfl (by omega) ?_ | refine Z23 rfl rfl (by omega) (by omega) ?_ | refine Z24 rfl rfl (by omega) (by omega) (by omega) ?_ | refine Z13 (Z25 rfl rfl) ?_ | refine Z13 (Z26 rfl rfl) ?_) | (refine Z27 ?_; refine Z13 (Z28 rfl (Z53 ⟨by omega, by omega⟩)) ?_) | (refine Z29 ?_; refine Z13 (Z30 rfl (by rfl) (by simp only [Z84, List.set_cons_zero, List.set_cons_succ]; rfl)) ?_) | refine Z31 ?_) | (refine Z32 ?_; first | refine Z33 ?_ | refine Z34 ?_ | refine Z35 ?_ | refine Z36 ?_ | refine Z37 ?_ | refine Z38 rfl ?_ | refine Z39 ?_ | refine Z40 ?_ | refine Z41 ?_) | (refine Z42 ?_; first | refine Z43 ?_ | refine Z44 ?_ | refine Z45 ?_ | refine Z46 ?_ | refine Z47 ?_ | refine Z48 ?_ | refine Z49 rfl (by decide) ?_ | refine Z50 rfl (by decide) ?_))
        refine WO_storeS (k := 2) (vs := [.slice none 0 0, .slice none 0 0]) rfl rfl rfl (by intro v hv; simp at hv; subst hv; rfl) hr (by decide) fun wz hz oz => ?_
        replace hz : Blk wz w2.heap.size [.slice none 0 0, .slice none 0 0] _ := hz
        repeat (first | (refine Z0 ?_; first | refine Z1 rfl ?_ | (refine Z2 ?_; first | refine Z3 rfl rfl (by decide) ?_ | refine Z4 rfl rfl (by decide) ?_ | refine Z5 rfl rfl ?_) | (refine Z6 ?_; first | refine Z7 rfl rfl ?_ | refine Z8 rfl rfl ?_) | (refine Z9 ?_; first | refine Z10 rfl (by assumption) (by rfl) ?_ | refine Z11 rfl (by assumption) ?_) | (refine Z12 ?_; first | refine Z13 (Z14 rfl (by decide) rfl) ?_ | refine Z13 (Z15 rfl (by decide) rfl) ?_) | (refine Z16 ?_; first | refine Z17 rfl ?_ | refine Z18 rfl ?_) | (refine Z19 ?_; first | refine Z20 rfl rfl (by omega) ?_ | refine Z21 rfl rfl (by omega) ?_ | refine Z22 rfl rfl (by omega) ?_ | refine Z23 rfl rfl (by omega) (by omega) ?_ | refine Z24 rfl rfl (by omega) (by omega) (by omega) ?_ | refine Z13 (Z25 rfl rfl) ?_ | refine Z13 (Z26 rfl rfl) ?_) | (refine Z27 ?_; refine Z13 (Z28 rfl (Z53 ⟨by omega, by omega⟩)) ?_) | (refine Z29 ?_; refine Z13 (Z30 rfl (by rfl) (by simp only [Z84, List.set_cons_zero, List.set_cons_succ]; rfl)) ?_) | refine Z31 ?_) | (refine Z32 ?_; first | refine Z33 ?_ | refine Z34 ?_ | refine Z35 ?_ | refine Z36 ?_ | refine Z37 ?_ | refine Z38 rfl ?_ | refine Z39 ?_ | refine Z40 ?_ | refine Z41 ?_) | (refine Z42 ?_; first | refine Z43 ?_ | refine Z44 ?_ | refine Z45 ?_ | refine Z46 ?_ | refine Z47 ?_ | refine Z48 ?_ | refine Z49 rfl (by decide) ?_ | refine Z50 rfl (by decide) ?_))
        exact at_ret2G rfl (.cell inferInstance rfl hz rfl) (.tmp rfl) (by rw [hnone]; exact PrO.none_ (Ext.only e0 oz s1))
theorem sSequenceOf_ret (tv bv tv2 bv2 : Value) (tl tl2 : List Int) (l l2 : Ss) (F Fb F' Fb' : List Nat) (w : World) (ht : IntF w tv tl F) (hb : StS w bv l Fb) (ht2 : IntF w tv2 tl2 F') (hb2 : StS w bv2 l2 Fb') (hn : tl.length ≤ 1048576) (hn2 : cntL l ≤ 1048576) (hn3 : cntL l2 ≤ 1048576) :
    Ret Try.prog 14 [prV tv bv, prV tv2 bv2] w (PrO 58 tl (seqR tl l tl2 l2) w) := by
  obtain ⟨A, c, rfl, hl, hlc⟩ := hb.slice
  obtain ⟨A2, c2, rfl, hl2, hlc2⟩ := hb2.slice
  have htone : tv.oneCell' = true := by obtain ⟨_, _, rfl, _⟩ := ht; rfl
  have htone2 : tv2.oneCell' = true := by obtain ⟨_, _, rfl, _⟩ := ht2; rfl
  unfold maxI at hl hl2
  have hcl := len_le_cntL l
  refine enter Try.func14 rfl Try.ntmps14 rfl rfl ?_
  refine Z43 (Z44 (WO_box rfl fun w1 hs e1 z1 => WO_box rfl fun w2 hu e2 z2 => WO_alloc fun w3 hr e3 z3 => ?_))
  replace hs : Blk w3 w.heap.size [tv, .slice A l.len c] _ := (Blk.ext hs e2).ext e3
  replace hu : Blk w3 w1.heap.size [tv2, .slice A2 l2.len c2] _ := Blk.ext hu e3
  replace hr : Blk w3 w2.heap.size [.slice none 0 0, .slice none 0 0] _ := hr
  have e0 := (e1.trans e2).trans e3
  have s1' := e1.size_le
  have s2' := e2.size_le
  have s1 : w.heap.size ≤ w2.heap.size := by omega
  have s2 := hr.lt
  have s3 : w3.heap.size = w2.heap.size + 1 := z3
  have hlc2' := len_le_cntL l2
  repeat (first | (refine Z0 ?_; first | refine Z1 rfl ?_ | (refine Z2 ?_; first | refine Z3 rfl rfl (by decide) ?_ | refine Z4 rfl rfl (by decide) ?_ | refine Z5 rfl rfl ?_) | (refine Z6 ?_; first | refine Z7 rfl rfl ?_ | refine Z8 rfl rfl ?_) | (refine Z9 ?_; first | refine Z10 rfl (by assumption) (by rfl) ?_ | refine Z11 rfl (by assumption) ?_) | (refine Z12 ?_; first | refine Z13 (Z14 rfl (by decide) rfl) ?_ | refine Z13 (Z15 rfl (by decide) rfl) ?_) | (refine Z16 ?_; first | refine Z17 rfl ?_ | refine Z18 rfl ?_) | (refine Z19 ?_; first | refine Z20 rfl rfl (by omega) ?_ | refine Z21 rfl rfl (by omega) ?_ | refine Z22 rfl rfl (by omega) ?_ | refine Z23 rfl rfl (by omega) (by omega) ?_ | refine Z24 rfl rfl (by omega) (by omega) (by omega) ?_ | refine Z13 (Z25 rfl rfl) ?_ | refine Z13 (Z26 rfl rfl) ?_) | (refine Z27 ?_; refine Z13 (Z28 rfl (Z53 ⟨by omega, by omega⟩)) ?_) | (refine Z29 ?_; refine Z13 (Z30 rfl (by rfl) (by simp only [Z84, List.set_cons_zero, List.set_cons_succ]; rfl)) ?_) | refine Z31 ?_) | (refine Z32 ?_; first | refine Z33 ?_ | refine Z34 ?_ | refine Z35 ?_ | refine Z36 ?_ | refine Z37 ?_ | refine Z38 rfl ?_ | refine Z39 ?_ | refine Z40 ?_ | refine Z41 ?_) | (refine Z42 ?_; first | refine Z43 ?_ | refine Z44 ?_ | refine Z45 ?_ | refine Z46 ?_ | refine Z47 ?_ | refine Z48 ?_ | refine Z49 rfl (by decide) ?_ | refine Z50 rfl (by decide) ?_))
  refine WO_loadSB rfl hs rfl ?_
  refine WO_call rfl (sProgramValid_ret tv _ tl l F Fb w3 (ht.ext e0) (StS.ext hb e0) (by omega)) ?_
  rintro _ w4 ⟨rfl, e4⟩
  replace hs := hs.ext e4
  replace hu := hu.ext e4
  replace hr := hr.ext e4
  replace e0 := e0.trans e4
  cases hv : validP tl l
  · have hnone := seqR_none (tl := tl) (tl2 := tl2) (l := l) (l2 := l2) (by simp [hv])
    repeat (first | (refine Z0 ?_; first | refine Z1 rfl ?_ | (refine Z2 ?_; first | refine Z3 rfl rfl (by decide) ?_ | refine Z4 rfl rfl (by decide) ?_ | refine Z5 rfl rfl ?_) | (refine Z6 ?_; first | refine Z7 rfl rfl ?_ | refine Z8 rfl rfl ?_) | (refine Z9 ?_; first | refine Z10 rfl (by assumption) (by rfl) ?_ | refine Z11 rfl (by assumption) ?_) | (refine Z12 ?_; first | refine Z13 (Z14 rfl (by decide) rfl) ?_ | refine Z13 (Z15 rfl (by decide) rfl) ?_) | (refine Z16 ?_; first | refine Z17 rfl ?_ | refine Z18 rfl ?_) | (refine Z19 ?_; first | refine Z20 rfl rfl (by omega) ?_ | refine Z21 rfl rfl (by omega) ?_ | refine Z22 rfl rfl (by omega) ?_ | refine Z23 rfl rfl (by omega) (by omega) ?_ | refine Z24 rfl rfl (by omega) (by omega) (by omega) ?_ | refine Z13 (Z25 rfl rfl) ?_ | refine Z13 (Z26 rfl rfl) ?_) | (refine Z27 ?_; refine Z13 (Z28 rfl (Z53 ⟨by omega, by omega⟩)) ?_) | (refine Z29 ?_; refine Z13 (Z30 rfl (by rfl) (by simp only [Z84, List.set_cons_zero, List.set_cons_succ]; rfl)) ?_) | refine Z31 ?_) | (refine Z32 ?_; first | refine Z33 ?_ | refine Z34 ?_ | refine Z35 ?_ | refine Z36 ?_ | refine Z37 ?_ | refine Z38 rfl ?_ | refine Z39 ?_ | refine Z40 ?_ | refine Z41 ?_) | (refine Z42 ?_; first | refine Z43 ?_ | refine Z44 ?_ | refine Z45 ?_ | refine Z46 ?_ | refine Z47 ?_ | refine Z48 ?_ | refine Z49 rfl (by decide) ?_ | refine Z50 rfl (by decide) ?_))
    refine WO_storeS (k := 2) (vs := [.slice none 0 0, .slice none 0 0]) rfl rfl rfl (by intro v hv; simp at hv; subst hv; rfl) hr (by decide) fun wz hz oz => ?_
    replace hz : Blk wz w2.heap.size [.slice none 0 0, .slice none 0 0] _ := hz
    repeat (first | (refine Z0 ?_; first | refine Z1 rfl ?_ | (refine Z2 ?_; first | refine Z3 rfl rfl (by decide) ?_ | refine Z4 rfl rfl (by decide) ?_ | refine Z5 rfl rfl ?_) | (refine Z6 ?_; first | refine Z7 rfl rfl ?_ | refine Z8 rfl rfl ?_) | (refine Z9 ?_; first | refine Z10 rfl (by assumption) (by rfl) ?_ | refine Z11 rfl (by assumption) ?_) | (refine Z12 ?_; first | refine Z13 (Z14 rfl (by decide) rfl) ?_ | refine Z13 (Z15 rfl (by decide) rfl) ?_) | (refine Z16 ?_; first | refine Z17 rfl ?_ | refine Z18 rfl ?_) | (refine Z19 ?_; first | refine Z20 rfl rfl (by omega) ?_ | refine Z21 rfl rfl (by omega) ?_ | refine Z22 rfl rfl (by omega) ?_ | refine Z23 rfl rfl (by omega) (by omega) ?_ | refine Z24 rfl rfl (by omega) (by omega) (by omega) ?_ | refine Z13 (Z25 rfl rfl) ?_ | refine Z13 (Z26 rfl rfl) ?_) | (refine Z27 ?_; refine Z13 (Z28 rfl (Z53 ⟨by omega, by omega⟩)) ?_) | (refine Z29 ?_; refine Z13 (Z30 rfl (by rfl) (by simp only [Z84, List.set_cons_zero, List.set_cons_succ]; rfl)) ?_) | refine Z31 ?_) | (refine Z32 ?_; first | refine Z33 ?_ | refine Z34 ?_ | refine Z35 ?_ | refine Z36 ?_ | refine Z37 ?_ | refine Z38 rfl ?_ | refine Z39 ?_ | refine Z40 ?_ | refine Z41 ?_) | (refine Z42 ?_; first | refine Z43 ?_ | refine Z44 ?_ | refine Z45 ?_ | refine Z46 ?_ | refine Z47 ?_ | refine Z48 ?_ | refine Z49 rfl (by decide) ?_ | refine Z50 rfl (by decide) ?_))
    exact at_ret2G rfl (.cell inferInstance rfl hz rfl) (.tmp rfl) (by rw [hnone]; exact PrO.none_ (Ext.only e0 oz s1))
  · repeat (first | (refine Z0 ?_; first | refine Z1 rfl ?_ | (refine Z2 ?_; first | refine Z3 rfl rfl (by decide) ?_ | refine Z4 rfl rfl (by decide) ?_ | refine Z5 rfl rfl ?_) | (refine Z6 ?_; first | refine Z7 rfl rfl ?_ | refine Z8 rfl rfl ?_) | (refine Z9 ?_; first | refine Z10 rfl (by assumption) (by rfl) ?_ | refine Z11 rfl (by assumption) ?_) | (refine Z12 ?_; first | refine Z13 (Z14 rfl (by decide) rfl) ?_ | refine Z13 (Z15 rfl (by decide) rfl) ?_) | (refine Z16 ?_; first | refine Z17 rfl ?_ | refine Z18 rfl ?_) | (refine Z19 ?_; first | refine Z20 rfl rfl (by omega) ?_ | refine Z21 rfl rfl (by omega) ?_ | refine Z22 rfl rfl (by omega) ?_ | refine Z23 rfl rfl (by omega) (by omega) ?_ | refine Z24 rfl rfl (by omega) (by omega) (by omega) ?_ | refine Z13 (Z25 rfl rfl) ?_ | refine Z13 (Z26 rfl rfl) ?_) | (refine Z27 ?_; refine Z13 (Z28 rfl (Z53 ⟨by omega, by omega⟩)) ?_) | (refine Z29 ?_; refine Z13 (Z30 rfl (by rfl) (by simp only [Z84, List.set_cons_zero, List.set_cons_succ]; rfl)) ?_) | refine Z31 ?_) | (refine Z32 ?_; first | refine Z33 ?_ | refine Z34 ?_ | refine Z35 ?_ | refine Z36 ?_ | refine Z37 ?_ | refine Z38 rfl ?_ | refine Z39 ?_ | refine Z40 ?_ | refine Z41 ?_) | (refine Z42 ?_; first | refine Z43 ?_ | refine Z44 ?_ | refine Z45 ?_ | refine Z46 ?_ | refine Z47 ?_ | refine Z48 ?_ | refine Z49 rfl (by decide) ?_ | refine Z50 rfl (by decide) ?_))
    refine WO_loadSB rfl hu rfl ?_
    repeat (first | (refine Z0 ?_; first | refine Z1 rfl ?_ | (refine Z2 ?_; first | refine Z3 rfl rfl (by decide) ?_ | refine Z4 rfl rfl (by decide) ?_ | refine Z5 rfl rfl ?_) | (refine Z6 ?_; first | refine Z7 rfl rfl ?_ | refine Z8 rfl rfl ?_) | (refine Z9 ?_; first | refine Z10 rfl (by assumption) (by rfl) ?_ | refine Z11 rfl (by assumption) ?_) | (refine Z12 ?_; first | refine Z13 (Z14 rfl (by decide) rfl) ?_ | refine Z13 (Z15 rfl (by decide) rfl) ?_) | (refine Z16 ?_; first | refine Z17 rfl ?_ | refine Z18 rfl ?_) | (refine Z19 ?_; first | refine Z20 rfl rfl (by omega) ?_ | refine Z21 rfl rfl (by omega) ?_ | refine Z22 rfl rfl (by omega) ?_ | refine Z23 rfl rfl (by omega) (by omega) ?_ | refine Z24 rfl rfl (by omega) (by omega) (by omega) ?_ | refine Z13 (Z25 rfl rfl) ?_ | refine Z13 (Z26 rfl rfl) ?_) | (refine Z27 ?_; refine Z13 (Z28 rfl (Z53 ⟨by omega, by omega⟩)) ?_) | (refine Z29 ?_; refine Z13 (Z30 rfl (by rfl) (by simp only [Z84, List.set_cons_zero, List.set_cons_succ]; rfl)) ?_) | refine Z31 ?_) | (refine Z32 ?_; first | refine Z33 ?_ | refine Z34 ?_ | refine Z35 ?_ | refine Z36 ?_ | refine Z37 ?_ | refine Z38 rfl ?_ | refine Z39 ?_ | refine Z40 ?_ | refine Z41 ?_) | (refine Z42 ?_; first | refine Z43 ?_ | refine Z44 ?_ | refine Z45 ?_ | refine Z46 ?_ | refine Z47 ?_ | refine Z48 ?_ | refine Z49 rfl (by decide) ?_ | refine Z50 rfl (by decide) ?_))
    refine WO_call rfl (sProgramValid_ret tv2 _ tl2 l2 F' Fb' w4 (ht2.ext e0) (StS.ext hb2 e0) (by omega)) ?_
    rintro _ w5 ⟨rfl, e5⟩
    replace hs := hs.ext e5
    replace hu := hu.ext e5
    replace hr := hr.ext e5
    replace e0 := e0.trans e5
    cases hv2 : validP tl2 l2
    · have hnone := seqR_none (tl := tl) (tl2 := tl2) (l := l) (l2 := l2) (by simp [hv2])
      repeat (first | (refine Z0 ?_; first | refine Z1 rfl ?_ | (refine Z2 ?_; first | refine Z3 rfl rfl (by decide) ?_ | refine Z4 rfl rfl (by decide) ?_ | refine Z5 rfl rfl ?_) | (refine Z6 ?_; first | refine Z7 rfl rfl ?_ | refine Z8 rfl rfl ?_) | (refine Z9 ?_; first | refine Z10 rfl (by assumption) (by rfl) ?_ | refine Z11 rfl (by assumption) ?_) | (refine Z12 ?_; first | refine Z13 (Z14 rfl (by decide) rfl) ?_ | refine Z13 (Z15 rfl (by decide) rfl) ?_) | (refine Z16 ?_; first | refine Z17 rfl ?_ | refine Z18 rfl ?_) | (refine Z19 ?_; first | refine Z20 rfl rfl (by omega) ?_ | refine Z21 rfl rfl (by omega) ?_ | refine Z22 rfl rfl (by omega) ?_ | refine Z23 rfl rfl (by omega) (by omega) ?_ | refine Z24 rfl rfl (by omega) (by omega) (by omega) ?_ | refine Z13 (Z25 rfl rfl) ?_ | refine Z13 (Z26 rfl rfl) ?_) | (refine Z27 ?_; refine Z13 (Z28 rfl (Z53 ⟨by omega, by omega⟩)) ?_) | (refine Z29 ?_; refine Z13 (Z30 rfl (by rfl) (by simp only [Z84, List.set_cons_zero, List.set_cons_succ]; rfl)) ?_) | refine Z31 ?_) | (refine Z32 ?_; first | refine Z33 ?_ | refine Z34 ?_ | refine Z35 ?_ | refine Z36 ?_ | refine Z37 ?_ | refine Z38 rfl ?_ | refine Z39 ?_ | refine Z40 ?_ | refine Z41 ?_) | (refine Z42 ?_; first | refine Z43 ?_ | refine Z44 ?_ | refine Z45 ?_ | refine Z46 ?_ | refine Z47 ?_ | refine Z48 ?_ | refine Z49 rfl (by decide) ?_ | refine Z50 rfl (by decide) ?_))
      refine WO_storeS (k := 2) (vs := [.slice none 0 0, .slice none 0 0]) rfl rfl rfl (by intro v hv; simp at hv; subst hv; rfl) hr (by decide) fun wz hz oz => ?_
      replace hz : Blk wz w2.heap.size [.slice none 0 0, .slice none 0 0] _ := hz
      repeat (first | (refine Z0 ?_; first | refine Z1 rfl ?_ | (refine Z2 ?_; first | refine Z3 rfl rfl (by decide) ?_ | refine Z4 rfl rfl (by decide) ?_ | refine Z5 rfl rfl ?_) | (refine Z6 ?_; first | refine Z7 rfl rfl ?_ | refine Z8 rfl rfl ?_) | (refine Z9 ?_; first | refine Z10 rfl (by assumption) (by rfl) ?_ | refine Z11 rfl (by assumption) ?_) | (refine Z12 ?_; first | refine Z13 (Z14 rfl (by decide) rfl) ?_ | refine Z13 (Z15 rfl (by decide) rfl) ?_) | (refine Z16 ?_; first | refine Z17 rfl ?_ | refine Z18 rfl ?_) | (refine Z19 ?_; first | refine Z20 rfl rfl (by omega) ?_ | refine Z21 rfl rfl (by omega) ?_ | refine Z22 rfl rfl (by omega) ?_ | refine Z23 rfl rfl (by omega) (by omega) ?_ | refine Z24 rfl rfl (by omega) (by omega) (by omega) ?_ | refine Z13 (Z25 rfl rfl) ?_ | refine Z13 (Z26 rfl rfl) ?_) | (refine Z27 ?_; refine Z13 (Z28 rfl (Z53 ⟨by omega, by omega⟩)) ?_) | (refine Z29 ?_; refine Z13 (Z30 rfl (by rfl) (by simp only [Z84, List.set_cons_zero, List.set_cons_succ]; rfl)) ?_) | refine Z31 ?_) | (refine Z32 ?_; first | refine Z33 ?_ | refine Z34 ?_ | refine Z35 ?_ | refine Z36 ?_ | refine Z37 ?_ | refine Z38 rfl ?_ | refine Z39 ?_ | refine Z40 ?_ | refine Z41 ?_) | (refine Z42 ?_; first | refine Z43 ?_ | refine Z44 ?_ | refine Z45 ?_ | refine Z46 ?_ | refine Z47 ?_ | refine Z48 ?_ | refine Z49 rfl (by decide) ?_ | refine Z50 rfl (by decide) ?_))
      exact at_ret2G rfl (.cell inferInstance rfl hz rfl) (.tmp rfl) (by rw [hnone]; exact PrO.none_ (Ext.only e0 oz s1))
    · repeat (first | (refine Z0 ?_; first | refine Z1 rfl ?_ | (refine Z2 ?_; first | refine Z3 rfl rfl (by decide) ?_ | refine Z4 rfl rfl (by decide) ?_ | refine Z5 rfl rfl ?_) | (refine Z6 ?_; first | refine Z7 rfl rfl ?_ | refine Z8 rfl rfl ?_) | (refine Z9 ?_; first | refine Z10 rfl (by assumption) (by rfl) ?_ | refine Z11 rfl (by assumption) ?_) | (refine Z12 ?_; first | refine Z13 (Z14 rfl (by decide) rfl) ?_ | refine Z13 (Z15 rfl (by decide) rfl) ?_) | (refine Z16 ?_; first | refine Z17 rfl ?_ | refine Z18 rfl ?_) | (refine Z19 ?_; first | refine Z20 rfl rfl (by omega) ?_ | refine Z21 rfl rfl (by omega) ?_ | refine Z22 rfl rfl (by omega) ?_ | refine Z23 rfl rfl (by omega) (by omega) ?_ | refine Z24 rfl rfl (by omega) (by omega) (by omega) ?_ | refine Z13 (Z25 rfl rfl) ?_ | refine Z13 (Z26 rfl rfl) ?_) | (refine Z27 ?_; refine Z13 (Z28 rfl (Z53 ⟨by omega, by omega⟩)) ?_) | (refine Z29 ?_; refine Z13 (Z30 rfl (by rfl) (by simp only [Z84, List.set_cons_zero, List.set_cons_succ]; rfl)) ?_) | refine Z31 ?_) | (refine Z32 ?_; first | refine Z33 ?_ | refine Z34 ?_ | refine Z35 ?_ | refine Z36 ?_ | refine Z37 ?_ | refine Z38 rfl ?_ | refine Z39 ?_ | refine Z40 ?_ | refine Z41 ?_) | (refine Z42 ?_; first | refine Z43 ?_ | refine Z44 ?_ | refine Z45 ?_ | refine Z46 ?_ | refine Z47 ?_ | refine Z48 ?_ | refine Z49 rfl (by decide) ?_ | refine Z50 rfl (by decide) ?_))
      refine Z13 (Z30 (cs := [tv, .slice none 0 0]) rfl (by simp [partsOk, htone]) rfl) ?_
      repeat (first | (refine Z0 ?_; first | refine Z1 rfl ?_ | (refine Z2 ?_; first | refine Z3 rfl rfl (by decide) ?_ | refine Z4 rfl rfl (by decide) ?_ | refine Z5 rfl rfl ?_) | (refine Z6 ?_; first | refine Z7 rfl rfl ?_ | refine Z8 rfl rfl ?_) | (refine Z9 ?_; first | refine Z10 rfl (by assumption) (by rfl) ?_ | refine Z11 rfl (by assumption) ?_) | (refine Z12 ?_; first | refine Z13 (Z14 rfl (by decide) rfl) ?_ | refine Z13 (Z15 rfl (by decide) rfl) ?_) | (refine Z16 ?_; first | refine Z17 rfl ?_ | refine Z18 rfl ?_) | (refine Z19 ?_; first | refine Z20 rfl rfl (by omega) ?_ | refine Z21 rfl rfl (by omega) ?_ | refine Z22 rfl rfl (by omega) ?_ | refine Z23 rfl rfl (by omega) (by omega) ?_ | refine Z24 rfl rfl (by omega) (by omega) (by omega) ?_ | refine Z13 (Z25 rfl rfl) ?_ | refine Z13 (Z26 rfl rfl) ?_) | (refine Z27 ?_; refine Z13 (Z28 rfl (Z53 ⟨by omega, by omega⟩)) ?_) | (refine Z29 ?_; refine Z13 (Z30 rfl (by rfl) (by simp only [Z84, List.set_cons_zero, List.set_cons_succ]; rfl)) ?_) | refine Z31 ?_) | (refine Z32 ?_; first | refine Z33 ?_ | refine Z34 ?_ | refine Z35 ?_ | refine Z36 ?_ | refine Z37 ?_ | refine Z38 rfl ?_ | refine Z39 ?_ | refine Z40 ?_ | refine Z41 ?_) | (refine Z42 ?_; first | refine Z43 ?_ | refine Z44 ?_ | refine Z45 ?_ | refine Z46 ?_ | refine Z47 ?_ | refine Z48 ?_ | refine Z49 rfl (by decide) ?_ | refine Z50 rfl (by decide) ?_))
      refine Z13 (Z30 (cs := [tv2, .slice none 0 0]) rfl (by simp [partsOk, htone2]) rfl) ?_
      repeat (first | (refine Z0 ?_; first | refine Z1 rfl ?_ | (refine Z2 ?_; first | refine Z3 rfl rfl (by decide) ?_ | refine Z4 rfl rfl (by decide) ?_ | refine Z5 rfl rfl ?_) | (refine Z6 ?_; first | refine Z7 rfl rfl ?_ | refine Z8 rfl rfl ?_) | (refine Z9 ?_; first | refine Z10 rfl (by assumption) (by rfl) ?_ | refine Z11 rfl (by assumption) ?_) | (refine Z12 ?_; first | refine Z13 (Z14 rfl (by decide) rfl) ?_ | refine Z13 (Z15 rfl (by decide) rfl) ?_) | (refine Z16 ?_; first | refine Z17 rfl ?_ | refine Z18 rfl ?_) | (refine Z19 ?_; first | refine Z20 rfl rfl (by omega) ?_ | refine Z21 rfl rfl (by omega) ?_ | refine Z22 rfl rfl (by omega) ?_ | refine Z23 rfl rfl (by omega) (by omega) ?_ | refine Z24 rfl rfl (by omega) (by omega) (by omega) ?_ | refine Z13 (Z25 rfl rfl) ?_ | refine Z13 (Z26 rfl rfl) ?_) | (refine Z27 ?_; refine Z13 (Z28 rfl (Z53 ⟨by omega, by omega⟩)) ?_) | (refine Z29 ?_; refine Z13 (Z30 rfl (by rfl) (by simp only [Z84, List.set_cons_zero, List.set_cons_succ]; rfl)) ?_) | refine Z31 ?_) | (refine Z32 ?_; first | refine Z33 ?_ | refine Z34 ?_ | refine Z35 ?_ | refine Z36 ?_ | refine Z37 ?_ | refine Z38 rfl ?_ | refine Z39 ?_ | refine Z40 ?_ | refine Z41 ?_) | (refine Z42 ?_; first | refine Z43 ?_ | refine Z44 ?_ | refine Z45 ?_ | refine Z46 ?_ | refine Z47 ?_ | refine Z48 ?_ | refine Z49 rfl (by decide) ?_ | refine Z50 rfl (by decide) ?_))
      refine WO_call rfl (sProgramSame_ret tv (.slice none 0 0) tv2 (.slice none 0 0) tl tl2 .nil .nil F [] F' [] w5 (ht.ext e0) (nil_sts _) (ht2.ext e0) (nil_sts _)) ?_
      rintro _ w5' ⟨rfl, e6⟩
      replace hs := hs.ext e6
      replace hu := hu.ext e6
      replace hr := hr.ext e6
      replace e0 := e0.trans e6
      by_cases hty : tl = tl2
      · subst hty
        rw [(show decide (tl = tl ∧ Ss.nil = Ss.nil) = true from by simp)]
        have s5 := ((e4.trans e5).trans e6).size_le
        repeat (first | (refine Z0 ?_; first | refine Z1 rfl ?_ | (refine Z2 ?_; first | refine Z3 rfl rfl (by decide) ?_ | refine Z4 rfl rfl (by decide) ?_ | refine Z5 rfl rfl ?_) | (refine Z6 ?_; first | refine Z7 rfl rfl ?_ | refine Z8 rfl rfl ?_) | (refine Z9 ?_; first | refine Z10 rfl (by assumption) (by rfl) ?_ | refine Z11 rfl (by assumption) ?_) | (refine Z12 ?_; first | refine Z13 (Z14 rfl (by decide) rfl) ?_ | refine Z13 (Z15 rfl (by decide) rfl) ?_) | (refine Z16 ?_; first | refine Z17 rfl ?_ | refine Z18 rfl ?_) | (refine Z19 ?_; first | refine Z20 rfl rfl (by omega) ?_ | refine Z21 rfl rfl (by omega) ?_ | refine Z22 rfl rfl (by omega) ?_ | refine Z23 rfl rfl (by omega) (by omega) ?_ | refine Z24 rfl rfl (by omega) (by omega) (by omega) ?_ | refine Z13 (Z25 rfl rfl) ?_ | refine Z13 (Z26 rfl rfl) ?_) | (refine Z27 ?_; refine Z13 (Z28 rfl (Z53 ⟨by omega, by omega⟩)) ?_) | (refine Z29 ?_; refine Z13 (Z30 rfl (by rfl) (by simp only [Z84, List.set_cons_zero, List.set_cons_succ]; rfl)) ?_) | refine Z31 ?_) | (refine Z32 ?_; first | refine Z33 ?_ | refine Z34 ?_ | refine Z35 ?_ | refine Z36 ?_ | refine Z37 ?_ | refine Z38 rfl ?_ | refine Z39 ?_ | refine Z40 ?_ | refine Z41 ?_) | (refine Z42 ?_; first | refine Z43 ?_ | refine Z44 ?_ | refine Z45 ?_ | refine Z46 ?_ | refine Z47 ?_ | refine Z48 ?_ | refine Z49 rfl (by decide) ?_ | refine Z50 rfl (by decide) ?_))
        refine WO_loadSB rfl hs rfl ?_
        refine WO_call rfl (l1CopyOf_ret tv _ tl l F Fb w5' (ht.ext e0) (StS.ext hb e0) hn hn2) ?_
        rintro _ w6 ⟨⟨tv', bv', rfl, Ft5, Fb5, h51, ⟨xs, Fs, r1, r2, rfl⟩, h53, h54⟩, e6⟩
        have on1 := h51.one
        have on2 := one_of_row r1
        replace hs := hs.ext e6
        replace hu := hu.ext e6
        replace hr := hr.ext e6
        replace e0 := e0.trans e6
        have s6 := e6.size_le
        repeat (first | (refine Z0 ?_; first | refine Z1 rfl ?_ | (refine Z2 ?_; first | refine Z3 rfl rfl (by decide) ?_ | refine Z4 rfl rfl (by decide) ?_ | refine Z5 rfl rfl ?_) | (refine Z6 ?_; first | refine Z7 rfl rfl ?_ | refine Z8 rfl rfl ?_) | (refine Z9 ?_; first | refine Z10 rfl (by assumption) (by rfl) ?_ | refine Z11 rfl (by assumption) ?_) | (refine Z12 ?_; first | refine Z13 (Z14 rfl (by decide) rfl) ?_ | refine Z13 (Z15 rfl (by decide) rfl) ?_) | (refine Z16 ?_; first | refine Z17 rfl ?_ | refine Z18 rfl ?_) | (refine Z19 ?_; first | refine Z20 rfl rfl (by omega) ?_ | refine Z21 rfl rfl (by omega) ?_ | refine Z22 rfl rfl (by omega) ?_ | refine Z23 rfl rfl (by omega) (by omega) ?_ | refine Z24 rfl rfl (by omega) (by omega) (by omega) ?_ | refine Z13 (Z25 rfl rfl) ?_ | refine Z13 (Z26 rfl rfl) ?_) | (refine Z27 ?_; refine Z13 (Z28 rfl (Z53 ⟨by omega, by omega⟩)) ?_) | (refine Z29 ?_; refine Z13 (Z30 rfl (by rfl) (by simp only [Z84, List.set_cons_zero, List.set_cons_succ]; rfl)) ?_) | refine Z31 ?_) | (refine Z32 ?_; first | refine Z33 ?_ | refine Z34 ?_ | refine Z35 ?_ | refine Z36 ?_ | refine Z37 ?_ | refine Z38 rfl ?_ | refine Z39 ?_ | refine Z40 ?_ | refine Z41 ?_) | (refine Z42 ?_; first | refine Z43 ?_ | refine Z44 ?_ | refine Z45 ?_ | refine Z46 ?_ | refine Z47 ?_ | refine Z48 ?_ | refine Z49 rfl (by decide) ?_ | refine Z50 rfl (by decide) ?_))
        refine WO_alloc fun wo ho eo zo => ?_
        refine WO_storeS (k := 2) (vs := [tv', bv']) rfl rfl rfl (by simp; exact ⟨on1, on2⟩) ho (by decide) fun w7 ho7 o7 => ?_
        replace ho7 : Blk w7 w6.heap.size [tv', bv'] _ := ho7
        have e7 : Ext w6 w7 := eo.only o7 (Nat.le_refl _)
        replace hs := hs.ext e7
        replace hu := hu.ext e7
        replace hr := hr.ext e7
        replace e0 := e0.trans e7
        have s7 := ho7.lt
        repeat (first | (refine Z0 ?_; first | refine Z1 rfl ?_ | (refine Z2 ?_; first | refine Z3 rfl rfl (by decide) ?_ | refine Z4 rfl rfl (by decide) ?_ | refine Z5 rfl rfl ?_) | (refine Z6 ?_; first | refine Z7 rfl rfl ?_ | refine Z8 rfl rfl ?_) | (refine Z9 ?_; first | refine Z10 rfl (by assumption) (by rfl) ?_ | refine Z11 rfl (by assumption) ?_) | (refine Z12 ?_; first | refine Z13 (Z14 rfl (by decide) rfl) ?_ | refine Z13 (Z15 rfl (by decide) rfl) ?_) | (refine Z16 ?_; first | refine Z17 rfl ?_ | refine Z18 rfl ?_) | (refine Z19 ?_; first | refine Z20 rfl rfl (by omega) ?_ | refine Z21 rfl rfl (by omega) ?_ | refine Z22 rfl rfl (by omega) ?_ | refine Z23 rfl rfl (by omega) (by omega) ?_ | refine Z24 rfl rfl (by omega) (by omega) (by omega) ?_ | refine Z13 (Z25 rfl rfl) ?_ | refine Z13 (Z26 rfl rfl) ?_) | (refine Z27 ?_; refine Z13 (Z28 rfl (Z53 ⟨by omega, by omega⟩)) ?_) | (refine Z29 ?_; refine Z13 (Z30 rfl (by rfl) (by simp only [Z84, List.set_cons_zero, List.set_cons_succ]; rfl)) ?_) | refine Z31 ?_) | (refine Z32 ?_; first | refine Z33 ?_ | refine Z34 ?_ | refine Z35 ?_ | refine Z36 ?_ | refine Z37 ?_ | refine Z38 rfl ?_ | refine Z39 ?_ | refine Z40 ?_ | refine Z41 ?_) | (refine Z42 ?_; first | refine Z43 ?_ | refine Z44 ?_ | refine Z45 ?_ | refine Z46 ?_ | refine Z47 ?_ | refine Z48 ?_ | refine Z49 rfl (by decide) ?_ | refine Z50 rfl (by decide) ?_))
        refine W_held0 (w6.heap.size :: bv'.ownBlock.toList) [(2, .pointer (some ⟨w.heap.size, 0, none⟩)), (4, .pointer (some ⟨w2.heap.size, 0, none⟩)), (6, .pointer (some ⟨w6.heap.size, 0, none⟩))] (SeqIn 58 29 w6.heap.size w3.heap.size tv' (l.app l2) Ft5 (w6.heap.size :: bv'.ownBlock.toList) w7) (by kernel_rfl) (fun ws es hS => ?_) (fun w8 hR => ?_)
        · have hss := es.size_le
          have hos := ho7.ext es
          have hus := hu.ext es
          have r1s := ownsRow_ext r1 (e7.trans es)
          have r2s := StkS.ext (e7.trans es) r2
          have hb2s := StS.ext hb2 (e0.trans es)
          have huno : w1.heap.size ∉ w6.heap.size :: bv'.ownBlock.toList := fun hm => by
            rcases List.mem_cons.1 hm with h | h
            · omega
            · have := (h54 _ (List.mem_append_right _ (List.mem_append_left _ h))).1; omega
          first | refine Z82 0 rfl (by kernel_rfl) (by kernel_rfl) (by kernel_rfl) (by assumption) (fun w' hw' => Z56 rfl) ?_ | refine Z82 0 rfl (by kernel_rfl) (by kernel_rfl) (by kernel_rfl) (by assumption) (fun w' hw' => Z63 rfl rfl) ?_ | refine Z82 0 rfl (by kernel_rfl) (by kernel_rfl) (by kernel_rfl) (by assumption) (fun w' hw' => Z64 rfl rfl) ?_ | refine Z82 0 rfl (by kernel_rfl) (by kernel_rfl) (by kernel_rfl) (by assumption) (fun w' hw' => Z75 rfl rfl (by omega)) ?_ | refine Z82 0 rfl (by kernel_rfl) (by kernel_rfl) (by kernel_rfl) (by assumption) (fun w' hw' => Z72 rfl) ?_ | refine Z82 0 rfl (by kernel_rfl) (by kernel_rfl) (by kernel_rfl) (by assumption) (fun w' hw' => Z69 rfl rfl rfl (by omega)) ?_ | refine Z82 0 rfl (by kernel_rfl) (by kernel_rfl) (by kernel_rfl) (by assumption) (fun w' hw' => Z30 rfl (by rfl) (by simp only [Z84, List.set_cons_zero, List.set_cons_succ]; rfl)) ?_
          first | refine Z82 2 rfl (by kernel_rfl) (by kernel_rfl) (by kernel_rfl) (by assumption) (fun w' hw' => Z56 rfl) ?_ | refine Z82 2 rfl (by kernel_rfl) (by kernel_rfl) (by kernel_rfl) (by assumption) (fun w' hw' => Z63 rfl rfl) ?_ | refine Z82 2 rfl (by kernel_rfl) (by kernel_rfl) (by kernel_rfl) (by assumption) (fun w' hw' => Z64 rfl rfl) ?_ | refine Z82 2 rfl (by kernel_rfl) (by kernel_rfl) (by kernel_rfl) (by assumption) (fun w' hw' => Z75 rfl rfl (by omega)) ?_ | refine Z82 2 rfl (by kernel_rfl) (by kernel_rfl) (by kernel_rfl) (by assumption) (fun w' hw' => Z72 rfl) ?_ | refine Z82 2 rfl (by kernel_rfl) (by kernel_rfl) (by kernel_rfl) (by assumption) (fun w' hw' => Z69 rfl rfl rfl (by omega)) ?_ | refine Z82 2 rfl (by kernel_rfl) (by kernel_rfl) (by kernel_rfl) (by assumption) (fun w' hw' => Z30 rfl (by rfl) (by simp only [Z84, List.set_cons_zero, List.set_cons_succ]; rfl)) ?_
          refine Z82 3 rfl (by kernel_rfl) (by kernel_rfl) (by kernel_rfl) (by assumption) (fun w' hw' => Z66 rfl (hus.chg hw' huno) rfl) ?_
          refine WH_two 1 4 rfl rfl (by kernel_rfl) ?_ ?_
          · refine Z10 rfl hos rfl (Z31 (at_held hS ?_))
            refine WH_one 4 rfl (by kernel_rfl) (WO_call rfl (l1Copy_all l2 _ Fb' ws hb2s (by omega)) ?_)
            rintro vy wa hY
            have ea := (GrowS.new hY).2
            replace hY := (GrowS.new hY)
            refine Z31 (at_held (ea.chg _) ?_)
            have sa := Ext.size_le ea
            obtain ⟨⟨Fq, ⟨ys, Fy, y1, y2, rfl⟩, y3, y4⟩, _⟩ := hY
            have hlty := StkS.lt _ _ _ y2
            have r1a := ownsRow_ext r1s ea
            have r2a := StkS.ext ea r2s
            refine WH_one 5 rfl (by kernel_rfl) (WO_appS (e := 58) (l2 := l2) rfl r1a rfl y1 y2 (Nat.zero_le _) (by omega) (by decide) fun v3 wd k31 k32 k33 => Z31 (at_held ((Ext.chg ea _).trans ((grown_chg k32).mono (by intro b hb; simp [hb]))) ?_))
            have hgd := grown_chg k32
            have hdd : ∀ z ∈ Fs ++ Fy, z ∉ bv'.ownBlock.toList := fun z hz hm => by
              rcases List.mem_append.1 hz with hz | hz
              · exact (List.nodup_append.1 (List.nodup_append.1 h53).2.1).2.2 z hm z hz rfl
              · have := y4 z (by simp [hz])
                have := (r1s.lt z (by simpa using hm)).2
                omega
            have hrow3 := row_app r2a y2 hgd hdd k31
            have Sd : Chg (w6.heap.size :: bv'.ownBlock.toList) ws wd := (Ext.chg ea _).trans (hgd.mono (by intro b hb; simp [hb]))
            have hob : w6.heap.size ∉ bv'.ownBlock.toList := fun hm => by have := (h54 _ (List.mem_append_right _ (List.mem_append_left _ hm))).2; omega
            have hod := ((Blk.ext hos ea)).chg hgd hob
            first | refine Z82 6 rfl (by kernel_rfl) (by kernel_rfl) (by kernel_rfl) (by assumption) (fun w' hw' => Z56 rfl) ?_ | refine Z82 6 rfl (by kernel_rfl) (by kernel_rfl) (by kernel_rfl) (by assumption) (fun w' hw' => Z63 rfl rfl) ?_ | refine Z82 6 rfl (by kernel_rfl) (by kernel_rfl) (by kernel_rfl) (by assumption) (fun w' hw' => Z64 rfl rfl) ?_ | refine Z82 6 rfl (by kernel_rfl) (by kernel_rfl) (by kernel_rfl) (by assumption) (fun w' hw' => Z75 rfl rfl (by omega)) ?_ | refine Z82 6 rfl (by kernel_rfl) (by kernel_rfl) (by kernel_rfl) (by assumption) (fun w' hw' => Z72 rfl) ?_ | refine Z82 6 rfl (by kernel_rfl) (by kernel_rfl) (by kernel_rfl) (by assumption) (fun w' hw' => Z69 rfl rfl rfl (by omega)) ?_ | refine Z82 6 rfl (by kernel_rfl) (by kernel_rfl) (by kernel_rfl) (by assumption) (fun w' hw' => Z30 rfl (by rfl) (by simp only [Z84, List.set_cons_zero, List.set_cons_succ]; rfl)) ?_
            have hlt2 := StkS.lt _ _ _ r2s
            have hbl : ∀ z ∈ bv'.ownBlock.toList, z < w6.heap.size := fun z hz => (h54 z (by simp at hz; simp [hz])).2
            have hFsl : ∀ z ∈ Fs, z < w6.heap.size := fun z hz => (h54 z (by simp [hz])).2
            have hFtl : ∀ z ∈ Ft5, z < w6.heap.size := fun z hz => (h54 z (by simp [hz])).2
            have hv3 : ∀ z ∈ v3.ownBlock.toList, z ∈ bv'.ownBlock.toList ∨ wa.heap.size ≤ z := fun z hm => by
              rcases k33 with h | h
              · rw [h] at hm; exact .inl hm
              · rw [h] at hm; simp at hm; exact .inr (by omega)
            have hyF : ∀ z ∈ Fy, ws.heap.size ≤ z ∧ z < wa.heap.size := fun z hz => ⟨y4 z (by simp [hz]), hlty z hz⟩
            have hFb : ∀ z ∈ v3.ownBlock.toList ++ (Fs ++ Fy), w3.heap.size ≤ z ∧ z ≠ w6.heap.size := fun z hz => by
              rcases List.mem_append.1 hz with hz | hz
              · rcases hv3 z hz with h | h
                · have := h54 z (by simp at h; simp [h]); omega
                · omega
              · rcases List.mem_append.1 hz with hz | hz
                · have := h54 z (by simp [hz]); omega
                · have := hyF z hz; omega
            refine WH_one 7 rfl (by kernel_rfl) (WO_store1 rfl rfl (by exact one_of_row k31) hod (by simp) fun we hoe oe => Z31 (at_held (Sd.trans (oe.chg.mono (by simp))) ?_))
            replace hoe : Blk we w6.heap.size [tv', v3] _ := hoe
            refine WH_done (by kernel_rfl) (by repeat (first | exact True.intro | refine And.intro rfl ?_)) ⟨v3, _, hoe, hrow3.chg oe.chg (fun z hz hm => by simp only [List.mem_singleton] at hm; exact (hFb z hz).2 hm), ?_, hFb, (es.chg _).trans (Sd.trans (oe.chg.mono (by simp)))⟩
            have n1 := List.nodup_append.1 h53
            have n2 := List.nodup_append.1 n1.2.1
            refine List.nodup_append.2 ⟨n1.1, List.nodup_append.2 ⟨nodup_own _, List.nodup_append.2 ⟨n2.2.1, (List.nodup_append.1 y3).2.1, fun a ha b hb e => ?_⟩, fun a ha b hb e => ?_⟩, fun a ha b hb e => ?_⟩
            · subst e; have := hFsl _ ha; have := hyF _ hb; omega
            · subst e
              rcases hv3 _ ha with h | h
              · exact hdd _ hb h
              · rcases List.mem_append.1 hb with hb | hb
                · have := hFsl _ hb; omega
                · have := hyF _ hb; omega
            · subst e
              have hal := hFtl _ ha
              rcases List.mem_append.1 hb with hb | hb
              · rcases hv3 _ hb with h | h
                · exact n1.2.2 _ ha _ (List.mem_append_left _ h) rfl
                · omega
              · rcases List.mem_append.1 hb with hb | hb
                · exact n1.2.2 _ ha _ (List.mem_append_right _ hb) rfl
                · have := hyF _ hb; omega
          · refine WO_call rfl (l1Copy_all l2 _ Fb' ws hb2s (by omega)) ?_
            rintro vy wa hY
            have ea := (GrowS.new hY).2
            replace hY := (GrowS.new hY)
            refine Z31 (at_held (ea.chg _) ?_)
            refine WH_one 1 rfl (by kernel_rfl) (Z10 rfl (hos.ext ea) rfl (Z31 (at_held (ea.chg _) ?_)))
            have sa := Ext.size_le ea
            obtain ⟨⟨Fq, ⟨ys, Fy, y1, y2, rfl⟩, y3, y4⟩, _⟩ := hY
            have hlty := StkS.lt _ _ _ y2
            have r1a := ownsRow_ext r1s ea
            have r2a := StkS.ext ea r2s
            refine WH_one 5 rfl (by kernel_rfl) (WO_appS (e := 58) (l2 := l2) rfl r1a rfl y1 y2 (Nat.zero_le _) (by omega) (by decide) fun v3 wd k31 k32 k33 => Z31 (at_held ((Ext.chg ea _).trans ((grown_chg k32).mono (by intro b hb; simp [hb]))) ?_))
            have hgd := grown_chg k32
            have hdd : ∀ z ∈ Fs ++ Fy, z ∉ bv'.ownBlock.toList := fun z hz hm => by
              rcases List.mem_append.1 hz with hz | hz
              · exact (List.nodup_append.1 (List.nodup_append.1 h53).2.1).2.2 z hm z hz rfl
              · have := y4 z (by simp [hz])
                have := (r1s.lt z (by simpa using hm)).2
                omega
            have hrow3 := row_app r2a y2 hgd hdd k31
            have Sd : Chg (w6.heap.size :: bv'.ownBlock.toList) ws wd := (Ext.chg ea _).trans (hgd.mono (by intro b hb; simp [hb]))
            have hob : w6.heap.size ∉ bv'.ownBlock.toList := fun hm => by have := (h54 _ (List.mem_append_right _ (List.mem_append_left _ hm))).2; omega
            have hod := ((Blk.ext hos ea)).chg hgd hob
            first | refine Z82 6 rfl (by kernel_rfl) (by kernel_rfl) (by kernel_rfl) (by assumption) (fun w' hw' => Z56 rfl) ?_ | refine Z82 6 rfl (by kernel_rfl) (by kernel_rfl) (by kernel_rfl) (by assumption) (fun w' hw' => Z63 rfl rfl) ?_ | refine Z82 6 rfl (by kernel_rfl) (by kernel_rfl) (by kernel_rfl) (by assumption) (fun w' hw' => Z64 rfl rfl) ?_ | refine Z82 6 rfl (by kernel_rfl) (by kernel_rfl) (by kernel_rfl) (by assumption) (fun w' hw' => Z75 rfl rfl (by omega)) ?_ | refine Z82 6 rfl (by kernel_rfl) (by kernel_rfl) (by kernel_rfl) (by assumption) (fun w' hw' => Z72 rfl) ?_ | refine Z82 6 rfl (by kernel_rfl) (by kernel_rfl) (by kernel_rfl) (by assumption) (fun w' hw' => Z69 rfl rfl rfl (by omega)) ?_ | refine Z82 6 rfl (by kernel_rfl) (by kernel_rfl) (by kernel_rfl) (by assumption) (fun w' hw' => Z30 rfl (by rfl) (by simp only [Z84, List.set_cons_zero, List.set_cons_succ]; rfl)) ?_
            have hlt2 := StkS.lt _ _ _ r2s
            have hbl : ∀ z ∈ bv'.ownBlock.toList, z < w6.heap.size := fun z hz => (h54 z (by simp at hz; simp [hz])).2
            have hFsl : ∀ z ∈ Fs, z < w6.heap.size := fun z hz => (h54 z (by simp [hz])).2
            have hFtl : ∀ z ∈ Ft5, z < w6.heap.size := fun z hz => (h54 z (by simp [hz])).2
            have hv3 : ∀ z ∈ v3.ownBlock.toList, z ∈ bv'.ownBlock.toList ∨ wa.heap.size ≤ z := fun z hm => by
              rcases k33 with h | h
              · rw [h] at hm; exact .inl hm
              · rw [h] at hm; simp at hm; exact .inr (by omega)
            have hyF : ∀ z ∈ Fy, ws.heap.size ≤ z ∧ z < wa.heap.size := fun z hz => ⟨y4 z (by simp [hz]), hlty z hz⟩
            have hFb : ∀ z ∈ v3.ownBlock.toList ++ (Fs ++ Fy), w3.heap.size ≤ z ∧ z ≠ w6.heap.size := fun z hz => by
              rcases List.mem_append.1 hz with hz | hz
              · rcases hv3 z hz with h | h
                · have := h54 z (by simp at h; simp [h]); omega
                · omega
              · rcases List.mem_append.1 hz with hz | hz
                · have := h54 z (by simp [hz]); omega
                · have := hyF z hz; omega
            refine WH_one 7 rfl (by kernel_rfl) (WO_store1 rfl rfl (by exact one_of_row k31) hod (by simp) fun we hoe oe => Z31 (at_held (Sd.trans (oe.chg.mono (by simp))) ?_))
            replace hoe : Blk we w6.heap.size [tv', v3] _ := hoe
            refine WH_done (by kernel_rfl) (by repeat (first | exact True.intro | refine And.intro rfl ?_)) ⟨v3, _, hoe, hrow3.chg oe.chg (fun z hz hm => by simp only [List.mem_singleton] at hm; exact (hFb z hz).2 hm), ?_, hFb, (es.chg _).trans (Sd.trans (oe.chg.mono (by simp)))⟩
            have n1 := List.nodup_append.1 h53
            have n2 := List.nodup_append.1 n1.2.1
            refine List.nodup_append.2 ⟨n1.1, List.nodup_append.2 ⟨nodup_own _, List.nodup_append.2 ⟨n2.2.1, (List.nodup_append.1 y3).2.1, fun a ha b hb e => ?_⟩, fun a ha b hb e => ?_⟩, fun a ha b hb e => ?_⟩
            · subst e; have := hFsl _ ha; have := hyF _ hb; omega
            · subst e
              rcases hv3 _ ha with h | h
              · exact hdd _ hb h
              · rcases List.mem_append.1 hb with hb | hb
                · have := hFsl _ hb; omega
                · have := hyF _ hb; omega
            · subst e
              have hal := hFtl _ ha
              rcases List.mem_append.1 hb with hb | hb
              · rcases hv3 _ hb with h | h
                · exact n1.2.2 _ ha _ (List.mem_append_left _ h) rfl
                · omega
              · rcases List.mem_append.1 hb with hb | hb
                · exact n1.2.2 _ ha _ (List.mem_append_right _ hb) rfl
                · have := hyF _ hb; omega
        · obtain ⟨v3, Fb8, h81, h82, h83, h84, c8⟩ := hR
          have on8 := h82.one
          have hbl : ∀ z ∈ bv'.ownBlock.toList, w3.heap.size ≤ z ∧ z < w6.heap.size := fun z hz => by have := h54 z (by simp at hz; simp [hz]); omega
          have hG : ∀ z ∈ w6.heap.size :: bv'.ownBlock.toList, w3.heap.size ≤ z := fun z hz => by
            rcases List.mem_cons.1 hz with rfl | hz
            · omega
            · exact (hbl z hz).1
          replace hr := hr.chg c8 (fun hm => by have := hG _ hm; omega)
          have h518 := (h51.ext e7).chg c8 (fun z hz hm => by
            rcases List.mem_cons.1 hm with h | hm
            · have := h54 z (by simp [hz]); omega
            · exact (List.nodup_append.1 h53).2.2 z hz z (List.mem_append_left _ hm) rfl)
          have e8 : Ext w w8 := c8.ext_of e0 (fun z hz => by have := hG z hz; omega)
          repeat (first | (refine Z0 ?_; first | refine Z1 rfl ?_ | (refine Z2 ?_; first | refine Z3 rfl rfl (by decide) ?_ | refine Z4 rfl rfl (by decide) ?_ | refine Z5 rfl rfl ?_) | (refine Z6 ?_; first | refine Z7 rfl rfl ?_ | refine Z8 rfl rfl ?_) | (refine Z9 ?_; first | refine Z10 rfl (by assumption) (by rfl) ?_ | refine Z11 rfl (by assumption) ?_) | (refine Z12 ?_; first | refine Z13 (Z14 rfl (by decide) rfl) ?_ | refine Z13 (Z15 rfl (by decide) rfl) ?_) | (refine Z16 ?_; first | refine Z17 rfl ?_ | refine Z18 rfl ?_) | (refine Z19 ?_; first | refine Z20 rfl rfl (by omega) ?_ | refine Z21 rfl rfl (by omega) ?_ | refine Z22 rfl rfl (by omega) ?_ | refine Z23 rfl rfl (by omega) (by omega) ?_ | refine Z24 rfl rfl (by omega) (by omega) (by omega) ?_ | refine Z13 (Z25 rfl rfl) ?_ | refine Z13 (Z26 rfl rfl) ?_) | (refine Z27 ?_; refine Z13 (Z28 rfl (Z53 ⟨by omega, by omega⟩)) ?_) | (refine Z29 ?_; refine Z13 (Z30 rfl (by rfl) (by simp only [Z84, List.set_cons_zero, List.set_cons_succ]; rfl)) ?_) | refine Z31 ?_) | (refine Z32 ?_; first | refine Z33 ?_ | refine Z34 ?_ | refine Z35 ?_ | refine Z36 ?_ | refine Z37 ?_ | refine Z38 rfl ?_ | refine Z39 ?_ | refine Z40 ?_ | refine Z41 ?_) | (refine Z42 ?_; first | refine Z43 ?_ | refine Z44 ?_ | refine Z45 ?_ | refine Z46 ?_ | refine Z47 ?_ | refine Z48 ?_ | refine Z49 rfl (by decide) ?_ | refine Z50 rfl (by decide) ?_))
          refine WO_loadSB rfl h81 rfl ?_
          refine WO_call rfl (sProgramValid_ret tv' _ tl (l.app l2) _ _ w8 h518.int h82.sts (by rw [cntL_app]; omega)) ?_
          rintro _ w9 ⟨rfl, e9⟩
          replace hr := hr.ext e9
          replace h81 := h81.ext e9
          replace h518 := h518.ext e9
          replace h82 := h82.ext e9
          replace e8 := e8.trans e9
          cases hv3 : validP tl (l.app l2)
          · have hnone : seqR tl l tl l2 = none := by unfold seqR; rw [if_neg (fun h => by rw [hv3] at h; cases h.2.2.2)]
            repeat (first | (refine Z0 ?_; first | refine Z1 rfl ?_ | (refine Z2 ?_; first | refine Z3 rfl rfl (by decide) ?_ | refine Z4 rfl rfl (by decide) ?_ | refine Z5 rfl rfl ?_) | (refine Z6 ?_; first | refine Z7 rfl rfl ?_ | refine Z8 rfl rfl ?_) | (refine Z9 ?_; first | refine Z10 rfl (by assumption) (by rfl) ?_ | refine Z11 rfl (by assumption) ?_) | (refine Z12 ?_; first | refine Z13 (Z14 rfl (by decide) rfl) ?_ | refine Z13 (Z15 rfl (by decide) rfl) ?_) | (refine Z16 ?_; first | refine Z17 rfl ?_ | refine Z18 rfl ?_) | (refine Z19 ?_; first | refine Z20 rfl rfl (by omega) ?_ | refine Z21 rfl rfl (by omega) ?_ | refine Z22 rfl rfl (by omega) ?_ | refine Z23 rfl rfl (by omega) (by omega) ?_ | refine Z24 rfl rfl (by omega) (by omega) (by omega) ?_ | refine Z13 (Z25 rfl rfl) ?_ | refine Z13 (Z26 rfl rfl) ?_) | (refine Z27 ?_; refine Z13 (Z28 rfl (Z53 ⟨by omega, by omega⟩)) ?_) | (refine Z29 ?_; refine Z13 (Z30 rfl (by rfl) (by simp only [Z84, List.set_cons_zero, List.set_cons_succ]; rfl)) ?_) | refine Z31 ?_) | (refine Z32 ?_; first | refine Z33 ?_ | refine Z34 ?_ | refine Z35 ?_ | refine Z36 ?_ | refine Z37 ?_ | refine Z38 rfl ?_ | refine Z39 ?_ | refine Z40 ?_ | refine Z41 ?_) | (refine Z42 ?_; first | refine Z43 ?_ | refine Z44 ?_ | refine Z45 ?_ | refine Z46 ?_ | refine Z47 ?_ | refine Z48 ?_ | refine Z49 rfl (by decide) ?_ | refine Z50 rfl (by decide) ?_))
            refine WO_storeS (k := 2) (vs := [.slice none 0 0, .slice none 0 0]) rfl rfl rfl (by intro v hv; simp at hv; subst hv; rfl) hr (by decide) fun wz hz oz => ?_
            replace hz : Blk wz w2.heap.size [.slice none 0 0, .slice none 0 0] _ := hz
            repeat (first | (refine Z0 ?_; first | refine Z1 rfl ?_ | (refine Z2 ?_; first | refine Z3 rfl rfl (by decide) ?_ | refine Z4 rfl rfl (by decide) ?_ | refine Z5 rfl rfl ?_) | (refine Z6 ?_; first | refine Z7 rfl rfl ?_ | refine Z8 rfl rfl ?_) | (refine Z9 ?_; first | refine Z10 rfl (by assumption) (by rfl) ?_ | refine Z11 rfl (by assumption) ?_) | (refine Z12 ?_; first | refine Z13 (Z14 rfl (by decide) rfl) ?_ | refine Z13 (Z15 rfl (by decide) rfl) ?_) | (refine Z16 ?_; first | refine Z17 rfl ?_ | refine Z18 rfl ?_) | (refine Z19 ?_; first | refine Z20 rfl rfl (by omega) ?_ | refine Z21 rfl rfl (by omega) ?_ | refine Z22 rfl rfl (by omega) ?_ | refine Z23 rfl rfl (by omega) (by omega) ?_ | refine Z24 rfl rfl (by omega) (by omega) (by omega) ?_ | refine Z13 (Z25 rfl rfl) ?_ | refine Z13 (Z26 rfl rfl) ?_) | (refine Z27 ?_; refine Z13 (Z28 rfl (Z53 ⟨by omega, by omega⟩)) ?_) | (refine Z29 ?_; refine Z13 (Z30 rfl (by rfl) (by simp only [Z84, List.set_cons_zero, List.set_cons_succ]; rfl)) ?_) | refine Z31 ?_) | (refine Z32 ?_; first | refine Z33 ?_ | refine Z34 ?_ | refine Z35 ?_ | refine Z36 ?_ | refine Z37 ?_ | refine Z38 rfl ?_ | refine Z39 ?_ | refine Z40 ?_ | refine Z41 ?_) | (refine Z42 ?_; first | refine Z43 ?_ | refine Z44 ?_ | refine Z45 ?_ | refine Z46 ?_ | refine Z47 ?_ | refine Z48 ?_ | refine Z49 rfl (by decide) ?_ | refine Z50 rfl (by decide) ?_))
            exact at_ret2G rfl (.cell inferInstance rfl hz rfl) (.tmp rfl) (by rw [hnone]; exact PrO.none_ (Ext.only e8 oz s1))
          · have hsome : seqR tl l tl l2 = some (l.app l2) := by unfold seqR; rw [if_pos ⟨hv, hv2, rfl, hv3⟩]
            repeat (first | (refine Z0 ?_; first | refine Z1 rfl ?_ | (refine Z2 ?_; first | refine Z3 rfl rfl (by decide) ?_ | refine Z4 rfl rfl (by decide) ?_ | refine Z5 rfl rfl ?_) | (refine Z6 ?_; first | refine Z7 rfl rfl ?_ | refine Z8 rfl rfl ?_) | (refine Z9 ?_; first | refine Z10 rfl (by assumption) (by rfl) ?_ | refine Z11 rfl (by assumption) ?_) | (refine Z12 ?_; first | refine Z13 (Z14 rfl (by decide) rfl) ?_ | refine Z13 (Z15 rfl (by decide) rfl) ?_) | (refine Z16 ?_; first | refine Z17 rfl ?_ | refine Z18 rfl ?_) | (refine Z19 ?_; first | refine Z20 rfl rfl (by omega) ?_ | refine Z21 rfl rfl (by omega) ?_ | refine Z22 rfl rfl (by omega) ?_ | refine Z23 rfl rfl (by omega) (by omega) ?_ | refine Z24 rfl rfl (by omega) (by omega) (by omega) ?_ | refine Z13 (Z25 rfl rfl) ?_ | refine Z13 (Z26 rfl rfl) ?_) | (refine Z27 ?_; refine Z13 (Z28 rfl (Z53 ⟨by omega, by omega⟩)) ?_) | (refine Z29 ?_; refine Z13 (Z30 rfl (by rfl) (by simp only [Z84, List.set_cons_zero, List.set_cons_succ]; rfl)) ?_) | refine Z31 ?_) | (refine Z32 ?_; first | refine Z33 ?_ | refine Z34 ?_ | refine Z35 ?_ | refine Z36 ?_ | refine Z37 ?_ | refine Z38 rfl ?_ | refine Z39 ?_ | refine Z40 ?_ | refine Z41 ?_) | (refine Z42 ?_; first | refine Z43 ?_ | refine Z44 ?_ | refine Z45 ?_ | refine Z46 ?_ | refine Z47 ?_ | refine Z48 ?_ | refine Z49 rfl (by decide) ?_ | refine Z50 rfl (by decide) ?_))
            refine WO_loadSB rfl h81 rfl ?_
            refine WO_storeS (k := 2) (vs := [tv', v3]) rfl rfl rfl (by simp; exact ⟨on1, on8⟩) hr (by decide) fun w12 hr12 o12 => ?_
            replace hr12 : Blk w12 w2.heap.size [tv', v3] _ := hr12
            repeat (first | (refine Z0 ?_; first | refine Z1 rfl ?_ | (refine Z2 ?_; first | refine Z3 rfl rfl (by decide) ?_ | refine Z4 rfl rfl (by decide) ?_ | refine Z5 rfl rfl ?_) | (refine Z6 ?_; first | refine Z7 rfl rfl ?_ | refine Z8 rfl rfl ?_) | (refine Z9 ?_; first | refine Z10 rfl (by assumption) (by rfl) ?_ | refine Z11 rfl (by assumption) ?_) | (refine Z12 ?_; first | refine Z13 (Z14 rfl (by decide) rfl) ?_ | refine Z13 (Z15 rfl (by decide) rfl) ?_) | (refine Z16 ?_; first | refine Z17 rfl ?_ | refine Z18 rfl ?_) | (refine Z19 ?_; first | refine Z20 rfl rfl (by omega) ?_ | refine Z21 rfl rfl (by omega) ?_ | refine Z22 rfl rfl (by omega) ?_ | refine Z23 rfl rfl (by omega) (by omega) ?_ | refine Z24 rfl rfl (by omega) (by omega) (by omega) ?_ | refine Z13 (Z25 rfl rfl) ?_ | refine Z13 (Z26 rfl rfl) ?_) | (refine Z27 ?_; refine Z13 (Z28 rfl (Z53 ⟨by omega, by omega⟩)) ?_) | (refine Z29 ?_; refine Z13 (Z30 rfl (by rfl) (by simp only [Z84, List.set_cons_zero, List.set_cons_succ]; rfl)) ?_) | refine Z31 ?_) | (refine Z32 ?_; first | refine Z33 ?_ | refine Z34 ?_ | refine Z35 ?_ | refine Z36 ?_ | refine Z37 ?_ | refine Z38 rfl ?_ | refine Z39 ?_ | refine Z40 ?_ | refine Z41 ?_) | (refine Z42 ?_; first | refine Z43 ?_ | refine Z44 ?_ | refine Z45 ?_ | refine Z46 ?_ | refine Z47 ?_ | refine Z48 ?_ | refine Z49 rfl (by decide) ?_ | refine Z50 rfl (by decide) ?_))
            refine at_ret2G rfl (.cell inferInstance rfl hr12 rfl) (.tmp rfl) ?_
            rw [hsome]
            exact PrO.some_ (h518.chg o12.chg (fun z hz hm => by simp at hm; subst hm; have := h54 _ (List.mem_append_left _ hz); omega)) (h82.chg o12.chg (fun z hz hm => by simp only [List.mem_singleton] at hm; subst hm; have := h84 _ hz; omega)) h83 (fun z hz => by
              rcases List.mem_append.1 hz with hz | hz
              · have := h54 z (by simp [hz]); omega
              · have := h84 z hz; omega) (e8.only o12 (by omega))
      · rw [decide_eq_false ((show ¬ (tl = tl2 ∧ Ss.nil = Ss.nil) from fun h => hty h.1))]
        have hnone := seqR_none (tl := tl) (tl2 := tl2) (l := l) (l2 := l2) (fun h => hty h.2.2)
        repeat (first | (refine Z0 ?_; first | refine Z1 rfl ?_ | (refine Z2 ?_; first | refine Z3 rfl rfl (by decide) ?_ | refine Z4 rfl rfl (by decide) ?_ | refine Z5 rfl rfl ?_) | (refine Z6 ?_; first | refine Z7 rfl rfl ?_ | refine Z8 rfl rfl ?_) | (refine Z9 ?_; first | refine Z10 rfl (by assumption) (by rfl) ?_ | refine Z11 rfl (by assumption) ?_) | (refine Z12 ?_; first | refine Z13 (Z14 rfl (by decide) rfl) ?_ | refine Z13 (Z15 rfl (by decide) rfl) ?_) | (refine Z16 ?_; first | refine Z17 rfl ?_ | refine Z18 rfl ?_) | (refine Z19 ?_; first | refine Z20 rfl rfl (by omega) ?_ | refine Z21 rfl rfl (by omega) ?_ | refine Z22 rfl rfl (by omega) ?_ | refine Z23 rfl rfl (by omega) (by omega) ?_ | refine Z24 rfl rfl (by omega) (by omega) (by omega) ?_ | refine Z13 (Z25 rfl rfl) ?_ | refine Z13 (Z26 rfl rfl) ?_) | (refine Z27 ?_; refine Z13 (Z28 rfl (Z53 ⟨by omega, by omega⟩)) ?_) | (refine Z29 ?_; refine Z13 (Z30 rfl (by rfl) (by simp only [Z84, List.set_cons_zero, List.set_cons_succ]; rfl)) ?_) | refine Z31 ?_) | (refine Z32 ?_; first | refine Z33 ?_ | refine Z34 ?_ | refine Z35 ?_ | refine Z36 ?_ | refine Z37 ?_ | refine Z38 rfl ?_ | refine Z39 ?_ | refine Z40 ?_ | refine Z41 ?_) | (refine Z42 ?_; first | refine Z43 ?_ | refine Z44 ?_ | refine Z45 ?_ | refine Z46 ?_ | refine Z47 ?_ | refine Z48 ?_ | refine Z49 rfl (by decide) ?_ | refine Z50 rfl (by decide) ?_))
        refine WO_storeS (k := 2) (vs := [.slice none 0 0, .slice none 0 0]) rfl rfl rfl (by intro v hv; simp at hv; subst hv; rfl) hr (by decide) fun wz hz oz => ?_
        replace hz : Blk wz w2.heap.size [.slice none 0 0, .slice none 0 0] _ := hz
        repeat (first | (refine Z0 ?_; first | refine Z1 rfl ?_ | (refine Z2 ?_; first | refine Z3 rfl rfl (by decide) ?_ | refine Z4 rfl rfl (by decide) ?_ | refine Z5 rfl rfl ?_) | (refine Z6 ?_; first | refine Z7 rfl rfl ?_ | refine Z8 rfl rfl ?_) | (refine Z9 ?_; first | refine Z10 rfl (by assumption) (by rfl) ?_ | refine Z11 rfl (by assumption) ?_) | (refine Z12 ?_; first | refine Z13 (Z14 rfl (by decide) rfl) ?_ | refine Z13 (Z15 rfl (by decide) rfl) ?_) | (refine Z16 ?_; first | refine Z17 rfl ?_ | refine Z18 rfl ?_) | (refine Z19 ?_; first | refine Z20 rfl rfl (by omega) ?_ | refine Z21 rfl rfl (by omega) ?_ | refine Z22 rfl rfl (by omega) ?_ | refine Z23 rfl rfl (by omega) (by omega) ?_ | refine Z24 rfl rfl (by omega) (by omega) (by omega) ?_ | refine Z13 (Z25 rfl rfl) ?_ | refine Z13 (Z26 rfl rfl) ?_) | (refine Z27 ?_; refine Z13 (Z28 rfl (Z53 ⟨by omega, by omega⟩)) ?_) | (refine Z29 ?_; refine Z13 (Z30 rfl (by rfl) (by simp only [Z84, List.set_cons_zero, List.set_cons_succ]; rfl)) ?_) | refine Z31 ?_) | (refine Z32 ?_; first | refine Z33 ?_ | refine Z34 ?_ | refine Z35 ?_ | refine Z36 ?_ | refine Z37 ?_ | refine Z38 rfl ?_ | refine Z39 ?_ | refine Z40 ?_ | refine Z41 ?_) | (refine Z42 ?_; first | refine Z43 ?_ | refine Z44 ?_ | refine Z45 ?_ | refine Z46 ?_ | refine Z47 ?_ | refine Z48 ?_ | refine Z49 rfl (by decide) ?_ | refine Z50 rfl (by decide) ?_))
        exact at_ret2G rfl (.cell inferInstance rfl hz rfl) (.tmp rfl) (by rw [hnone]; exact PrO.none_ (Ext.only e0 oz s1))
end Go.Proofs.Ytpmgjmcohbdlaaa
