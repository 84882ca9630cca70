/-
  What is proved here: the reference's drawn programs and changed copies of programs are programs of bounded size in memory that can be read; the reference's changed copies of programs are programs of bounded size in memory that can be read.
-/
import Derived.Test.YtplcmbipeanjdaaGreatDoorM10
import Derived.Test.YtplcmbipeanjdaaGreatDoorM6
import Derived.Test.YtplcmbipeanjdaaGreatDoorM7
namespace Go.Proofs.YtplcmbipeanjdaaGreatDoor
set_option linter.unusedVariables false
set_option linter.unusedSimpArgs false
set_option linter.unnecessarySimpa false
open Go.RowKit

def constV : Operand → Value
  | .const v => v
  | _ => undef
def strOk : Value → Bool
  | .string s => Nat.ble s.size 600
  | _ => false
theorem strOk_sV {v : Value} (h : strOk v = true) : ∃ t : Tx, v = sV t ∧ t.length ≤ 600 := by
  cases v <;> simp only [strOk] at h <;> try (cases h)
  rename_i s
  have h2 := Nat.le_of_ble_eq_true h
  exact ⟨s.data.toList, by cases s; rfl, by simpa using h2⟩
theorem strOk_one {v : Value} (h : strOk v = true) : v.cells = #[v] := by
  obtain ⟨t, rfl, _⟩ := strOk_sV h
  rfl
/-- A literal of strings. -/
theorem WO_buildStr {P : Program} {n : Nat} {ops : Array Oper} {Q : Exit → Act → World → Prop} {rest : List Oper} {σ : Env} {w : World} {d : Nat} {ty : TypeId} {pos : String} {af : Array Edge}
    {t e bytes len : Nat} {z : Value} [TSl P t e 1] [TE P e z 1 bytes] {parts : List (Nat × Operand)}
    (hp : parts = ((parts.map Prod.snd).zipIdx 0).map fun x => (x.2, x.1)) (hv : evs σ (parts.map Prod.snd) = some (parts.map fun p => constV p.2)) (hlen : (parts.map fun p => constV p.2).length = len) (hpos : Nat.ble 1 len = true) (hsmall : Nat.ble len 10000 = true)
    (hok : (parts.map fun p => constV p.2).all strOk = true)
    (h : ∀ w', (∀ k, k < len → ∃ t : Tx, t.length ≤ 600 ∧ w'.cell? ⟨w.heap.size, 0 + k * 1, none⟩ = some (sV t)) → Ext w w' → WO P n ops Q rest ((d, .slice (some ⟨w.heap.size, 0, none⟩) len len) :: σ) w') :
    WO P n ops Q (⟨some d, .buildSlice t len parts.toArray, ty, pos, af, none⟩ :: rest) σ w := by
  have hpos' := Nat.le_of_ble_eq_true hpos
  have hsm := Nat.le_of_ble_eq_true hsmall
  rw [List.all_eq_true] at hok
  refine WO_build (e := e) (k := 1) (parts.map Prod.snd) (cs := parts.map fun p => constV p.2) (by simpa using hp) hv hlen (by rw [Nat.ble_eq]; omega) (by rw [Nat.ble_eq]; omega) (fun v hv => by rw [strOk_one (hok v hv)]; rfl) ?_ fun w1 hb he hz => h w1 (fun k hk => ?_) he
  · have : ∀ l : List Value, (∀ v ∈ l, strOk v = true) → (l.flatMap fun v => v.cells.toList) = l := by
      intro l
      induction l with
      | nil => intro _; rfl
      | cons v l ih => intro hl; rw [List.flatMap_cons, ih (fun v hv => hl v (by simp [hv])), strOk_one (hl v (by simp))]; rfl
    exact this _ hok
  · have hk' : k < (parts.map fun p => constV p.2).length := by omega
    obtain ⟨t, ht, hl⟩ := strOk_sV (hok _ (List.getElem_mem hk'))
    refine ⟨t, hl, ?_⟩
    rw [Nat.zero_add, Nat.mul_one, ← ht]
    exact hb.cell (List.getElem?_eq_getElem hk')
theorem l1Texts_ret (w : World) : Ret Tryz.prog 46 [] w fun r w' => r = .slice (some ⟨w.heap.size, 0, none⟩) 25 25 ∧ (∀ k, k < 25 → ∃ t : Tx, t.length ≤ 600 ∧ w'.cell? ⟨w.heap.size, 0 + k * 1, none⟩ = some (sV t)) ∧ Ext w w' := by
  refine enter Tryz.func46 rfl Tryz.ntmps46 rfl rfl ?_
  refine goS ?_
  refine WO_buildStr (e := 9) (by kernel_rfl) (by kernel_rfl) (by kernel_rfl) (by decide) (by decide) (by kernel_rfl) fun w1 hc e1 => ?_
  refine goS ?_
  exact at_ret1 rfl rfl ⟨rfl, hc, e1⟩
/-- A program of bounded size that can be read, in blocks from B on. -/
def DrP (B k : Nat) (w : World) (r : Value) : Prop := ∃ tv bv tl l Ft Fb, r = prV tv bv ∧ IntF w tv tl Ft ∧ StS w bv l Fb ∧ (∀ x ∈ Ft ++ Fb, B ≤ x ∧ x < w.heap.size) ∧ tl.length ≤ k ∧ cntL l ≤ k
theorem ParR.read {e : TypeId} {t : Tx} {w w' : World} {r : Value} (h : ParR e (parseS t) w r w') : ∃ tv bv tl l b Ft Fb, r = .tuple #[prV tv bv, .bool b] ∧ IntF w' tv tl Ft ∧ StS w' bv l Fb ∧ (∀ x ∈ Ft ++ Fb, w.heap.size ≤ x ∧ x < w'.heap.size) ∧ tv.oneCell' = true ∧ bv.oneCell' = true ∧ tl.length ≤ 6 ∧ cntL l ≤ 30 ∧ Ext w w' := by
  obtain ⟨tv, bv, rfl, ho, he⟩ := h
  have hones := ho.ones
  obtain ⟨Ft, Fb, h1, h2, h3, h4⟩ := ho
  refine ⟨tv, bv, _, _, _, Ft, Fb, rfl, h1.int, h2.sts, h4, hones.1, hones.2, ?_, ?_, he⟩
  · cases ho : parseS t with
    | none => simp [paT]
    | some p => exact okT_len (validP_cnt (parseS_valid (tl := p.1) (l := p.2) ho).1).1
  · cases ho : parseS t with
    | none => simp [paL, cntL]
    | some p => exact (validP_cnt (parseS_valid (tl := p.1) (l := p.2) ho).1).2.2
theorem l1Draw_ret (rb q : Nat) (w : World) (hr : RdU w rb q) (hq : q ≤ 100000000) : Ret Tryz.prog 28 [.pointer (some ⟨rb, 0, none⟩)] w fun r w' => DrP w.heap.size 600 w' r ∧ RdU w' rb (q + 1000) ∧ Chg [rb] w w' := by
  have hrl := hr.lt
  refine enter Tryz.func28 rfl Tryz.ntmps28 rfl rfl ?_
  refine Z43 (Z44 (WO_alloc fun w1 hz e1 z1 => ?_))
  replace hz : Blk w1 w.heap.size [.slice none 0 0, .slice none 0 0] _ := hz
  refine goS ?_
  refine WO_call (args := []) rfl (l1Texts_ret w1) ?_
  rintro _ w2 ⟨rfl, hcells, e2⟩
  have hr2 := (hr.ext e1).ext e2
  have hz2 := hz.ext e2
  refine goS ?_
  refine WO_call rfl (pickU_ret rb q 25 w2 hr2 (by omega) (by decide)) ?_
  rintro _ w3 ⟨k, rfl, hk, hr3, c3⟩
  obtain ⟨t, htl, hcell⟩ := hcells k (by omega)
  have hcell3 := cell_chg hcell c3 (by simp; omega)
  have hz3 := hz2.chg c3 (by simp; omega)
  have c03 : Chg [rb] w w3 := ((e1.trans e2).chg _).trans c3
  have s3 := c3.size
  refine Z83 (j := k) rfl rfl rfl (by omega) ?_
  refine Z11 rfl hcell3 ?_
  refine WO_call rfl (sParseProgram_ret t w3 (by omega)) ?_
  rintro _ w4 hP
  obtain ⟨tv, bv, tl, l, b, Ft, Fb, rfl, i1, i2, hF, o1, o2, htl6, hcl, e4⟩ := hP.read
  have hz4 := hz3.ext e4
  have hr4 := hr3.ext e4
  have s1 := hz.lt
  have s2 := e2.size_le
  refine goS ?_
  refine WO_alloc fun w5 hb5 e5 z5 => ?_
  refine WO_storeS (k := 2) (vs := [tv, bv]) rfl rfl rfl (by simp; exact ⟨o1, o2⟩) hb5 (by decide) fun w6 hb6 o6 => ?_
  replace hb6 : Blk w6 w4.heap.size [tv, bv] _ := hb6
  have e6 : Ext w4 w6 := e5.only o6 (Nat.le_refl _)
  have hz6 := hz4.ext e6
  have hr6 := hr4.ext e6
  have i16 := i1.ext e6
  have i26 := i2.ext e6
  have c6 : Chg [rb] w w6 := (c03.trans (e4.chg _)).trans (e6.chg _)
  have s6 := hb6.lt
  have s4 := e4.size_le
  refine goS ?_
  refine WO_call rfl (pickU_ret rb (q + 1) 3 w6 hr6 (by omega) (by decide)) ?_
  rintro _ w7 ⟨m, rfl, hm, hr7, c7⟩
  have hz7 := hz6.chg c7 (by simp; omega)
  have hb7 := hb6.chg c7 (by simp; omega)
  have i17 := i16.chg c7 (fun x hx => by have := hF x (by simp [hx]); simp; omega)
  have i27 := i26.chg c7 (fun x hx => by have := hF x (by simp [hx]); simp; omega)
  have c07 := c6.trans c7
  have s7 := c7.size
  have fin : ∀ wz, Only w.heap.size w7 wz → DrP w.heap.size 600 wz (prV tv bv) ∧ RdU wz rb (q + 1000) ∧ Chg [rb] w wz := fun wz oz => by
    have sz := oz.size
    refine ⟨⟨tv, bv, tl, l, Ft, Fb, rfl, i17.chg oz.chg (fun x hx => ?_), i27.chg oz.chg (fun x hx => ?_), fun x hx => ?_, by omega, by omega⟩, RdU.mono (RdU.chg hr7 oz.chg (by simp; omega)) (by omega), Chg.freshS c07 oz.chg (by simp)⟩
    · have := hF x (by simp [hx]); simp; omega
    · have := hF x (by simp [hx]); simp; omega
    · have := hF x hx; omega
  by_cases hm0 : m = 0
  · subst hm0
    obtain ⟨A, c, rfl, hlt, hix⟩ := i17
    refine goS ?_
    by_cases h0 : tl.length = 0
    · rw [h0]
      refine goS ?_
      refine WO_loadSB rfl hb7 rfl ?_
      refine WO_storeS (k := 2) (vs := [.slice A tl.length c, bv]) rfl rfl rfl (by simp; exact ⟨o1, o2⟩) hz7 (by decide) fun wz hzz oz => ?_
      replace hzz : Blk wz w.heap.size [.slice A tl.length c, bv] _ := hzz
      refine goS ?_
      exact at_retC rfl rfl hzz rfl (fin wz oz)
    · rw [show (((tl.length : Nat) : Int) == 0) = false from by rw [beq_eq_false_iff_ne]; omega]
      refine goS ?_
      refine WO_ints [1, 2, 2, 3, 4, 4] rfl rfl (by decide) (by decide) fun wa hia ea za => ?_
      refine Z13 (Z30 (cs := [.slice (some ⟨w7.heap.size, 0, none⟩) 6 6, .slice none 0 0]) rfl (by simp [partsOk, sl_one]) rfl) ?_
      refine WO_alloc fun w8 hb8 e8 z8 => ?_
      refine WO_storeS (k := 2) (vs := [.slice (some ⟨w7.heap.size, 0, none⟩) 6 6, .slice none 0 0]) rfl rfl rfl (by simp [sl_one]) hb8 (by decide) fun w9 hb9 o9 => ?_
      replace hb9 : Blk w9 wa.heap.size [.slice (some ⟨w7.heap.size, 0, none⟩) 6 6, .slice none 0 0] _ := hb9
      have e9 : Ext wa w9 := e8.only o9 (Nat.le_refl _)
      have ea9 := ea.trans e9
      have hr9 := hr7.ext ea9
      have hz9 := hz7.ext ea9
      have hi9 := hia.ext e9
      have c9 : Chg [rb] w w9 := c07.trans (ea9.chg _)
      have s9 := hb9.lt
      refine goS ?_
      refine W_held0 [rb, wa.heap.size] [(2, .pointer (some ⟨w.heap.size, 0, none⟩)), (6, .pointer (some ⟨wa.heap.size, 0, none⟩))] (fun w' => ∃ v, Blk w' wa.heap.size [.slice (some ⟨w7.heap.size, 0, none⟩) 6 6, v] 26 ∧ LsB 59 w9.heap.size 600 w' v ∧ RdU w' rb (q + 1000) ∧ Chg [rb, wa.heap.size] w9 w') (by kernel_rfl) (fun ws es hS => ?_) (fun wr hR => ?_)
      · have hbs := hb9.ext es
        have ss := es.size_le
        first | refine Z82 0 rfl (by kernel_rfl) (by kernel_rfl) (by kernel_rfl) (by assumption) (fun w' hw' => Z56 rfl) ?_ | refine Z82 0 rfl (by kernel_rfl) (by kernel_rfl) (by kernel_rfl) (by assumption) (fun w' hw' => Z63 rfl rfl) ?_ | refine Z82 0 rfl (by kernel_rfl) (by kernel_rfl) (by kernel_rfl) (by assumption) (fun w' hw' => Z64 rfl rfl) ?_ | refine Z82 0 rfl (by kernel_rfl) (by kernel_rfl) (by kernel_rfl) (by assumption) (fun w' hw' => Z75 rfl rfl (by omega)) ?_ | refine Z82 0 rfl (by kernel_rfl) (by kernel_rfl) (by kernel_rfl) (by assumption) (fun w' hw' => Z72 rfl) ?_ | refine Z82 0 rfl (by kernel_rfl) (by kernel_rfl) (by kernel_rfl) (by assumption) (fun w' hw' => Z69 rfl rfl rfl (by omega)) ?_ | refine Z82 0 rfl (by kernel_rfl) (by kernel_rfl) (by kernel_rfl) (by assumption) (fun w' hw' => Z30 rfl (by rfl) (by simp only [Z84, List.set_cons_zero, List.set_cons_succ]; rfl)) ?_
        first | refine Z82 1 rfl (by kernel_rfl) (by kernel_rfl) (by kernel_rfl) (by assumption) (fun w' hw' => Z56 rfl) ?_ | refine Z82 1 rfl (by kernel_rfl) (by kernel_rfl) (by kernel_rfl) (by assumption) (fun w' hw' => Z63 rfl rfl) ?_ | refine Z82 1 rfl (by kernel_rfl) (by kernel_rfl) (by kernel_rfl) (by assumption) (fun w' hw' => Z64 rfl rfl) ?_ | refine Z82 1 rfl (by kernel_rfl) (by kernel_rfl) (by kernel_rfl) (by assumption) (fun w' hw' => Z75 rfl rfl (by omega)) ?_ | refine Z82 1 rfl (by kernel_rfl) (by kernel_rfl) (by kernel_rfl) (by assumption) (fun w' hw' => Z72 rfl) ?_ | refine Z82 1 rfl (by kernel_rfl) (by kernel_rfl) (by kernel_rfl) (by assumption) (fun w' hw' => Z69 rfl rfl rfl (by omega)) ?_ | refine Z82 1 rfl (by kernel_rfl) (by kernel_rfl) (by kernel_rfl) (by assumption) (fun w' hw' => Z30 rfl (by rfl) (by simp only [Z84, List.set_cons_zero, List.set_cons_succ]; rfl)) ?_
        first | refine Z82 3 rfl (by kernel_rfl) (by kernel_rfl) (by kernel_rfl) (by assumption) (fun w' hw' => Z56 rfl) ?_ | refine Z82 3 rfl (by kernel_rfl) (by kernel_rfl) (by kernel_rfl) (by assumption) (fun w' hw' => Z63 rfl rfl) ?_ | refine Z82 3 rfl (by kernel_rfl) (by kernel_rfl) (by kernel_rfl) (by assumption) (fun w' hw' => Z64 rfl rfl) ?_ | refine Z82 3 rfl (by kernel_rfl) (by kernel_rfl) (by kernel_rfl) (by assumption) (fun w' hw' => Z75 rfl rfl (by omega)) ?_ | refine Z82 3 rfl (by kernel_rfl) (by kernel_rfl) (by kernel_rfl) (by assumption) (fun w' hw' => Z72 rfl) ?_ | refine Z82 3 rfl (by kernel_rfl) (by kernel_rfl) (by kernel_rfl) (by assumption) (fun w' hw' => Z69 rfl rfl rfl (by omega)) ?_ | refine Z82 3 rfl (by kernel_rfl) (by kernel_rfl) (by kernel_rfl) (by assumption) (fun w' hw' => Z30 rfl (by rfl) (by simp only [Z84, List.set_cons_zero, List.set_cons_succ]; rfl)) ?_
        have hrs := hr9.ext es
        refine WH_two 2 4 rfl rfl (by kernel_rfl) ?_ ?_
        · refine Z10 rfl hbs rfl (Z31 (at_held hS ?_))
          refine WH_one 4 rfl (by kernel_rfl) (WO_ints [5, 4, 7, 3, 8] rfl rfl (by decide) (by decide) fun wb hib eb zb => Z31 (at_held (eb.chg _) ?_))
          have hrb := hrs.ext eb
          refine WX_call 5 rfl (by kernel_rfl) rfl (numU_ret rb (q + 2) _ [5, 4, 7, 3, 8] _ wb hrb (by omega) hib.int (by decide) (by have := hrb.lt; have := hrs.lt; simp; omega)) ?_
          rintro _ wc ⟨y, hy, rfl, hrc, cc⟩
          have Sc : Chg [rb, wa.heap.size] ws wc := (eb.chg _).trans (cc.mono (by simp))
          refine ⟨Sc, ?_⟩
          have hbc := (hbs.ext eb).chg cc (by simp; omega)
          have hyn : ∃ n : Nat, y = (n : Int) ∧ n ≤ 8 := by
            simp only [List.mem_cons, List.not_mem_nil, or_false] at hy
            rcases hy with rfl | rfl | rfl | rfl | rfl
            · exact ⟨5, rfl, by decide⟩
            · exact ⟨4, rfl, by decide⟩
            · exact ⟨7, rfl, by decide⟩
            · exact ⟨3, rfl, by decide⟩
            · exact ⟨8, rfl, by decide⟩
          obtain ⟨n, rfl, hn⟩ := hyn
          have hn13 : n * oneB 2 ≤ 8 * 13 := Nat.mul_le_mul hn (by decide)
          have hn92 : n * oneQ 2 ≤ 8 * 92 := Nat.mul_le_mul hn (by decide)
          have sc := cc.size
          have sb := eb.size_le
          refine WX_call 6 rfl (by kernel_rfl) rfl (some2 rb (q + 3) n _ wc hrc (by omega) hn) ?_
          rintro v wd ⟨hL, hrd, cd⟩
          have Sd : Chg [rb, wa.heap.size] ws wd := Sc.trans (cd.mono (by simp))
          refine ⟨Sd, ?_⟩
          have hone := hL.one
          have hbd := hbc.chg cd (by simp; omega)
          first | refine Z82 7 rfl (by kernel_rfl) (by kernel_rfl) (by kernel_rfl) (by assumption) (fun w' hw' => Z56 rfl) ?_ | refine Z82 7 rfl (by kernel_rfl) (by kernel_rfl) (by kernel_rfl) (by assumption) (fun w' hw' => Z63 rfl rfl) ?_ | refine Z82 7 rfl (by kernel_rfl) (by kernel_rfl) (by kernel_rfl) (by assumption) (fun w' hw' => Z64 rfl rfl) ?_ | refine Z82 7 rfl (by kernel_rfl) (by kernel_rfl) (by kernel_rfl) (by assumption) (fun w' hw' => Z75 rfl rfl (by omega)) ?_ | refine Z82 7 rfl (by kernel_rfl) (by kernel_rfl) (by kernel_rfl) (by assumption) (fun w' hw' => Z72 rfl) ?_ | refine Z82 7 rfl (by kernel_rfl) (by kernel_rfl) (by kernel_rfl) (by assumption) (fun w' hw' => Z69 rfl rfl rfl (by omega)) ?_ | refine Z82 7 rfl (by kernel_rfl) (by kernel_rfl) (by kernel_rfl) (by assumption) (fun w' hw' => Z30 rfl (by rfl) (by simp only [Z84, List.set_cons_zero, List.set_cons_succ]; rfl)) ?_
          refine WH_one 8 rfl (by kernel_rfl) (WO_store1 rfl rfl hone hbd (by simp) fun wf hbf of => Z31 (at_held (Sd.trans (of.chg.mono (by simp))) ?_))
          simp only [List.set_cons_zero, List.set_cons_succ] at hbf
          have sd := cd.size
          refine WH_done (by kernel_rfl) (by repeat (first | exact True.intro | refine And.intro rfl ?_)) ⟨v, hbf, ?_, RdU.mono (RdU.chg hrd of.chg (by simp; omega)) (by omega), (es.chg _).trans (Sd.trans (of.chg.mono (by simp)))⟩
          obtain ⟨l', xs', Fs', g1, g2, g3, g4, g5⟩ := (hL.chg of.chg (by simp; omega)).mono (k' := 600) (by omega)
          exact ⟨l', xs', Fs', ⟨g1.1, by
            rcases g1.2 with h | ⟨gg, cap, cur, h1, h2, h3⟩
            · exact .inl h
            · exact .inr ⟨gg, cap, cur, h1, by omega, h3⟩⟩, g2, g3, fun b hb => by have := g4 b hb; omega, g5⟩
        · refine WO_ints [5, 4, 7, 3, 8] rfl rfl (by decide) (by decide) fun wb hib eb zb => Z31 (at_held (eb.chg _) ?_)
          have hrb := hrs.ext eb
          refine WH_two 2 5 rfl rfl (by kernel_rfl) ?_ ?_
          · refine Z10 rfl (hbs.ext eb) rfl (Z31 (at_held (eb.chg _) ?_))
            refine WX_call 5 rfl (by kernel_rfl) rfl (numU_ret rb (q + 2) _ [5, 4, 7, 3, 8] _ wb hrb (by omega) hib.int (by decide) (by have := hrb.lt; have := hrs.lt; simp; omega)) ?_
            rintro _ wc ⟨y, hy, rfl, hrc, cc⟩
            have Sc : Chg [rb, wa.heap.size] ws wc := (eb.chg _).trans (cc.mono (by simp))
            refine ⟨Sc, ?_⟩
            have hbc := (hbs.ext eb).chg cc (by simp; omega)
            have hyn : ∃ n : Nat, y = (n : Int) ∧ n ≤ 8 := by
              simp only [List.mem_cons, List.not_mem_nil, or_false] at hy
              rcases hy with rfl | rfl | rfl | rfl | rfl
              · exact ⟨5, rfl, by decide⟩
              · exact ⟨4, rfl, by decide⟩
              · exact ⟨7, rfl, by decide⟩
              · exact ⟨3, rfl, by decide⟩
              · exact ⟨8, rfl, by decide⟩
            obtain ⟨n, rfl, hn⟩ := hyn
            have hn13 : n * oneB 2 ≤ 8 * 13 := Nat.mul_le_mul hn (by decide)
            have hn92 : n * oneQ 2 ≤ 8 * 92 := Nat.mul_le_mul hn (by decide)
            have sc := cc.size
            have sb := eb.size_le
            refine WX_call 6 rfl (by kernel_rfl) rfl (some2 rb (q + 3) n _ wc hrc (by omega) hn) ?_
            rintro v wd ⟨hL, hrd, cd⟩
            have Sd : Chg [rb, wa.heap.size] ws wd := Sc.trans (cd.mono (by simp))
            refine ⟨Sd, ?_⟩
            have hone := hL.one
            have hbd := hbc.chg cd (by simp; omega)
            first | refine Z82 7 rfl (by kernel_rfl) (by kernel_rfl) (by kernel_rfl) (by assumption) (fun w' hw' => Z56 rfl) ?_ | refine Z82 7 rfl (by kernel_rfl) (by kernel_rfl) (by kernel_rfl) (by assumption) (fun w' hw' => Z63 rfl rfl) ?_ | refine Z82 7 rfl (by kernel_rfl) (by kernel_rfl) (by kernel_rfl) (by assumption) (fun w' hw' => Z64 rfl rfl) ?_ | refine Z82 7 rfl (by kernel_rfl) (by kernel_rfl) (by kernel_rfl) (by assumption) (fun w' hw' => Z75 rfl rfl (by omega)) ?_ | refine Z82 7 rfl (by kernel_rfl) (by kernel_rfl) (by kernel_rfl) (by assumption) (fun w' hw' => Z72 rfl) ?_ | refine Z82 7 rfl (by kernel_rfl) (by kernel_rfl) (by kernel_rfl) (by assumption) (fun w' hw' => Z69 rfl rfl rfl (by omega)) ?_ | refine Z82 7 rfl (by kernel_rfl) (by kernel_rfl) (by kernel_rfl) (by assumption) (fun w' hw' => Z30 rfl (by rfl) (by simp only [Z84, List.set_cons_zero, List.set_cons_succ]; rfl)) ?_
            refine WH_one 8 rfl (by kernel_rfl) (WO_store1 rfl rfl hone hbd (by simp) fun wf hbf of => Z31 (at_held (Sd.trans (of.chg.mono (by simp))) ?_))
            simp only [List.set_cons_zero, List.set_cons_succ] at hbf
            have sd := cd.size
            refine WH_done (by kernel_rfl) (by repeat (first | exact True.intro | refine And.intro rfl ?_)) ⟨v, hbf, ?_, RdU.mono (RdU.chg hrd of.chg (by simp; omega)) (by omega), (es.chg _).trans (Sd.trans (of.chg.mono (by simp)))⟩
            obtain ⟨l', xs', Fs', g1, g2, g3, g4, g5⟩ := (hL.chg of.chg (by simp; omega)).mono (k' := 600) (by omega)
            exact ⟨l', xs', Fs', ⟨g1.1, by
              rcases g1.2 with h | ⟨gg, cap, cur, h1, h2, h3⟩
              · exact .inl h
              · exact .inr ⟨gg, cap, cur, h1, by omega, h3⟩⟩, g2, g3, fun b hb => by have := g4 b hb; omega, g5⟩
          · refine WO_call rfl (numU_ret rb (q + 2) _ [5, 4, 7, 3, 8] _ wb hrb (by omega) hib.int (by decide) (by have := hrb.lt; have := hrs.lt; simp; omega)) ?_
            rintro _ wc ⟨y, hy, rfl, hrc, cc⟩
            have Sc : Chg [rb, wa.heap.size] ws wc := (eb.chg _).trans (cc.mono (by simp))
            refine Z31 (at_held Sc ?_)
            refine WH_one 2 rfl (by kernel_rfl) (Z10 rfl ((hbs.ext eb).chg cc (by simp; omega)) rfl (Z31 (at_held Sc ?_)))
            have hbc := (hbs.ext eb).chg cc (by simp; omega)
            have hyn : ∃ n : Nat, y = (n : Int) ∧ n ≤ 8 := by
              simp only [List.mem_cons, List.not_mem_nil, or_false] at hy
              rcases hy with rfl | rfl | rfl | rfl | rfl
              · exact ⟨5, rfl, by decide⟩
              · exact ⟨4, rfl, by decide⟩
              · exact ⟨7, rfl, by decide⟩
              · exact ⟨3, rfl, by decide⟩
              · exact ⟨8, rfl, by decide⟩
            obtain ⟨n, rfl, hn⟩ := hyn
            have hn13 : n * oneB 2 ≤ 8 * 13 := Nat.mul_le_mul hn (by decide)
            have hn92 : n * oneQ 2 ≤ 8 * 92 := Nat.mul_le_mul hn (by decide)
            have sc := cc.size
            have sb := eb.size_le
            refine WX_call 6 rfl (by kernel_rfl) rfl (some2 rb (q + 3) n _ wc hrc (by omega) hn) ?_
            rintro v wd ⟨hL, hrd, cd⟩
            have Sd : Chg [rb, wa.heap.size] ws wd := Sc.trans (cd.mono (by simp))
            refine ⟨Sd, ?_⟩
            have hone := hL.one
            have hbd := hbc.chg cd (by simp; omega)
            first | refine Z82 7 rfl (by kernel_rfl) (by kernel_rfl) (by kernel_rfl) (by assumption) (fun w' hw' => Z56 rfl) ?_ | refine Z82 7 rfl (by kernel_rfl) (by kernel_rfl) (by kernel_rfl) (by assumption) (fun w' hw' => Z63 rfl rfl) ?_ | refine Z82 7 rfl (by kernel_rfl) (by kernel_rfl) (by kernel_rfl) (by assumption) (fun w' hw' => Z64 rfl rfl) ?_ | refine Z82 7 rfl (by kernel_rfl) (by kernel_rfl) (by kernel_rfl) (by assumption) (fun w' hw' => Z75 rfl rfl (by omega)) ?_ | refine Z82 7 rfl (by kernel_rfl) (by kernel_rfl) (by kernel_rfl) (by assumption) (fun w' hw' => Z72 rfl) ?_ | refine Z82 7 rfl (by kernel_rfl) (by kernel_rfl) (by kernel_rfl) (by assumption) (fun w' hw' => Z69 rfl rfl rfl (by omega)) ?_ | refine Z82 7 rfl (by kernel_rfl) (by kernel_rfl) (by kernel_rfl) (by assumption) (fun w' hw' => Z30 rfl (by rfl) (by simp only [Z84, List.set_cons_zero, List.set_cons_succ]; rfl)) ?_
            refine WH_one 8 rfl (by kernel_rfl) (WO_store1 rfl rfl hone hbd (by simp) fun wf hbf of => Z31 (at_held (Sd.trans (of.chg.mono (by simp))) ?_))
            simp only [List.set_cons_zero, List.set_cons_succ] at hbf
            have sd := cd.size
            refine WH_done (by kernel_rfl) (by repeat (first | exact True.intro | refine And.intro rfl ?_)) ⟨v, hbf, ?_, RdU.mono (RdU.chg hrd of.chg (by simp; omega)) (by omega), (es.chg _).trans (Sd.trans (of.chg.mono (by simp)))⟩
            obtain ⟨l', xs', Fs', g1, g2, g3, g4, g5⟩ := (hL.chg of.chg (by simp; omega)).mono (k' := 600) (by omega)
            exact ⟨l', xs', Fs', ⟨g1.1, by
              rcases g1.2 with h | ⟨gg, cap, cur, h1, h2, h3⟩
              · exact .inl h
              · exact .inr ⟨gg, cap, cur, h1, by omega, h3⟩⟩, g2, g3, fun b hb => by have := g4 b hb; omega, g5⟩
      · obtain ⟨v, hbr, hL, hrr, cr⟩ := hR
        have hzr := hz9.chg cr (by simp; omega)
        have hone := hL.one
        refine goS ?_
        refine WO_loadSB rfl hbr rfl ?_
        refine WO_storeS (k := 2) (vs := [.slice (some ⟨w7.heap.size, 0, none⟩) 6 6, v]) rfl rfl rfl (by simp; exact ⟨rfl, hone⟩) hzr (by decide) fun wz hzz oz => ?_
        replace hzz : Blk wz w.heap.size [.slice (some ⟨w7.heap.size, 0, none⟩) 6 6, v] _ := hzz
        have sr := cr.size
        have sz := oz.size
        obtain ⟨l', F', hrow, _, hF', hcl'⟩ := (hL.chg oz.chg (by simp; omega)).row
        have hlt' := hrow.lt
        have hi' := ((hi9.chg cr (by simp; omega)).chg oz.chg (by simp; omega)).int
        refine goS ?_
        refine at_retC rfl rfl hzz rfl ⟨⟨_, v, [1, 2, 2, 3, 4, 4], l', _, F', rfl, hi', hrow.sts, fun x hx => ?_, by decide, by omega⟩, RdU.chg hrr oz.chg (by simp; omega), Chg.freshS (Chg.freshS c9 cr (by simp; omega)) oz.chg (by simp)⟩
        rcases List.mem_append.1 hx with h | h
        · simp at h; subst h; omega
        · have := hF' x h; have := hlt' x h; omega
  · refine goS ?_
    rw [decide_eq_true (show (m : Int) > 0 by omega)]
    refine goS ?_
    refine WO_loadSB rfl hb7 rfl ?_
    refine WO_storeS (k := 2) (vs := [tv, bv]) rfl rfl rfl (by simp; exact ⟨o1, o2⟩) hz7 (by decide) fun wz hzz oz => ?_
    replace hzz : Blk wz w.heap.size [tv, bv] _ := hzz
    refine goS ?_
    exact at_retC rfl rfl hzz rfl (fin wz oz)
end Go.Proofs.YtplcmbipeanjdaaGreatDoor
namespace Go.Proofs.YtplcmbipeanjdaaGreatDoor
set_option linter.unusedVariables false
set_option linter.unusedSimpArgs false
set_option linter.unnecessarySimpa false
open Go.RowKit

/-- A program by value in new memory, both of whose parts can grow. -/
def RowPr (ei e : TypeId) (tl : List Int) (l : Ss) (w : World) (r : Value) (w' : World) : Prop :=
  ∃ tv bv Fb, r = prV tv bv ∧ w'.ownsRow w.heap.size ei 1 tv tl.length (tl.map (.int .i64)) ∧ RowS e w' bv l Fb ∧ (tv.ownBlock.toList ++ Fb).Nodup ∧ (∀ b ∈ tv.ownBlock.toList ++ Fb, w.heap.size ≤ b) ∧ Ext w w'
theorem l1CopyOfR_ret (tv bv : Value) (tl : List Int) (l : Ss) (Ft F : List Nat) (w : World) (ht : IntF w tv tl Ft) (h : StS w bv l F) (hn : tl.length ≤ 1048576) (hn2 : cntL l ≤ 1048576) :
    Ret Tryz.prog 51 [prV tv bv] w (RowPr 3 59 tl l w) := by
  refine enter Tryz.func51 rfl Tryz.ntmps51 rfl rfl ?_
  refine Z43 (Z44 (WO_box rfl fun w1 hs e1 z1 => WO_alloc fun w2 hr e2 z2 => ?_))
  replace hs : Blk w2 w.heap.size [tv, bv] _ := Blk.ext hs e2
  replace hr : Blk w2 w1.heap.size [.slice none 0 0, .slice none 0 0] _ := hr
  have e12 := e1.trans e2
  have s1 := e1.size_le
  have s2 := e2.size_le
  refine goS ?_
  refine W_held0 [w1.heap.size] [(2, .pointer (some ⟨w1.heap.size, 0, none⟩))] (fun w' => ∃ tv' bv' Fb, Blk w' w1.heap.size [tv', bv'] 26 ∧ w'.ownsRow w2.heap.size 3 1 tv' tl.length (tl.map (.int .i64)) ∧ RowS 59 w' bv' l Fb ∧ (tv'.ownBlock.toList ++ Fb).Nodup ∧ (∀ b ∈ tv'.ownBlock.toList ++ Fb, w2.heap.size ≤ b) ∧ Chg [w1.heap.size] w2 w') (by kernel_rfl) (fun ws es hS => ?_) (fun w4 hR => ?_)
  · have hss := es.size_le
    first | refine Z82 1 rfl (by kernel_rfl) (by kernel_rfl) (by kernel_rfl) (by assumption) (fun w' hw' => Z56 rfl) ?_ | refine Z82 1 rfl (by kernel_rfl) (by kernel_rfl) (by kernel_rfl) (by assumption) (fun w' hw' => Z63 rfl rfl) ?_ | refine Z82 1 rfl (by kernel_rfl) (by kernel_rfl) (by kernel_rfl) (by assumption) (fun w' hw' => Z64 rfl rfl) ?_ | refine Z82 1 rfl (by kernel_rfl) (by kernel_rfl) (by kernel_rfl) (by assumption) (fun w' hw' => Z75 rfl rfl (by omega)) ?_ | refine Z82 1 rfl (by kernel_rfl) (by kernel_rfl) (by kernel_rfl) (by assumption) (fun w' hw' => Z72 rfl) ?_ | refine Z82 1 rfl (by kernel_rfl) (by kernel_rfl) (by kernel_rfl) (by assumption) (fun w' hw' => Z69 rfl rfl rfl (by omega)) ?_ | refine Z82 1 rfl (by kernel_rfl) (by kernel_rfl) (by kernel_rfl) (by assumption) (fun w' hw' => Z30 rfl (by rfl) (by simp only [Z84, List.set_cons_zero, List.set_cons_succ]; rfl)) ?_
    refine Z82 2 rfl (by kernel_rfl) (by kernel_rfl) (by kernel_rfl) (by assumption) (fun w' hw' => Z66 rfl ((hs.ext es).chg hw' (by simp; omega)) rfl) ?_
    first | refine Z82 4 rfl (by kernel_rfl) (by kernel_rfl) (by kernel_rfl) (by assumption) (fun w' hw' => Z56 rfl) ?_ | refine Z82 4 rfl (by kernel_rfl) (by kernel_rfl) (by kernel_rfl) (by assumption) (fun w' hw' => Z63 rfl rfl) ?_ | refine Z82 4 rfl (by kernel_rfl) (by kernel_rfl) (by kernel_rfl) (by assumption) (fun w' hw' => Z64 rfl rfl) ?_ | refine Z82 4 rfl (by kernel_rfl) (by kernel_rfl) (by kernel_rfl) (by assumption) (fun w' hw' => Z75 rfl rfl (by omega)) ?_ | refine Z82 4 rfl (by kernel_rfl) (by kernel_rfl) (by kernel_rfl) (by assumption) (fun w' hw' => Z72 rfl) ?_ | refine Z82 4 rfl (by kernel_rfl) (by kernel_rfl) (by kernel_rfl) (by assumption) (fun w' hw' => Z69 rfl rfl rfl (by omega)) ?_ | refine Z82 4 rfl (by kernel_rfl) (by kernel_rfl) (by kernel_rfl) (by assumption) (fun w' hw' => Z30 rfl (by rfl) (by simp only [Z84, List.set_cons_zero, List.set_cons_succ]; rfl)) ?_
    refine Z82 5 rfl (by kernel_rfl) (by kernel_rfl) (by kernel_rfl) (by assumption) (fun w' hw' => Z66 rfl ((hs.ext es).chg hw' (by simp; omega)) rfl) ?_
    refine WH_one 0 rfl (by kernel_rfl) (WO_build0 (e := 3) (k := 1) fun w0 hb0 e0 z0 => Z31 (at_held (e0.chg _) ?_))
    have hown0 := owns_empty (B := ws.heap.size) (k := 1) hb0 (Nat.le_refl _)
    refine WH_one 3 rfl (by kernel_rfl) (WO_appI (l0 := []) rfl hown0 rfl (ht.ext ((e12.trans es).trans e0)) e0.size (by simp; omega) (by decide) fun tv' wc hown1 hg hat => Z31 (at_held ((grown_below e0 hown0 hg (Nat.le_refl _)).chg _) ?_))
    have ec : Ext ws wc := grown_below e0 hown0 hg (Nat.le_refl _)
    rw [List.nil_append] at hown1
    have hb1 := hown1.lt
    have hone1 := row_one (ownsRow_base0 hown1)
    refine WX_call 6 rfl (by kernel_rfl) rfl (l1Copy_all l bv F wc (h.ext ((e12.trans es).trans ec)) hn2) ?_
    rintro bv' wd hg2
    obtain ⟨⟨G2, q2, n2, b2⟩, ed⟩ := hg2.new
    have ecd := ec.trans ed
    have hSd : Chg [w1.heap.size] ws wd := ecd.chg _
    refine ⟨hSd, ?_⟩
    have hone2 := q2.one
    have hsc := ec.size_le
    refine Z82 7 rfl (by kernel_rfl) (by kernel_rfl) (by kernel_rfl) (by assumption) (fun w' hw' => Z30 (cs := [tv', bv']) rfl (by simp [partsOk, hone1, hone2]) rfl) ?_
    refine WH_one 8 rfl (by kernel_rfl) (WO_storeS (k := 2) (vs := [tv', bv']) rfl rfl rfl (by simp; exact ⟨hone1, hone2⟩) ((hr.ext es).ext ecd) (by decide) fun wf hbf of => Z31 (at_held (hSd.trans of.chg) ?_))
    replace hbf : Blk wf w1.heap.size [tv', bv'] _ := hbf
    have hsw := es.size_le
    refine WH_done (by kernel_rfl) (by repeat (first | exact True.intro | refine And.intro rfl ?_)) ⟨tv', bv', G2, hbf, ?_, q2.chg of.chg (fun z hz hm => by simp at hm; subst hm; have := b2 _ hz; omega), List.nodup_append.2 ⟨nodup_own _, n2, fun a ha b hb e => by subst e; have := (hb1 a (by simpa using ha)).2; have := b2 a hb; omega⟩, fun b hb => ?_, (es.chg _).trans (hSd.trans of.chg)⟩
    · have hx := ownsRow_chg (ownsRow_ext hown1 ed) of.chg (fun z hz hm => by simp at hm; subst hm; have := (hb1 _ (by simpa using hz)).1; omega)
      exact ⟨by simpa using hx.1, by
        rcases hx.2 with h | ⟨gg, cap, cur, h1, h2, h3⟩
        · exact .inl h
        · exact .inr ⟨gg, cap, cur, h1, by omega, h3⟩⟩
    · rcases List.mem_append.1 hb with hb | hb
      · have := (hb1 b (by simpa using hb)).1; omega
      · have := b2 b hb; omega
  · obtain ⟨tv', bv', Fb, hb4, q1, q2, nd, bd, c4⟩ := hR
    refine goS ?_
    exact at_retC rfl rfl hb4 rfl ⟨tv', bv', Fb, rfl, ⟨q1.1, by
      rcases q1.2 with h | ⟨gg, cap, cur, h1, h2, h3⟩
      · exact .inl h
      · exact .inr ⟨gg, cap, cur, h1, by omega, h3⟩⟩, q2, nd, fun b hb => by have := bd b hb; omega, c4.ext_of e12 (by simp; omega)⟩
end Go.Proofs.YtplcmbipeanjdaaGreatDoor
