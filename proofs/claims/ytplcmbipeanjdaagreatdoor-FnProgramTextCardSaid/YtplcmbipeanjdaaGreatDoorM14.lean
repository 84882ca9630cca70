/-
  What is proved here: what the program's reader of texts reads: statements and lists of statements, in new memory; the reference's parser reads a valid program back from its text, said of lists of bytes. No function of the program stands here.
-/
import Derived.Test.YtplcmbipeanjdaaGreatDoorM13
import Derived.Test.YtplcmbipeanjdaaGreatDoorM8
namespace Go.Proofs.YtplcmbipeanjdaaGreatDoor
set_option linter.unusedVariables false
set_option linter.unusedSimpArgs false
set_option linter.unnecessarySimpa false
open Go.RowKit

theorem hasF_stay {p : Tx} {st : RSt} (h : (hasF p st).1 = false) : (hasF p st).2 = st := by
  unfold hasF at h ⊢
  split at h
  · cases h
  · rename_i hq
    rw [if_neg hq]
def RsP (d : Nat) : Prop := ∀ (rb : Nat) (st : RSt) (w : World), RdX w rb st → st.1.length ≤ 1000 → Ret Tryz.prog 17 [.pointer (some ⟨rb, 0, none⟩), .int .i64 (5 - (d : Int))] w fun r w' => LsX 59 w.heap.size w' r (stmtsF d st).1 ∧ RdX w' rb (stmtsF d st).2 ∧ Chg [rb] w w'
def RtP (d : Nat) : Prop := ∀ (rb : Nat) (st : RSt) (w : World), RdX w rb st → st.1.length ≤ 1000 → Ret Tryz.prog 34 [.pointer (some ⟨rb, 0, none⟩), .int .i64 (4 - (d : Int))] w fun r w' => StX 59 w.heap.size w' r (stmtF (stmtsF d) st).1 ∧ RdX w' rb (stmtF (stmtsF d) st).2 ∧ Chg [rb] w w'
theorem stmt_of (d : Nat) (hd : d ≤ 4) (ih : RsP d) : RtP d := by
  intro rb st w h hl
  have hrb := h.lt
  refine enter Tryz.func34 rfl Tryz.ntmps34 rfl rfl ?_
  refine goT ?_
  refine WO_alloc fun w1 hz e1 z1 => ?_
  replace hz : Blk w1 w.heap.size [.int .i64 0, .int .i64 0, .int .i64 0, .int .i64 0, .slice none 0 0, .slice none 0 0] _ := hz
  have hr := h.ext e1
  have C : Chg [rb] w w1 := e1.chg _
  have sw := hz.lt
  refine goT ?_
  refine WO_call rfl (has_ret rb wIf st _ hr) ?_
  rintro _ w2 ⟨rfl, hr', c'⟩
  have szw2 := c'.size
  replace hz := hz.chg c' (by simp; omega)
  replace C := C.trans c'
  replace hr := hr'
  cases h1 : (hasF wIf st).1 with
  | true =>
    have k1 := hasF_len wIf st
    refine goT ?_
    rw [show (4 - (d : Int)) + 1 = 5 - (d : Int) from by omega]
    refine WO_call rfl (ih rb ((hasF wIf st).2) _ hr (by omega)) ?_
    rintro v3 w3 ⟨L3, hr', c'⟩
    obtain ⟨F3, q3, n3, b3⟩ := L3.row
    have l3 := q3.lt
    have o3 := q3.one
    have szw3 := c'.size
    replace hz := hz.chg c' (by simp; omega)
    replace C := C.trans c'
    replace hr := hr'
    have k2 := stmtsF_len d (hasF wIf st).2
    refine Z13 (Z30 (cs := [.int .i64 9, .int .i64 0, .int .i64 0, .int .i64 0, v3, .slice none 0 0]) rfl (by simp [partsOk, o3, int_one, sl_one]) rfl) ?_
    refine WO_alloc fun w4 hs e4 z4 => ?_
    refine WO_storeS (k := 6) (vs := [.int .i64 9, .int .i64 0, .int .i64 0, .int .i64 0, v3, .slice none 0 0]) rfl rfl rfl (by intro u hu; simp at hu; rcases hu with rfl | rfl | rfl | rfl <;> first | rfl | assumption) hs (by decide) fun w5 hs o5 => ?_
    replace hs : Blk w5 w3.heap.size [.int .i64 9, .int .i64 0, .int .i64 0, .int .i64 0, v3, .slice none 0 0] _ := hs
    have s4 := e4.size_le
    have s5 := o5.size
    have sl5 := hs.lt
    have hF3 : ∀ z ∈ F3, w2.heap.size ≤ z ∧ z < w3.heap.size := fun z hz => ⟨b3 z hz, l3 z hz⟩
    replace hz := (hz.ext e4).chg o5.chg (by simp; omega)
    replace hr := (hr.ext e4).chg o5.chg (by simp; omega)
    replace C := Chg.freshS (C.trans (e4.chg _)) o5.chg (by simp; omega)
    replace q3 := (q3.ext e4).chg o5.chg (fun z hz hm => by have := hF3 z hz; simp at hm; omega)
    refine goT ?_
    refine WO_call rfl (skip_ret rb wMid _ _ hr) ?_
    rintro _ w6 ⟨rfl, hr', c'⟩
    have szw6 := c'.size
    replace hz := hz.chg c' (by simp; omega)
    replace C := C.trans c'
    replace hr := hr'
    replace hs := hs.chg c' (by simp; omega)
    replace q3 := q3.chg c' (fun z hz hm => by have := hF3 z hz; simp at hm; omega)
    have k3 := skipF_len wMid (stmtsF d (hasF wIf st).2).2
    refine goT ?_
    rw [show (4 - (d : Int)) + 1 = 5 - (d : Int) from by omega]
    refine WO_call rfl (ih rb (skipF wMid (stmtsF d (hasF wIf st).2).2) _ hr (by omega)) ?_
    rintro v7 w7 ⟨L7, hr', c'⟩
    obtain ⟨F7, q7, n7, b7⟩ := L7.row
    have l7 := q7.lt
    have o7 := q7.one
    have szw7 := c'.size
    replace hz := hz.chg c' (by simp; omega)
    replace C := C.trans c'
    replace hr := hr'
    replace hs := hs.chg c' (by simp; omega)
    replace q3 := q3.chg c' (fun z hz hm => by have := hF3 z hz; simp at hm; omega)
    have hF7 : ∀ z ∈ F7, w6.heap.size ≤ z ∧ z < w7.heap.size := fun z hz => ⟨b7 z hz, l7 z hz⟩
    refine goT ?_
    refine WO_store1 rfl rfl o7 hs (by simp) fun w8 hs8 o8 => ?_
    simp only [List.set_cons_zero, List.set_cons_succ] at hs8
    have s8 := o8.size
    replace hz := hz.chg o8.chg (by simp; omega)
    replace hr := hr.chg o8.chg (by simp; omega)
    replace C := Chg.freshS C o8.chg (by simp; omega)
    replace q3 := q3.chg o8.chg (fun z hz hm => by have := hF3 z hz; simp at hm; omega)
    replace q7 := q7.chg o8.chg (fun z hz hm => by have := hF7 z hz; simp at hm; omega)
    refine goT ?_
    refine WO_call rfl (skip_ret rb [125] _ _ hr) ?_
    rintro _ w9 ⟨rfl, hr', c'⟩
    have szw9 := c'.size
    replace hz := hz.chg c' (by simp; omega)
    replace C := C.trans c'
    replace hr := hr'
    replace hs8 := hs8.chg c' (by simp; omega)
    replace q3 := q3.chg c' (fun z hz hm => by have := hF3 z hz; simp at hm; omega)
    replace q7 := q7.chg c' (fun z hz hm => by have := hF7 z hz; simp at hm; omega)
    refine goT ?_
    refine WO_loadSB rfl hs8 rfl ?_
    refine WO_storeS (k := 6) (vs := [.int .i64 9, .int .i64 0, .int .i64 0, .int .i64 0, v3, v7]) rfl rfl rfl (by intro u hu; simp at hu; rcases hu with rfl | rfl | rfl | rfl <;> first | rfl | assumption) hz (by decide) fun wz hzz oz => ?_
    replace hzz : Blk wz w.heap.size [.int .i64 9, .int .i64 0, .int .i64 0, .int .i64 0, v3, v7] _ := hzz
    have hq : stmtF (stmtsF d) st = ((9, 0, 0, 0, (stmtsF d (hasF wIf st).2).1, (stmtsF d (skipF wMid (stmtsF d (hasF wIf st).2).2)).1), skipF [125] (stmtsF d (skipF wMid (stmtsF d (hasF wIf st).2).2)).2) := by
      unfold stmtF
      rw [if_pos h1]
    refine goT ?_
    refine at_retC rfl rfl hzz rfl ⟨?_, by rw [hq]; exact hr.chg oz.chg (by simp; omega), Chg.freshS C oz.chg (by simp)⟩
    rw [hq]
    refine ⟨v3, v7, F3, F7, rfl, q3.chg oz.chg (fun z hz hm => by have := hF3 z hz; simp at hm; omega), q7.chg oz.chg (fun z hz hm => by have := hF7 z hz; simp at hm; omega), ?_, ?_⟩
    · exact List.nodup_append.2 ⟨n3, n7, fun a ha b hb e => by have := hF3 a ha; have := hF7 b hb; omega⟩
    · intro z hz
      rcases List.mem_append.1 hz with hz | hz
      · have := hF3 z hz; omega
      · have := hF7 z hz; omega
  | false =>
    rw [hasF_stay h1] at hr
    refine goT ?_
    refine WO_call rfl (has_ret rb wLoop st _ hr) ?_
    rintro _ w3 ⟨rfl, hr', c'⟩
    have szw3 := c'.size
    replace hz := hz.chg c' (by simp; omega)
    replace C := C.trans c'
    replace hr := hr'
    cases h2 : (hasF wLoop st).1 with
    | true =>
      have k1 := hasF_len wLoop st
      refine goT ?_
      rw [show (4 - (d : Int)) + 1 = 5 - (d : Int) from by omega]
      refine WO_call rfl (ih rb ((hasF wLoop st).2) _ hr (by omega)) ?_
      rintro v4 w4 ⟨L4, hr', c'⟩
      obtain ⟨F4, q4, n4, b4⟩ := L4.row
      have l4 := q4.lt
      have o4 := q4.one
      have szw4 := c'.size
      replace hz := hz.chg c' (by simp; omega)
      replace C := C.trans c'
      replace hr := hr'
      refine Z13 (Z30 (cs := [.int .i64 10, .int .i64 0, .int .i64 0, .int .i64 0, v4, .slice none 0 0]) rfl (by simp [partsOk, o4, int_one, sl_one]) rfl) ?_
      refine WO_alloc fun w5 hs e5 z5 => ?_
      refine WO_storeS (k := 6) (vs := [.int .i64 10, .int .i64 0, .int .i64 0, .int .i64 0, v4, .slice none 0 0]) rfl rfl rfl (by intro u hu; simp at hu; rcases hu with rfl | rfl | rfl | rfl <;> first | rfl | assumption) hs (by decide) fun w6 hs o6 => ?_
      replace hs : Blk w6 w4.heap.size [.int .i64 10, .int .i64 0, .int .i64 0, .int .i64 0, v4, .slice none 0 0] _ := hs
      have s5 := e5.size_le
      have s6 := o6.size
      have sl5 := hs.lt
      have hF4 : ∀ z ∈ F4, w3.heap.size ≤ z ∧ z < w4.heap.size := fun z hz => ⟨b4 z hz, l4 z hz⟩
      replace hz := (hz.ext e5).chg o6.chg (by simp; omega)
      replace hr := (hr.ext e5).chg o6.chg (by simp; omega)
      replace C := Chg.freshS (C.trans (e5.chg _)) o6.chg (by simp; omega)
      replace q4 := (q4.ext e5).chg o6.chg (fun z hz hm => by have := hF4 z hz; simp at hm; omega)
      refine goT ?_
      refine WO_call rfl (skip_ret rb [125] _ _ hr) ?_
      rintro _ w7 ⟨rfl, hr', c'⟩
      have szw7 := c'.size
      replace hz := hz.chg c' (by simp; omega)
      replace C := C.trans c'
      replace hr := hr'
      replace hs := hs.chg c' (by simp; omega)
      replace q4 := q4.chg c' (fun z hz hm => by have := hF4 z hz; simp at hm; omega)
      refine goT ?_
      refine WO_loadSB rfl hs rfl ?_
      refine WO_storeS (k := 6) (vs := [.int .i64 10, .int .i64 0, .int .i64 0, .int .i64 0, v4, .slice none 0 0]) rfl rfl rfl (by intro u hu; simp at hu; rcases hu with rfl | rfl | rfl | rfl <;> first | rfl | assumption) hz (by decide) fun wz hzz oz => ?_
      replace hzz : Blk wz w.heap.size [.int .i64 10, .int .i64 0, .int .i64 0, .int .i64 0, v4, .slice none 0 0] _ := hzz
      have hq : stmtF (stmtsF d) st = ((10, 0, 0, 0, (stmtsF d (hasF wLoop st).2).1, .nil), skipF [125] (stmtsF d (hasF wLoop st).2).2) := by
        unfold stmtF
        rw [if_neg (by rw [h1]; simp), if_pos h2]
      refine goT ?_
      refine at_retC rfl rfl hzz rfl ⟨?_, by rw [hq]; exact hr.chg oz.chg (by simp; omega), Chg.freshS C oz.chg (by simp)⟩
      rw [hq]
      exact ⟨v4, _, F4, [], rfl, q4.chg oz.chg (fun z hz hm => by have := hF4 z hz; simp at hm; omega), RowS.nil_ _ _, by simpa using n4, fun z hz => by have := hF4 z (by simpa using hz); omega⟩
    | false =>
      rw [hasF_stay h2] at hr
      refine goT ?_
      refine WO_call rfl (has_ret rb wDrop st _ hr) ?_
      rintro _ w4 ⟨rfl, hr', c'⟩
      have szw4 := c'.size
      replace hz := hz.chg c' (by simp; omega)
      replace C := C.trans c'
      replace hr := hr'
      cases h3 : (hasF wDrop st).1 with
      | true =>
        refine goT ?_
        refine WO_call rfl (variable_ret rb _ _ hr) ?_
        rintro _ w5 ⟨rfl, hr', c'⟩
        have szw5 := c'.size
        replace hz := hz.chg c' (by simp; omega)
        replace C := C.trans c'
        replace hr := hr'
        have hq : stmtF (stmtsF d) st = ((8, (varF (hasF wDrop st).2).1, 0, 0, .nil, .nil), (varF (hasF wDrop st).2).2) := by
          unfold stmtF
          rw [if_neg (by rw [h1]; simp), if_neg (by rw [h2]; simp), if_pos h3]
        refine goT ?_
        refine WO_storeS (k := 6) (vs := [.int .i64 (8), .int .i64 ((varF (hasF wDrop st).2).1), .int .i64 (0), .int .i64 (0), .slice none 0 0, .slice none 0 0]) rfl rfl rfl (by simp [Value.oneCell']) hz (by decide) fun wz hzz oz => ?_
        replace hzz : Blk wz w.heap.size [.int .i64 (8), .int .i64 ((varF (hasF wDrop st).2).1), .int .i64 (0), .int .i64 (0), .slice none 0 0, .slice none 0 0] _ := hzz
        refine goT ?_
        exact at_retC rfl rfl hzz rfl ⟨by rw [hq]; exact StX.flat, by rw [hq]; exact hr.chg oz.chg (by simp; omega), Chg.freshS C oz.chg (by simp)⟩
      | false =>
        rw [hasF_stay h3] at hr
        refine goT ?_
        refine WO_call rfl (has_ret rb [42] st _ hr) ?_
        rintro _ w5 ⟨rfl, hr', c'⟩
        have szw5 := c'.size
        replace hz := hz.chg c' (by simp; omega)
        replace C := C.trans c'
        replace hr := hr'
        cases h4 : (hasF [42] st).1 with
        | true =>
          refine goT ?_
          refine WO_call rfl (variable_ret rb _ _ hr) ?_
          rintro _ w6 ⟨rfl, hr', c'⟩
          have szw6 := c'.size
          replace hz := hz.chg c' (by simp; omega)
          replace C := C.trans c'
          replace hr := hr'
          refine goT ?_
          refine WO_alloc fun w7 hs e7 z7 => ?_
          refine WO_storeS (k := 6) (vs := [.int .i64 (7), .int .i64 ((varF (hasF [42] st).2).1), .int .i64 0, .int .i64 0, .slice none 0 0, .slice none 0 0]) rfl rfl rfl (by simp [Value.oneCell']) hs (by decide) fun w8 hs o8 => ?_
          replace hs : Blk w8 w6.heap.size [.int .i64 (7), .int .i64 ((varF (hasF [42] st).2).1), .int .i64 0, .int .i64 0, .slice none 0 0, .slice none 0 0] _ := hs
          have s7 := e7.size_le
          have s8 := o8.size
          have sl8 := hs.lt
          replace hz := (hz.ext e7).chg o8.chg (by simp; omega)
          replace hr := (hr.ext e7).chg o8.chg (by simp; omega)
          replace C := Chg.freshS (C.trans (e7.chg _)) o8.chg (by simp; omega)
          refine goT ?_
          refine WO_call rfl (skip_ret rb [61] _ _ hr) ?_
          rintro _ w9 ⟨rfl, hr', c'⟩
          have szw9 := c'.size
          replace hz := hz.chg c' (by simp; omega)
          replace C := C.trans c'
          replace hr := hr'
          replace hs := hs.chg c' (by simp; omega)
          refine goT ?_
          refine WO_call rfl (variable_ret rb _ _ hr) ?_
          rintro _ w10 ⟨rfl, hr', c'⟩
          have szw10 := c'.size
          replace hz := hz.chg c' (by simp; omega)
          replace C := C.trans c'
          replace hr := hr'
          replace hs := hs.chg c' (by simp; omega)
          refine goT ?_
          refine WO_store1 rfl rfl rfl hs (by simp) fun wq hs oq => ?_
          simp only [List.set_cons_zero, List.set_cons_succ] at hs
          have sq := oq.size
          replace hz := hz.chg oq.chg (by simp; omega)
          replace hr := hr.chg oq.chg (by simp; omega)
          replace C := Chg.freshS C oq.chg (by simp; omega)
          have hq : stmtF (stmtsF d) st = ((7, (varF (hasF [42] st).2).1, (varF (skipF [61] (varF (hasF [42] st).2).2)).1, 0, .nil, .nil), (varF (skipF [61] (varF (hasF [42] st).2).2)).2) := by
            unfold stmtF
            rw [if_neg (by rw [h1]; simp), if_neg (by rw [h2]; simp), if_neg (by rw [h3]; simp), if_pos h4]
          refine goT ?_
          refine WO_loadSB rfl hs rfl ?_
          refine WO_storeS (k := 6) (vs := [.int .i64 (7), .int .i64 ((varF (hasF [42] st).2).1), .int .i64 ((varF (skipF [61] (varF (hasF [42] st).2).2)).1), .int .i64 (0), .slice none 0 0, .slice none 0 0]) rfl rfl rfl (by simp [Value.oneCell']) hz (by decide) fun wz hzz oz => ?_
          replace hzz : Blk wz w.heap.size [.int .i64 (7), .int .i64 ((varF (hasF [42] st).2).1), .int .i64 ((varF (skipF [61] (varF (hasF [42] st).2).2)).1), .int .i64 (0), .slice none 0 0, .slice none 0 0] _ := hzz
          refine goT ?_
          exact at_retC rfl rfl hzz rfl ⟨by rw [hq]; exact StX.flat, by rw [hq]; exact hr.chg oz.chg (by simp; omega), Chg.freshS C oz.chg (by simp)⟩
        | false =>
          rw [hasF_stay h4] at hr
          refine goT ?_
          refine WO_call rfl (variable_ret rb _ _ hr) ?_
          rintro _ w6 ⟨rfl, hr', c'⟩
          have szw6 := c'.size
          replace hz := hz.chg c' (by simp; omega)
          replace C := C.trans c'
          replace hr := hr'
          refine goT ?_
          refine WO_alloc fun w7 hs e7 z7 => ?_
          refine WO_storeS (k := 6) (vs := [.int .i64 (0), .int .i64 ((varF st).1), .int .i64 0, .int .i64 0, .slice none 0 0, .slice none 0 0]) rfl rfl rfl (by simp [Value.oneCell']) hs (by decide) fun w8 hs o8 => ?_
          replace hs : Blk w8 w6.heap.size [.int .i64 (0), .int .i64 ((varF st).1), .int .i64 0, .int .i64 0, .slice none 0 0, .slice none 0 0] _ := hs
          have s7 := e7.size_le
          have s8 := o8.size
          have sl8 := hs.lt
          replace hz := (hz.ext e7).chg o8.chg (by simp; omega)
          replace hr := (hr.ext e7).chg o8.chg (by simp; omega)
          replace C := Chg.freshS (C.trans (e7.chg _)) o8.chg (by simp; omega)
          refine goT ?_
          refine WO_call rfl (skip_ret rb [61] _ _ hr) ?_
          rintro _ w9 ⟨rfl, hr', c'⟩
          have szw9 := c'.size
          replace hz := hz.chg c' (by simp; omega)
          replace C := C.trans c'
          replace hr := hr'
          replace hs := hs.chg c' (by simp; omega)
          have hq0 : stmtF (stmtsF d) st = (let v := varF st
            let s := skipF [61] v.2
            if (hasF wBox s).1 then ((2, v.1, 0, (numbF (hasF wBox s).2).1, .nil, .nil), (numbF (hasF wBox s).2).2)
            else if (hasF wMut s).1 then ((5, v.1, (varF (hasF wMut s).2).1, 0, .nil, .nil), (varF (hasF wMut s).2).2)
            else if (hasF [38] s).1 then ((4, v.1, (varF (hasF [38] s).2).1, 0, .nil, .nil), (varF (hasF [38] s).2).2)
            else if (hasF [42] s).1 then ((6, v.1, (varF (hasF [42] s).2).1, 0, .nil, .nil), (varF (hasF [42] s).2).2)
            else if isDig s.1 then ((1, v.1, 0, (numbF s).1, .nil, .nil), (numbF s).2)
            else ((3, v.1, (varF s).1, 0, .nil, .nil), (varF s).2)) := by
            unfold stmtF
            rw [if_neg (by rw [h1]; simp), if_neg (by rw [h2]; simp), if_neg (by rw [h3]; simp), if_neg (by rw [h4]; simp)]
          simp only at hq0
          generalize hs0 : skipF [61] (varF st).2 = s at hq0 hr
          generalize hx0 : (varF st).1 = x at hq0 hs
          refine goT ?_
          refine WO_call rfl (has_ret rb wBox s _ hr) ?_
          rintro _ w10 ⟨rfl, hr', c'⟩
          have szw10 := c'.size
          replace hz := hz.chg c' (by simp; omega)
          replace C := C.trans c'
          replace hr := hr'
          replace hs := hs.chg c' (by simp; omega)
          cases g1 : (hasF wBox s).1 with
          | true =>
            have hq := hq0.trans (if_pos g1)
            refine goT ?_
            refine WO_call rfl (number_ret rb _ _ hr) ?_
            rintro _ w11 ⟨rfl, hr', c'⟩
            have szw11 := c'.size
            replace hz := hz.chg c' (by simp; omega)
            replace C := C.trans c'
            replace hr := hr'
            replace hs := hs.chg c' (by simp; omega)
            refine goT ?_
            refine WO_store1 rfl rfl rfl hs (by simp) fun wq hs oq => ?_
            simp only [List.set_cons_zero, List.set_cons_succ] at hs
            have sq := oq.size
            replace hz := hz.chg oq.chg (by simp; omega)
            replace hr := hr.chg oq.chg (by simp; omega)
            replace C := Chg.freshS C oq.chg (by simp; omega)
            refine goT ?_
            refine WO_store1 rfl rfl rfl hs (by simp) fun wq hs oq => ?_
            simp only [List.set_cons_zero, List.set_cons_succ] at hs
            have sq := oq.size
            replace hz := hz.chg oq.chg (by simp; omega)
            replace hr := hr.chg oq.chg (by simp; omega)
            replace C := Chg.freshS C oq.chg (by simp; omega)
            refine goT ?_
            refine WO_loadSB rfl hs rfl ?_
            refine WO_storeS (k := 6) (vs := [.int .i64 (2), .int .i64 (x), .int .i64 (0), .int .i64 ((numbF (hasF wBox s).2).1), .slice none 0 0, .slice none 0 0]) rfl rfl rfl (by simp [Value.oneCell']) hz (by decide) fun wz hzz oz => ?_
            replace hzz : Blk wz w.heap.size [.int .i64 (2), .int .i64 (x), .int .i64 (0), .int .i64 ((numbF (hasF wBox s).2).1), .slice none 0 0, .slice none 0 0] _ := hzz
            refine goT ?_
            exact at_retC rfl rfl hzz rfl ⟨by rw [hq]; exact StX.flat, by rw [hq]; exact hr.chg oz.chg (by simp; omega), Chg.freshS C oz.chg (by simp)⟩
          | false =>
            replace hq0 := hq0.trans (if_neg (by rw [g1]; simp))
            rw [hasF_stay g1] at hr
            refine goT ?_
            refine WO_call rfl (has_ret rb wMut s _ hr) ?_
            rintro _ w12 ⟨rfl, hr', c'⟩
            have szw12 := c'.size
            replace hz := hz.chg c' (by simp; omega)
            replace C := C.trans c'
            replace hr := hr'
            replace hs := hs.chg c' (by simp; omega)
            cases g2 : (hasF wMut s).1 with
            | true =>
              have hq := hq0.trans (if_pos g2)
              refine goT ?_
              refine WO_call rfl (variable_ret rb _ _ hr) ?_
              rintro _ w11 ⟨rfl, hr', c'⟩
              have szw11 := c'.size
              replace hz := hz.chg c' (by simp; omega)
              replace C := C.trans c'
              replace hr := hr'
              replace hs := hs.chg c' (by simp; omega)
              refine goT ?_
              refine WO_store1 rfl rfl rfl hs (by simp) fun wq hs oq => ?_
              simp only [List.set_cons_zero, List.set_cons_succ] at hs
              have sq := oq.size
              replace hz := hz.chg oq.chg (by simp; omega)
              replace hr := hr.chg oq.chg (by simp; omega)
              replace C := Chg.freshS C oq.chg (by simp; omega)
              refine goT ?_
              refine WO_store1 rfl rfl rfl hs (by simp) fun wq hs oq => ?_
              simp only [List.set_cons_zero, List.set_cons_succ] at hs
              have sq := oq.size
              replace hz := hz.chg oq.chg (by simp; omega)
              replace hr := hr.chg oq.chg (by simp; omega)
              replace C := Chg.freshS C oq.chg (by simp; omega)
              refine goT ?_
              refine WO_loadSB rfl hs rfl ?_
              refine WO_storeS (k := 6) (vs := [.int .i64 (5), .int .i64 (x), .int .i64 ((varF (hasF wMut s).2).1), .int .i64 (0), .slice none 0 0, .slice none 0 0]) rfl rfl rfl (by simp [Value.oneCell']) hz (by decide) fun wz hzz oz => ?_
              replace hzz : Blk wz w.heap.size [.int .i64 (5), .int .i64 (x), .int .i64 ((varF (hasF wMut s).2).1), .int .i64 (0), .slice none 0 0, .slice none 0 0] _ := hzz
              refine goT ?_
              exact at_retC rfl rfl hzz rfl ⟨by rw [hq]; exact StX.flat, by rw [hq]; exact hr.chg oz.chg (by simp; omega), Chg.freshS C oz.chg (by simp)⟩
            | false =>
              replace hq0 := hq0.trans (if_neg (by rw [g2]; simp))
              rw [hasF_stay g2] at hr
              refine goT ?_
              refine WO_call rfl (has_ret rb [38] s _ hr) ?_
              rintro _ w13 ⟨rfl, hr', c'⟩
              have szw13 := c'.size
              replace hz := hz.chg c' (by simp; omega)
              replace C := C.trans c'
              replace hr := hr'
              replace hs := hs.chg c' (by simp; omega)
              cases g3 : (hasF [38] s).1 with
              | true =>
                have hq := hq0.trans (if_pos g3)
                refine goT ?_
                refine WO_call rfl (variable_ret rb _ _ hr) ?_
                rintro _ w11 ⟨rfl, hr', c'⟩
                have szw11 := c'.size
                replace hz := hz.chg c' (by simp; omega)
                replace C := C.trans c'
                replace hr := hr'
                replace hs := hs.chg c' (by simp; omega)
                refine goT ?_
                refine WO_store1 rfl rfl rfl hs (by simp) fun wq hs oq => ?_
                simp only [List.set_cons_zero, List.set_cons_succ] at hs
                have sq := oq.size
                replace hz := hz.chg oq.chg (by simp; omega)
                replace hr := hr.chg oq.chg (by simp; omega)
                replace C := Chg.freshS C oq.chg (by simp; omega)
                refine goT ?_
                refine WO_store1 rfl rfl rfl hs (by simp) fun wq hs oq => ?_
                simp only [List.set_cons_zero, List.set_cons_succ] at hs
                have sq := oq.size
                replace hz := hz.chg oq.chg (by simp; omega)
                replace hr := hr.chg oq.chg (by simp; omega)
                replace C := Chg.freshS C oq.chg (by simp; omega)
                refine goT ?_
                refine WO_loadSB rfl hs rfl ?_
                refine WO_storeS (k := 6) (vs := [.int .i64 (4), .int .i64 (x), .int .i64 ((varF (hasF [38] s).2).1), .int .i64 (0), .slice none 0 0, .slice none 0 0]) rfl rfl rfl (by simp [Value.oneCell']) hz (by decide) fun wz hzz oz => ?_
                replace hzz : Blk wz w.heap.size [.int .i64 (4), .int .i64 (x), .int .i64 ((varF (hasF [38] s).2).1), .int .i64 (0), .slice none 0 0, .slice none 0 0] _ := hzz
                refine goT ?_
                exact at_retC rfl rfl hzz rfl ⟨by rw [hq]; exact StX.flat, by rw [hq]; exact hr.chg oz.chg (by simp; omega), Chg.freshS C oz.chg (by simp)⟩
              | false =>
                replace hq0 := hq0.trans (if_neg (by rw [g3]; simp))
                rw [hasF_stay g3] at hr
                refine goT ?_
                refine WO_call rfl (has_ret rb [42] s _ hr) ?_
                rintro _ w14 ⟨rfl, hr', c'⟩
                have szw14 := c'.size
                replace hz := hz.chg c' (by simp; omega)
                replace C := C.trans c'
                replace hr := hr'
                replace hs := hs.chg c' (by simp; omega)
                cases g4 : (hasF [42] s).1 with
                | true =>
                  have hq := hq0.trans (if_pos g4)
                  refine goT ?_
                  refine WO_call rfl (variable_ret rb _ _ hr) ?_
                  rintro _ w11 ⟨rfl, hr', c'⟩
                  have szw11 := c'.size
                  replace hz := hz.chg c' (by simp; omega)
                  replace C := C.trans c'
                  replace hr := hr'
                  replace hs := hs.chg c' (by simp; omega)
                  refine goT ?_
                  refine WO_store1 rfl rfl rfl hs (by simp) fun wq hs oq => ?_
                  simp only [List.set_cons_zero, List.set_cons_succ] at hs
                  have sq := oq.size
                  replace hz := hz.chg oq.chg (by simp; omega)
                  replace hr := hr.chg oq.chg (by simp; omega)
                  replace C := Chg.freshS C oq.chg (by simp; omega)
                  refine goT ?_
                  refine WO_store1 rfl rfl rfl hs (by simp) fun wq hs oq => ?_
                  simp only [List.set_cons_zero, List.set_cons_succ] at hs
                  have sq := oq.size
                  replace hz := hz.chg oq.chg (by simp; omega)
                  replace hr := hr.chg oq.chg (by simp; omega)
                  replace C := Chg.freshS C oq.chg (by simp; omega)
                  refine goT ?_
                  refine WO_loadSB rfl hs rfl ?_
                  refine WO_storeS (k := 6) (vs := [.int .i64 (6), .int .i64 (x), .int .i64 ((varF (hasF [42] s).2).1), .int .i64 (0), .slice none 0 0, .slice none 0 0]) rfl rfl rfl (by simp [Value.oneCell']) hz (by decide) fun wz hzz oz => ?_
                  replace hzz : Blk wz w.heap.size [.int .i64 (6), .int .i64 (x), .int .i64 ((varF (hasF [42] s).2).1), .int .i64 (0), .slice none 0 0, .slice none 0 0] _ := hzz
                  refine goT ?_
                  exact at_retC rfl rfl hzz rfl ⟨by rw [hq]; exact StX.flat, by rw [hq]; exact hr.chg oz.chg (by simp; omega), Chg.freshS C oz.chg (by simp)⟩
                | false =>
                  replace hq0 := hq0.trans (if_neg (by rw [g4]; simp))
                  rw [hasF_stay g4] at hr
                  obtain ⟨sx, sb⟩ := s
                  have hrB : Blk w14 rb [sV sx, .bool sb] 40 := hr
                  simp only at hq0
                  cases sx with
                  | nil =>
                    have hq := hq0.trans (if_neg (by simp [isDig]))
                    refine goT ?_
                    rw [show (!decide (([] : List UInt8) = [])) = false from by simp]
                    refine goT ?_
                    refine WO_call rfl (variable_ret rb _ _ hr) ?_
                    rintro _ w11 ⟨rfl, hr', c'⟩
                    have szw11 := c'.size
                    replace hz := hz.chg c' (by simp; omega)
                    replace C := C.trans c'
                    replace hr := hr'
                    replace hs := hs.chg c' (by simp; omega)
                    refine goT ?_
                    refine WO_store1 rfl rfl rfl hs (by simp) fun wq hs oq => ?_
                    simp only [List.set_cons_zero, List.set_cons_succ] at hs
                    have sq := oq.size
                    replace hz := hz.chg oq.chg (by simp; omega)
                    replace hr := hr.chg oq.chg (by simp; omega)
                    replace C := Chg.freshS C oq.chg (by simp; omega)
                    refine goT ?_
                    refine WO_store1 rfl rfl rfl hs (by simp) fun wq hs oq => ?_
                    simp only [List.set_cons_zero, List.set_cons_succ] at hs
                    have sq := oq.size
                    replace hz := hz.chg oq.chg (by simp; omega)
                    replace hr := hr.chg oq.chg (by simp; omega)
                    replace C := Chg.freshS C oq.chg (by simp; omega)
                    refine goT ?_
                    refine WO_loadSB rfl hs rfl ?_
                    refine WO_storeS (k := 6) (vs := [.int .i64 (3), .int .i64 (x), .int .i64 ((varF (_, sb)).1), .int .i64 (0), .slice none 0 0, .slice none 0 0]) rfl rfl rfl (by simp [Value.oneCell']) hz (by decide) fun wz hzz oz => ?_
                    replace hzz : Blk wz w.heap.size [.int .i64 (3), .int .i64 (x), .int .i64 ((varF (_, sb)).1), .int .i64 (0), .slice none 0 0, .slice none 0 0] _ := hzz
                    refine goT ?_
                    exact at_retC rfl rfl hzz rfl ⟨by rw [hq]; exact StX.flat, by rw [hq]; exact hr.chg oz.chg (by simp; omega), Chg.freshS C oz.chg (by simp)⟩
                  | cons c r =>
                    have hc := c.toNat_lt
                    refine goT ?_
                    rw [show (!decide ((c :: r : List UInt8) = [])) = true from by simp]
                    refine goT ?_
                    refine Z13 (q_strAt (j := 0) rfl rfl rfl (by simp)) ?_
                    rw [show (c :: r)[0] = c from rfl]
                    by_cases hd1 : 48 ≤ c.toNat
                    · refine goT ?_
                      rw [decide_eq_true (show ((c.toNat : Nat) : Int) ≥ 48 by omega)]
                      refine goT ?_
                      refine Z13 (q_strAt (j := 0) rfl rfl rfl (by simp)) ?_
                      rw [show (c :: r)[0] = c from rfl]
                      by_cases hd2 : c.toNat ≤ 57
                      · have hq := hq0.trans (if_pos (by simp [isDig]; omega))
                        refine goT ?_
                        rw [decide_eq_true (show ((c.toNat : Nat) : Int) ≤ 57 by omega)]
                        refine goT ?_
                        refine WO_call rfl (number_ret rb _ _ hr) ?_
                        rintro _ w11 ⟨rfl, hr', c'⟩
                        have szw11 := c'.size
                        replace hz := hz.chg c' (by simp; omega)
                        replace C := C.trans c'
                        replace hr := hr'
                        replace hs := hs.chg c' (by simp; omega)
                        refine goT ?_
                        refine WO_store1 rfl rfl rfl hs (by simp) fun wq hs oq => ?_
                        simp only [List.set_cons_zero, List.set_cons_succ] at hs
                        have sq := oq.size
                        replace hz := hz.chg oq.chg (by simp; omega)
                        replace hr := hr.chg oq.chg (by simp; omega)
                        replace C := Chg.freshS C oq.chg (by simp; omega)
                        refine goT ?_
                        refine WO_store1 rfl rfl rfl hs (by simp) fun wq hs oq => ?_
                        simp only [List.set_cons_zero, List.set_cons_succ] at hs
                        have sq := oq.size
                        replace hz := hz.chg oq.chg (by simp; omega)
                        replace hr := hr.chg oq.chg (by simp; omega)
                        replace C := Chg.freshS C oq.chg (by simp; omega)
                        refine goT ?_
                        refine WO_loadSB rfl hs rfl ?_
                        refine WO_storeS (k := 6) (vs := [.int .i64 (1), .int .i64 (x), .int .i64 (0), .int .i64 ((numbF (c :: r, sb)).1), .slice none 0 0, .slice none 0 0]) rfl rfl rfl (by simp [Value.oneCell']) hz (by decide) fun wz hzz oz => ?_
                        replace hzz : Blk wz w.heap.size [.int .i64 (1), .int .i64 (x), .int .i64 (0), .int .i64 ((numbF (c :: r, sb)).1), .slice none 0 0, .slice none 0 0] _ := hzz
                        refine goT ?_
                        exact at_retC rfl rfl hzz rfl ⟨by rw [hq]; exact StX.flat, by rw [hq]; exact hr.chg oz.chg (by simp; omega), Chg.freshS C oz.chg (by simp)⟩
                      · have hq := hq0.trans (if_neg (by simp [isDig]; omega))
                        refine goT ?_
                        rw [decide_eq_false (show ¬ ((c.toNat : Nat) : Int) ≤ 57 by omega)]
                        refine goT ?_
                        refine WO_call rfl (variable_ret rb _ _ hr) ?_
                        rintro _ w11 ⟨rfl, hr', c'⟩
                        have szw11 := c'.size
                        replace hz := hz.chg c' (by simp; omega)
                        replace C := C.trans c'
                        replace hr := hr'
                        replace hs := hs.chg c' (by simp; omega)
                        refine goT ?_
                        refine WO_store1 rfl rfl rfl hs (by simp) fun wq hs oq => ?_
                        simp only [List.set_cons_zero, List.set_cons_succ] at hs
                        have sq := oq.size
                        replace hz := hz.chg oq.chg (by simp; omega)
                        replace hr := hr.chg oq.chg (by simp; omega)
                        replace C := Chg.freshS C oq.chg (by simp; omega)
                        refine goT ?_
                        refine WO_store1 rfl rfl rfl hs (by simp) fun wq hs oq => ?_
                        simp only [List.set_cons_zero, List.set_cons_succ] at hs
                        have sq := oq.size
                        replace hz := hz.chg oq.chg (by simp; omega)
                        replace hr := hr.chg oq.chg (by simp; omega)
                        replace C := Chg.freshS C oq.chg (by simp; omega)
                        refine goT ?_
                        refine WO_loadSB rfl hs rfl ?_
                        refine WO_storeS (k := 6) (vs := [.int .i64 (3), .int .i64 (x), .int .i64 ((varF (_, sb)).1), .int .i64 (0), .slice none 0 0, .slice none 0 0]) rfl rfl rfl (by simp [Value.oneCell']) hz (by decide) fun wz hzz oz => ?_
                        replace hzz : Blk wz w.heap.size [.int .i64 (3), .int .i64 (x), .int .i64 ((varF (_, sb)).1), .int .i64 (0), .slice none 0 0, .slice none 0 0] _ := hzz
                        refine goT ?_
                        exact at_retC rfl rfl hzz rfl ⟨by rw [hq]; exact StX.flat, by rw [hq]; exact hr.chg oz.chg (by simp; omega), Chg.freshS C oz.chg (by simp)⟩
                    · have hq := hq0.trans (if_neg (by simp [isDig]; omega))
                      refine goT ?_
                      rw [decide_eq_false (show ¬ ((c.toNat : Nat) : Int) ≥ 48 by omega)]
                      refine goT ?_
                      refine WO_call rfl (variable_ret rb _ _ hr) ?_
                      rintro _ w11 ⟨rfl, hr', c'⟩
                      have szw11 := c'.size
                      replace hz := hz.chg c' (by simp; omega)
                      replace C := C.trans c'
                      replace hr := hr'
                      replace hs := hs.chg c' (by simp; omega)
                      refine goT ?_
                      refine WO_store1 rfl rfl rfl hs (by simp) fun wq hs oq => ?_
                      simp only [List.set_cons_zero, List.set_cons_succ] at hs
                      have sq := oq.size
                      replace hz := hz.chg oq.chg (by simp; omega)
                      replace hr := hr.chg oq.chg (by simp; omega)
                      replace C := Chg.freshS C oq.chg (by simp; omega)
                      refine goT ?_
                      refine WO_store1 rfl rfl rfl hs (by simp) fun wq hs oq => ?_
                      simp only [List.set_cons_zero, List.set_cons_succ] at hs
                      have sq := oq.size
                      replace hz := hz.chg oq.chg (by simp; omega)
                      replace hr := hr.chg oq.chg (by simp; omega)
                      replace C := Chg.freshS C oq.chg (by simp; omega)
                      refine goT ?_
                      refine WO_loadSB rfl hs rfl ?_
                      refine WO_storeS (k := 6) (vs := [.int .i64 (3), .int .i64 (x), .int .i64 ((varF (_, sb)).1), .int .i64 (0), .slice none 0 0, .slice none 0 0]) rfl rfl rfl (by simp [Value.oneCell']) hz (by decide) fun wz hzz oz => ?_
                      replace hzz : Blk wz w.heap.size [.int .i64 (3), .int .i64 (x), .int .i64 ((varF (_, sb)).1), .int .i64 (0), .slice none 0 0, .slice none 0 0] _ := hzz
                      refine goT ?_
                      exact at_retC rfl rfl hzz rfl ⟨by rw [hq]; exact StX.flat, by rw [hq]; exact hr.chg oz.chg (by simp; omega), Chg.freshS C oz.chg (by simp)⟩
theorem stmts_zero : RsP 0 := by
  intro rb st w h hl
  obtain ⟨s, b⟩ := st
  have hr : Blk w rb [sV s, .bool b] 40 := h
  refine enter Tryz.func17 rfl Tryz.ntmps17 rfl rfl ?_
  refine goT ?_
  rw [decide_eq_true (show (5 - ((0 : Nat) : Int)) > 4 by omega)]
  refine goT ?_
  refine WO_store1 rfl rfl rfl hr (by simp) fun w1 hb o1 => ?_
  simp only [List.set_cons_zero, List.set_cons_succ] at hb
  refine goT ?_
  exact at_ret1 rfl rfl ⟨LsX.nil_, hb, o1.chg⟩
theorem loopF_no {g : RSt → One × RSt} {k : Nat} {st : RSt} (h : ¬ (st.2 = false ∧ (hasF [59] st).1 = true)) : loopF g k st = (.nil, st) := by
  cases k with
  | zero => rfl
  | succ k => unfold loopF; rw [if_neg h]
theorem loopF_yes {g : RSt → One × RSt} {k : Nat} {st : RSt} (hk : st.1.length ≤ k) (h1 : st.2 = false) (h2 : (hasF [59] st).1 = true) : ∃ j, k = j + 1 ∧ (hasF [59] st).2.1.length ≤ j ∧ loopF g k st = (consO (g (hasF [59] st).2).1 (loopF g j (g (hasF [59] st).2).2).1, (loopF g j (g (hasF [59] st).2).2).2) := by
  have hlt := hasF_lt h2 (by decide)
  cases k with
  | zero => omega
  | succ k => exact ⟨k, rfl, by omega, by rw [loopF, if_pos ⟨h1, h2⟩]⟩
theorem stmts_succ (d : Nat) (hd : d ≤ 4) (it : RtP d) : RsP (d + 1) := by
  intro rb st w h hl
  rw [show (5 - ((d + 1 : Nat) : Int)) = 4 - (d : Int) from by omega]
  obtain ⟨s, b⟩ := st
  have hrb := h.lt
  have hr : Blk w rb [sV s, .bool b] 40 := h
  refine enter Tryz.func17 rfl Tryz.ntmps17 rfl rfl ?_
  refine goT ?_
  rw [decide_eq_false (show ¬ (4 - (d : Int)) > 4 by omega)]
  cases b with
  | true =>
    have hq : stmtsF (d + 1) (s, true) = (.nil, (s, true)) := by rw [stmtsF, if_pos (.inl rfl)]
    refine goT ?_
    exact at_ret1 rfl rfl ⟨by rw [hq]; exact LsX.nil_, by rw [hq]; exact h, Chg.refl _ _⟩
  | false =>
    cases s with
    | nil =>
      have hq : stmtsF (d + 1) ([], false) = (.nil, ([], false)) := by rw [stmtsF, if_pos (.inr rfl)]
      refine goT ?_
      rw [decide_eq_true (show ([] : List UInt8) = [] from rfl)]
      refine goT ?_
      exact at_ret1 rfl rfl ⟨by rw [hq]; exact LsX.nil_, by rw [hq]; exact h, Chg.refl _ _⟩
    | cons c s =>
      have hc := c.toNat_lt
      refine goT ?_
      rw [decide_eq_false (show ¬ (c :: s : List UInt8) = [] from by simp)]
      refine goT ?_
      refine Z13 (q_strAt (j := 0) rfl rfl rfl (by simp)) ?_
      rw [show (c :: s)[0] = c from rfl]
      refine goT ?_
      rw [show (((c.toNat : Nat) : Int) == 125) = decide (c = 125) from u8_eq (b := c) (k := 125) (by decide)]
      by_cases h125 : c = 125
      · have hq : stmtsF (d + 1) (c :: s, false) = (.nil, (c :: s, false)) := by rw [stmtsF, if_pos (.inr (by rw [h125]; rfl))]
        rw [decide_eq_true h125]
        refine goT ?_
        exact at_ret1 rfl rfl ⟨by rw [hq]; exact LsX.nil_, by rw [hq]; exact h, Chg.refl _ _⟩
      · have hq : stmtsF (d + 1) (c :: s, false) = (consO (stmtF (stmtsF d) (c :: s, false)).1 (loopF (stmtF (stmtsF d)) (stmtF (stmtsF d) (c :: s, false)).2.1.length (stmtF (stmtsF d) (c :: s, false)).2).1, (loopF (stmtF (stmtsF d)) (stmtF (stmtsF d) (c :: s, false)).2.1.length (stmtF (stmtsF d) (c :: s, false)).2).2) := by
          rw [stmtsF, if_neg (by simp [isEnd, h125])]
        rw [decide_eq_false h125]
        refine goT ?_
        refine WO_call rfl (it rb (c :: s, false) w h hl) ?_
        rintro r w1 ⟨S1, r1, c1⟩
        have hlen1 := stmtF_len (stmtsF_len d) (c :: s, false)
        generalize ha0 : stmtF (stmtsF d) (c :: s, false) = a at hq S1 r1 hlen1
        obtain ⟨o, st1⟩ := a
        obtain ⟨vt, ve, hrv, p1, p2⟩ := S1.cells
        subst hrv
        simp only at hq S1 r1 hlen1
        have s1 := c1.size
        refine WO_build (e := 59) (k := 6) [.tmp 32] (vs := [stV o.1 o.2.1 o.2.2.1 o.2.2.2.1 vt ve]) (cs := [.int .i64 o.1, .int .i64 o.2.1, .int .i64 o.2.2.1, .int .i64 o.2.2.2.1, vt, ve]) rfl rfl rfl (by decide) (by decide) (by simp [stV, Value.cells]) (by simp [stV, Value.cells]) fun w2 hb2 e2 z2 => ?_
        have L2 := LsX.first S1 rfl hb2 e2 (by omega) (Nat.le_refl _)
        refine goT ?_
        refine W_loop (α := Ss × RSt × Value) (fun p => [(0, .pointer (some ⟨rb, 0, none⟩)), (1, .int .i64 (4 - (d : Int))), (5, p.2.2)])
          (fun p w' => (∃ k, p.2.1.1.length ≤ k ∧ p.1.app (loopF (stmtF (stmtsF d)) k p.2.1).1 = (stmtsF (d + 1) (c :: s, false)).1 ∧ (loopF (stmtF (stmtsF d)) k p.2.1).2 = (stmtsF (d + 1) (c :: s, false)).2) ∧ LsX 59 w.heap.size w' p.2.2 p.1 ∧ RdX w' rb p.2.1 ∧ Chg [rb] w w' ∧ p.1.len + p.2.1.1.length ≤ 1001) (fun p => p.2.1.1.length) (consO o .nil, st1, _) (by repeat (first | exact True.intro | refine And.intro rfl ?_))
          ⟨⟨st1.1.length, Nat.le_refl _, by rw [hq]; rfl, by rw [hq]⟩, L2, r1.ext e2, c1.trans (e2.chg _), by simp only [consO, Ss.len]; simp at hl hlen1; omega⟩ ?_
        rintro ⟨dl, sx, v⟩ w3 ⟨⟨k, hk, hd1, hd2⟩, hL, hr3, c3, hlen3⟩
        simp only at hk hd1 hd2 hL hr3 c3 hlen3 ⊢
        obtain ⟨sx, sb⟩ := sx
        have hr3B : Blk w3 rb [sV sx, .bool sb] 40 := hr3
        have s3 := c3.size
        refine goT ?_
        cases sb with
        | true =>
          rw [loopF_no (by simp)] at hd1 hd2
          simp only at hd1 hd2
          rw [Ss.app_nil] at hd1
          refine goT ?_
          exact at_ret1 rfl rfl ⟨by rw [← hd1]; exact hL, by rw [← hd2]; exact hr3, c3⟩
        | false =>
          refine goT ?_
          refine WO_call rfl (has_ret rb [59] (sx, false) w3 hr3) ?_
          rintro _ w4 ⟨rfl, r4, c4⟩
          have s4 := c4.size
          cases h59 : (hasF [59] (sx, false)).1 with
          | false =>
            rw [hasF_stay h59] at r4
            rw [loopF_no (by rw [h59]; simp)] at hd1 hd2
            simp only at hd1 hd2
            rw [Ss.app_nil] at hd1
            refine goT ?_
            exact at_ret1 rfl rfl ⟨by rw [← hd1]; exact hL.chg c4 (by simpa using hrb), by rw [← hd2]; exact r4, c3.trans c4⟩
          | true =>
            obtain ⟨j, rfl, hj, hlp⟩ := loopF_yes (g := stmtF (stmtsF d)) hk rfl h59
            rw [hlp] at hd1 hd2
            simp only at hd1 hd2
            have hlt := hasF_lt h59 (by decide)
            simp only at hlt hlen3
            refine goT ?_
            refine WO_call rfl (it rb (hasF [59] (sx, false)).2 w4 r4 (by omega)) ?_
            rintro r w5 ⟨S5, r5, c5⟩
            have hlen5 := stmtF_len (stmtsF_len d) (hasF [59] (sx, false)).2
            generalize ha5 : stmtF (stmtsF d) (hasF [59] (sx, false)).2 = a at hd1 hd2 S5 r5 hlen5
            obtain ⟨o5, st5⟩ := a
            obtain ⟨vt, ve, hrv, p1, p2⟩ := S5.cells
            subst hrv
            simp only at hd1 hd2 S5 r5 hlen5
            have s5 := c5.size
            have c35 := c4.trans c5
            obtain ⟨xs, Fs, g1, g2, g3, g4⟩ := hL
            have g4' : ∀ b ∈ v.ownBlock.toList ++ Fs, w.heap.size ≤ b ∧ b < w4.heap.size := fun b hb => ⟨g4 b hb, by
              rcases List.mem_append.1 hb with hb | hb
              · have := (g1.lt b (by simpa using hb)).2; omega
              · have := StkS.lt _ _ _ g2 b hb; omega⟩
            replace g1 := ownsRow_chg g1 c35 (fun z hz hm => by have := g4' z (by simp [hz]); simp at hm; omega)
            replace g2 := StkS.chg c35 _ _ _ g2 (fun z hz hm => by have := g4' z (by simp [hz]); simp at hm; omega)
            refine WO_app1 (m := dl.len) (u := stV o5.1 o5.2.1 o5.2.2.1 o5.2.2.2.1 vt ve) rfl rfl (by intro v hv; simp [stV, Value.cells] at hv; rcases hv with rfl | rfl | rfl | rfl | rfl | rfl <;> first | rfl | assumption) rfl g1 (by omega) rfl (by omega) (by decide) fun v' w6 k1 k2 k3 => ?_
            have hL6 := LsX.step g1 g2 g3 g4' (by omega) (by omega) S5 k1 k2 (by
              rcases k3 with h | h
              · exact .inl h
              · exact .inr ⟨_, h, by omega⟩)
            have c6 : Chg [rb] w w6 := (c3.trans c35).freshS (grown_chg k2) (fun b hb => .inr (by have := g4' b (by simp at hb ⊢; exact .inl hb); omega))
            have hr6 := RdX.chg r5 (grown_chg k2) (fun hb => by have := g4' rb (by simp at hb ⊢; exact .inl hb); omega)
            refine goT ?_
            exact at_loop (snocO dl o5, st5, v') (by repeat (first | exact True.intro | refine And.intro rfl ?_)) ⟨⟨j, by simp only; omega, by simp only; rw [snocO_app]; exact hd1, hd2⟩, hL6, hr6, c6, by simp only; rw [snocO_len]; omega⟩ (by simp only; omega)
theorem rs0 : RsP 0 := stmts_zero
theorem rs_all : ∀ d, d ≤ 5 → RsP d
  | 0, _ => stmts_zero
  | d + 1, h => stmts_succ d (by omega) (stmt_of d (by omega) (rs_all d (by omega)))
end Go.Proofs.YtplcmbipeanjdaaGreatDoor
namespace Go.Proofs.YtplcmbipeanjdaaGreatDoor
set_option linter.unusedVariables false
set_option linter.unusedSimpArgs false
set_option linter.unnecessarySimpa false
open Go.RowKit

theorem byS_no {lo hi : Nat} {s q : Tx} {p : Int} (h0 : 0 ≤ p) (hs : s.drop p.toNat = q) (k : Nat) (hq : ∀ b r, q.drop k = b :: r → ¬ (lo ≤ b.toNat ∧ b.toNat ≤ hi)) : byS lo hi s (p + k) = -1 := by
  unfold byS
  rw [if_pos (by omega), show (p + k).toNat = p.toNat + k from by omega, ← List.drop_drop, hs]
  cases h : q.drop k with
  | nil => rfl
  | cons b r =>
    simp only
    rw [if_neg (hq b r h)]
theorem varS_at0 {s r : Tx} {p x : Int} (h0 : 0 ≤ p) (hs : s.drop p.toNat = chv x :: r) (hx : 0 ≤ x ∧ x < 6) : varS s p = x := by
  have := varS_at (x := x) h0 hs 0 r rfl hx
  simpa using this
theorem simpS_read (L : Option (Int → PR)) {s s1 : Tx} {p op x y n : Int} (h0 : 0 ≤ p) (hs : s.drop p.toNat = simT op x y n ++ s1) (hop : 1 ≤ op ∧ op ≤ 8) (hx : 0 ≤ x ∧ x < 6) (hy : (op = 1 ∨ op = 2 ∨ op = 8) ∧ y = 0 ∨ (3 ≤ op ∧ op ≤ 7) ∧ 0 ≤ y ∧ y < 6) (hn : (op = 1 ∨ op = 2) ∧ 0 ≤ n ∧ n ≤ 9 ∨ 3 ≤ op ∧ n = 0) (h1 : After s1) :
    parS s L p = ((op, x, y, n, .nil, .nil), p + (simT op x y n).length) := by
  have hop' : op = 1 ∨ op = 2 ∨ op = 3 ∨ op = 4 ∨ op = 5 ∨ op = 6 ∨ op = 7 ∨ op = 8 := by omega
  rcases hop' with rfl | rfl | rfl | rfl | rfl | rfl | rfl | rfl
  · have hn' : 0 ≤ n ∧ n ≤ 9 := by omega
    have hy' : y = 0 := by omega
    have hd : dgv n ≠ 98 ∧ dgv n ≠ 38 ∧ dgv n ≠ 42 := by
      have := dgv_nat hn'
      refine ⟨?_, ?_, ?_⟩ <;> (intro he; rw [he] at this; simp at this; omega)
    replace hs : s.drop p.toNat = chv x :: 61 :: dgv n :: s1 := hs
    have a1 : atB s p wDrop = false := by rw [atB_at0 h0 hs]; rcases var_cases hx with rfl | rfl | rfl | rfl | rfl | rfl <;> rfl
    have a2 : atB s p wLoop = false := by rw [atB_at0 h0 hs]; rcases var_cases hx with rfl | rfl | rfl | rfl | rfl | rfl <;> rfl
    have a3 : atB s p wIf = false := by rw [atB_at0 h0 hs]; rcases var_cases hx with rfl | rfl | rfl | rfl | rfl | rfl <;> rfl
    have a4 : atB s p [42] = false := by rw [atB_at0 h0 hs]; rcases var_cases hx with rfl | rfl | rfl | rfl | rfl | rfl <;> rfl
    have a5 : varS s p = x := varS_at0 h0 hs hx
    have a6 : atB s (p + 1) [61] = true := by rw [show p + 1 = p + ((1 : Nat) : Int) from rfl, atB_at h0 hs 1]; rfl
    have a7 : ¬ (varS s p < 0 ∨ atB s (p + 1) [61] = false) := by rw [a5, a6]; simp; omega
    unfold parS
    rw [a1, a2, a3, a4, if_neg a7, a5]
    simp only [Bool.false_eq_true, if_false]
    have b1 : atB s (p + 2) wBox = false := by rw [show p + 2 = p + ((2 : Nat) : Int) from rfl, atB_at h0 hs 2]; simp [wBox, List.isPrefixOf, hd.1.symm]
    have b2 : atB s (p + 2) wMut = false := by rw [show p + 2 = p + ((2 : Nat) : Int) from rfl, atB_at h0 hs 2]; simp [wMut, List.isPrefixOf, hd.2.1.symm]
    have b3 : atB s (p + 2) [38] = false := by rw [show p + 2 = p + ((2 : Nat) : Int) from rfl, atB_at h0 hs 2]; simp [List.isPrefixOf, hd.2.1.symm]
    have b4 : atB s (p + 2) [42] = false := by rw [show p + 2 = p + ((2 : Nat) : Int) from rfl, atB_at h0 hs 2]; simp [List.isPrefixOf, hd.2.2.symm]
    have b5 : digS s (p + 2) = n := digS_at h0 hs 2 s1 rfl hn'
    rw [b1, b2, b3, b4, b5, if_pos hn'.1, hy']
    simp only [Bool.false_eq_true, if_false]
    rfl
  · have hn' : 0 ≤ n ∧ n ≤ 9 := by omega
    have hy' : y = 0 := by omega
    replace hs : s.drop p.toNat = chv x :: 61 :: 98 :: 111 :: 120 :: 32 :: dgv n :: s1 := hs
    have a1 : atB s p wDrop = false := by rw [atB_at0 h0 hs]; rcases var_cases hx with rfl | rfl | rfl | rfl | rfl | rfl <;> rfl
    have a2 : atB s p wLoop = false := by rw [atB_at0 h0 hs]; rcases var_cases hx with rfl | rfl | rfl | rfl | rfl | rfl <;> rfl
    have a3 : atB s p wIf = false := by rw [atB_at0 h0 hs]; rcases var_cases hx with rfl | rfl | rfl | rfl | rfl | rfl <;> rfl
    have a4 : atB s p [42] = false := by rw [atB_at0 h0 hs]; rcases var_cases hx with rfl | rfl | rfl | rfl | rfl | rfl <;> rfl
    have a5 : varS s p = x := varS_at0 h0 hs hx
    have a6 : atB s (p + 1) [61] = true := by rw [show p + 1 = p + ((1 : Nat) : Int) from rfl, atB_at h0 hs 1]; rfl
    have a7 : ¬ (varS s p < 0 ∨ atB s (p + 1) [61] = false) := by rw [a5, a6]; simp; omega
    unfold parS
    rw [a1, a2, a3, a4, if_neg a7, a5]
    simp only [Bool.false_eq_true, if_false]
    have b1 : atB s (p + 2) wBox = true := by rw [show p + 2 = p + ((2 : Nat) : Int) from rfl, atB_at h0 hs 2]; rfl
    have b5 : digS s (p + 6) = n := digS_at h0 hs 6 s1 rfl hn'
    rw [b1, b5, hy']
    simp only [if_true]
    rfl
  · have hn' : n = 0 := by omega
    have hy' : 0 ≤ y ∧ y < 6 := by omega
    replace hs : s.drop p.toNat = chv x :: 61 :: chv y :: s1 := hs
    have a1 : atB s p wDrop = false := by rw [atB_at0 h0 hs]; rcases var_cases hx with rfl | rfl | rfl | rfl | rfl | rfl <;> rfl
    have a2 : atB s p wLoop = false := by rw [atB_at0 h0 hs]; rcases var_cases hx with rfl | rfl | rfl | rfl | rfl | rfl <;> rfl
    have a3 : atB s p wIf = false := by rw [atB_at0 h0 hs]; rcases var_cases hx with rfl | rfl | rfl | rfl | rfl | rfl <;> rfl
    have a4 : atB s p [42] = false := by rw [atB_at0 h0 hs]; rcases var_cases hx with rfl | rfl | rfl | rfl | rfl | rfl <;> rfl
    have a5 : varS s p = x := varS_at0 h0 hs hx
    have a6 : atB s (p + 1) [61] = true := by rw [show p + 1 = p + ((1 : Nat) : Int) from rfl, atB_at h0 hs 1]; rfl
    have a7 : ¬ (varS s p < 0 ∨ atB s (p + 1) [61] = false) := by rw [a5, a6]; simp; omega
    unfold parS
    rw [a1, a2, a3, a4, if_neg a7, a5]
    simp only [Bool.false_eq_true, if_false]
    have b1 : atB s (p + 2) wBox = false := by rw [show p + 2 = p + ((2 : Nat) : Int) from rfl, atB_at h0 hs 2]; rcases h1 with rfl | ⟨r, rfl | rfl⟩ <;> rcases var_cases hy' with rfl | rfl | rfl | rfl | rfl | rfl <;> rfl
    have b2 : atB s (p + 2) wMut = false := by rw [show p + 2 = p + ((2 : Nat) : Int) from rfl, atB_at h0 hs 2]; rcases var_cases hy' with rfl | rfl | rfl | rfl | rfl | rfl <;> rfl
    have b3 : atB s (p + 2) [38] = false := by rw [show p + 2 = p + ((2 : Nat) : Int) from rfl, atB_at h0 hs 2]; rcases var_cases hy' with rfl | rfl | rfl | rfl | rfl | rfl <;> rfl
    have b4 : atB s (p + 2) [42] = false := by rw [show p + 2 = p + ((2 : Nat) : Int) from rfl, atB_at h0 hs 2]; rcases var_cases hy' with rfl | rfl | rfl | rfl | rfl | rfl <;> rfl
    have b5 : digS s (p + 2) = -1 := byS_no h0 hs 2 (fun b r hq => by
      have e : chv y :: s1 = b :: r := hq
      injection e with e1 _
      have := chv_nat hy'
      rw [← e1]
      omega)
    have b6 : varS s (p + 2) = y := varS_at h0 hs 2 s1 rfl hy'
    rw [b1, b2, b3, b4, b5, b6, if_neg (by decide), hn']
    simp only [Bool.false_eq_true, if_false]
    rfl
  · have hn' : n = 0 := by omega
    have hy' : 0 ≤ y ∧ y < 6 := by omega
    replace hs : s.drop p.toNat = chv x :: 61 :: 38 :: chv y :: s1 := hs
    have a1 : atB s p wDrop = false := by rw [atB_at0 h0 hs]; rcases var_cases hx with rfl | rfl | rfl | rfl | rfl | rfl <;> rfl
    have a2 : atB s p wLoop = false := by rw [atB_at0 h0 hs]; rcases var_cases hx with rfl | rfl | rfl | rfl | rfl | rfl <;> rfl
    have a3 : atB s p wIf = false := by rw [atB_at0 h0 hs]; rcases var_cases hx with rfl | rfl | rfl | rfl | rfl | rfl <;> rfl
    have a4 : atB s p [42] = false := by rw [atB_at0 h0 hs]; rcases var_cases hx with rfl | rfl | rfl | rfl | rfl | rfl <;> rfl
    have a5 : varS s p = x := varS_at0 h0 hs hx
    have a6 : atB s (p + 1) [61] = true := by rw [show p + 1 = p + ((1 : Nat) : Int) from rfl, atB_at h0 hs 1]; rfl
    have a7 : ¬ (varS s p < 0 ∨ atB s (p + 1) [61] = false) := by rw [a5, a6]; simp; omega
    unfold parS
    rw [a1, a2, a3, a4, if_neg a7, a5]
    simp only [Bool.false_eq_true, if_false]
    have b1 : atB s (p + 2) wBox = false := by rw [show p + 2 = p + ((2 : Nat) : Int) from rfl, atB_at h0 hs 2]; rfl
    have b2 : atB s (p + 2) wMut = false := by rw [show p + 2 = p + ((2 : Nat) : Int) from rfl, atB_at h0 hs 2]; rcases var_cases hy' with rfl | rfl | rfl | rfl | rfl | rfl <;> rfl
    have b3 : atB s (p + 2) [38] = true := by rw [show p + 2 = p + ((2 : Nat) : Int) from rfl, atB_at h0 hs 2]; rfl
    have b6 : varS s (p + 3) = y := varS_at h0 hs 3 s1 rfl hy'
    rw [b1, b2, b3, b6, hn']
    simp only [Bool.false_eq_true, if_false, if_true]
    rfl
  · have hn' : n = 0 := by omega
    have hy' : 0 ≤ y ∧ y < 6 := by omega
    replace hs : s.drop p.toNat = chv x :: 61 :: 38 :: 109 :: 117 :: 116 :: 32 :: chv y :: s1 := hs
    have a1 : atB s p wDrop = false := by rw [atB_at0 h0 hs]; rcases var_cases hx with rfl | rfl | rfl | rfl | rfl | rfl <;> rfl
    have a2 : atB s p wLoop = false := by rw [atB_at0 h0 hs]; rcases var_cases hx with rfl | rfl | rfl | rfl | rfl | rfl <;> rfl
    have a3 : atB s p wIf = false := by rw [atB_at0 h0 hs]; rcases var_cases hx with rfl | rfl | rfl | rfl | rfl | rfl <;> rfl
    have a4 : atB s p [42] = false := by rw [atB_at0 h0 hs]; rcases var_cases hx with rfl | rfl | rfl | rfl | rfl | rfl <;> rfl
    have a5 : varS s p = x := varS_at0 h0 hs hx
    have a6 : atB s (p + 1) [61] = true := by rw [show p + 1 = p + ((1 : Nat) : Int) from rfl, atB_at h0 hs 1]; rfl
    have a7 : ¬ (varS s p < 0 ∨ atB s (p + 1) [61] = false) := by rw [a5, a6]; simp; omega
    unfold parS
    rw [a1, a2, a3, a4, if_neg a7, a5]
    simp only [Bool.false_eq_true, if_false]
    have b1 : atB s (p + 2) wBox = false := by rw [show p + 2 = p + ((2 : Nat) : Int) from rfl, atB_at h0 hs 2]; rfl
    have b2 : atB s (p + 2) wMut = true := by rw [show p + 2 = p + ((2 : Nat) : Int) from rfl, atB_at h0 hs 2]; rfl
    have b6 : varS s (p + 7) = y := varS_at h0 hs 7 s1 rfl hy'
    rw [b1, b2, b6, hn']
    simp only [Bool.false_eq_true, if_false, if_true]
    rfl
  · have hn' : n = 0 := by omega
    have hy' : 0 ≤ y ∧ y < 6 := by omega
    replace hs : s.drop p.toNat = chv x :: 61 :: 42 :: chv y :: s1 := hs
    have a1 : atB s p wDrop = false := by rw [atB_at0 h0 hs]; rcases var_cases hx with rfl | rfl | rfl | rfl | rfl | rfl <;> rfl
    have a2 : atB s p wLoop = false := by rw [atB_at0 h0 hs]; rcases var_cases hx with rfl | rfl | rfl | rfl | rfl | rfl <;> rfl
    have a3 : atB s p wIf = false := by rw [atB_at0 h0 hs]; rcases var_cases hx with rfl | rfl | rfl | rfl | rfl | rfl <;> rfl
    have a4 : atB s p [42] = false := by rw [atB_at0 h0 hs]; rcases var_cases hx with rfl | rfl | rfl | rfl | rfl | rfl <;> rfl
    have a5 : varS s p = x := varS_at0 h0 hs hx
    have a6 : atB s (p + 1) [61] = true := by rw [show p + 1 = p + ((1 : Nat) : Int) from rfl, atB_at h0 hs 1]; rfl
    have a7 : ¬ (varS s p < 0 ∨ atB s (p + 1) [61] = false) := by rw [a5, a6]; simp; omega
    unfold parS
    rw [a1, a2, a3, a4, if_neg a7, a5]
    simp only [Bool.false_eq_true, if_false]
    have b1 : atB s (p + 2) wBox = false := by rw [show p + 2 = p + ((2 : Nat) : Int) from rfl, atB_at h0 hs 2]; rfl
    have b2 : atB s (p + 2) wMut = false := by rw [show p + 2 = p + ((2 : Nat) : Int) from rfl, atB_at h0 hs 2]; rfl
    have b3 : atB s (p + 2) [38] = false := by rw [show p + 2 = p + ((2 : Nat) : Int) from rfl, atB_at h0 hs 2]; rfl
    have b4 : atB s (p + 2) [42] = true := by rw [show p + 2 = p + ((2 : Nat) : Int) from rfl, atB_at h0 hs 2]; rfl
    have b6 : varS s (p + 3) = y := varS_at h0 hs 3 s1 rfl hy'
    rw [b1, b2, b3, b4, b6, hn']
    simp only [Bool.false_eq_true, if_false, if_true]
    rfl
  · have hn' : n = 0 := by omega
    have hy' : 0 ≤ y ∧ y < 6 := by omega
    replace hs : s.drop p.toNat = 42 :: chv x :: 61 :: chv y :: s1 := hs
    have a1 : atB s p wDrop = false := by rw [atB_at0 h0 hs]; rfl
    have a2 : atB s p wLoop = false := by rw [atB_at0 h0 hs]; rfl
    have a3 : atB s p wIf = false := by rw [atB_at0 h0 hs]; rfl
    have a4 : atB s p [42] = true := by rw [atB_at0 h0 hs]; rfl
    have b5 : varS s (p + 1) = x := varS_at h0 hs 1 _ rfl hx
    have b6 : varS s (p + 3) = y := varS_at h0 hs 3 s1 rfl hy'
    unfold parS
    rw [a1, a2, a3, a4, b5, b6, hn']
    simp only [Bool.false_eq_true, if_false, if_true]
    rfl
  · have hn' : n = 0 := by omega
    have hy' : y = 0 := by omega
    replace hs : s.drop p.toNat = 100 :: 114 :: 111 :: 112 :: 32 :: chv x :: s1 := hs
    have a1 : atB s p wDrop = true := by rw [atB_at0 h0 hs]; rfl
    have b5 : varS s (p + 5) = x := varS_at h0 hs 5 _ rfl hx
    unfold parS
    rw [a1, b5, hn', hy']
    simp only [if_true]
    rfl
theorem drop_app {s a b : Tx} {p : Int} (h0 : 0 ≤ p) (hs : s.drop p.toNat = a ++ b) : s.drop (p + a.length).toNat = b := by
  rw [show (p + a.length).toNat = p.toNat + a.length from by omega, ← List.drop_drop, hs, List.drop_left]
theorem drop_le {s a b : Tx} {p : Int} (h0 : 0 ≤ p) (hs : s.drop p.toNat = a ++ b) (ha : a ≠ []) : p + a.length ≤ s.length := by
  have h := congrArg List.length hs
  rw [List.length_drop, List.length_append] at h
  have : 0 < a.length := List.length_pos_iff.2 ha
  omega
def ReadS (l : Ss) : Prop := ∀ (d : Nat) (tl : List Int) (s r : Tx) (p : Int), 0 ≤ p → p ≤ s.length → s.drop p.toNat = lsT l ++ r → okL tl d l = true → tl.length ≤ 6 → Ends r →
  lisS s d p = (l, p + (lsT l).length) ∧ (l.len ≠ 0 → ∀ k, l.len ≤ k → lopS s (parS s (subS s d)) k p = (l, p + (lsT l).length))
theorem bracS_read {s r : Tx} {f : Int → PR} {l : Ss} {p : Int} (h0 : 0 ≤ p) (hs : s.drop p.toNat = 123 :: (lsT l ++ 125 :: r)) (hf : f (p + 1) = (l, p + 1 + (lsT l).length)) : bracS s (some f) p = (l, p + 2 + (lsT l).length) := by
  have a1 : atB s p [123] = true := by rw [atB_at0 h0 hs]; rfl
  have h2 : s.drop (p + 1).toNat = lsT l ++ 125 :: r := drop_app (a := [123]) h0 hs
  have h3 : s.drop (p + 1 + (lsT l).length).toNat = 125 :: r := drop_app (by omega) h2
  have a2 : atB s (p + 1 + (lsT l).length) [125] = true := by rw [atB_at0 (by omega) h3]; rfl
  unfold bracS
  simp only [hf, a1, a2, if_true]
  congr 1
  omega
theorem readS_all (l : Ss) : ReadS l := Ss.strong (fun l ih => by
  intro d tl s r p h0 hp hs hok hl hr
  cases l with
  | nil =>
    refine ⟨?_, fun h => absurd rfl h⟩
    replace hs : s.drop p.toNat = r := hs
    rw [lisS_eq, if_pos]
    · simp [lsT]
    · rcases hr with rfl | ⟨q, rfl⟩
      · left
        have := List.drop_eq_nil_iff.1 hs
        omega
      · right
        rw [atB_at0 h0 hs]
        rfl
  | cons op x y n t e rr =>
    rw [okL_cons, Bool.and_eq_true] at hok
    obtain ⟨hS, hR⟩ := hok
    have hcr : cntL rr < cntL (.cons op x y n t e rr) := by simp only [cntL]; omega
    have hct : cntL t < cntL (.cons op x y n t e rr) := by simp only [cntL]; omega
    have hce : cntL e < cntL (.cons op x y n t e rr) := by simp only [cntL]; omega
    have item : ∀ s1, After s1 → s.drop p.toNat = itT op x y n (lsT t) (lsT e) ++ s1 → parS s (subS s d) p = ((op, x, y, n, t, e), p + (itT op x y n (lsT t) (lsT e)).length) := by
      intro s1 hs1 hq
      have hS' := hS
      unfold okS at hS'
      by_cases h9 : op = 9 ∨ op = 10
      · rw [if_pos h9, Bool.and_eq_true, Bool.and_eq_true, decide_eq_true_eq] at hS'
        obtain ⟨⟨⟨hd, hx, hy, hn, he⟩, hT⟩, hE⟩ := hS'
        obtain ⟨d', rfl⟩ : ∃ d', d = d' + 1 := ⟨d - 1, by omega⟩
        rw [Nat.add_sub_cancel] at hT hE
        subst hx; subst hy; subst hn
        rcases h9 with rfl | rfl
        · have e1 : itT 9 0 0 0 (lsT t) (lsT e) ++ s1 = [105, 102] ++ (123 :: (lsT t ++ 125 :: (123 :: (lsT e ++ 125 :: s1)))) := by simp [itT, wIf, wMid]
          have e2 : ((itT 9 0 0 0 (lsT t) (lsT e)).length : Int) = 6 + (lsT t).length + (lsT e).length := by simp [itT, wIf, wMid]; omega
          rw [e1] at hq
          have k1 : s.drop (p + 2).toNat = 123 :: (lsT t ++ 125 :: (123 :: (lsT e ++ 125 :: s1))) := drop_app (a := [105, 102]) h0 hq
          have k2 : s.drop (p + 2 + 1).toNat = lsT t ++ 125 :: (123 :: (lsT e ++ 125 :: s1)) := drop_app (a := [123]) (by omega) k1
          have k2' := drop_le (a := [123]) (by omega) k1 (by simp)
          have q1 := (ih t hct d' tl s _ (p + 2 + 1) (by omega) k2' k2 hT hl (.inr ⟨_, rfl⟩)).1
          have m1 : bracS s (some (lisS s d')) (p + 2) = (t, p + 2 + 2 + (lsT t).length) := bracS_read (by omega) k1 q1
          have k3 : s.drop (p + 2 + 2 + (lsT t).length).toNat = 123 :: (lsT e ++ 125 :: s1) := by
            have := drop_app (a := 123 :: (lsT t ++ [125])) (b := 123 :: (lsT e ++ 125 :: s1)) (p := p + 2) (by omega) (by rw [k1]; simp)
            rw [show p + 2 + 2 + ((lsT t).length : Int) = p + 2 + ((123 :: (lsT t ++ [125])).length : Int) from by simp; omega]
            exact this
          have k4 : s.drop (p + 2 + 2 + (lsT t).length + 1).toNat = lsT e ++ 125 :: s1 := drop_app (a := [123]) (by omega) k3
          have k4' := drop_le (a := [123]) (by omega) k3 (by simp)
          have q2 := (ih e hce d' tl s _ (p + 2 + 2 + (lsT t).length + 1) (by omega) k4' k4 hE hl (.inr ⟨_, rfl⟩)).1
          have m2 : bracS s (some (lisS s d')) (p + 2 + 2 + (lsT t).length) = (e, p + 2 + 2 + (lsT t).length + 2 + (lsT e).length) := bracS_read (by omega) k3 q2
          have a1 : atB s p wDrop = false := by rw [atB_at0 h0 hq]; rfl
          have a2 : atB s p wLoop = false := by rw [atB_at0 h0 hq]; rfl
          have a3 : atB s p wIf = true := by rw [atB_at0 h0 hq]; rfl
          unfold parS
          simp only [subS, a1, a2, a3, Bool.false_eq_true, if_false, if_true, m1, m2]
          rw [e2]
          congr 1
          omega
        · have he0 : e = .nil := Ss.len_zero (by omega)
          subst he0
          have e1 : itT 10 0 0 0 (lsT t) (lsT .nil) ++ s1 = [108, 111, 111, 112] ++ (123 :: (lsT t ++ 125 :: s1)) := by simp [itT, wLoop]
          have e2 : ((itT 10 0 0 0 (lsT t) (lsT .nil)).length : Int) = 6 + (lsT t).length := by simp [itT, wLoop]; omega
          rw [e1] at hq
          have k1 : s.drop (p + 4).toNat = 123 :: (lsT t ++ 125 :: s1) := drop_app (a := [108, 111, 111, 112]) h0 hq
          have k2 : s.drop (p + 4 + 1).toNat = lsT t ++ 125 :: s1 := drop_app (a := [123]) (by omega) k1
          have k2' := drop_le (a := [123]) (by omega) k1 (by simp)
          have q1 := (ih t hct d' tl s _ (p + 4 + 1) (by omega) k2' k2 hT hl (.inr ⟨_, rfl⟩)).1
          have m1 : bracS s (some (lisS s d')) (p + 4) = (t, p + 4 + 2 + (lsT t).length) := bracS_read (by omega) k1 q1
          have a1 : atB s p wDrop = false := by rw [atB_at0 h0 hq]; rfl
          have a2 : atB s p wLoop = true := by rw [atB_at0 h0 hq]; rfl
          unfold parS
          simp only [subS, a1, a2, Bool.false_eq_true, if_false, if_true, m1]
          rw [e2]
          congr 1
          omega
      · rw [if_neg h9, decide_eq_true_eq] at hS'
        obtain ⟨a1, a2, a3, a4, a5, a6⟩ := simple_form hS' hl
        have ht0 := Ss.len_zero a5
        have he0 := Ss.len_zero a6
        subst ht0; subst he0
        have e1 : itT op x y n (lsT .nil) (lsT .nil) = simT op x y n := by unfold itT; rw [if_neg (by omega), if_neg (by omega)]
        rw [e1] at hq ⊢
        exact simpS_read _ h0 hq a1 a2 a3 a4 hs1
    have hne : itT op x y n (lsT t) (lsT e) ≠ [] := by
      intro h
      have := itT_head hS hl []
      rw [h] at this
      cases this
    have hstart : ∀ s1, s.drop p.toNat = itT op x y n (lsT t) (lsT e) ++ s1 → ¬ (p = s.length ∨ atB s p [125] = true) := by
      intro s1 hq
      have hd := itT_head hS hl s1
      have h1 := drop_le h0 hq hne
      have h2 : 0 < (itT op x y n (lsT t) (lsT e)).length := List.length_pos_iff.2 hne
      rintro (h | h)
      · omega
      · rw [atB_at0 h0 hq] at h
        cases hz : itT op x y n (lsT t) (lsT e) ++ s1 with
        | nil => rw [hz] at hd; cases hd
        | cons b z =>
          rw [hz] at hd h
          have hd' : (b == 125) = false := hd
          simp [List.isPrefixOf] at h
          rw [← h] at hd'
          cases hd'
    by_cases hr0 : rr.len = 0
    · have hrn := Ss.len_zero hr0
      subst hrn
      have e1 : lsT (.cons op x y n t e .nil) = itT op x y n (lsT t) (lsT e) := by simp [lsT, Ss.len]
      rw [e1] at hs ⊢
      have hit := item r (by rcases hr with rfl | ⟨q, rfl⟩; exact .inl rfl; exact .inr ⟨q, .inr rfl⟩) hs
      have hle := drop_le h0 hs hne
      have hlo : ∀ k, lopS s (parS s (subS s d)) (k + 1) p = (.cons op x y n t e .nil, p + (itT op x y n (lsT t) (lsT e)).length) := by
        intro k
        have h3 := drop_app h0 hs
        have h59 : atB s (p + (itT op x y n (lsT t) (lsT e)).length) [59] = false := by
          rw [atB_at0 (by omega) h3]
          rcases hr with rfl | ⟨q, rfl⟩ <;> rfl
        unfold lopS
        rw [hit]
        simp only
        rw [if_neg (by omega), h59]
        rfl
      refine ⟨?_, fun _ k hk => ?_⟩
      · rw [lisS_eq, if_neg (hstart r hs)]
        exact hlo _
      · obtain ⟨k', rfl⟩ : ∃ k', k = k' + 1 := ⟨k - 1, by simp [Ss.len] at hk; omega⟩
        exact hlo k'
    · have e1 : lsT (.cons op x y n t e rr) = itT op x y n (lsT t) (lsT e) ++ (59 :: lsT rr) := by simp [lsT, hr0]
      rw [e1, List.append_assoc] at hs
      have hit := item (59 :: lsT rr ++ r) (.inr ⟨_, .inl rfl⟩) hs
      have hle := drop_le h0 hs hne
      have h3 := drop_app h0 hs
      have h4 : s.drop (p + (itT op x y n (lsT t) (lsT e)).length + 1).toNat = lsT rr ++ r := drop_app (a := [59]) (by omega) h3
      have h4' := drop_le (a := [59]) (by omega) h3 (by simp)
      have hnext : ∀ k, rr.len ≤ k → lopS s (parS s (subS s d)) k (p + (itT op x y n (lsT t) (lsT e)).length + 1) = (rr, p + (itT op x y n (lsT t) (lsT e)).length + 1 + (lsT rr).length) := (ih rr hcr d tl s r _ (by omega) h4' h4 hR hl hr).2 hr0
      have hlo : ∀ k, rr.len ≤ k → lopS s (parS s (subS s d)) (k + 1) p = (.cons op x y n t e rr, p + (itT op x y n (lsT t) (lsT e) ++ (59 :: lsT rr)).length) := by
        intro k hk
        have h59 : atB s (p + (itT op x y n (lsT t) (lsT e)).length) [59] = true := by rw [atB_at0 (by omega) h3]; rfl
        unfold lopS
        rw [hit]
        simp only
        rw [if_neg (by omega), h59, hnext k hk]
        simp only [if_true]
        rw [if_neg (by omega)]
        simp only [List.length_append, List.length_cons, consO]
        congr 1
        omega
      rw [e1]
      refine ⟨?_, fun _ k hk => ?_⟩
      · rw [lisS_eq, if_neg (hstart _ hs)]
        refine hlo _ ?_
        have h2 : 0 < (itT op x y n (lsT t) (lsT e)).length := List.length_pos_iff.2 hne
        have := lsT_len rr
        have := congrArg List.length h4
        rw [List.length_drop, List.length_append] at this
        omega
      · simp only [Ss.len] at hk
        obtain ⟨k', rfl⟩ : ∃ k', k = k' + 1 := ⟨k - 1, by omega⟩
        exact hlo k' (by omega)) l
end Go.Proofs.YtplcmbipeanjdaaGreatDoor
