/-
  What is proved here: what the program's reader of texts reads: statements and lists of statements, in new memory.
-/
import Derived.Test.YteonnoijdnjpdaaDoorRdr
namespace Go.Proofs.YteonnoijdnjpdaaDoor
set_option linter.unusedVariables false
set_option linter.unusedSimpArgs false
set_option linter.unnecessarySimpa false
open Go.RowKit

theorem hasF_stay {p : Tx} {st : RSt} (h : (hasF p st).1 = false) : (hasF p st).2 = st := by
  unfold hasF at h ⊢
  split at h
  · cases h
  · rename_i hq
    rw [if_neg hq]
def RsP (d : Nat) : Prop := ∀ (rb : Nat) (st : RSt) (w : World), RdX w rb st → st.1.length ≤ 1000 → Ret Tryd.prog 33 [.pointer (some ⟨rb, 0, none⟩), .int .i64 (5 - (d : Int))] w fun r w' => LsX 65 w.heap.size w' r (stmtsF d st).1 ∧ RdX w' rb (stmtsF d st).2 ∧ Chg [rb] w w'
def RtP (d : Nat) : Prop := ∀ (rb : Nat) (st : RSt) (w : World), RdX w rb st → st.1.length ≤ 1000 → Ret Tryd.prog 55 [.pointer (some ⟨rb, 0, none⟩), .int .i64 (4 - (d : Int))] w fun r w' => StX 65 w.heap.size w' r (stmtF (stmtsF d) st).1 ∧ RdX w' rb (stmtF (stmtsF d) st).2 ∧ Chg [rb] w w'
theorem stmt_of (d : Nat) (hd : d ≤ 4) (ih : RsP d) : RtP d := by
  intro rb st w h hl
  have hrb := h.lt
  refine enter Tryd.func55 rfl Tryd.ntmps55 rfl rfl ?_
  refine goT ?_
  refine WO_alloc fun w1 hz e1 z1 => ?_
  replace hz : Blk w1 w.heap.size [.int .i64 0, .int .i64 0, .int .i64 0, .int .i64 0, .slice none 0 0, .slice none 0 0] _ := hz
  have hr := h.ext e1
  have C : Chg [rb] w w1 := e1.chg _
  have sw := hz.lt
  refine goT ?_
  refine WO_call rfl (has_ret rb wIf st _ hr) ?_
  rintro _ w2 ⟨rfl, hr', c'⟩
  have szw2 := c'.size
  replace hz := hz.chg c' (by simp; omega)
  replace C := C.trans c'
  replace hr := hr'
  cases h1 : (hasF wIf st).1 with
  | true =>
    have k1 := hasF_len wIf st
    refine goT ?_
    rw [show (4 - (d : Int)) + 1 = 5 - (d : Int) from by omega]
    refine WO_call rfl (ih rb ((hasF wIf st).2) _ hr (by omega)) ?_
    rintro v3 w3 ⟨L3, hr', c'⟩
    obtain ⟨F3, q3, n3, b3⟩ := L3.row
    have l3 := q3.lt
    have o3 := q3.one
    have szw3 := c'.size
    replace hz := hz.chg c' (by simp; omega)
    replace C := C.trans c'
    replace hr := hr'
    have k2 := stmtsF_len d (hasF wIf st).2
    refine Z13 (Z30 (cs := [.int .i64 9, .int .i64 0, .int .i64 0, .int .i64 0, v3, .slice none 0 0]) rfl (by simp [partsOk, o3, int_one, sl_one]) rfl) ?_
    refine WO_alloc fun w4 hs e4 z4 => ?_
    refine WO_storeS (k := 6) (vs := [.int .i64 9, .int .i64 0, .int .i64 0, .int .i64 0, v3, .slice none 0 0]) rfl rfl rfl (by intro u hu; simp at hu; rcases hu with rfl | rfl | rfl | rfl <;> first | rfl | assumption) hs (by decide) fun w5 hs o5 => ?_
    replace hs : Blk w5 w3.heap.size [.int .i64 9, .int .i64 0, .int .i64 0, .int .i64 0, v3, .slice none 0 0] _ := hs
    have s4 := e4.size_le
    have s5 := o5.size
    have sl5 := hs.lt
    have hF3 : ∀ z ∈ F3, w2.heap.size ≤ z ∧ z < w3.heap.size := fun z hz => ⟨b3 z hz, l3 z hz⟩
    replace hz := (hz.ext e4).chg o5.chg (by simp; omega)
    replace hr := (hr.ext e4).chg o5.chg (by simp; omega)
    replace C := Chg.freshS (C.trans (e4.chg _)) o5.chg (by simp; omega)
    replace q3 := (q3.ext e4).chg o5.chg (fun z hz hm => by have := hF3 z hz; simp at hm; omega)
    refine goT ?_
    refine WO_call rfl (skip_ret rb wMid _ _ hr) ?_
    rintro _ w6 ⟨rfl, hr', c'⟩
    have szw6 := c'.size
    replace hz := hz.chg c' (by simp; omega)
    replace C := C.trans c'
    replace hr := hr'
    replace hs := hs.chg c' (by simp; omega)
    replace q3 := q3.chg c' (fun z hz hm => by have := hF3 z hz; simp at hm; omega)
    have k3 := skipF_len wMid (stmtsF d (hasF wIf st).2).2
    refine goT ?_
    rw [show (4 - (d : Int)) + 1 = 5 - (d : Int) from by omega]
    refine WO_call rfl (ih rb (skipF wMid (stmtsF d (hasF wIf st).2).2) _ hr (by omega)) ?_
    rintro v7 w7 ⟨L7, hr', c'⟩
    obtain ⟨F7, q7, n7, b7⟩ := L7.row
    have l7 := q7.lt
    have o7 := q7.one
    have szw7 := c'.size
    replace hz := hz.chg c' (by simp; omega)
    replace C := C.trans c'
    replace hr := hr'
    replace hs := hs.chg c' (by simp; omega)
    replace q3 := q3.chg c' (fun z hz hm => by have := hF3 z hz; simp at hm; omega)
    have hF7 : ∀ z ∈ F7, w6.heap.size ≤ z ∧ z < w7.heap.size := fun z hz => ⟨b7 z hz, l7 z hz⟩
    refine goT ?_
    refine WO_store1 rfl rfl o7 hs (by simp) fun w8 hs8 o8 => ?_
    simp only [List.set_cons_zero, List.set_cons_succ] at hs8
    have s8 := o8.size
    replace hz := hz.chg o8.chg (by simp; omega)
    replace hr := hr.chg o8.chg (by simp; omega)
    replace C := Chg.freshS C o8.chg (by simp; omega)
    replace q3 := q3.chg o8.chg (fun z hz hm => by have := hF3 z hz; simp at hm; omega)
    replace q7 := q7.chg o8.chg (fun z hz hm => by have := hF7 z hz; simp at hm; omega)
    refine goT ?_
    refine WO_call rfl (skip_ret rb [125] _ _ hr) ?_
    rintro _ w9 ⟨rfl, hr', c'⟩
    have szw9 := c'.size
    replace hz := hz.chg c' (by simp; omega)
    replace C := C.trans c'
    replace hr := hr'
    replace hs8 := hs8.chg c' (by simp; omega)
    replace q3 := q3.chg c' (fun z hz hm => by have := hF3 z hz; simp at hm; omega)
    replace q7 := q7.chg c' (fun z hz hm => by have := hF7 z hz; simp at hm; omega)
    refine goT ?_
    refine WO_loadSB rfl hs8 rfl ?_
    refine WO_storeS (k := 6) (vs := [.int .i64 9, .int .i64 0, .int .i64 0, .int .i64 0, v3, v7]) rfl rfl rfl (by intro u hu; simp at hu; rcases hu with rfl | rfl | rfl | rfl <;> first | rfl | assumption) hz (by decide) fun wz hzz oz => ?_
    replace hzz : Blk wz w.heap.size [.int .i64 9, .int .i64 0, .int .i64 0, .int .i64 0, v3, v7] _ := hzz
    have hq : stmtF (stmtsF d) st = ((9, 0, 0, 0, (stmtsF d (hasF wIf st).2).1, (stmtsF d (skipF wMid (stmtsF d (hasF wIf st).2).2)).1), skipF [125] (stmtsF d (skipF wMid (stmtsF d (hasF wIf st).2).2)).2) := by
      unfold stmtF
      rw [if_pos h1]
    refine goT ?_
    refine at_retC rfl rfl hzz rfl ⟨?_, by rw [hq]; exact hr.chg oz.chg (by simp; omega), Chg.freshS C oz.chg (by simp)⟩
    rw [hq]
    refine ⟨v3, v7, F3, F7, rfl, q3.chg oz.chg (fun z hz hm => by have := hF3 z hz; simp at hm; omega), q7.chg oz.chg (fun z hz hm => by have := hF7 z hz; simp at hm; omega), ?_, ?_⟩
    · exact List.nodup_append.2 ⟨n3, n7, fun a ha b hb e => by have := hF3 a ha; have := hF7 b hb; omega⟩
    · intro z hz
      rcases List.mem_append.1 hz with hz | hz
      · have := hF3 z hz; omega
      · have := hF7 z hz; omega
  | false =>
    rw [hasF_stay h1] at hr
    refine goT ?_
    refine WO_call rfl (has_ret rb wLoop st _ hr) ?_
    rintro _ w3 ⟨rfl, hr', c'⟩
    have szw3 := c'.size
    replace hz := hz.chg c' (by simp; omega)
    replace C := C.trans c'
    replace hr := hr'
    cases h2 : (hasF wLoop st).1 with
    | true =>
      have k1 := hasF_len wLoop st
      refine goT ?_
      rw [show (4 - (d : Int)) + 1 = 5 - (d : Int) from by omega]
      refine WO_call rfl (ih rb ((hasF wLoop st).2) _ hr (by omega)) ?_
      rintro v4 w4 ⟨L4, hr', c'⟩
      obtain ⟨F4, q4, n4, b4⟩ := L4.row
      have l4 := q4.lt
      have o4 := q4.one
      have szw4 := c'.size
      replace hz := hz.chg c' (by simp; omega)
      replace C := C.trans c'
      replace hr := hr'
      refine Z13 (Z30 (cs := [.int .i64 10, .int .i64 0, .int .i64 0, .int .i64 0, v4, .slice none 0 0]) rfl (by simp [partsOk, o4, int_one, sl_one]) rfl) ?_
      refine WO_alloc fun w5 hs e5 z5 => ?_
      refine WO_storeS (k := 6) (vs := [.int .i64 10, .int .i64 0, .int .i64 0, .int .i64 0, v4, .slice none 0 0]) rfl rfl rfl (by intro u hu; simp at hu; rcases hu with rfl | rfl | rfl | rfl <;> first | rfl | assumption) hs (by decide) fun w6 hs o6 => ?_
      replace hs : Blk w6 w4.heap.size [.int .i64 10, .int .i64 0, .int .i64 0, .int .i64 0, v4, .slice none 0 0] _ := hs
      have s5 := e5.size_le
      have s6 := o6.size
      have sl5 := hs.lt
      have hF4 : ∀ z ∈ F4, w3.heap.size ≤ z ∧ z < w4.heap.size := fun z hz => ⟨b4 z hz, l4 z hz⟩
      replace hz := (hz.ext e5).chg o6.chg (by simp; omega)
      replace hr := (hr.ext e5).chg o6.chg (by simp; omega)
      replace C := Chg.freshS (C.trans (e5.chg _)) o6.chg (by simp; omega)
      replace q4 := (q4.ext e5).chg o6.chg (fun z hz hm => by have := hF4 z hz; simp at hm; omega)
      refine goT ?_
      refine WO_call rfl (skip_ret rb [125] _ _ hr) ?_
      rintro _ w7 ⟨rfl, hr', c'⟩
      have szw7 := c'.size
      replace hz := hz.chg c' (by simp; omega)
      replace C := C.trans c'
      replace hr := hr'
      replace hs := hs.chg c' (by simp; omega)
      replace q4 := q4.chg c' (fun z hz hm => by have := hF4 z hz; simp at hm; omega)
      refine goT ?_
      refine WO_loadSB rfl hs rfl ?_
      refine WO_storeS (k := 6) (vs := [.int .i64 10, .int .i64 0, .int .i64 0, .int .i64 0, v4, .slice none 0 0]) rfl rfl rfl (by intro u hu; simp at hu; rcases hu with rfl | rfl | rfl | rfl <;> first | rfl | assumption) hz (by decide) fun wz hzz oz => ?_
      replace hzz : Blk wz w.heap.size [.int .i64 10, .int .i64 0, .int .i64 0, .int .i64 0, v4, .slice none 0 0] _ := hzz
      have hq : stmtF (stmtsF d) st = ((10, 0, 0, 0, (stmtsF d (hasF wLoop st).2).1, .nil), skipF [125] (stmtsF d (hasF wLoop st).2).2) := by
        unfold stmtF
        rw [if_neg (by rw [h1]; simp), if_pos h2]
      refine goT ?_
      refine at_retC rfl rfl hzz rfl ⟨?_, by rw [hq]; exact hr.chg oz.chg (by simp; omega), Chg.freshS C oz.chg (by simp)⟩
      rw [hq]
      exact ⟨v4, _, F4, [], rfl, q4.chg oz.chg (fun z hz hm => by have := hF4 z hz; simp at hm; omega), RowS.nil_ _ _, by simpa using n4, fun z hz => by have := hF4 z (by simpa using hz); omega⟩
    | false =>
      rw [hasF_stay h2] at hr
      refine goT ?_
      refine WO_call rfl (has_ret rb wDrop st _ hr) ?_
      rintro _ w4 ⟨rfl, hr', c'⟩
      have szw4 := c'.size
      replace hz := hz.chg c' (by simp; omega)
      replace C := C.trans c'
      replace hr := hr'
      cases h3 : (hasF wDrop st).1 with
      | true =>
        refine goT ?_
        refine WO_call rfl (variable_ret rb _ _ hr) ?_
        rintro _ w5 ⟨rfl, hr', c'⟩
        have szw5 := c'.size
        replace hz := hz.chg c' (by simp; omega)
        replace C := C.trans c'
        replace hr := hr'
        have hq : stmtF (stmtsF d) st = ((8, (varF (hasF wDrop st).2).1, 0, 0, .nil, .nil), (varF (hasF wDrop st).2).2) := by
          unfold stmtF
          rw [if_neg (by rw [h1]; simp), if_neg (by rw [h2]; simp), if_pos h3]
        refine goT ?_
        refine WO_storeS (k := 6) (vs := [.int .i64 (8), .int .i64 ((varF (hasF wDrop st).2).1), .int .i64 (0), .int .i64 (0), .slice none 0 0, .slice none 0 0]) rfl rfl rfl (by simp [Value.oneCell']) hz (by decide) fun wz hzz oz => ?_
        replace hzz : Blk wz w.heap.size [.int .i64 (8), .int .i64 ((varF (hasF wDrop st).2).1), .int .i64 (0), .int .i64 (0), .slice none 0 0, .slice none 0 0] _ := hzz
        refine goT ?_
        exact at_retC rfl rfl hzz rfl ⟨by rw [hq]; exact StX.flat, by rw [hq]; exact hr.chg oz.chg (by simp; omega), Chg.freshS C oz.chg (by simp)⟩
      | false =>
        rw [hasF_stay h3] at hr
        refine goT ?_
        refine WO_call rfl (has_ret rb [42] st _ hr) ?_
        rintro _ w5 ⟨rfl, hr', c'⟩
        have szw5 := c'.size
        replace hz := hz.chg c' (by simp; omega)
        replace C := C.trans c'
        replace hr := hr'
        cases h4 : (hasF [42] st).1 with
        | true =>
          refine goT ?_
          refine WO_call rfl (variable_ret rb _ _ hr) ?_
          rintro _ w6 ⟨rfl, hr', c'⟩
          have szw6 := c'.size
          replace hz := hz.chg c' (by simp; omega)
          replace C := C.trans c'
          replace hr := hr'
          refine goT ?_
          refine WO_alloc fun w7 hs e7 z7 => ?_
          refine WO_storeS (k := 6) (vs := [.int .i64 (7), .int .i64 ((varF (hasF [42] st).2).1), .int .i64 0, .int .i64 0, .slice none 0 0, .slice none 0 0]) rfl rfl rfl (by simp [Value.oneCell']) hs (by decide) fun w8 hs o8 => ?_
          replace hs : Blk w8 w6.heap.size [.int .i64 (7), .int .i64 ((varF (hasF [42] st).2).1), .int .i64 0, .int .i64 0, .slice none 0 0, .slice none 0 0] _ := hs
          have s7 := e7.size_le
          have s8 := o8.size
          have sl8 := hs.lt
          replace hz := (hz.ext e7).chg o8.chg (by simp; omega)
          replace hr := (hr.ext e7).chg o8.chg (by simp; omega)
          replace C := Chg.freshS (C.trans (e7.chg _)) o8.chg (by simp; omega)
          refine goT ?_
          refine WO_call rfl (skip_ret rb [61] _ _ hr) ?_
          rintro _ w9 ⟨rfl, hr', c'⟩
          have szw9 := c'.size
          replace hz := hz.chg c' (by simp; omega)
          replace C := C.trans c'
          replace hr := hr'
          replace hs := hs.chg c' (by simp; omega)
          refine goT ?_
          refine WO_call rfl (variable_ret rb _ _ hr) ?_
          rintro _ w10 ⟨rfl, hr', c'⟩
          have szw10 := c'.size
          replace hz := hz.chg c' (by simp; omega)
          replace C := C.trans c'
          replace hr := hr'
          replace hs := hs.chg c' (by simp; omega)
          refine goT ?_
          refine WO_store1 rfl rfl rfl hs (by simp) fun wq hs oq => ?_
          simp only [List.set_cons_zero, List.set_cons_succ] at hs
          have sq := oq.size
          replace hz := hz.chg oq.chg (by simp; omega)
          replace hr := hr.chg oq.chg (by simp; omega)
          replace C := Chg.freshS C oq.chg (by simp; omega)
          have hq : stmtF (stmtsF d) st = ((7, (varF (hasF [42] st).2).1, (varF (skipF [61] (varF (hasF [42] st).2).2)).1, 0, .nil, .nil), (varF (skipF [61] (varF (hasF [42] st).2).2)).2) := by
            unfold stmtF
            rw [if_neg (by rw [h1]; simp), if_neg (by rw [h2]; simp), if_neg (by rw [h3]; simp), if_pos h4]
          refine goT ?_
          refine WO_loadSB rfl hs rfl ?_
          refine WO_storeS (k := 6) (vs := [.int .i64 (7), .int .i64 ((varF (hasF [42] st).2).1), .int .i64 ((varF (skipF [61] (varF (hasF [42] st).2).2)).1), .int .i64 (0), .slice none 0 0, .slice none 0 0]) rfl rfl rfl (by simp [Value.oneCell']) hz (by decide) fun wz hzz oz => ?_
          replace hzz : Blk wz w.heap.size [.int .i64 (7), .int .i64 ((varF (hasF [42] st).2).1), .int .i64 ((varF (skipF [61] (varF (hasF [42] st).2).2)).1), .int .i64 (0), .slice none 0 0, .slice none 0 0] _ := hzz
          refine goT ?_
          exact at_retC rfl rfl hzz rfl ⟨by rw [hq]; exact StX.flat, by rw [hq]; exact hr.chg oz.chg (by simp; omega), Chg.freshS C oz.chg (by simp)⟩
        | false =>
          rw [hasF_stay h4] at hr
          refine goT ?_
          refine WO_call rfl (variable_ret rb _ _ hr) ?_
          rintro _ w6 ⟨rfl, hr', c'⟩
          have szw6 := c'.size
          replace hz := hz.chg c' (by simp; omega)
          replace C := C.trans c'
          replace hr := hr'
          refine goT ?_
          refine WO_alloc fun w7 hs e7 z7 => ?_
          refine WO_storeS (k := 6) (vs := [.int .i64 (0), .int .i64 ((varF st).1), .int .i64 0, .int .i64 0, .slice none 0 0, .slice none 0 0]) rfl rfl rfl (by simp [Value.oneCell']) hs (by decide) fun w8 hs o8 => ?_
          replace hs : Blk w8 w6.heap.size [.int .i64 (0), .int .i64 ((varF st).1), .int .i64 0, .int .i64 0, .slice none 0 0, .slice none 0 0] _ := hs
          have s7 := e7.size_le
          have s8 := o8.size
          have sl8 := hs.lt
          replace hz := (hz.ext e7).chg o8.chg (by simp; omega)
          replace hr := (hr.ext e7).chg o8.chg (by simp; omega)
          replace C := Chg.freshS (C.trans (e7.chg _)) o8.chg (by simp; omega)
          refine goT ?_
          refine WO_call rfl (skip_ret rb [61] _ _ hr) ?_
          rintro _ w9 ⟨rfl, hr', c'⟩
          have szw9 := c'.size
          replace hz := hz.chg c' (by simp; omega)
          replace C := C.trans c'
          replace hr := hr'
          replace hs := hs.chg c' (by simp; omega)
          have hq0 : stmtF (stmtsF d) st = (let v := varF st
            let s := skipF [61] v.2
            if (hasF wBox s).1 then ((2, v.1, 0, (numbF (hasF wBox s).2).1, .nil, .nil), (numbF (hasF wBox s).2).2)
            else if (hasF wMut s).1 then ((5, v.1, (varF (hasF wMut s).2).1, 0, .nil, .nil), (varF (hasF wMut s).2).2)
            else if (hasF [38] s).1 then ((4, v.1, (varF (hasF [38] s).2).1, 0, .nil, .nil), (varF (hasF [38] s).2).2)
            else if (hasF [42] s).1 then ((6, v.1, (varF (hasF [42] s).2).1, 0, .nil, .nil), (varF (hasF [42] s).2).2)
            else if isDig s.1 then ((1, v.1, 0, (numbF s).1, .nil, .nil), (numbF s).2)
            else ((3, v.1, (varF s).1, 0, .nil, .nil), (varF s).2)) := by
            unfold stmtF
            rw [if_neg (by rw [h1]; simp), if_neg (by rw [h2]; simp), if_neg (by rw [h3]; simp), if_neg (by rw [h4]; simp)]
          simp only at hq0
          generalize hs0 : skipF [61] (varF st).2 = s at hq0 hr
          generalize hx0 : (varF st).1 = x at hq0 hs
          refine goT ?_
          refine WO_call rfl (has_ret rb wBox s _ hr) ?_
          rintro _ w10 ⟨rfl, hr', c'⟩
          have szw10 := c'.size
          replace hz := hz.chg c' (by simp; omega)
          replace C := C.trans c'
          replace hr := hr'
          replace hs := hs.chg c' (by simp; omega)
          cases g1 : (hasF wBox s).1 with
          | true =>
            have hq := hq0.trans (if_pos g1)
            refine goT ?_
            refine WO_call rfl (number_ret rb _ _ hr) ?_
            rintro _ w11 ⟨rfl, hr', c'⟩
            have szw11 := c'.size
            replace hz := hz.chg c' (by simp; omega)
            replace C := C.trans c'
            replace hr := hr'
            replace hs := hs.chg c' (by simp; omega)
            refine goT ?_
            refine WO_store1 rfl rfl rfl hs (by simp) fun wq hs oq => ?_
            simp only [List.set_cons_zero, List.set_cons_succ] at hs
            have sq := oq.size
            replace hz := hz.chg oq.chg (by simp; omega)
            replace hr := hr.chg oq.chg (by simp; omega)
            replace C := Chg.freshS C oq.chg (by simp; omega)
            refine goT ?_
            refine WO_store1 rfl rfl rfl hs (by simp) fun wq hs oq => ?_
            simp only [List.set_cons_zero, List.set_cons_succ] at hs
            have sq := oq.size
            replace hz := hz.chg oq.chg (by simp; omega)
            replace hr := hr.chg oq.chg (by simp; omega)
            replace C := Chg.freshS C oq.chg (by simp; omega)
            refine goT ?_
            refine WO_loadSB rfl hs rfl ?_
            refine WO_storeS (k := 6) (vs := [.int .i64 (2), .int .i64 (x), .int .i64 (0), .int .i64 ((numbF (hasF wBox s).2).1), .slice none 0 0, .slice none 0 0]) rfl rfl rfl (by simp [Value.oneCell']) hz (by decide) fun wz hzz oz => ?_
            replace hzz : Blk wz w.heap.size [.int .i64 (2), .int .i64 (x), .int .i64 (0), .int .i64 ((numbF (hasF wBox s).2).1), .slice none 0 0, .slice none 0 0] _ := hzz
            refine goT ?_
            exact at_retC rfl rfl hzz rfl ⟨by rw [hq]; exact StX.flat, by rw [hq]; exact hr.chg oz.chg (by simp; omega), Chg.freshS C oz.chg (by simp)⟩
          | false =>
            replace hq0 := hq0.trans (if_neg (by rw [g1]; simp))
            rw [hasF_stay g1] at hr
            refine goT ?_
            refine WO_call rfl (has_ret rb wMut s _ hr) ?_
            rintro _ w12 ⟨rfl, hr', c'⟩
            have szw12 := c'.size
            replace hz := hz.chg c' (by simp; omega)
            replace C := C.trans c'
            replace hr := hr'
            replace hs := hs.chg c' (by simp; omega)
            cases g2 : (hasF wMut s).1 with
            | true =>
              have hq := hq0.trans (if_pos g2)
              refine goT ?_
              refine WO_call rfl (variable_ret rb _ _ hr) ?_
              rintro _ w11 ⟨rfl, hr', c'⟩
              have szw11 := c'.size
              replace hz := hz.chg c' (by simp; omega)
              replace C := C.trans c'
              replace hr := hr'
              replace hs := hs.chg c' (by simp; omega)
              refine goT ?_
              refine WO_store1 rfl rfl rfl hs (by simp) fun wq hs oq => ?_
              simp only [List.set_cons_zero, List.set_cons_succ] at hs
              have sq := oq.size
              replace hz := hz.chg oq.chg (by simp; omega)
              replace hr := hr.chg oq.chg (by simp; omega)
              replace C := Chg.freshS C oq.chg (by simp; omega)
              refine goT ?_
              refine WO_store1 rfl rfl rfl hs (by simp) fun wq hs oq => ?_
              simp only [List.set_cons_zero, List.set_cons_succ] at hs
              have sq := oq.size
              replace hz := hz.chg oq.chg (by simp; omega)
              replace hr := hr.chg oq.chg (by simp; omega)
              replace C := Chg.freshS C oq.chg (by simp; omega)
              refine goT ?_
              refine WO_loadSB rfl hs rfl ?_
              refine WO_storeS (k := 6) (vs := [.int .i64 (5), .int .i64 (x), .int .i64 ((varF (hasF wMut s).2).1), .int .i64 (0), .slice none 0 0, .slice none 0 0]) rfl rfl rfl (by simp [Value.oneCell']) hz (by decide) fun wz hzz oz => ?_
              replace hzz : Blk wz w.heap.size [.int .i64 (5), .int .i64 (x), .int .i64 ((varF (hasF wMut s).2).1), .int .i64 (0), .slice none 0 0, .slice none 0 0] _ := hzz
              refine goT ?_
              exact at_retC rfl rfl hzz rfl ⟨by rw [hq]; exact StX.flat, by rw [hq]; exact hr.chg oz.chg (by simp; omega), Chg.freshS C oz.chg (by simp)⟩
            | false =>
              replace hq0 := hq0.trans (if_neg (by rw [g2]; simp))
              rw [hasF_stay g2] at hr
              refine goT ?_
              refine WO_call rfl (has_ret rb [38] s _ hr) ?_
              rintro _ w13 ⟨rfl, hr', c'⟩
              have szw13 := c'.size
              replace hz := hz.chg c' (by simp; omega)
              replace C := C.trans c'
              replace hr := hr'
              replace hs := hs.chg c' (by simp; omega)
              cases g3 : (hasF [38] s).1 with
              | true =>
                have hq := hq0.trans (if_pos g3)
                refine goT ?_
                refine WO_call rfl (variable_ret rb _ _ hr) ?_
                rintro _ w11 ⟨rfl, hr', c'⟩
                have szw11 := c'.size
                replace hz := hz.chg c' (by simp; omega)
                replace C := C.trans c'
                replace hr := hr'
                replace hs := hs.chg c' (by simp; omega)
                refine goT ?_
                refine WO_store1 rfl rfl rfl hs (by simp) fun wq hs oq => ?_
                simp only [List.set_cons_zero, List.set_cons_succ] at hs
                have sq := oq.size
                replace hz := hz.chg oq.chg (by simp; omega)
                replace hr := hr.chg oq.chg (by simp; omega)
                replace C := Chg.freshS C oq.chg (by simp; omega)
                refine goT ?_
                refine WO_store1 rfl rfl rfl hs (by simp) fun wq hs oq => ?_
                simp only [List.set_cons_zero, List.set_cons_succ] at hs
                have sq := oq.size
                replace hz := hz.chg oq.chg (by simp; omega)
                replace hr := hr.chg oq.chg (by simp; omega)
                replace C := Chg.freshS C oq.chg (by simp; omega)
                refine goT ?_
                refine WO_loadSB rfl hs rfl ?_
                refine WO_storeS (k := 6) (vs := [.int .i64 (4), .int .i64 (x), .int .i64 ((varF (hasF [38] s).2).1), .int .i64 (0), .slice none 0 0, .slice none 0 0]) rfl rfl rfl (by simp [Value.oneCell']) hz (by decide) fun wz hzz oz => ?_
                replace hzz : Blk wz w.heap.size [.int .i64 (4), .int .i64 (x), .int .i64 ((varF (hasF [38] s).2).1), .int .i64 (0), .slice none 0 0, .slice none 0 0] _ := hzz
                refine goT ?_
                exact at_retC rfl rfl hzz rfl ⟨by rw [hq]; exact StX.flat, by rw [hq]; exact hr.chg oz.chg (by simp; omega), Chg.freshS C oz.chg (by simp)⟩
              | false =>
                replace hq0 := hq0.trans (if_neg (by rw [g3]; simp))
                rw [hasF_stay g3] at hr
                refine goT ?_
                refine WO_call rfl (has_ret rb [42] s _ hr) ?_
                rintro _ w14 ⟨rfl, hr', c'⟩
                have szw14 := c'.size
                replace hz := hz.chg c' (by simp; omega)
                replace C := C.trans c'
                replace hr := hr'
                replace hs := hs.chg c' (by simp; omega)
                cases g4 : (hasF [42] s).1 with
                | true =>
                  have hq := hq0.trans (if_pos g4)
                  refine goT ?_
                  refine WO_call rfl (variable_ret rb _ _ hr) ?_
                  rintro _ w11 ⟨rfl, hr', c'⟩
                  have szw11 := c'.size
                  replace hz := hz.chg c' (by simp; omega)
                  replace C := C.trans c'
                  replace hr := hr'
                  replace hs := hs.chg c' (by simp; omega)
                  refine goT ?_
                  refine WO_store1 rfl rfl rfl hs (by simp) fun wq hs oq => ?_
                  simp only [List.set_cons_zero, List.set_cons_succ] at hs
                  have sq := oq.size
                  replace hz := hz.chg oq.chg (by simp; omega)
                  replace hr := hr.chg oq.chg (by simp; omega)
                  replace C := Chg.freshS C oq.chg (by simp; omega)
                  refine goT ?_
                  refine WO_store1 rfl rfl rfl hs (by simp) fun wq hs oq => ?_
                  simp only [List.set_cons_zero, List.set_cons_succ] at hs
                  have sq := oq.size
                  replace hz := hz.chg oq.chg (by simp; omega)
                  replace hr := hr.chg oq.chg (by simp; omega)
                  replace C := Chg.freshS C oq.chg (by simp; omega)
                  refine goT ?_
                  refine WO_loadSB rfl hs rfl ?_
                  refine WO_storeS (k := 6) (vs := [.int .i64 (6), .int .i64 (x), .int .i64 ((varF (hasF [42] s).2).1), .int .i64 (0), .slice none 0 0, .slice none 0 0]) rfl rfl rfl (by simp [Value.oneCell']) hz (by decide) fun wz hzz oz => ?_
                  replace hzz : Blk wz w.heap.size [.int .i64 (6), .int .i64 (x), .int .i64 ((varF (hasF [42] s).2).1), .int .i64 (0), .slice none 0 0, .slice none 0 0] _ := hzz
                  refine goT ?_
                  exact at_retC rfl rfl hzz rfl ⟨by rw [hq]; exact StX.flat, by rw [hq]; exact hr.chg oz.chg (by simp; omega), Chg.freshS C oz.chg (by simp)⟩
                | false =>
                  replace hq0 := hq0.trans (if_neg (by rw [g4]; simp))
                  rw [hasF_stay g4] at hr
                  obtain ⟨sx, sb⟩ := s
                  have hrB : Blk w14 rb [sV sx, .bool sb] 60 := hr
                  simp only at hq0
                  cases sx with
                  | nil =>
                    have hq := hq0.trans (if_neg (by simp [isDig]))
                    refine goT ?_
                    rw [show (!decide (([] : List UInt8) = [])) = false from by simp]
                    refine goT ?_
                    refine WO_call rfl (variable_ret rb _ _ hr) ?_
                    rintro _ w11 ⟨rfl, hr', c'⟩
                    have szw11 := c'.size
                    replace hz := hz.chg c' (by simp; omega)
                    replace C := C.trans c'
                    replace hr := hr'
                    replace hs := hs.chg c' (by simp; omega)
                    refine goT ?_
                    refine WO_store1 rfl rfl rfl hs (by simp) fun wq hs oq => ?_
                    simp only [List.set_cons_zero, List.set_cons_succ] at hs
                    have sq := oq.size
                    replace hz := hz.chg oq.chg (by simp; omega)
                    replace hr := hr.chg oq.chg (by simp; omega)
                    replace C := Chg.freshS C oq.chg (by simp; omega)
                    refine goT ?_
                    refine WO_store1 rfl rfl rfl hs (by simp) fun wq hs oq => ?_
                    simp only [List.set_cons_zero, List.set_cons_succ] at hs
                    have sq := oq.size
                    replace hz := hz.chg oq.chg (by simp; omega)
                    replace hr := hr.chg oq.chg (by simp; omega)
                    replace C := Chg.freshS C oq.chg (by simp; omega)
                    refine goT ?_
                    refine WO_loadSB rfl hs rfl ?_
                    refine WO_storeS (k := 6) (vs := [.int .i64 (3), .int .i64 (x), .int .i64 ((varF (_, sb)).1), .int .i64 (0), .slice none 0 0, .slice none 0 0]) rfl rfl rfl (by simp [Value.oneCell']) hz (by decide) fun wz hzz oz => ?_
                    replace hzz : Blk wz w.heap.size [.int .i64 (3), .int .i64 (x), .int .i64 ((varF (_, sb)).1), .int .i64 (0), .slice none 0 0, .slice none 0 0] _ := hzz
                    refine goT ?_
                    exact at_retC rfl rfl hzz rfl ⟨by rw [hq]; exact StX.flat, by rw [hq]; exact hr.chg oz.chg (by simp; omega), Chg.freshS C oz.chg (by simp)⟩
                  | cons c r =>
                    have hc := c.toNat_lt
                    refine goT ?_
                    rw [show (!decide ((c :: r : List UInt8) = [])) = true from by simp]
                    refine goT ?_
                    refine Z13 (q_strAt (j := 0) rfl rfl rfl (by simp)) ?_
                    rw [show (c :: r)[0] = c from rfl]
                    by_cases hd1 : 48 ≤ c.toNat
                    · refine goT ?_
                      rw [decide_eq_true (show ((c.toNat : Nat) : Int) ≥ 48 by omega)]
                      refine goT ?_
                      refine Z13 (q_strAt (j := 0) rfl rfl rfl (by simp)) ?_
                      rw [show (c :: r)[0] = c from rfl]
                      by_cases hd2 : c.toNat ≤ 57
                      · have hq := hq0.trans (if_pos (by simp [isDig]; omega))
                        refine goT ?_
                        rw [decide_eq_true (show ((c.toNat : Nat) : Int) ≤ 57 by omega)]
                        refine goT ?_
                        refine WO_call rfl (number_ret rb _ _ hr) ?_
                        rintro _ w11 ⟨rfl, hr', c'⟩
                        have szw11 := c'.size
                        replace hz := hz.chg c' (by simp; omega)
                        replace C := C.trans c'
                        replace hr := hr'
                        replace hs := hs.chg c' (by simp; omega)
                        refine goT ?_
                        refine WO_store1 rfl rfl rfl hs (by simp) fun wq hs oq => ?_
                        simp only [List.set_cons_zero, List.set_cons_succ] at hs
                        have sq := oq.size
                        replace hz := hz.chg oq.chg (by simp; omega)
                        replace hr := hr.chg oq.chg (by simp; omega)
                        replace C := Chg.freshS C oq.chg (by simp; omega)
                        refine goT ?_
                        refine WO_store1 rfl rfl rfl hs (by simp) fun wq hs oq => ?_
                        simp only [List.set_cons_zero, List.set_cons_succ] at hs
                        have sq := oq.size
                        replace hz := hz.chg oq.chg (by simp; omega)
                        replace hr := hr.chg oq.chg (by simp; omega)
                        replace C := Chg.freshS C oq.chg (by simp; omega)
                        refine goT ?_
                        refine WO_loadSB rfl hs rfl ?_
                        refine WO_storeS (k := 6) (vs := [.int .i64 (1), .int .i64 (x), .int .i64 (0), .int .i64 ((numbF (c :: r, sb)).1), .slice none 0 0, .slice none 0 0]) rfl rfl rfl (by simp [Value.oneCell']) hz (by decide) fun wz hzz oz => ?_
                        replace hzz : Blk wz w.heap.size [.int .i64 (1), .int .i64 (x), .int .i64 (0), .int .i64 ((numbF (c :: r, sb)).1), .slice none 0 0, .slice none 0 0] _ := hzz
                        refine goT ?_
                        exact at_retC rfl rfl hzz rfl ⟨by rw [hq]; exact StX.flat, by rw [hq]; exact hr.chg oz.chg (by simp; omega), Chg.freshS C oz.chg (by simp)⟩
                      · have hq := hq0.trans (if_neg (by simp [isDig]; omega))
                        refine goT ?_
                        rw [decide_eq_false (show ¬ ((c.toNat : Nat) : Int) ≤ 57 by omega)]
                        refine goT ?_
                        refine WO_call rfl (variable_ret rb _ _ hr) ?_
                        rintro _ w11 ⟨rfl, hr', c'⟩
                        have szw11 := c'.size
                        replace hz := hz.chg c' (by simp; omega)
                        replace C := C.trans c'
                        replace hr := hr'
                        replace hs := hs.chg c' (by simp; omega)
                        refine goT ?_
                        refine WO_store1 rfl rfl rfl hs (by simp) fun wq hs oq => ?_
                        simp only [List.set_cons_zero, List.set_cons_succ] at hs
                        have sq := oq.size
                        replace hz := hz.chg oq.chg (by simp; omega)
                        replace hr := hr.chg oq.chg (by simp; omega)
                        replace C := Chg.freshS C oq.chg (by simp; omega)
                        refine goT ?_
                        refine WO_store1 rfl rfl rfl hs (by simp) fun wq hs oq => ?_
                        simp only [List.set_cons_zero, List.set_cons_succ] at hs
                        have sq := oq.size
                        replace hz := hz.chg oq.chg (by simp; omega)
                        replace hr := hr.chg oq.chg (by simp; omega)
                        replace C := Chg.freshS C oq.chg (by simp; omega)
                        refine goT ?_
                        refine WO_loadSB rfl hs rfl ?_
                        refine WO_storeS (k := 6) (vs := [.int .i64 (3), .int .i64 (x), .int .i64 ((varF (_, sb)).1), .int .i64 (0), .slice none 0 0, .slice none 0 0]) rfl rfl rfl (by simp [Value.oneCell']) hz (by decide) fun wz hzz oz => ?_
                        replace hzz : Blk wz w.heap.size [.int .i64 (3), .int .i64 (x), .int .i64 ((varF (_, sb)).1), .int .i64 (0), .slice none 0 0, .slice none 0 0] _ := hzz
                        refine goT ?_
                        exact at_retC rfl rfl hzz rfl ⟨by rw [hq]; exact StX.flat, by rw [hq]; exact hr.chg oz.chg (by simp; omega), Chg.freshS C oz.chg (by simp)⟩
                    · have hq := hq0.trans (if_neg (by simp [isDig]; omega))
                      refine goT ?_
                      rw [decide_eq_false (show ¬ ((c.toNat : Nat) : Int) ≥ 48 by omega)]
                      refine goT ?_
                      refine WO_call rfl (variable_ret rb _ _ hr) ?_
                      rintro _ w11 ⟨rfl, hr', c'⟩
                      have szw11 := c'.size
                      replace hz := hz.chg c' (by simp; omega)
                      replace C := C.trans c'
                      replace hr := hr'
                      replace hs := hs.chg c' (by simp; omega)
                      refine goT ?_
                      refine WO_store1 rfl rfl rfl hs (by simp) fun wq hs oq => ?_
                      simp only [List.set_cons_zero, List.set_cons_succ] at hs
                      have sq := oq.size
                      replace hz := hz.chg oq.chg (by simp; omega)
                      replace hr := hr.chg oq.chg (by simp; omega)
                      replace C := Chg.freshS C oq.chg (by simp; omega)
                      refine goT ?_
                      refine WO_store1 rfl rfl rfl hs (by simp) fun wq hs oq => ?_
                      simp only [List.set_cons_zero, List.set_cons_succ] at hs
                      have sq := oq.size
                      replace hz := hz.chg oq.chg (by simp; omega)
                      replace hr := hr.chg oq.chg (by simp; omega)
                      replace C := Chg.freshS C oq.chg (by simp; omega)
                      refine goT ?_
                      refine WO_loadSB rfl hs rfl ?_
                      refine WO_storeS (k := 6) (vs := [.int .i64 (3), .int .i64 (x), .int .i64 ((varF (_, sb)).1), .int .i64 (0), .slice none 0 0, .slice none 0 0]) rfl rfl rfl (by simp [Value.oneCell']) hz (by decide) fun wz hzz oz => ?_
                      replace hzz : Blk wz w.heap.size [.int .i64 (3), .int .i64 (x), .int .i64 ((varF (_, sb)).1), .int .i64 (0), .slice none 0 0, .slice none 0 0] _ := hzz
                      refine goT ?_
                      exact at_retC rfl rfl hzz rfl ⟨by rw [hq]; exact StX.flat, by rw [hq]; exact hr.chg oz.chg (by simp; omega), Chg.freshS C oz.chg (by simp)⟩
theorem stmts_zero : RsP 0 := by
  intro rb st w h hl
  obtain ⟨s, b⟩ := st
  have hr : Blk w rb [sV s, .bool b] 60 := h
  refine enter Tryd.func33 rfl Tryd.ntmps33 rfl rfl ?_
  refine goT ?_
  rw [decide_eq_true (show (5 - ((0 : Nat) : Int)) > 4 by omega)]
  refine goT ?_
  refine WO_store1 rfl rfl rfl hr (by simp) fun w1 hb o1 => ?_
  simp only [List.set_cons_zero, List.set_cons_succ] at hb
  refine goT ?_
  exact at_ret1 rfl rfl ⟨LsX.nil_, hb, o1.chg⟩
theorem loopF_no {g : RSt → One × RSt} {k : Nat} {st : RSt} (h : ¬ (st.2 = false ∧ (hasF [59] st).1 = true)) : loopF g k st = (.nil, st) := by
  cases k with
  | zero => rfl
  | succ k => unfold loopF; rw [if_neg h]
theorem loopF_yes {g : RSt → One × RSt} {k : Nat} {st : RSt} (hk : st.1.length ≤ k) (h1 : st.2 = false) (h2 : (hasF [59] st).1 = true) : ∃ j, k = j + 1 ∧ (hasF [59] st).2.1.length ≤ j ∧ loopF g k st = (consO (g (hasF [59] st).2).1 (loopF g j (g (hasF [59] st).2).2).1, (loopF g j (g (hasF [59] st).2).2).2) := by
  have hlt := hasF_lt h2 (by decide)
  cases k with
  | zero => omega
  | succ k => exact ⟨k, rfl, by omega, by rw [loopF, if_pos ⟨h1, h2⟩]⟩
theorem stmts_succ (d : Nat) (hd : d ≤ 4) (it : RtP d) : RsP (d + 1) := by
  intro rb st w h hl
  rw [show (5 - ((d + 1 : Nat) : Int)) = 4 - (d : Int) from by omega]
  obtain ⟨s, b⟩ := st
  have hrb := h.lt
  have hr : Blk w rb [sV s, .bool b] 60 := h
  refine enter Tryd.func33 rfl Tryd.ntmps33 rfl rfl ?_
  refine goT ?_
  rw [decide_eq_false (show ¬ (4 - (d : Int)) > 4 by omega)]
  cases b with
  | true =>
    have hq : stmtsF (d + 1) (s, true) = (.nil, (s, true)) := by rw [stmtsF, if_pos (.inl rfl)]
    refine goT ?_
    exact at_ret1 rfl rfl ⟨by rw [hq]; exact LsX.nil_, by rw [hq]; exact h, Chg.refl _ _⟩
  | false =>
    cases s with
    | nil =>
      have hq : stmtsF (d + 1) ([], false) = (.nil, ([], false)) := by rw [stmtsF, if_pos (.inr rfl)]
      refine goT ?_
      rw [decide_eq_true (show ([] : List UInt8) = [] from rfl)]
      refine goT ?_
      exact at_ret1 rfl rfl ⟨by rw [hq]; exact LsX.nil_, by rw [hq]; exact h, Chg.refl _ _⟩
    | cons c s =>
      have hc := c.toNat_lt
      refine goT ?_
      rw [decide_eq_false (show ¬ (c :: s : List UInt8) = [] from by simp)]
      refine goT ?_
      refine Z13 (q_strAt (j := 0) rfl rfl rfl (by simp)) ?_
      rw [show (c :: s)[0] = c from rfl]
      refine goT ?_
      rw [show (((c.toNat : Nat) : Int) == 125) = decide (c = 125) from u8_eq (b := c) (k := 125) (by decide)]
      by_cases h125 : c = 125
      · have hq : stmtsF (d + 1) (c :: s, false) = (.nil, (c :: s, false)) := by rw [stmtsF, if_pos (.inr (by rw [h125]; rfl))]
        rw [decide_eq_true h125]
        refine goT ?_
        exact at_ret1 rfl rfl ⟨by rw [hq]; exact LsX.nil_, by rw [hq]; exact h, Chg.refl _ _⟩
      · have hq : stmtsF (d + 1) (c :: s, false) = (consO (stmtF (stmtsF d) (c :: s, false)).1 (loopF (stmtF (stmtsF d)) (stmtF (stmtsF d) (c :: s, false)).2.1.length (stmtF (stmtsF d) (c :: s, false)).2).1, (loopF (stmtF (stmtsF d)) (stmtF (stmtsF d) (c :: s, false)).2.1.length (stmtF (stmtsF d) (c :: s, false)).2).2) := by
          rw [stmtsF, if_neg (by simp [isEnd, h125])]
        rw [decide_eq_false h125]
        refine goT ?_
        refine WO_call rfl (it rb (c :: s, false) w h hl) ?_
        rintro r w1 ⟨S1, r1, c1⟩
        have hlen1 := stmtF_len (stmtsF_len d) (c :: s, false)
        generalize ha0 : stmtF (stmtsF d) (c :: s, false) = a at hq S1 r1 hlen1
        obtain ⟨o, st1⟩ := a
        obtain ⟨vt, ve, hrv, p1, p2⟩ := S1.cells
        subst hrv
        simp only at hq S1 r1 hlen1
        have s1 := c1.size
        refine WO_build (e := 65) (k := 6) [.tmp 32] (vs := [stV o.1 o.2.1 o.2.2.1 o.2.2.2.1 vt ve]) (cs := [.int .i64 o.1, .int .i64 o.2.1, .int .i64 o.2.2.1, .int .i64 o.2.2.2.1, vt, ve]) rfl rfl rfl (by decide) (by decide) (by simp [stV, Value.cells]) (by simp [stV, Value.cells]) fun w2 hb2 e2 z2 => ?_
        have L2 := LsX.first S1 rfl hb2 e2 (by omega) (Nat.le_refl _)
        refine goT ?_
        refine W_loop (α := Ss × RSt × Value) (fun p => [(0, .pointer (some ⟨rb, 0, none⟩)), (1, .int .i64 (4 - (d : Int))), (5, p.2.2)])
          (fun p w' => (∃ k, p.2.1.1.length ≤ k ∧ p.1.app (loopF (stmtF (stmtsF d)) k p.2.1).1 = (stmtsF (d + 1) (c :: s, false)).1 ∧ (loopF (stmtF (stmtsF d)) k p.2.1).2 = (stmtsF (d + 1) (c :: s, false)).2) ∧ LsX 65 w.heap.size w' p.2.2 p.1 ∧ RdX w' rb p.2.1 ∧ Chg [rb] w w' ∧ p.1.len + p.2.1.1.length ≤ 1001) (fun p => p.2.1.1.length) (consO o .nil, st1, _) (by repeat (first | exact True.intro | refine And.intro rfl ?_))
          ⟨⟨st1.1.length, Nat.le_refl _, by rw [hq]; rfl, by rw [hq]⟩, L2, r1.ext e2, c1.trans (e2.chg _), by simp only [consO, Ss.len]; simp at hl hlen1; omega⟩ ?_
        rintro ⟨dl, sx, v⟩ w3 ⟨⟨k, hk, hd1, hd2⟩, hL, hr3, c3, hlen3⟩
        simp only at hk hd1 hd2 hL hr3 c3 hlen3 ⊢
        obtain ⟨sx, sb⟩ := sx
        have hr3B : Blk w3 rb [sV sx, .bool sb] 60 := hr3
        have s3 := c3.size
        refine goT ?_
        cases sb with
        | true =>
          rw [loopF_no (by simp)] at hd1 hd2
          simp only at hd1 hd2
          rw [Ss.app_nil] at hd1
          refine goT ?_
          exact at_ret1 rfl rfl ⟨by rw [← hd1]; exact hL, by rw [← hd2]; exact hr3, c3⟩
        | false =>
          refine goT ?_
          refine WO_call rfl (has_ret rb [59] (sx, false) w3 hr3) ?_
          rintro _ w4 ⟨rfl, r4, c4⟩
          have s4 := c4.size
          cases h59 : (hasF [59] (sx, false)).1 with
          | false =>
            rw [hasF_stay h59] at r4
            rw [loopF_no (by rw [h59]; simp)] at hd1 hd2
            simp only at hd1 hd2
            rw [Ss.app_nil] at hd1
            refine goT ?_
            exact at_ret1 rfl rfl ⟨by rw [← hd1]; exact hL.chg c4 (by simpa using hrb), by rw [← hd2]; exact r4, c3.trans c4⟩
          | true =>
            obtain ⟨j, rfl, hj, hlp⟩ := loopF_yes (g := stmtF (stmtsF d)) hk rfl h59
            rw [hlp] at hd1 hd2
            simp only at hd1 hd2
            have hlt := hasF_lt h59 (by decide)
            simp only at hlt hlen3
            refine goT ?_
            refine WO_call rfl (it rb (hasF [59] (sx, false)).2 w4 r4 (by omega)) ?_
            rintro r w5 ⟨S5, r5, c5⟩
            have hlen5 := stmtF_len (stmtsF_len d) (hasF [59] (sx, false)).2
            generalize ha5 : stmtF (stmtsF d) (hasF [59] (sx, false)).2 = a at hd1 hd2 S5 r5 hlen5
            obtain ⟨o5, st5⟩ := a
            obtain ⟨vt, ve, hrv, p1, p2⟩ := S5.cells
            subst hrv
            simp only at hd1 hd2 S5 r5 hlen5
            have s5 := c5.size
            have c35 := c4.trans c5
            obtain ⟨xs, Fs, g1, g2, g3, g4⟩ := hL
            have g4' : ∀ b ∈ v.ownBlock.toList ++ Fs, w.heap.size ≤ b ∧ b < w4.heap.size := fun b hb => ⟨g4 b hb, by
              rcases List.mem_append.1 hb with hb | hb
              · have := (g1.lt b (by simpa using hb)).2; omega
              · have := StkS.lt _ _ _ g2 b hb; omega⟩
            replace g1 := ownsRow_chg g1 c35 (fun z hz hm => by have := g4' z (by simp [hz]); simp at hm; omega)
            replace g2 := StkS.chg c35 _ _ _ g2 (fun z hz hm => by have := g4' z (by simp [hz]); simp at hm; omega)
            refine WO_app1 (m := dl.len) (u := stV o5.1 o5.2.1 o5.2.2.1 o5.2.2.2.1 vt ve) rfl rfl (by intro v hv; simp [stV, Value.cells] at hv; rcases hv with rfl | rfl | rfl | rfl | rfl | rfl <;> first | rfl | assumption) rfl g1 (by omega) rfl (by omega) (by decide) fun v' w6 k1 k2 k3 => ?_
            have hL6 := LsX.step g1 g2 g3 g4' (by omega) (by omega) S5 k1 k2 (by
              rcases k3 with h | h
              · exact .inl h
              · exact .inr ⟨_, h, by omega⟩)
            have c6 : Chg [rb] w w6 := (c3.trans c35).freshS (grown_chg k2) (fun b hb => .inr (by have := g4' b (by simp at hb ⊢; exact .inl hb); omega))
            have hr6 := RdX.chg r5 (grown_chg k2) (fun hb => by have := g4' rb (by simp at hb ⊢; exact .inl hb); omega)
            refine goT ?_
            exact at_loop (snocO dl o5, st5, v') (by repeat (first | exact True.intro | refine And.intro rfl ?_)) ⟨⟨j, by simp only; omega, by simp only; rw [snocO_app]; exact hd1, hd2⟩, hL6, hr6, c6, by simp only; rw [snocO_len]; omega⟩ (by simp only; omega)
theorem rs0 : RsP 0 := stmts_zero
theorem rs_all : ∀ d, d ≤ 5 → RsP d
  | 0, _ => stmts_zero
  | d + 1, h => stmts_succ d (by omega) (stmt_of d (by omega) (rs_all d (by omega)))
end Go.Proofs.YteonnoijdnjpdaaDoor
