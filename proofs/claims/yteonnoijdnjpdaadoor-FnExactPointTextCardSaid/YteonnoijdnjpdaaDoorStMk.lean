/-
  What is proved here: the laws' copies of statements and programs, what marks do to owned rows of statements, and what held answers.
-/
import Derived.Test.YteonnoijdnjpdaaDoorStLaw
namespace Go.Proofs.YteonnoijdnjpdaaDoor
set_option linter.unusedVariables false
set_option linter.unusedSimpArgs false
set_option linter.unnecessarySimpa false
open Go.RowKit

/-! ### Copies -/
def zeroSt : List Value := [.int .i64 0, .int .i64 0, .int .i64 0, .int .i64 0, .slice none 0 0, .slice none 0 0]
def zeros (k : Nat) : List Value := (List.replicate k zeroSt).flatten
theorem zeros_length (k : Nat) : (zeros k).length = k * 6 := by simp [zeros, zeroSt]
theorem zeros_succ (k : Nat) : zeros (k + 1) = zeroSt ++ zeros k := by simp [zeros, List.replicate_succ]
theorem toIntS_ret (v : Value) (l : List Int) (F : List Nat) (w : World) (h : IntF w v l F) (hn : l.length ≤ 1048576) : Ret Tryd.prog 24 [v] w (NewInts l w) := by
  obtain ⟨A, c, rfl, hl, hx⟩ := h
  refine enter Tryd.func24 rfl Tryd.ntmps24 rfl rfl ?_
  refine goS ?_
  refine WO_make (m := l.length) rfl rfl rfl rfl (by omega) (by decide) (by decide) fun w1 hb e1 z1 => ?_
  have hz : (List.replicate l.length (Value.int .i64 0).cells.toList).flatten = List.replicate l.length (.int .i64 0) := by simp [Value.cells]
  rw [hz] at hb
  refine goS ?_
  refine W_loop (α := Nat) (fun i => [(0, .slice A l.length c), (3, .slice (some ⟨w.heap.size, 0, none⟩) l.length l.length), (4, .int .i64 (i : Int))])
    (fun i w' => i ≤ l.length ∧ Ext w w' ∧ Blk w' w.heap.size ((l.take i).map (.int .i64) ++ List.replicate (l.length - i) (.int .i64 0)) 3) (fun i => l.length - i) 0 (by repeat (first | exact True.intro | refine And.intro rfl ?_)) ⟨Nat.zero_le _, e1, by simpa using hb⟩ ?_
  rintro i w2 ⟨hi, he, hb2⟩
  refine goS ?_
  refine Z52 rfl (fun hc => ?_) (fun hc => ?_)
  · have hlt : i < l.length := by simpa using hc
    obtain ⟨b, o, rfl, _, hcell⟩ := int_at hx hlt
    have hcell := cell_ext hcell he
    refine goS ?_
    refine Z83 rfl rfl rfl hlt ?_
    refine goS ?_
    refine Z83 rfl rfl rfl hlt ?_
    refine WO_store1 rfl rfl rfl hb2 (by simp; omega) fun w3 hb3 o3 => ?_
    refine goS ?_
    refine at_loop (i + 1) (by repeat (first | exact True.intro | refine And.intro rfl ?_)) ⟨hlt, he.only o3 (Nat.le_refl _), ?_⟩ (by omega)
    have e1 : ((l.take i).map (Value.int .i64) ++ List.replicate (l.length - i) (Value.int .i64 0)).set (0 + i * 1) (Value.int .i64 l[i]) = (l.take (i + 1)).map (Value.int .i64) ++ List.replicate (l.length - (i + 1)) (Value.int .i64 0) := by
      rw [Nat.zero_add, Nat.mul_one, List.set_append_right _ _ (by simp; omega), List.take_succ_eq_append_getElem hlt]
      have h1 : l.length - i = l.length - (i + 1) + 1 := by omega
      have h2 : i - ((l.take i).map (Value.int .i64)).length = 0 := by simp; omega
      rw [h1, h2, List.replicate_succ, List.set_cons_zero, List.map_append, List.append_assoc]
      rfl
    rw [← e1]
    exact hb3
  · have hge : i = l.length := by simp at hc; omega
    subst hge
    rw [Nat.sub_self, List.replicate_zero, List.append_nil, List.take_length] at hb2
    refine goS ?_
    refine at_ret1 rfl rfl ⟨⟨[w.heap.size], ⟨_, l.length, rfl, ⟨by unfold maxI; omega, Nat.le_refl _⟩, .inr ⟨_, 0, _, _, rfl, rfl, hb2, by simp, fun i x hi => by simp [hi]⟩⟩, by simp⟩, he⟩
/-- A statement by value in new memory. -/
def NewSt (e : TypeId) (op x y n : Int) (t el : Ss) (w : World) (r : Value) (w' : World) : Prop :=
  ∃ vt ve Ft Fe, r = stV op x y n vt ve ∧ RowS e w' vt t Ft ∧ RowS e w' ve el Fe ∧ (Ft ++ Fe).Nodup ∧ (∀ b ∈ Ft ++ Fe, w.heap.size ≤ b) ∧ Ext w w'
def ToP (l : Ss) : Prop := ∀ v F w, StS w v l F → cntL l ≤ 1048576 → Ret Tryd.prog 25 [v] w (NewS 65 l w)
theorem toStmt_ret0 (op x y n : Int) (t e : Ss) (vt ve : Value) (Ft Fe : List Nat) (w : World) (ht : StS w vt t Ft) (he : StS w ve e Fe) (it : ToP t) (ie : ToP e) (h1 : cntL t ≤ 1048576) (h2 : cntL e ≤ 1048576) :
    Ret Tryd.prog 46 [stV op x y n vt ve] w (NewSt 65 op x y n t e w) := by
  refine enter Tryd.func46 rfl Tryd.ntmps46 rfl rfl ?_
  refine Z43 (Z44 (WO_box rfl fun w1 hs e1 z1 => WO_alloc fun w2 hr e2 z2 => ?_))
  replace hs : Blk w2 w.heap.size [.int .i64 op, .int .i64 x, .int .i64 y, .int .i64 n, vt, ve] _ := Blk.ext hs e2
  replace hr : Blk w2 w1.heap.size [.int .i64 0, .int .i64 0, .int .i64 0, .int .i64 0, .slice none 0 0, .slice none 0 0] _ := hr
  refine goS ?_
  refine WO_alloc fun w3 ho e3 z3 => ?_
  replace ho : Blk w3 w2.heap.size [.int .i64 0, .int .i64 0, .int .i64 0, .int .i64 0, .slice none 0 0, .slice none 0 0] _ := ho
  replace hs := hs.ext e3
  replace hr := hr.ext e3
  have e0 := e1.trans (e2.trans e3)
  have s1 := e1.size_le
  have s2 := e2.size_le
  refine goS ?_
  refine WO_store1 rfl rfl rfl ho (by simp) fun w4 ho4 o4 => ?_
  replace hs := hs.only o4 (by omega)
  replace hr := hr.only o4 (by omega)
  replace e0 := e0.only o4 (by omega)
  simp only [List.set_cons_zero, List.set_cons_succ] at ho4
  refine goS ?_
  refine WO_store1 rfl rfl rfl ho4 (by simp) fun w5 ho5 o5 => ?_
  replace hs := hs.only o5 (by omega)
  replace hr := hr.only o5 (by omega)
  replace e0 := e0.only o5 (by omega)
  simp only [List.set_cons_zero, List.set_cons_succ] at ho5
  refine goS ?_
  refine WO_store1 rfl rfl rfl ho5 (by simp) fun w6 ho6 o6 => ?_
  replace hs := hs.only o6 (by omega)
  replace hr := hr.only o6 (by omega)
  replace e0 := e0.only o6 (by omega)
  simp only [List.set_cons_zero, List.set_cons_succ] at ho6
  refine goS ?_
  refine WO_store1 rfl rfl rfl ho6 (by simp) fun w7 ho7 o7 => ?_
  replace hs := hs.only o7 (by omega)
  replace hr := hr.only o7 (by omega)
  replace e0 := e0.only o7 (by omega)
  simp only [List.set_cons_zero, List.set_cons_succ] at ho7
  clear ho ho4 ho5 ho6
  have hlt7 := ho7.lt
  refine goS ?_
  refine WO_call rfl (it vt Ft w7 (ht.ext e0) h1) ?_
  rintro vt' w8 ⟨⟨G1, r1, n1, b1⟩, e8⟩
  have hone1 := r1.one
  refine goS ?_
  refine WO_store1 rfl rfl hone1 (ho7.ext e8) (by simp) fun w9 ho9 o9 => ?_
  have hlt1 := r1.lt
  have s8 := e8.size_le
  replace hs := (hs.ext e8).only o9 (by omega)
  replace hr := (hr.ext e8).only o9 (by omega)
  replace e0 := (e0.trans e8).only o9 (by omega)
  replace r1 := r1.chg o9.chg (fun z hz hm => by simp only [List.mem_singleton] at hm; subst hm; have := b1 _ hz; omega)
  simp only [List.set_cons_zero, List.set_cons_succ] at ho9
  clear ho7
  have s9 := o9.size
  refine goS ?_
  refine WO_call rfl (ie ve Fe w9 (he.ext e0) h2) ?_
  rintro ve' w10 ⟨⟨G2, r2, n2, b2⟩, e10⟩
  have hone2 := r2.one
  refine goS ?_
  refine WO_store1 rfl rfl hone2 (ho9.ext e10) (by simp) fun w11 ho11 o11 => ?_
  have s10 := e10.size_le
  have s11 := o11.size
  replace hs := (hs.ext e10).only o11 (by omega)
  replace hr := (hr.ext e10).only o11 (by omega)
  replace e0 := (e0.trans e10).only o11 (by omega)
  replace r1 := (r1.ext e10).chg o11.chg (fun z hz hm => by simp only [List.mem_singleton] at hm; subst hm; have := b1 _ hz; omega)
  replace r2 := r2.chg o11.chg (fun z hz hm => by simp only [List.mem_singleton] at hm; subst hm; have := b2 _ hz; omega)
  simp only [List.set_cons_zero, List.set_cons_succ] at ho11
  clear ho9
  refine goS ?_
  refine WO_loadSB rfl ho11 rfl ?_
  refine WO_storeS (k := 6) (vs := [.int .i64 op, .int .i64 x, .int .i64 y, .int .i64 n, vt', ve']) rfl rfl rfl (by intro v hv; simp at hv; rcases hv with rfl | rfl | rfl | rfl | rfl | rfl <;> first | rfl | assumption) hr (by decide) fun w12 hr12 o12 => ?_
  replace hr12 : Blk w12 w1.heap.size [.int .i64 op, .int .i64 x, .int .i64 y, .int .i64 n, vt', ve'] _ := hr12
  refine goS ?_
  refine at_retC rfl rfl hr12 rfl ⟨vt', ve', G1, G2, rfl, r1.chg o12.chg (fun z hz hm => by simp only [List.mem_singleton] at hm; subst hm; have := b1 _ hz; omega), r2.chg o12.chg (fun z hz hm => by simp only [List.mem_singleton] at hm; subst hm; have := b2 _ hz; omega), ?_, ?_, e0.only o12 (by omega)⟩
  · exact List.nodup_append.2 ⟨n1, n2, fun a ha b hb e => by subst e; have := hlt1 a ha; have := b2 a hb; omega⟩
  · intro b hb
    rcases List.mem_append.1 hb with hb | hb
    · have := b1 b hb; omega
    · have := b2 b hb; omega
theorem toStmtS_all (l : Ss) : ToP l := Ss.strong (fun l ih => by
  intro v F w h hn
  obtain ⟨A, c, rfl, hl⟩ := h.slice
  have hst := restS_start h
  have hlc := len_le_cntL l
  refine enter Tryd.func25 rfl Tryd.ntmps25 rfl rfl ?_
  refine goS ?_
  refine WO_make (m := l.len) rfl rfl rfl rfl (by omega) (by decide) (by decide) fun w1 hb e1 z1 => ?_
  replace hb : Blk w1 w.heap.size (zeros l.len) _ := hb
  refine goS ?_
  refine W_loop (α := Nat × Ss × Ss) (fun p => [(0, .slice A l.len c), (3, .slice (some ⟨w.heap.size, 0, none⟩) l.len l.len), (4, .int .i64 (p.1 : Int))])
    (fun p w' => p.2.1.app p.2.2 = l ∧ p.2.1.len = p.1 ∧ RestS w A p.1 p.2.2 ∧ Ext w w' ∧ ∃ xs G, Blk w' w.heap.size (xs ++ zeros p.2.2.len) 65 ∧ StkS 65 w' p.2.1 xs G ∧ G.Nodup ∧ ∀ b ∈ G, w.heap.size < b)
    (fun p => p.2.2.len) (0, .nil, l) (by repeat (first | exact True.intro | refine And.intro rfl ?_)) ⟨rfl, rfl, hst, e1, [], [], by simpa using hb, ⟨rfl, rfl⟩, by simp, by simp⟩ ?_
  rintro ⟨i, d, r⟩ w2 ⟨hap, hdl, hr, he, xs, G, hb2, hstk, hnd, hG⟩
  simp only at hap hdl hr hb2 hstk hnd hG ⊢
  have hlen : d.len + r.len = l.len := by rw [← hap, Ss.len_app]
  have hcn : cntL d + cntL r = cntL l := by rw [← hap, cntL_app]
  refine goS ?_
  refine Z52 rfl (fun hc => ?_) (fun hc => ?_)
  · have hlt : i < l.len := by simpa using hc
    cases r with
    | nil => simp only [Ss.len] at hlen; omega
    | cons op x y n t e r =>
      obtain ⟨b, o, vt, ve, Ft, Fe, rfl, hcells, hT, hE, hrest⟩ := restS_cons hr
      simp only [Ss.len, cntL] at hlen hcn
      have hxl := StkS.length _ _ _ hstk
      have hblt := hb2.lt
      refine goS ?_
      refine Z83 rfl rfl rfl hlt ?_
      refine WO_loadS rfl rfl (fun j u hu => cell_ext (hcells j u hu) he) ?_
      refine WO_call rfl (toStmt_ret0 op x y n t e vt ve Ft Fe w2 (hT.ext he) (hE.ext he) (ih t (by omega)) (ih e (by omega)) (by omega) (by omega)) ?_
      rintro q w3 ⟨vt', ve', G1, G2, rfl, r1, r2, hn12, hb12, e3⟩
      have hone1 := r1.one
      have hone2 := r2.one
      replace hb2 := hb2.ext e3
      refine goS ?_
      refine Z83 rfl rfl rfl hlt ?_
      refine WO_storeS (k := 6) (vs := [.int .i64 op, .int .i64 x, .int .i64 y, .int .i64 n, vt', ve']) rfl rfl rfl (by intro v hv; simp at hv; rcases hv with rfl | rfl | rfl | rfl | rfl | rfl <;> first | rfl | assumption) hb2 (by simp only [List.length_append, zeros_length, Ss.len]; omega) fun w4 hb4 o4 => ?_
      have e1 : (xs ++ zeros (Ss.cons op x y n t e r).len).take (0 + i * 6) ++ [Value.int .i64 op, .int .i64 x, .int .i64 y, .int .i64 n, vt', ve'] ++ (xs ++ zeros (Ss.cons op x y n t e r).len).drop (0 + i * 6 + 6) =
          (xs ++ [Value.int .i64 op, .int .i64 x, .int .i64 y, .int .i64 n, vt', ve']) ++ zeros r.len := by
        rw [Nat.zero_add, ← hdl, ← hxl, List.take_left, List.drop_append]
        simp only [Ss.len, zeros_succ]
        rw [List.drop_eq_nil_of_le (by omega), show xs.length + 6 - xs.length = 6 from by omega]
        simp [zeroSt]
      rw [e1] at hb4
      have hGw : ∀ z ∈ G, z ∉ [w.heap.size] := fun z hz hm => by simp only [List.mem_singleton] at hm; have := hG z hz; omega
      have hGn : ∀ z ∈ G1 ++ G2, z ∉ [w.heap.size] := fun z hz hm => by simp only [List.mem_singleton] at hm; have := hb12 z hz; omega
      have hone := StkS.mk (op := op) (x := x) (y := y) (n := n) (r1.chg o4.chg fun z hz => hGn z (by simp [hz])) (r2.chg o4.chg fun z hz => hGn z (by simp [hz])) (r := .nil) (xr := []) (Fr := []) ⟨rfl, rfl⟩
      rw [List.append_nil] at hone
      have hnew := StkS.append _ _ _ _ _ _ (StkS.chg o4.chg _ _ _ (StkS.ext e3 hstk) hGw) hone
      have hlt3 := StkS.lt _ _ _ hstk
      refine goS ?_
      refine at_loop (i + 1, d.snoc op x y n t e, r) (by repeat (first | exact True.intro | refine And.intro rfl ?_)) ⟨by rw [Ss.snoc_app]; exact hap, by simp only; rw [Ss.len_snoc]; omega, hrest, (he.trans e3).only o4 (Nat.le_refl _), _, _, hb4, hnew, ?_, ?_⟩ (by simp only [Ss.len]; omega)
      · exact List.nodup_append.2 ⟨hnd, hn12, fun a ha b hb e => by subst e; have := hlt3 a ha; have := hb12 a hb; omega⟩
      · intro z hz
        rcases List.mem_append.1 hz with hz | hz
        · exact hG z hz
        · have := hb12 z hz; omega
  · have hge : i = l.len := by simp at hc; omega
    have hr0 : r = .nil := Ss.len_zero (by omega)
    subst hr0
    rw [Ss.app_nil] at hap
    subst hap
    simp only [Ss.len, zeros, List.replicate_zero, List.flatten_nil, List.append_nil] at hb2
    have hxl := StkS.length _ _ _ hstk
    refine goS ?_
    refine at_ret1 rfl rfl ⟨⟨w.heap.size :: G, ⟨xs, G, owns_blk hb2 (Nat.zero_le _) hxl (by unfold maxLen; omega), hstk, rfl⟩, ?_, ?_⟩, he⟩
    · exact List.nodup_cons.2 ⟨fun hm => by have := hG _ hm; omega, hnd⟩
    · intro b hb
      rcases List.mem_cons.1 hb with rfl | hb
      · exact Nat.le_refl _
      · have := hG b hb; omega) l
theorem toStmtS_ret (v : Value) (l : Ss) (F : List Nat) (w : World) (h : StS w v l F) (hn : cntL l ≤ 1048576) : Ret Tryd.prog 25 [v] w (NewS 65 l w) := toStmtS_all l v F w h hn
theorem toStmt_ret (op x y n : Int) (t e : Ss) (vt ve : Value) (Ft Fe : List Nat) (w : World) (ht : StS w vt t Ft) (he : StS w ve e Fe) (h1 : cntL t ≤ 1048576) (h2 : cntL e ≤ 1048576) :
    Ret Tryd.prog 46 [stV op x y n vt ve] w (NewSt 65 op x y n t e w) := toStmt_ret0 op x y n t e vt ve Ft Fe w ht he (toStmtS_all t) (toStmtS_all e) h1 h2
/-! ### Marks -/
def markS : Int → Ss → Ss
  | _, .nil => .nil
  | k, .cons _ _ _ _ t e r => .cons k (k + 1) (k + 2) (k + 3) (markS (k + 4) t) (markS (k + 4 + 4 * cntL t) e) (markS (k + 4 + 4 * cntL t + 4 * cntL e) r)
theorem markS_len : ∀ (l : Ss) (k : Int), (markS k l).len = l.len
  | .nil, _ => rfl
  | .cons op x y n t e r, k => by simp [markS, Ss.len, markS_len r]
theorem markS_cntL : ∀ (l : Ss) (k : Int), cntL (markS k l) = cntL l
  | .nil, _ => rfl
  | .cons op x y n t e r, k => by simp [markS, cntL, markS_cntL t, markS_cntL e, markS_cntL r]
def MkP (l : Ss) : Prop := ∀ v F (k : Int) w, RowS 65 w v l F → F.Nodup → 0 ≤ k → k + 4 * cntL l ≤ 4611686018427387904 →
  Ret Tryd.prog 35 [v, .int .i64 k] w fun r w' => r = .int .i64 (k + 4 * cntL l) ∧ RowS 65 w' v (markS k l) F ∧ Chg F w w'
theorem markStmtS_all (l : Ss) : MkP l := Ss.strong (fun l ih => by
  intro v F k w h hnd hk hk2
  obtain ⟨A, c, rfl, hlc, hcm⟩ := h.slice
  unfold maxI at hcm
  refine enter Tryd.func35 rfl Tryd.ntmps35 rfl rfl ?_
  refine goS ?_
  refine W_loop (α := Nat × Int × Ss × Ss) (fun p => [(0, .slice A l.len c), (1, .int .i64 p.2.1), (5, .int .i64 (p.1 : Int))])
    (fun p w' => p.2.2.1.len = p.1 ∧ markS k l = p.2.2.1.app (markS p.2.1 p.2.2.2) ∧ p.2.1 + 4 * cntL p.2.2.2 = k + 4 * cntL l ∧ k ≤ p.2.1 ∧ cntL p.2.2.2 ≤ cntL l ∧ RowS 65 w' (.slice A l.len c) (p.2.2.1.app p.2.2.2) F ∧ Chg F w w')
    (fun p => p.2.2.2.len) (0, k, .nil, l) (by repeat (first | exact True.intro | refine And.intro rfl ?_)) ⟨rfl, rfl, rfl, Int.le_refl _, Nat.le_refl _, h, Chg.refl _ _⟩ ?_
  rintro ⟨i, q, d, r⟩ w1 ⟨hdl, hmk, hq, hkq, hcl, hr, hch⟩
  simp only at hdl hmk hq hkq hcl hr hch ⊢
  have hlen : d.len + r.len = l.len := by
    have := congrArg Ss.len hmk
    rw [markS_len, Ss.len_app, markS_len] at this
    omega
  refine goS ?_
  refine Z52 rfl (fun hc => ?_) (fun hc => ?_)
  · have hlt : i < l.len := by simpa using hc
    cases r with
    | nil => simp only [Ss.len] at hlen; omega
    | cons op x y n t e r =>
      obtain ⟨g, cap, cs, vt, ve, F1, Ft, Fe, F2, hv, rfl, hb, hcl', hin, hT, hE, hup⟩ := hr.upd
      injection hv with q1 q2 q3
      subst q1
      simp only [Ss.len, cntL] at hlen hq hcl
      have hg : g ∉ Ft ∧ g ∉ Fe := by
        have := hnd
        simp only [List.nodup_cons, List.mem_append, not_or] at this
        exact ⟨this.1.2.1, this.1.2.2.1⟩
      have hTE : ∀ z ∈ Ft, z ∉ Fe := by
        have := hnd
        simp only [List.nodup_cons, List.nodup_append, List.mem_append] at this
        intro z hz hm
        exact this.2.2.1.2.2 z hz z (.inl hm) rfl
      have hG : ∀ z ∈ F1 ++ F2, z ∉ g :: (Ft ++ Fe) := by
        have := hnd
        simp only [List.nodup_cons, List.nodup_append, List.mem_append, not_or] at this
        obtain ⟨⟨g1, g2, g3, g4⟩, n1, ⟨n2, ⟨n3, n4, n5⟩, n6⟩, n7⟩ := this
        intro z hz hm
        rcases List.mem_append.1 hz with hz | hz <;> rcases List.mem_cons.1 hm with hm | hm
        · exact g1 (hm ▸ hz)
        · rcases List.mem_append.1 hm with hm | hm
          · exact n7 z hz z (.inl hm) rfl
          · exact n7 z hz z (.inr (.inl hm)) rfl
        · exact g4 (hm ▸ hz)
        · rcases List.mem_append.1 hm with hm | hm
          · exact n6 z hm z (.inr hz) rfl
          · exact n5 z hm z hz rfl
      have hone1 := hT.one
      have hone2 := hE.one
      have hnt : Ft.Nodup := by
        have := hnd
        simp only [List.nodup_cons, List.nodup_append] at this
        exact this.2.2.1.1
      have hne : Fe.Nodup := by
        have := hnd
        simp only [List.nodup_cons, List.nodup_append] at this
        exact this.2.2.1.2.1.1
      have hgT : ∀ z ∈ Ft, z ∉ [g] := fun z hz hm => by simp only [List.mem_singleton] at hm; subst hm; exact hg.1 hz
      have hgE : ∀ z ∈ Fe, z ∉ [g] := fun z hz hm => by simp only [List.mem_singleton] at hm; subst hm; exact hg.2 hz
      rw [hdl] at hin hcl'
      have d4 : cs[i * 6 + 4]? = some vt := hin 4 vt rfl
      have d5 : cs[i * 6 + 5]? = some ve := hin 5 ve rfl
      refine goS ?_
      refine Z83 rfl rfl rfl hlt ?_
      refine goS ?_
      refine WO_store1 rfl rfl rfl hb (by omega) fun w2 hb2 o2 => ?_
      simp only [Nat.zero_add, Nat.add_zero] at hb2
      refine goS ?_
      refine Z83 rfl rfl rfl hlt ?_
      refine goS ?_
      refine WO_store1 rfl rfl rfl hb2 (by simp; omega) fun w3 hb3 o3 => ?_
      simp only [Nat.zero_add, Nat.add_zero] at hb3
      refine goS ?_
      refine Z83 rfl rfl rfl hlt ?_
      refine goS ?_
      refine WO_store1 rfl rfl rfl hb3 (by simp; omega) fun w4 hb4 o4 => ?_
      simp only [Nat.zero_add, Nat.add_zero] at hb4
      refine goS ?_
      refine Z83 rfl rfl rfl hlt ?_
      refine goS ?_
      refine WO_store1 rfl rfl rfl hb4 (by simp; omega) fun w5 hb5 o5 => ?_
      simp only [Nat.zero_add, Nat.add_zero] at hb5
      have c5 : Chg [g] w1 w5 := o2.chg.trans (o3.chg.trans (o4.chg.trans o5.chg))
      refine goS ?_
      refine Z83 rfl rfl rfl hlt ?_
      refine goS ?_
      refine Z10 rfl hb5 (by simp only [Nat.zero_add]; rw [List.getElem?_set_ne (by omega), List.getElem?_set_ne (by omega), List.getElem?_set_ne (by omega), List.getElem?_set_ne (by omega)]; exact d4) ?_
      refine goS ?_
      refine WO_call rfl (ih t (by omega) vt Ft (q + 1 + 1 + 1 + 1) w5 (hT.chg c5 hgT) hnt (by omega) (by omega)) ?_
      rintro _ w6 ⟨rfl, hT6, c6⟩
      replace hb5 := hb5.chg c6 hg.1
      have hE6 := (hE.chg c5 hgE).chg c6 (fun z hz hm => hTE z hm hz)
      refine goS ?_
      refine Z83 rfl rfl rfl hlt ?_
      refine goS ?_
      refine Z10 rfl hb5 (by simp only [Nat.zero_add]; rw [List.getElem?_set_ne (by omega), List.getElem?_set_ne (by omega), List.getElem?_set_ne (by omega), List.getElem?_set_ne (by omega)]; exact d5) ?_
      refine goS ?_
      refine WO_call rfl (ih e (by omega) ve Fe (q + 1 + 1 + 1 + 1 + 4 * cntL t) w6 hE6 hne (by omega) (by omega)) ?_
      rintro _ w7 ⟨rfl, hE7, c7⟩
      replace hb5 := hb5.chg c7 hg.2
      have hT7 := hT6.chg c7 hTE
      have c17 : Chg (g :: (Ft ++ Fe)) w1 w7 := (c5.mono (by simp)).trans ((c6.mono (by intro z hz; simp [hz])).trans (c7.mono (by intro z hz; simp [hz])))
      have eq4 : q + 1 + 1 + 1 + 1 = q + 4 := by omega
      rw [eq4] at hT7 hE7
      have hnew := hup w7 _ q (q + 1) (q + 2) (q + 3) (markS (q + 4) t) (markS (q + 4 + 4 * cntL t) e) vt ve Ft Fe (g :: (Ft ++ Fe)) hb5 (by simp) (fun p hp => by
        rw [hdl] at hp
        rw [List.getElem?_set_ne (by omega), List.getElem?_set_ne (by omega), List.getElem?_set_ne (by omega), List.getElem?_set_ne (by omega)]) (fun j u hu => by
        have hj : j < 6 := (List.getElem?_eq_some_iff.1 hu).1
        rw [hdl]
        match j, hj, hu with
        | 0, _, hu => cases hu; rw [List.getElem?_set_ne (by omega), List.getElem?_set_ne (by omega), List.getElem?_set_ne (by omega), Nat.add_zero, List.getElem?_set_self (by omega)]
        | 1, _, hu => cases hu; rw [List.getElem?_set_ne (by omega), List.getElem?_set_ne (by omega), List.getElem?_set_self (by simp; omega)]
        | 2, _, hu => cases hu; rw [List.getElem?_set_ne (by omega), List.getElem?_set_self (by simp; omega)]; congr 2; omega
        | 3, _, hu => cases hu; rw [List.getElem?_set_self (by simp; omega)]; congr 2; omega
        | 4, _, hu => cases hu; rw [List.getElem?_set_ne (by omega), List.getElem?_set_ne (by omega), List.getElem?_set_ne (by omega), List.getElem?_set_ne (by omega)]; exact d4
        | 5, _, hu => cases hu; rw [List.getElem?_set_ne (by omega), List.getElem?_set_ne (by omega), List.getElem?_set_ne (by omega), List.getElem?_set_ne (by omega)]; exact d5) hT7 hE7 c17 hG
      refine goS ?_
      refine at_loop (i + 1, q + 1 + 1 + 1 + 1 + 4 * cntL t + 4 * cntL e, d.snoc q (q + 1) (q + 2) (q + 3) (markS (q + 4) t) (markS (q + 4 + 4 * cntL t) e), r) (by repeat (first | exact True.intro | refine And.intro rfl ?_)) ⟨by simp only; rw [Ss.len_snoc]; omega, ?_, by simp only; omega, by simp only; omega, by simp only; omega, ?_, hch.trans (c17.mono (by intro z hz; simp at hz ⊢; rcases hz with hz | hz | hz <;> simp [hz]))⟩ (by simp only [Ss.len]; omega)
      · rw [hmk, Ss.snoc_app]
        simp only [markS, eq4]
      · simp only
        rw [Ss.snoc_app]
        exact hnew
  · have hge : i = l.len := by simp at hc; omega
    have hr0 : r = .nil := Ss.len_zero (by omega)
    subst hr0
    simp only [markS, Ss.app_nil, cntL] at hmk hq hr
    refine goS ?_
    refine at_ret1 rfl rfl ⟨?_, by rw [hmk]; exact hr, hch⟩
    congr 1
    omega) l
theorem markStmtS_ret (v : Value) (l : Ss) (F : List Nat) (k : Int) (w : World) (h : RowS 65 w v l F) (hnd : F.Nodup) (hk : 0 ≤ k) (hk2 : k + 4 * cntL l ≤ 4611686018427387904) :
    Ret Tryd.prog 35 [v, .int .i64 k] w fun r w' => r = .int .i64 (k + 4 * cntL l) ∧ RowS 65 w' v (markS k l) F ∧ Chg F w w' := markStmtS_all l v F k w h hnd hk hk2
def HdP (l : Ss) : Prop := ∀ v F (k : Int) w, StS w v (markS k l) F → 0 ≤ k → k + 4 * cntL l ≤ 4611686018427387904 → Ret Tryd.prog 37 [v, .int .i64 k] w fun r w' => r = .int .i64 (k + 4 * cntL l) ∧ w' = w
theorem heldStmtS_all (l : Ss) : HdP l := Ss.strong (fun l ih => by
  intro v F k w h hk hk2
  obtain ⟨A, c, rfl, hlc⟩ := h.slice
  have hst := restS_start h
  unfold maxI at hlc
  rw [markS_len] at hlc ⊢
  refine enter Tryd.func37 rfl Tryd.ntmps37 rfl rfl ?_
  refine goS ?_
  refine W_loop (α := Nat × Int × Ss) (fun p => [(0, .slice A l.len c), (1, .int .i64 p.2.1), (5, .int .i64 (p.1 : Int))])
    (fun p w' => p.1 + p.2.2.len = l.len ∧ p.2.1 + 4 * cntL p.2.2 = k + 4 * cntL l ∧ k ≤ p.2.1 ∧ cntL p.2.2 ≤ cntL l ∧ RestS w A p.1 (markS p.2.1 p.2.2) ∧ w' = w) (fun p => p.2.2.len) (0, k, l) (by repeat (first | exact True.intro | refine And.intro rfl ?_)) ⟨by simp, rfl, Int.le_refl _, Nat.le_refl _, hst, rfl⟩ ?_
  rintro ⟨i, q, r⟩ w1 ⟨hi, hq, hkq, hcl, hr, rfl⟩
  simp only at hi hq hkq hcl hr ⊢
  refine goS ?_
  refine Z52 rfl (fun hc => ?_) (fun hc => ?_)
  · have hlt : i < l.len := by simpa using hc
    cases r with
    | nil => simp only [Ss.len] at hi; omega
    | cons op x y n t e r =>
      simp only [markS] at hr
      obtain ⟨b, o, vt, ve, Ft, Fe, rfl, hcells, hT, hE, hrest⟩ := restS_cons hr
      simp only [Ss.len, cntL] at hi hq hcl
      have c0 := hcells 0 _ rfl
      have c1 := hcells 1 _ rfl
      have c2 := hcells 2 _ rfl
      have c3 := hcells 3 _ rfl
      have c4 := hcells 4 _ rfl
      have c5 := hcells 5 _ rfl
      refine goS ?_
      refine Z83 rfl rfl rfl hlt ?_
      refine goS ?_
      refine Z50 rfl (by simp) ?_
      refine goS ?_
      refine Z83 rfl rfl rfl hlt ?_
      refine goS ?_
      refine Z50 rfl (by simp) ?_
      refine goS ?_
      refine Z83 rfl rfl rfl hlt ?_
      refine goS ?_
      refine Z50 rfl (by simp; omega) ?_
      refine goS ?_
      refine Z83 rfl rfl rfl hlt ?_
      refine goS ?_
      refine Z50 rfl (by simp; omega) ?_
      have eq4 : q + 1 + 1 + 1 + 1 = q + 4 := by omega
      refine goS ?_
      refine Z83 rfl rfl rfl hlt ?_
      refine goS ?_
      refine WO_call rfl (ih t (by omega) vt Ft (q + 1 + 1 + 1 + 1) w1 (by rw [eq4]; exact hT) (by omega) (by omega)) ?_
      rintro _ w2 ⟨rfl, rfl⟩
      (refine goS ?_; repeat' (first | ((refine Z51 rfl rfl (fun c' hc' => ?_)); cases c' <;> (try simp only [decide_eq_true_eq, decide_eq_false_iff_not, beq_iff_eq, beq_eq_false_iff_ne, bne_iff_ne, bne_eq_false_iff_eq, ne_eq, gt_iff_lt, ge_iff_le, Int.not_lt, Int.not_le, Bool.not_eq_true', Bool.not_eq_false', Bool.not_true, Bool.not_false, reduceCtorEq, Decidable.not_not, not_true_eq_false, Bool.true_eq_false, Bool.false_eq_true] at hc') <;> (try (exfalso; omega)) <;> refine goS ?_) | ((refine Z52 rfl (fun hc' => ?_) (fun hc' => ?_)) <;> (try simp only [decide_eq_true_eq, decide_eq_false_iff_not, beq_iff_eq, beq_eq_false_iff_ne, bne_iff_ne, bne_eq_false_iff_eq, ne_eq, gt_iff_lt, ge_iff_le, Int.not_lt, Int.not_le, Bool.not_eq_true', Bool.not_eq_false', Bool.not_true, Bool.not_false, reduceCtorEq, Decidable.not_not, not_true_eq_false, Bool.true_eq_false, Bool.false_eq_true] at hc') <;> (try (exfalso; omega)) <;> refine goS ?_)))
      refine Z83 rfl rfl rfl hlt ?_
      refine goS ?_
      refine WO_call rfl (ih e (by omega) ve Fe (q + 1 + 1 + 1 + 1 + 4 * cntL t) w2 (by rw [eq4]; exact hE) (by omega) (by omega)) ?_
      rintro _ w3 ⟨rfl, rfl⟩
      (refine goS ?_; repeat' (first | ((refine Z51 rfl rfl (fun c' hc' => ?_)); cases c' <;> (try simp only [decide_eq_true_eq, decide_eq_false_iff_not, beq_iff_eq, beq_eq_false_iff_ne, bne_iff_ne, bne_eq_false_iff_eq, ne_eq, gt_iff_lt, ge_iff_le, Int.not_lt, Int.not_le, Bool.not_eq_true', Bool.not_eq_false', Bool.not_true, Bool.not_false, reduceCtorEq, Decidable.not_not, not_true_eq_false, Bool.true_eq_false, Bool.false_eq_true] at hc') <;> (try (exfalso; omega)) <;> refine goS ?_) | ((refine Z52 rfl (fun hc' => ?_) (fun hc' => ?_)) <;> (try simp only [decide_eq_true_eq, decide_eq_false_iff_not, beq_iff_eq, beq_eq_false_iff_ne, bne_iff_ne, bne_eq_false_iff_eq, ne_eq, gt_iff_lt, ge_iff_le, Int.not_lt, Int.not_le, Bool.not_eq_true', Bool.not_eq_false', Bool.not_true, Bool.not_false, reduceCtorEq, Decidable.not_not, not_true_eq_false, Bool.true_eq_false, Bool.false_eq_true] at hc') <;> (try (exfalso; omega)) <;> refine goS ?_)))
      refine at_loop (i + 1, q + 1 + 1 + 1 + 1 + 4 * cntL t + 4 * cntL e, r) (by repeat (first | exact True.intro | refine And.intro rfl ?_)) ⟨by simp only; omega, by simp only; omega, by simp only; omega, by simp only; omega, by simp only; rw [eq4]; exact hrest, rfl⟩ (by simp only [Ss.len]; omega)
  · have hge : i = l.len := by simp at hc; omega
    have hr0 : r = .nil := Ss.len_zero (by omega)
    subst hr0
    simp only [cntL] at hq
    refine goS ?_
    refine at_ret1 rfl rfl ⟨?_, rfl⟩
    congr 1
    omega) l
theorem heldStmtS_ret (v : Value) (l : Ss) (F : List Nat) (k : Int) (w : World) (h : StS w v (markS k l) F) (hk : 0 ≤ k) (hk2 : k + 4 * cntL l ≤ 4611686018427387904) :
    Ret Tryd.prog 37 [v, .int .i64 k] w fun r w' => r = .int .i64 (k + 4 * cntL l) ∧ w' = w := heldStmtS_all l v F k w h hk hk2
end Go.Proofs.YteonnoijdnjpdaaDoor
