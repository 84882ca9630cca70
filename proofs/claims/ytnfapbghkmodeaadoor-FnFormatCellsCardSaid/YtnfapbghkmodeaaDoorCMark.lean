/-
  What is proved here: what the laws' copies of tags and cells leave, what marks do to owned rows, and what held answers.
-/
import Derived.Test.YtnfapbghkmodeaaDoorCLaw
namespace Go.Proofs.YtnfapbghkmodeaaDoor
set_option linter.unusedVariables false
set_option linter.unusedSimpArgs false
set_option linter.unnecessarySimpa false
open Go.RowKit

theorem splice_length {cs vs : List Value} {o k : Nat} (hk : vs.length = k) (h : o + k ≤ cs.length) : (cs.take o ++ vs ++ cs.drop (o + k)).length = cs.length := by simp; omega
theorem splice_out {cs vs : List Value} {o k p : Nat} (hk : vs.length = k) (h : o + k ≤ cs.length) (hp : p < o ∨ o + k ≤ p) : (cs.take o ++ vs ++ cs.drop (o + k))[p]? = cs[p]? := by
  rcases hp with hp | hp
  · rw [List.append_assoc, List.getElem?_append_left (by simp; omega), List.getElem?_take, if_pos hp]
  · rw [List.getElem?_append_right (by simp; omega), List.getElem?_drop]
    congr 1
    simp
    omega
theorem splice_in {cs vs : List Value} {o k j : Nat} (hk : vs.length = k) (h : o + k ≤ cs.length) (hj : j < k) : (cs.take o ++ vs ++ cs.drop (o + k))[o + j]? = vs[j]? := by
  rw [List.append_assoc, List.getElem?_append_right (by simp; omega), List.getElem?_append_left (by simp; omega)]
  congr 1
  simp
  omega
theorem fill_set {α : Type} (l : List α) (z : α) (i : Nat) (hi : i < l.length) : (l.take i ++ List.replicate (l.length - i) z).set i l[i] = l.take (i + 1) ++ List.replicate (l.length - (i + 1)) z := by
  rw [List.set_append_right _ _ (by simp; omega)]
  have h1 : l.length - i = l.length - (i + 1) + 1 := by omega
  have h2 : i - (l.take i).length = 0 := by simp; omega
  rw [h1, h2, List.replicate_succ, List.set_cons_zero, List.take_succ_eq_append_getElem hi, List.append_assoc]
  rfl
theorem fill_length {α : Type} (l : List α) (z : α) (i : Nat) (hi : i ≤ l.length) : (l.take i ++ List.replicate (l.length - i) z).length = l.length := by simp; omega
theorem fill_get {α : Type} (l : List α) (z : α) (i : Nat) (hi : i < l.length) : (l.take i ++ List.replicate (l.length - i) z)[i]'(by rw [fill_length _ _ _ (by omega)]; exact hi) = z := by
  rw [List.getElem_append_right (by simp; omega)]
  simp
theorem zeroTags : ∀ m, (List.replicate m [Value.int .i64 0, .bool false]).flatten = tagCells (List.replicate m ⟨0, false⟩)
  | 0 => rfl
  | m + 1 => by rw [List.replicate_succ, List.flatten_cons, zeroTags m]; rfl
/-- A row of tags in new memory. -/
def NewTags (e : TypeId) (l : List Tg) (w : World) (v : Value) (w' : World) : Prop := (∃ F, RowT e w' v l F ∧ ∀ b ∈ F, w.heap.size ≤ b) ∧ Ext w w'

theorem toTagS_ret (va : Value) (l : List Tg) (Fa : List Nat) (w : World) (h : TgS w va l Fa) (hn : l.length ≤ 1048576) : Ret Tryd.prog 28 [va] w (NewTags 54 l w) := by
  obtain ⟨A, ca, rfl, hla⟩ := h.slice
  refine enter Tryd.func28 rfl Tryd.ntmps28 rfl rfl ?_
  refine goS ?_
  refine WO_make (m := l.length) rfl rfl rfl rfl (by omega) (by decide) (by decide) fun w1 hb e1 z1 => ?_
  have hrow : RowT 54 w1 (.slice (some ⟨w.heap.size, 0, none⟩) l.length l.length) (List.replicate l.length ⟨0, false⟩) [w.heap.size] :=
    ⟨by
      have := owns_blk (B := 0) (k := 2) (m := l.length) hb (Nat.zero_le _) (by rw [show (Value.agg #[Value.int .i64 0, .bool false]).cells.toList = [Value.int .i64 0, .bool false] from rfl, zeroTags, tagCells_length]; simp) (by unfold maxLen; omega)
      rw [show (Value.agg #[Value.int .i64 0, .bool false]).cells.toList = [Value.int .i64 0, .bool false] from rfl, zeroTags] at this
      simpa using this, rfl⟩
  refine goS ?_
  refine W_loop (α := Nat) (fun i => [(0, .slice A l.length ca), (3, .slice (some ⟨w.heap.size, 0, none⟩) l.length l.length), (4, .int .i64 (i : Int))])
    (fun i w' => i ≤ l.length ∧ Ext w w' ∧ RowT 54 w' (.slice (some ⟨w.heap.size, 0, none⟩) l.length l.length) (l.take i ++ List.replicate (l.length - i) ⟨0, false⟩) [w.heap.size]) (fun i => l.length - i) 0 (by repeat (first | exact True.intro | refine And.intro rfl ?_))
    ⟨Nat.zero_le _, e1, by simpa using hrow⟩ ?_
  rintro i w2 ⟨hi, he, hr⟩
  refine goS ?_
  refine Z52 rfl (fun hc => ?_) (fun hc => ?_)
  · have hlt : i < l.length := by simpa using hc
    obtain ⟨b, o, rfl, _, c0, c1⟩ := tgs_at (h.ext he) hlt
    refine goS ?_
    refine Z83 rfl rfl rfl hlt ?_
    refine WO_loadS rfl rfl (two c0 c1) ?_
    refine WO_call rfl (toTag_ret l[i] w2) ?_
    rintro r w3 ⟨rfl, e3⟩
    obtain ⟨g, cap, cs, hv, hg, hb3, hlen, g0, g1, hup⟩ := (hr.ext e3).upd (i := i) (by rw [fill_length _ _ _ hi]; exact hlt)
    cases hg
    refine Z83 rfl rfl rfl hlt ?_
    refine WO_storeS (k := 2) (vs := [.int .i64 l[i].id, .bool l[i].u]) rfl rfl rfl (by intro v hv; simp at hv; rcases hv with rfl | rfl <;> rfl) hb3 (by omega) fun w4 h4 o4 => ?_
    simp only [Nat.zero_add] at h4
    have hnew := hup w4 _ l[i] h4 (splice_length rfl hlen) (fun p hp => splice_out rfl hlen hp) (splice_in (j := 0) rfl hlen (by decide)) (splice_in (j := 1) rfl hlen (by decide))
    rw [fill_set _ _ _ hlt] at hnew
    refine goS ?_
    exact at_loop (i + 1) (by repeat (first | exact True.intro | refine And.intro rfl ?_)) ⟨hlt, (he.trans e3).only o4 (Nat.le_refl _), hnew⟩ (by omega)
  · have hge : i = l.length := by simp at hc; omega
    subst hge
    rw [Nat.sub_self, List.replicate_zero, List.append_nil, List.take_length] at hr
    refine goS ?_
    exact at_ret1 rfl rfl ⟨⟨_, hr, by simp⟩, he⟩
theorem toCell_ret (c : Ce) (va : Value) (Fa : List Nat) (w : World) (h : TgS w va c.st Fa) (hn : c.st.length ≤ 1048576) :
    Ret Tryd.prog 18 [ceV c va] w fun r w' => ∃ vs, r = ceV c vs ∧ NewTags 54 c.st w vs w' := by
  refine enter Tryd.func18 rfl Tryd.ntmps18 rfl rfl ?_
  refine Z43 (Z44 (WO_box rfl fun w1 h1 e1 z1 => WO_alloc fun w2 h2 e2 z2 => ?_))
  replace h1 : Blk w2 w.heap.size [.int .i64 c.val, .bool c.al, .int .i64 c.nx, va] _ := Blk.ext h1 e2
  replace h2 : Blk w2 w1.heap.size [.int .i64 0, .bool false, .int .i64 0, .slice none 0 0] _ := h2
  refine goS ?_
  refine WO_alloc fun w3 h3 e3 z3 => ?_
  replace h3 : Blk w3 w2.heap.size [.int .i64 0, .bool false, .int .i64 0, .slice none 0 0] _ := h3
  replace h1 := h1.ext e3
  replace h2 := h2.ext e3
  have e0 := e1.trans (e2.trans e3)
  refine goS ?_
  refine WO_store1 rfl rfl rfl h3 (by simp) fun w4 h4 o4 => ?_
  replace h1 := h1.only o4 (by omega)
  replace h2 := h2.only o4 (by omega)
  simp only [List.set_cons_zero, List.set_cons_succ] at h4
  refine goS ?_
  refine WO_store1 rfl rfl rfl h4 (by simp) fun w5 h5 o5 => ?_
  replace h1 := h1.only o5 (by omega)
  replace h2 := h2.only o5 (by omega)
  simp only [List.set_cons_zero, List.set_cons_succ] at h5
  refine goS ?_
  refine WO_store1 rfl rfl rfl h5 (by simp) fun w6 h6 o6 => ?_
  replace h1 := h1.only o6 (by omega)
  replace h2 := h2.only o6 (by omega)
  simp only [List.set_cons_zero, List.set_cons_succ] at h6
  have e6 : Ext w w6 := ((e0.only o4 (by omega)).only o5 (by omega)).only o6 (by omega)
  refine goS ?_
  refine WO_call rfl (toTagS_ret va c.st Fa w6 (h.ext e6) hn) ?_
  rintro vs w7 ⟨⟨Fs, hs, hFs⟩, e7⟩
  have hlt6 := h6.lt
  replace h1 := h1.ext e7
  replace h2 := h2.ext e7
  replace h6 := h6.ext e7
  have hone : vs.oneCell' = true := by obtain ⟨_, _, rfl, _⟩ := hs.slice; rfl
  refine goS ?_
  refine WO_store1 rfl rfl hone h6 (by simp) fun w8 h8 o8 => ?_
  replace h2 := h2.only o8 (by omega)
  simp only [List.set_cons_zero, List.set_cons_succ] at h8
  refine goS ?_
  refine WO_loadSB rfl h8 rfl ?_
  refine WO_storeS (vs := [.int .i64 c.val, .bool c.al, .int .i64 c.nx, vs]) rfl rfl rfl (by intro v hv; simp at hv; rcases hv with rfl | rfl | rfl | rfl <;> first | rfl | exact hone) h2 (by simp) fun w9 h9 o9 => ?_
  replace h9 : Blk w9 w1.heap.size [.int .i64 c.val, .bool c.al, .int .i64 c.nx, vs] _ := h9
  refine goS ?_
  refine at_retC rfl rfl h9 rfl ⟨vs, rfl, ⟨Fs, ?_, fun b hb => by have := hFs b hb; have := e6.size_le; omega⟩, (((e6.trans e7).only o8 (by omega)).only o9 (by omega))⟩
  have hlt2 := h2.lt
  refine (hs.chg o8.chg fun x hx => ?_).chg o9.chg fun x hx => ?_
  · have := hFs x hx; have := o8.size; simp; omega
  · have := hFs x hx; have := o8.size; have := e6.size_le; simp; omega
/-- A row of cells in new memory, each block met once. -/
def NewCells (e eT : TypeId) (l : List Ce) (w : World) (v : Value) (w' : World) : Prop := (∃ F, RowC e eT w' v l F ∧ F.Nodup ∧ ∀ b ∈ F, w.heap.size ≤ b) ∧ Ext w w'
theorem RowT.nodup {e : TypeId} {w : World} {v : Value} {l : List Tg} {F : List Nat} (h : RowT e w v l F) : F.Nodup := by
  rw [h.foot]
  cases v.ownBlock <;> simp
theorem nodup_swap {g : Nat} {F1 Fc F2 Fs : List Nat} (h : (g :: (F1 ++ (Fc ++ F2))).Nodup) (hs : Fs.Nodup) (hd : ∀ x ∈ Fs, x ∉ g :: (F1 ++ F2)) : (g :: (F1 ++ (Fs ++ F2))).Nodup := by
  simp only [List.nodup_cons, List.nodup_append, List.mem_append, List.mem_cons, not_or] at h hd ⊢
  obtain ⟨⟨g1, g2, g3⟩, n1, ⟨n2, n3, n4⟩, n5⟩ := h
  refine ⟨⟨g1, fun hg => (hd g hg).1 rfl, g3⟩, n1, ⟨hs, n3, fun a ha b hb e => (hd a ha).2.2 (e ▸ hb)⟩, fun a ha b hb => ?_⟩
  rcases hb with hb | hb
  · exact fun e => (hd b hb).2.1 (e ▸ ha)
  · exact n5 a ha b (.inr hb)
theorem zeroStk (e : TypeId) (w : World) : ∀ m, Stk e w (List.replicate m ⟨0, false, 0, []⟩) (List.replicate m [Value.int .i64 0, .bool false, .int .i64 0, .slice none 0 0]).flatten []
  | 0 => ⟨rfl, rfl⟩
  | m + 1 => by
    rw [List.replicate_succ, List.replicate_succ, List.flatten_cons]
    exact ⟨.slice none 0 0, [], [], _, rfl, rfl, ⟨World.ownsRow_nil _ _ _ _, rfl⟩, zeroStk e w m⟩
theorem st_le : ∀ (l : List Ce) (i : Nat) (hi : i < l.length), l[i].st.length ≤ (l.map fun c => c.st.length).sum
  | c :: r, 0, _ => by simp
  | c :: r, i + 1, hi => by
    have := st_le r i (by simpa using hi)
    simp at this ⊢
    omega
theorem toCellS_ret (va : Value) (l : List Ce) (Fa : List Nat) (w : World) (h : CeS w va l Fa) (hn : cSize l ≤ 1048576) : Ret Tryd.prog 7 [va] w (NewCells 43 54 l w) := by
  obtain ⟨A, ca, rfl, hla⟩ := h.slice
  have hlen : l.length ≤ 1048576 := by unfold cSize at hn; omega
  have hsum : (l.map fun c => c.st.length).sum ≤ 1048576 := by unfold cSize at hn; omega
  refine enter Tryd.func7 rfl Tryd.ntmps7 rfl rfl ?_
  refine goS ?_
  refine WO_make (m := l.length) rfl rfl rfl rfl (by omega) (by decide) (by decide) fun w1 hb e1 z1 => ?_
  have hrow : RowC 43 54 w1 (.slice (some ⟨w.heap.size, 0, none⟩) l.length l.length) (List.replicate l.length ⟨0, false, 0, []⟩) [w.heap.size] := by
    have hst := zeroStk 54 w1 l.length
    have := owns_blk (B := 0) (k := 4) (m := l.length) hb (Nat.zero_le _) (by
      have := hst.length
      rw [List.length_replicate] at this
      exact this) (by unfold maxLen; omega)
    exact ⟨_, [], by rw [List.length_replicate]; exact this, hst, rfl⟩
  refine goS ?_
  refine W_loop (α := Nat) (fun i => [(0, .slice A l.length ca), (3, .slice (some ⟨w.heap.size, 0, none⟩) l.length l.length), (4, .int .i64 (i : Int))])
    (fun i w' => i ≤ l.length ∧ Ext w w' ∧ ∃ F, RowC 43 54 w' (.slice (some ⟨w.heap.size, 0, none⟩) l.length l.length) (l.take i ++ List.replicate (l.length - i) ⟨0, false, 0, []⟩) F ∧ F.Nodup ∧ ∀ b ∈ F, w.heap.size ≤ b)
    (fun i => l.length - i) 0 (by repeat (first | exact True.intro | refine And.intro rfl ?_)) ⟨Nat.zero_le _, e1, _, by simpa using hrow, by simp, by simp⟩ ?_
  rintro i w2 ⟨hi, he, F, hr, hnd, hF⟩
  refine goS ?_
  refine Z52 rfl (fun hc => ?_) (fun hc => ?_)
  · have hlt : i < l.length := by simpa using hc
    have hst := Nat.le_trans (st_le l i hlt) hsum
    obtain ⟨b, o, vs, Fs, rfl, _, c0, c1, c2, c3, ht, _⟩ := ces_at (h.ext he) hlt
    refine goS ?_
    refine Z83 rfl rfl rfl hlt ?_
    refine WO_loadS rfl rfl (four c0 c1 c2 c3) ?_
    refine WO_call rfl (toCell_ret l[i] vs Fs w2 ht hst) ?_
    rintro r w3 ⟨us, rfl, ⟨Fu, hu, hFu⟩, e3⟩
    have hltF := hr.lt
    obtain ⟨g, cap, cs, vo, F1, Fc, F2, hv, hg, hb3, hlen4, g0, g1, g2, g3, _, hup⟩ := (hr.ext e3).upd (i := i) (by rw [fill_length _ _ _ hi]; exact hlt)
    have hge : g = w.heap.size := by
      injection hv with q _ _
      injection q with q
      injection q with q
      exact q.symm
    subst hge
    subst hg
    have hone : us.oneCell' = true := by obtain ⟨_, _, rfl, _⟩ := hu.slice; rfl
    have hd : ∀ x ∈ Fu, x ∉ w.heap.size :: (F1 ++ F2) := fun x hx hm => by
      have h1 := hFu x hx
      have h2 := hltF x (by simp at hm ⊢; rcases hm with h | h | h <;> simp [h])
      omega
    refine Z83 rfl rfl rfl hlt ?_
    refine WO_storeS (k := 4) (vs := [.int .i64 l[i].val, .bool l[i].al, .int .i64 l[i].nx, us]) rfl rfl rfl (by intro v hv; simp at hv; rcases hv with rfl | rfl | rfl | rfl <;> first | rfl | exact hone) hb3 (by omega) fun w4 h4 o4 => ?_
    simp only [Nat.zero_add] at h4
    have hnew := hup w4 _ l[i] us Fu [w.heap.size] h4 (splice_length rfl hlen4) (fun p hp => splice_out rfl hlen4 hp) (splice_in (j := 0) rfl hlen4 (by decide)) (splice_in (j := 1) rfl hlen4 (by decide)) (splice_in (j := 2) rfl hlen4 (by decide)) (splice_in (j := 3) rfl hlen4 (by decide))
      (hu.chg o4.chg fun x hx => by have := hd x hx; simp at this ⊢; exact this.1) o4.chg (by
        have := hnd
        simp only [List.nodup_cons, List.mem_append, not_or] at this
        intro x hx hm
        simp at hm hx
        subst hm
        rcases hx with hx | hx
        · exact this.1.1 hx
        · exact this.1.2.2 hx)
    rw [fill_set _ _ _ hlt] at hnew
    refine goS ?_
    refine at_loop (i + 1) (by repeat (first | exact True.intro | refine And.intro rfl ?_)) ⟨hlt, (he.trans e3).only o4 (Nat.le_refl _), _, hnew, nodup_swap hnd hu.nodup hd, fun x hx => ?_⟩ (by omega)
    simp only [List.mem_cons, List.mem_append] at hx
    rcases hx with rfl | hx | hx | hx
    · exact Nat.le_refl _
    · exact hF x (by simp [hx])
    · have := hFu x hx; have := he.size_le; omega
    · exact hF x (by simp [hx])
  · have hge : i = l.length := by simp at hc; omega
    subst hge
    rw [Nat.sub_self, List.replicate_zero, List.append_nil, List.take_length] at hr
    refine goS ?_
    exact at_ret1 rfl rfl ⟨⟨F, hr, hnd, hF⟩, he⟩
end Go.Proofs.YtnfapbghkmodeaaDoor
