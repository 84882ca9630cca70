/-
  What is proved here: what the laws' copies of tags and cells leave, what marks do to owned rows, and what held answers.
-/
import Derived.Test.YtmmhoihebbhakaaCLaw
namespace Go.Proofs.Ytmmhoihebbhakaa
set_option linter.unusedVariables false
set_option linter.unusedSimpArgs false
set_option linter.unnecessarySimpa false
open Go.RowKit

theorem splice_length {cs vs : List Value} {o k : Nat} (hk : vs.length = k) (h : o + k ≤ cs.length) : (cs.take o ++ vs ++ cs.drop (o + k)).length = cs.length := by simp; omega
theorem splice_out {cs vs : List Value} {o k p : Nat} (hk : vs.length = k) (h : o + k ≤ cs.length) (hp : p < o ∨ o + k ≤ p) : (cs.take o ++ vs ++ cs.drop (o + k))[p]? = cs[p]? := by
  rcases hp with hp | hp
  · rw [List.append_assoc, List.getElem?_append_left (by simp; omega), List.getElem?_take, if_pos hp]
  · rw [List.getElem?_append_right (by simp; omega), List.getElem?_drop]
    congr 1
    simp
    omega
theorem splice_in {cs vs : List Value} {o k j : Nat} (hk : vs.length = k) (h : o + k ≤ cs.length) (hj : j < k) : (cs.take o ++ vs ++ cs.drop (o + k))[o + j]? = vs[j]? := by
  rw [List.append_assoc, List.getElem?_append_right (by simp; omega), List.getElem?_append_left (by simp; omega)]
  congr 1
  simp
  omega
theorem fill_set {α : Type} (l : List α) (z : α) (i : Nat) (hi : i < l.length) : (l.take i ++ List.replicate (l.length - i) z).set i l[i] = l.take (i + 1) ++ List.replicate (l.length - (i + 1)) z := by
  rw [List.set_append_right _ _ (by simp; omega)]
  have h1 : l.length - i = l.length - (i + 1) + 1 := by omega
  have h2 : i - (l.take i).length = 0 := by simp; omega
  rw [h1, h2, List.replicate_succ, List.set_cons_zero, List.take_succ_eq_append_getElem hi, List.append_assoc]
  rfl
theorem fill_length {α : Type} (l : List α) (z : α) (i : Nat) (hi : i ≤ l.length) : (l.take i ++ List.replicate (l.length - i) z).length = l.length := by simp; omega
theorem fill_get {α : Type} (l : List α) (z : α) (i : Nat) (hi : i < l.length) : (l.take i ++ List.replicate (l.length - i) z)[i]'(by rw [fill_length _ _ _ (by omega)]; exact hi) = z := by
  rw [List.getElem_append_right (by simp; omega)]
  simp
theorem zeroTags : ∀ m, (List.replicate m [Value.int .i64 0, .bool false]).flatten = tagCells (List.replicate m ⟨0, false⟩)
  | 0 => rfl
  | m + 1 => by rw [List.replicate_succ, List.flatten_cons, zeroTags m]; rfl
/-- A row of tags in new memory. -/
def NewTags (e : TypeId) (l : List Tg) (w : World) (v : Value) (w' : World) : Prop := (∃ F, RowT e w' v l F ∧ ∀ b ∈ F, w.heap.size ≤ b) ∧ Ext w w'

/-- A row of cells in new memory, each block met once. -/
def NewCells (e eT : TypeId) (l : List Ce) (w : World) (v : Value) (w' : World) : Prop := (∃ F, RowC e eT w' v l F ∧ F.Nodup ∧ ∀ b ∈ F, w.heap.size ≤ b) ∧ Ext w w'
theorem RowT.nodup {e : TypeId} {w : World} {v : Value} {l : List Tg} {F : List Nat} (h : RowT e w v l F) : F.Nodup := by
  rw [h.foot]
  cases v.ownBlock <;> simp
theorem nodup_swap {g : Nat} {F1 Fc F2 Fs : List Nat} (h : (g :: (F1 ++ (Fc ++ F2))).Nodup) (hs : Fs.Nodup) (hd : ∀ x ∈ Fs, x ∉ g :: (F1 ++ F2)) : (g :: (F1 ++ (Fs ++ F2))).Nodup := by
  simp only [List.nodup_cons, List.nodup_append, List.mem_append, List.mem_cons, not_or] at h hd ⊢
  obtain ⟨⟨g1, g2, g3⟩, n1, ⟨n2, n3, n4⟩, n5⟩ := h
  refine ⟨⟨g1, fun hg => (hd g hg).1 rfl, g3⟩, n1, ⟨hs, n3, fun a ha b hb e => (hd a ha).2.2 (e ▸ hb)⟩, fun a ha b hb => ?_⟩
  rcases hb with hb | hb
  · exact fun e => (hd b hb).2.1 (e ▸ ha)
  · exact n5 a ha b (.inr hb)
theorem zeroStk (e : TypeId) (w : World) : ∀ m, Stk e w (List.replicate m ⟨0, false, 0, []⟩) (List.replicate m [Value.int .i64 0, .bool false, .int .i64 0, .slice none 0 0]).flatten []
  | 0 => ⟨rfl, rfl⟩
  | m + 1 => by
    rw [List.replicate_succ, List.replicate_succ, List.flatten_cons]
    exact ⟨.slice none 0 0, [], [], _, rfl, rfl, ⟨World.ownsRow_nil _ _ _ _, rfl⟩, zeroStk e w m⟩
theorem st_le : ∀ (l : List Ce) (i : Nat) (hi : i < l.length), l[i].st.length ≤ (l.map fun c => c.st.length).sum
  | c :: r, 0, _ => by simp
  | c :: r, i + 1, hi => by
    have := st_le r i (by simpa using hi)
    simp at this ⊢
    omega
end Go.Proofs.Ytmmhoihebbhakaa
