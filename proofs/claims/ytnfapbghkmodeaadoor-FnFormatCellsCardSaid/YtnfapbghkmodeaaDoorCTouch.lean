/-
  What is proved here: what touch of the program does to a memory of its own.
-/
import Derived.Test.YtnfapbghkmodeaaDoorCAcc
namespace Go.Proofs.YtnfapbghkmodeaaDoor
set_option linter.unusedVariables false
set_option linter.unusedSimpArgs false
set_option linter.unnecessarySimpa false
open Go.RowKit

theorem Chg.fresh {G H : List Nat} {w w' w'' : World} (h : Chg G w w') (k : Chg H w' w'') (hH : ∀ b ∈ H, b ∈ G ∨ w.heap.size ≤ b) : Chg G w w'' :=
  ⟨k.os.trans h.os, k.tape.trans h.tape, k.output.trans h.output, Nat.le_trans h.size k.size, fun i hi hn => (k.block i (Nat.lt_of_lt_of_le hi h.size) fun hm => by
    rcases hH i hm with h1 | h1
    · exact hn h1
    · omega).trans (h.block i hi hn)⟩
theorem tagAt_idx (st : List Tg) (id : Int) : tagAt st id = idxI (st.findIdx? fun t => t.id == id) := rfl
theorem tgs_drop {w : World} {A : Option Addr} {n c : Nat} {l : List Tg} {F : List Nat} (h : TgS w (.slice A n c) l F) (m : Nat) (hm : m ≤ l.length) : ∃ G, TgS w (.slice (if c = m then A else A.map (·.add (m * 2))) (n - m) (c - m)) (l.drop m) G := by
  obtain ⟨A', c', e, hl, hh⟩ := h
  cases e
  have hlen : (l.drop m).length = l.length - m := by simp
  by_cases h0 : l.length = m
  · exact ⟨[], _, _, by rw [hlen], by rw [hlen]; omega, .inl ⟨by rw [hlen]; omega, rfl⟩⟩
  · obtain ⟨h1, _⟩ | ⟨b, o, F', hA, hF, hc⟩ := hh
    · omega
    · subst hA
      rw [if_neg (by omega)]
      refine ⟨[b], _, _, by rw [hlen], by rw [hlen]; omega, .inr ⟨b, o + m * 2, [], by simp [add_some], rfl, cs_of_tagCells fun j u hj => ?_⟩⟩
      have h2 : tagCells l = tagCells (l.take m) ++ tagCells (l.drop m) := by rw [← tagCells_append, List.take_append_drop]
      have hj' : (tagCells l)[m * 2 + j]? = some u := by
        rw [h2, List.getElem?_append_right (by rw [tagCells_length]; simp; omega), tagCells_length, List.length_take, Nat.min_eq_left hm, show m * 2 + j - m * 2 = j from by omega]
        exact hj
      have h3 : TgS w (.slice (some ⟨b, o, none⟩) l.length c) l F := ⟨_, c, rfl, hl, .inr ⟨b, o, F', rfl, hF, hc⟩⟩
      obtain ⟨b', o', hA', _, hc'⟩ := tgs_cells h3 (by intro e; subst e; simp at h0 hm; exact h0 hm.symm)
      cases hA'
      rw [Nat.add_assoc]
      exact hc' _ u hj'
end Go.Proofs.YtnfapbghkmodeaaDoor
