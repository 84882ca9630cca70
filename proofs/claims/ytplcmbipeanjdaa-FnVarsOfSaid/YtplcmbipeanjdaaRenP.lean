/-
  What is proved here: renaming of variables, said of lists. No function of the program stands here.
-/
import Derived.Test.YtplcmbipeanjdaaChg
namespace Go.Proofs.Ytplcmbipeanjdaa
set_option linter.unusedVariables false
set_option linter.unusedSimpArgs false
set_option linter.unnecessarySimpa false
open Go.RowKit

def nmL (ns : List Int) (v : Int) : Int := ns.getD v.toNat 0
/-- The statements with other variables. -/
def renL (ns : List Int) : Ss → Ss
  | .nil => .nil
  | .cons op x y n t e r => .cons op (if 1 ≤ op ∧ op ≤ 8 then nmL ns x else x) (if 3 ≤ op ∧ op ≤ 7 then nmL ns y else y) n (renL ns t) (renL ns e) (renL ns r)
theorem renL_len (ns : List Int) : ∀ l, (renL ns l).len = l.len
  | .nil => rfl
  | .cons op x y n t e r => by simp [renL, Ss.len, renL_len ns r]
theorem renL_cnt (ns : List Int) : ∀ l, cntL (renL ns l) = cntL l
  | .nil => rfl
  | .cons op x y n t e r => by simp [renL, cntL, renL_cnt ns t, renL_cnt ns e, renL_cnt ns r]
theorem renL_app (ns : List Int) : ∀ a b, renL ns (a.app b) = (renL ns a).app (renL ns b)
  | .nil, _ => rfl
  | .cons op x y n t e r, b => by simp [renL, Ss.app, renL_app ns r b]
theorem renL_snoc (ns : List Int) (d : Ss) (op x y n : Int) (t e : Ss) : renL ns (d.snoc op x y n t e) = (renL ns d).snoc op (if 1 ≤ op ∧ op ≤ 8 then nmL ns x else x) (if 3 ≤ op ∧ op ≤ 7 then nmL ns y else y) n (renL ns t) (renL ns e) := by
  unfold Ss.snoc
  rw [renL_app]
  rfl
/-- The names are numbers below their count, each once. -/
def renOk (ns : List Int) : Prop := (∀ x ∈ ns, 0 ≤ x ∧ x < (ns.length : Int)) ∧ ns.Nodup
instance (ns : List Int) : Decidable (renOk ns) := by unfold renOk; infer_instance
theorem sub_length {α : Type} [DecidableEq α] : ∀ (a b : List α), a.Nodup → (∀ x ∈ a, x ∈ b) → a.length ≤ b.length
  | [], _, _, _ => by simp
  | x :: r, b, hn, hs => by
    have hx : x ∈ b := hs x (by simp)
    have := sub_length r (b.erase x) (List.nodup_cons.1 hn).2 (fun y hy => (List.mem_erase_of_ne (by rintro rfl; exact (List.nodup_cons.1 hn).1 hy)).2 (hs y (by simp [hy])))
    rw [List.length_erase_of_mem hx] at this
    have := List.length_pos_of_mem hx
    simp
    omega
theorem sub_all {α : Type} [DecidableEq α] : ∀ (a b : List α), a.Nodup → (∀ x ∈ a, x ∈ b) → b.length ≤ a.length → (∀ x ∈ b, x ∈ a) ∧ b.Nodup
  | [], b, _, _, hl => by
    have : b = [] := List.eq_nil_of_length_eq_zero (by simpa using hl)
    subst this
    simp
  | x :: r, b, hn, hs, hl => by
    have hx : x ∈ b := hs x (by simp)
    have hxr := (List.nodup_cons.1 hn).1
    have hpos := List.length_pos_of_mem hx
    have hle := List.length_erase_of_mem hx
    have ih := sub_all r (b.erase x) (List.nodup_cons.1 hn).2 (fun y hy => (List.mem_erase_of_ne (by rintro rfl; exact hxr hy)).2 (hs y (by simp [hy]))) (by rw [hle]; simp at hl; omega)
    have hp : b.Perm (x :: b.erase x) := List.perm_cons_erase hx
    have hnx : x ∉ b.erase x := fun hm => hxr (ih.1 x hm)
    refine ⟨fun y hy => ?_, ?_⟩
    · rcases List.mem_cons.1 (hp.mem_iff.1 hy) with rfl | h
      · simp
      · simp [ih.1 y h]
    · exact hp.nodup_iff.2 (List.nodup_cons.2 ⟨hnx, ih.2⟩)
def upTo (n : Nat) : List Int := (List.range n).map Int.ofNat
theorem upTo_mem {n : Nat} {x : Int} : x ∈ upTo n ↔ 0 ≤ x ∧ x < (n : Int) := by
  unfold upTo
  simp only [List.mem_map, List.mem_range]
  constructor
  · rintro ⟨a, ha, rfl⟩
    exact ⟨by simp, by simpa using ha⟩
  · rintro ⟨h1, h2⟩
    exact ⟨x.toNat, by omega, by simp; omega⟩
theorem upTo_nodup (n : Nat) : (upTo n).Nodup := by
  unfold upTo
  rw [List.nodup_iff_pairwise_ne, List.pairwise_map]
  refine List.Pairwise.imp ?_ (List.nodup_iff_pairwise_ne.1 List.nodup_range)
  intro a b h e
  exact h (Int.ofNat.inj e)
theorem upTo_length (n : Nat) : (upTo n).length = n := by simp [upTo]
/-- Every number below the count is a name: so each is one once. -/
theorem renOk_iff (ns : List Int) : renOk ns ↔ ∀ i : Nat, i < ns.length → (i : Int) ∈ ns := by
  constructor
  · intro h i hi
    have := sub_all ns (upTo ns.length) h.2 (fun x hx => upTo_mem.2 (h.1 x hx)) (by rw [upTo_length]; exact Nat.le_refl _)
    exact this.1 _ (upTo_mem.2 ⟨by omega, by omega⟩)
  · intro h
    have hs : ∀ x ∈ upTo ns.length, x ∈ ns := fun x hx => by
      obtain ⟨h1, h2⟩ := upTo_mem.1 hx
      obtain ⟨i, rfl⟩ := Int.eq_ofNat_of_zero_le h1
      exact h i (by omega)
    have := sub_all (upTo ns.length) ns (upTo_nodup _) hs (by rw [upTo_length]; exact Nat.le_refl _)
    exact ⟨fun x hx => upTo_mem.1 (this.1 x hx), this.2⟩
/-- The types behind v places. -/
def setTo (ns tl : List Int) : Nat → List Int
  | 0 => List.replicate ns.length 0
  | v + 1 => (setTo ns tl v).set (ns.getD v 0).toNat (tl.getD v 0)
theorem setTo_length (ns tl : List Int) : ∀ v, (setTo ns tl v).length = ns.length
  | 0 => by simp [setTo]
  | v + 1 => by simp [setTo, setTo_length ns tl v]
def rnOk (tl : List Int) (l : Ss) (ns : List Int) : Prop := validP tl l = true ∧ ns.length = tl.length ∧ renOk ns
instance (tl : List Int) (l : Ss) (ns : List Int) : Decidable (rnOk tl l ns) := by unfold rnOk; infer_instance
def rnT (tl : List Int) (l : Ss) (ns : List Int) : List Int := if rnOk tl l ns then setTo ns tl ns.length else []
def rnB (tl : List Int) (l : Ss) (ns : List Int) : Ss := if rnOk tl l ns then renL ns l else .nil
theorem rnT_len (tl : List Int) (l : Ss) (ns : List Int) : (rnT tl l ns).length ≤ ns.length := by
  unfold rnT
  split
  · rw [setTo_length]; exact Nat.le_refl _
  · simp
theorem rnB_cnt (tl : List Int) (l : Ss) (ns : List Int) : cntL (rnB tl l ns) ≤ cntL l := by
  unfold rnB
  split
  · rw [renL_cnt]; exact Nat.le_refl _
  · simp [cntL]
/-- What a valid statement's variables are. -/
theorem typ_in {tl : List Int} {v : Int} (h : typeOfL tl v ≠ 0) : 0 ≤ v ∧ v < (tl.length : Int) := by
  by_cases h1 : 0 ≤ v ∧ v < (tl.length : Int)
  · exact h1
  · exfalso
    apply h
    unfold typeOfL
    rw [if_neg h1]
theorem okS_vars {tl : List Int} {d : Nat} {op x y n : Int} {t e : Ss} (h : okS tl d op x y n t e = true) : (op = 9 ∨ op = 10) ∧ okL tl (d - 1) t = true ∧ okL tl (d - 1) e = true ∨
    (1 ≤ op ∧ op ≤ 8) ∧ (0 ≤ x ∧ x < (tl.length : Int)) ∧ (3 ≤ op ∧ op ≤ 7 → 0 ≤ y ∧ y < (tl.length : Int)) ∧ t = .nil ∧ e = .nil := by
  unfold okS at h
  by_cases h9 : op = 9 ∨ op = 10
  · rw [if_pos h9, Bool.and_eq_true, Bool.and_eq_true] at h
    exact .inl ⟨h9, h.1.2, h.2⟩
  · rw [if_neg h9, decide_eq_true_eq] at h
    obtain ⟨h1, h2, h3, h4, h5⟩ := h
    have hx : typeOfL tl x ≠ 0 := by rcases h5 with h | h | h | h | h | h | h <;> omega
    refine .inr ⟨by rcases h5 with h | h | h | h | h | h | h <;> omega, typ_in hx, fun h37 => ?_, Ss.len_zero h3, Ss.len_zero h4⟩
    refine typ_in (v := y) ?_
    rcases h5 with h | h | h | h | h | h | h <;> omega
end Go.Proofs.Ytplcmbipeanjdaa
