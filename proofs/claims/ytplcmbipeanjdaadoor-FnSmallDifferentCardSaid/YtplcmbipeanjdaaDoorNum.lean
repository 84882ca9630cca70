/-
  What is proved here: guarded operations in regions that draw their order; which number NumberOfSmall of the program and of the reference give.
-/
import Derived.Test.YtplcmbipeanjdaaDoorLil
import Derived.Test.YtplcmbipeanjdaaDoorSmP
import Derived.Test.YtplcmbipeanjdaaDoorSame
namespace Go.Proofs.YtplcmbipeanjdaaDoor
set_option linter.unusedVariables false
set_option linter.unusedSimpArgs false
set_option linter.unnecessarySimpa false
open Go.RowKit

/-- The code of a statement. -/
def isC (op x y n : Int) (t e : Ss) (c : Nat) : Bool := decide (Ss.one op x y n t e = smSt c .nil)
def cdF (f : Nat → Bool) : Nat → Nat → Nat
  | 0, c => c
  | k + 1, c => if f c then c else cdF f k (c + 1)
theorem isC_inj {op x y n : Int} {t e : Ss} {c c' : Nat} (h : isC op x y n t e c = true) (h' : isC op x y n t e c' = true) (hc : c < 8) (hc' : c' < 8) : c = c' := by
  unfold isC at h h'
  rw [decide_eq_true_eq] at h h'
  have e1 : smSt c .nil = smSt c' .nil := h.symm.trans h'
  have k1 : c = 0 ∨ c = 1 ∨ c = 2 ∨ c = 3 ∨ c = 4 ∨ c = 5 ∨ c = 6 ∨ c = 7 := by omega
  have k2 : c' = 0 ∨ c' = 1 ∨ c' = 2 ∨ c' = 3 ∨ c' = 4 ∨ c' = 5 ∨ c' = 6 ∨ c' = 7 := by omega
  rcases k1 with rfl | rfl | rfl | rfl | rfl | rfl | rfl | rfl <;> rcases k2 with rfl | rfl | rfl | rfl | rfl | rfl | rfl | rfl <;> first | rfl | (exact absurd e1 (by decide))
theorem smL_drop : ∀ (j i m : Nat), j ≤ i → (smL i m).drop j = smL (i - j) (m / 8 ^ j)
  | 0, i, m, _ => by simp [Ss.drop]
  | j + 1, 0, m, h => by omega
  | j + 1, i + 1, m, h => by
    simp only [smL, smSt, Ss.drop]
    rw [smL_drop j i (m / 8) (by omega), Nat.div_div_eq_div_mul]
    congr 1
    · omega
    · rw [Nat.pow_succ, Nat.mul_comm]
/-- A digit of the number of a small program is the code of its statement. -/
theorem small_at {l r t e : Ss} {op x y n : Int} {m j : Nat} (hl : l = smBody m) (hj : j < 4) (hd : l.drop (2 + j) = .cons op x y n t e r) : isC op x y n t e (m / 8 ^ j % 8) = true := by
  have h1 : l.drop (2 + j) = (smL 4 m).drop j := by
    rw [hl, Nat.add_comm]
    rfl
  rw [hd, smL_drop j 4 m (by omega)] at h1
  obtain ⟨i, hi⟩ : ∃ i, 4 - j = i + 1 := ⟨3 - j, by omega⟩
  rw [hi] at h1
  unfold isC
  rw [decide_eq_true_eq]
  simp only [smL, smSt, Ss.one] at h1 ⊢
  cases h1
  rfl
def numSp (tl : List Int) (l : Ss) (n : Nat) : Prop := n < 4096 ∧ tl = smTypes ∧ l = smBody n
instance (tl : List Int) (l : Ss) (n : Nat) : Decidable (numSp tl l n) := by unfold numSp; infer_instance
def numF (tl : List Int) (l : Ss) : Option Nat := (List.range 4096).find? fun n => decide (numSp tl l n)
theorem smBody_inj {m n : Nat} (hm : m < 4096) (hn : n < 4096) (h : smBody m = smBody n) : m = n := by
  have key : ∀ (i m n : Nat), smL i m = smL i n → m % 8 ^ i = n % 8 ^ i := by
    intro i
    induction i with
    | zero => intro m n _; simp [Nat.mod_one]
    | succ i ih =>
      intro m n h
      simp only [smL, smSt, Ss.cons.injEq] at h
      have h1 := ih _ _ h.2.2.2.2.2.2
      have h2 : m % 8 = n % 8 := isC_inj (op := (smOp (m % 8)).1) (x := (smOp (m % 8)).2.1) (y := (smOp (m % 8)).2.2.1) (n := (smOp (m % 8)).2.2.2) (t := .nil) (e := .nil) (by simp [isC, Ss.one, smSt]) (by simp [isC, Ss.one, smSt, h.1, h.2.1, h.2.2.1, h.2.2.2.1]) (by omega) (by omega)
      rw [Nat.pow_succ, Nat.mul_comm, Nat.mod_mul, Nat.mod_mul, h1, h2]
  have := key 4 m n (by simp only [smBody, Ss.cons.injEq] at h; exact h.2.2.2.2.2.2.2.2.2.2.2.2)
  omega
theorem numF_some {tl : List Int} {l : Ss} {n : Nat} (h : numSp tl l n) : numF tl l = some n := by
  unfold numF
  cases hf : (List.range 4096).find? fun n => decide (numSp tl l n) with
  | none =>
    have := List.find?_eq_none.1 hf n (List.mem_range.2 h.1)
    simp [h] at this
  | some m =>
    have h1 := List.find?_some hf
    rw [decide_eq_true_eq] at h1
    rw [smBody_inj h1.1 h.1 (by rw [← h1.2.2, h.2.2])]
theorem numF_none {tl : List Int} {l : Ss} (h : ∀ n, ¬ numSp tl l n) : numF tl l = none := by
  unfold numF
  rw [List.find?_eq_none]
  intro n _
  simp [h n]
theorem numF_bound {tl : List Int} {l : Ss} : (numF tl l).getD 0 < 4096 := by
  cases hf : numF tl l with
  | none => simp
  | some m =>
    unfold numF at hf
    have h1 := List.find?_some hf
    rw [decide_eq_true_eq] at h1
    exact h1.1
def numN (tl : List Int) (l : Ss) : Int := ((numF tl l).getD 0 : Nat)
def numB (tl : List Int) (l : Ss) : Bool := (numF tl l).isSome
def NumP (tl : List Int) (l : Ss) (w : World) (r : Value) (w' : World) : Prop := r = .tuple #[.int .i64 (numN tl l), .bool (numB tl l)] ∧ Ext w w'
theorem NumP.no {tl : List Int} {l : Ss} {w w' : World} (h : ∀ n, ¬ numSp tl l n) (he : Ext w w') : NumP tl l w (.tuple #[.int .i64 0, .bool false]) w' := by
  unfold NumP numN numB
  rw [numF_none h]
  exact ⟨rfl, he⟩
theorem NumP.yes {tl : List Int} {l : Ss} {n : Nat} {w w' : World} (h : numSp tl l n) (he : Ext w w') : NumP tl l w (.tuple #[.int .i64 (n : Int), .bool true]) w' := by
  unfold NumP numN numB
  rw [numF_some h]
  exact ⟨rfl, he⟩
theorem numSp_len {tl : List Int} {l : Ss} {n : Nat} (h : numSp tl l n) : l.len = 6 := by
  rw [h.2.2]
  simp [smBody, smL, smSt, Ss.len]
theorem Ss.drop_drop : ∀ (a b : Nat) (l : Ss), (l.drop a).drop b = l.drop (a + b)
  | 0, b, l => by rw [Nat.zero_add]; rfl
  | a + 1, b, .nil => by rw [show a + 1 + b = (a + b) + 1 from by omega]; cases b <;> rfl
  | a + 1, b, .cons op x y n t e r => by rw [show a + 1 + b = (a + b) + 1 from by omega]; exact Ss.drop_drop a b r
theorem pow8 {i : Nat} (h : i ≤ 4) : 8 ^ i ≤ 4096 := by
  have : i = 0 ∨ i = 1 ∨ i = 2 ∨ i = 3 ∨ i = 4 := by omega
  rcases this with rfl | rfl | rfl | rfl | rfl <;> decide
theorem pow8' {i : Nat} (h : i < 4) : 8 ^ i ≤ 512 := by
  have : i = 0 ∨ i = 1 ∨ i = 2 ∨ i = 3 := by omega
  rcases this with rfl | rfl | rfl | rfl <;> decide
theorem nil_sts (w : World) : StS w (.slice none 0 0) .nil [] := ⟨none, 0, rfl, ⟨by unfold maxI; simp [Ss.len], Nat.le_refl _⟩, .inl ⟨rfl, rfl⟩⟩
theorem one_sm (c : Nat) : Ss.one (smOp c).1 (smOp c).2.1 (smOp c).2.2.1 (smOp c).2.2.2 .nil .nil = smSt c .nil := rfl
theorem sm_sts {w : World} {b c : Nat} {ty : TypeId} (hb : Blk w b (smV c).cells.toList ty) : ∃ F, StS w (.slice (some ⟨b, 0, none⟩) 1 1) (smSt c .nil) F := by
  have := one_sts (w := w) (b := b) (o := 0) (c := 1) (op := (smOp c).1) (x := (smOp c).2.1) (y := (smOp c).2.2.1) (n := (smOp c).2.2.2) (t := .nil) (e := .nil) (vt := .slice none 0 0) (ve := .slice none 0 0) (blk_cells hb) (nil_sts w) (nil_sts w) (Nat.le_refl _)
  exact ⟨_, this⟩
theorem smAll_sts {w : World} {lb c : Nat} {ty : TypeId} (hL : Blk w lb smAll ty) (h : c < 8) : ∃ F, StS w (.slice (if 8 = c then some ⟨lb, 0, none⟩ else (some (⟨lb, 0, none⟩ : Addr)).map (·.add (c * 6))) (c + 1 - c) (8 - c)) (smSt c .nil) F := by
  rw [if_neg (by omega), show c + 1 - c = 1 from by omega]
  simp only [Option.map_some, add_some]
  exact ⟨_, one_sts (op := (smOp c).1) (x := (smOp c).2.1) (y := (smOp c).2.2.1) (n := (smOp c).2.2.2) (smAll_cell hL h) (nil_sts w) (nil_sts w) (by omega)⟩
end Go.Proofs.YtplcmbipeanjdaaDoor
