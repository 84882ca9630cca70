/-
  What is proved here: which small programs the program and the reference make.
-/
import Derived.Test.YtpmgjmcohbdlaaaGrow
import Derived.Test.YtpmgjmcohbdlaaaPr
import Derived.Test.YtpmgjmcohbdlaaaRes
import Derived.Test.YtpmgjmcohbdlaaaSmall
namespace Go.Proofs.Ytpmgjmcohbdlaaa
set_option linter.unusedVariables false
set_option linter.unusedSimpArgs false
set_option linter.unnecessarySimpa false
open Go.RowKit

/-- The statement with a code. -/
def smOp : Nat → Int × Int × Int × Int
  | 0 => (4, 2, 1, 0)
  | 1 => (5, 3, 1, 0)
  | 2 => (4, 2, 3, 0)
  | 3 => (6, 0, 2, 0)
  | 4 => (6, 0, 1, 0)
  | 5 => (7, 3, 0, 0)
  | 6 => (7, 1, 0, 0)
  | _ => (2, 1, 0, 2)
def smSt (c : Nat) (r : Ss) : Ss := .cons (smOp c).1 (smOp c).2.1 (smOp c).2.2.1 (smOp c).2.2.2 .nil .nil r
/-- The statements for so many digits of a number. -/
def smL : Nat → Nat → Ss
  | 0, _ => .nil
  | i + 1, n => smSt (n % 8) (smL i (n / 8))
def smBody (n : Nat) : Ss := .cons 1 0 0 1 .nil .nil (.cons 2 1 0 0 .nil .nil (smL 4 n))
def smTypes : List Int := [1, 2, 3, 4]
theorem smL_cnt : ∀ i n, cntL (smL i n) = i
  | 0, _ => rfl
  | i + 1, n => by simp [smL, smSt, cntL, smL_cnt i]; omega
theorem smBody_cnt (n : Nat) : cntL (smBody n) = 6 := by simp [smBody, cntL, smL_cnt]
def smV (c : Nat) : Value := stV (smOp c).1 (smOp c).2.1 (smOp c).2.2.1 (smOp c).2.2.2 (.slice none 0 0) (.slice none 0 0)
def smC (c : Nat) : List Value := [.int .i64 (smOp c).1, .int .i64 (smOp c).2.1, .int .i64 (smOp c).2.2.1, .int .i64 (smOp c).2.2.2, .slice none 0 0, .slice none 0 0]
def smAll : List Value := smC 0 ++ smC 1 ++ smC 2 ++ smC 3 ++ smC 4 ++ smC 5 ++ smC 6 ++ smC 7
theorem smAll_at {c : Nat} (h : c < 8) : (smAll.drop (c * 6)).take 6 = smC c := by
  have : c = 0 ∨ c = 1 ∨ c = 2 ∨ c = 3 ∨ c = 4 ∨ c = 5 ∨ c = 6 ∨ c = 7 := by omega
  rcases this with rfl | rfl | rfl | rfl | rfl | rfl | rfl | rfl <;> rfl
theorem smAll_cell {w : World} {b c : Nat} {t : TypeId} (hb : Blk w b smAll t) (h : c < 8) : ∀ j u, (smC c)[j]? = some u → w.cell? ⟨b, 0 + c * 6 + j, none⟩ = some u := fun j u hu => by
  rw [← smAll_at h, List.getElem?_take] at hu
  split at hu
  · rw [List.getElem?_drop] at hu
    rw [Nat.zero_add]
    exact hb.cell hu
  · cases hu
theorem smC_one (c : Nat) : ∀ v ∈ smC c, v.oneCell' = true := by
  intro v hv
  simp [smC] at hv
  rcases hv with rfl | rfl | rfl | rfl | rfl <;> rfl
/-- A row of statements without statements in them. -/
def FlatS (e : TypeId) (B : Nat) (w : World) (l : Ss) (v : Value) : Prop := ∃ xs, w.ownsRow B e 6 v l.len xs ∧ StkS e w l xs []
theorem FlatS.chg {e : TypeId} {B : Nat} {w w' : World} {l : Ss} {v : Value} {G : List Nat} (h : FlatS e B w l v) (k : Chg G w w') (hd : ∀ x ∈ v.ownBlock.toList, x ∉ G) : FlatS e B w' l v := by
  obtain ⟨xs, h1, h2⟩ := h
  exact ⟨xs, ownsRow_chg h1 k hd, StkS.chg k _ _ _ h2 (by simp)⟩
theorem FlatS.row {e : TypeId} {B : Nat} {w : World} {l : Ss} {v : Value} (h : FlatS e B w l v) : RowS e w v l v.ownBlock.toList := by
  obtain ⟨xs, h1, h2⟩ := h
  exact ⟨xs, [], ownsRow_base0 h1, h2, by simp⟩
/-- One more statement stands behind the others. -/
theorem FlatS.more {e : TypeId} {B : Nat} {w w' : World} {l : Ss} {v' : Value} {xs : List Value} {G : List Nat} {c : Nat} (h2 : StkS e w l xs []) (k1 : w'.ownsRow B e 6 v' (l.len + 1) (xs ++ (smV c).cells.toList)) (k : Chg G w w') :
    FlatS e B w' (l.app (smSt c .nil)) v' := by
  refine ⟨xs ++ smC c, ?_, ?_⟩
  · rw [Ss.len_app]
    exact k1
  · have h3 : StkS e w' (smSt c .nil) (smC c) [] := StkS.mk (RowS.nil_ e w') (RowS.nil_ e w') (r := .nil) (xr := []) (Fr := []) ⟨rfl, rfl⟩
    have := StkS.append _ _ _ _ _ _ (StkS.chg k _ _ _ h2 (by simp)) h3
    simpa using this
theorem smL_step (i n : Nat) (d : Ss) : (d.app (smSt (n % 8) .nil)).app (smL i (n / 8)) = d.app (smL (i + 1) n) := by
  rw [Ss.app_assoc]
  rfl
def smHead : Ss := .cons 1 0 0 1 .nil .nil (.cons 2 1 0 0 .nil .nil .nil)
theorem smHead_app (n : Nat) : smHead.app (smL 4 n) = smBody n := rfl
def smHeadC : List Value := [.int .i64 1, .int .i64 0, .int .i64 0, .int .i64 1, .slice none 0 0, .slice none 0 0, .int .i64 2, .int .i64 1, .int .i64 0, .int .i64 0, .slice none 0 0, .slice none 0 0]
theorem smHead_flat {e : TypeId} {B b : Nat} {w : World} (hb : Blk w b smHeadC e) (hB : B ≤ b) : FlatS e B w smHead (.slice (some ⟨b, 0, none⟩) 2 2) := by
  refine ⟨smHeadC, owns_blk hb hB rfl (by decide), ?_⟩
  have h1 : StkS e w (.cons 2 1 0 0 .nil .nil .nil) [.int .i64 2, .int .i64 1, .int .i64 0, .int .i64 0, .slice none 0 0, .slice none 0 0] [] := StkS.mk (RowS.nil_ e w) (RowS.nil_ e w) (r := .nil) (xr := []) (Fr := []) ⟨rfl, rfl⟩
  exact StkS.mk (RowS.nil_ e w) (RowS.nil_ e w) h1

def smOk (a : Int) : Prop := 0 ≤ a ∧ a < 4096
instance (a : Int) : Decidable (smOk a) := by unfold smOk; infer_instance
def smT (a : Int) : List Int := if smOk a then smTypes else []
def smB (a : Int) : Ss := if smOk a then smBody a.toNat else .nil
theorem smT_len (a : Int) : (smT a).length ≤ 4 := by unfold smT; split <;> simp [smTypes]
theorem smB_cnt (a : Int) : cntL (smB a) ≤ 6 := by unfold smB; split <;> simp [smBody_cnt, cntL]
/-- What stands behind the region that appends a statement. -/
def SmGrew (e eP : TypeId) (B pb : Nat) (tv v : Value) (d : Ss) (c : Nat) (w w' : World) : Prop :=
  ∃ v', Blk w' pb [tv, v'] eP ∧ FlatS e B w' (d.app (smSt c .nil)) v' ∧ Chg (pb :: v.ownBlock.toList) w w' ∧ (v'.ownBlock = v.ownBlock ∨ ∃ b, v'.ownBlock = some b ∧ w.heap.size ≤ b)
theorem one_smV (c : Nat) : ∀ u ∈ (smV c).cells.toList, u.oneCell' = true := smC_one c
end Go.Proofs.Ytpmgjmcohbdlaaa
