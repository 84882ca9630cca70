/-
  What is proved here: what the reference's l15Size, l15Stmts, SmallTests and the program's SmallTests return; the law FnExactSmallTests.
-/
import Derived.Test.YtplcmbipeanjdaaDoorData
import Derived.Test.YtplcmbipeanjdaaDoorCho
namespace Go.Proofs.YtplcmbipeanjdaaDoor
set_option linter.unusedVariables false
set_option linter.unusedSimpArgs false
set_option linter.unnecessarySimpa false
open Go.RowKit

/-- The result is a slice of statements in new memory, no two of whose slices share. -/
def NewSts (l : Ss) (w : World) (v : Value) (w' : World) : Prop := (∃ F, OStS w' v l F ∧ F.Nodup ∧ ∀ b ∈ F, w.heap.size ≤ b) ∧ Ext w w'
def st0 (op x y n : Int) (r : Ss) : Ss := .cons op x y n .nil .nil r
def l15 : Ss := st0 4 2 1 0 (st0 5 3 1 0 (st0 4 2 3 0 (st0 6 0 2 0 (st0 6 0 1 0 (st0 7 3 0 0 (st0 7 1 0 0 (st0 2 1 0 2 .nil)))))))
theorem osl_nil (w : World) : OSlV w (OCs w (encS .nil)) Ss.nil.len (.slice none 0 0) [] := OStS.nil_ w none 0

theorem l15Size_ret (w : World) : Ret Tryd.prog 37 [] w fun v w' => v = .int .i64 4 ∧ w' = w := by
  refine enter Tryd.func37 rfl Tryd.ntmps37 rfl rfl ?_
  refine goS ?_
  exact at_ret1 rfl rfl ⟨rfl, rfl⟩
theorem l15Stmts_ret (w : World) : Ret Tryd.prog 38 [] w (NewSts l15 w) := by
  refine enter Tryd.func38 rfl Tryd.ntmps38 rfl rfl ?_
  refine goS ?_
  refine WO_build (e := 56) (k := 6) [.tmp 1, .tmp 2, .tmp 3, .tmp 4, .tmp 5, .tmp 6, .tmp 7, .tmp 8] rfl rfl rfl rfl rfl (by simp [Value.cells]) (by simp only [List.flatMap_cons, List.flatMap_nil, Value.cells, List.append_nil, List.cons_append, List.nil_append]; rfl) fun w1 hb he hz => ?_
  refine goS ?_
  refine at_ret1 rfl rfl ⟨⟨[w.heap.size], ⟨_, 8, rfl, by simp [maxI, l15, st0, Ss.len], .inr ⟨_, 0, _, _, [], rfl, rfl, hb, ?_⟩⟩, by simp, by simp⟩, he⟩
  have z := osl_nil w1
  exact ⟨rfl, rfl, rfl, rfl, _, [], [], rfl, rfl, z, _, [], [], rfl, rfl, z, rfl, rfl, rfl, rfl, _, [], [], rfl, rfl, z, _, [], [], rfl, rfl, z, rfl, rfl, rfl, rfl, _, [], [], rfl, rfl, z, _, [], [], rfl, rfl, z,
    rfl, rfl, rfl, rfl, _, [], [], rfl, rfl, z, _, [], [], rfl, rfl, z, rfl, rfl, rfl, rfl, _, [], [], rfl, rfl, z, _, [], [], rfl, rfl, z, rfl, rfl, rfl, rfl, _, [], [], rfl, rfl, z, _, [], [], rfl, rfl, z,
    rfl, rfl, rfl, rfl, _, [], [], rfl, rfl, z, _, [], [], rfl, rfl, z, rfl, rfl, rfl, rfl, _, [], [], rfl, rfl, z, _, [], [], rfl, rfl, z, rfl⟩
theorem SmallTests_ret (w : World) : Ret Tryd.prog 23 [] w fun v w' => v = .int .i64 4096 ∧ w' = w := by
  refine enter Tryd.func23 rfl Tryd.ntmps23 rfl rfl ?_
  refine goS ?_
  exact at_ret1 rfl rfl ⟨rfl, rfl⟩
theorem sSmallTests_ret (w : World) : Ret Tryd.prog 25 [] w fun v w' => v = .int .i64 4096 ∧ Ext w w' := by
  refine enter Tryd.func25 rfl Tryd.ntmps25 rfl rfl ?_
  refine goS ?_
  refine W_loop (α := Nat) (fun i => [(1, .int .i64 (8 ^ i)), (2, .int .i64 (i : Int))])
    (fun i w' => i ≤ 4 ∧ Ext w w') (fun i => 4 - i) 0 (by repeat (first | exact True.intro | refine And.intro rfl ?_)) ⟨Nat.zero_le _, Ext.refl _⟩ ?_
  rintro i w1 ⟨hi, he⟩
  have hp : (8 : Int) ^ i ≤ 4096 ∧ 1 ≤ (8 : Int) ^ i := by
    have : i = 0 ∨ i = 1 ∨ i = 2 ∨ i = 3 ∨ i = 4 := by omega
    rcases this with rfl | rfl | rfl | rfl | rfl <;> decide
  refine goS ?_
  refine WO_call rfl (l15Size_ret w1) ?_
  rintro v w2 ⟨rfl, rfl⟩
  refine goS ?_
  refine Z52 rfl (fun hc => ?_) (fun hc => ?_)
  · have hlt : i < 4 := by simp at hc; omega
    refine goS ?_
    refine WO_call rfl (l15Stmts_ret w2) ?_
    rintro v w3 ⟨⟨F, ⟨A, c, rfl, _⟩, _⟩, e3⟩
    refine goS ?_
    refine Z22 rfl rfl (by simp [l15, st0, Ss.len]; omega) ?_
    refine goS ?_
    exact at_loop (i + 1) (by refine And.intro ?_ (And.intro rfl trivial); rw [Int.pow_succ]; rfl) ⟨by omega, he.trans e3⟩ (by omega)
  · have hge : i = 4 := by simp at hc; omega
    subst hge
    refine goS ?_
    exact at_ret1 rfl rfl ⟨rfl, he⟩
end Go.Proofs.YtplcmbipeanjdaaDoor
