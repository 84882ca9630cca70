/-
  What is proved here: returns of several results, some of them by value out of a block. No function of the program stands here.
-/
import Derived.Test.YtnfapbghkmodeaaDoorMap
namespace Go.Proofs.YtnfapbghkmodeaaDoor
set_option linter.unusedVariables false
set_option linter.unusedSimpArgs false
set_option linter.unnecessarySimpa false
open Go.RowKit

/-- What a result variable holds. -/
inductive ResOk (P : Program) (σ : Env) (w : World) : ResultVar → Value → Prop
  | tmp {t : Nat} {v : Value} (h : look σ t = some v) : ResOk P σ w (.tmp t) v
  | cell {a b : Nat} {t : TypeId} {k : Nat} {cs : List Value} {t' : TypeId} (hk : TS P t k) (hv : look σ a = some (.pointer (some ⟨b, 0, none⟩))) (hb : Blk w b cs t') (hl : cs.length = k) : ResOk P σ w (.cell a t) (.agg cs.toArray)
section
variable {P : Program} {n : Nat} {σ : Env} {w : World} {fn : Func} {Post : Value → World → Prop} {r1 r2 r3 : ResultVar} {v1 v2 v3 : Value}
def resM (tmps : Array Value) : ResultVar → Sem Value
  | .tmp t => pure (tmps.getD t undef)
  | .cell a t => do loadVar t (← asAddr (tmps.getD a undef))
theorem ResOk.run {a : Act} (hf : Fits n σ a) (h : ResOk P σ w r1 v1) : (resM a.tmps r1).run P w = .ok v1 w := by
  cases h with
  | tmp h => simp [resM, hf.has _ _ h]
  | @cell a b t k cs t' hk hv hb hl =>
    have hrun := run_loadVar_cells (P := P) (t := t) (w := w) (b := b) (o := 0) hl (fun j u hu => by rw [Nat.zero_add]; exact hb.cell hu)
    simp [resM, hf.has _ _ hv, asAddr, hrun]
theorem results_resM (tmps : Array Value) : results fn tmps = (do let vs ← fn.results.mapM (resM tmps); pure (if h : vs.size = 1 then vs[0] else .tuple vs)) := by
  unfold results
  congr 1
theorem at_ret2G (hr : fn.results = #[r1, r2]) (h1 : ResOk P σ w r1 v1) (h2 : ResOk P σ w r2 v2) (h : Post (.tuple #[v1, v2]) w) : AtQ n (bodyPost P fn fun e w' => ∃ v, e = .returned v ∧ Post v w') .ret σ w := ⟨fun a hf =>
  ⟨hf.defers, .tuple #[v1, v2], by rw [results_resM, hr]; simp [h1.run hf, h2.run hf], _, rfl, h⟩⟩
theorem at_ret3G (hr : fn.results = #[r1, r2, r3]) (h1 : ResOk P σ w r1 v1) (h2 : ResOk P σ w r2 v2) (h3 : ResOk P σ w r3 v3) (h : Post (.tuple #[v1, v2, v3]) w) : AtQ n (bodyPost P fn fun e w' => ∃ v, e = .returned v ∧ Post v w') .ret σ w := ⟨fun a hf =>
  ⟨hf.defers, .tuple #[v1, v2, v3], by rw [results_resM, hr]; simp [h1.run hf, h2.run hf, h3.run hf], _, rfl, h⟩⟩
end
end Go.Proofs.YtnfapbghkmodeaaDoor
