/-
  What is proved here: what the laws' helpers on tags and cells compute: their size, copies, equality, marks.
-/
import Derived.Test.YtmmhoihebbhakaaCell
import Derived.Test.YtmmhoihebbhakaaCho
namespace Go.Proofs.Ytmmhoihebbhakaa
set_option linter.unusedVariables false
set_option linter.unusedSimpArgs false
set_option linter.unnecessarySimpa false
open Go.RowKit

def tgV (t : Tg) : Value := .agg #[.int .i64 t.id, .bool t.u]
def ceV (c : Ce) (vs : Value) : Value := .agg #[.int .i64 c.val, .bool c.al, .int .i64 c.nx, vs]
def cSize (l : List Ce) : Nat := l.length + (l.map fun c => c.st.length).sum

theorem take_succ_eqG {α : Type} {la lb : List α} {i : Nat} (ha : i < la.length) (hb : i < lb.length) (ht : la.take i = lb.take i) (he : la[i] = lb[i]) : la.take (i + 1) = lb.take (i + 1) := by
  rw [List.take_succ_eq_append_getElem ha, List.take_succ_eq_append_getElem hb, ht, he]
end Go.Proofs.Ytmmhoihebbhakaa
