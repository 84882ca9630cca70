/-
  No cell of these rows narrows 'for every input' (looked for: loops, veiled, ifaces, maps, wideKeys, modest, calm, conditions, laid).
  DERIVED. THE GIVEN ROWS OF THIS SEAT. 9 by the template 'for every input the law returns true; each argument reads behind the call as it read before'; 0 by the template 'total and deterministic' (their statements: YtplcmbipeanjdaaTotals.lean).
  GIVEN WITH THE SEED: the statements are not yours to turn. If you find one false, say at which input.
  Laid BY PROGRAM, IN A SANDBOX (cutbox-rows.mjs): the forced cells as the released guide's own fill.sh prints them over the translation 4c573be1795ab342… (all of the seat's roots in one cut). By AI agents, Wed Nov 11 2026. No macro, syntax, notation, axiom, sorry.
-/
import Derived.Test.YtplcmbipeanjdaaChecked
import GoSem.Claim
import GoSem.ClaimJoined
import GoSem.ClaimMapViews
import Derived.JoinedTies
import Derived.KernelRfl
namespace Go.Proofs.Ytplcmbipeanjdaa
/- THE CELL 'sum', in the pinned program and in every row, IS THE sha256 OF THE DUMP (.gsa) THAT YtplcmbipeanjdaaProg.lean LOADS. Nothing in Lean hashes anything: it is a label: what it is worth is what the hold of that sum in a sandbox is worth. -/
noncomputable def Try.pinned : Pinned := { name := "ytplcmbipeanjdaa", sum := "4c573be1795ab342dc27e3d923756fae7a55a11a438dae5cdf94ecd01fa0d5a1", checked := Try.checked }
namespace Rows
def none {H : Type} : Left H := { results := [], args := [] }

/-- 'laws.FnNumberOfSmall': WHATEVER THE INPUT: true; the input reads as it did. -/
def fnNumberOfSmallSpec : ChangeSpec := { name := "fnNumberOfSmall", fn := fun _ => fun
  | [d] => { results := [.lit (.bool true)], args := [d] }
  | _ => none }
def fnNumberOfSmallRow : OpenClaim := { program := "ytplcmbipeanjdaa", sum := "4c573be1795ab342dc27e3d923756fae7a55a11a438dae5cdf94ecd01fa0d5a1", func := "loop.example/borrowcheck/laws.FnNumberOfSmall", spec := "fnNumberOfSmall", unfollowed := true, recurses := true, apart := false }
def FnNumberOfSmallSaid : Prop := fnNumberOfSmallRow.holds Try.pinned (OpenSpec.ofChange fnNumberOfSmallSpec)

/-- ITS FALSE NEIGHBOUR: 'it returns false'. Refute it at one input. -/
def fnNumberOfSmallWrong : ChangeSpec := { name := "fnNumberOfSmall", fn := fun _ => fun
  | [d] => { results := [.lit (.bool false)], args := [d] }
  | _ => none }
def FnNumberOfSmallWrongFalsely : Prop := fnNumberOfSmallRow.holds Try.pinned (OpenSpec.ofChange fnNumberOfSmallWrong)

/-- 'laws.FnSmallProgram': WHATEVER THE INPUT: true; the input reads as it did. -/
def fnSmallProgramSpec : ChangeSpec := { name := "fnSmallProgram", fn := fun _ => fun
  | [d] => { results := [.lit (.bool true)], args := [d] }
  | _ => none }
def fnSmallProgramRow : OpenClaim := { program := "ytplcmbipeanjdaa", sum := "4c573be1795ab342dc27e3d923756fae7a55a11a438dae5cdf94ecd01fa0d5a1", func := "loop.example/borrowcheck/laws.FnSmallProgram", spec := "fnSmallProgram", unfollowed := true, recurses := true, apart := false }
def FnSmallProgramSaid : Prop := fnSmallProgramRow.holds Try.pinned (OpenSpec.ofChange fnSmallProgramSpec)

/-- ITS FALSE NEIGHBOUR: 'it returns false'. Refute it at one input. -/
def fnSmallProgramWrong : ChangeSpec := { name := "fnSmallProgram", fn := fun _ => fun
  | [d] => { results := [.lit (.bool false)], args := [d] }
  | _ => none }
def FnSmallProgramWrongFalsely : Prop := fnSmallProgramRow.holds Try.pinned (OpenSpec.ofChange fnSmallProgramWrong)

/-- 'laws.FnVarsApart': WHATEVER THE INPUT: true; the input reads as it did. -/
def fnVarsApartSpec : ChangeSpec := { name := "fnVarsApart", fn := fun _ => fun
  | [d] => { results := [.lit (.bool true)], args := [d] }
  | _ => none }
def fnVarsApartRow : OpenClaim := { program := "ytplcmbipeanjdaa", sum := "4c573be1795ab342dc27e3d923756fae7a55a11a438dae5cdf94ecd01fa0d5a1", func := "loop.example/borrowcheck/laws.FnVarsApart", spec := "fnVarsApart", unfollowed := true, recurses := true, apart := false }
def FnVarsApartSaid : Prop := fnVarsApartRow.holds Try.pinned (OpenSpec.ofChange fnVarsApartSpec)

/-- ITS FALSE NEIGHBOUR: 'it returns false'. Refute it at one input. -/
def fnVarsApartWrong : ChangeSpec := { name := "fnVarsApart", fn := fun _ => fun
  | [d] => { results := [.lit (.bool false)], args := [d] }
  | _ => none }
def FnVarsApartWrongFalsely : Prop := fnVarsApartRow.holds Try.pinned (OpenSpec.ofChange fnVarsApartWrong)

/-- 'laws.FnStmtWide': WHATEVER THE INPUT: true; the input reads as it did. -/
def fnStmtWideSpec : ChangeSpec := { name := "fnStmtWide", fn := fun _ => fun
  | [d] => { results := [.lit (.bool true)], args := [d] }
  | _ => none }
def fnStmtWideRow : OpenClaim := { program := "ytplcmbipeanjdaa", sum := "4c573be1795ab342dc27e3d923756fae7a55a11a438dae5cdf94ecd01fa0d5a1", func := "loop.example/borrowcheck/laws.FnStmtWide", spec := "fnStmtWide", unfollowed := true, recurses := true, apart := false }
def FnStmtWideSaid : Prop := fnStmtWideRow.holds Try.pinned (OpenSpec.ofChange fnStmtWideSpec)

/-- ITS FALSE NEIGHBOUR: 'it returns false'. Refute it at one input. -/
def fnStmtWideWrong : ChangeSpec := { name := "fnStmtWide", fn := fun _ => fun
  | [d] => { results := [.lit (.bool false)], args := [d] }
  | _ => none }
def FnStmtWideWrongFalsely : Prop := fnStmtWideRow.holds Try.pinned (OpenSpec.ofChange fnStmtWideWrong)

/-- 'laws.FnVarsParts': WHATEVER THE INPUT: true; the input reads as it did. -/
def fnVarsPartsSpec : ChangeSpec := { name := "fnVarsParts", fn := fun _ => fun
  | [d] => { results := [.lit (.bool true)], args := [d] }
  | _ => none }
def fnVarsPartsRow : OpenClaim := { program := "ytplcmbipeanjdaa", sum := "4c573be1795ab342dc27e3d923756fae7a55a11a438dae5cdf94ecd01fa0d5a1", func := "loop.example/borrowcheck/laws.FnVarsParts", spec := "fnVarsParts", unfollowed := true, recurses := true, apart := false }
def FnVarsPartsSaid : Prop := fnVarsPartsRow.holds Try.pinned (OpenSpec.ofChange fnVarsPartsSpec)

/-- ITS FALSE NEIGHBOUR: 'it returns false'. Refute it at one input. -/
def fnVarsPartsWrong : ChangeSpec := { name := "fnVarsParts", fn := fun _ => fun
  | [d] => { results := [.lit (.bool false)], args := [d] }
  | _ => none }
def FnVarsPartsWrongFalsely : Prop := fnVarsPartsRow.holds Try.pinned (OpenSpec.ofChange fnVarsPartsWrong)

/-- 'laws.FnStmtValid': WHATEVER THE INPUT: true; the input reads as it did. -/
def fnStmtValidSpec : ChangeSpec := { name := "fnStmtValid", fn := fun _ => fun
  | [d] => { results := [.lit (.bool true)], args := [d] }
  | _ => none }
def fnStmtValidRow : OpenClaim := { program := "ytplcmbipeanjdaa", sum := "4c573be1795ab342dc27e3d923756fae7a55a11a438dae5cdf94ecd01fa0d5a1", func := "loop.example/borrowcheck/laws.FnStmtValid", spec := "fnStmtValid", unfollowed := true, recurses := true, apart := false }
def FnStmtValidSaid : Prop := fnStmtValidRow.holds Try.pinned (OpenSpec.ofChange fnStmtValidSpec)

/-- ITS FALSE NEIGHBOUR: 'it returns false'. Refute it at one input. -/
def fnStmtValidWrong : ChangeSpec := { name := "fnStmtValid", fn := fun _ => fun
  | [d] => { results := [.lit (.bool false)], args := [d] }
  | _ => none }
def FnStmtValidWrongFalsely : Prop := fnStmtValidRow.holds Try.pinned (OpenSpec.ofChange fnStmtValidWrong)

/-- 'laws.FnProgramSuffix': WHATEVER THE INPUT: true; the input reads as it did. -/
def fnProgramSuffixSpec : ChangeSpec := { name := "fnProgramSuffix", fn := fun _ => fun
  | [d] => { results := [.lit (.bool true)], args := [d] }
  | _ => none }
def fnProgramSuffixRow : OpenClaim := { program := "ytplcmbipeanjdaa", sum := "4c573be1795ab342dc27e3d923756fae7a55a11a438dae5cdf94ecd01fa0d5a1", func := "loop.example/borrowcheck/laws.FnProgramSuffix", spec := "fnProgramSuffix", unfollowed := true, recurses := true, apart := false }
def FnProgramSuffixSaid : Prop := fnProgramSuffixRow.holds Try.pinned (OpenSpec.ofChange fnProgramSuffixSpec)

/-- ITS FALSE NEIGHBOUR: 'it returns false'. Refute it at one input. -/
def fnProgramSuffixWrong : ChangeSpec := { name := "fnProgramSuffix", fn := fun _ => fun
  | [d] => { results := [.lit (.bool false)], args := [d] }
  | _ => none }
def FnProgramSuffixWrongFalsely : Prop := fnProgramSuffixRow.holds Try.pinned (OpenSpec.ofChange fnProgramSuffixWrong)

/-- 'laws.FnCountStmts': WHATEVER THE INPUT: true; the input reads as it did. -/
def fnCountStmtsSpec : ChangeSpec := { name := "fnCountStmts", fn := fun _ => fun
  | [d] => { results := [.lit (.bool true)], args := [d] }
  | _ => none }
def fnCountStmtsRow : OpenClaim := { program := "ytplcmbipeanjdaa", sum := "4c573be1795ab342dc27e3d923756fae7a55a11a438dae5cdf94ecd01fa0d5a1", func := "loop.example/borrowcheck/laws.FnCountStmts", spec := "fnCountStmts", unfollowed := true, recurses := true, apart := false }
def FnCountStmtsSaid : Prop := fnCountStmtsRow.holds Try.pinned (OpenSpec.ofChange fnCountStmtsSpec)

/-- ITS FALSE NEIGHBOUR: 'it returns false'. Refute it at one input. -/
def fnCountStmtsWrong : ChangeSpec := { name := "fnCountStmts", fn := fun _ => fun
  | [d] => { results := [.lit (.bool false)], args := [d] }
  | _ => none }
def FnCountStmtsWrongFalsely : Prop := fnCountStmtsRow.holds Try.pinned (OpenSpec.ofChange fnCountStmtsWrong)

/-- 'laws.FnVarsOf': WHATEVER THE INPUT: true; the input reads as it did. -/
def fnVarsOfSpec : ChangeSpec := { name := "fnVarsOf", fn := fun _ => fun
  | [d1, d2] => { results := [.lit (.bool true)], args := [d1, d2] }
  | _ => none }
def fnVarsOfRow : OpenClaim := { program := "ytplcmbipeanjdaa", sum := "4c573be1795ab342dc27e3d923756fae7a55a11a438dae5cdf94ecd01fa0d5a1", func := "loop.example/borrowcheck/laws.FnVarsOf", spec := "fnVarsOf", unfollowed := true, recurses := true, apart := false }
def FnVarsOfSaid : Prop := fnVarsOfRow.holds Try.pinned (OpenSpec.ofChange fnVarsOfSpec)

/-- ITS FALSE NEIGHBOUR: 'it returns false'. Refute it at one input. -/
def fnVarsOfWrong : ChangeSpec := { name := "fnVarsOf", fn := fun _ => fun
  | [d1, d2] => { results := [.lit (.bool false)], args := [d1, d2] }
  | _ => none }
def FnVarsOfWrongFalsely : Prop := fnVarsOfRow.holds Try.pinned (OpenSpec.ofChange fnVarsOfWrong)

/- THE SECOND FORM. 'bulk': how many values and letters a reading holds, each counted each time it is reached (what is shared counts as often as it is met; a slice's spare places count too). A statement '..UptoSaid' is the law's where the arguments, and the package variables that the reading takes, are together of bulk at most 1048576: NARROWER than '..Said'. Prove '..Said' where nothing that the law and all that it calls make is longer than what came in: it says more and counts as full. Else prove '..UptoSaid'. A law counts once. -/
mutual
def uptoBulk {H : Type} : DataW H → Nat
  | .lit (.string bytes) => bytes.length + 1
  | .lit _ => 1
  | .nil => 1
  | .ptr d => uptoBulk d + 1
  | .slice elems spare => uptoBulkAll elems + uptoBulkAll spare + 1
  | .agg parts => uptoBulkAll parts + 1
  | .iface _ d => uptoBulk d + 1
  | .map entries => uptoBulkEntries entries + 1
  | .held _ => 1
def uptoBulkAll {H : Type} : List (DataW H) → Nat
  | [] => 0
  | d :: r => uptoBulk d + uptoBulkAll r
def uptoBulkEntries {H : Type} : List (Lit × DataW H) → Nat
  | [] => 0
  | x :: r => uptoBulkEntry x + uptoBulkEntries r
def uptoBulkEntry {H : Type} : Lit × DataW H → Nat
  | (.string bytes, d) => bytes.length + uptoBulk d + 1
  | (_, d) => uptoBulk d + 1
 end
def uptoSmall : (H : Type) → List (DataW H) → Bool := fun _ ds => decide (uptoBulkAll ds ≤ 1048576)
def OpenSpec.upto (s : _root_.Go.ChangeSpec) : _root_.Go.OpenSpec := { _root_.Go.OpenSpec.ofChange s with cond := some uptoSmall }

/-- 'laws.FnNumberOfSmall', WHERE WHAT IT READS IS OF BULK AT MOST 1048576: true; the input reads as it did. -/
def fnNumberOfSmallUptoRow : OpenClaim := { program := "ytplcmbipeanjdaa", sum := "4c573be1795ab342dc27e3d923756fae7a55a11a438dae5cdf94ecd01fa0d5a1", func := "loop.example/borrowcheck/laws.FnNumberOfSmall", spec := "fnNumberOfSmall", unfollowed := true, recurses := true, apart := false, narrowed := true }
def FnNumberOfSmallUptoSaid : Prop := fnNumberOfSmallUptoRow.holds Try.pinned (OpenSpec.upto fnNumberOfSmallSpec)

/-- 'laws.FnSmallProgram', WHERE WHAT IT READS IS OF BULK AT MOST 1048576: true; the input reads as it did. -/
def fnSmallProgramUptoRow : OpenClaim := { program := "ytplcmbipeanjdaa", sum := "4c573be1795ab342dc27e3d923756fae7a55a11a438dae5cdf94ecd01fa0d5a1", func := "loop.example/borrowcheck/laws.FnSmallProgram", spec := "fnSmallProgram", unfollowed := true, recurses := true, apart := false, narrowed := true }
def FnSmallProgramUptoSaid : Prop := fnSmallProgramUptoRow.holds Try.pinned (OpenSpec.upto fnSmallProgramSpec)

/-- 'laws.FnVarsApart', WHERE WHAT IT READS IS OF BULK AT MOST 1048576: true; the input reads as it did. -/
def fnVarsApartUptoRow : OpenClaim := { program := "ytplcmbipeanjdaa", sum := "4c573be1795ab342dc27e3d923756fae7a55a11a438dae5cdf94ecd01fa0d5a1", func := "loop.example/borrowcheck/laws.FnVarsApart", spec := "fnVarsApart", unfollowed := true, recurses := true, apart := false, narrowed := true }
def FnVarsApartUptoSaid : Prop := fnVarsApartUptoRow.holds Try.pinned (OpenSpec.upto fnVarsApartSpec)

/-- 'laws.FnStmtWide', WHERE WHAT IT READS IS OF BULK AT MOST 1048576: true; the input reads as it did. -/
def fnStmtWideUptoRow : OpenClaim := { program := "ytplcmbipeanjdaa", sum := "4c573be1795ab342dc27e3d923756fae7a55a11a438dae5cdf94ecd01fa0d5a1", func := "loop.example/borrowcheck/laws.FnStmtWide", spec := "fnStmtWide", unfollowed := true, recurses := true, apart := false, narrowed := true }
def FnStmtWideUptoSaid : Prop := fnStmtWideUptoRow.holds Try.pinned (OpenSpec.upto fnStmtWideSpec)

/-- 'laws.FnVarsParts', WHERE WHAT IT READS IS OF BULK AT MOST 1048576: true; the input reads as it did. -/
def fnVarsPartsUptoRow : OpenClaim := { program := "ytplcmbipeanjdaa", sum := "4c573be1795ab342dc27e3d923756fae7a55a11a438dae5cdf94ecd01fa0d5a1", func := "loop.example/borrowcheck/laws.FnVarsParts", spec := "fnVarsParts", unfollowed := true, recurses := true, apart := false, narrowed := true }
def FnVarsPartsUptoSaid : Prop := fnVarsPartsUptoRow.holds Try.pinned (OpenSpec.upto fnVarsPartsSpec)

/-- 'laws.FnStmtValid', WHERE WHAT IT READS IS OF BULK AT MOST 1048576: true; the input reads as it did. -/
def fnStmtValidUptoRow : OpenClaim := { program := "ytplcmbipeanjdaa", sum := "4c573be1795ab342dc27e3d923756fae7a55a11a438dae5cdf94ecd01fa0d5a1", func := "loop.example/borrowcheck/laws.FnStmtValid", spec := "fnStmtValid", unfollowed := true, recurses := true, apart := false, narrowed := true }
def FnStmtValidUptoSaid : Prop := fnStmtValidUptoRow.holds Try.pinned (OpenSpec.upto fnStmtValidSpec)

/-- 'laws.FnProgramSuffix', WHERE WHAT IT READS IS OF BULK AT MOST 1048576: true; the input reads as it did. -/
def fnProgramSuffixUptoRow : OpenClaim := { program := "ytplcmbipeanjdaa", sum := "4c573be1795ab342dc27e3d923756fae7a55a11a438dae5cdf94ecd01fa0d5a1", func := "loop.example/borrowcheck/laws.FnProgramSuffix", spec := "fnProgramSuffix", unfollowed := true, recurses := true, apart := false, narrowed := true }
def FnProgramSuffixUptoSaid : Prop := fnProgramSuffixUptoRow.holds Try.pinned (OpenSpec.upto fnProgramSuffixSpec)

/-- 'laws.FnCountStmts', WHERE WHAT IT READS IS OF BULK AT MOST 1048576: true; the input reads as it did. -/
def fnCountStmtsUptoRow : OpenClaim := { program := "ytplcmbipeanjdaa", sum := "4c573be1795ab342dc27e3d923756fae7a55a11a438dae5cdf94ecd01fa0d5a1", func := "loop.example/borrowcheck/laws.FnCountStmts", spec := "fnCountStmts", unfollowed := true, recurses := true, apart := false, narrowed := true }
def FnCountStmtsUptoSaid : Prop := fnCountStmtsUptoRow.holds Try.pinned (OpenSpec.upto fnCountStmtsSpec)

/-- 'laws.FnVarsOf', WHERE WHAT IT READS IS OF BULK AT MOST 1048576: true; the input reads as it did. -/
def fnVarsOfUptoRow : OpenClaim := { program := "ytplcmbipeanjdaa", sum := "4c573be1795ab342dc27e3d923756fae7a55a11a438dae5cdf94ecd01fa0d5a1", func := "loop.example/borrowcheck/laws.FnVarsOf", spec := "fnVarsOf", unfollowed := true, recurses := true, apart := false, narrowed := true }
def FnVarsOfUptoSaid : Prop := fnVarsOfUptoRow.holds Try.pinned (OpenSpec.upto fnVarsOfSpec)

end Rows
end Go.Proofs.Ytplcmbipeanjdaa
