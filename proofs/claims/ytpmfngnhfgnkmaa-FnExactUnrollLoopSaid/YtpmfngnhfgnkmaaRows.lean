/-
  NARROWER THAN 'FOR EVERY INPUT', by the rows' own cells (each row's printed sentence says how): FnExactVarsApart: loops · FnExactVarsOf: loops · FnExactProgramSame: loops · FnExactStmtValid: loops · FnExactNumberOfSmall: loops · FnExactProgramValid: loops · FnExactCountStmts: loops · FnExactCountChoices: loops · FnExactSplitProgram: loops · FnExactUnrollLoop: loops · FnExactForwardLoad: loops.
  DERIVED. THE GIVEN ROWS OF THIS SEAT. 12 by the template 'for every input the law returns true; each argument reads behind the call as it read before'; 0 by the template 'total and deterministic' (their statements: YtpmfngnhfgnkmaaTotals.lean).
  GIVEN WITH THE SEED: the statements are not yours to turn. If you find one false, say at which input.
  Laid BY PROGRAM, IN A SANDBOX (cutbox-rows.mjs): the forced cells as the released guide's own fill.sh prints them over the translation 4f99821c2bf243b4… (all of the seat's roots in one cut). By AI agents, Wed Nov 11 2026. No macro, syntax, notation, axiom, sorry.
-/
import Derived.Test.YtpmfngnhfgnkmaaChecked
import GoSem.Claim
import GoSem.ClaimJoined
import GoSem.ClaimMapViews
import Derived.JoinedTies
import Derived.KernelRfl
namespace Go.Proofs.Ytpmfngnhfgnkmaa
/- THE CELL 'sum', in the pinned program and in every row, IS THE sha256 OF THE DUMP (.gsa) THAT YtpmfngnhfgnkmaaProg.lean LOADS. Nothing in Lean hashes anything: it is a label: what it is worth is what the hold of that sum in a sandbox is worth. -/
noncomputable def Try.pinned : Pinned := { name := "ytpmfngnhfgnkmaa", sum := "4f99821c2bf243b4a7fa7678f6a35b1fe1043b8ad9e7ac8c4196f9aeb3b4ba14", checked := Try.checked }
namespace Rows
def none {H : Type} : Left H := { results := [], args := [] }

/-- 'laws.FnExactVarsApart': WHATEVER THE INPUT: true; the input reads as it did. -/
def fnExactVarsApartSpec : ChangeSpec := { name := "fnExactVarsApart", fn := fun _ => fun
  | [d1, d2] => { results := [.lit (.bool true)], args := [d1, d2] }
  | _ => none }
def fnExactVarsApartRow : OpenClaim := { program := "ytpmfngnhfgnkmaa", sum := "4f99821c2bf243b4a7fa7678f6a35b1fe1043b8ad9e7ac8c4196f9aeb3b4ba14", func := "loop.example/borrowcheck/laws.FnExactVarsApart", spec := "fnExactVarsApart", unfollowed := true, recurses := true, loops := true, apart := false }
def FnExactVarsApartSaid : Prop := fnExactVarsApartRow.holds Try.pinned (OpenSpec.ofChange fnExactVarsApartSpec)

/-- ITS FALSE NEIGHBOUR: 'it returns false'. Refute it at one input. -/
def fnExactVarsApartWrong : ChangeSpec := { name := "fnExactVarsApart", fn := fun _ => fun
  | [d1, d2] => { results := [.lit (.bool false)], args := [d1, d2] }
  | _ => none }
def FnExactVarsApartWrongFalsely : Prop := fnExactVarsApartRow.holds Try.pinned (OpenSpec.ofChange fnExactVarsApartWrong)

/-- 'laws.FnExactVarsOf': WHATEVER THE INPUT: true; the input reads as it did. -/
def fnExactVarsOfSpec : ChangeSpec := { name := "fnExactVarsOf", fn := fun _ => fun
  | [d] => { results := [.lit (.bool true)], args := [d] }
  | _ => none }
def fnExactVarsOfRow : OpenClaim := { program := "ytpmfngnhfgnkmaa", sum := "4f99821c2bf243b4a7fa7678f6a35b1fe1043b8ad9e7ac8c4196f9aeb3b4ba14", func := "loop.example/borrowcheck/laws.FnExactVarsOf", spec := "fnExactVarsOf", unfollowed := true, recurses := true, loops := true, apart := false }
def FnExactVarsOfSaid : Prop := fnExactVarsOfRow.holds Try.pinned (OpenSpec.ofChange fnExactVarsOfSpec)

/-- ITS FALSE NEIGHBOUR: 'it returns false'. Refute it at one input. -/
def fnExactVarsOfWrong : ChangeSpec := { name := "fnExactVarsOf", fn := fun _ => fun
  | [d] => { results := [.lit (.bool false)], args := [d] }
  | _ => none }
def FnExactVarsOfWrongFalsely : Prop := fnExactVarsOfRow.holds Try.pinned (OpenSpec.ofChange fnExactVarsOfWrong)

/-- 'laws.FnExactProgramSame': WHATEVER THE INPUT: true; the input reads as it did. -/
def fnExactProgramSameSpec : ChangeSpec := { name := "fnExactProgramSame", fn := fun _ => fun
  | [d1, d2] => { results := [.lit (.bool true)], args := [d1, d2] }
  | _ => none }
def fnExactProgramSameRow : OpenClaim := { program := "ytpmfngnhfgnkmaa", sum := "4f99821c2bf243b4a7fa7678f6a35b1fe1043b8ad9e7ac8c4196f9aeb3b4ba14", func := "loop.example/borrowcheck/laws.FnExactProgramSame", spec := "fnExactProgramSame", unfollowed := true, recurses := true, loops := true, apart := false }
def FnExactProgramSameSaid : Prop := fnExactProgramSameRow.holds Try.pinned (OpenSpec.ofChange fnExactProgramSameSpec)

/-- ITS FALSE NEIGHBOUR: 'it returns false'. Refute it at one input. -/
def fnExactProgramSameWrong : ChangeSpec := { name := "fnExactProgramSame", fn := fun _ => fun
  | [d1, d2] => { results := [.lit (.bool false)], args := [d1, d2] }
  | _ => none }
def FnExactProgramSameWrongFalsely : Prop := fnExactProgramSameRow.holds Try.pinned (OpenSpec.ofChange fnExactProgramSameWrong)

/-- 'laws.FnExactSmallProgram': WHATEVER THE INPUT: true; the input reads as it did. -/
def fnExactSmallProgramSpec : ChangeSpec := { name := "fnExactSmallProgram", fn := fun _ => fun
  | [d] => { results := [.lit (.bool true)], args := [d] }
  | _ => none }
def fnExactSmallProgramRow : OpenClaim := { program := "ytpmfngnhfgnkmaa", sum := "4f99821c2bf243b4a7fa7678f6a35b1fe1043b8ad9e7ac8c4196f9aeb3b4ba14", func := "loop.example/borrowcheck/laws.FnExactSmallProgram", spec := "fnExactSmallProgram", recurses := true, apart := false }
def FnExactSmallProgramSaid : Prop := fnExactSmallProgramRow.holds Try.pinned (OpenSpec.ofChange fnExactSmallProgramSpec)

/-- ITS FALSE NEIGHBOUR: 'it returns false'. Refute it at one input. -/
def fnExactSmallProgramWrong : ChangeSpec := { name := "fnExactSmallProgram", fn := fun _ => fun
  | [d] => { results := [.lit (.bool false)], args := [d] }
  | _ => none }
def FnExactSmallProgramWrongFalsely : Prop := fnExactSmallProgramRow.holds Try.pinned (OpenSpec.ofChange fnExactSmallProgramWrong)

/-- 'laws.FnExactStmtValid': WHATEVER THE INPUT: true; the input reads as it did. -/
def fnExactStmtValidSpec : ChangeSpec := { name := "fnExactStmtValid", fn := fun _ => fun
  | [d1, d2] => { results := [.lit (.bool true)], args := [d1, d2] }
  | _ => none }
def fnExactStmtValidRow : OpenClaim := { program := "ytpmfngnhfgnkmaa", sum := "4f99821c2bf243b4a7fa7678f6a35b1fe1043b8ad9e7ac8c4196f9aeb3b4ba14", func := "loop.example/borrowcheck/laws.FnExactStmtValid", spec := "fnExactStmtValid", unfollowed := true, recurses := true, loops := true, apart := false }
def FnExactStmtValidSaid : Prop := fnExactStmtValidRow.holds Try.pinned (OpenSpec.ofChange fnExactStmtValidSpec)

/-- ITS FALSE NEIGHBOUR: 'it returns false'. Refute it at one input. -/
def fnExactStmtValidWrong : ChangeSpec := { name := "fnExactStmtValid", fn := fun _ => fun
  | [d1, d2] => { results := [.lit (.bool false)], args := [d1, d2] }
  | _ => none }
def FnExactStmtValidWrongFalsely : Prop := fnExactStmtValidRow.holds Try.pinned (OpenSpec.ofChange fnExactStmtValidWrong)

/-- 'laws.FnExactNumberOfSmall': WHATEVER THE INPUT: true; the input reads as it did. -/
def fnExactNumberOfSmallSpec : ChangeSpec := { name := "fnExactNumberOfSmall", fn := fun _ => fun
  | [d] => { results := [.lit (.bool true)], args := [d] }
  | _ => none }
def fnExactNumberOfSmallRow : OpenClaim := { program := "ytpmfngnhfgnkmaa", sum := "4f99821c2bf243b4a7fa7678f6a35b1fe1043b8ad9e7ac8c4196f9aeb3b4ba14", func := "loop.example/borrowcheck/laws.FnExactNumberOfSmall", spec := "fnExactNumberOfSmall", unfollowed := true, recurses := true, loops := true, apart := false }
def FnExactNumberOfSmallSaid : Prop := fnExactNumberOfSmallRow.holds Try.pinned (OpenSpec.ofChange fnExactNumberOfSmallSpec)

/-- ITS FALSE NEIGHBOUR: 'it returns false'. Refute it at one input. -/
def fnExactNumberOfSmallWrong : ChangeSpec := { name := "fnExactNumberOfSmall", fn := fun _ => fun
  | [d] => { results := [.lit (.bool false)], args := [d] }
  | _ => none }
def FnExactNumberOfSmallWrongFalsely : Prop := fnExactNumberOfSmallRow.holds Try.pinned (OpenSpec.ofChange fnExactNumberOfSmallWrong)

/-- 'laws.FnExactProgramValid': WHATEVER THE INPUT: true; the input reads as it did. -/
def fnExactProgramValidSpec : ChangeSpec := { name := "fnExactProgramValid", fn := fun _ => fun
  | [d] => { results := [.lit (.bool true)], args := [d] }
  | _ => none }
def fnExactProgramValidRow : OpenClaim := { program := "ytpmfngnhfgnkmaa", sum := "4f99821c2bf243b4a7fa7678f6a35b1fe1043b8ad9e7ac8c4196f9aeb3b4ba14", func := "loop.example/borrowcheck/laws.FnExactProgramValid", spec := "fnExactProgramValid", unfollowed := true, recurses := true, loops := true, apart := false }
def FnExactProgramValidSaid : Prop := fnExactProgramValidRow.holds Try.pinned (OpenSpec.ofChange fnExactProgramValidSpec)

/-- ITS FALSE NEIGHBOUR: 'it returns false'. Refute it at one input. -/
def fnExactProgramValidWrong : ChangeSpec := { name := "fnExactProgramValid", fn := fun _ => fun
  | [d] => { results := [.lit (.bool false)], args := [d] }
  | _ => none }
def FnExactProgramValidWrongFalsely : Prop := fnExactProgramValidRow.holds Try.pinned (OpenSpec.ofChange fnExactProgramValidWrong)

/-- 'laws.FnExactCountStmts': WHATEVER THE INPUT: true; the input reads as it did. -/
def fnExactCountStmtsSpec : ChangeSpec := { name := "fnExactCountStmts", fn := fun _ => fun
  | [d] => { results := [.lit (.bool true)], args := [d] }
  | _ => none }
def fnExactCountStmtsRow : OpenClaim := { program := "ytpmfngnhfgnkmaa", sum := "4f99821c2bf243b4a7fa7678f6a35b1fe1043b8ad9e7ac8c4196f9aeb3b4ba14", func := "loop.example/borrowcheck/laws.FnExactCountStmts", spec := "fnExactCountStmts", unfollowed := true, recurses := true, loops := true, apart := false }
def FnExactCountStmtsSaid : Prop := fnExactCountStmtsRow.holds Try.pinned (OpenSpec.ofChange fnExactCountStmtsSpec)

/-- ITS FALSE NEIGHBOUR: 'it returns false'. Refute it at one input. -/
def fnExactCountStmtsWrong : ChangeSpec := { name := "fnExactCountStmts", fn := fun _ => fun
  | [d] => { results := [.lit (.bool false)], args := [d] }
  | _ => none }
def FnExactCountStmtsWrongFalsely : Prop := fnExactCountStmtsRow.holds Try.pinned (OpenSpec.ofChange fnExactCountStmtsWrong)

/-- 'laws.FnExactCountChoices': WHATEVER THE INPUT: true; the input reads as it did. -/
def fnExactCountChoicesSpec : ChangeSpec := { name := "fnExactCountChoices", fn := fun _ => fun
  | [d] => { results := [.lit (.bool true)], args := [d] }
  | _ => none }
def fnExactCountChoicesRow : OpenClaim := { program := "ytpmfngnhfgnkmaa", sum := "4f99821c2bf243b4a7fa7678f6a35b1fe1043b8ad9e7ac8c4196f9aeb3b4ba14", func := "loop.example/borrowcheck/laws.FnExactCountChoices", spec := "fnExactCountChoices", unfollowed := true, recurses := true, loops := true, apart := false }
def FnExactCountChoicesSaid : Prop := fnExactCountChoicesRow.holds Try.pinned (OpenSpec.ofChange fnExactCountChoicesSpec)

/-- ITS FALSE NEIGHBOUR: 'it returns false'. Refute it at one input. -/
def fnExactCountChoicesWrong : ChangeSpec := { name := "fnExactCountChoices", fn := fun _ => fun
  | [d] => { results := [.lit (.bool false)], args := [d] }
  | _ => none }
def FnExactCountChoicesWrongFalsely : Prop := fnExactCountChoicesRow.holds Try.pinned (OpenSpec.ofChange fnExactCountChoicesWrong)

/-- 'laws.FnExactSplitProgram': WHATEVER THE INPUT: true; the input reads as it did. -/
def fnExactSplitProgramSpec : ChangeSpec := { name := "fnExactSplitProgram", fn := fun _ => fun
  | [d1, d2] => { results := [.lit (.bool true)], args := [d1, d2] }
  | _ => none }
def fnExactSplitProgramRow : OpenClaim := { program := "ytpmfngnhfgnkmaa", sum := "4f99821c2bf243b4a7fa7678f6a35b1fe1043b8ad9e7ac8c4196f9aeb3b4ba14", func := "loop.example/borrowcheck/laws.FnExactSplitProgram", spec := "fnExactSplitProgram", unfollowed := true, recurses := true, loops := true, apart := false }
def FnExactSplitProgramSaid : Prop := fnExactSplitProgramRow.holds Try.pinned (OpenSpec.ofChange fnExactSplitProgramSpec)

/-- ITS FALSE NEIGHBOUR: 'it returns false'. Refute it at one input. -/
def fnExactSplitProgramWrong : ChangeSpec := { name := "fnExactSplitProgram", fn := fun _ => fun
  | [d1, d2] => { results := [.lit (.bool false)], args := [d1, d2] }
  | _ => none }
def FnExactSplitProgramWrongFalsely : Prop := fnExactSplitProgramRow.holds Try.pinned (OpenSpec.ofChange fnExactSplitProgramWrong)

/-- 'laws.FnExactUnrollLoop': WHATEVER THE INPUT: true; the input reads as it did. -/
def fnExactUnrollLoopSpec : ChangeSpec := { name := "fnExactUnrollLoop", fn := fun _ => fun
  | [d1, d2] => { results := [.lit (.bool true)], args := [d1, d2] }
  | _ => none }
def fnExactUnrollLoopRow : OpenClaim := { program := "ytpmfngnhfgnkmaa", sum := "4f99821c2bf243b4a7fa7678f6a35b1fe1043b8ad9e7ac8c4196f9aeb3b4ba14", func := "loop.example/borrowcheck/laws.FnExactUnrollLoop", spec := "fnExactUnrollLoop", unfollowed := true, recurses := true, loops := true, apart := false }
def FnExactUnrollLoopSaid : Prop := fnExactUnrollLoopRow.holds Try.pinned (OpenSpec.ofChange fnExactUnrollLoopSpec)

/-- ITS FALSE NEIGHBOUR: 'it returns false'. Refute it at one input. -/
def fnExactUnrollLoopWrong : ChangeSpec := { name := "fnExactUnrollLoop", fn := fun _ => fun
  | [d1, d2] => { results := [.lit (.bool false)], args := [d1, d2] }
  | _ => none }
def FnExactUnrollLoopWrongFalsely : Prop := fnExactUnrollLoopRow.holds Try.pinned (OpenSpec.ofChange fnExactUnrollLoopWrong)

/-- 'laws.FnExactForwardLoad': WHATEVER THE INPUT: true; the input reads as it did. -/
def fnExactForwardLoadSpec : ChangeSpec := { name := "fnExactForwardLoad", fn := fun _ => fun
  | [d1, d2] => { results := [.lit (.bool true)], args := [d1, d2] }
  | _ => none }
def fnExactForwardLoadRow : OpenClaim := { program := "ytpmfngnhfgnkmaa", sum := "4f99821c2bf243b4a7fa7678f6a35b1fe1043b8ad9e7ac8c4196f9aeb3b4ba14", func := "loop.example/borrowcheck/laws.FnExactForwardLoad", spec := "fnExactForwardLoad", unfollowed := true, recurses := true, loops := true, apart := false }
def FnExactForwardLoadSaid : Prop := fnExactForwardLoadRow.holds Try.pinned (OpenSpec.ofChange fnExactForwardLoadSpec)

/-- ITS FALSE NEIGHBOUR: 'it returns false'. Refute it at one input. -/
def fnExactForwardLoadWrong : ChangeSpec := { name := "fnExactForwardLoad", fn := fun _ => fun
  | [d1, d2] => { results := [.lit (.bool false)], args := [d1, d2] }
  | _ => none }
def FnExactForwardLoadWrongFalsely : Prop := fnExactForwardLoadRow.holds Try.pinned (OpenSpec.ofChange fnExactForwardLoadWrong)

/- THE SECOND FORM. 'bulk': how many values and letters a reading holds, each counted each time it is reached (what is shared counts as often as it is met; a slice's spare places count too). A statement '..UptoSaid' is the law's where the arguments, and the package variables that the reading takes, are together of bulk at most 1048576: NARROWER than '..Said'. Prove '..Said' where nothing that the law and all that it calls make is longer than what came in: it says more and counts as full. Else prove '..UptoSaid'. A law counts once. -/
mutual
def uptoBulk {H : Type} : DataW H → Nat
  | .lit (.string bytes) => bytes.length + 1
  | .lit _ => 1
  | .nil => 1
  | .ptr d => uptoBulk d + 1
  | .slice elems spare => uptoBulkAll elems + uptoBulkAll spare + 1
  | .agg parts => uptoBulkAll parts + 1
  | .iface _ d => uptoBulk d + 1
  | .map entries => uptoBulkEntries entries + 1
  | .held _ => 1
def uptoBulkAll {H : Type} : List (DataW H) → Nat
  | [] => 0
  | d :: r => uptoBulk d + uptoBulkAll r
def uptoBulkEntries {H : Type} : List (Lit × DataW H) → Nat
  | [] => 0
  | x :: r => uptoBulkEntry x + uptoBulkEntries r
def uptoBulkEntry {H : Type} : Lit × DataW H → Nat
  | (.string bytes, d) => bytes.length + uptoBulk d + 1
  | (_, d) => uptoBulk d + 1
 end
def uptoSmall : (H : Type) → List (DataW H) → Bool := fun _ ds => decide (uptoBulkAll ds ≤ 1048576)
def OpenSpec.upto (s : _root_.Go.ChangeSpec) : _root_.Go.OpenSpec := { _root_.Go.OpenSpec.ofChange s with cond := some uptoSmall }

/-- 'laws.FnExactVarsApart', WHERE WHAT IT READS IS OF BULK AT MOST 1048576: true; the input reads as it did. -/
def fnExactVarsApartUptoRow : OpenClaim := { program := "ytpmfngnhfgnkmaa", sum := "4f99821c2bf243b4a7fa7678f6a35b1fe1043b8ad9e7ac8c4196f9aeb3b4ba14", func := "loop.example/borrowcheck/laws.FnExactVarsApart", spec := "fnExactVarsApart", unfollowed := true, recurses := true, loops := true, apart := false, narrowed := true }
def FnExactVarsApartUptoSaid : Prop := fnExactVarsApartUptoRow.holds Try.pinned (OpenSpec.upto fnExactVarsApartSpec)

/-- 'laws.FnExactVarsOf', WHERE WHAT IT READS IS OF BULK AT MOST 1048576: true; the input reads as it did. -/
def fnExactVarsOfUptoRow : OpenClaim := { program := "ytpmfngnhfgnkmaa", sum := "4f99821c2bf243b4a7fa7678f6a35b1fe1043b8ad9e7ac8c4196f9aeb3b4ba14", func := "loop.example/borrowcheck/laws.FnExactVarsOf", spec := "fnExactVarsOf", unfollowed := true, recurses := true, loops := true, apart := false, narrowed := true }
def FnExactVarsOfUptoSaid : Prop := fnExactVarsOfUptoRow.holds Try.pinned (OpenSpec.upto fnExactVarsOfSpec)

/-- 'laws.FnExactProgramSame', WHERE WHAT IT READS IS OF BULK AT MOST 1048576: true; the input reads as it did. -/
def fnExactProgramSameUptoRow : OpenClaim := { program := "ytpmfngnhfgnkmaa", sum := "4f99821c2bf243b4a7fa7678f6a35b1fe1043b8ad9e7ac8c4196f9aeb3b4ba14", func := "loop.example/borrowcheck/laws.FnExactProgramSame", spec := "fnExactProgramSame", unfollowed := true, recurses := true, loops := true, apart := false, narrowed := true }
def FnExactProgramSameUptoSaid : Prop := fnExactProgramSameUptoRow.holds Try.pinned (OpenSpec.upto fnExactProgramSameSpec)

/-- 'laws.FnExactSmallProgram', WHERE WHAT IT READS IS OF BULK AT MOST 1048576: true; the input reads as it did. -/
def fnExactSmallProgramUptoRow : OpenClaim := { program := "ytpmfngnhfgnkmaa", sum := "4f99821c2bf243b4a7fa7678f6a35b1fe1043b8ad9e7ac8c4196f9aeb3b4ba14", func := "loop.example/borrowcheck/laws.FnExactSmallProgram", spec := "fnExactSmallProgram", recurses := true, apart := false, narrowed := true }
def FnExactSmallProgramUptoSaid : Prop := fnExactSmallProgramUptoRow.holds Try.pinned (OpenSpec.upto fnExactSmallProgramSpec)

/-- 'laws.FnExactStmtValid', WHERE WHAT IT READS IS OF BULK AT MOST 1048576: true; the input reads as it did. -/
def fnExactStmtValidUptoRow : OpenClaim := { program := "ytpmfngnhfgnkmaa", sum := "4f99821c2bf243b4a7fa7678f6a35b1fe1043b8ad9e7ac8c4196f9aeb3b4ba14", func := "loop.example/borrowcheck/laws.FnExactStmtValid", spec := "fnExactStmtValid", unfollowed := true, recurses := true, loops := true, apart := false, narrowed := true }
def FnExactStmtValidUptoSaid : Prop := fnExactStmtValidUptoRow.holds Try.pinned (OpenSpec.upto fnExactStmtValidSpec)

/-- 'laws.FnExactNumberOfSmall', WHERE WHAT IT READS IS OF BULK AT MOST 1048576: true; the input reads as it did. -/
def fnExactNumberOfSmallUptoRow : OpenClaim := { program := "ytpmfngnhfgnkmaa", sum := "4f99821c2bf243b4a7fa7678f6a35b1fe1043b8ad9e7ac8c4196f9aeb3b4ba14", func := "loop.example/borrowcheck/laws.FnExactNumberOfSmall", spec := "fnExactNumberOfSmall", unfollowed := true, recurses := true, loops := true, apart := false, narrowed := true }
def FnExactNumberOfSmallUptoSaid : Prop := fnExactNumberOfSmallUptoRow.holds Try.pinned (OpenSpec.upto fnExactNumberOfSmallSpec)

/-- 'laws.FnExactProgramValid', WHERE WHAT IT READS IS OF BULK AT MOST 1048576: true; the input reads as it did. -/
def fnExactProgramValidUptoRow : OpenClaim := { program := "ytpmfngnhfgnkmaa", sum := "4f99821c2bf243b4a7fa7678f6a35b1fe1043b8ad9e7ac8c4196f9aeb3b4ba14", func := "loop.example/borrowcheck/laws.FnExactProgramValid", spec := "fnExactProgramValid", unfollowed := true, recurses := true, loops := true, apart := false, narrowed := true }
def FnExactProgramValidUptoSaid : Prop := fnExactProgramValidUptoRow.holds Try.pinned (OpenSpec.upto fnExactProgramValidSpec)

/-- 'laws.FnExactCountStmts', WHERE WHAT IT READS IS OF BULK AT MOST 1048576: true; the input reads as it did. -/
def fnExactCountStmtsUptoRow : OpenClaim := { program := "ytpmfngnhfgnkmaa", sum := "4f99821c2bf243b4a7fa7678f6a35b1fe1043b8ad9e7ac8c4196f9aeb3b4ba14", func := "loop.example/borrowcheck/laws.FnExactCountStmts", spec := "fnExactCountStmts", unfollowed := true, recurses := true, loops := true, apart := false, narrowed := true }
def FnExactCountStmtsUptoSaid : Prop := fnExactCountStmtsUptoRow.holds Try.pinned (OpenSpec.upto fnExactCountStmtsSpec)

/-- 'laws.FnExactCountChoices', WHERE WHAT IT READS IS OF BULK AT MOST 1048576: true; the input reads as it did. -/
def fnExactCountChoicesUptoRow : OpenClaim := { program := "ytpmfngnhfgnkmaa", sum := "4f99821c2bf243b4a7fa7678f6a35b1fe1043b8ad9e7ac8c4196f9aeb3b4ba14", func := "loop.example/borrowcheck/laws.FnExactCountChoices", spec := "fnExactCountChoices", unfollowed := true, recurses := true, loops := true, apart := false, narrowed := true }
def FnExactCountChoicesUptoSaid : Prop := fnExactCountChoicesUptoRow.holds Try.pinned (OpenSpec.upto fnExactCountChoicesSpec)

/-- 'laws.FnExactSplitProgram', WHERE WHAT IT READS IS OF BULK AT MOST 1048576: true; the input reads as it did. -/
def fnExactSplitProgramUptoRow : OpenClaim := { program := "ytpmfngnhfgnkmaa", sum := "4f99821c2bf243b4a7fa7678f6a35b1fe1043b8ad9e7ac8c4196f9aeb3b4ba14", func := "loop.example/borrowcheck/laws.FnExactSplitProgram", spec := "fnExactSplitProgram", unfollowed := true, recurses := true, loops := true, apart := false, narrowed := true }
def FnExactSplitProgramUptoSaid : Prop := fnExactSplitProgramUptoRow.holds Try.pinned (OpenSpec.upto fnExactSplitProgramSpec)

/-- 'laws.FnExactUnrollLoop', WHERE WHAT IT READS IS OF BULK AT MOST 1048576: true; the input reads as it did. -/
def fnExactUnrollLoopUptoRow : OpenClaim := { program := "ytpmfngnhfgnkmaa", sum := "4f99821c2bf243b4a7fa7678f6a35b1fe1043b8ad9e7ac8c4196f9aeb3b4ba14", func := "loop.example/borrowcheck/laws.FnExactUnrollLoop", spec := "fnExactUnrollLoop", unfollowed := true, recurses := true, loops := true, apart := false, narrowed := true }
def FnExactUnrollLoopUptoSaid : Prop := fnExactUnrollLoopUptoRow.holds Try.pinned (OpenSpec.upto fnExactUnrollLoopSpec)

/-- 'laws.FnExactForwardLoad', WHERE WHAT IT READS IS OF BULK AT MOST 1048576: true; the input reads as it did. -/
def fnExactForwardLoadUptoRow : OpenClaim := { program := "ytpmfngnhfgnkmaa", sum := "4f99821c2bf243b4a7fa7678f6a35b1fe1043b8ad9e7ac8c4196f9aeb3b4ba14", func := "loop.example/borrowcheck/laws.FnExactForwardLoad", spec := "fnExactForwardLoad", unfollowed := true, recurses := true, loops := true, apart := false, narrowed := true }
def FnExactForwardLoadUptoSaid : Prop := fnExactForwardLoadUptoRow.holds Try.pinned (OpenSpec.upto fnExactForwardLoadSpec)

end Rows
end Go.Proofs.Ytpmfngnhfgnkmaa
