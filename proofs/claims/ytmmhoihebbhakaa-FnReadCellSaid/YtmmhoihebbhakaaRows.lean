/-
  No cell of these rows narrows 'for every input' (looked for: loops, veiled, ifaces, maps, wideKeys, modest, calm, conditions, laid).
  DERIVED. THE GIVEN ROWS OF THIS SEAT. 11 by the template 'for every input the law returns true; each argument reads behind the call as it read before'; 0 by the template 'total and deterministic' (their statements: YtmmhoihebbhakaaTotals.lean).
  GIVEN WITH THE SEED: the statements are not yours to turn. If you find one false, say at which input.
  Laid BY PROGRAM, IN A SANDBOX (cutbox-rows.mjs): the forced cells as the released guide's own fill.sh prints them over the translation 998b60c6ff80e546… (all of the seat's roots in one cut). By AI agents, Wed Nov 11 2026. No macro, syntax, notation, axiom, sorry.
-/
import Derived.Test.YtmmhoihebbhakaaChecked
import GoSem.Claim
import GoSem.ClaimJoined
import GoSem.ClaimMapViews
import Derived.JoinedTies
import Derived.KernelRfl
namespace Go.Proofs.Ytmmhoihebbhakaa
/- THE CELL 'sum', in the pinned program and in every row, IS THE sha256 OF THE DUMP (.gsa) THAT YtmmhoihebbhakaaProg.lean LOADS. Nothing in Lean hashes anything: it is a label: what it is worth is what the hold of that sum in a sandbox is worth. -/
noncomputable def Try.pinned : Pinned := { name := "ytmmhoihebbhakaa", sum := "998b60c6ff80e546dd5cd84517cab71ea9fcf0e0f13df8c668be07575884664f", checked := Try.checked }
namespace Rows
def none {H : Type} : Left H := { results := [], args := [] }

/-- 'laws.FnReadCell': WHATEVER THE INPUT: true; the input reads as it did. -/
def fnReadCellSpec : ChangeSpec := { name := "fnReadCell", fn := fun _ => fun
  | [d] => { results := [.lit (.bool true)], args := [d] }
  | _ => none }
def fnReadCellRow : OpenClaim := { program := "ytmmhoihebbhakaa", sum := "998b60c6ff80e546dd5cd84517cab71ea9fcf0e0f13df8c668be07575884664f", func := "loop.example/borrowcheck/laws.FnReadCell", spec := "fnReadCell", unfollowed := true, recurses := true, apart := false }
def FnReadCellSaid : Prop := fnReadCellRow.holds Try.pinned (OpenSpec.ofChange fnReadCellSpec)

/-- ITS FALSE NEIGHBOUR: 'it returns false'. Refute it at one input. -/
def fnReadCellWrong : ChangeSpec := { name := "fnReadCell", fn := fun _ => fun
  | [d] => { results := [.lit (.bool false)], args := [d] }
  | _ => none }
def FnReadCellWrongFalsely : Prop := fnReadCellRow.holds Try.pinned (OpenSpec.ofChange fnReadCellWrong)

/-- 'laws.FnBorrowTwice': WHATEVER THE INPUT: true; the input reads as it did. -/
def fnBorrowTwiceSpec : ChangeSpec := { name := "fnBorrowTwice", fn := fun _ => fun
  | [d] => { results := [.lit (.bool true)], args := [d] }
  | _ => none }
def fnBorrowTwiceRow : OpenClaim := { program := "ytmmhoihebbhakaa", sum := "998b60c6ff80e546dd5cd84517cab71ea9fcf0e0f13df8c668be07575884664f", func := "loop.example/borrowcheck/laws.FnBorrowTwice", spec := "fnBorrowTwice", unfollowed := true, recurses := true, apart := false }
def FnBorrowTwiceSaid : Prop := fnBorrowTwiceRow.holds Try.pinned (OpenSpec.ofChange fnBorrowTwiceSpec)

/-- ITS FALSE NEIGHBOUR: 'it returns false'. Refute it at one input. -/
def fnBorrowTwiceWrong : ChangeSpec := { name := "fnBorrowTwice", fn := fun _ => fun
  | [d] => { results := [.lit (.bool false)], args := [d] }
  | _ => none }
def FnBorrowTwiceWrongFalsely : Prop := fnBorrowTwiceRow.holds Try.pinned (OpenSpec.ofChange fnBorrowTwiceWrong)

/-- 'laws.FnReadTwice': WHATEVER THE INPUT: true; the input reads as it did. -/
def fnReadTwiceSpec : ChangeSpec := { name := "fnReadTwice", fn := fun _ => fun
  | [d] => { results := [.lit (.bool true)], args := [d] }
  | _ => none }
def fnReadTwiceRow : OpenClaim := { program := "ytmmhoihebbhakaa", sum := "998b60c6ff80e546dd5cd84517cab71ea9fcf0e0f13df8c668be07575884664f", func := "loop.example/borrowcheck/laws.FnReadTwice", spec := "fnReadTwice", unfollowed := true, recurses := true, apart := false }
def FnReadTwiceSaid : Prop := fnReadTwiceRow.holds Try.pinned (OpenSpec.ofChange fnReadTwiceSpec)

/-- ITS FALSE NEIGHBOUR: 'it returns false'. Refute it at one input. -/
def fnReadTwiceWrong : ChangeSpec := { name := "fnReadTwice", fn := fun _ => fun
  | [d] => { results := [.lit (.bool false)], args := [d] }
  | _ => none }
def FnReadTwiceWrongFalsely : Prop := fnReadTwiceRow.holds Try.pinned (OpenSpec.ofChange fnReadTwiceWrong)

/-- 'laws.FnOwnerStays': WHATEVER THE INPUT: true; the input reads as it did. -/
def fnOwnerStaysSpec : ChangeSpec := { name := "fnOwnerStays", fn := fun _ => fun
  | [d] => { results := [.lit (.bool true)], args := [d] }
  | _ => none }
def fnOwnerStaysRow : OpenClaim := { program := "ytmmhoihebbhakaa", sum := "998b60c6ff80e546dd5cd84517cab71ea9fcf0e0f13df8c668be07575884664f", func := "loop.example/borrowcheck/laws.FnOwnerStays", spec := "fnOwnerStays", unfollowed := true, recurses := true, apart := false }
def FnOwnerStaysSaid : Prop := fnOwnerStaysRow.holds Try.pinned (OpenSpec.ofChange fnOwnerStaysSpec)

/-- ITS FALSE NEIGHBOUR: 'it returns false'. Refute it at one input. -/
def fnOwnerStaysWrong : ChangeSpec := { name := "fnOwnerStays", fn := fun _ => fun
  | [d] => { results := [.lit (.bool false)], args := [d] }
  | _ => none }
def FnOwnerStaysWrongFalsely : Prop := fnOwnerStaysRow.holds Try.pinned (OpenSpec.ofChange fnOwnerStaysWrong)

/-- 'laws.FnTagsGrow': WHATEVER THE INPUT: true; the input reads as it did. -/
def fnTagsGrowSpec : ChangeSpec := { name := "fnTagsGrow", fn := fun _ => fun
  | [d] => { results := [.lit (.bool true)], args := [d] }
  | _ => none }
def fnTagsGrowRow : OpenClaim := { program := "ytmmhoihebbhakaa", sum := "998b60c6ff80e546dd5cd84517cab71ea9fcf0e0f13df8c668be07575884664f", func := "loop.example/borrowcheck/laws.FnTagsGrow", spec := "fnTagsGrow", unfollowed := true, recurses := true, apart := false }
def FnTagsGrowSaid : Prop := fnTagsGrowRow.holds Try.pinned (OpenSpec.ofChange fnTagsGrowSpec)

/-- ITS FALSE NEIGHBOUR: 'it returns false'. Refute it at one input. -/
def fnTagsGrowWrong : ChangeSpec := { name := "fnTagsGrow", fn := fun _ => fun
  | [d] => { results := [.lit (.bool false)], args := [d] }
  | _ => none }
def FnTagsGrowWrongFalsely : Prop := fnTagsGrowRow.holds Try.pinned (OpenSpec.ofChange fnTagsGrowWrong)

/-- 'laws.FnFreeCell': WHATEVER THE INPUT: true; the input reads as it did. -/
def fnFreeCellSpec : ChangeSpec := { name := "fnFreeCell", fn := fun _ => fun
  | [d] => { results := [.lit (.bool true)], args := [d] }
  | _ => none }
def fnFreeCellRow : OpenClaim := { program := "ytmmhoihebbhakaa", sum := "998b60c6ff80e546dd5cd84517cab71ea9fcf0e0f13df8c668be07575884664f", func := "loop.example/borrowcheck/laws.FnFreeCell", spec := "fnFreeCell", unfollowed := true, recurses := true, apart := false }
def FnFreeCellSaid : Prop := fnFreeCellRow.holds Try.pinned (OpenSpec.ofChange fnFreeCellSpec)

/-- ITS FALSE NEIGHBOUR: 'it returns false'. Refute it at one input. -/
def fnFreeCellWrong : ChangeSpec := { name := "fnFreeCell", fn := fun _ => fun
  | [d] => { results := [.lit (.bool false)], args := [d] }
  | _ => none }
def FnFreeCellWrongFalsely : Prop := fnFreeCellRow.holds Try.pinned (OpenSpec.ofChange fnFreeCellWrong)

/-- 'laws.FnOtherCells': WHATEVER THE INPUT: true; the input reads as it did. -/
def fnOtherCellsSpec : ChangeSpec := { name := "fnOtherCells", fn := fun _ => fun
  | [d] => { results := [.lit (.bool true)], args := [d] }
  | _ => none }
def fnOtherCellsRow : OpenClaim := { program := "ytmmhoihebbhakaa", sum := "998b60c6ff80e546dd5cd84517cab71ea9fcf0e0f13df8c668be07575884664f", func := "loop.example/borrowcheck/laws.FnOtherCells", spec := "fnOtherCells", unfollowed := true, recurses := true, apart := false }
def FnOtherCellsSaid : Prop := fnOtherCellsRow.holds Try.pinned (OpenSpec.ofChange fnOtherCellsSpec)

/-- ITS FALSE NEIGHBOUR: 'it returns false'. Refute it at one input. -/
def fnOtherCellsWrong : ChangeSpec := { name := "fnOtherCells", fn := fun _ => fun
  | [d] => { results := [.lit (.bool false)], args := [d] }
  | _ => none }
def FnOtherCellsWrongFalsely : Prop := fnOtherCellsRow.holds Try.pinned (OpenSpec.ofChange fnOtherCellsWrong)

/-- 'laws.FnWriteCell': WHATEVER THE INPUT: true; the input reads as it did. -/
def fnWriteCellSpec : ChangeSpec := { name := "fnWriteCell", fn := fun _ => fun
  | [d] => { results := [.lit (.bool true)], args := [d] }
  | _ => none }
def fnWriteCellRow : OpenClaim := { program := "ytmmhoihebbhakaa", sum := "998b60c6ff80e546dd5cd84517cab71ea9fcf0e0f13df8c668be07575884664f", func := "loop.example/borrowcheck/laws.FnWriteCell", spec := "fnWriteCell", unfollowed := true, recurses := true, apart := false }
def FnWriteCellSaid : Prop := fnWriteCellRow.holds Try.pinned (OpenSpec.ofChange fnWriteCellSpec)

/-- ITS FALSE NEIGHBOUR: 'it returns false'. Refute it at one input. -/
def fnWriteCellWrong : ChangeSpec := { name := "fnWriteCell", fn := fun _ => fun
  | [d] => { results := [.lit (.bool false)], args := [d] }
  | _ => none }
def FnWriteCellWrongFalsely : Prop := fnWriteCellRow.holds Try.pinned (OpenSpec.ofChange fnWriteCellWrong)

/-- 'laws.FnBorrowCell': WHATEVER THE INPUT: true; the input reads as it did. -/
def fnBorrowCellSpec : ChangeSpec := { name := "fnBorrowCell", fn := fun _ => fun
  | [d] => { results := [.lit (.bool true)], args := [d] }
  | _ => none }
def fnBorrowCellRow : OpenClaim := { program := "ytmmhoihebbhakaa", sum := "998b60c6ff80e546dd5cd84517cab71ea9fcf0e0f13df8c668be07575884664f", func := "loop.example/borrowcheck/laws.FnBorrowCell", spec := "fnBorrowCell", unfollowed := true, recurses := true, apart := false }
def FnBorrowCellSaid : Prop := fnBorrowCellRow.holds Try.pinned (OpenSpec.ofChange fnBorrowCellSpec)

/-- ITS FALSE NEIGHBOUR: 'it returns false'. Refute it at one input. -/
def fnBorrowCellWrong : ChangeSpec := { name := "fnBorrowCell", fn := fun _ => fun
  | [d] => { results := [.lit (.bool false)], args := [d] }
  | _ => none }
def FnBorrowCellWrongFalsely : Prop := fnBorrowCellRow.holds Try.pinned (OpenSpec.ofChange fnBorrowCellWrong)

/-- 'laws.FnNewCell': WHATEVER THE INPUT: true; the input reads as it did. -/
def fnNewCellSpec : ChangeSpec := { name := "fnNewCell", fn := fun _ => fun
  | [d] => { results := [.lit (.bool true)], args := [d] }
  | _ => none }
def fnNewCellRow : OpenClaim := { program := "ytmmhoihebbhakaa", sum := "998b60c6ff80e546dd5cd84517cab71ea9fcf0e0f13df8c668be07575884664f", func := "loop.example/borrowcheck/laws.FnNewCell", spec := "fnNewCell", unfollowed := true, recurses := true, apart := false }
def FnNewCellSaid : Prop := fnNewCellRow.holds Try.pinned (OpenSpec.ofChange fnNewCellSpec)

/-- ITS FALSE NEIGHBOUR: 'it returns false'. Refute it at one input. -/
def fnNewCellWrong : ChangeSpec := { name := "fnNewCell", fn := fun _ => fun
  | [d] => { results := [.lit (.bool false)], args := [d] }
  | _ => none }
def FnNewCellWrongFalsely : Prop := fnNewCellRow.holds Try.pinned (OpenSpec.ofChange fnNewCellWrong)

/-- 'laws.FnShareCell': WHATEVER THE INPUT: true; the input reads as it did. -/
def fnShareCellSpec : ChangeSpec := { name := "fnShareCell", fn := fun _ => fun
  | [d] => { results := [.lit (.bool true)], args := [d] }
  | _ => none }
def fnShareCellRow : OpenClaim := { program := "ytmmhoihebbhakaa", sum := "998b60c6ff80e546dd5cd84517cab71ea9fcf0e0f13df8c668be07575884664f", func := "loop.example/borrowcheck/laws.FnShareCell", spec := "fnShareCell", unfollowed := true, recurses := true, apart := false }
def FnShareCellSaid : Prop := fnShareCellRow.holds Try.pinned (OpenSpec.ofChange fnShareCellSpec)

/-- ITS FALSE NEIGHBOUR: 'it returns false'. Refute it at one input. -/
def fnShareCellWrong : ChangeSpec := { name := "fnShareCell", fn := fun _ => fun
  | [d] => { results := [.lit (.bool false)], args := [d] }
  | _ => none }
def FnShareCellWrongFalsely : Prop := fnShareCellRow.holds Try.pinned (OpenSpec.ofChange fnShareCellWrong)

/- THE SECOND FORM. 'bulk': how many values and letters a reading holds, each counted each time it is reached (what is shared counts as often as it is met; a slice's spare places count too). A statement '..UptoSaid' is the law's where the arguments, and the package variables that the reading takes, are together of bulk at most 1048576: NARROWER than '..Said'. Prove '..Said' where nothing that the law and all that it calls make is longer than what came in: it says more and counts as full. Else prove '..UptoSaid'. A law counts once. -/
mutual
def uptoBulk {H : Type} : DataW H → Nat
  | .lit (.string bytes) => bytes.length + 1
  | .lit _ => 1
  | .nil => 1
  | .ptr d => uptoBulk d + 1
  | .slice elems spare => uptoBulkAll elems + uptoBulkAll spare + 1
  | .agg parts => uptoBulkAll parts + 1
  | .iface _ d => uptoBulk d + 1
  | .map entries => uptoBulkEntries entries + 1
  | .held _ => 1
def uptoBulkAll {H : Type} : List (DataW H) → Nat
  | [] => 0
  | d :: r => uptoBulk d + uptoBulkAll r
def uptoBulkEntries {H : Type} : List (Lit × DataW H) → Nat
  | [] => 0
  | x :: r => uptoBulkEntry x + uptoBulkEntries r
def uptoBulkEntry {H : Type} : Lit × DataW H → Nat
  | (.string bytes, d) => bytes.length + uptoBulk d + 1
  | (_, d) => uptoBulk d + 1
 end
def uptoSmall : (H : Type) → List (DataW H) → Bool := fun _ ds => decide (uptoBulkAll ds ≤ 1048576)
def OpenSpec.upto (s : _root_.Go.ChangeSpec) : _root_.Go.OpenSpec := { _root_.Go.OpenSpec.ofChange s with cond := some uptoSmall }

/-- 'laws.FnReadCell', WHERE WHAT IT READS IS OF BULK AT MOST 1048576: true; the input reads as it did. -/
def fnReadCellUptoRow : OpenClaim := { program := "ytmmhoihebbhakaa", sum := "998b60c6ff80e546dd5cd84517cab71ea9fcf0e0f13df8c668be07575884664f", func := "loop.example/borrowcheck/laws.FnReadCell", spec := "fnReadCell", unfollowed := true, recurses := true, apart := false, narrowed := true }
def FnReadCellUptoSaid : Prop := fnReadCellUptoRow.holds Try.pinned (OpenSpec.upto fnReadCellSpec)

/-- 'laws.FnBorrowTwice', WHERE WHAT IT READS IS OF BULK AT MOST 1048576: true; the input reads as it did. -/
def fnBorrowTwiceUptoRow : OpenClaim := { program := "ytmmhoihebbhakaa", sum := "998b60c6ff80e546dd5cd84517cab71ea9fcf0e0f13df8c668be07575884664f", func := "loop.example/borrowcheck/laws.FnBorrowTwice", spec := "fnBorrowTwice", unfollowed := true, recurses := true, apart := false, narrowed := true }
def FnBorrowTwiceUptoSaid : Prop := fnBorrowTwiceUptoRow.holds Try.pinned (OpenSpec.upto fnBorrowTwiceSpec)

/-- 'laws.FnReadTwice', WHERE WHAT IT READS IS OF BULK AT MOST 1048576: true; the input reads as it did. -/
def fnReadTwiceUptoRow : OpenClaim := { program := "ytmmhoihebbhakaa", sum := "998b60c6ff80e546dd5cd84517cab71ea9fcf0e0f13df8c668be07575884664f", func := "loop.example/borrowcheck/laws.FnReadTwice", spec := "fnReadTwice", unfollowed := true, recurses := true, apart := false, narrowed := true }
def FnReadTwiceUptoSaid : Prop := fnReadTwiceUptoRow.holds Try.pinned (OpenSpec.upto fnReadTwiceSpec)

/-- 'laws.FnOwnerStays', WHERE WHAT IT READS IS OF BULK AT MOST 1048576: true; the input reads as it did. -/
def fnOwnerStaysUptoRow : OpenClaim := { program := "ytmmhoihebbhakaa", sum := "998b60c6ff80e546dd5cd84517cab71ea9fcf0e0f13df8c668be07575884664f", func := "loop.example/borrowcheck/laws.FnOwnerStays", spec := "fnOwnerStays", unfollowed := true, recurses := true, apart := false, narrowed := true }
def FnOwnerStaysUptoSaid : Prop := fnOwnerStaysUptoRow.holds Try.pinned (OpenSpec.upto fnOwnerStaysSpec)

/-- 'laws.FnTagsGrow', WHERE WHAT IT READS IS OF BULK AT MOST 1048576: true; the input reads as it did. -/
def fnTagsGrowUptoRow : OpenClaim := { program := "ytmmhoihebbhakaa", sum := "998b60c6ff80e546dd5cd84517cab71ea9fcf0e0f13df8c668be07575884664f", func := "loop.example/borrowcheck/laws.FnTagsGrow", spec := "fnTagsGrow", unfollowed := true, recurses := true, apart := false, narrowed := true }
def FnTagsGrowUptoSaid : Prop := fnTagsGrowUptoRow.holds Try.pinned (OpenSpec.upto fnTagsGrowSpec)

/-- 'laws.FnFreeCell', WHERE WHAT IT READS IS OF BULK AT MOST 1048576: true; the input reads as it did. -/
def fnFreeCellUptoRow : OpenClaim := { program := "ytmmhoihebbhakaa", sum := "998b60c6ff80e546dd5cd84517cab71ea9fcf0e0f13df8c668be07575884664f", func := "loop.example/borrowcheck/laws.FnFreeCell", spec := "fnFreeCell", unfollowed := true, recurses := true, apart := false, narrowed := true }
def FnFreeCellUptoSaid : Prop := fnFreeCellUptoRow.holds Try.pinned (OpenSpec.upto fnFreeCellSpec)

/-- 'laws.FnOtherCells', WHERE WHAT IT READS IS OF BULK AT MOST 1048576: true; the input reads as it did. -/
def fnOtherCellsUptoRow : OpenClaim := { program := "ytmmhoihebbhakaa", sum := "998b60c6ff80e546dd5cd84517cab71ea9fcf0e0f13df8c668be07575884664f", func := "loop.example/borrowcheck/laws.FnOtherCells", spec := "fnOtherCells", unfollowed := true, recurses := true, apart := false, narrowed := true }
def FnOtherCellsUptoSaid : Prop := fnOtherCellsUptoRow.holds Try.pinned (OpenSpec.upto fnOtherCellsSpec)

/-- 'laws.FnWriteCell', WHERE WHAT IT READS IS OF BULK AT MOST 1048576: true; the input reads as it did. -/
def fnWriteCellUptoRow : OpenClaim := { program := "ytmmhoihebbhakaa", sum := "998b60c6ff80e546dd5cd84517cab71ea9fcf0e0f13df8c668be07575884664f", func := "loop.example/borrowcheck/laws.FnWriteCell", spec := "fnWriteCell", unfollowed := true, recurses := true, apart := false, narrowed := true }
def FnWriteCellUptoSaid : Prop := fnWriteCellUptoRow.holds Try.pinned (OpenSpec.upto fnWriteCellSpec)

/-- 'laws.FnBorrowCell', WHERE WHAT IT READS IS OF BULK AT MOST 1048576: true; the input reads as it did. -/
def fnBorrowCellUptoRow : OpenClaim := { program := "ytmmhoihebbhakaa", sum := "998b60c6ff80e546dd5cd84517cab71ea9fcf0e0f13df8c668be07575884664f", func := "loop.example/borrowcheck/laws.FnBorrowCell", spec := "fnBorrowCell", unfollowed := true, recurses := true, apart := false, narrowed := true }
def FnBorrowCellUptoSaid : Prop := fnBorrowCellUptoRow.holds Try.pinned (OpenSpec.upto fnBorrowCellSpec)

/-- 'laws.FnNewCell', WHERE WHAT IT READS IS OF BULK AT MOST 1048576: true; the input reads as it did. -/
def fnNewCellUptoRow : OpenClaim := { program := "ytmmhoihebbhakaa", sum := "998b60c6ff80e546dd5cd84517cab71ea9fcf0e0f13df8c668be07575884664f", func := "loop.example/borrowcheck/laws.FnNewCell", spec := "fnNewCell", unfollowed := true, recurses := true, apart := false, narrowed := true }
def FnNewCellUptoSaid : Prop := fnNewCellUptoRow.holds Try.pinned (OpenSpec.upto fnNewCellSpec)

/-- 'laws.FnShareCell', WHERE WHAT IT READS IS OF BULK AT MOST 1048576: true; the input reads as it did. -/
def fnShareCellUptoRow : OpenClaim := { program := "ytmmhoihebbhakaa", sum := "998b60c6ff80e546dd5cd84517cab71ea9fcf0e0f13df8c668be07575884664f", func := "loop.example/borrowcheck/laws.FnShareCell", spec := "fnShareCell", unfollowed := true, recurses := true, apart := false, narrowed := true }
def FnShareCellUptoSaid : Prop := fnShareCellUptoRow.holds Try.pinned (OpenSpec.upto fnShareCellSpec)

end Rows
end Go.Proofs.Ytmmhoihebbhakaa
