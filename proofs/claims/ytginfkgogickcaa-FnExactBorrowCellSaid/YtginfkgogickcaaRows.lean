/-
  No cell of these rows narrows 'for every input' (looked for: loops, veiled, ifaces, maps, wideKeys, modest, calm, conditions, laid).
  DERIVED. THE GIVEN ROWS OF THIS SEAT. 8 by the template 'for every input the law returns true; each argument reads behind the call as it read before'; 0 by the template 'total and deterministic' (their statements: YtginfkgogickcaaTotals.lean).
  GIVEN WITH THE SEED: the statements are not yours to turn. If you find one false, say at which input.
  Laid BY PROGRAM, IN A SANDBOX (cutbox-rows.mjs): the forced cells as the released guide's own fill.sh prints them over the translation 6b6bf3177fd9f8d5… (all of the seat's roots in one cut). By AI agents, Wed Nov 11 2026. No macro, syntax, notation, axiom, sorry.
-/
import Derived.Test.YtginfkgogickcaaChecked
import GoSem.Claim
import GoSem.ClaimJoined
import GoSem.ClaimMapViews
import Derived.JoinedTies
import Derived.KernelRfl
namespace Go.Proofs.Ytginfkgogickcaa
/- THE CELL 'sum', in the pinned program and in every row, IS THE sha256 OF THE DUMP (.gsa) THAT YtginfkgogickcaaProg.lean LOADS. Nothing in Lean hashes anything: it is a label: what it is worth is what the hold of that sum in a sandbox is worth. -/
noncomputable def Try.pinned : Pinned := { name := "ytginfkgogickcaa", sum := "6b6bf3177fd9f8d5ca64ae10f8628e86c20ba6149de3369aa228bf7e3583a846", checked := Try.checked }
namespace Rows
def none {H : Type} : Left H := { results := [], args := [] }

/-- 'laws.FnExactCellsValid': WHATEVER THE INPUT: true; the input reads as it did. -/
def fnExactCellsValidSpec : ChangeSpec := { name := "fnExactCellsValid", fn := fun _ => fun
  | [d] => { results := [.lit (.bool true)], args := [d] }
  | _ => none }
def fnExactCellsValidRow : OpenClaim := { program := "ytginfkgogickcaa", sum := "6b6bf3177fd9f8d5ca64ae10f8628e86c20ba6149de3369aa228bf7e3583a846", func := "loop.example/borrowcheck/laws.FnExactCellsValid", spec := "fnExactCellsValid", apart := false }
def FnExactCellsValidSaid : Prop := fnExactCellsValidRow.holds Try.pinned (OpenSpec.ofChange fnExactCellsValidSpec)

/-- ITS FALSE NEIGHBOUR: 'it returns false'. Refute it at one input. -/
def fnExactCellsValidWrong : ChangeSpec := { name := "fnExactCellsValid", fn := fun _ => fun
  | [d] => { results := [.lit (.bool false)], args := [d] }
  | _ => none }
def FnExactCellsValidWrongFalsely : Prop := fnExactCellsValidRow.holds Try.pinned (OpenSpec.ofChange fnExactCellsValidWrong)

/-- 'laws.FnExactAliveCells': WHATEVER THE INPUT: true; the input reads as it did. -/
def fnExactAliveCellsSpec : ChangeSpec := { name := "fnExactAliveCells", fn := fun _ => fun
  | [d] => { results := [.lit (.bool true)], args := [d] }
  | _ => none }
def fnExactAliveCellsRow : OpenClaim := { program := "ytginfkgogickcaa", sum := "6b6bf3177fd9f8d5ca64ae10f8628e86c20ba6149de3369aa228bf7e3583a846", func := "loop.example/borrowcheck/laws.FnExactAliveCells", spec := "fnExactAliveCells", apart := false }
def FnExactAliveCellsSaid : Prop := fnExactAliveCellsRow.holds Try.pinned (OpenSpec.ofChange fnExactAliveCellsSpec)

/-- ITS FALSE NEIGHBOUR: 'it returns false'. Refute it at one input. -/
def fnExactAliveCellsWrong : ChangeSpec := { name := "fnExactAliveCells", fn := fun _ => fun
  | [d] => { results := [.lit (.bool false)], args := [d] }
  | _ => none }
def FnExactAliveCellsWrongFalsely : Prop := fnExactAliveCellsRow.holds Try.pinned (OpenSpec.ofChange fnExactAliveCellsWrong)

/-- 'laws.FnExactNewCell': WHATEVER THE INPUT: true; the input reads as it did. -/
def fnExactNewCellSpec : ChangeSpec := { name := "fnExactNewCell", fn := fun _ => fun
  | [d1, d2] => { results := [.lit (.bool true)], args := [d1, d2] }
  | _ => none }
def fnExactNewCellRow : OpenClaim := { program := "ytginfkgogickcaa", sum := "6b6bf3177fd9f8d5ca64ae10f8628e86c20ba6149de3369aa228bf7e3583a846", func := "loop.example/borrowcheck/laws.FnExactNewCell", spec := "fnExactNewCell", apart := false }
def FnExactNewCellSaid : Prop := fnExactNewCellRow.holds Try.pinned (OpenSpec.ofChange fnExactNewCellSpec)

/-- ITS FALSE NEIGHBOUR: 'it returns false'. Refute it at one input. -/
def fnExactNewCellWrong : ChangeSpec := { name := "fnExactNewCell", fn := fun _ => fun
  | [d1, d2] => { results := [.lit (.bool false)], args := [d1, d2] }
  | _ => none }
def FnExactNewCellWrongFalsely : Prop := fnExactNewCellRow.holds Try.pinned (OpenSpec.ofChange fnExactNewCellWrong)

/-- 'laws.FnExactReadCell': WHATEVER THE INPUT: true; the input reads as it did. -/
def fnExactReadCellSpec : ChangeSpec := { name := "fnExactReadCell", fn := fun _ => fun
  | [d1, d2] => { results := [.lit (.bool true)], args := [d1, d2] }
  | _ => none }
def fnExactReadCellRow : OpenClaim := { program := "ytginfkgogickcaa", sum := "6b6bf3177fd9f8d5ca64ae10f8628e86c20ba6149de3369aa228bf7e3583a846", func := "loop.example/borrowcheck/laws.FnExactReadCell", spec := "fnExactReadCell", unfollowed := true, recurses := true, apart := false }
def FnExactReadCellSaid : Prop := fnExactReadCellRow.holds Try.pinned (OpenSpec.ofChange fnExactReadCellSpec)

/-- ITS FALSE NEIGHBOUR: 'it returns false'. Refute it at one input. -/
def fnExactReadCellWrong : ChangeSpec := { name := "fnExactReadCell", fn := fun _ => fun
  | [d1, d2] => { results := [.lit (.bool false)], args := [d1, d2] }
  | _ => none }
def FnExactReadCellWrongFalsely : Prop := fnExactReadCellRow.holds Try.pinned (OpenSpec.ofChange fnExactReadCellWrong)

/-- 'laws.FnExactFreeCell': WHATEVER THE INPUT: true; the input reads as it did. -/
def fnExactFreeCellSpec : ChangeSpec := { name := "fnExactFreeCell", fn := fun _ => fun
  | [d1, d2] => { results := [.lit (.bool true)], args := [d1, d2] }
  | _ => none }
def fnExactFreeCellRow : OpenClaim := { program := "ytginfkgogickcaa", sum := "6b6bf3177fd9f8d5ca64ae10f8628e86c20ba6149de3369aa228bf7e3583a846", func := "loop.example/borrowcheck/laws.FnExactFreeCell", spec := "fnExactFreeCell", unfollowed := true, recurses := true, apart := false }
def FnExactFreeCellSaid : Prop := fnExactFreeCellRow.holds Try.pinned (OpenSpec.ofChange fnExactFreeCellSpec)

/-- ITS FALSE NEIGHBOUR: 'it returns false'. Refute it at one input. -/
def fnExactFreeCellWrong : ChangeSpec := { name := "fnExactFreeCell", fn := fun _ => fun
  | [d1, d2] => { results := [.lit (.bool false)], args := [d1, d2] }
  | _ => none }
def FnExactFreeCellWrongFalsely : Prop := fnExactFreeCellRow.holds Try.pinned (OpenSpec.ofChange fnExactFreeCellWrong)

/-- 'laws.FnExactWriteCell': WHATEVER THE INPUT: true; the input reads as it did. -/
def fnExactWriteCellSpec : ChangeSpec := { name := "fnExactWriteCell", fn := fun _ => fun
  | [d1, d2, d3] => { results := [.lit (.bool true)], args := [d1, d2, d3] }
  | _ => none }
def fnExactWriteCellRow : OpenClaim := { program := "ytginfkgogickcaa", sum := "6b6bf3177fd9f8d5ca64ae10f8628e86c20ba6149de3369aa228bf7e3583a846", func := "loop.example/borrowcheck/laws.FnExactWriteCell", spec := "fnExactWriteCell", unfollowed := true, recurses := true, apart := false }
def FnExactWriteCellSaid : Prop := fnExactWriteCellRow.holds Try.pinned (OpenSpec.ofChange fnExactWriteCellSpec)

/-- ITS FALSE NEIGHBOUR: 'it returns false'. Refute it at one input. -/
def fnExactWriteCellWrong : ChangeSpec := { name := "fnExactWriteCell", fn := fun _ => fun
  | [d1, d2, d3] => { results := [.lit (.bool false)], args := [d1, d2, d3] }
  | _ => none }
def FnExactWriteCellWrongFalsely : Prop := fnExactWriteCellRow.holds Try.pinned (OpenSpec.ofChange fnExactWriteCellWrong)

/-- 'laws.FnExactBorrowCell': WHATEVER THE INPUT: true; the input reads as it did. -/
def fnExactBorrowCellSpec : ChangeSpec := { name := "fnExactBorrowCell", fn := fun _ => fun
  | [d1, d2] => { results := [.lit (.bool true)], args := [d1, d2] }
  | _ => none }
def fnExactBorrowCellRow : OpenClaim := { program := "ytginfkgogickcaa", sum := "6b6bf3177fd9f8d5ca64ae10f8628e86c20ba6149de3369aa228bf7e3583a846", func := "loop.example/borrowcheck/laws.FnExactBorrowCell", spec := "fnExactBorrowCell", unfollowed := true, recurses := true, apart := false }
def FnExactBorrowCellSaid : Prop := fnExactBorrowCellRow.holds Try.pinned (OpenSpec.ofChange fnExactBorrowCellSpec)

/-- ITS FALSE NEIGHBOUR: 'it returns false'. Refute it at one input. -/
def fnExactBorrowCellWrong : ChangeSpec := { name := "fnExactBorrowCell", fn := fun _ => fun
  | [d1, d2] => { results := [.lit (.bool false)], args := [d1, d2] }
  | _ => none }
def FnExactBorrowCellWrongFalsely : Prop := fnExactBorrowCellRow.holds Try.pinned (OpenSpec.ofChange fnExactBorrowCellWrong)

/-- 'laws.FnExactShareCell': WHATEVER THE INPUT: true; the input reads as it did. -/
def fnExactShareCellSpec : ChangeSpec := { name := "fnExactShareCell", fn := fun _ => fun
  | [d1, d2] => { results := [.lit (.bool true)], args := [d1, d2] }
  | _ => none }
def fnExactShareCellRow : OpenClaim := { program := "ytginfkgogickcaa", sum := "6b6bf3177fd9f8d5ca64ae10f8628e86c20ba6149de3369aa228bf7e3583a846", func := "loop.example/borrowcheck/laws.FnExactShareCell", spec := "fnExactShareCell", unfollowed := true, recurses := true, apart := false }
def FnExactShareCellSaid : Prop := fnExactShareCellRow.holds Try.pinned (OpenSpec.ofChange fnExactShareCellSpec)

/-- ITS FALSE NEIGHBOUR: 'it returns false'. Refute it at one input. -/
def fnExactShareCellWrong : ChangeSpec := { name := "fnExactShareCell", fn := fun _ => fun
  | [d1, d2] => { results := [.lit (.bool false)], args := [d1, d2] }
  | _ => none }
def FnExactShareCellWrongFalsely : Prop := fnExactShareCellRow.holds Try.pinned (OpenSpec.ofChange fnExactShareCellWrong)

/- THE SECOND FORM. 'bulk': how many values and letters a reading holds, each counted each time it is reached (what is shared counts as often as it is met; a slice's spare places count too). A statement '..UptoSaid' is the law's where the arguments, and the package variables that the reading takes, are together of bulk at most 1048576: NARROWER than '..Said'. Prove '..Said' where nothing that the law and all that it calls make is longer than what came in: it says more and counts as full. Else prove '..UptoSaid'. A law counts once. -/
mutual
def uptoBulk {H : Type} : DataW H → Nat
  | .lit (.string bytes) => bytes.length + 1
  | .lit _ => 1
  | .nil => 1
  | .ptr d => uptoBulk d + 1
  | .slice elems spare => uptoBulkAll elems + uptoBulkAll spare + 1
  | .agg parts => uptoBulkAll parts + 1
  | .iface _ d => uptoBulk d + 1
  | .map entries => uptoBulkEntries entries + 1
  | .held _ => 1
def uptoBulkAll {H : Type} : List (DataW H) → Nat
  | [] => 0
  | d :: r => uptoBulk d + uptoBulkAll r
def uptoBulkEntries {H : Type} : List (Lit × DataW H) → Nat
  | [] => 0
  | x :: r => uptoBulkEntry x + uptoBulkEntries r
def uptoBulkEntry {H : Type} : Lit × DataW H → Nat
  | (.string bytes, d) => bytes.length + uptoBulk d + 1
  | (_, d) => uptoBulk d + 1
 end
def uptoSmall : (H : Type) → List (DataW H) → Bool := fun _ ds => decide (uptoBulkAll ds ≤ 1048576)
def OpenSpec.upto (s : _root_.Go.ChangeSpec) : _root_.Go.OpenSpec := { _root_.Go.OpenSpec.ofChange s with cond := some uptoSmall }

/-- 'laws.FnExactCellsValid', WHERE WHAT IT READS IS OF BULK AT MOST 1048576: true; the input reads as it did. -/
def fnExactCellsValidUptoRow : OpenClaim := { program := "ytginfkgogickcaa", sum := "6b6bf3177fd9f8d5ca64ae10f8628e86c20ba6149de3369aa228bf7e3583a846", func := "loop.example/borrowcheck/laws.FnExactCellsValid", spec := "fnExactCellsValid", apart := false, narrowed := true }
def FnExactCellsValidUptoSaid : Prop := fnExactCellsValidUptoRow.holds Try.pinned (OpenSpec.upto fnExactCellsValidSpec)

/-- 'laws.FnExactAliveCells', WHERE WHAT IT READS IS OF BULK AT MOST 1048576: true; the input reads as it did. -/
def fnExactAliveCellsUptoRow : OpenClaim := { program := "ytginfkgogickcaa", sum := "6b6bf3177fd9f8d5ca64ae10f8628e86c20ba6149de3369aa228bf7e3583a846", func := "loop.example/borrowcheck/laws.FnExactAliveCells", spec := "fnExactAliveCells", apart := false, narrowed := true }
def FnExactAliveCellsUptoSaid : Prop := fnExactAliveCellsUptoRow.holds Try.pinned (OpenSpec.upto fnExactAliveCellsSpec)

/-- 'laws.FnExactNewCell', WHERE WHAT IT READS IS OF BULK AT MOST 1048576: true; the input reads as it did. -/
def fnExactNewCellUptoRow : OpenClaim := { program := "ytginfkgogickcaa", sum := "6b6bf3177fd9f8d5ca64ae10f8628e86c20ba6149de3369aa228bf7e3583a846", func := "loop.example/borrowcheck/laws.FnExactNewCell", spec := "fnExactNewCell", apart := false, narrowed := true }
def FnExactNewCellUptoSaid : Prop := fnExactNewCellUptoRow.holds Try.pinned (OpenSpec.upto fnExactNewCellSpec)

/-- 'laws.FnExactReadCell', WHERE WHAT IT READS IS OF BULK AT MOST 1048576: true; the input reads as it did. -/
def fnExactReadCellUptoRow : OpenClaim := { program := "ytginfkgogickcaa", sum := "6b6bf3177fd9f8d5ca64ae10f8628e86c20ba6149de3369aa228bf7e3583a846", func := "loop.example/borrowcheck/laws.FnExactReadCell", spec := "fnExactReadCell", unfollowed := true, recurses := true, apart := false, narrowed := true }
def FnExactReadCellUptoSaid : Prop := fnExactReadCellUptoRow.holds Try.pinned (OpenSpec.upto fnExactReadCellSpec)

/-- 'laws.FnExactFreeCell', WHERE WHAT IT READS IS OF BULK AT MOST 1048576: true; the input reads as it did. -/
def fnExactFreeCellUptoRow : OpenClaim := { program := "ytginfkgogickcaa", sum := "6b6bf3177fd9f8d5ca64ae10f8628e86c20ba6149de3369aa228bf7e3583a846", func := "loop.example/borrowcheck/laws.FnExactFreeCell", spec := "fnExactFreeCell", unfollowed := true, recurses := true, apart := false, narrowed := true }
def FnExactFreeCellUptoSaid : Prop := fnExactFreeCellUptoRow.holds Try.pinned (OpenSpec.upto fnExactFreeCellSpec)

/-- 'laws.FnExactWriteCell', WHERE WHAT IT READS IS OF BULK AT MOST 1048576: true; the input reads as it did. -/
def fnExactWriteCellUptoRow : OpenClaim := { program := "ytginfkgogickcaa", sum := "6b6bf3177fd9f8d5ca64ae10f8628e86c20ba6149de3369aa228bf7e3583a846", func := "loop.example/borrowcheck/laws.FnExactWriteCell", spec := "fnExactWriteCell", unfollowed := true, recurses := true, apart := false, narrowed := true }
def FnExactWriteCellUptoSaid : Prop := fnExactWriteCellUptoRow.holds Try.pinned (OpenSpec.upto fnExactWriteCellSpec)

/-- 'laws.FnExactBorrowCell', WHERE WHAT IT READS IS OF BULK AT MOST 1048576: true; the input reads as it did. -/
def fnExactBorrowCellUptoRow : OpenClaim := { program := "ytginfkgogickcaa", sum := "6b6bf3177fd9f8d5ca64ae10f8628e86c20ba6149de3369aa228bf7e3583a846", func := "loop.example/borrowcheck/laws.FnExactBorrowCell", spec := "fnExactBorrowCell", unfollowed := true, recurses := true, apart := false, narrowed := true }
def FnExactBorrowCellUptoSaid : Prop := fnExactBorrowCellUptoRow.holds Try.pinned (OpenSpec.upto fnExactBorrowCellSpec)

/-- 'laws.FnExactShareCell', WHERE WHAT IT READS IS OF BULK AT MOST 1048576: true; the input reads as it did. -/
def fnExactShareCellUptoRow : OpenClaim := { program := "ytginfkgogickcaa", sum := "6b6bf3177fd9f8d5ca64ae10f8628e86c20ba6149de3369aa228bf7e3583a846", func := "loop.example/borrowcheck/laws.FnExactShareCell", spec := "fnExactShareCell", unfollowed := true, recurses := true, apart := false, narrowed := true }
def FnExactShareCellUptoSaid : Prop := fnExactShareCellUptoRow.holds Try.pinned (OpenSpec.upto fnExactShareCellSpec)

end Rows
end Go.Proofs.Ytginfkgogickcaa
