/-
  No cell of these rows narrows 'for every input' (looked for: loops, veiled, ifaces, maps, wideKeys, modest, calm, conditions, laid).
  DERIVED. THE GIVEN ROWS OF THIS SEAT. 3 by the template 'for every input the law returns true; each argument reads behind the call as it read before'; 0 by the template 'total and deterministic' (their statements: YtpmgfokcbgdegaaTotals.lean).
  GIVEN WITH THE SEED: the statements are not yours to turn. If you find one false, say at which input.
  Laid BY PROGRAM, IN A SANDBOX (cutbox-rows.mjs): the forced cells as the released guide's own fill.sh prints them over the translation 85972cb10bc1f8c4… (all of the seat's roots in one cut). By AI agents, Wed Nov 11 2026. No macro, syntax, notation, axiom, sorry.
-/
import Derived.Test.YtpmgfokcbgdegaaChecked
import GoSem.Claim
import GoSem.ClaimJoined
import GoSem.ClaimMapViews
import Derived.JoinedTies
import Derived.KernelRfl
namespace Go.Proofs.Ytpmgfokcbgdegaa
/- THE CELL 'sum', in the pinned program and in every row, IS THE sha256 OF THE DUMP (.gsa) THAT YtpmgfokcbgdegaaProg.lean LOADS. Nothing in Lean hashes anything: it is a label: what it is worth is what the hold of that sum in a sandbox is worth. -/
noncomputable def Try.pinned : Pinned := { name := "ytpmgfokcbgdegaa", sum := "85972cb10bc1f8c4c9914d06597f101537639d4b5cd0b5fc82e72c126605b150", checked := Try.checked }
namespace Rows
def none {H : Type} : Left H := { results := [], args := [] }

/-- 'laws.FnSplitAll': WHATEVER THE INPUT: true; the input reads as it did. -/
def fnSplitAllSpec : ChangeSpec := { name := "fnSplitAll", fn := fun _ => fun
  | [d] => { results := [.lit (.bool true)], args := [d] }
  | _ => none }
def fnSplitAllRow : OpenClaim := { program := "ytpmgfokcbgdegaa", sum := "85972cb10bc1f8c4c9914d06597f101537639d4b5cd0b5fc82e72c126605b150", func := "loop.example/borrowcheck/laws.FnSplitAll", spec := "fnSplitAll", unfollowed := true, recurses := true, apart := false }
def FnSplitAllSaid : Prop := fnSplitAllRow.holds Try.pinned (OpenSpec.ofChange fnSplitAllSpec)

/-- ITS FALSE NEIGHBOUR: 'it returns false'. Refute it at one input. -/
def fnSplitAllWrong : ChangeSpec := { name := "fnSplitAll", fn := fun _ => fun
  | [d] => { results := [.lit (.bool false)], args := [d] }
  | _ => none }
def FnSplitAllWrongFalsely : Prop := fnSplitAllRow.holds Try.pinned (OpenSpec.ofChange fnSplitAllWrong)

/-- 'laws.FnRenameBack': WHATEVER THE INPUT: true; the input reads as it did. -/
def fnRenameBackSpec : ChangeSpec := { name := "fnRenameBack", fn := fun _ => fun
  | [d] => { results := [.lit (.bool true)], args := [d] }
  | _ => none }
def fnRenameBackRow : OpenClaim := { program := "ytpmgfokcbgdegaa", sum := "85972cb10bc1f8c4c9914d06597f101537639d4b5cd0b5fc82e72c126605b150", func := "loop.example/borrowcheck/laws.FnRenameBack", spec := "fnRenameBack", unfollowed := true, recurses := true, apart := false }
def FnRenameBackSaid : Prop := fnRenameBackRow.holds Try.pinned (OpenSpec.ofChange fnRenameBackSpec)

/-- ITS FALSE NEIGHBOUR: 'it returns false'. Refute it at one input. -/
def fnRenameBackWrong : ChangeSpec := { name := "fnRenameBack", fn := fun _ => fun
  | [d] => { results := [.lit (.bool false)], args := [d] }
  | _ => none }
def FnRenameBackWrongFalsely : Prop := fnRenameBackRow.holds Try.pinned (OpenSpec.ofChange fnRenameBackWrong)

/-- 'laws.FnSwapBack': WHATEVER THE INPUT: true; the input reads as it did. -/
def fnSwapBackSpec : ChangeSpec := { name := "fnSwapBack", fn := fun _ => fun
  | [d] => { results := [.lit (.bool true)], args := [d] }
  | _ => none }
def fnSwapBackRow : OpenClaim := { program := "ytpmgfokcbgdegaa", sum := "85972cb10bc1f8c4c9914d06597f101537639d4b5cd0b5fc82e72c126605b150", func := "loop.example/borrowcheck/laws.FnSwapBack", spec := "fnSwapBack", unfollowed := true, recurses := true, apart := false }
def FnSwapBackSaid : Prop := fnSwapBackRow.holds Try.pinned (OpenSpec.ofChange fnSwapBackSpec)

/-- ITS FALSE NEIGHBOUR: 'it returns false'. Refute it at one input. -/
def fnSwapBackWrong : ChangeSpec := { name := "fnSwapBack", fn := fun _ => fun
  | [d] => { results := [.lit (.bool false)], args := [d] }
  | _ => none }
def FnSwapBackWrongFalsely : Prop := fnSwapBackRow.holds Try.pinned (OpenSpec.ofChange fnSwapBackWrong)

/- THE SECOND FORM. 'bulk': how many values and letters a reading holds, each counted each time it is reached (what is shared counts as often as it is met; a slice's spare places count too). A statement '..UptoSaid' is the law's where the arguments, and the package variables that the reading takes, are together of bulk at most 1048576: NARROWER than '..Said'. Prove '..Said' where nothing that the law and all that it calls make is longer than what came in: it says more and counts as full. Else prove '..UptoSaid'. A law counts once. -/
mutual
def uptoBulk {H : Type} : DataW H → Nat
  | .lit (.string bytes) => bytes.length + 1
  | .lit _ => 1
  | .nil => 1
  | .ptr d => uptoBulk d + 1
  | .slice elems spare => uptoBulkAll elems + uptoBulkAll spare + 1
  | .agg parts => uptoBulkAll parts + 1
  | .iface _ d => uptoBulk d + 1
  | .map entries => uptoBulkEntries entries + 1
  | .held _ => 1
def uptoBulkAll {H : Type} : List (DataW H) → Nat
  | [] => 0
  | d :: r => uptoBulk d + uptoBulkAll r
def uptoBulkEntries {H : Type} : List (Lit × DataW H) → Nat
  | [] => 0
  | x :: r => uptoBulkEntry x + uptoBulkEntries r
def uptoBulkEntry {H : Type} : Lit × DataW H → Nat
  | (.string bytes, d) => bytes.length + uptoBulk d + 1
  | (_, d) => uptoBulk d + 1
 end
def uptoSmall : (H : Type) → List (DataW H) → Bool := fun _ ds => decide (uptoBulkAll ds ≤ 1048576)
def OpenSpec.upto (s : _root_.Go.ChangeSpec) : _root_.Go.OpenSpec := { _root_.Go.OpenSpec.ofChange s with cond := some uptoSmall }

/-- 'laws.FnSplitAll', WHERE WHAT IT READS IS OF BULK AT MOST 1048576: true; the input reads as it did. -/
def fnSplitAllUptoRow : OpenClaim := { program := "ytpmgfokcbgdegaa", sum := "85972cb10bc1f8c4c9914d06597f101537639d4b5cd0b5fc82e72c126605b150", func := "loop.example/borrowcheck/laws.FnSplitAll", spec := "fnSplitAll", unfollowed := true, recurses := true, apart := false, narrowed := true }
def FnSplitAllUptoSaid : Prop := fnSplitAllUptoRow.holds Try.pinned (OpenSpec.upto fnSplitAllSpec)

/-- 'laws.FnRenameBack', WHERE WHAT IT READS IS OF BULK AT MOST 1048576: true; the input reads as it did. -/
def fnRenameBackUptoRow : OpenClaim := { program := "ytpmgfokcbgdegaa", sum := "85972cb10bc1f8c4c9914d06597f101537639d4b5cd0b5fc82e72c126605b150", func := "loop.example/borrowcheck/laws.FnRenameBack", spec := "fnRenameBack", unfollowed := true, recurses := true, apart := false, narrowed := true }
def FnRenameBackUptoSaid : Prop := fnRenameBackUptoRow.holds Try.pinned (OpenSpec.upto fnRenameBackSpec)

/-- 'laws.FnSwapBack', WHERE WHAT IT READS IS OF BULK AT MOST 1048576: true; the input reads as it did. -/
def fnSwapBackUptoRow : OpenClaim := { program := "ytpmgfokcbgdegaa", sum := "85972cb10bc1f8c4c9914d06597f101537639d4b5cd0b5fc82e72c126605b150", func := "loop.example/borrowcheck/laws.FnSwapBack", spec := "fnSwapBack", unfollowed := true, recurses := true, apart := false, narrowed := true }
def FnSwapBackUptoSaid : Prop := fnSwapBackUptoRow.holds Try.pinned (OpenSpec.upto fnSwapBackSpec)

end Rows
end Go.Proofs.Ytpmgfokcbgdegaa
