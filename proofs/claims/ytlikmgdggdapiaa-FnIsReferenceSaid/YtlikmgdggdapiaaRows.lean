/-
  No cell of these rows narrows 'for every input' (looked for: loops, veiled, ifaces, maps, wideKeys, modest, calm, conditions, laid).
  DERIVED. THE GIVEN ROWS OF THIS SEAT. 6 by the template 'for every input the law returns true; each argument reads behind the call as it read before'; 0 by the template 'total and deterministic' (their statements: YtlikmgdggdapiaaTotals.lean).
  GIVEN WITH THE SEED: the statements are not yours to turn. If you find one false, say at which input.
  Laid BY PROGRAM, IN A SANDBOX (cutbox-rows.mjs): the forced cells as the released guide's own fill.sh prints them over the translation 76855570cdd8c5f9… (all of the seat's roots in one cut). By AI agents, Wed Nov 11 2026. No macro, syntax, notation, axiom, sorry.
-/
import Derived.Test.YtlikmgdggdapiaaChecked
import GoSem.Claim
import GoSem.ClaimJoined
import GoSem.ClaimMapViews
import Derived.JoinedTies
import Derived.KernelRfl
namespace Go.Proofs.Ytlikmgdggdapiaa
/- THE CELL 'sum', in the pinned program and in every row, IS THE sha256 OF THE DUMP (.gsa) THAT YtlikmgdggdapiaaProg.lean LOADS. Nothing in Lean hashes anything: it is a label: what it is worth is what the hold of that sum in a sandbox is worth. -/
noncomputable def Try.pinned : Pinned := { name := "ytlikmgdggdapiaa", sum := "76855570cdd8c5f9e4c2b0da8757378b74da0bbf36b54cf28552ad05ceeb39e9", checked := Try.checked }
namespace Rows
def none {H : Type} : Left H := { results := [], args := [] }

/-- 'laws.FnExactConstants': WHATEVER THE INPUT: true; the input reads as it did. -/
def fnExactConstantsSpec : ChangeSpec := { name := "fnExactConstants", fn := fun _ => fun
  | [] => { results := [.lit (.bool true)], args := [] }
  | _ => none }
def fnExactConstantsRow : OpenClaim := { program := "ytlikmgdggdapiaa", sum := "76855570cdd8c5f9e4c2b0da8757378b74da0bbf36b54cf28552ad05ceeb39e9", func := "loop.example/borrowcheck/laws.FnExactConstants", spec := "fnExactConstants", apart := false }
def FnExactConstantsSaid : Prop := fnExactConstantsRow.holds Try.pinned (OpenSpec.ofChange fnExactConstantsSpec)

/-- ITS FALSE NEIGHBOUR: 'it returns false'. Refute it at one input. -/
def fnExactConstantsWrong : ChangeSpec := { name := "fnExactConstants", fn := fun _ => fun
  | [] => { results := [.lit (.bool false)], args := [] }
  | _ => none }
def FnExactConstantsWrongFalsely : Prop := fnExactConstantsRow.holds Try.pinned (OpenSpec.ofChange fnExactConstantsWrong)

/-- 'laws.FnExactIsReference': WHATEVER THE INPUT: true; the input reads as it did. -/
def fnExactIsReferenceSpec : ChangeSpec := { name := "fnExactIsReference", fn := fun _ => fun
  | [d] => { results := [.lit (.bool true)], args := [d] }
  | _ => none }
def fnExactIsReferenceRow : OpenClaim := { program := "ytlikmgdggdapiaa", sum := "76855570cdd8c5f9e4c2b0da8757378b74da0bbf36b54cf28552ad05ceeb39e9", func := "loop.example/borrowcheck/laws.FnExactIsReference", spec := "fnExactIsReference", apart := false }
def FnExactIsReferenceSaid : Prop := fnExactIsReferenceRow.holds Try.pinned (OpenSpec.ofChange fnExactIsReferenceSpec)

/-- ITS FALSE NEIGHBOUR: 'it returns false'. Refute it at one input. -/
def fnExactIsReferenceWrong : ChangeSpec := { name := "fnExactIsReference", fn := fun _ => fun
  | [d] => { results := [.lit (.bool false)], args := [d] }
  | _ => none }
def FnExactIsReferenceWrongFalsely : Prop := fnExactIsReferenceRow.holds Try.pinned (OpenSpec.ofChange fnExactIsReferenceWrong)

/-- 'laws.FnExactSmallTests': WHATEVER THE INPUT: true; the input reads as it did. -/
def fnExactSmallTestsSpec : ChangeSpec := { name := "fnExactSmallTests", fn := fun _ => fun
  | [] => { results := [.lit (.bool true)], args := [] }
  | _ => none }
def fnExactSmallTestsRow : OpenClaim := { program := "ytlikmgdggdapiaa", sum := "76855570cdd8c5f9e4c2b0da8757378b74da0bbf36b54cf28552ad05ceeb39e9", func := "loop.example/borrowcheck/laws.FnExactSmallTests", spec := "fnExactSmallTests", apart := false }
def FnExactSmallTestsSaid : Prop := fnExactSmallTestsRow.holds Try.pinned (OpenSpec.ofChange fnExactSmallTestsSpec)

/-- ITS FALSE NEIGHBOUR: 'it returns false'. Refute it at one input. -/
def fnExactSmallTestsWrong : ChangeSpec := { name := "fnExactSmallTests", fn := fun _ => fun
  | [] => { results := [.lit (.bool false)], args := [] }
  | _ => none }
def FnExactSmallTestsWrongFalsely : Prop := fnExactSmallTestsRow.holds Try.pinned (OpenSpec.ofChange fnExactSmallTestsWrong)

/-- 'laws.FnExactChoicesOf': WHATEVER THE INPUT: true; the input reads as it did. -/
def fnExactChoicesOfSpec : ChangeSpec := { name := "fnExactChoicesOf", fn := fun _ => fun
  | [d1, d2] => { results := [.lit (.bool true)], args := [d1, d2] }
  | _ => none }
def fnExactChoicesOfRow : OpenClaim := { program := "ytlikmgdggdapiaa", sum := "76855570cdd8c5f9e4c2b0da8757378b74da0bbf36b54cf28552ad05ceeb39e9", func := "loop.example/borrowcheck/laws.FnExactChoicesOf", spec := "fnExactChoicesOf", apart := false }
def FnExactChoicesOfSaid : Prop := fnExactChoicesOfRow.holds Try.pinned (OpenSpec.ofChange fnExactChoicesOfSpec)

/-- ITS FALSE NEIGHBOUR: 'it returns false'. Refute it at one input. -/
def fnExactChoicesOfWrong : ChangeSpec := { name := "fnExactChoicesOf", fn := fun _ => fun
  | [d1, d2] => { results := [.lit (.bool false)], args := [d1, d2] }
  | _ => none }
def FnExactChoicesOfWrongFalsely : Prop := fnExactChoicesOfRow.holds Try.pinned (OpenSpec.ofChange fnExactChoicesOfWrong)

/-- 'laws.FnChoicesOf': WHATEVER THE INPUT: true; the input reads as it did. -/
def fnChoicesOfSpec : ChangeSpec := { name := "fnChoicesOf", fn := fun _ => fun
  | [d1, d2] => { results := [.lit (.bool true)], args := [d1, d2] }
  | _ => none }
def fnChoicesOfRow : OpenClaim := { program := "ytlikmgdggdapiaa", sum := "76855570cdd8c5f9e4c2b0da8757378b74da0bbf36b54cf28552ad05ceeb39e9", func := "loop.example/borrowcheck/laws.FnChoicesOf", spec := "fnChoicesOf", apart := false }
def FnChoicesOfSaid : Prop := fnChoicesOfRow.holds Try.pinned (OpenSpec.ofChange fnChoicesOfSpec)

/-- ITS FALSE NEIGHBOUR: 'it returns false'. Refute it at one input. -/
def fnChoicesOfWrong : ChangeSpec := { name := "fnChoicesOf", fn := fun _ => fun
  | [d1, d2] => { results := [.lit (.bool false)], args := [d1, d2] }
  | _ => none }
def FnChoicesOfWrongFalsely : Prop := fnChoicesOfRow.holds Try.pinned (OpenSpec.ofChange fnChoicesOfWrong)

/-- 'laws.FnIsReference': WHATEVER THE INPUT: true; the input reads as it did. -/
def fnIsReferenceSpec : ChangeSpec := { name := "fnIsReference", fn := fun _ => fun
  | [d] => { results := [.lit (.bool true)], args := [d] }
  | _ => none }
def fnIsReferenceRow : OpenClaim := { program := "ytlikmgdggdapiaa", sum := "76855570cdd8c5f9e4c2b0da8757378b74da0bbf36b54cf28552ad05ceeb39e9", func := "loop.example/borrowcheck/laws.FnIsReference", spec := "fnIsReference", unfollowed := true, recurses := true, apart := false }
def FnIsReferenceSaid : Prop := fnIsReferenceRow.holds Try.pinned (OpenSpec.ofChange fnIsReferenceSpec)

/-- ITS FALSE NEIGHBOUR: 'it returns false'. Refute it at one input. -/
def fnIsReferenceWrong : ChangeSpec := { name := "fnIsReference", fn := fun _ => fun
  | [d] => { results := [.lit (.bool false)], args := [d] }
  | _ => none }
def FnIsReferenceWrongFalsely : Prop := fnIsReferenceRow.holds Try.pinned (OpenSpec.ofChange fnIsReferenceWrong)

/- THE SECOND FORM. 'bulk': how many values and letters a reading holds, each counted each time it is reached (what is shared counts as often as it is met; a slice's spare places count too). A statement '..UptoSaid' is the law's where the arguments, and the package variables that the reading takes, are together of bulk at most 1048576: NARROWER than '..Said'. Prove '..Said' where nothing that the law and all that it calls make is longer than what came in: it says more and counts as full. Else prove '..UptoSaid'. A law counts once. -/
mutual
def uptoBulk {H : Type} : DataW H → Nat
  | .lit (.string bytes) => bytes.length + 1
  | .lit _ => 1
  | .nil => 1
  | .ptr d => uptoBulk d + 1
  | .slice elems spare => uptoBulkAll elems + uptoBulkAll spare + 1
  | .agg parts => uptoBulkAll parts + 1
  | .iface _ d => uptoBulk d + 1
  | .map entries => uptoBulkEntries entries + 1
  | .held _ => 1
def uptoBulkAll {H : Type} : List (DataW H) → Nat
  | [] => 0
  | d :: r => uptoBulk d + uptoBulkAll r
def uptoBulkEntries {H : Type} : List (Lit × DataW H) → Nat
  | [] => 0
  | x :: r => uptoBulkEntry x + uptoBulkEntries r
def uptoBulkEntry {H : Type} : Lit × DataW H → Nat
  | (.string bytes, d) => bytes.length + uptoBulk d + 1
  | (_, d) => uptoBulk d + 1
 end
def uptoSmall : (H : Type) → List (DataW H) → Bool := fun _ ds => decide (uptoBulkAll ds ≤ 1048576)
def OpenSpec.upto (s : _root_.Go.ChangeSpec) : _root_.Go.OpenSpec := { _root_.Go.OpenSpec.ofChange s with cond := some uptoSmall }

/-- 'laws.FnExactConstants', WHERE WHAT IT READS IS OF BULK AT MOST 1048576: true; the input reads as it did. -/
def fnExactConstantsUptoRow : OpenClaim := { program := "ytlikmgdggdapiaa", sum := "76855570cdd8c5f9e4c2b0da8757378b74da0bbf36b54cf28552ad05ceeb39e9", func := "loop.example/borrowcheck/laws.FnExactConstants", spec := "fnExactConstants", apart := false, narrowed := true }
def FnExactConstantsUptoSaid : Prop := fnExactConstantsUptoRow.holds Try.pinned (OpenSpec.upto fnExactConstantsSpec)

/-- 'laws.FnExactIsReference', WHERE WHAT IT READS IS OF BULK AT MOST 1048576: true; the input reads as it did. -/
def fnExactIsReferenceUptoRow : OpenClaim := { program := "ytlikmgdggdapiaa", sum := "76855570cdd8c5f9e4c2b0da8757378b74da0bbf36b54cf28552ad05ceeb39e9", func := "loop.example/borrowcheck/laws.FnExactIsReference", spec := "fnExactIsReference", apart := false, narrowed := true }
def FnExactIsReferenceUptoSaid : Prop := fnExactIsReferenceUptoRow.holds Try.pinned (OpenSpec.upto fnExactIsReferenceSpec)

/-- 'laws.FnExactSmallTests', WHERE WHAT IT READS IS OF BULK AT MOST 1048576: true; the input reads as it did. -/
def fnExactSmallTestsUptoRow : OpenClaim := { program := "ytlikmgdggdapiaa", sum := "76855570cdd8c5f9e4c2b0da8757378b74da0bbf36b54cf28552ad05ceeb39e9", func := "loop.example/borrowcheck/laws.FnExactSmallTests", spec := "fnExactSmallTests", apart := false, narrowed := true }
def FnExactSmallTestsUptoSaid : Prop := fnExactSmallTestsUptoRow.holds Try.pinned (OpenSpec.upto fnExactSmallTestsSpec)

/-- 'laws.FnExactChoicesOf', WHERE WHAT IT READS IS OF BULK AT MOST 1048576: true; the input reads as it did. -/
def fnExactChoicesOfUptoRow : OpenClaim := { program := "ytlikmgdggdapiaa", sum := "76855570cdd8c5f9e4c2b0da8757378b74da0bbf36b54cf28552ad05ceeb39e9", func := "loop.example/borrowcheck/laws.FnExactChoicesOf", spec := "fnExactChoicesOf", apart := false, narrowed := true }
def FnExactChoicesOfUptoSaid : Prop := fnExactChoicesOfUptoRow.holds Try.pinned (OpenSpec.upto fnExactChoicesOfSpec)

/-- 'laws.FnChoicesOf', WHERE WHAT IT READS IS OF BULK AT MOST 1048576: true; the input reads as it did. -/
def fnChoicesOfUptoRow : OpenClaim := { program := "ytlikmgdggdapiaa", sum := "76855570cdd8c5f9e4c2b0da8757378b74da0bbf36b54cf28552ad05ceeb39e9", func := "loop.example/borrowcheck/laws.FnChoicesOf", spec := "fnChoicesOf", apart := false, narrowed := true }
def FnChoicesOfUptoSaid : Prop := fnChoicesOfUptoRow.holds Try.pinned (OpenSpec.upto fnChoicesOfSpec)

/-- 'laws.FnIsReference', WHERE WHAT IT READS IS OF BULK AT MOST 1048576: true; the input reads as it did. -/
def fnIsReferenceUptoRow : OpenClaim := { program := "ytlikmgdggdapiaa", sum := "76855570cdd8c5f9e4c2b0da8757378b74da0bbf36b54cf28552ad05ceeb39e9", func := "loop.example/borrowcheck/laws.FnIsReference", spec := "fnIsReference", unfollowed := true, recurses := true, apart := false, narrowed := true }
def FnIsReferenceUptoSaid : Prop := fnIsReferenceUptoRow.holds Try.pinned (OpenSpec.upto fnIsReferenceSpec)

end Rows
end Go.Proofs.Ytlikmgdggdapiaa
