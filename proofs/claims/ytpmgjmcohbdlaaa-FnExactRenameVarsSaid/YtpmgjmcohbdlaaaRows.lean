/-
  NARROWER THAN 'FOR EVERY INPUT', by the rows' own cells (each row's printed sentence says how): FnExactDropStmt: loops · FnExactSequenceOf: loops · FnExactRenameVars: loops · FnExactSwapStmts: loops.
  DERIVED. THE GIVEN ROWS OF THIS SEAT. 4 by the template 'for every input the law returns true; each argument reads behind the call as it read before'; 0 by the template 'total and deterministic' (their statements: YtpmgjmcohbdlaaaTotals.lean).
  GIVEN WITH THE SEED: the statements are not yours to turn. If you find one false, say at which input.
  Laid BY PROGRAM, IN A SANDBOX (cutbox-rows.mjs): the forced cells as the released guide's own fill.sh prints them over the translation 66b35c2bafc11344… (all of the seat's roots in one cut). By AI agents, Wed Nov 11 2026. No macro, syntax, notation, axiom, sorry.
-/
import Derived.Test.YtpmgjmcohbdlaaaChecked
import GoSem.Claim
import GoSem.ClaimJoined
import GoSem.ClaimMapViews
import Derived.JoinedTies
import Derived.KernelRfl
namespace Go.Proofs.Ytpmgjmcohbdlaaa
/- THE CELL 'sum', in the pinned program and in every row, IS THE sha256 OF THE DUMP (.gsa) THAT YtpmgjmcohbdlaaaProg.lean LOADS. Nothing in Lean hashes anything: it is a label: what it is worth is what the hold of that sum in a sandbox is worth. -/
noncomputable def Try.pinned : Pinned := { name := "ytpmgjmcohbdlaaa", sum := "66b35c2bafc11344496f7c77f1cf626cbff364b6928a0aa129bbacd4c97b0685", checked := Try.checked }
namespace Rows
def none {H : Type} : Left H := { results := [], args := [] }

/-- 'laws.FnExactDropStmt': WHATEVER THE INPUT: true; the input reads as it did. -/
def fnExactDropStmtSpec : ChangeSpec := { name := "fnExactDropStmt", fn := fun _ => fun
  | [d1, d2] => { results := [.lit (.bool true)], args := [d1, d2] }
  | _ => none }
def fnExactDropStmtRow : OpenClaim := { program := "ytpmgjmcohbdlaaa", sum := "66b35c2bafc11344496f7c77f1cf626cbff364b6928a0aa129bbacd4c97b0685", func := "loop.example/borrowcheck/laws.FnExactDropStmt", spec := "fnExactDropStmt", unfollowed := true, recurses := true, loops := true, apart := false }
def FnExactDropStmtSaid : Prop := fnExactDropStmtRow.holds Try.pinned (OpenSpec.ofChange fnExactDropStmtSpec)

/-- ITS FALSE NEIGHBOUR: 'it returns false'. Refute it at one input. -/
def fnExactDropStmtWrong : ChangeSpec := { name := "fnExactDropStmt", fn := fun _ => fun
  | [d1, d2] => { results := [.lit (.bool false)], args := [d1, d2] }
  | _ => none }
def FnExactDropStmtWrongFalsely : Prop := fnExactDropStmtRow.holds Try.pinned (OpenSpec.ofChange fnExactDropStmtWrong)

/-- 'laws.FnExactSequenceOf': WHATEVER THE INPUT: true; the input reads as it did. -/
def fnExactSequenceOfSpec : ChangeSpec := { name := "fnExactSequenceOf", fn := fun _ => fun
  | [d1, d2] => { results := [.lit (.bool true)], args := [d1, d2] }
  | _ => none }
def fnExactSequenceOfRow : OpenClaim := { program := "ytpmgjmcohbdlaaa", sum := "66b35c2bafc11344496f7c77f1cf626cbff364b6928a0aa129bbacd4c97b0685", func := "loop.example/borrowcheck/laws.FnExactSequenceOf", spec := "fnExactSequenceOf", unfollowed := true, recurses := true, loops := true, apart := false }
def FnExactSequenceOfSaid : Prop := fnExactSequenceOfRow.holds Try.pinned (OpenSpec.ofChange fnExactSequenceOfSpec)

/-- ITS FALSE NEIGHBOUR: 'it returns false'. Refute it at one input. -/
def fnExactSequenceOfWrong : ChangeSpec := { name := "fnExactSequenceOf", fn := fun _ => fun
  | [d1, d2] => { results := [.lit (.bool false)], args := [d1, d2] }
  | _ => none }
def FnExactSequenceOfWrongFalsely : Prop := fnExactSequenceOfRow.holds Try.pinned (OpenSpec.ofChange fnExactSequenceOfWrong)

/-- 'laws.FnExactRenameVars': WHATEVER THE INPUT: true; the input reads as it did. -/
def fnExactRenameVarsSpec : ChangeSpec := { name := "fnExactRenameVars", fn := fun _ => fun
  | [d1, d2] => { results := [.lit (.bool true)], args := [d1, d2] }
  | _ => none }
def fnExactRenameVarsRow : OpenClaim := { program := "ytpmgjmcohbdlaaa", sum := "66b35c2bafc11344496f7c77f1cf626cbff364b6928a0aa129bbacd4c97b0685", func := "loop.example/borrowcheck/laws.FnExactRenameVars", spec := "fnExactRenameVars", unfollowed := true, recurses := true, loops := true, apart := false }
def FnExactRenameVarsSaid : Prop := fnExactRenameVarsRow.holds Try.pinned (OpenSpec.ofChange fnExactRenameVarsSpec)

/-- ITS FALSE NEIGHBOUR: 'it returns false'. Refute it at one input. -/
def fnExactRenameVarsWrong : ChangeSpec := { name := "fnExactRenameVars", fn := fun _ => fun
  | [d1, d2] => { results := [.lit (.bool false)], args := [d1, d2] }
  | _ => none }
def FnExactRenameVarsWrongFalsely : Prop := fnExactRenameVarsRow.holds Try.pinned (OpenSpec.ofChange fnExactRenameVarsWrong)

/-- 'laws.FnExactSwapStmts': WHATEVER THE INPUT: true; the input reads as it did. -/
def fnExactSwapStmtsSpec : ChangeSpec := { name := "fnExactSwapStmts", fn := fun _ => fun
  | [d1, d2] => { results := [.lit (.bool true)], args := [d1, d2] }
  | _ => none }
def fnExactSwapStmtsRow : OpenClaim := { program := "ytpmgjmcohbdlaaa", sum := "66b35c2bafc11344496f7c77f1cf626cbff364b6928a0aa129bbacd4c97b0685", func := "loop.example/borrowcheck/laws.FnExactSwapStmts", spec := "fnExactSwapStmts", unfollowed := true, recurses := true, loops := true, apart := false }
def FnExactSwapStmtsSaid : Prop := fnExactSwapStmtsRow.holds Try.pinned (OpenSpec.ofChange fnExactSwapStmtsSpec)

/-- ITS FALSE NEIGHBOUR: 'it returns false'. Refute it at one input. -/
def fnExactSwapStmtsWrong : ChangeSpec := { name := "fnExactSwapStmts", fn := fun _ => fun
  | [d1, d2] => { results := [.lit (.bool false)], args := [d1, d2] }
  | _ => none }
def FnExactSwapStmtsWrongFalsely : Prop := fnExactSwapStmtsRow.holds Try.pinned (OpenSpec.ofChange fnExactSwapStmtsWrong)

/- THE SECOND FORM. 'bulk': how many values and letters a reading holds, each counted each time it is reached (what is shared counts as often as it is met; a slice's spare places count too). A statement '..UptoSaid' is the law's where the arguments, and the package variables that the reading takes, are together of bulk at most 1048576: NARROWER than '..Said'. Prove '..Said' where nothing that the law and all that it calls make is longer than what came in: it says more and counts as full. Else prove '..UptoSaid'. A law counts once. -/
mutual
def uptoBulk {H : Type} : DataW H → Nat
  | .lit (.string bytes) => bytes.length + 1
  | .lit _ => 1
  | .nil => 1
  | .ptr d => uptoBulk d + 1
  | .slice elems spare => uptoBulkAll elems + uptoBulkAll spare + 1
  | .agg parts => uptoBulkAll parts + 1
  | .iface _ d => uptoBulk d + 1
  | .map entries => uptoBulkEntries entries + 1
  | .held _ => 1
def uptoBulkAll {H : Type} : List (DataW H) → Nat
  | [] => 0
  | d :: r => uptoBulk d + uptoBulkAll r
def uptoBulkEntries {H : Type} : List (Lit × DataW H) → Nat
  | [] => 0
  | x :: r => uptoBulkEntry x + uptoBulkEntries r
def uptoBulkEntry {H : Type} : Lit × DataW H → Nat
  | (.string bytes, d) => bytes.length + uptoBulk d + 1
  | (_, d) => uptoBulk d + 1
 end
def uptoSmall : (H : Type) → List (DataW H) → Bool := fun _ ds => decide (uptoBulkAll ds ≤ 1048576)
def OpenSpec.upto (s : _root_.Go.ChangeSpec) : _root_.Go.OpenSpec := { _root_.Go.OpenSpec.ofChange s with cond := some uptoSmall }

/-- 'laws.FnExactDropStmt', WHERE WHAT IT READS IS OF BULK AT MOST 1048576: true; the input reads as it did. -/
def fnExactDropStmtUptoRow : OpenClaim := { program := "ytpmgjmcohbdlaaa", sum := "66b35c2bafc11344496f7c77f1cf626cbff364b6928a0aa129bbacd4c97b0685", func := "loop.example/borrowcheck/laws.FnExactDropStmt", spec := "fnExactDropStmt", unfollowed := true, recurses := true, loops := true, apart := false, narrowed := true }
def FnExactDropStmtUptoSaid : Prop := fnExactDropStmtUptoRow.holds Try.pinned (OpenSpec.upto fnExactDropStmtSpec)

/-- 'laws.FnExactSequenceOf', WHERE WHAT IT READS IS OF BULK AT MOST 1048576: true; the input reads as it did. -/
def fnExactSequenceOfUptoRow : OpenClaim := { program := "ytpmgjmcohbdlaaa", sum := "66b35c2bafc11344496f7c77f1cf626cbff364b6928a0aa129bbacd4c97b0685", func := "loop.example/borrowcheck/laws.FnExactSequenceOf", spec := "fnExactSequenceOf", unfollowed := true, recurses := true, loops := true, apart := false, narrowed := true }
def FnExactSequenceOfUptoSaid : Prop := fnExactSequenceOfUptoRow.holds Try.pinned (OpenSpec.upto fnExactSequenceOfSpec)

/-- 'laws.FnExactRenameVars', WHERE WHAT IT READS IS OF BULK AT MOST 1048576: true; the input reads as it did. -/
def fnExactRenameVarsUptoRow : OpenClaim := { program := "ytpmgjmcohbdlaaa", sum := "66b35c2bafc11344496f7c77f1cf626cbff364b6928a0aa129bbacd4c97b0685", func := "loop.example/borrowcheck/laws.FnExactRenameVars", spec := "fnExactRenameVars", unfollowed := true, recurses := true, loops := true, apart := false, narrowed := true }
def FnExactRenameVarsUptoSaid : Prop := fnExactRenameVarsUptoRow.holds Try.pinned (OpenSpec.upto fnExactRenameVarsSpec)

/-- 'laws.FnExactSwapStmts', WHERE WHAT IT READS IS OF BULK AT MOST 1048576: true; the input reads as it did. -/
def fnExactSwapStmtsUptoRow : OpenClaim := { program := "ytpmgjmcohbdlaaa", sum := "66b35c2bafc11344496f7c77f1cf626cbff364b6928a0aa129bbacd4c97b0685", func := "loop.example/borrowcheck/laws.FnExactSwapStmts", spec := "fnExactSwapStmts", unfollowed := true, recurses := true, loops := true, apart := false, narrowed := true }
def FnExactSwapStmtsUptoSaid : Prop := fnExactSwapStmtsUptoRow.holds Try.pinned (OpenSpec.upto fnExactSwapStmtsSpec)

end Rows
end Go.Proofs.Ytpmgjmcohbdlaaa
