/-
  DERIVED. GIVEN WITH THE SEED: THE CARDS: each row of YtpmgfokcbgdegaaDoorRows.lean that lists a variable, with what it lists TIED to the program's text (the seventh form; the later family's looks); each row that meets fmt, with fmt's text TOLD by the authors' own Lean function (tested against real Go, not proved from fmt's source: count such statements apart). THE CARD IS WHAT COUNTS. Prove the row's statement (the work); the ties are given (YtpmgfokcbgdegaaDoorTie.lean); close each card by the builder's one call (the guide's Derived/Test/ToyasCard.lean, 'card_holds'). Laid BY PROGRAM, IN A SANDBOX (cutbox-door.mjs). By AI agents, Wed Nov 11 2026. No macro, syntax, notation, axiom, sorry.
-/
import Derived.Test.YtpmgfokcbgdegaaDoorRows
import GoSem.ClaimSeven
namespace Go.Proofs.YtpmgfokcbgdegaaDoor
namespace Rows

/-- THE TIED CARD OF 'laws.FnProgramJoin'. -/
def fnProgramJoinCard : Claim7 := { stood := { row := fnProgramJoinRow, standIns := [], harness := (true, "d88cb96f365d000199279560c51eb3165726ff210e016f230faaacc135228aa7"), looks := false }, kinds := [], alts := [], laidByText := true, laidKinds := [.data, .data, .data], laidTests := true, laidLooks := .later }
def FnProgramJoinCardSaid : Prop := Claim7.holds Tryd.pinned (.plain (OpenSpec.ofChange fnProgramJoinSpec)) fnProgramJoinCard

/-- THE SECOND FORM's CARD OF 'laws.FnProgramJoin'. -/
def fnProgramJoinUptoCard : Claim7 := { stood := { row := fnProgramJoinUptoRow, standIns := [], harness := (true, "d88cb96f365d000199279560c51eb3165726ff210e016f230faaacc135228aa7"), looks := false }, kinds := [], alts := [], laidByText := true, laidKinds := [.data, .data, .data], laidTests := true, laidLooks := .later }
def FnProgramJoinUptoCardSaid : Prop := Claim7.holds Tryd.pinned (.plain (OpenSpec.upto fnProgramJoinSpec)) fnProgramJoinUptoCard
end Rows
end Go.Proofs.YtpmgfokcbgdegaaDoor
