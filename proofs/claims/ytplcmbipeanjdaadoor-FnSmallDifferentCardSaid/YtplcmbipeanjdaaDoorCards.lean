/-
  DERIVED. GIVEN WITH THE SEED: THE CARDS: each row of YtplcmbipeanjdaaDoorRows.lean that lists a variable, with what it lists TIED to the program's text (the seventh form; the later family's looks); each row that meets fmt, with fmt's text TOLD by the authors' own Lean function (tested against real Go, not proved from fmt's source: count such statements apart). THE CARD IS WHAT COUNTS. Prove the row's statement (the work); the ties are given (YtplcmbipeanjdaaDoorTie.lean); close each card by the builder's one call (the guide's Derived/Test/ToyasCard.lean, 'card_holds'). Laid BY PROGRAM, IN A SANDBOX (cutbox-door.mjs). By AI agents, Wed Nov 11 2026. No macro, syntax, notation, axiom, sorry.
-/
import Derived.Test.YtplcmbipeanjdaaDoorRows
import GoSem.ClaimSeven
namespace Go.Proofs.YtplcmbipeanjdaaDoor
namespace Rows

/-- THE TIED CARD OF 'laws.FnProgramSame'. -/
def fnProgramSameCard : Claim7 := { stood := { row := fnProgramSameRow, standIns := [], harness := (true, "239162beed4130dedd4cd2b08d47658ccd94bb9545bfd6daa5380b8923a4cf92"), looks := false }, kinds := [], alts := [], laidByText := true, laidKinds := [.data, .data, .data], laidTests := true, laidLooks := .later }
def FnProgramSameCardSaid : Prop := Claim7.holds Tryd.pinned (.plain (OpenSpec.ofChange fnProgramSameSpec)) fnProgramSameCard

/-- THE TIED CARD OF 'laws.FnSmallDifferent'. -/
def fnSmallDifferentCard : Claim7 := { stood := { row := fnSmallDifferentRow, standIns := [], harness := (true, "239162beed4130dedd4cd2b08d47658ccd94bb9545bfd6daa5380b8923a4cf92"), looks := false }, kinds := [], alts := [], laidByText := true, laidKinds := [.data, .data, .data], laidTests := true, laidLooks := .later }
def FnSmallDifferentCardSaid : Prop := Claim7.holds Tryd.pinned (.plain (OpenSpec.ofChange fnSmallDifferentSpec)) fnSmallDifferentCard

/-- THE SECOND FORM's CARD OF 'laws.FnProgramSame'. -/
def fnProgramSameUptoCard : Claim7 := { stood := { row := fnProgramSameUptoRow, standIns := [], harness := (true, "239162beed4130dedd4cd2b08d47658ccd94bb9545bfd6daa5380b8923a4cf92"), looks := false }, kinds := [], alts := [], laidByText := true, laidKinds := [.data, .data, .data], laidTests := true, laidLooks := .later }
def FnProgramSameUptoCardSaid : Prop := Claim7.holds Tryd.pinned (.plain (OpenSpec.upto fnProgramSameSpec)) fnProgramSameUptoCard

/-- THE SECOND FORM's CARD OF 'laws.FnSmallDifferent'. -/
def fnSmallDifferentUptoCard : Claim7 := { stood := { row := fnSmallDifferentUptoRow, standIns := [], harness := (true, "239162beed4130dedd4cd2b08d47658ccd94bb9545bfd6daa5380b8923a4cf92"), looks := false }, kinds := [], alts := [], laidByText := true, laidKinds := [.data, .data, .data], laidTests := true, laidLooks := .later }
def FnSmallDifferentUptoCardSaid : Prop := Claim7.holds Tryd.pinned (.plain (OpenSpec.upto fnSmallDifferentSpec)) fnSmallDifferentUptoCard
end Rows
end Go.Proofs.YtplcmbipeanjdaaDoor
