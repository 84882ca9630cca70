/-
  DERIVED. GIVEN WITH THE SEED: THE CARDS: each row of YtnfapbghkmodeaaDoorRows.lean that lists a variable, with what it lists TIED to the program's text (the seventh form; the later family's looks); each row that meets fmt, with fmt's text TOLD by the authors' own Lean function (tested against real Go, not proved from fmt's source: count such statements apart). THE CARD IS WHAT COUNTS. Prove the row's statement (the work); the ties are given (YtnfapbghkmodeaaDoorTie.lean); close each card by the builder's one call (the guide's Derived/Test/ToyasCard.lean, 'card_holds'). Laid BY PROGRAM, IN A SANDBOX (cutbox-door.mjs). By AI agents, Wed Nov 11 2026. No macro, syntax, notation, axiom, sorry.
-/
import Derived.Test.YtnfapbghkmodeaaDoorRows
import GoSem.ClaimSeven
namespace Go.Proofs.YtnfapbghkmodeaaDoor
namespace Rows

/-- THE TIED CARD OF 'laws.FnExactFormatCells'. -/
def fnExactFormatCellsCard : Claim7 := { stood := { row := fnExactFormatCellsRow, standIns := [], harness := (true, "1bc56f48ea9aa9042e181bb0ac0ffd957350d8e60ea74053310c47b3d10cbd90"), looks := false }, kinds := [], alts := [], laidByText := true, laidKinds := [.data, .data, .data], laidTests := true, laidLooks := .later }
def FnExactFormatCellsCardSaid : Prop := Claim7.holds Tryd.pinned (.plain (OpenSpec.ofChange fnExactFormatCellsSpec)) fnExactFormatCellsCard

/-- THE TIED CARD OF 'laws.FnFormatCells'. -/
def fnFormatCellsCard : Claim7 := { stood := { row := fnFormatCellsRow, standIns := [], harness := (true, "1bc56f48ea9aa9042e181bb0ac0ffd957350d8e60ea74053310c47b3d10cbd90"), looks := false }, kinds := [], alts := [], laidByText := true, laidKinds := [.data, .data, .data], laidTests := true, laidLooks := .later }
def FnFormatCellsCardSaid : Prop := Claim7.holds Tryd.pinned (.plain (OpenSpec.ofChange fnFormatCellsSpec)) fnFormatCellsCard

/-- THE SECOND FORM's CARD OF 'laws.FnExactFormatCells'. -/
def fnExactFormatCellsUptoCard : Claim7 := { stood := { row := fnExactFormatCellsUptoRow, standIns := [], harness := (true, "1bc56f48ea9aa9042e181bb0ac0ffd957350d8e60ea74053310c47b3d10cbd90"), looks := false }, kinds := [], alts := [], laidByText := true, laidKinds := [.data, .data, .data], laidTests := true, laidLooks := .later }
def FnExactFormatCellsUptoCardSaid : Prop := Claim7.holds Tryd.pinned (.plain (OpenSpec.upto fnExactFormatCellsSpec)) fnExactFormatCellsUptoCard

/-- THE SECOND FORM's CARD OF 'laws.FnFormatCells'. -/
def fnFormatCellsUptoCard : Claim7 := { stood := { row := fnFormatCellsUptoRow, standIns := [], harness := (true, "1bc56f48ea9aa9042e181bb0ac0ffd957350d8e60ea74053310c47b3d10cbd90"), looks := false }, kinds := [], alts := [], laidByText := true, laidKinds := [.data, .data, .data], laidTests := true, laidLooks := .later }
def FnFormatCellsUptoCardSaid : Prop := Claim7.holds Tryd.pinned (.plain (OpenSpec.upto fnFormatCellsSpec)) fnFormatCellsUptoCard
end Rows
end Go.Proofs.YtnfapbghkmodeaaDoor
