/-
  DERIVED. GIVEN WITH THE SEED: THE CARDS: each row of YtfdbidagdjnipaaGreatDoorRows.lean that lists a variable, with what it lists TIED to the program's text (the seventh form; the later family's looks); each row that meets fmt, with fmt's text TOLD by the authors' own Lean function (tested against real Go, not proved from fmt's source: count such statements apart). THE CARD IS WHAT COUNTS. Prove the row's statement (the work); the ties are given (YtfdbidagdjnipaaGreatDoorTie.lean); close each card by the builder's one call (the guide's Derived/Test/ToyasCard.lean, 'card_holds'). Laid BY PROGRAM, IN A SANDBOX (cutbox-door.mjs). By AI agents, Wed Nov 11 2026. No macro, syntax, notation, axiom, sorry.
-/
import Derived.Test.YtfdbidagdjnipaaGreatDoorRows
import GoSem.ClaimSeven
namespace Go.Proofs.YtfdbidagdjnipaaGreatDoor
namespace Rows

/-- THE TIED CARD OF 'mapsheetslaw42.EdgematchParts'. -/
def edgematchPartsCard : Claim7 := { stood := { row := edgematchPartsRow, standIns := [], harness := (true, "c54d78529912e83118970457069d277e05f99aa161b096b08a13071cc497459d"), looks := false }, kinds := [], alts := [], laidByText := true, laidKinds := [.data], laidTests := true, laidLooks := .later }
def EdgematchPartsCardSaid : Prop := Claim7.holds Tryz.pinned (.plain (OpenSpec.ofChange edgematchPartsSpec)) edgematchPartsCard

/-- THE SECOND FORM's CARD OF 'mapsheetslaw42.EdgematchParts'. -/
def edgematchPartsUptoCard : Claim7 := { stood := { row := edgematchPartsUptoRow, standIns := [], harness := (true, "c54d78529912e83118970457069d277e05f99aa161b096b08a13071cc497459d"), looks := false }, kinds := [], alts := [], laidByText := true, laidKinds := [.data], laidTests := true, laidLooks := .later }
def EdgematchPartsUptoCardSaid : Prop := Claim7.holds Tryz.pinned (.plain (OpenSpec.upto edgematchPartsSpec)) edgematchPartsUptoCard
end Rows
end Go.Proofs.YtfdbidagdjnipaaGreatDoor
