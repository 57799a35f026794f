/-
  DERIVED. GIVEN WITH THE SEED: THE CARDS: each row of YtbjlnnfmcjbnhaaGreatDoorRows.lean that lists a variable, with what it lists TIED to the program's text (the seventh form; the later family's looks); each row that meets fmt, with fmt's text TOLD by the authors' own Lean function (tested against real Go, not proved from fmt's source: count such statements apart). THE CARD IS WHAT COUNTS. Prove the row's statement (the work); the ties are given (YtbjlnnfmcjbnhaaGreatDoorTie.lean); close each card by the builder's one call (the guide's Derived/Test/ToyasCard.lean, 'card_holds'). Laid BY PROGRAM, IN A SANDBOX (cutbox-door.mjs). By AI agents, Wed Nov 11 2026. No macro, syntax, notation, axiom, sorry.
-/
import Derived.Test.YtbjlnnfmcjbnhaaGreatDoorRows
import GoSem.ClaimSeven
namespace Go.Proofs.YtbjlnnfmcjbnhaaGreatDoor
namespace Rows

/-- THE TIED CARD OF 'mapsheetslaw42.EdgematchCrossings'. -/
def edgematchCrossingsCard : Claim7 := { stood := { row := edgematchCrossingsRow, standIns := [], harness := (true, "57abc120d5ac8c8e8ede80a5fc06e16b71978fa00f109a30c87a9e4dd5fab177"), looks := false }, kinds := [], alts := [], laidByText := true, laidKinds := [.data], laidTests := true, laidLooks := .later }
def EdgematchCrossingsCardSaid : Prop := Claim7.holds Tryz.pinned (.plain (OpenSpec.ofChange edgematchCrossingsSpec)) edgematchCrossingsCard

/-- THE TIED CARD OF 'mapsheetslaw42.EdgematchExpected'. -/
def edgematchExpectedCard : Claim7 := { stood := { row := edgematchExpectedRow, standIns := [], harness := (true, "57abc120d5ac8c8e8ede80a5fc06e16b71978fa00f109a30c87a9e4dd5fab177"), looks := false }, kinds := [], alts := [], laidByText := true, laidKinds := [.data], laidTests := true, laidLooks := .later }
def EdgematchExpectedCardSaid : Prop := Claim7.holds Tryz.pinned (.plain (OpenSpec.ofChange edgematchExpectedSpec)) edgematchExpectedCard

/-- THE TIED CARD OF 'mapsheetslaw42.EdgematchMatches'. -/
def edgematchMatchesCard : Claim7 := { stood := { row := edgematchMatchesRow, standIns := [], harness := (true, "57abc120d5ac8c8e8ede80a5fc06e16b71978fa00f109a30c87a9e4dd5fab177"), looks := false }, kinds := [], alts := [], laidByText := true, laidKinds := [.data], laidTests := true, laidLooks := .later }
def EdgematchMatchesCardSaid : Prop := Claim7.holds Tryz.pinned (.plain (OpenSpec.ofChange edgematchMatchesSpec)) edgematchMatchesCard

/-- THE TIED CARD OF 'mapsheetslaw42.EdgematchNeighbors'. -/
def edgematchNeighborsCard : Claim7 := { stood := { row := edgematchNeighborsRow, standIns := [], harness := (true, "57abc120d5ac8c8e8ede80a5fc06e16b71978fa00f109a30c87a9e4dd5fab177"), looks := false }, kinds := [], alts := [], laidByText := true, laidKinds := [.data], laidTests := true, laidLooks := .later }
def EdgematchNeighborsCardSaid : Prop := Claim7.holds Tryz.pinned (.plain (OpenSpec.ofChange edgematchNeighborsSpec)) edgematchNeighborsCard

/-- THE TIED CARD OF 'mapsheetslaw42.EdgematchTwice'. -/
def edgematchTwiceCard : Claim7 := { stood := { row := edgematchTwiceRow, standIns := [], harness := (true, "57abc120d5ac8c8e8ede80a5fc06e16b71978fa00f109a30c87a9e4dd5fab177"), looks := false }, kinds := [], alts := [], laidByText := true, laidKinds := [.data], laidTests := true, laidLooks := .later }
def EdgematchTwiceCardSaid : Prop := Claim7.holds Tryz.pinned (.plain (OpenSpec.ofChange edgematchTwiceSpec)) edgematchTwiceCard

/-- THE SECOND FORM's CARD OF 'mapsheetslaw42.EdgematchCrossings'. -/
def edgematchCrossingsUptoCard : Claim7 := { stood := { row := edgematchCrossingsUptoRow, standIns := [], harness := (true, "57abc120d5ac8c8e8ede80a5fc06e16b71978fa00f109a30c87a9e4dd5fab177"), looks := false }, kinds := [], alts := [], laidByText := true, laidKinds := [.data], laidTests := true, laidLooks := .later }
def EdgematchCrossingsUptoCardSaid : Prop := Claim7.holds Tryz.pinned (.plain (OpenSpec.upto edgematchCrossingsSpec)) edgematchCrossingsUptoCard

/-- THE SECOND FORM's CARD OF 'mapsheetslaw42.EdgematchExpected'. -/
def edgematchExpectedUptoCard : Claim7 := { stood := { row := edgematchExpectedUptoRow, standIns := [], harness := (true, "57abc120d5ac8c8e8ede80a5fc06e16b71978fa00f109a30c87a9e4dd5fab177"), looks := false }, kinds := [], alts := [], laidByText := true, laidKinds := [.data], laidTests := true, laidLooks := .later }
def EdgematchExpectedUptoCardSaid : Prop := Claim7.holds Tryz.pinned (.plain (OpenSpec.upto edgematchExpectedSpec)) edgematchExpectedUptoCard

/-- THE SECOND FORM's CARD OF 'mapsheetslaw42.EdgematchMatches'. -/
def edgematchMatchesUptoCard : Claim7 := { stood := { row := edgematchMatchesUptoRow, standIns := [], harness := (true, "57abc120d5ac8c8e8ede80a5fc06e16b71978fa00f109a30c87a9e4dd5fab177"), looks := false }, kinds := [], alts := [], laidByText := true, laidKinds := [.data], laidTests := true, laidLooks := .later }
def EdgematchMatchesUptoCardSaid : Prop := Claim7.holds Tryz.pinned (.plain (OpenSpec.upto edgematchMatchesSpec)) edgematchMatchesUptoCard

/-- THE SECOND FORM's CARD OF 'mapsheetslaw42.EdgematchNeighbors'. -/
def edgematchNeighborsUptoCard : Claim7 := { stood := { row := edgematchNeighborsUptoRow, standIns := [], harness := (true, "57abc120d5ac8c8e8ede80a5fc06e16b71978fa00f109a30c87a9e4dd5fab177"), looks := false }, kinds := [], alts := [], laidByText := true, laidKinds := [.data], laidTests := true, laidLooks := .later }
def EdgematchNeighborsUptoCardSaid : Prop := Claim7.holds Tryz.pinned (.plain (OpenSpec.upto edgematchNeighborsSpec)) edgematchNeighborsUptoCard

/-- THE SECOND FORM's CARD OF 'mapsheetslaw42.EdgematchTwice'. -/
def edgematchTwiceUptoCard : Claim7 := { stood := { row := edgematchTwiceUptoRow, standIns := [], harness := (true, "57abc120d5ac8c8e8ede80a5fc06e16b71978fa00f109a30c87a9e4dd5fab177"), looks := false }, kinds := [], alts := [], laidByText := true, laidKinds := [.data], laidTests := true, laidLooks := .later }
def EdgematchTwiceUptoCardSaid : Prop := Claim7.holds Tryz.pinned (.plain (OpenSpec.upto edgematchTwiceSpec)) edgematchTwiceUptoCard
end Rows
end Go.Proofs.YtbjlnnfmcjbnhaaGreatDoor
