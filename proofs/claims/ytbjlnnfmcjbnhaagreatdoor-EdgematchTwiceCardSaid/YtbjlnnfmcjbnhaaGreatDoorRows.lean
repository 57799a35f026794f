/-
  NARROWER THAN 'FOR EVERY INPUT', by the rows' own cells (each row's printed sentence says how): EdgematchCrossings: laid · EdgematchExpected: laid · EdgematchMatches: laid · EdgematchNeighbors: laid · EdgematchTwice: laid.
  DERIVED. THE GIVEN ROWS OF THIS SEAT. 5 by the template 'for every input the law returns true; each argument reads behind the call as it read before'; 0 by the template 'total and deterministic' (their statements: YtbjlnnfmcjbnhaaGreatDoorTotals.lean).
  GIVEN WITH THE SEED: the statements are not yours to turn. If you find one false, say at which input.
  Laid BY PROGRAM, IN A SANDBOX (cutbox-rows.mjs): the forced cells as the released guide's own fill.sh prints them over the translation 070f07c47d1f6f0b… (all of the seat's roots in one cut). By AI agents, Wed Nov 11 2026. No macro, syntax, notation, axiom, sorry.
-/
import Derived.Test.YtbjlnnfmcjbnhaaGreatDoorChecked
import GoSem.Claim
import GoSem.ClaimJoined
import GoSem.ClaimMapViews
import Derived.JoinedTies
import Derived.KernelRfl
namespace Go.Proofs.YtbjlnnfmcjbnhaaGreatDoor
/- THE CELL 'sum', in the pinned program and in every row, IS THE sha256 OF THE DUMP (.gsa) THAT YtbjlnnfmcjbnhaaGreatDoorProg.lean LOADS. Nothing in Lean hashes anything: it is a label: what it is worth is what the hold of that sum in a sandbox is worth. -/
noncomputable def Tryz.pinned : Pinned := { name := "ytbjlnnfmcjbnhaagreatdoor", sum := "070f07c47d1f6f0b75c41a56bfd2618d1e0cbc3f474ebf9c51c0849301656abe", checked := Tryz.checked }
namespace Rows
def none {H : Type} : Left H := { results := [], args := [] }

/- WHAT THE LISTED PACKAGE-LEVEL VARIABLES READ AS WHEN THE CALL BEGINS. Each datum BY PROGRAM (the guide's laid-datum.mjs) off the statement by which the dump's own 'gosem.cut.vars' lays the variable. In a bare row this is a premise. The card (YtbjlnnfmcjbnhaaGreatDoorCards.lean) ties it to the program's text. -/
def laid_mapsheets_sheetgrid_moves {H : Type} : DataW H := .agg [.agg [.lit (.int .i64 (-1)), .lit (.int .i64 0)], .agg [.lit (.int .i64 0), .lit (.int .i64 (-1))], .agg [.lit (.int .i64 1), .lit (.int .i64 0)], .agg [.lit (.int .i64 0), .lit (.int .i64 1)]]

/-- 'mapsheetslaw42.EdgematchCrossings': WHATEVER THE INPUT: true; the input reads as it did. -/
def edgematchCrossingsSpec : ChangeSpec := { name := "edgematchCrossings", fn := fun _ => fun
  | [d1, d2, d3] => { results := [.lit (.bool true)], args := [d1, d2, d3] }
  | _ => none }
def edgematchCrossingsRow : OpenClaim := { program := "ytbjlnnfmcjbnhaagreatdoor", sum := "070f07c47d1f6f0b75c41a56bfd2618d1e0cbc3f474ebf9c51c0849301656abe", func := "mapsheets/mapsheetslaw42.EdgematchCrossings", spec := "edgematchCrossings", unfollowed := true, recurses := true, named := ["mapsheets/sheetgrid.moves"], plainKeys := false, apart := false, laid := [("mapsheets/sheetgrid.moves", laid_mapsheets_sheetgrid_moves)] }
def EdgematchCrossingsSaid : Prop := edgematchCrossingsRow.holds Tryz.pinned (OpenSpec.ofChange edgematchCrossingsSpec)

/-- ITS FALSE NEIGHBOUR: 'it returns false'. Refute it at one input. -/
def edgematchCrossingsWrong : ChangeSpec := { name := "edgematchCrossings", fn := fun _ => fun
  | [d1, d2, d3] => { results := [.lit (.bool false)], args := [d1, d2, d3] }
  | _ => none }
def EdgematchCrossingsWrongFalsely : Prop := edgematchCrossingsRow.holds Tryz.pinned (OpenSpec.ofChange edgematchCrossingsWrong)

/-- 'mapsheetslaw42.EdgematchExpected': WHATEVER THE INPUT: true; the input reads as it did. -/
def edgematchExpectedSpec : ChangeSpec := { name := "edgematchExpected", fn := fun _ => fun
  | [d1, d2, d3, d4] => { results := [.lit (.bool true)], args := [d1, d2, d3, d4] }
  | _ => none }
def edgematchExpectedRow : OpenClaim := { program := "ytbjlnnfmcjbnhaagreatdoor", sum := "070f07c47d1f6f0b75c41a56bfd2618d1e0cbc3f474ebf9c51c0849301656abe", func := "mapsheets/mapsheetslaw42.EdgematchExpected", spec := "edgematchExpected", unfollowed := true, recurses := true, named := ["mapsheets/sheetgrid.moves"], plainKeys := false, apart := false, laid := [("mapsheets/sheetgrid.moves", laid_mapsheets_sheetgrid_moves)] }
def EdgematchExpectedSaid : Prop := edgematchExpectedRow.holds Tryz.pinned (OpenSpec.ofChange edgematchExpectedSpec)

/-- ITS FALSE NEIGHBOUR: 'it returns false'. Refute it at one input. -/
def edgematchExpectedWrong : ChangeSpec := { name := "edgematchExpected", fn := fun _ => fun
  | [d1, d2, d3, d4] => { results := [.lit (.bool false)], args := [d1, d2, d3, d4] }
  | _ => none }
def EdgematchExpectedWrongFalsely : Prop := edgematchExpectedRow.holds Tryz.pinned (OpenSpec.ofChange edgematchExpectedWrong)

/-- 'mapsheetslaw42.EdgematchMatches': WHATEVER THE INPUT: true; the input reads as it did. -/
def edgematchMatchesSpec : ChangeSpec := { name := "edgematchMatches", fn := fun _ => fun
  | [d1, d2] => { results := [.lit (.bool true)], args := [d1, d2] }
  | _ => none }
def edgematchMatchesRow : OpenClaim := { program := "ytbjlnnfmcjbnhaagreatdoor", sum := "070f07c47d1f6f0b75c41a56bfd2618d1e0cbc3f474ebf9c51c0849301656abe", func := "mapsheets/mapsheetslaw42.EdgematchMatches", spec := "edgematchMatches", unfollowed := true, recurses := true, named := ["mapsheets/sheetgrid.moves"], plainKeys := false, apart := false, laid := [("mapsheets/sheetgrid.moves", laid_mapsheets_sheetgrid_moves)] }
def EdgematchMatchesSaid : Prop := edgematchMatchesRow.holds Tryz.pinned (OpenSpec.ofChange edgematchMatchesSpec)

/-- ITS FALSE NEIGHBOUR: 'it returns false'. Refute it at one input. -/
def edgematchMatchesWrong : ChangeSpec := { name := "edgematchMatches", fn := fun _ => fun
  | [d1, d2] => { results := [.lit (.bool false)], args := [d1, d2] }
  | _ => none }
def EdgematchMatchesWrongFalsely : Prop := edgematchMatchesRow.holds Tryz.pinned (OpenSpec.ofChange edgematchMatchesWrong)

/-- 'mapsheetslaw42.EdgematchNeighbors': WHATEVER THE INPUT: true; the input reads as it did. -/
def edgematchNeighborsSpec : ChangeSpec := { name := "edgematchNeighbors", fn := fun _ => fun
  | [d1, d2, d3, d4] => { results := [.lit (.bool true)], args := [d1, d2, d3, d4] }
  | _ => none }
def edgematchNeighborsRow : OpenClaim := { program := "ytbjlnnfmcjbnhaagreatdoor", sum := "070f07c47d1f6f0b75c41a56bfd2618d1e0cbc3f474ebf9c51c0849301656abe", func := "mapsheets/mapsheetslaw42.EdgematchNeighbors", spec := "edgematchNeighbors", unfollowed := true, recurses := true, named := ["mapsheets/sheetgrid.moves"], plainKeys := false, apart := false, laid := [("mapsheets/sheetgrid.moves", laid_mapsheets_sheetgrid_moves)] }
def EdgematchNeighborsSaid : Prop := edgematchNeighborsRow.holds Tryz.pinned (OpenSpec.ofChange edgematchNeighborsSpec)

/-- ITS FALSE NEIGHBOUR: 'it returns false'. Refute it at one input. -/
def edgematchNeighborsWrong : ChangeSpec := { name := "edgematchNeighbors", fn := fun _ => fun
  | [d1, d2, d3, d4] => { results := [.lit (.bool false)], args := [d1, d2, d3, d4] }
  | _ => none }
def EdgematchNeighborsWrongFalsely : Prop := edgematchNeighborsRow.holds Tryz.pinned (OpenSpec.ofChange edgematchNeighborsWrong)

/-- 'mapsheetslaw42.EdgematchTwice': WHATEVER THE INPUT: true; the input reads as it did. -/
def edgematchTwiceSpec : ChangeSpec := { name := "edgematchTwice", fn := fun _ => fun
  | [d] => { results := [.lit (.bool true)], args := [d] }
  | _ => none }
def edgematchTwiceRow : OpenClaim := { program := "ytbjlnnfmcjbnhaagreatdoor", sum := "070f07c47d1f6f0b75c41a56bfd2618d1e0cbc3f474ebf9c51c0849301656abe", func := "mapsheets/mapsheetslaw42.EdgematchTwice", spec := "edgematchTwice", unfollowed := true, recurses := true, named := ["mapsheets/sheetgrid.moves"], plainKeys := false, apart := false, laid := [("mapsheets/sheetgrid.moves", laid_mapsheets_sheetgrid_moves)] }
def EdgematchTwiceSaid : Prop := edgematchTwiceRow.holds Tryz.pinned (OpenSpec.ofChange edgematchTwiceSpec)

/-- ITS FALSE NEIGHBOUR: 'it returns false'. Refute it at one input. -/
def edgematchTwiceWrong : ChangeSpec := { name := "edgematchTwice", fn := fun _ => fun
  | [d] => { results := [.lit (.bool false)], args := [d] }
  | _ => none }
def EdgematchTwiceWrongFalsely : Prop := edgematchTwiceRow.holds Tryz.pinned (OpenSpec.ofChange edgematchTwiceWrong)

/- THE SECOND FORM. 'bulk': how many values and letters a reading holds, each counted each time it is reached (what is shared counts as often as it is met; a slice's spare places count too). A statement '..UptoSaid' is the law's where the arguments, and the package variables that the reading takes, are together of bulk at most 1048576: NARROWER than '..Said'. Prove '..Said' where nothing that the law and all that it calls make is longer than what came in: it says more and counts as full. Else prove '..UptoSaid'. A law counts once. -/
mutual
def uptoBulk {H : Type} : DataW H → Nat
  | .lit (.string bytes) => bytes.length + 1
  | .lit _ => 1
  | .nil => 1
  | .ptr d => uptoBulk d + 1
  | .slice elems spare => uptoBulkAll elems + uptoBulkAll spare + 1
  | .agg parts => uptoBulkAll parts + 1
  | .iface _ d => uptoBulk d + 1
  | .map entries => uptoBulkEntries entries + 1
  | .held _ => 1
def uptoBulkAll {H : Type} : List (DataW H) → Nat
  | [] => 0
  | d :: r => uptoBulk d + uptoBulkAll r
def uptoBulkEntries {H : Type} : List (Lit × DataW H) → Nat
  | [] => 0
  | x :: r => uptoBulkEntry x + uptoBulkEntries r
def uptoBulkEntry {H : Type} : Lit × DataW H → Nat
  | (.string bytes, d) => bytes.length + uptoBulk d + 1
  | (_, d) => uptoBulk d + 1
 end
def uptoSmall : (H : Type) → List (DataW H) → Bool := fun _ ds => decide (uptoBulkAll ds ≤ 1048576)
def OpenSpec.upto (s : _root_.Go.ChangeSpec) : _root_.Go.OpenSpec := { _root_.Go.OpenSpec.ofChange s with cond := some uptoSmall }

/-- 'mapsheetslaw42.EdgematchCrossings', WHERE WHAT IT READS IS OF BULK AT MOST 1048576: true; the input reads as it did. -/
def edgematchCrossingsUptoRow : OpenClaim := { program := "ytbjlnnfmcjbnhaagreatdoor", sum := "070f07c47d1f6f0b75c41a56bfd2618d1e0cbc3f474ebf9c51c0849301656abe", func := "mapsheets/mapsheetslaw42.EdgematchCrossings", spec := "edgematchCrossings", unfollowed := true, recurses := true, named := ["mapsheets/sheetgrid.moves"], plainKeys := false, apart := false, laid := [("mapsheets/sheetgrid.moves", laid_mapsheets_sheetgrid_moves)], narrowed := true }
def EdgematchCrossingsUptoSaid : Prop := edgematchCrossingsUptoRow.holds Tryz.pinned (OpenSpec.upto edgematchCrossingsSpec)

/-- 'mapsheetslaw42.EdgematchExpected', WHERE WHAT IT READS IS OF BULK AT MOST 1048576: true; the input reads as it did. -/
def edgematchExpectedUptoRow : OpenClaim := { program := "ytbjlnnfmcjbnhaagreatdoor", sum := "070f07c47d1f6f0b75c41a56bfd2618d1e0cbc3f474ebf9c51c0849301656abe", func := "mapsheets/mapsheetslaw42.EdgematchExpected", spec := "edgematchExpected", unfollowed := true, recurses := true, named := ["mapsheets/sheetgrid.moves"], plainKeys := false, apart := false, laid := [("mapsheets/sheetgrid.moves", laid_mapsheets_sheetgrid_moves)], narrowed := true }
def EdgematchExpectedUptoSaid : Prop := edgematchExpectedUptoRow.holds Tryz.pinned (OpenSpec.upto edgematchExpectedSpec)

/-- 'mapsheetslaw42.EdgematchMatches', WHERE WHAT IT READS IS OF BULK AT MOST 1048576: true; the input reads as it did. -/
def edgematchMatchesUptoRow : OpenClaim := { program := "ytbjlnnfmcjbnhaagreatdoor", sum := "070f07c47d1f6f0b75c41a56bfd2618d1e0cbc3f474ebf9c51c0849301656abe", func := "mapsheets/mapsheetslaw42.EdgematchMatches", spec := "edgematchMatches", unfollowed := true, recurses := true, named := ["mapsheets/sheetgrid.moves"], plainKeys := false, apart := false, laid := [("mapsheets/sheetgrid.moves", laid_mapsheets_sheetgrid_moves)], narrowed := true }
def EdgematchMatchesUptoSaid : Prop := edgematchMatchesUptoRow.holds Tryz.pinned (OpenSpec.upto edgematchMatchesSpec)

/-- 'mapsheetslaw42.EdgematchNeighbors', WHERE WHAT IT READS IS OF BULK AT MOST 1048576: true; the input reads as it did. -/
def edgematchNeighborsUptoRow : OpenClaim := { program := "ytbjlnnfmcjbnhaagreatdoor", sum := "070f07c47d1f6f0b75c41a56bfd2618d1e0cbc3f474ebf9c51c0849301656abe", func := "mapsheets/mapsheetslaw42.EdgematchNeighbors", spec := "edgematchNeighbors", unfollowed := true, recurses := true, named := ["mapsheets/sheetgrid.moves"], plainKeys := false, apart := false, laid := [("mapsheets/sheetgrid.moves", laid_mapsheets_sheetgrid_moves)], narrowed := true }
def EdgematchNeighborsUptoSaid : Prop := edgematchNeighborsUptoRow.holds Tryz.pinned (OpenSpec.upto edgematchNeighborsSpec)

/-- 'mapsheetslaw42.EdgematchTwice', WHERE WHAT IT READS IS OF BULK AT MOST 1048576: true; the input reads as it did. -/
def edgematchTwiceUptoRow : OpenClaim := { program := "ytbjlnnfmcjbnhaagreatdoor", sum := "070f07c47d1f6f0b75c41a56bfd2618d1e0cbc3f474ebf9c51c0849301656abe", func := "mapsheets/mapsheetslaw42.EdgematchTwice", spec := "edgematchTwice", unfollowed := true, recurses := true, named := ["mapsheets/sheetgrid.moves"], plainKeys := false, apart := false, laid := [("mapsheets/sheetgrid.moves", laid_mapsheets_sheetgrid_moves)], narrowed := true }
def EdgematchTwiceUptoSaid : Prop := edgematchTwiceUptoRow.holds Tryz.pinned (OpenSpec.upto edgematchTwiceSpec)

end Rows
end Go.Proofs.YtbjlnnfmcjbnhaaGreatDoor
