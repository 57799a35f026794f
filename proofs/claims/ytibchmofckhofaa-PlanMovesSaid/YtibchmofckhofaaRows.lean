/-
  No cell of these rows narrows 'for every input' (looked for: loops, veiled, ifaces, maps, wideKeys, modest, calm, conditions, laid).
  DERIVED. THE GIVEN ROWS OF THIS SEAT. 6 by the template 'for every input the law returns true; each argument reads behind the call as it read before'; 0 by the template 'total and deterministic' (their statements: YtibchmofckhofaaTotals.lean).
  GIVEN WITH THE SEED: the statements are not yours to turn. If you find one false, say at which input.
  Laid BY PROGRAM, IN A SANDBOX (cutbox-rows.mjs): the forced cells as the released guide's own fill.sh prints them over the translation dad084c5afda79e3… (all of the seat's roots in one cut). By AI agents, Wed Nov 11 2026. No macro, syntax, notation, axiom, sorry.
-/
import Derived.Test.YtibchmofckhofaaChecked
import GoSem.Claim
import GoSem.ClaimJoined
import GoSem.ClaimMapViews
import Derived.JoinedTies
import Derived.KernelRfl
namespace Go.Proofs.Ytibchmofckhofaa
/- THE CELL 'sum', in the pinned program and in every row, IS THE sha256 OF THE DUMP (.gsa) THAT YtibchmofckhofaaProg.lean LOADS. Nothing in Lean hashes anything: it is a label: what it is worth is what the hold of that sum in a sandbox is worth. -/
noncomputable def Try.pinned : Pinned := { name := "ytibchmofckhofaa", sum := "dad084c5afda79e3532e137994664d7796e51b18f83023db3442ebbbf1812ebb", checked := Try.checked }
namespace Rows
def none {H : Type} : Left H := { results := [], args := [] }

/-- 'mapsheetslaw14.PlanFinds': WHATEVER THE INPUT: true; the input reads as it did. -/
def planFindsSpec : ChangeSpec := { name := "planFinds", fn := fun _ => fun
  | [d1, d2] => { results := [.lit (.bool true)], args := [d1, d2] }
  | _ => none }
def planFindsRow : OpenClaim := { program := "ytibchmofckhofaa", sum := "dad084c5afda79e3532e137994664d7796e51b18f83023db3442ebbbf1812ebb", func := "mapsheets/mapsheetslaw14.PlanFinds", spec := "planFinds", unfollowed := true, recurses := true, apart := false }
def PlanFindsSaid : Prop := planFindsRow.holds Try.pinned (OpenSpec.ofChange planFindsSpec)

/-- ITS FALSE NEIGHBOUR: 'it returns false'. Refute it at one input. -/
def planFindsWrong : ChangeSpec := { name := "planFinds", fn := fun _ => fun
  | [d1, d2] => { results := [.lit (.bool false)], args := [d1, d2] }
  | _ => none }
def PlanFindsWrongFalsely : Prop := planFindsRow.holds Try.pinned (OpenSpec.ofChange planFindsWrong)

/-- 'mapsheetslaw14.PlanChecks': WHATEVER THE INPUT: true; the input reads as it did. -/
def planChecksSpec : ChangeSpec := { name := "planChecks", fn := fun _ => fun
  | [d] => { results := [.lit (.bool true)], args := [d] }
  | _ => none }
def planChecksRow : OpenClaim := { program := "ytibchmofckhofaa", sum := "dad084c5afda79e3532e137994664d7796e51b18f83023db3442ebbbf1812ebb", func := "mapsheets/mapsheetslaw14.PlanChecks", spec := "planChecks", unfollowed := true, recurses := true, apart := false }
def PlanChecksSaid : Prop := planChecksRow.holds Try.pinned (OpenSpec.ofChange planChecksSpec)

/-- ITS FALSE NEIGHBOUR: 'it returns false'. Refute it at one input. -/
def planChecksWrong : ChangeSpec := { name := "planChecks", fn := fun _ => fun
  | [d] => { results := [.lit (.bool false)], args := [d] }
  | _ => none }
def PlanChecksWrongFalsely : Prop := planChecksRow.holds Try.pinned (OpenSpec.ofChange planChecksWrong)

/-- 'mapsheetslaw14.PlanPaths': WHATEVER THE INPUT: true; the input reads as it did. -/
def planPathsSpec : ChangeSpec := { name := "planPaths", fn := fun _ => fun
  | [d] => { results := [.lit (.bool true)], args := [d] }
  | _ => none }
def planPathsRow : OpenClaim := { program := "ytibchmofckhofaa", sum := "dad084c5afda79e3532e137994664d7796e51b18f83023db3442ebbbf1812ebb", func := "mapsheets/mapsheetslaw14.PlanPaths", spec := "planPaths", unfollowed := true, recurses := true, apart := false }
def PlanPathsSaid : Prop := planPathsRow.holds Try.pinned (OpenSpec.ofChange planPathsSpec)

/-- ITS FALSE NEIGHBOUR: 'it returns false'. Refute it at one input. -/
def planPathsWrong : ChangeSpec := { name := "planPaths", fn := fun _ => fun
  | [d] => { results := [.lit (.bool false)], args := [d] }
  | _ => none }
def PlanPathsWrongFalsely : Prop := planPathsRow.holds Try.pinned (OpenSpec.ofChange planPathsWrong)

/-- 'mapsheetslaw14.PlanReverses': WHATEVER THE INPUT: true; the input reads as it did. -/
def planReversesSpec : ChangeSpec := { name := "planReverses", fn := fun _ => fun
  | [d1, d2] => { results := [.lit (.bool true)], args := [d1, d2] }
  | _ => none }
def planReversesRow : OpenClaim := { program := "ytibchmofckhofaa", sum := "dad084c5afda79e3532e137994664d7796e51b18f83023db3442ebbbf1812ebb", func := "mapsheets/mapsheetslaw14.PlanReverses", spec := "planReverses", unfollowed := true, recurses := true, apart := false }
def PlanReversesSaid : Prop := planReversesRow.holds Try.pinned (OpenSpec.ofChange planReversesSpec)

/-- ITS FALSE NEIGHBOUR: 'it returns false'. Refute it at one input. -/
def planReversesWrong : ChangeSpec := { name := "planReverses", fn := fun _ => fun
  | [d1, d2] => { results := [.lit (.bool false)], args := [d1, d2] }
  | _ => none }
def PlanReversesWrongFalsely : Prop := planReversesRow.holds Try.pinned (OpenSpec.ofChange planReversesWrong)

/-- 'mapsheetslaw14.PlanMoves': WHATEVER THE INPUT: true; the input reads as it did. -/
def planMovesSpec : ChangeSpec := { name := "planMoves", fn := fun _ => fun
  | [d1, d2, d3] => { results := [.lit (.bool true)], args := [d1, d2, d3] }
  | _ => none }
def planMovesRow : OpenClaim := { program := "ytibchmofckhofaa", sum := "dad084c5afda79e3532e137994664d7796e51b18f83023db3442ebbbf1812ebb", func := "mapsheets/mapsheetslaw14.PlanMoves", spec := "planMoves", unfollowed := true, recurses := true, apart := false }
def PlanMovesSaid : Prop := planMovesRow.holds Try.pinned (OpenSpec.ofChange planMovesSpec)

/-- ITS FALSE NEIGHBOUR: 'it returns false'. Refute it at one input. -/
def planMovesWrong : ChangeSpec := { name := "planMoves", fn := fun _ => fun
  | [d1, d2, d3] => { results := [.lit (.bool false)], args := [d1, d2, d3] }
  | _ => none }
def PlanMovesWrongFalsely : Prop := planMovesRow.holds Try.pinned (OpenSpec.ofChange planMovesWrong)

/-- 'mapsheetslaw14.PlanDrops': WHATEVER THE INPUT: true; the input reads as it did. -/
def planDropsSpec : ChangeSpec := { name := "planDrops", fn := fun _ => fun
  | [d1, d2] => { results := [.lit (.bool true)], args := [d1, d2] }
  | _ => none }
def planDropsRow : OpenClaim := { program := "ytibchmofckhofaa", sum := "dad084c5afda79e3532e137994664d7796e51b18f83023db3442ebbbf1812ebb", func := "mapsheets/mapsheetslaw14.PlanDrops", spec := "planDrops", unfollowed := true, recurses := true, apart := false }
def PlanDropsSaid : Prop := planDropsRow.holds Try.pinned (OpenSpec.ofChange planDropsSpec)

/-- ITS FALSE NEIGHBOUR: 'it returns false'. Refute it at one input. -/
def planDropsWrong : ChangeSpec := { name := "planDrops", fn := fun _ => fun
  | [d1, d2] => { results := [.lit (.bool false)], args := [d1, d2] }
  | _ => none }
def PlanDropsWrongFalsely : Prop := planDropsRow.holds Try.pinned (OpenSpec.ofChange planDropsWrong)

/- THE SECOND FORM. 'bulk': how many values and letters a reading holds, each counted each time it is reached (what is shared counts as often as it is met; a slice's spare places count too). A statement '..UptoSaid' is the law's where the arguments, and the package variables that the reading takes, are together of bulk at most 1048576: NARROWER than '..Said'. Prove '..Said' where nothing that the law and all that it calls make is longer than what came in: it says more and counts as full. Else prove '..UptoSaid'. A law counts once. -/
mutual
def uptoBulk {H : Type} : DataW H → Nat
  | .lit (.string bytes) => bytes.length + 1
  | .lit _ => 1
  | .nil => 1
  | .ptr d => uptoBulk d + 1
  | .slice elems spare => uptoBulkAll elems + uptoBulkAll spare + 1
  | .agg parts => uptoBulkAll parts + 1
  | .iface _ d => uptoBulk d + 1
  | .map entries => uptoBulkEntries entries + 1
  | .held _ => 1
def uptoBulkAll {H : Type} : List (DataW H) → Nat
  | [] => 0
  | d :: r => uptoBulk d + uptoBulkAll r
def uptoBulkEntries {H : Type} : List (Lit × DataW H) → Nat
  | [] => 0
  | x :: r => uptoBulkEntry x + uptoBulkEntries r
def uptoBulkEntry {H : Type} : Lit × DataW H → Nat
  | (.string bytes, d) => bytes.length + uptoBulk d + 1
  | (_, d) => uptoBulk d + 1
 end
def uptoSmall : (H : Type) → List (DataW H) → Bool := fun _ ds => decide (uptoBulkAll ds ≤ 1048576)
def OpenSpec.upto (s : _root_.Go.ChangeSpec) : _root_.Go.OpenSpec := { _root_.Go.OpenSpec.ofChange s with cond := some uptoSmall }

/-- 'mapsheetslaw14.PlanFinds', WHERE WHAT IT READS IS OF BULK AT MOST 1048576: true; the input reads as it did. -/
def planFindsUptoRow : OpenClaim := { program := "ytibchmofckhofaa", sum := "dad084c5afda79e3532e137994664d7796e51b18f83023db3442ebbbf1812ebb", func := "mapsheets/mapsheetslaw14.PlanFinds", spec := "planFinds", unfollowed := true, recurses := true, apart := false, narrowed := true }
def PlanFindsUptoSaid : Prop := planFindsUptoRow.holds Try.pinned (OpenSpec.upto planFindsSpec)

/-- 'mapsheetslaw14.PlanChecks', WHERE WHAT IT READS IS OF BULK AT MOST 1048576: true; the input reads as it did. -/
def planChecksUptoRow : OpenClaim := { program := "ytibchmofckhofaa", sum := "dad084c5afda79e3532e137994664d7796e51b18f83023db3442ebbbf1812ebb", func := "mapsheets/mapsheetslaw14.PlanChecks", spec := "planChecks", unfollowed := true, recurses := true, apart := false, narrowed := true }
def PlanChecksUptoSaid : Prop := planChecksUptoRow.holds Try.pinned (OpenSpec.upto planChecksSpec)

/-- 'mapsheetslaw14.PlanPaths', WHERE WHAT IT READS IS OF BULK AT MOST 1048576: true; the input reads as it did. -/
def planPathsUptoRow : OpenClaim := { program := "ytibchmofckhofaa", sum := "dad084c5afda79e3532e137994664d7796e51b18f83023db3442ebbbf1812ebb", func := "mapsheets/mapsheetslaw14.PlanPaths", spec := "planPaths", unfollowed := true, recurses := true, apart := false, narrowed := true }
def PlanPathsUptoSaid : Prop := planPathsUptoRow.holds Try.pinned (OpenSpec.upto planPathsSpec)

/-- 'mapsheetslaw14.PlanReverses', WHERE WHAT IT READS IS OF BULK AT MOST 1048576: true; the input reads as it did. -/
def planReversesUptoRow : OpenClaim := { program := "ytibchmofckhofaa", sum := "dad084c5afda79e3532e137994664d7796e51b18f83023db3442ebbbf1812ebb", func := "mapsheets/mapsheetslaw14.PlanReverses", spec := "planReverses", unfollowed := true, recurses := true, apart := false, narrowed := true }
def PlanReversesUptoSaid : Prop := planReversesUptoRow.holds Try.pinned (OpenSpec.upto planReversesSpec)

/-- 'mapsheetslaw14.PlanMoves', WHERE WHAT IT READS IS OF BULK AT MOST 1048576: true; the input reads as it did. -/
def planMovesUptoRow : OpenClaim := { program := "ytibchmofckhofaa", sum := "dad084c5afda79e3532e137994664d7796e51b18f83023db3442ebbbf1812ebb", func := "mapsheets/mapsheetslaw14.PlanMoves", spec := "planMoves", unfollowed := true, recurses := true, apart := false, narrowed := true }
def PlanMovesUptoSaid : Prop := planMovesUptoRow.holds Try.pinned (OpenSpec.upto planMovesSpec)

/-- 'mapsheetslaw14.PlanDrops', WHERE WHAT IT READS IS OF BULK AT MOST 1048576: true; the input reads as it did. -/
def planDropsUptoRow : OpenClaim := { program := "ytibchmofckhofaa", sum := "dad084c5afda79e3532e137994664d7796e51b18f83023db3442ebbbf1812ebb", func := "mapsheets/mapsheetslaw14.PlanDrops", spec := "planDrops", unfollowed := true, recurses := true, apart := false, narrowed := true }
def PlanDropsUptoSaid : Prop := planDropsUptoRow.holds Try.pinned (OpenSpec.upto planDropsSpec)

end Rows
end Go.Proofs.Ytibchmofckhofaa
