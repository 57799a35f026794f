/-
  No cell of these rows narrows 'for every input' (looked for: loops, veiled, ifaces, maps, wideKeys, modest, calm, conditions, laid).
  DERIVED. THE GIVEN ROWS OF THIS SEAT. 12 by the template 'for every input the law returns true; each argument reads behind the call as it read before'; 0 by the template 'total and deterministic' (their statements: YtngoejdlompfoaaGreatTotals.lean).
  GIVEN WITH THE SEED: the statements are not yours to turn. If you find one false, say at which input.
  Laid BY PROGRAM, IN A SANDBOX (cutbox-rows.mjs): the forced cells as the released guide's own fill.sh prints them over the translation dfa6fbc1a6e43ec1… (all of the seat's roots in one cut). By AI agents, Wed Nov 11 2026. No macro, syntax, notation, axiom, sorry.
-/
import Derived.Test.YtngoejdlompfoaaGreatChecked
import GoSem.Claim
import GoSem.ClaimJoined
import GoSem.ClaimMapViews
import Derived.JoinedTies
import Derived.KernelRfl
namespace Go.Proofs.YtngoejdlompfoaaGreat
/- THE CELL 'sum', in the pinned program and in every row, IS THE sha256 OF THE DUMP (.gsa) THAT YtngoejdlompfoaaGreatProg.lean LOADS. Nothing in Lean hashes anything: it is a label: what it is worth is what the hold of that sum in a sandbox is worth. -/
noncomputable def Tryz.pinned : Pinned := { name := "ytngoejdlompfoaagreat", sum := "dfa6fbc1a6e43ec104e5c6c80eb8f45f97a9ed461a49a2d7f16e67d31a046d22", checked := Tryz.checked }
namespace Rows
def none {H : Type} : Left H := { results := [], args := [] }

/-- 'mapsheetslaw34.SimplifyFrees': WHATEVER THE INPUT: true; the input reads as it did. -/
def simplifyFreesSpec : ChangeSpec := { name := "simplifyFrees", fn := fun _ => fun
  | [d1, d2, d3] => { results := [.lit (.bool true)], args := [d1, d2, d3] }
  | _ => none }
def simplifyFreesRow : OpenClaim := { program := "ytngoejdlompfoaagreat", sum := "dfa6fbc1a6e43ec104e5c6c80eb8f45f97a9ed461a49a2d7f16e67d31a046d22", func := "mapsheets/mapsheetslaw34.SimplifyFrees", spec := "simplifyFrees", unfollowed := true, recurses := true, apart := false }
def SimplifyFreesSaid : Prop := simplifyFreesRow.holds Tryz.pinned (OpenSpec.ofChange simplifyFreesSpec)

/-- ITS FALSE NEIGHBOUR: 'it returns false'. Refute it at one input. -/
def simplifyFreesWrong : ChangeSpec := { name := "simplifyFrees", fn := fun _ => fun
  | [d1, d2, d3] => { results := [.lit (.bool false)], args := [d1, d2, d3] }
  | _ => none }
def SimplifyFreesWrongFalsely : Prop := simplifyFreesRow.holds Tryz.pinned (OpenSpec.ofChange simplifyFreesWrong)

/-- 'mapsheetslaw34.SimplifySteps': WHATEVER THE INPUT: true; the input reads as it did. -/
def simplifyStepsSpec : ChangeSpec := { name := "simplifySteps", fn := fun _ => fun
  | [d1, d2] => { results := [.lit (.bool true)], args := [d1, d2] }
  | _ => none }
def simplifyStepsRow : OpenClaim := { program := "ytngoejdlompfoaagreat", sum := "dfa6fbc1a6e43ec104e5c6c80eb8f45f97a9ed461a49a2d7f16e67d31a046d22", func := "mapsheets/mapsheetslaw34.SimplifySteps", spec := "simplifySteps", unfollowed := true, recurses := true, apart := false }
def SimplifyStepsSaid : Prop := simplifyStepsRow.holds Tryz.pinned (OpenSpec.ofChange simplifyStepsSpec)

/-- ITS FALSE NEIGHBOUR: 'it returns false'. Refute it at one input. -/
def simplifyStepsWrong : ChangeSpec := { name := "simplifySteps", fn := fun _ => fun
  | [d1, d2] => { results := [.lit (.bool false)], args := [d1, d2] }
  | _ => none }
def SimplifyStepsWrongFalsely : Prop := simplifyStepsRow.holds Tryz.pinned (OpenSpec.ofChange simplifyStepsWrong)

/-- 'mapsheetslaw34.SimplifyDefined': WHATEVER THE INPUT: true; the input reads as it did. -/
def simplifyDefinedSpec : ChangeSpec := { name := "simplifyDefined", fn := fun _ => fun
  | [d1, d2] => { results := [.lit (.bool true)], args := [d1, d2] }
  | _ => none }
def simplifyDefinedRow : OpenClaim := { program := "ytngoejdlompfoaagreat", sum := "dfa6fbc1a6e43ec104e5c6c80eb8f45f97a9ed461a49a2d7f16e67d31a046d22", func := "mapsheets/mapsheetslaw34.SimplifyDefined", spec := "simplifyDefined", unfollowed := true, recurses := true, apart := false }
def SimplifyDefinedSaid : Prop := simplifyDefinedRow.holds Tryz.pinned (OpenSpec.ofChange simplifyDefinedSpec)

/-- ITS FALSE NEIGHBOUR: 'it returns false'. Refute it at one input. -/
def simplifyDefinedWrong : ChangeSpec := { name := "simplifyDefined", fn := fun _ => fun
  | [d1, d2] => { results := [.lit (.bool false)], args := [d1, d2] }
  | _ => none }
def SimplifyDefinedWrongFalsely : Prop := simplifyDefinedRow.holds Tryz.pinned (OpenSpec.ofChange simplifyDefinedWrong)

/-- 'mapsheetslaw34.SimplifyTurns': WHATEVER THE INPUT: true; the input reads as it did. -/
def simplifyTurnsSpec : ChangeSpec := { name := "simplifyTurns", fn := fun _ => fun
  | [d1, d2] => { results := [.lit (.bool true)], args := [d1, d2] }
  | _ => none }
def simplifyTurnsRow : OpenClaim := { program := "ytngoejdlompfoaagreat", sum := "dfa6fbc1a6e43ec104e5c6c80eb8f45f97a9ed461a49a2d7f16e67d31a046d22", func := "mapsheets/mapsheetslaw34.SimplifyTurns", spec := "simplifyTurns", unfollowed := true, recurses := true, apart := false }
def SimplifyTurnsSaid : Prop := simplifyTurnsRow.holds Tryz.pinned (OpenSpec.ofChange simplifyTurnsSpec)

/-- ITS FALSE NEIGHBOUR: 'it returns false'. Refute it at one input. -/
def simplifyTurnsWrong : ChangeSpec := { name := "simplifyTurns", fn := fun _ => fun
  | [d1, d2] => { results := [.lit (.bool false)], args := [d1, d2] }
  | _ => none }
def SimplifyTurnsWrongFalsely : Prop := simplifyTurnsRow.holds Tryz.pinned (OpenSpec.ofChange simplifyTurnsWrong)

/-- 'mapsheetslaw16.RegionDivides': WHATEVER THE INPUT: true; the input reads as it did. -/
def regionDividesSpec : ChangeSpec := { name := "regionDivides", fn := fun _ => fun
  | [d] => { results := [.lit (.bool true)], args := [d] }
  | _ => none }
def regionDividesRow : OpenClaim := { program := "ytngoejdlompfoaagreat", sum := "dfa6fbc1a6e43ec104e5c6c80eb8f45f97a9ed461a49a2d7f16e67d31a046d22", func := "mapsheets/mapsheetslaw16.RegionDivides", spec := "regionDivides", unfollowed := true, recurses := true, apart := false }
def RegionDividesSaid : Prop := regionDividesRow.holds Tryz.pinned (OpenSpec.ofChange regionDividesSpec)

/-- ITS FALSE NEIGHBOUR: 'it returns false'. Refute it at one input. -/
def regionDividesWrong : ChangeSpec := { name := "regionDivides", fn := fun _ => fun
  | [d] => { results := [.lit (.bool false)], args := [d] }
  | _ => none }
def RegionDividesWrongFalsely : Prop := regionDividesRow.holds Tryz.pinned (OpenSpec.ofChange regionDividesWrong)

/-- 'mapsheetslaw16.RegionLabels': WHATEVER THE INPUT: true; the input reads as it did. -/
def regionLabelsSpec : ChangeSpec := { name := "regionLabels", fn := fun _ => fun
  | [d] => { results := [.lit (.bool true)], args := [d] }
  | _ => none }
def regionLabelsRow : OpenClaim := { program := "ytngoejdlompfoaagreat", sum := "dfa6fbc1a6e43ec104e5c6c80eb8f45f97a9ed461a49a2d7f16e67d31a046d22", func := "mapsheets/mapsheetslaw16.RegionLabels", spec := "regionLabels", unfollowed := true, recurses := true, apart := false }
def RegionLabelsSaid : Prop := regionLabelsRow.holds Tryz.pinned (OpenSpec.ofChange regionLabelsSpec)

/-- ITS FALSE NEIGHBOUR: 'it returns false'. Refute it at one input. -/
def regionLabelsWrong : ChangeSpec := { name := "regionLabels", fn := fun _ => fun
  | [d] => { results := [.lit (.bool false)], args := [d] }
  | _ => none }
def RegionLabelsWrongFalsely : Prop := regionLabelsRow.holds Tryz.pinned (OpenSpec.ofChange regionLabelsWrong)

/-- 'mapsheetslaw16.RegionFinds': WHATEVER THE INPUT: true; the input reads as it did. -/
def regionFindsSpec : ChangeSpec := { name := "regionFinds", fn := fun _ => fun
  | [d1, d2] => { results := [.lit (.bool true)], args := [d1, d2] }
  | _ => none }
def regionFindsRow : OpenClaim := { program := "ytngoejdlompfoaagreat", sum := "dfa6fbc1a6e43ec104e5c6c80eb8f45f97a9ed461a49a2d7f16e67d31a046d22", func := "mapsheets/mapsheetslaw16.RegionFinds", spec := "regionFinds", unfollowed := true, recurses := true, apart := false }
def RegionFindsSaid : Prop := regionFindsRow.holds Tryz.pinned (OpenSpec.ofChange regionFindsSpec)

/-- ITS FALSE NEIGHBOUR: 'it returns false'. Refute it at one input. -/
def regionFindsWrong : ChangeSpec := { name := "regionFinds", fn := fun _ => fun
  | [d1, d2] => { results := [.lit (.bool false)], args := [d1, d2] }
  | _ => none }
def RegionFindsWrongFalsely : Prop := regionFindsRow.holds Tryz.pinned (OpenSpec.ofChange regionFindsWrong)

/-- 'mapsheetslaw16.RegionLocates': WHATEVER THE INPUT: true; the input reads as it did. -/
def regionLocatesSpec : ChangeSpec := { name := "regionLocates", fn := fun _ => fun
  | [d1, d2] => { results := [.lit (.bool true)], args := [d1, d2] }
  | _ => none }
def regionLocatesRow : OpenClaim := { program := "ytngoejdlompfoaagreat", sum := "dfa6fbc1a6e43ec104e5c6c80eb8f45f97a9ed461a49a2d7f16e67d31a046d22", func := "mapsheets/mapsheetslaw16.RegionLocates", spec := "regionLocates", unfollowed := true, recurses := true, apart := false }
def RegionLocatesSaid : Prop := regionLocatesRow.holds Tryz.pinned (OpenSpec.ofChange regionLocatesSpec)

/-- ITS FALSE NEIGHBOUR: 'it returns false'. Refute it at one input. -/
def regionLocatesWrong : ChangeSpec := { name := "regionLocates", fn := fun _ => fun
  | [d1, d2] => { results := [.lit (.bool false)], args := [d1, d2] }
  | _ => none }
def RegionLocatesWrongFalsely : Prop := regionLocatesRow.holds Tryz.pinned (OpenSpec.ofChange regionLocatesWrong)

/-- 'mapsheetslaw16.RegionMiddles': WHATEVER THE INPUT: true; the input reads as it did. -/
def regionMiddlesSpec : ChangeSpec := { name := "regionMiddles", fn := fun _ => fun
  | [d1, d2] => { results := [.lit (.bool true)], args := [d1, d2] }
  | _ => none }
def regionMiddlesRow : OpenClaim := { program := "ytngoejdlompfoaagreat", sum := "dfa6fbc1a6e43ec104e5c6c80eb8f45f97a9ed461a49a2d7f16e67d31a046d22", func := "mapsheets/mapsheetslaw16.RegionMiddles", spec := "regionMiddles", unfollowed := true, recurses := true, apart := false }
def RegionMiddlesSaid : Prop := regionMiddlesRow.holds Tryz.pinned (OpenSpec.ofChange regionMiddlesSpec)

/-- ITS FALSE NEIGHBOUR: 'it returns false'. Refute it at one input. -/
def regionMiddlesWrong : ChangeSpec := { name := "regionMiddles", fn := fun _ => fun
  | [d1, d2] => { results := [.lit (.bool false)], args := [d1, d2] }
  | _ => none }
def RegionMiddlesWrongFalsely : Prop := regionMiddlesRow.holds Tryz.pinned (OpenSpec.ofChange regionMiddlesWrong)

/-- 'mapsheetslaw16.RegionSides': WHATEVER THE INPUT: true; the input reads as it did. -/
def regionSidesSpec : ChangeSpec := { name := "regionSides", fn := fun _ => fun
  | [d1, d2, d3, d4] => { results := [.lit (.bool true)], args := [d1, d2, d3, d4] }
  | _ => none }
def regionSidesRow : OpenClaim := { program := "ytngoejdlompfoaagreat", sum := "dfa6fbc1a6e43ec104e5c6c80eb8f45f97a9ed461a49a2d7f16e67d31a046d22", func := "mapsheets/mapsheetslaw16.RegionSides", spec := "regionSides", unfollowed := true, recurses := true, apart := false }
def RegionSidesSaid : Prop := regionSidesRow.holds Tryz.pinned (OpenSpec.ofChange regionSidesSpec)

/-- ITS FALSE NEIGHBOUR: 'it returns false'. Refute it at one input. -/
def regionSidesWrong : ChangeSpec := { name := "regionSides", fn := fun _ => fun
  | [d1, d2, d3, d4] => { results := [.lit (.bool false)], args := [d1, d2, d3, d4] }
  | _ => none }
def RegionSidesWrongFalsely : Prop := regionSidesRow.holds Tryz.pinned (OpenSpec.ofChange regionSidesWrong)

/-- 'mapsheetslaw16.RegionTurns': WHATEVER THE INPUT: true; the input reads as it did. -/
def regionTurnsSpec : ChangeSpec := { name := "regionTurns", fn := fun _ => fun
  | [d1, d2, d3] => { results := [.lit (.bool true)], args := [d1, d2, d3] }
  | _ => none }
def regionTurnsRow : OpenClaim := { program := "ytngoejdlompfoaagreat", sum := "dfa6fbc1a6e43ec104e5c6c80eb8f45f97a9ed461a49a2d7f16e67d31a046d22", func := "mapsheets/mapsheetslaw16.RegionTurns", spec := "regionTurns", unfollowed := true, recurses := true, apart := false }
def RegionTurnsSaid : Prop := regionTurnsRow.holds Tryz.pinned (OpenSpec.ofChange regionTurnsSpec)

/-- ITS FALSE NEIGHBOUR: 'it returns false'. Refute it at one input. -/
def regionTurnsWrong : ChangeSpec := { name := "regionTurns", fn := fun _ => fun
  | [d1, d2, d3] => { results := [.lit (.bool false)], args := [d1, d2, d3] }
  | _ => none }
def RegionTurnsWrongFalsely : Prop := regionTurnsRow.holds Tryz.pinned (OpenSpec.ofChange regionTurnsWrong)

/-- 'mapsheetslaw16.RegionCounts': WHATEVER THE INPUT: true; the input reads as it did. -/
def regionCountsSpec : ChangeSpec := { name := "regionCounts", fn := fun _ => fun
  | [d] => { results := [.lit (.bool true)], args := [d] }
  | _ => none }
def regionCountsRow : OpenClaim := { program := "ytngoejdlompfoaagreat", sum := "dfa6fbc1a6e43ec104e5c6c80eb8f45f97a9ed461a49a2d7f16e67d31a046d22", func := "mapsheets/mapsheetslaw16.RegionCounts", spec := "regionCounts", unfollowed := true, recurses := true, apart := false }
def RegionCountsSaid : Prop := regionCountsRow.holds Tryz.pinned (OpenSpec.ofChange regionCountsSpec)

/-- ITS FALSE NEIGHBOUR: 'it returns false'. Refute it at one input. -/
def regionCountsWrong : ChangeSpec := { name := "regionCounts", fn := fun _ => fun
  | [d] => { results := [.lit (.bool false)], args := [d] }
  | _ => none }
def RegionCountsWrongFalsely : Prop := regionCountsRow.holds Tryz.pinned (OpenSpec.ofChange regionCountsWrong)

/- THE SECOND FORM. 'bulk': how many values and letters a reading holds, each counted each time it is reached (what is shared counts as often as it is met; a slice's spare places count too). A statement '..UptoSaid' is the law's where the arguments, and the package variables that the reading takes, are together of bulk at most 1048576: NARROWER than '..Said'. Prove '..Said' where nothing that the law and all that it calls make is longer than what came in: it says more and counts as full. Else prove '..UptoSaid'. A law counts once. -/
mutual
def uptoBulk {H : Type} : DataW H → Nat
  | .lit (.string bytes) => bytes.length + 1
  | .lit _ => 1
  | .nil => 1
  | .ptr d => uptoBulk d + 1
  | .slice elems spare => uptoBulkAll elems + uptoBulkAll spare + 1
  | .agg parts => uptoBulkAll parts + 1
  | .iface _ d => uptoBulk d + 1
  | .map entries => uptoBulkEntries entries + 1
  | .held _ => 1
def uptoBulkAll {H : Type} : List (DataW H) → Nat
  | [] => 0
  | d :: r => uptoBulk d + uptoBulkAll r
def uptoBulkEntries {H : Type} : List (Lit × DataW H) → Nat
  | [] => 0
  | x :: r => uptoBulkEntry x + uptoBulkEntries r
def uptoBulkEntry {H : Type} : Lit × DataW H → Nat
  | (.string bytes, d) => bytes.length + uptoBulk d + 1
  | (_, d) => uptoBulk d + 1
 end
def uptoSmall : (H : Type) → List (DataW H) → Bool := fun _ ds => decide (uptoBulkAll ds ≤ 1048576)
def OpenSpec.upto (s : _root_.Go.ChangeSpec) : _root_.Go.OpenSpec := { _root_.Go.OpenSpec.ofChange s with cond := some uptoSmall }

/-- 'mapsheetslaw34.SimplifyFrees', WHERE WHAT IT READS IS OF BULK AT MOST 1048576: true; the input reads as it did. -/
def simplifyFreesUptoRow : OpenClaim := { program := "ytngoejdlompfoaagreat", sum := "dfa6fbc1a6e43ec104e5c6c80eb8f45f97a9ed461a49a2d7f16e67d31a046d22", func := "mapsheets/mapsheetslaw34.SimplifyFrees", spec := "simplifyFrees", unfollowed := true, recurses := true, apart := false, narrowed := true }
def SimplifyFreesUptoSaid : Prop := simplifyFreesUptoRow.holds Tryz.pinned (OpenSpec.upto simplifyFreesSpec)

/-- 'mapsheetslaw34.SimplifySteps', WHERE WHAT IT READS IS OF BULK AT MOST 1048576: true; the input reads as it did. -/
def simplifyStepsUptoRow : OpenClaim := { program := "ytngoejdlompfoaagreat", sum := "dfa6fbc1a6e43ec104e5c6c80eb8f45f97a9ed461a49a2d7f16e67d31a046d22", func := "mapsheets/mapsheetslaw34.SimplifySteps", spec := "simplifySteps", unfollowed := true, recurses := true, apart := false, narrowed := true }
def SimplifyStepsUptoSaid : Prop := simplifyStepsUptoRow.holds Tryz.pinned (OpenSpec.upto simplifyStepsSpec)

/-- 'mapsheetslaw34.SimplifyDefined', WHERE WHAT IT READS IS OF BULK AT MOST 1048576: true; the input reads as it did. -/
def simplifyDefinedUptoRow : OpenClaim := { program := "ytngoejdlompfoaagreat", sum := "dfa6fbc1a6e43ec104e5c6c80eb8f45f97a9ed461a49a2d7f16e67d31a046d22", func := "mapsheets/mapsheetslaw34.SimplifyDefined", spec := "simplifyDefined", unfollowed := true, recurses := true, apart := false, narrowed := true }
def SimplifyDefinedUptoSaid : Prop := simplifyDefinedUptoRow.holds Tryz.pinned (OpenSpec.upto simplifyDefinedSpec)

/-- 'mapsheetslaw34.SimplifyTurns', WHERE WHAT IT READS IS OF BULK AT MOST 1048576: true; the input reads as it did. -/
def simplifyTurnsUptoRow : OpenClaim := { program := "ytngoejdlompfoaagreat", sum := "dfa6fbc1a6e43ec104e5c6c80eb8f45f97a9ed461a49a2d7f16e67d31a046d22", func := "mapsheets/mapsheetslaw34.SimplifyTurns", spec := "simplifyTurns", unfollowed := true, recurses := true, apart := false, narrowed := true }
def SimplifyTurnsUptoSaid : Prop := simplifyTurnsUptoRow.holds Tryz.pinned (OpenSpec.upto simplifyTurnsSpec)

/-- 'mapsheetslaw16.RegionDivides', WHERE WHAT IT READS IS OF BULK AT MOST 1048576: true; the input reads as it did. -/
def regionDividesUptoRow : OpenClaim := { program := "ytngoejdlompfoaagreat", sum := "dfa6fbc1a6e43ec104e5c6c80eb8f45f97a9ed461a49a2d7f16e67d31a046d22", func := "mapsheets/mapsheetslaw16.RegionDivides", spec := "regionDivides", unfollowed := true, recurses := true, apart := false, narrowed := true }
def RegionDividesUptoSaid : Prop := regionDividesUptoRow.holds Tryz.pinned (OpenSpec.upto regionDividesSpec)

/-- 'mapsheetslaw16.RegionLabels', WHERE WHAT IT READS IS OF BULK AT MOST 1048576: true; the input reads as it did. -/
def regionLabelsUptoRow : OpenClaim := { program := "ytngoejdlompfoaagreat", sum := "dfa6fbc1a6e43ec104e5c6c80eb8f45f97a9ed461a49a2d7f16e67d31a046d22", func := "mapsheets/mapsheetslaw16.RegionLabels", spec := "regionLabels", unfollowed := true, recurses := true, apart := false, narrowed := true }
def RegionLabelsUptoSaid : Prop := regionLabelsUptoRow.holds Tryz.pinned (OpenSpec.upto regionLabelsSpec)

/-- 'mapsheetslaw16.RegionFinds', WHERE WHAT IT READS IS OF BULK AT MOST 1048576: true; the input reads as it did. -/
def regionFindsUptoRow : OpenClaim := { program := "ytngoejdlompfoaagreat", sum := "dfa6fbc1a6e43ec104e5c6c80eb8f45f97a9ed461a49a2d7f16e67d31a046d22", func := "mapsheets/mapsheetslaw16.RegionFinds", spec := "regionFinds", unfollowed := true, recurses := true, apart := false, narrowed := true }
def RegionFindsUptoSaid : Prop := regionFindsUptoRow.holds Tryz.pinned (OpenSpec.upto regionFindsSpec)

/-- 'mapsheetslaw16.RegionLocates', WHERE WHAT IT READS IS OF BULK AT MOST 1048576: true; the input reads as it did. -/
def regionLocatesUptoRow : OpenClaim := { program := "ytngoejdlompfoaagreat", sum := "dfa6fbc1a6e43ec104e5c6c80eb8f45f97a9ed461a49a2d7f16e67d31a046d22", func := "mapsheets/mapsheetslaw16.RegionLocates", spec := "regionLocates", unfollowed := true, recurses := true, apart := false, narrowed := true }
def RegionLocatesUptoSaid : Prop := regionLocatesUptoRow.holds Tryz.pinned (OpenSpec.upto regionLocatesSpec)

/-- 'mapsheetslaw16.RegionMiddles', WHERE WHAT IT READS IS OF BULK AT MOST 1048576: true; the input reads as it did. -/
def regionMiddlesUptoRow : OpenClaim := { program := "ytngoejdlompfoaagreat", sum := "dfa6fbc1a6e43ec104e5c6c80eb8f45f97a9ed461a49a2d7f16e67d31a046d22", func := "mapsheets/mapsheetslaw16.RegionMiddles", spec := "regionMiddles", unfollowed := true, recurses := true, apart := false, narrowed := true }
def RegionMiddlesUptoSaid : Prop := regionMiddlesUptoRow.holds Tryz.pinned (OpenSpec.upto regionMiddlesSpec)

/-- 'mapsheetslaw16.RegionSides', WHERE WHAT IT READS IS OF BULK AT MOST 1048576: true; the input reads as it did. -/
def regionSidesUptoRow : OpenClaim := { program := "ytngoejdlompfoaagreat", sum := "dfa6fbc1a6e43ec104e5c6c80eb8f45f97a9ed461a49a2d7f16e67d31a046d22", func := "mapsheets/mapsheetslaw16.RegionSides", spec := "regionSides", unfollowed := true, recurses := true, apart := false, narrowed := true }
def RegionSidesUptoSaid : Prop := regionSidesUptoRow.holds Tryz.pinned (OpenSpec.upto regionSidesSpec)

/-- 'mapsheetslaw16.RegionTurns', WHERE WHAT IT READS IS OF BULK AT MOST 1048576: true; the input reads as it did. -/
def regionTurnsUptoRow : OpenClaim := { program := "ytngoejdlompfoaagreat", sum := "dfa6fbc1a6e43ec104e5c6c80eb8f45f97a9ed461a49a2d7f16e67d31a046d22", func := "mapsheets/mapsheetslaw16.RegionTurns", spec := "regionTurns", unfollowed := true, recurses := true, apart := false, narrowed := true }
def RegionTurnsUptoSaid : Prop := regionTurnsUptoRow.holds Tryz.pinned (OpenSpec.upto regionTurnsSpec)

/-- 'mapsheetslaw16.RegionCounts', WHERE WHAT IT READS IS OF BULK AT MOST 1048576: true; the input reads as it did. -/
def regionCountsUptoRow : OpenClaim := { program := "ytngoejdlompfoaagreat", sum := "dfa6fbc1a6e43ec104e5c6c80eb8f45f97a9ed461a49a2d7f16e67d31a046d22", func := "mapsheets/mapsheetslaw16.RegionCounts", spec := "regionCounts", unfollowed := true, recurses := true, apart := false, narrowed := true }
def RegionCountsUptoSaid : Prop := regionCountsUptoRow.holds Tryz.pinned (OpenSpec.upto regionCountsSpec)

end Rows
end Go.Proofs.YtngoejdlompfoaaGreat
