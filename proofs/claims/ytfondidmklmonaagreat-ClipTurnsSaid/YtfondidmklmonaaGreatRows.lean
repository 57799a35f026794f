/-
  No cell of these rows narrows 'for every input' (looked for: loops, veiled, ifaces, maps, wideKeys, modest, calm, conditions, laid).
  DERIVED. THE GIVEN ROWS OF THIS SEAT. 7 by the template 'for every input the law returns true; each argument reads behind the call as it read before'; 0 by the template 'total and deterministic' (their statements: YtfondidmklmonaaGreatTotals.lean).
  GIVEN WITH THE SEED: the statements are not yours to turn. If you find one false, say at which input.
  Laid BY PROGRAM, IN A SANDBOX (cutbox-rows.mjs): the forced cells as the released guide's own fill.sh prints them over the translation 79be90683f332a0c… (all of the seat's roots in one cut). By AI agents, Wed Nov 11 2026. No macro, syntax, notation, axiom, sorry.
-/
import Derived.Test.YtfondidmklmonaaGreatChecked
import GoSem.Claim
import GoSem.ClaimJoined
import GoSem.ClaimMapViews
import Derived.JoinedTies
import Derived.KernelRfl
namespace Go.Proofs.YtfondidmklmonaaGreat
/- THE CELL 'sum', in the pinned program and in every row, IS THE sha256 OF THE DUMP (.gsa) THAT YtfondidmklmonaaGreatProg.lean LOADS. Nothing in Lean hashes anything: it is a label: what it is worth is what the hold of that sum in a sandbox is worth. -/
noncomputable def Tryz.pinned : Pinned := { name := "ytfondidmklmonaagreat", sum := "79be90683f332a0c1860c2f771cb02e2a291323538736272872e76799cb919b8", checked := Tryz.checked }
namespace Rows
def none {H : Type} : Left H := { results := [], args := [] }

/-- 'mapsheetslaw41.ClipParts': WHATEVER THE INPUT: true; the input reads as it did. -/
def clipPartsSpec : ChangeSpec := { name := "clipParts", fn := fun _ => fun
  | [d1, d2, d3] => { results := [.lit (.bool true)], args := [d1, d2, d3] }
  | _ => none }
def clipPartsRow : OpenClaim := { program := "ytfondidmklmonaagreat", sum := "79be90683f332a0c1860c2f771cb02e2a291323538736272872e76799cb919b8", func := "mapsheets/mapsheetslaw41.ClipParts", spec := "clipParts", unfollowed := true, recurses := true, apart := false }
def ClipPartsSaid : Prop := clipPartsRow.holds Tryz.pinned (OpenSpec.ofChange clipPartsSpec)

/-- ITS FALSE NEIGHBOUR: 'it returns false'. Refute it at one input. -/
def clipPartsWrong : ChangeSpec := { name := "clipParts", fn := fun _ => fun
  | [d1, d2, d3] => { results := [.lit (.bool false)], args := [d1, d2, d3] }
  | _ => none }
def ClipPartsWrongFalsely : Prop := clipPartsRow.holds Tryz.pinned (OpenSpec.ofChange clipPartsWrong)

/-- 'mapsheetslaw41.ClipAlls': WHATEVER THE INPUT: true; the input reads as it did. -/
def clipAllsSpec : ChangeSpec := { name := "clipAlls", fn := fun _ => fun
  | [d1, d2] => { results := [.lit (.bool true)], args := [d1, d2] }
  | _ => none }
def clipAllsRow : OpenClaim := { program := "ytfondidmklmonaagreat", sum := "79be90683f332a0c1860c2f771cb02e2a291323538736272872e76799cb919b8", func := "mapsheets/mapsheetslaw41.ClipAlls", spec := "clipAlls", unfollowed := true, recurses := true, apart := false }
def ClipAllsSaid : Prop := clipAllsRow.holds Tryz.pinned (OpenSpec.ofChange clipAllsSpec)

/-- ITS FALSE NEIGHBOUR: 'it returns false'. Refute it at one input. -/
def clipAllsWrong : ChangeSpec := { name := "clipAlls", fn := fun _ => fun
  | [d1, d2] => { results := [.lit (.bool false)], args := [d1, d2] }
  | _ => none }
def ClipAllsWrongFalsely : Prop := clipAllsRow.holds Tryz.pinned (OpenSpec.ofChange clipAllsWrong)

/-- 'mapsheetslaw41.ClipSames': WHATEVER THE INPUT: true; the input reads as it did. -/
def clipSamesSpec : ChangeSpec := { name := "clipSames", fn := fun _ => fun
  | [d1, d2] => { results := [.lit (.bool true)], args := [d1, d2] }
  | _ => none }
def clipSamesRow : OpenClaim := { program := "ytfondidmklmonaagreat", sum := "79be90683f332a0c1860c2f771cb02e2a291323538736272872e76799cb919b8", func := "mapsheets/mapsheetslaw41.ClipSames", spec := "clipSames", unfollowed := true, recurses := true, apart := false }
def ClipSamesSaid : Prop := clipSamesRow.holds Tryz.pinned (OpenSpec.ofChange clipSamesSpec)

/-- ITS FALSE NEIGHBOUR: 'it returns false'. Refute it at one input. -/
def clipSamesWrong : ChangeSpec := { name := "clipSames", fn := fun _ => fun
  | [d1, d2] => { results := [.lit (.bool false)], args := [d1, d2] }
  | _ => none }
def ClipSamesWrongFalsely : Prop := clipSamesRow.holds Tryz.pinned (OpenSpec.ofChange clipSamesWrong)

/-- 'mapsheetslaw41.ClipInside': WHATEVER THE INPUT: true; the input reads as it did. -/
def clipInsideSpec : ChangeSpec := { name := "clipInside", fn := fun _ => fun
  | [d1, d2, d3] => { results := [.lit (.bool true)], args := [d1, d2, d3] }
  | _ => none }
def clipInsideRow : OpenClaim := { program := "ytfondidmklmonaagreat", sum := "79be90683f332a0c1860c2f771cb02e2a291323538736272872e76799cb919b8", func := "mapsheets/mapsheetslaw41.ClipInside", spec := "clipInside", unfollowed := true, recurses := true, apart := false }
def ClipInsideSaid : Prop := clipInsideRow.holds Tryz.pinned (OpenSpec.ofChange clipInsideSpec)

/-- ITS FALSE NEIGHBOUR: 'it returns false'. Refute it at one input. -/
def clipInsideWrong : ChangeSpec := { name := "clipInside", fn := fun _ => fun
  | [d1, d2, d3] => { results := [.lit (.bool false)], args := [d1, d2, d3] }
  | _ => none }
def ClipInsideWrongFalsely : Prop := clipInsideRow.holds Tryz.pinned (OpenSpec.ofChange clipInsideWrong)

/-- 'mapsheetslaw41.ClipWhole': WHATEVER THE INPUT: true; the input reads as it did. -/
def clipWholeSpec : ChangeSpec := { name := "clipWhole", fn := fun _ => fun
  | [d1, d2, d3] => { results := [.lit (.bool true)], args := [d1, d2, d3] }
  | _ => none }
def clipWholeRow : OpenClaim := { program := "ytfondidmklmonaagreat", sum := "79be90683f332a0c1860c2f771cb02e2a291323538736272872e76799cb919b8", func := "mapsheets/mapsheetslaw41.ClipWhole", spec := "clipWhole", unfollowed := true, recurses := true, apart := false }
def ClipWholeSaid : Prop := clipWholeRow.holds Tryz.pinned (OpenSpec.ofChange clipWholeSpec)

/-- ITS FALSE NEIGHBOUR: 'it returns false'. Refute it at one input. -/
def clipWholeWrong : ChangeSpec := { name := "clipWhole", fn := fun _ => fun
  | [d1, d2, d3] => { results := [.lit (.bool false)], args := [d1, d2, d3] }
  | _ => none }
def ClipWholeWrongFalsely : Prop := clipWholeRow.holds Tryz.pinned (OpenSpec.ofChange clipWholeWrong)

/-- 'mapsheetslaw41.ClipNodes': WHATEVER THE INPUT: true; the input reads as it did. -/
def clipNodesSpec : ChangeSpec := { name := "clipNodes", fn := fun _ => fun
  | [d1, d2] => { results := [.lit (.bool true)], args := [d1, d2] }
  | _ => none }
def clipNodesRow : OpenClaim := { program := "ytfondidmklmonaagreat", sum := "79be90683f332a0c1860c2f771cb02e2a291323538736272872e76799cb919b8", func := "mapsheets/mapsheetslaw41.ClipNodes", spec := "clipNodes", unfollowed := true, recurses := true, apart := false }
def ClipNodesSaid : Prop := clipNodesRow.holds Tryz.pinned (OpenSpec.ofChange clipNodesSpec)

/-- ITS FALSE NEIGHBOUR: 'it returns false'. Refute it at one input. -/
def clipNodesWrong : ChangeSpec := { name := "clipNodes", fn := fun _ => fun
  | [d1, d2] => { results := [.lit (.bool false)], args := [d1, d2] }
  | _ => none }
def ClipNodesWrongFalsely : Prop := clipNodesRow.holds Tryz.pinned (OpenSpec.ofChange clipNodesWrong)

/-- 'mapsheetslaw41.ClipTurns': WHATEVER THE INPUT: true; the input reads as it did. -/
def clipTurnsSpec : ChangeSpec := { name := "clipTurns", fn := fun _ => fun
  | [d1, d2, d3] => { results := [.lit (.bool true)], args := [d1, d2, d3] }
  | _ => none }
def clipTurnsRow : OpenClaim := { program := "ytfondidmklmonaagreat", sum := "79be90683f332a0c1860c2f771cb02e2a291323538736272872e76799cb919b8", func := "mapsheets/mapsheetslaw41.ClipTurns", spec := "clipTurns", unfollowed := true, recurses := true, apart := false }
def ClipTurnsSaid : Prop := clipTurnsRow.holds Tryz.pinned (OpenSpec.ofChange clipTurnsSpec)

/-- ITS FALSE NEIGHBOUR: 'it returns false'. Refute it at one input. -/
def clipTurnsWrong : ChangeSpec := { name := "clipTurns", fn := fun _ => fun
  | [d1, d2, d3] => { results := [.lit (.bool false)], args := [d1, d2, d3] }
  | _ => none }
def ClipTurnsWrongFalsely : Prop := clipTurnsRow.holds Tryz.pinned (OpenSpec.ofChange clipTurnsWrong)

/- THE SECOND FORM. 'bulk': how many values and letters a reading holds, each counted each time it is reached (what is shared counts as often as it is met; a slice's spare places count too). A statement '..UptoSaid' is the law's where the arguments, and the package variables that the reading takes, are together of bulk at most 1048576: NARROWER than '..Said'. Prove '..Said' where nothing that the law and all that it calls make is longer than what came in: it says more and counts as full. Else prove '..UptoSaid'. A law counts once. -/
mutual
def uptoBulk {H : Type} : DataW H → Nat
  | .lit (.string bytes) => bytes.length + 1
  | .lit _ => 1
  | .nil => 1
  | .ptr d => uptoBulk d + 1
  | .slice elems spare => uptoBulkAll elems + uptoBulkAll spare + 1
  | .agg parts => uptoBulkAll parts + 1
  | .iface _ d => uptoBulk d + 1
  | .map entries => uptoBulkEntries entries + 1
  | .held _ => 1
def uptoBulkAll {H : Type} : List (DataW H) → Nat
  | [] => 0
  | d :: r => uptoBulk d + uptoBulkAll r
def uptoBulkEntries {H : Type} : List (Lit × DataW H) → Nat
  | [] => 0
  | x :: r => uptoBulkEntry x + uptoBulkEntries r
def uptoBulkEntry {H : Type} : Lit × DataW H → Nat
  | (.string bytes, d) => bytes.length + uptoBulk d + 1
  | (_, d) => uptoBulk d + 1
 end
def uptoSmall : (H : Type) → List (DataW H) → Bool := fun _ ds => decide (uptoBulkAll ds ≤ 1048576)
def OpenSpec.upto (s : _root_.Go.ChangeSpec) : _root_.Go.OpenSpec := { _root_.Go.OpenSpec.ofChange s with cond := some uptoSmall }

/-- 'mapsheetslaw41.ClipParts', WHERE WHAT IT READS IS OF BULK AT MOST 1048576: true; the input reads as it did. -/
def clipPartsUptoRow : OpenClaim := { program := "ytfondidmklmonaagreat", sum := "79be90683f332a0c1860c2f771cb02e2a291323538736272872e76799cb919b8", func := "mapsheets/mapsheetslaw41.ClipParts", spec := "clipParts", unfollowed := true, recurses := true, apart := false, narrowed := true }
def ClipPartsUptoSaid : Prop := clipPartsUptoRow.holds Tryz.pinned (OpenSpec.upto clipPartsSpec)

/-- 'mapsheetslaw41.ClipAlls', WHERE WHAT IT READS IS OF BULK AT MOST 1048576: true; the input reads as it did. -/
def clipAllsUptoRow : OpenClaim := { program := "ytfondidmklmonaagreat", sum := "79be90683f332a0c1860c2f771cb02e2a291323538736272872e76799cb919b8", func := "mapsheets/mapsheetslaw41.ClipAlls", spec := "clipAlls", unfollowed := true, recurses := true, apart := false, narrowed := true }
def ClipAllsUptoSaid : Prop := clipAllsUptoRow.holds Tryz.pinned (OpenSpec.upto clipAllsSpec)

/-- 'mapsheetslaw41.ClipSames', WHERE WHAT IT READS IS OF BULK AT MOST 1048576: true; the input reads as it did. -/
def clipSamesUptoRow : OpenClaim := { program := "ytfondidmklmonaagreat", sum := "79be90683f332a0c1860c2f771cb02e2a291323538736272872e76799cb919b8", func := "mapsheets/mapsheetslaw41.ClipSames", spec := "clipSames", unfollowed := true, recurses := true, apart := false, narrowed := true }
def ClipSamesUptoSaid : Prop := clipSamesUptoRow.holds Tryz.pinned (OpenSpec.upto clipSamesSpec)

/-- 'mapsheetslaw41.ClipInside', WHERE WHAT IT READS IS OF BULK AT MOST 1048576: true; the input reads as it did. -/
def clipInsideUptoRow : OpenClaim := { program := "ytfondidmklmonaagreat", sum := "79be90683f332a0c1860c2f771cb02e2a291323538736272872e76799cb919b8", func := "mapsheets/mapsheetslaw41.ClipInside", spec := "clipInside", unfollowed := true, recurses := true, apart := false, narrowed := true }
def ClipInsideUptoSaid : Prop := clipInsideUptoRow.holds Tryz.pinned (OpenSpec.upto clipInsideSpec)

/-- 'mapsheetslaw41.ClipWhole', WHERE WHAT IT READS IS OF BULK AT MOST 1048576: true; the input reads as it did. -/
def clipWholeUptoRow : OpenClaim := { program := "ytfondidmklmonaagreat", sum := "79be90683f332a0c1860c2f771cb02e2a291323538736272872e76799cb919b8", func := "mapsheets/mapsheetslaw41.ClipWhole", spec := "clipWhole", unfollowed := true, recurses := true, apart := false, narrowed := true }
def ClipWholeUptoSaid : Prop := clipWholeUptoRow.holds Tryz.pinned (OpenSpec.upto clipWholeSpec)

/-- 'mapsheetslaw41.ClipNodes', WHERE WHAT IT READS IS OF BULK AT MOST 1048576: true; the input reads as it did. -/
def clipNodesUptoRow : OpenClaim := { program := "ytfondidmklmonaagreat", sum := "79be90683f332a0c1860c2f771cb02e2a291323538736272872e76799cb919b8", func := "mapsheets/mapsheetslaw41.ClipNodes", spec := "clipNodes", unfollowed := true, recurses := true, apart := false, narrowed := true }
def ClipNodesUptoSaid : Prop := clipNodesUptoRow.holds Tryz.pinned (OpenSpec.upto clipNodesSpec)

/-- 'mapsheetslaw41.ClipTurns', WHERE WHAT IT READS IS OF BULK AT MOST 1048576: true; the input reads as it did. -/
def clipTurnsUptoRow : OpenClaim := { program := "ytfondidmklmonaagreat", sum := "79be90683f332a0c1860c2f771cb02e2a291323538736272872e76799cb919b8", func := "mapsheets/mapsheetslaw41.ClipTurns", spec := "clipTurns", unfollowed := true, recurses := true, apart := false, narrowed := true }
def ClipTurnsUptoSaid : Prop := clipTurnsUptoRow.holds Tryz.pinned (OpenSpec.upto clipTurnsSpec)

end Rows
end Go.Proofs.YtfondidmklmonaaGreat
