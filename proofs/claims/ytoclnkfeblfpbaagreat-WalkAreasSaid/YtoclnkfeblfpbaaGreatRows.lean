/-
  No cell of these rows narrows 'for every input' (looked for: loops, veiled, ifaces, maps, wideKeys, modest, calm, conditions, laid).
  DERIVED. THE GIVEN ROWS OF THIS SEAT. 6 by the template 'for every input the law returns true; each argument reads behind the call as it read before'; 0 by the template 'total and deterministic' (their statements: YtoclnkfeblfpbaaGreatTotals.lean).
  GIVEN WITH THE SEED: the statements are not yours to turn. If you find one false, say at which input.
  Laid BY PROGRAM, IN A SANDBOX (cutbox-rows.mjs): the forced cells as the released guide's own fill.sh prints them over the translation ee60caf21fa1d382… (all of the seat's roots in one cut). By AI agents, Wed Nov 11 2026. No macro, syntax, notation, axiom, sorry.
-/
import Derived.Test.YtoclnkfeblfpbaaGreatChecked
import GoSem.Claim
import GoSem.ClaimJoined
import GoSem.ClaimMapViews
import Derived.JoinedTies
import Derived.KernelRfl
namespace Go.Proofs.YtoclnkfeblfpbaaGreat
/- THE CELL 'sum', in the pinned program and in every row, IS THE sha256 OF THE DUMP (.gsa) THAT YtoclnkfeblfpbaaGreatProg.lean LOADS. Nothing in Lean hashes anything: it is a label: what it is worth is what the hold of that sum in a sandbox is worth. -/
noncomputable def Tryz.pinned : Pinned := { name := "ytoclnkfeblfpbaagreat", sum := "ee60caf21fa1d38201d828beb72c2103c83e65737580bcdd9c88cefe6c2f3af2", checked := Tryz.checked }
namespace Rows
def none {H : Type} : Left H := { results := [], args := [] }

/-- 'mapsheetslaw15.WalkDarts': WHATEVER THE INPUT: true; the input reads as it did. -/
def walkDartsSpec : ChangeSpec := { name := "walkDarts", fn := fun _ => fun
  | [d1, d2] => { results := [.lit (.bool true)], args := [d1, d2] }
  | _ => none }
def walkDartsRow : OpenClaim := { program := "ytoclnkfeblfpbaagreat", sum := "ee60caf21fa1d38201d828beb72c2103c83e65737580bcdd9c88cefe6c2f3af2", func := "mapsheets/mapsheetslaw15.WalkDarts", spec := "walkDarts", unfollowed := true, recurses := true, apart := false }
def WalkDartsSaid : Prop := walkDartsRow.holds Tryz.pinned (OpenSpec.ofChange walkDartsSpec)

/-- ITS FALSE NEIGHBOUR: 'it returns false'. Refute it at one input. -/
def walkDartsWrong : ChangeSpec := { name := "walkDarts", fn := fun _ => fun
  | [d1, d2] => { results := [.lit (.bool false)], args := [d1, d2] }
  | _ => none }
def WalkDartsWrongFalsely : Prop := walkDartsRow.holds Tryz.pinned (OpenSpec.ofChange walkDartsWrong)

/-- 'mapsheetslaw15.WalkCycles': WHATEVER THE INPUT: true; the input reads as it did. -/
def walkCyclesSpec : ChangeSpec := { name := "walkCycles", fn := fun _ => fun
  | [d] => { results := [.lit (.bool true)], args := [d] }
  | _ => none }
def walkCyclesRow : OpenClaim := { program := "ytoclnkfeblfpbaagreat", sum := "ee60caf21fa1d38201d828beb72c2103c83e65737580bcdd9c88cefe6c2f3af2", func := "mapsheets/mapsheetslaw15.WalkCycles", spec := "walkCycles", unfollowed := true, recurses := true, apart := false }
def WalkCyclesSaid : Prop := walkCyclesRow.holds Tryz.pinned (OpenSpec.ofChange walkCyclesSpec)

/-- ITS FALSE NEIGHBOUR: 'it returns false'. Refute it at one input. -/
def walkCyclesWrong : ChangeSpec := { name := "walkCycles", fn := fun _ => fun
  | [d] => { results := [.lit (.bool false)], args := [d] }
  | _ => none }
def WalkCyclesWrongFalsely : Prop := walkCyclesRow.holds Tryz.pinned (OpenSpec.ofChange walkCyclesWrong)

/-- 'mapsheetslaw15.WalkTwice': WHATEVER THE INPUT: true; the input reads as it did. -/
def walkTwiceSpec : ChangeSpec := { name := "walkTwice", fn := fun _ => fun
  | [d1, d2] => { results := [.lit (.bool true)], args := [d1, d2] }
  | _ => none }
def walkTwiceRow : OpenClaim := { program := "ytoclnkfeblfpbaagreat", sum := "ee60caf21fa1d38201d828beb72c2103c83e65737580bcdd9c88cefe6c2f3af2", func := "mapsheets/mapsheetslaw15.WalkTwice", spec := "walkTwice", unfollowed := true, recurses := true, apart := false }
def WalkTwiceSaid : Prop := walkTwiceRow.holds Tryz.pinned (OpenSpec.ofChange walkTwiceSpec)

/-- ITS FALSE NEIGHBOUR: 'it returns false'. Refute it at one input. -/
def walkTwiceWrong : ChangeSpec := { name := "walkTwice", fn := fun _ => fun
  | [d1, d2] => { results := [.lit (.bool false)], args := [d1, d2] }
  | _ => none }
def WalkTwiceWrongFalsely : Prop := walkTwiceRow.holds Tryz.pinned (OpenSpec.ofChange walkTwiceWrong)

/-- 'mapsheetslaw15.WalkEuler': WHATEVER THE INPUT: true; the input reads as it did. -/
def walkEulerSpec : ChangeSpec := { name := "walkEuler", fn := fun _ => fun
  | [d] => { results := [.lit (.bool true)], args := [d] }
  | _ => none }
def walkEulerRow : OpenClaim := { program := "ytoclnkfeblfpbaagreat", sum := "ee60caf21fa1d38201d828beb72c2103c83e65737580bcdd9c88cefe6c2f3af2", func := "mapsheets/mapsheetslaw15.WalkEuler", spec := "walkEuler", unfollowed := true, recurses := true, apart := false }
def WalkEulerSaid : Prop := walkEulerRow.holds Tryz.pinned (OpenSpec.ofChange walkEulerSpec)

/-- ITS FALSE NEIGHBOUR: 'it returns false'. Refute it at one input. -/
def walkEulerWrong : ChangeSpec := { name := "walkEuler", fn := fun _ => fun
  | [d] => { results := [.lit (.bool false)], args := [d] }
  | _ => none }
def WalkEulerWrongFalsely : Prop := walkEulerRow.holds Tryz.pinned (OpenSpec.ofChange walkEulerWrong)

/-- 'mapsheetslaw15.WalkPartition': WHATEVER THE INPUT: true; the input reads as it did. -/
def walkPartitionSpec : ChangeSpec := { name := "walkPartition", fn := fun _ => fun
  | [d] => { results := [.lit (.bool true)], args := [d] }
  | _ => none }
def walkPartitionRow : OpenClaim := { program := "ytoclnkfeblfpbaagreat", sum := "ee60caf21fa1d38201d828beb72c2103c83e65737580bcdd9c88cefe6c2f3af2", func := "mapsheets/mapsheetslaw15.WalkPartition", spec := "walkPartition", unfollowed := true, recurses := true, apart := false }
def WalkPartitionSaid : Prop := walkPartitionRow.holds Tryz.pinned (OpenSpec.ofChange walkPartitionSpec)

/-- ITS FALSE NEIGHBOUR: 'it returns false'. Refute it at one input. -/
def walkPartitionWrong : ChangeSpec := { name := "walkPartition", fn := fun _ => fun
  | [d] => { results := [.lit (.bool false)], args := [d] }
  | _ => none }
def WalkPartitionWrongFalsely : Prop := walkPartitionRow.holds Tryz.pinned (OpenSpec.ofChange walkPartitionWrong)

/-- 'mapsheetslaw15.WalkAreas': WHATEVER THE INPUT: true; the input reads as it did. -/
def walkAreasSpec : ChangeSpec := { name := "walkAreas", fn := fun _ => fun
  | [d] => { results := [.lit (.bool true)], args := [d] }
  | _ => none }
def walkAreasRow : OpenClaim := { program := "ytoclnkfeblfpbaagreat", sum := "ee60caf21fa1d38201d828beb72c2103c83e65737580bcdd9c88cefe6c2f3af2", func := "mapsheets/mapsheetslaw15.WalkAreas", spec := "walkAreas", unfollowed := true, recurses := true, apart := false }
def WalkAreasSaid : Prop := walkAreasRow.holds Tryz.pinned (OpenSpec.ofChange walkAreasSpec)

/-- ITS FALSE NEIGHBOUR: 'it returns false'. Refute it at one input. -/
def walkAreasWrong : ChangeSpec := { name := "walkAreas", fn := fun _ => fun
  | [d] => { results := [.lit (.bool false)], args := [d] }
  | _ => none }
def WalkAreasWrongFalsely : Prop := walkAreasRow.holds Tryz.pinned (OpenSpec.ofChange walkAreasWrong)

/- THE SECOND FORM. 'bulk': how many values and letters a reading holds, each counted each time it is reached (what is shared counts as often as it is met; a slice's spare places count too). A statement '..UptoSaid' is the law's where the arguments, and the package variables that the reading takes, are together of bulk at most 1048576: NARROWER than '..Said'. Prove '..Said' where nothing that the law and all that it calls make is longer than what came in: it says more and counts as full. Else prove '..UptoSaid'. A law counts once. -/
mutual
def uptoBulk {H : Type} : DataW H → Nat
  | .lit (.string bytes) => bytes.length + 1
  | .lit _ => 1
  | .nil => 1
  | .ptr d => uptoBulk d + 1
  | .slice elems spare => uptoBulkAll elems + uptoBulkAll spare + 1
  | .agg parts => uptoBulkAll parts + 1
  | .iface _ d => uptoBulk d + 1
  | .map entries => uptoBulkEntries entries + 1
  | .held _ => 1
def uptoBulkAll {H : Type} : List (DataW H) → Nat
  | [] => 0
  | d :: r => uptoBulk d + uptoBulkAll r
def uptoBulkEntries {H : Type} : List (Lit × DataW H) → Nat
  | [] => 0
  | x :: r => uptoBulkEntry x + uptoBulkEntries r
def uptoBulkEntry {H : Type} : Lit × DataW H → Nat
  | (.string bytes, d) => bytes.length + uptoBulk d + 1
  | (_, d) => uptoBulk d + 1
 end
def uptoSmall : (H : Type) → List (DataW H) → Bool := fun _ ds => decide (uptoBulkAll ds ≤ 1048576)
def OpenSpec.upto (s : _root_.Go.ChangeSpec) : _root_.Go.OpenSpec := { _root_.Go.OpenSpec.ofChange s with cond := some uptoSmall }

/-- 'mapsheetslaw15.WalkDarts', WHERE WHAT IT READS IS OF BULK AT MOST 1048576: true; the input reads as it did. -/
def walkDartsUptoRow : OpenClaim := { program := "ytoclnkfeblfpbaagreat", sum := "ee60caf21fa1d38201d828beb72c2103c83e65737580bcdd9c88cefe6c2f3af2", func := "mapsheets/mapsheetslaw15.WalkDarts", spec := "walkDarts", unfollowed := true, recurses := true, apart := false, narrowed := true }
def WalkDartsUptoSaid : Prop := walkDartsUptoRow.holds Tryz.pinned (OpenSpec.upto walkDartsSpec)

/-- 'mapsheetslaw15.WalkCycles', WHERE WHAT IT READS IS OF BULK AT MOST 1048576: true; the input reads as it did. -/
def walkCyclesUptoRow : OpenClaim := { program := "ytoclnkfeblfpbaagreat", sum := "ee60caf21fa1d38201d828beb72c2103c83e65737580bcdd9c88cefe6c2f3af2", func := "mapsheets/mapsheetslaw15.WalkCycles", spec := "walkCycles", unfollowed := true, recurses := true, apart := false, narrowed := true }
def WalkCyclesUptoSaid : Prop := walkCyclesUptoRow.holds Tryz.pinned (OpenSpec.upto walkCyclesSpec)

/-- 'mapsheetslaw15.WalkTwice', WHERE WHAT IT READS IS OF BULK AT MOST 1048576: true; the input reads as it did. -/
def walkTwiceUptoRow : OpenClaim := { program := "ytoclnkfeblfpbaagreat", sum := "ee60caf21fa1d38201d828beb72c2103c83e65737580bcdd9c88cefe6c2f3af2", func := "mapsheets/mapsheetslaw15.WalkTwice", spec := "walkTwice", unfollowed := true, recurses := true, apart := false, narrowed := true }
def WalkTwiceUptoSaid : Prop := walkTwiceUptoRow.holds Tryz.pinned (OpenSpec.upto walkTwiceSpec)

/-- 'mapsheetslaw15.WalkEuler', WHERE WHAT IT READS IS OF BULK AT MOST 1048576: true; the input reads as it did. -/
def walkEulerUptoRow : OpenClaim := { program := "ytoclnkfeblfpbaagreat", sum := "ee60caf21fa1d38201d828beb72c2103c83e65737580bcdd9c88cefe6c2f3af2", func := "mapsheets/mapsheetslaw15.WalkEuler", spec := "walkEuler", unfollowed := true, recurses := true, apart := false, narrowed := true }
def WalkEulerUptoSaid : Prop := walkEulerUptoRow.holds Tryz.pinned (OpenSpec.upto walkEulerSpec)

/-- 'mapsheetslaw15.WalkPartition', WHERE WHAT IT READS IS OF BULK AT MOST 1048576: true; the input reads as it did. -/
def walkPartitionUptoRow : OpenClaim := { program := "ytoclnkfeblfpbaagreat", sum := "ee60caf21fa1d38201d828beb72c2103c83e65737580bcdd9c88cefe6c2f3af2", func := "mapsheets/mapsheetslaw15.WalkPartition", spec := "walkPartition", unfollowed := true, recurses := true, apart := false, narrowed := true }
def WalkPartitionUptoSaid : Prop := walkPartitionUptoRow.holds Tryz.pinned (OpenSpec.upto walkPartitionSpec)

/-- 'mapsheetslaw15.WalkAreas', WHERE WHAT IT READS IS OF BULK AT MOST 1048576: true; the input reads as it did. -/
def walkAreasUptoRow : OpenClaim := { program := "ytoclnkfeblfpbaagreat", sum := "ee60caf21fa1d38201d828beb72c2103c83e65737580bcdd9c88cefe6c2f3af2", func := "mapsheets/mapsheetslaw15.WalkAreas", spec := "walkAreas", unfollowed := true, recurses := true, apart := false, narrowed := true }
def WalkAreasUptoSaid : Prop := walkAreasUptoRow.holds Tryz.pinned (OpenSpec.upto walkAreasSpec)

end Rows
end Go.Proofs.YtoclnkfeblfpbaaGreat
