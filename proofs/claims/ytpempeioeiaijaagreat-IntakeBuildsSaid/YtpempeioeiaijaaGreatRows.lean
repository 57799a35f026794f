/-
  No cell of these rows narrows 'for every input' (looked for: loops, veiled, ifaces, maps, wideKeys, modest, calm, conditions, laid).
  DERIVED. THE GIVEN ROWS OF THIS SEAT. 7 by the template 'for every input the law returns true; each argument reads behind the call as it read before'; 0 by the template 'total and deterministic' (their statements: YtpempeioeiaijaaGreatTotals.lean).
  GIVEN WITH THE SEED: the statements are not yours to turn. If you find one false, say at which input.
  Laid BY PROGRAM, IN A SANDBOX (cutbox-rows.mjs): the forced cells as the released guide's own fill.sh prints them over the translation d3b3d2304c87de6d… (all of the seat's roots in one cut). By AI agents, Wed Nov 11 2026. No macro, syntax, notation, axiom, sorry.
-/
import Derived.Test.YtpempeioeiaijaaGreatChecked
import GoSem.Claim
import GoSem.ClaimJoined
import GoSem.ClaimMapViews
import Derived.JoinedTies
import Derived.KernelRfl
namespace Go.Proofs.YtpempeioeiaijaaGreat
/- THE CELL 'sum', in the pinned program and in every row, IS THE sha256 OF THE DUMP (.gsa) THAT YtpempeioeiaijaaGreatProg.lean LOADS. Nothing in Lean hashes anything: it is a label: what it is worth is what the hold of that sum in a sandbox is worth. -/
noncomputable def Tryz.pinned : Pinned := { name := "ytpempeioeiaijaagreat", sum := "d3b3d2304c87de6d15ea2f0c6e11b7452652cf54facc69bbccfb78bf0d237c50", checked := Tryz.checked }
namespace Rows
def none {H : Type} : Left H := { results := [], args := [] }

/-- 'mapsheetslaw19.IntakePoints': WHATEVER THE INPUT: true; the input reads as it did. -/
def intakePointsSpec : ChangeSpec := { name := "intakePoints", fn := fun _ => fun
  | [d] => { results := [.lit (.bool true)], args := [d] }
  | _ => none }
def intakePointsRow : OpenClaim := { program := "ytpempeioeiaijaagreat", sum := "d3b3d2304c87de6d15ea2f0c6e11b7452652cf54facc69bbccfb78bf0d237c50", func := "mapsheets/mapsheetslaw19.IntakePoints", spec := "intakePoints", unfollowed := true, recurses := true, plainKeys := false, apart := false }
def IntakePointsSaid : Prop := intakePointsRow.holds Tryz.pinned (OpenSpec.ofChange intakePointsSpec)

/-- ITS FALSE NEIGHBOUR: 'it returns false'. Refute it at one input. -/
def intakePointsWrong : ChangeSpec := { name := "intakePoints", fn := fun _ => fun
  | [d] => { results := [.lit (.bool false)], args := [d] }
  | _ => none }
def IntakePointsWrongFalsely : Prop := intakePointsRow.holds Tryz.pinned (OpenSpec.ofChange intakePointsWrong)

/-- 'mapsheetslaw19.IntakeLines': WHATEVER THE INPUT: true; the input reads as it did. -/
def intakeLinesSpec : ChangeSpec := { name := "intakeLines", fn := fun _ => fun
  | [d] => { results := [.lit (.bool true)], args := [d] }
  | _ => none }
def intakeLinesRow : OpenClaim := { program := "ytpempeioeiaijaagreat", sum := "d3b3d2304c87de6d15ea2f0c6e11b7452652cf54facc69bbccfb78bf0d237c50", func := "mapsheets/mapsheetslaw19.IntakeLines", spec := "intakeLines", unfollowed := true, recurses := true, plainKeys := false, apart := false }
def IntakeLinesSaid : Prop := intakeLinesRow.holds Tryz.pinned (OpenSpec.ofChange intakeLinesSpec)

/-- ITS FALSE NEIGHBOUR: 'it returns false'. Refute it at one input. -/
def intakeLinesWrong : ChangeSpec := { name := "intakeLines", fn := fun _ => fun
  | [d] => { results := [.lit (.bool false)], args := [d] }
  | _ => none }
def IntakeLinesWrongFalsely : Prop := intakeLinesRow.holds Tryz.pinned (OpenSpec.ofChange intakeLinesWrong)

/-- 'mapsheetslaw19.IntakeAgain': WHATEVER THE INPUT: true; the input reads as it did. -/
def intakeAgainSpec : ChangeSpec := { name := "intakeAgain", fn := fun _ => fun
  | [d] => { results := [.lit (.bool true)], args := [d] }
  | _ => none }
def intakeAgainRow : OpenClaim := { program := "ytpempeioeiaijaagreat", sum := "d3b3d2304c87de6d15ea2f0c6e11b7452652cf54facc69bbccfb78bf0d237c50", func := "mapsheets/mapsheetslaw19.IntakeAgain", spec := "intakeAgain", unfollowed := true, recurses := true, plainKeys := false, apart := false }
def IntakeAgainSaid : Prop := intakeAgainRow.holds Tryz.pinned (OpenSpec.ofChange intakeAgainSpec)

/-- ITS FALSE NEIGHBOUR: 'it returns false'. Refute it at one input. -/
def intakeAgainWrong : ChangeSpec := { name := "intakeAgain", fn := fun _ => fun
  | [d] => { results := [.lit (.bool false)], args := [d] }
  | _ => none }
def IntakeAgainWrongFalsely : Prop := intakeAgainRow.holds Tryz.pinned (OpenSpec.ofChange intakeAgainWrong)

/-- 'mapsheetslaw19.IntakeOrders': WHATEVER THE INPUT: true; the input reads as it did. -/
def intakeOrdersSpec : ChangeSpec := { name := "intakeOrders", fn := fun _ => fun
  | [d1, d2] => { results := [.lit (.bool true)], args := [d1, d2] }
  | _ => none }
def intakeOrdersRow : OpenClaim := { program := "ytpempeioeiaijaagreat", sum := "d3b3d2304c87de6d15ea2f0c6e11b7452652cf54facc69bbccfb78bf0d237c50", func := "mapsheets/mapsheetslaw19.IntakeOrders", spec := "intakeOrders", unfollowed := true, recurses := true, plainKeys := false, apart := false }
def IntakeOrdersSaid : Prop := intakeOrdersRow.holds Tryz.pinned (OpenSpec.ofChange intakeOrdersSpec)

/-- ITS FALSE NEIGHBOUR: 'it returns false'. Refute it at one input. -/
def intakeOrdersWrong : ChangeSpec := { name := "intakeOrders", fn := fun _ => fun
  | [d1, d2] => { results := [.lit (.bool false)], args := [d1, d2] }
  | _ => none }
def IntakeOrdersWrongFalsely : Prop := intakeOrdersRow.holds Tryz.pinned (OpenSpec.ofChange intakeOrdersWrong)

/-- 'mapsheetslaw19.IntakeCuts': WHATEVER THE INPUT: true; the input reads as it did. -/
def intakeCutsSpec : ChangeSpec := { name := "intakeCuts", fn := fun _ => fun
  | [d1, d2, d3] => { results := [.lit (.bool true)], args := [d1, d2, d3] }
  | _ => none }
def intakeCutsRow : OpenClaim := { program := "ytpempeioeiaijaagreat", sum := "d3b3d2304c87de6d15ea2f0c6e11b7452652cf54facc69bbccfb78bf0d237c50", func := "mapsheets/mapsheetslaw19.IntakeCuts", spec := "intakeCuts", unfollowed := true, recurses := true, plainKeys := false, apart := false }
def IntakeCutsSaid : Prop := intakeCutsRow.holds Tryz.pinned (OpenSpec.ofChange intakeCutsSpec)

/-- ITS FALSE NEIGHBOUR: 'it returns false'. Refute it at one input. -/
def intakeCutsWrong : ChangeSpec := { name := "intakeCuts", fn := fun _ => fun
  | [d1, d2, d3] => { results := [.lit (.bool false)], args := [d1, d2, d3] }
  | _ => none }
def IntakeCutsWrongFalsely : Prop := intakeCutsRow.holds Tryz.pinned (OpenSpec.ofChange intakeCutsWrong)

/-- 'mapsheetslaw19.IntakeBuilds': WHATEVER THE INPUT: true; the input reads as it did. -/
def intakeBuildsSpec : ChangeSpec := { name := "intakeBuilds", fn := fun _ => fun
  | [d] => { results := [.lit (.bool true)], args := [d] }
  | _ => none }
def intakeBuildsRow : OpenClaim := { program := "ytpempeioeiaijaagreat", sum := "d3b3d2304c87de6d15ea2f0c6e11b7452652cf54facc69bbccfb78bf0d237c50", func := "mapsheets/mapsheetslaw19.IntakeBuilds", spec := "intakeBuilds", unfollowed := true, recurses := true, plainKeys := false, apart := false }
def IntakeBuildsSaid : Prop := intakeBuildsRow.holds Tryz.pinned (OpenSpec.ofChange intakeBuildsSpec)

/-- ITS FALSE NEIGHBOUR: 'it returns false'. Refute it at one input. -/
def intakeBuildsWrong : ChangeSpec := { name := "intakeBuilds", fn := fun _ => fun
  | [d] => { results := [.lit (.bool false)], args := [d] }
  | _ => none }
def IntakeBuildsWrongFalsely : Prop := intakeBuildsRow.holds Tryz.pinned (OpenSpec.ofChange intakeBuildsWrong)

/-- 'mapsheetslaw19.IntakeRebuilds': WHATEVER THE INPUT: true; the input reads as it did. -/
def intakeRebuildsSpec : ChangeSpec := { name := "intakeRebuilds", fn := fun _ => fun
  | [d] => { results := [.lit (.bool true)], args := [d] }
  | _ => none }
def intakeRebuildsRow : OpenClaim := { program := "ytpempeioeiaijaagreat", sum := "d3b3d2304c87de6d15ea2f0c6e11b7452652cf54facc69bbccfb78bf0d237c50", func := "mapsheets/mapsheetslaw19.IntakeRebuilds", spec := "intakeRebuilds", unfollowed := true, recurses := true, plainKeys := false, apart := false }
def IntakeRebuildsSaid : Prop := intakeRebuildsRow.holds Tryz.pinned (OpenSpec.ofChange intakeRebuildsSpec)

/-- ITS FALSE NEIGHBOUR: 'it returns false'. Refute it at one input. -/
def intakeRebuildsWrong : ChangeSpec := { name := "intakeRebuilds", fn := fun _ => fun
  | [d] => { results := [.lit (.bool false)], args := [d] }
  | _ => none }
def IntakeRebuildsWrongFalsely : Prop := intakeRebuildsRow.holds Tryz.pinned (OpenSpec.ofChange intakeRebuildsWrong)

/- THE SECOND FORM. 'bulk': how many values and letters a reading holds, each counted each time it is reached (what is shared counts as often as it is met; a slice's spare places count too). A statement '..UptoSaid' is the law's where the arguments, and the package variables that the reading takes, are together of bulk at most 1048576: NARROWER than '..Said'. Prove '..Said' where nothing that the law and all that it calls make is longer than what came in: it says more and counts as full. Else prove '..UptoSaid'. A law counts once. -/
mutual
def uptoBulk {H : Type} : DataW H → Nat
  | .lit (.string bytes) => bytes.length + 1
  | .lit _ => 1
  | .nil => 1
  | .ptr d => uptoBulk d + 1
  | .slice elems spare => uptoBulkAll elems + uptoBulkAll spare + 1
  | .agg parts => uptoBulkAll parts + 1
  | .iface _ d => uptoBulk d + 1
  | .map entries => uptoBulkEntries entries + 1
  | .held _ => 1
def uptoBulkAll {H : Type} : List (DataW H) → Nat
  | [] => 0
  | d :: r => uptoBulk d + uptoBulkAll r
def uptoBulkEntries {H : Type} : List (Lit × DataW H) → Nat
  | [] => 0
  | x :: r => uptoBulkEntry x + uptoBulkEntries r
def uptoBulkEntry {H : Type} : Lit × DataW H → Nat
  | (.string bytes, d) => bytes.length + uptoBulk d + 1
  | (_, d) => uptoBulk d + 1
 end
def uptoSmall : (H : Type) → List (DataW H) → Bool := fun _ ds => decide (uptoBulkAll ds ≤ 1048576)
def OpenSpec.upto (s : _root_.Go.ChangeSpec) : _root_.Go.OpenSpec := { _root_.Go.OpenSpec.ofChange s with cond := some uptoSmall }

/-- 'mapsheetslaw19.IntakePoints', WHERE WHAT IT READS IS OF BULK AT MOST 1048576: true; the input reads as it did. -/
def intakePointsUptoRow : OpenClaim := { program := "ytpempeioeiaijaagreat", sum := "d3b3d2304c87de6d15ea2f0c6e11b7452652cf54facc69bbccfb78bf0d237c50", func := "mapsheets/mapsheetslaw19.IntakePoints", spec := "intakePoints", unfollowed := true, recurses := true, plainKeys := false, apart := false, narrowed := true }
def IntakePointsUptoSaid : Prop := intakePointsUptoRow.holds Tryz.pinned (OpenSpec.upto intakePointsSpec)

/-- 'mapsheetslaw19.IntakeLines', WHERE WHAT IT READS IS OF BULK AT MOST 1048576: true; the input reads as it did. -/
def intakeLinesUptoRow : OpenClaim := { program := "ytpempeioeiaijaagreat", sum := "d3b3d2304c87de6d15ea2f0c6e11b7452652cf54facc69bbccfb78bf0d237c50", func := "mapsheets/mapsheetslaw19.IntakeLines", spec := "intakeLines", unfollowed := true, recurses := true, plainKeys := false, apart := false, narrowed := true }
def IntakeLinesUptoSaid : Prop := intakeLinesUptoRow.holds Tryz.pinned (OpenSpec.upto intakeLinesSpec)

/-- 'mapsheetslaw19.IntakeAgain', WHERE WHAT IT READS IS OF BULK AT MOST 1048576: true; the input reads as it did. -/
def intakeAgainUptoRow : OpenClaim := { program := "ytpempeioeiaijaagreat", sum := "d3b3d2304c87de6d15ea2f0c6e11b7452652cf54facc69bbccfb78bf0d237c50", func := "mapsheets/mapsheetslaw19.IntakeAgain", spec := "intakeAgain", unfollowed := true, recurses := true, plainKeys := false, apart := false, narrowed := true }
def IntakeAgainUptoSaid : Prop := intakeAgainUptoRow.holds Tryz.pinned (OpenSpec.upto intakeAgainSpec)

/-- 'mapsheetslaw19.IntakeOrders', WHERE WHAT IT READS IS OF BULK AT MOST 1048576: true; the input reads as it did. -/
def intakeOrdersUptoRow : OpenClaim := { program := "ytpempeioeiaijaagreat", sum := "d3b3d2304c87de6d15ea2f0c6e11b7452652cf54facc69bbccfb78bf0d237c50", func := "mapsheets/mapsheetslaw19.IntakeOrders", spec := "intakeOrders", unfollowed := true, recurses := true, plainKeys := false, apart := false, narrowed := true }
def IntakeOrdersUptoSaid : Prop := intakeOrdersUptoRow.holds Tryz.pinned (OpenSpec.upto intakeOrdersSpec)

/-- 'mapsheetslaw19.IntakeCuts', WHERE WHAT IT READS IS OF BULK AT MOST 1048576: true; the input reads as it did. -/
def intakeCutsUptoRow : OpenClaim := { program := "ytpempeioeiaijaagreat", sum := "d3b3d2304c87de6d15ea2f0c6e11b7452652cf54facc69bbccfb78bf0d237c50", func := "mapsheets/mapsheetslaw19.IntakeCuts", spec := "intakeCuts", unfollowed := true, recurses := true, plainKeys := false, apart := false, narrowed := true }
def IntakeCutsUptoSaid : Prop := intakeCutsUptoRow.holds Tryz.pinned (OpenSpec.upto intakeCutsSpec)

/-- 'mapsheetslaw19.IntakeBuilds', WHERE WHAT IT READS IS OF BULK AT MOST 1048576: true; the input reads as it did. -/
def intakeBuildsUptoRow : OpenClaim := { program := "ytpempeioeiaijaagreat", sum := "d3b3d2304c87de6d15ea2f0c6e11b7452652cf54facc69bbccfb78bf0d237c50", func := "mapsheets/mapsheetslaw19.IntakeBuilds", spec := "intakeBuilds", unfollowed := true, recurses := true, plainKeys := false, apart := false, narrowed := true }
def IntakeBuildsUptoSaid : Prop := intakeBuildsUptoRow.holds Tryz.pinned (OpenSpec.upto intakeBuildsSpec)

/-- 'mapsheetslaw19.IntakeRebuilds', WHERE WHAT IT READS IS OF BULK AT MOST 1048576: true; the input reads as it did. -/
def intakeRebuildsUptoRow : OpenClaim := { program := "ytpempeioeiaijaagreat", sum := "d3b3d2304c87de6d15ea2f0c6e11b7452652cf54facc69bbccfb78bf0d237c50", func := "mapsheets/mapsheetslaw19.IntakeRebuilds", spec := "intakeRebuilds", unfollowed := true, recurses := true, plainKeys := false, apart := false, narrowed := true }
def IntakeRebuildsUptoSaid : Prop := intakeRebuildsUptoRow.holds Tryz.pinned (OpenSpec.upto intakeRebuildsSpec)

end Rows
end Go.Proofs.YtpempeioeiaijaaGreat
