/-
  No cell of these rows narrows 'for every input' (looked for: loops, veiled, ifaces, maps, wideKeys, modest, calm, conditions, laid).
  DERIVED. THE GIVEN ROWS OF THIS SEAT. 4 by the template 'for every input the law returns true; each argument reads behind the call as it read before'; 0 by the template 'total and deterministic' (their statements: YtnhdmghgjngcaaaGreatTotals.lean).
  GIVEN WITH THE SEED: the statements are not yours to turn. If you find one false, say at which input.
  Laid BY PROGRAM, IN A SANDBOX (cutbox-rows.mjs): the forced cells as the released guide's own fill.sh prints them over the translation e7eeff2a95c5625a… (all of the seat's roots in one cut). By AI agents, Wed Nov 11 2026. No macro, syntax, notation, axiom, sorry.
-/
import Derived.Test.YtnhdmghgjngcaaaGreatChecked
import GoSem.Claim
import GoSem.ClaimJoined
import GoSem.ClaimMapViews
import Derived.JoinedTies
import Derived.KernelRfl
namespace Go.Proofs.YtnhdmghgjngcaaaGreat
/- THE CELL 'sum', in the pinned program and in every row, IS THE sha256 OF THE DUMP (.gsa) THAT YtnhdmghgjngcaaaGreatProg.lean LOADS. Nothing in Lean hashes anything: it is a label: what it is worth is what the hold of that sum in a sandbox is worth. -/
noncomputable def Tryz.pinned : Pinned := { name := "ytnhdmghgjngcaaagreat", sum := "e7eeff2a95c5625a6ee95b689834ea1a464cf4e5863592062b0595d80441bc1e", checked := Tryz.checked }
namespace Rows
def none {H : Type} : Left H := { results := [], args := [] }

/-- 'mapsheetslaw34.SimplifyValid': WHATEVER THE INPUT: true; the input reads as it did. -/
def simplifyValidSpec : ChangeSpec := { name := "simplifyValid", fn := fun _ => fun
  | [d1, d2] => { results := [.lit (.bool true)], args := [d1, d2] }
  | _ => none }
def simplifyValidRow : OpenClaim := { program := "ytnhdmghgjngcaaagreat", sum := "e7eeff2a95c5625a6ee95b689834ea1a464cf4e5863592062b0595d80441bc1e", func := "mapsheets/mapsheetslaw34.SimplifyValid", spec := "simplifyValid", unfollowed := true, recurses := true, apart := false }
def SimplifyValidSaid : Prop := simplifyValidRow.holds Tryz.pinned (OpenSpec.ofChange simplifyValidSpec)

/-- ITS FALSE NEIGHBOUR: 'it returns false'. Refute it at one input. -/
def simplifyValidWrong : ChangeSpec := { name := "simplifyValid", fn := fun _ => fun
  | [d1, d2] => { results := [.lit (.bool false)], args := [d1, d2] }
  | _ => none }
def SimplifyValidWrongFalsely : Prop := simplifyValidRow.holds Tryz.pinned (OpenSpec.ofChange simplifyValidWrong)

/-- 'mapsheetslaw34.SimplifyEnds': WHATEVER THE INPUT: true; the input reads as it did. -/
def simplifyEndsSpec : ChangeSpec := { name := "simplifyEnds", fn := fun _ => fun
  | [d1, d2] => { results := [.lit (.bool true)], args := [d1, d2] }
  | _ => none }
def simplifyEndsRow : OpenClaim := { program := "ytnhdmghgjngcaaagreat", sum := "e7eeff2a95c5625a6ee95b689834ea1a464cf4e5863592062b0595d80441bc1e", func := "mapsheets/mapsheetslaw34.SimplifyEnds", spec := "simplifyEnds", unfollowed := true, recurses := true, apart := false }
def SimplifyEndsSaid : Prop := simplifyEndsRow.holds Tryz.pinned (OpenSpec.ofChange simplifyEndsSpec)

/-- ITS FALSE NEIGHBOUR: 'it returns false'. Refute it at one input. -/
def simplifyEndsWrong : ChangeSpec := { name := "simplifyEnds", fn := fun _ => fun
  | [d1, d2] => { results := [.lit (.bool false)], args := [d1, d2] }
  | _ => none }
def SimplifyEndsWrongFalsely : Prop := simplifyEndsRow.holds Tryz.pinned (OpenSpec.ofChange simplifyEndsWrong)

/-- 'mapsheetslaw34.SimplifyTurns': WHATEVER THE INPUT: true; the input reads as it did. -/
def simplifyTurnsSpec : ChangeSpec := { name := "simplifyTurns", fn := fun _ => fun
  | [d1, d2] => { results := [.lit (.bool true)], args := [d1, d2] }
  | _ => none }
def simplifyTurnsRow : OpenClaim := { program := "ytnhdmghgjngcaaagreat", sum := "e7eeff2a95c5625a6ee95b689834ea1a464cf4e5863592062b0595d80441bc1e", func := "mapsheets/mapsheetslaw34.SimplifyTurns", spec := "simplifyTurns", unfollowed := true, recurses := true, apart := false }
def SimplifyTurnsSaid : Prop := simplifyTurnsRow.holds Tryz.pinned (OpenSpec.ofChange simplifyTurnsSpec)

/-- ITS FALSE NEIGHBOUR: 'it returns false'. Refute it at one input. -/
def simplifyTurnsWrong : ChangeSpec := { name := "simplifyTurns", fn := fun _ => fun
  | [d1, d2] => { results := [.lit (.bool false)], args := [d1, d2] }
  | _ => none }
def SimplifyTurnsWrongFalsely : Prop := simplifyTurnsRow.holds Tryz.pinned (OpenSpec.ofChange simplifyTurnsWrong)

/-- 'mapsheetslaw34.SimplifyStays': WHATEVER THE INPUT: true; the input reads as it did. -/
def simplifyStaysSpec : ChangeSpec := { name := "simplifyStays", fn := fun _ => fun
  | [d1, d2] => { results := [.lit (.bool true)], args := [d1, d2] }
  | _ => none }
def simplifyStaysRow : OpenClaim := { program := "ytnhdmghgjngcaaagreat", sum := "e7eeff2a95c5625a6ee95b689834ea1a464cf4e5863592062b0595d80441bc1e", func := "mapsheets/mapsheetslaw34.SimplifyStays", spec := "simplifyStays", unfollowed := true, recurses := true, apart := false }
def SimplifyStaysSaid : Prop := simplifyStaysRow.holds Tryz.pinned (OpenSpec.ofChange simplifyStaysSpec)

/-- ITS FALSE NEIGHBOUR: 'it returns false'. Refute it at one input. -/
def simplifyStaysWrong : ChangeSpec := { name := "simplifyStays", fn := fun _ => fun
  | [d1, d2] => { results := [.lit (.bool false)], args := [d1, d2] }
  | _ => none }
def SimplifyStaysWrongFalsely : Prop := simplifyStaysRow.holds Tryz.pinned (OpenSpec.ofChange simplifyStaysWrong)

/- THE SECOND FORM. 'bulk': how many values and letters a reading holds, each counted each time it is reached (what is shared counts as often as it is met; a slice's spare places count too). A statement '..UptoSaid' is the law's where the arguments, and the package variables that the reading takes, are together of bulk at most 1048576: NARROWER than '..Said'. Prove '..Said' where nothing that the law and all that it calls make is longer than what came in: it says more and counts as full. Else prove '..UptoSaid'. A law counts once. -/
mutual
def uptoBulk {H : Type} : DataW H → Nat
  | .lit (.string bytes) => bytes.length + 1
  | .lit _ => 1
  | .nil => 1
  | .ptr d => uptoBulk d + 1
  | .slice elems spare => uptoBulkAll elems + uptoBulkAll spare + 1
  | .agg parts => uptoBulkAll parts + 1
  | .iface _ d => uptoBulk d + 1
  | .map entries => uptoBulkEntries entries + 1
  | .held _ => 1
def uptoBulkAll {H : Type} : List (DataW H) → Nat
  | [] => 0
  | d :: r => uptoBulk d + uptoBulkAll r
def uptoBulkEntries {H : Type} : List (Lit × DataW H) → Nat
  | [] => 0
  | x :: r => uptoBulkEntry x + uptoBulkEntries r
def uptoBulkEntry {H : Type} : Lit × DataW H → Nat
  | (.string bytes, d) => bytes.length + uptoBulk d + 1
  | (_, d) => uptoBulk d + 1
 end
def uptoSmall : (H : Type) → List (DataW H) → Bool := fun _ ds => decide (uptoBulkAll ds ≤ 1048576)
def OpenSpec.upto (s : _root_.Go.ChangeSpec) : _root_.Go.OpenSpec := { _root_.Go.OpenSpec.ofChange s with cond := some uptoSmall }

/-- 'mapsheetslaw34.SimplifyValid', WHERE WHAT IT READS IS OF BULK AT MOST 1048576: true; the input reads as it did. -/
def simplifyValidUptoRow : OpenClaim := { program := "ytnhdmghgjngcaaagreat", sum := "e7eeff2a95c5625a6ee95b689834ea1a464cf4e5863592062b0595d80441bc1e", func := "mapsheets/mapsheetslaw34.SimplifyValid", spec := "simplifyValid", unfollowed := true, recurses := true, apart := false, narrowed := true }
def SimplifyValidUptoSaid : Prop := simplifyValidUptoRow.holds Tryz.pinned (OpenSpec.upto simplifyValidSpec)

/-- 'mapsheetslaw34.SimplifyEnds', WHERE WHAT IT READS IS OF BULK AT MOST 1048576: true; the input reads as it did. -/
def simplifyEndsUptoRow : OpenClaim := { program := "ytnhdmghgjngcaaagreat", sum := "e7eeff2a95c5625a6ee95b689834ea1a464cf4e5863592062b0595d80441bc1e", func := "mapsheets/mapsheetslaw34.SimplifyEnds", spec := "simplifyEnds", unfollowed := true, recurses := true, apart := false, narrowed := true }
def SimplifyEndsUptoSaid : Prop := simplifyEndsUptoRow.holds Tryz.pinned (OpenSpec.upto simplifyEndsSpec)

/-- 'mapsheetslaw34.SimplifyTurns', WHERE WHAT IT READS IS OF BULK AT MOST 1048576: true; the input reads as it did. -/
def simplifyTurnsUptoRow : OpenClaim := { program := "ytnhdmghgjngcaaagreat", sum := "e7eeff2a95c5625a6ee95b689834ea1a464cf4e5863592062b0595d80441bc1e", func := "mapsheets/mapsheetslaw34.SimplifyTurns", spec := "simplifyTurns", unfollowed := true, recurses := true, apart := false, narrowed := true }
def SimplifyTurnsUptoSaid : Prop := simplifyTurnsUptoRow.holds Tryz.pinned (OpenSpec.upto simplifyTurnsSpec)

/-- 'mapsheetslaw34.SimplifyStays', WHERE WHAT IT READS IS OF BULK AT MOST 1048576: true; the input reads as it did. -/
def simplifyStaysUptoRow : OpenClaim := { program := "ytnhdmghgjngcaaagreat", sum := "e7eeff2a95c5625a6ee95b689834ea1a464cf4e5863592062b0595d80441bc1e", func := "mapsheets/mapsheetslaw34.SimplifyStays", spec := "simplifyStays", unfollowed := true, recurses := true, apart := false, narrowed := true }
def SimplifyStaysUptoSaid : Prop := simplifyStaysUptoRow.holds Tryz.pinned (OpenSpec.upto simplifyStaysSpec)

end Rows
end Go.Proofs.YtnhdmghgjngcaaaGreat
