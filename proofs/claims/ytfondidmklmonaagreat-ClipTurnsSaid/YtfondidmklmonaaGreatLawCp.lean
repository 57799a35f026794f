/- mapsheetslaw41.ClipParts: true. -/
import Derived.Test.YtfondidmklmonaaGreatClipAx
import Derived.Test.YtfondidmklmonaaGreatJ16
import Derived.Test.YtfondidmklmonaaGreatJ19
import Derived.Test.YtfondidmklmonaaGreatGG
import Derived.Test.YtfondidmklmonaaGreatJ15
import Derived.Test.YtfondidmklmonaaGreatJ09
import Derived.Test.YtfondidmklmonaaGreatLawFinds
set_option linter.unusedSimpArgs false
set_option linter.unusedVariables false
namespace Go.Proofs.YtfondidmklmonaaGreat
open Go.RowKit

theorem few_smP {p : Pl} {M : Nat} (h : fewS p M = true) (hM : M ≤ 1000) : SmP p := by
 obtain ⟨h1, h2, -, h4⟩ := few_short h
 exact ⟨by omega, by omega, fun a ha => by have := via_le h4 a ha; omega⟩
def RetPrtR (w : World) (x : Prt) (z : Int) (e : Ending) (w' : World) : Prop :=
 ∃ A n c A' n' c', e = .returned (.tuple #[.agg #[.int .i64 x.sheet, .slice A n c, .slice A' n' c'], .int .i64 z]) ∧ Below w.heap.size w w' ∧ PrtV w' (.agg #[.int .i64 x.sheet, .slice A n c, .slice A' n' c']) x
theorem RetPrtE.rd {w : World} {r : Prt × Int} {e : Ending} {w' : World} (h : RetPrtE w r e w') : RetPrtR w r.1 r.2 e w' := by
 obtain ⟨A, n, c, A', n', c', he, hb, ho⟩ := h
 exact ⟨A, n, c, A', n', c', he, hb, ho.read⟩
end Go.Proofs.YtfondidmklmonaaGreat
