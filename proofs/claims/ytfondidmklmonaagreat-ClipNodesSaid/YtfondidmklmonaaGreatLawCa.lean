/- mapsheetslaw41.ClipAlls: true. -/
import Derived.Test.YtfondidmklmonaaGreatLawCp
set_option linter.unusedSimpArgs false
set_option linter.unusedVariables false
namespace Go.Proofs.YtfondidmklmonaaGreat
open Go.RowKit

def RetPrtsR (w : World) (l : List Prt) (z : Int) (e : Ending) (w' : World) : Prop :=
 ∃ A c L, e = .returned (.tuple #[.slice A l.length c, .int .i64 z]) ∧ Below w.heap.size w w' ∧ L.map (·.1) = l ∧ Prts w' (.slice A l.length c) L
theorem RetPrts.rd {w : World} {r : List Prt × Int} {e : Ending} {w' : World} (h : RetPrts w r e w') : RetPrtsR w r.1 r.2 e w' := by
 obtain ⟨A, c, L, he, hb, hl, ho⟩ := h
 exact ⟨A, c, L.map rdX, he, hb, by rw [List.map_map]; exact hl, ho.read⟩
end Go.Proofs.YtfondidmklmonaaGreat
