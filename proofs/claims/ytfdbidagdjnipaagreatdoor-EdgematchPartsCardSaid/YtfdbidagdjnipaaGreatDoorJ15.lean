/- mapsheetsref42: add, entering, leaving. -/
import Derived.Test.YtfdbidagdjnipaaGreatDoorJ11
import Derived.Test.YtfdbidagdjnipaaGreatDoorGB
set_option linter.unusedSimpArgs false
set_option linter.unusedVariables false
namespace Go.Proofs.YtfdbidagdjnipaaGreatDoor
open Go.RowKit

theorem Crs.form {w : World} {v : Value} {l : List Cr} (h : Crs w v l) : ∃ A c, v = .slice A l.length c := by
 obtain ⟨A, c, rfl, -⟩ := h
 exact ⟨A, c, rfl⟩

end Go.Proofs.YtfdbidagdjnipaaGreatDoor
