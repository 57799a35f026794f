/- mapsheetslaw14.PlanFinds: true. -/
import Derived.Test.YtfondidmklmonaaGreatJ20
set_option linter.unusedSimpArgs false
set_option linter.unusedVariables false
namespace Go.Proofs.YtfondidmklmonaaGreat
open Go.RowKit

theorem few_short {p : Pl} {M : Nat} (h : fewS p M = true) : p.nodes.length ≤ M ∧ p.arcs.length ≤ M ∧ p.faces.length ≤ M ∧ (p.arcs.flatMap (·.via)).length ≤ M := by
 unfold fewS at h
 exact of_decide_eq_true h
theorem via_le {p : Pl} {M : Nat} (h : (p.arcs.flatMap (·.via)).length ≤ M) : ∀ a ∈ p.arcs, a.via.length ≤ M := fun a ha => by
 obtain ⟨i, hi, rfl⟩ := List.mem_iff_getElem.1 ha
 have := flat_take_succ_le p.arcs (·.via) i hi
 omega
end Go.Proofs.YtfondidmklmonaaGreat
