/- Small facts for the laws of layer 42. -/
import Derived.Test.YtfdbidagdjnipaaGreatDoorJ16
import Derived.Test.YtfdbidagdjnipaaGreatDoorJ28
import Derived.Test.YtfdbidagdjnipaaGreatDoorJ11
set_option linter.unusedSimpArgs false
set_option linter.unusedVariables false
namespace Go.Proofs.YtfdbidagdjnipaaGreatDoor
open Go.RowKit

theorem small15_facts {p : Pl} (h : small15 p = true) : p.nodes.length ≤ 40 ∧ p.arcs.length ≤ 40 ∧ (p.arcs.flatMap (·.via)).length ≤ 300 := by
 unfold small15 at h
 simp only [Bool.and_eq_true, decide_eq_true_eq] at h
 exact ⟨h.1.1, h.1.2.1, h.2.2⟩
theorem same_true {v u : Value} {l : List Cr} {W : World} (h : Crs W v l) (h' : Crs W u l) : Calls Tryz.prog 13 #[v, u] W fun e w' => e = .returned (.bool true) ∧ Below W.heap.size W w' := by
 have := Same42_spec v u l l W h h'
 rw [decide_eq_true rfl] at this
 exact this
end Go.Proofs.YtfdbidagdjnipaaGreatDoor
