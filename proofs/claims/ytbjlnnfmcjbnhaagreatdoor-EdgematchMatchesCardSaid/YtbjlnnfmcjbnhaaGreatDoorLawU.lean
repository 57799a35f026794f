/- Small facts for the laws of layer 42. -/
import Derived.Test.YtbjlnnfmcjbnhaaGreatDoorJ18
import Derived.Test.YtbjlnnfmcjbnhaaGreatDoorSmallE
import Derived.Test.YtbjlnnfmcjbnhaaGreatDoorJ12
set_option linter.unusedSimpArgs false
set_option linter.unusedVariables false
namespace Go.Proofs.YtbjlnnfmcjbnhaaGreatDoor
open Go.RowKit

theorem small_facts {x : Prt} (h : smallS x = true) : x.pieces.length ≤ 60 ∧ x.nodes.length ≤ 100 := by
  unfold smallS at h
  simp only [Bool.and_eq_true, decide_eq_true_eq] at h
  exact h.1
theorem small15_facts {p : Pl} (h : small15 p = true) : p.nodes.length ≤ 40 ∧ p.arcs.length ≤ 40 ∧ (p.arcs.flatMap (·.via)).length ≤ 300 := by
  unfold small15 at h
  simp only [Bool.and_eq_true, decide_eq_true_eq] at h
  exact ⟨h.1.1, h.1.2.1, h.2.2⟩
theorem crossRes_len (x : Prt) (b : Bx) (side : Int) : (crossResS x b side).1.length ≤ 2 * x.pieces.length := by
  unfold crossResS
  split
  · simp
  · rename_i g _
    show (sortCr (crossL g x)).length ≤ _
    rw [sortCr_len]
    have := pieces_len g x.nodes x.pieces x.pieces.length
    rw [List.take_length] at this
    exact this
theorem same_true {v u : Value} {l : List Cr} {W : World} (h : Crs W v l) (h' : Crs W u l) : Calls Tryz.prog 12 #[v, u] W fun e w' => e = .returned (.bool true) ∧ Below W.heap.size W w' := by
  have := Same42_spec v u l l W h h'
  rw [decide_eq_true rfl] at this
  exact this
end Go.Proofs.YtbjlnnfmcjbnhaaGreatDoor
