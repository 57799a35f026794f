/- Plain law: the reference's list of darts and the dart that follows each. No walk here. -/
import Derived.Test.YtoclnkfeblfpbaaGreatJ15
set_option linter.unusedSimpArgs false
set_option linter.unusedVariables false
namespace Go.Proofs.YtoclnkfeblfpbaaGreat
open Go.RowKit

def prN (Q : List Int) : List (Int × Int) := (List.range Q.length).map fun j => (-(Q.getD ((j + 1) % Q.length) 0), Q.getD j 0)
def prL (p : Pl) (k : Nat) : List (Int × Int) := (p.nodes.take k).flatMap fun n => prN (aroundD p n.id)
theorem prN_len (Q : List Int) : (prN Q).length = Q.length := by simp [prN]
theorem prL_succ (p : Pl) (k : Nat) (hk : k < p.nodes.length) : prL p (k + 1) = prL p k ++ prN (aroundD p p.nodes[k].id) := by
  unfold prL
  rw [List.take_succ_eq_append_getElem hk, List.flatMap_append]
  simp
theorem prL_len (p : Pl) (k : Nat) : (prL p k).length = (aroundL p k).length := by
  unfold prL aroundL
  rw [List.length_flatMap, List.length_flatMap]
  congr 1
  exact List.map_congr_left fun n _ => prN_len _
theorem prN_succ (Q : List Int) (j : Nat) (hj : j < Q.length) (hm : (j + 1) % Q.length < Q.length) : (prN Q).take (j + 1) = (prN Q).take j ++ [(-Q[(j + 1) % Q.length], Q[j])] := by
  have h : j < (prN Q).length := by rw [prN_len]; exact hj
  rw [List.take_succ_eq_append_getElem h]
  congr 2
  simp only [prN, List.getElem_map, List.getElem_range, List.getD_eq_getElem?_getD, List.getElem?_eq_getElem hm, List.getElem?_eq_getElem hj, Option.getD_some]
theorem prN_all (Q : List Int) : (prN Q).take Q.length = prN Q := List.take_of_length_le (by rw [prN_len]; exact Nat.le_refl _)
theorem mem_prN {Q : List Int} {x : Int × Int} (h : x ∈ prN Q) : ∃ j, ∃ hj : j < Q.length, ∃ hm : (j + 1) % Q.length < Q.length, x = (-Q[(j + 1) % Q.length], Q[j]) := by
  unfold prN at h
  obtain ⟨j, hj, rfl⟩ := List.mem_map.1 h
  rw [List.mem_range] at hj
  have hm : (j + 1) % Q.length < Q.length := Nat.mod_lt _ (by omega)
  exact ⟨j, hj, hm, by simp only [List.getD_eq_getElem?_getD, List.getElem?_eq_getElem hm, List.getElem?_eq_getElem hj, Option.getD_some]⟩
theorem mod_back {j N : Nat} (hj : j < N) : j = ((j + 1) % N + N - 1) % N := by
  by_cases e : j + 1 = N
  · subst e
    rw [Nat.mod_self]
    have : (0 + (j + 1) - 1) % (j + 1) = j := by rw [show 0 + (j + 1) - 1 = j by omega]; exact Nat.mod_eq_of_lt (by omega)
    exact this.symm
  · rw [Nat.mod_eq_of_lt (show j + 1 < N by omega), show j + 1 + N - 1 = j + N by omega, Nat.add_mod_right, Nat.mod_eq_of_lt hj]
section
variable {p : Pl} (h : Valid p)
include h
theorem Valid.pr_ok {x : Int × Int} (hx : x ∈ prL p p.nodes.length) : x.1 ∈ dartsD p ∧ x.2 = nextD p x.1 := by
  unfold prL at hx
  rw [List.take_length] at hx
  obtain ⟨n, hn, hx⟩ := List.mem_flatMap.1 hx
  obtain ⟨j, hj, hm, rfl⟩ := mem_prN hx
  have hnd := h.around_nodup hn
  have h1 := h.next_around hn (List.getElem_mem hm)
  refine ⟨neg_dart h1.2, ?_⟩
  show (aroundD p n.id)[j] = nextD p (-(aroundD p n.id)[(j + 1) % (aroundD p n.id).length])
  rw [h1.1, precD_at hnd hm]
  congr 1
  exact mod_back hj
theorem Valid.pr_mem {d : Int} (hd : d ∈ dartsD p) : d ∈ (prL p p.nodes.length).map (·.1) := by
  obtain ⟨n, hn, -, hm⟩ := h.start_node (neg_dart hd)
  have hq := (h.around_perm hn).symm.subset hm
  obtain ⟨i, hi, e⟩ := List.mem_iff_getElem.1 hq
  rw [List.mem_map]
  have key : ∃ j, j < (aroundD p n.id).length ∧ (j + 1) % (aroundD p n.id).length = i := by
    by_cases e0 : i = 0
    · subst e0
      exact ⟨(aroundD p n.id).length - 1, by omega, by rw [Nat.sub_add_cancel (by omega), Nat.mod_self]⟩
    · exact ⟨i - 1, by omega, by rw [Nat.sub_add_cancel (by omega), Nat.mod_eq_of_lt hi]⟩
  obtain ⟨j, hj, hji⟩ := key
  refine ⟨(-((aroundD p n.id).getD ((j + 1) % (aroundD p n.id).length) 0), (aroundD p n.id).getD j 0), ?_, ?_⟩
  · unfold prL
    rw [List.take_length, List.mem_flatMap]
    exact ⟨n, hn, List.mem_map.2 ⟨j, List.mem_range.2 hj, rfl⟩⟩
  · show -((aroundD p n.id).getD ((j + 1) % (aroundD p n.id).length) 0) = d
    rw [hji, List.getD_eq_getElem?_getD, List.getElem?_eq_getElem hi, Option.getD_some, e]
    omega
theorem Valid.pr_len : (prL p p.nodes.length).length = (dartsD p).length := by
  rw [prL_len, aroundL_all]; exact h.all_around.length_eq
end
end Go.Proofs.YtoclnkfeblfpbaaGreat
