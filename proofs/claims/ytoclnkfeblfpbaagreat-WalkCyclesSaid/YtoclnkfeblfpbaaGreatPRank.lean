/- sorting by rank: the element that just k others are below stands at place k of the sorted list. -/
import Derived.Test.YtoclnkfeblfpbaaGreatJ14
set_option linter.unusedSimpArgs false
set_option linter.unusedVariables false
namespace Go.Proofs.YtoclnkfeblfpbaaGreat

def rankL (lt : Int → Int → Bool) (D : List Int) (x : Int) : Nat := D.countP (fun y => lt y x)
/-- the first element of rank k -/
def pickL (lt : Int → Int → Bool) (D : List Int) (k : Nat) : Option Int := D.find? (fun x => rankL lt D x == k)
theorem rank_at {lt : Int → Int → Bool} {S : List Int} (hs : S.Pairwise (fun a b => lt a b = true ∧ lt b a = false)) (hir : ∀ x ∈ S, lt x x = false) {k : Nat} (hk : k < S.length) : rankL lt S S[k] = k := by
  have hP := List.pairwise_iff_getElem.1 hs
  obtain ⟨c, hc⟩ : ∃ c, S[k] = c := ⟨_, rfl⟩
  have e : S = S.take k ++ S[k] :: S.drop (k + 1) := by rw [← List.drop_eq_getElem_cons hk, List.take_append_drop]
  have h1 : (S.take k).countP (fun y => lt y S[k]) = k := by
    have h2 : (S.take k).countP (fun y => lt y S[k]) = (S.take k).length := List.countP_eq_length.2 (fun a ha => by
      obtain ⟨j, hj, rfl⟩ := List.mem_iff_getElem.1 ha
      rw [List.length_take] at hj
      rw [List.getElem_take]
      exact (hP j k (by omega) hk (by omega)).1)
    rw [h2, List.length_take]; omega
  have h3 : (S.drop (k + 1)).countP (fun y => lt y S[k]) = 0 := List.countP_eq_zero.2 (fun a ha => by
    obtain ⟨j, hj, rfl⟩ := List.mem_iff_getElem.1 ha
    rw [List.length_drop] at hj
    rw [List.getElem_drop]
    have := (hP k (k + 1 + j) hk (by omega) (by omega)).2
    rw [this]; decide)
  unfold rankL
  rw [hc] at h1 h3 e ⊢
  have hcc := hir c (hc ▸ List.getElem_mem hk)
  conv => lhs; rw [e]
  rw [List.countP_append, List.countP_cons, h1, h3, hcc]
  simp
theorem sortB_strict {lt : Int → Int → Bool} {D : List Int} (ho : OrdOn lt D) (hn : D.Nodup) : (sortB lt D).Pairwise (fun a b => lt a b = true ∧ lt b a = false) := by
  obtain ⟨hp, hs⟩ := sortB_facts ho
  have hn2 : (sortB lt D).Nodup := hp.nodup_iff.2 hn
  rw [List.pairwise_iff_getElem] at hs ⊢
  intro i j hi hj hij
  have h1 := hs i j hi hj hij
  refine ⟨?_, h1⟩
  cases h : lt (sortB lt D)[i] (sortB lt D)[j]
  · have e := ho.tri _ (hp.mem_iff.1 (List.getElem_mem hi)) _ (hp.mem_iff.1 (List.getElem_mem hj)) h h1
    have := (List.pairwise_iff_getElem.1 hn2) i j hi hj hij
    exact absurd e this
  · rfl
theorem pick_at {lt : Int → Int → Bool} {D : List Int} (ho : OrdOn lt D) (hn : D.Nodup) {k : Nat} (hk : k < D.length) : pickL lt D k = (sortB lt D)[k]? := by
  obtain ⟨hp, -⟩ := sortB_facts ho
  have hs := sortB_strict ho hn
  have hir : ∀ x ∈ sortB lt D, lt x x = false := fun x hx => by
    have hx2 := hp.mem_iff.1 hx
    cases h : lt x x
    · rfl
    · have := ho.asym x hx2 x hx2 h; rw [h] at this; cases this
  have hkl : k < (sortB lt D).length := by rw [hp.length_eq]; exact hk
  have hr : ∀ j (hj : j < (sortB lt D).length), rankL lt D (sortB lt D)[j] = j := fun j hj => by
    have := rank_at hs hir hj
    unfold rankL at this ⊢
    rw [← hp.countP_eq]
    exact this
  rw [List.getElem?_eq_getElem hkl]
  unfold pickL
  cases h : D.find? (fun x => rankL lt D x == k) with
  | none =>
    have := List.find?_eq_none.1 h _ (hp.mem_iff.1 (List.getElem_mem hkl))
    rw [hr k hkl] at this
    simp at this
  | some x =>
    have h1 := List.find?_some h
    have h2 := List.mem_of_find?_eq_some h
    obtain ⟨j, hj, rfl⟩ := List.mem_iff_getElem.1 (hp.mem_iff.2 h2)
    rw [hr j hj] at h1
    have : j = k := by simpa using h1
    subst this
    rfl
/-- the order by the reference's second points is the order of the darts -/
theorem ltD_ref (p : Pl) (o : Pt) (d e : Int) : ltD p o d e = rlessS o (toD p d) (toD p e) := less_eq _ _ _
end Go.Proofs.YtoclnkfeblfpbaaGreat
