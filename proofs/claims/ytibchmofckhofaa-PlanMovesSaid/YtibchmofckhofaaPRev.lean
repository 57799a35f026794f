/- Plain law: reversing an arc does not change what Check gives. No walk here. -/
import Derived.Test.YtibchmofckhofaaPValid
set_option linter.unusedSimpArgs false
set_option linter.unusedVariables false
namespace Go.Proofs.Ytibchmofckhofaa
open Go.RowKit

/- ## The geometry: a segment turned round -/
theorem ron_flip (a b q : Pt) : ronS b a q = ronS a b q := by
  unfold ronS
  have hn : nears [b, a, q] = nears [a, b, q] := by rw [Bool.eq_iff_iff]; simp [nears]; constructor <;> (rintro ⟨h1, h2, h3⟩; exact ⟨h2, h1, h3⟩)
  have e1 : crossS b a b q = - crossS a b a q := by unfold crossS; grind
  have e2 : dotS b q a q = dotS a q b q := by unfold dotS; grind
  rw [hn, e1, e2]
  have : decide (-crossS a b a q = 0) = decide (crossS a b a q = 0) := by
    rw [Bool.eq_iff_iff]; simp
  rw [this]
theorem rmeet_flip (a b c d : Pt) : rmeetS b a c d = rmeetS a b c d := by
  unfold rmeetS
  have hn : nears [b, a, c, d] = nears [a, b, c, d] := by rw [Bool.eq_iff_iff]; simp [nears]; constructor <;> (rintro ⟨h1, h2, h3, h4⟩; exact ⟨h2, h1, h3, h4⟩)
  rw [hn]
  split
  case isFalse => rfl
  unfold rmeetN
  have e0 : crossS b a c d = - crossS a b c d := by unfold crossS; grind
  have e1 : crossS b a b c = - crossS a b a c := by unfold crossS; grind
  have e2 : crossS b a b d = - crossS a b a d := by unfold crossS; grind
  have e3 : crossS b c c d = crossS a c c d - crossS a b c d := by unfold crossS; grind
  have e4 : crossS b c b a = - crossS a c a b := by unfold crossS; grind
  rw [e0, e1, e2, e3, e4, ← sharedS_flip a b c d]
  by_cases h1 : a = b ∧ c = d ∧ ¬ a = c
  · rw [if_pos h1, if_pos ⟨h1.1.symm, h1.2.1, by rw [← h1.1]; exact h1.2.2⟩]
  rw [if_neg h1, if_neg (show ¬ (b = a ∧ c = d ∧ ¬ b = c) from fun e => h1 ⟨e.1.symm, e.2.1, by rw [← e.1]; exact e.2.2⟩)]
  generalize crossS a b c d = n at *
  by_cases h0 : n = 0
  · rw [if_pos h0, if_pos (show -n = 0 by omega)]
    have : ((-crossS a b a c = 0 ∧ -crossS a b a d = 0 ∧ crossS c d c b = 0 ∧ crossS c d c a = 0) ↔ (crossS a b a c = 0 ∧ crossS a b a d = 0 ∧ crossS c d c a = 0 ∧ crossS c d c b = 0)) := by omega
    simp only [this]
  · rw [if_neg h0, if_neg (show ¬ -n = 0 by omega)]
    by_cases hn' : n < 0
    · rw [if_pos hn', if_neg (show ¬ -n < 0 by omega)]
      congr 1
      simp only [eq_iff_iff]
      omega
    · rw [if_neg hn', if_pos (show -n < 0 by omega)]
      congr 1
      simp only [eq_iff_iff]
      omega
theorem rmeet_flip2 (a b c d : Pt) : rmeetS a b d c = rmeetS a b c d := by rw [rmeetS_comm a b d c, rmeet_flip, rmeetS_comm]

/- ## Planar, arc by arc -/
def ArcGood (p : Pl) (a : Ar) : Prop := (∀ k, k + 1 < (pathS p a).length → aloneS p (segK p a k) = true) ∧ (∀ k m, k < m → m + 1 < (pathS p a).length → apartS (segK p a k) (segK p a m) = true)
def ArcPair (p : Pl) (a b : Ar) : Prop := ∀ k, k + 1 < (pathS p a).length → ∀ m, m + 1 < (pathS p b).length → joinedS p (segK p a k) (segK p b m) = true
theorem segsOf_iff {p : Pl} {a : Ar} {s : Sg} : s ∈ segsOf a (pathS p a) ↔ ∃ k, k + 1 < (pathS p a).length ∧ s = segK p a k := by
  unfold segsOf
  rw [List.mem_map]
  constructor
  · rintro ⟨k, hk, rfl⟩; have := List.mem_range.1 hk; exact ⟨k, by omega, rfl⟩
  · rintro ⟨k, hk, rfl⟩; exact ⟨k, List.mem_range.2 (by omega), rfl⟩
theorem planar_iff (p : Pl) (hs : (p.arcs.map (·.id)).Pairwise (· < ·)) : planarR p = true ↔ (∀ a ∈ p.arcs, ArcGood p a) ∧ p.arcs.Pairwise (ArcPair p) := by
  rw [List.pairwise_map] at hs
  unfold planarR
  rw [triB_iff]
  unfold segsS
  rw [List.pairwise_flatMap]
  constructor
  · rintro ⟨h1, h2, h3⟩
    refine ⟨fun a ha => ⟨fun k hk => h1 _ (List.mem_flatMap.2 ⟨a, ha, segK_mem hk⟩), fun k m hkm hm => ?_⟩, ?_⟩
    · have h4 := h2 a ha
      unfold segsOf at h4
      rw [List.pairwise_map, List.pairwise_iff_getElem] at h4
      have h5 := h4 k m (by rw [List.length_range]; omega) (by rw [List.length_range]; omega) hkm
      simp only [List.getElem_range] at h5
      unfold pairR at h5
      rw [if_pos rfl] at h5
      exact h5
    · refine (hs.and h3).imp ?_
      rintro a b ⟨hlt, h4⟩ k hk m hm
      have h5 := h4 _ (segK_mem hk) _ (segK_mem hm)
      unfold pairR at h5
      rw [if_neg (show ¬ (segK p a k).arc.id = (segK p b m).arc.id from fun e => by have e' : a.id = b.id := e; omega)] at h5
      exact h5
  · rintro ⟨h1, h2⟩
    refine ⟨fun s hs' => ?_, fun a ha => ?_, ?_⟩
    · obtain ⟨a, ha, hs'⟩ := List.mem_flatMap.1 hs'
      obtain ⟨k, hk, rfl⟩ := segsOf_iff.1 hs'
      exact (h1 a ha).1 k hk
    · unfold segsOf
      rw [List.pairwise_map, List.pairwise_iff_getElem]
      intro k m hk hm hkm
      simp only [List.getElem_range]
      rw [List.length_range] at hm
      unfold pairR
      rw [if_pos rfl]
      exact (h1 a ha).2 k m hkm (by omega)
    · refine (hs.and h2).imp ?_
      rintro a b ⟨hlt, h4⟩ s hs1 t ht
      obtain ⟨k, hk, rfl⟩ := segsOf_iff.1 hs1
      obtain ⟨m, hm, rfl⟩ := segsOf_iff.1 ht
      unfold pairR
      rw [if_neg (show ¬ (segK p a k).arc.id = (segK p b m).arc.id from fun e => by have e' : a.id = b.id := e; omega)]
      exact h4 k hk m hm
theorem joined_comm (p : Pl) (s t : Sg) : joinedS p s t = joinedS p t s := by
  unfold joinedS
  rw [rmeetS_comm t.a t.b s.a s.b]
  have : meetAt s t = meetAt t s := by
    funext x
    unfold meetAt
    cases endsS s.arc x.id <;> cases endsS t.arc x.id <;> cases ronS s.a s.b x.pt <;> cases ronS t.a t.b x.pt <;> rfl
  rw [this]
theorem ArcPair.symm {p : Pl} {a b : Ar} (h : ArcPair p a b) : ArcPair p b a := fun k hk m hm => by rw [joined_comm]; exact h m hm k hk

/- ## An arc reversed -/
def revA (a : Ar) : Ar := ⟨a.id, a.dst, a.fr, a.via.reverse, a.right, a.left⟩
theorem revA_revA (a : Ar) : revA (revA a) = a := by cases a; simp [revA]
theorem path_rev (p : Pl) (a : Ar) : pathS p (revA a) = (pathS p a).reverse := by simp [pathS, revA]
theorem getD_rev (l : List Pt) (k : Nat) (hk : k < l.length) : l.reverse.getD k pt0 = l.getD (l.length - 1 - k) pt0 := by
  rw [List.getD_eq_getElem?_getD, List.getD_eq_getElem?_getD, List.getElem?_reverse hk]
theorem seg_rev (p : Pl) (a : Ar) (k : Nat) (hk : k + 1 < (pathS p a).length) :
    segK p (revA a) k = ⟨revA a, k, (pathS p a).length - 1, (segK p a ((pathS p a).length - 2 - k)).b, (segK p a ((pathS p a).length - 2 - k)).a⟩ := by
  unfold segK
  rw [path_rev, List.length_reverse, getD_rev _ _ (by omega), getD_rev _ _ hk]
  simp only [Sg.mk.injEq, true_and]
  exact ⟨by congr 1; omega, by congr 1; omega⟩
theorem alone_rev (p : Pl) (a : Ar) (k : Nat) (hk : k + 1 < (pathS p a).length) : aloneS p (segK p (revA a) k) = aloneS p (segK p a ((pathS p a).length - 2 - k)) := by
  rw [seg_rev p a k hk]
  unfold aloneS
  have h1 : offNd ⟨revA a, k, (pathS p a).length - 1, (segK p a ((pathS p a).length - 2 - k)).b, (segK p a ((pathS p a).length - 2 - k)).a⟩ = offNd (segK p a ((pathS p a).length - 2 - k)) := by
    funext x
    unfold offNd
    rw [ron_flip]
    congr 1
    unfold isEnd
    have c1 : (((k : Nat) : Int) == 0) = (((((pathS p a).length - 2 - k : Nat) : Int)) == (((pathS p a).length - 1 : Nat) : Int) - 1) := by
      rw [Bool.eq_iff_iff, beq_iff_eq, beq_iff_eq]; omega
    have c2 : (((k : Nat) : Int) == (((pathS p a).length - 1 : Nat) : Int) - 1) = (((((pathS p a).length - 2 - k : Nat) : Int)) == 0) := by
      rw [Bool.eq_iff_iff, beq_iff_eq, beq_iff_eq]; omega
    show ((((k : Nat) : Int) == 0) && (a.dst == x.id) || (((k : Nat) : Int) == (((pathS p a).length - 1 : Nat) : Int) - 1) && (a.fr == x.id)) = (((((pathS p a).length - 2 - k : Nat) : Int) == 0) && (a.fr == x.id) || (((((pathS p a).length - 2 - k : Nat) : Int)) == (((pathS p a).length - 1 : Nat) : Int) - 1) && (a.dst == x.id))
    rw [c1, c2, Bool.or_comm]
  have h2 : soundS ⟨revA a, k, (pathS p a).length - 1, (segK p a ((pathS p a).length - 2 - k)).b, (segK p a ((pathS p a).length - 2 - k)).a⟩ = soundS (segK p a ((pathS p a).length - 2 - k)) := by
    unfold soundS
    have c1 : decide ((segK p a ((pathS p a).length - 2 - k)).b = (segK p a ((pathS p a).length - 2 - k)).a) = decide ((segK p a ((pathS p a).length - 2 - k)).a = (segK p a ((pathS p a).length - 2 - k)).b) := by
      rw [Bool.eq_iff_iff, decide_eq_true_eq, decide_eq_true_eq]; exact eq_comm
    have c2 : ((revA a).fr != (revA a).dst) = (a.fr != a.dst) := by
      show (a.dst != a.fr) = _
      rw [Bool.eq_iff_iff, bne_iff_ne, bne_iff_ne]; exact ne_comm
    simp only [c1, c2]
    rfl
  rw [h1, h2]
theorem good_rev1 (p : Pl) (a : Ar) (h : ArcGood p a) : ArcGood p (revA a) := by
  constructor
  · intro k hk
    rw [path_rev, List.length_reverse] at hk
    rw [alone_rev p a k hk]
    exact h.1 _ (by omega)
  · intro k m hkm hm
    rw [path_rev, List.length_reverse] at hm
    have h1 := h.2 ((pathS p a).length - 2 - m) ((pathS p a).length - 2 - k) (by omega) (by omega)
    rw [seg_rev p a k (by omega), seg_rev p a m hm]
    unfold apartS at h1 ⊢
    simp only [] at h1 ⊢
    rw [rmeet_flip, rmeet_flip2, rmeetS_comm]
    have hc : (m = k + 1 ∨ (k = 0 ∧ m + 1 = (pathS p a).length - 1 ∧ (revA a).fr = (revA a).dst)) ↔ ((segK p a ((pathS p a).length - 2 - k)).i = (segK p a ((pathS p a).length - 2 - m)).i + 1 ∨ ((segK p a ((pathS p a).length - 2 - m)).i = 0 ∧ (segK p a ((pathS p a).length - 2 - k)).i + 1 = (segK p a ((pathS p a).length - 2 - k)).n ∧ (segK p a ((pathS p a).length - 2 - m)).arc.fr = (segK p a ((pathS p a).length - 2 - m)).arc.dst)) := by
      show (m = k + 1 ∨ (k = 0 ∧ m + 1 = (pathS p a).length - 1 ∧ a.dst = a.fr)) ↔ ((pathS p a).length - 2 - k = (pathS p a).length - 2 - m + 1 ∨ ((pathS p a).length - 2 - m = 0 ∧ (pathS p a).length - 2 - k + 1 = (pathS p a).length - 1 ∧ a.fr = a.dst))
      have : a.dst = a.fr ↔ a.fr = a.dst := eq_comm
      omega
    simp only [hc]
    exact h1
theorem good_rev (p : Pl) (a : Ar) : ArcGood p (revA a) ↔ ArcGood p a := ⟨fun h => by have := good_rev1 p _ h; rwa [revA_revA] at this, good_rev1 p a⟩
theorem pair_rev1 (p : Pl) (a b : Ar) (h : ArcPair p a b) : ArcPair p (revA a) b := by
  intro k hk m hm
  rw [path_rev, List.length_reverse] at hk
  have h1 := h ((pathS p a).length - 2 - k) (by omega) m hm
  rw [seg_rev p a k hk]
  unfold joinedS at h1 ⊢
  simp only [] at h1 ⊢
  rw [rmeet_flip]
  have : meetAt ⟨revA a, k, (pathS p a).length - 1, (segK p a ((pathS p a).length - 2 - k)).b, (segK p a ((pathS p a).length - 2 - k)).a⟩ (segK p b m) = meetAt (segK p a ((pathS p a).length - 2 - k)) (segK p b m) := by
    funext x
    unfold meetAt
    rw [ron_flip]
    have : endsS (revA a) x.id = endsS a x.id := by unfold endsS revA; exact Bool.or_comm _ _
    show (endsS (revA a) x.id && _ && _ && _) = (endsS a x.id && _ && _ && _)
    rw [this]
  rw [this]
  exact h1
theorem pair_rev (p : Pl) (a b : Ar) : ArcPair p (revA a) b ↔ ArcPair p a b := ⟨fun h => by have := pair_rev1 p _ b h; rwa [revA_revA] at this, pair_rev1 p a b⟩
theorem pair_rev' (p : Pl) (a b : Ar) : ArcPair p b (revA a) ↔ ArcPair p b a := ⟨fun h => ((pair_rev p a b).1 h.symm).symm, fun h => ((pair_rev p a b).2 h.symm).symm⟩

def revP (p : Pl) (i : Nat) (hi : i < p.arcs.length) : Pl := ⟨p.nodes, p.arcs.set i (revA p.arcs[i]), p.faces⟩
theorem map_set {α β : Type} (l : List α) (i : Nat) (hi : i < l.length) (b : α) (f : α → β) (h : f b = f l[i]) : (l.set i b).map f = l.map f := by
  apply List.ext_getElem
  · simp
  · intro j h1 h2
    simp only [List.getElem_map, List.getElem_set]
    split
    · rename_i e; subst e; exact h
    · rfl
theorem all_map' {α : Type} (l : List α) (f : α → Bool) : l.all f = (l.map f).all id := by rw [List.all_map]; rfl
theorem any_map' {α : Type} (l : List α) (f : α → Bool) : l.any f = (l.map f).any id := by rw [List.any_map]; rfl
theorem revP_len (p : Pl) (i : Nat) (hi : i < p.arcs.length) : (revP p i hi).arcs.length = p.arcs.length := by unfold revP; simp
theorem revP_get (p : Pl) (i : Nat) (hi : i < p.arcs.length) (j : Nat) (hj : j < p.arcs.length) : (revP p i hi).arcs[j]'(by rw [revP_len]; exact hj) = if i = j then revA p.arcs[i] else p.arcs[j] := by
  unfold revP
  simp only [List.getElem_set]
theorem planar_rev (p : Pl) (i : Nat) (hi : i < p.arcs.length) (hs : (p.arcs.map (·.id)).Pairwise (· < ·)) : planarR (revP p i hi) = planarR p := by
  have hs' : ((revP p i hi).arcs.map (·.id)).Pairwise (· < ·) := by
    have e : (revP p i hi).arcs.map (·.id) = p.arcs.map (·.id) := map_set p.arcs i hi _ (·.id) rfl
    rw [e]
    exact hs
  rw [Bool.eq_iff_iff, planar_iff _ hs, planar_iff _ hs']
  have hg : ∀ a, ArcGood (revP p i hi) a ↔ ArcGood p a := fun a => Iff.rfl
  have hq : ∀ a b, ArcPair (revP p i hi) a b ↔ ArcPair p a b := fun a b => Iff.rfl
  have hl := revP_len p i hi
  constructor
  · rintro ⟨h1, h2⟩
    rw [List.pairwise_iff_getElem] at h2 ⊢
    constructor
    · intro a ha
      obtain ⟨j, hj, rfl⟩ := List.mem_iff_getElem.1 ha
      have h3 := (hg _).1 (h1 _ (List.getElem_mem (show j < (revP p i hi).arcs.length by omega)))
      rw [revP_get p i hi j hj] at h3
      split at h3
      · rename_i e; subst e; exact (good_rev p _).1 h3
      · exact h3
    · intro j k hj hk hjk
      have h3 := (hq _ _).1 (h2 j k (by omega) (by omega) hjk)
      rw [revP_get p i hi j hj, revP_get p i hi k hk] at h3
      by_cases e1 : i = j
      · rw [if_pos e1, if_neg (by omega)] at h3
        subst e1
        exact (pair_rev p _ _).1 h3
      · rw [if_neg e1] at h3
        by_cases e2 : i = k
        · rw [if_pos e2] at h3
          subst e2
          exact (pair_rev' p _ _).1 h3
        · rw [if_neg e2] at h3
          exact h3
  · rintro ⟨h1, h2⟩
    rw [List.pairwise_iff_getElem] at h2 ⊢
    constructor
    · intro a ha
      obtain ⟨j, hj, rfl⟩ := List.mem_iff_getElem.1 ha
      have h3 := h1 _ (List.getElem_mem (show j < p.arcs.length by omega))
      refine (hg _).2 ?_
      rw [revP_get p i hi j (by omega)]
      split
      · rename_i e; subst e; exact (good_rev p _).2 h3
      · exact h3
    · intro j k hj hk hjk
      have h3 := h2 j k (by omega) (by omega) hjk
      refine (hq _ _).2 ?_
      rw [revP_get p i hi j (by omega), revP_get p i hi k (by omega)]
      by_cases e1 : i = j
      · rw [if_pos e1, if_neg (by omega)]
        subst e1
        exact (pair_rev p _ _).2 h3
      · rw [if_neg e1]
        by_cases e2 : i = k
        · rw [if_pos e2]
          subst e2
          exact (pair_rev' p _ _).2 h3
        · rw [if_neg e2]
          exact h3
theorem check_rev (p : Pl) (i : Nat) (hi : i < p.arcs.length) : checkS (revP p i hi) = checkS p := by
  have e1 : limS (revP p i hi) = limS p := by
    unfold limS
    rw [any_map' (revP p i hi).arcs, any_map' p.arcs]
    have : (revP p i hi).arcs.map (fun a => decide (64 < a.via.length)) = p.arcs.map fun a => decide (64 < a.via.length) := map_set _ i hi _ _ (by simp [revA])
    rw [this]
    have hl : (revP p i hi).arcs.length = p.arcs.length := revP_len p i hi
    rw [hl]
    rfl
  have e2 : (revP p i hi).arcs.map (·.id) = p.arcs.map (·.id) := map_set _ i hi _ _ rfl
  have e3 : orderedS (revP p i hi) = orderedS p := by unfold orderedS; rw [e2]; rfl
  have e4 : rangesS (revP p i hi) = rangesS p := by
    unfold rangesS pointsS
    rw [e2, List.all_append, List.all_append, List.all_flatMap, List.all_flatMap, all_map' (revP p i hi).arcs, all_map' p.arcs]
    have : (revP p i hi).arcs.map (fun a => a.via.all ptOk) = p.arcs.map fun a => a.via.all ptOk := map_set _ i hi _ _ (by simp [revA])
    rw [this]
    rfl
  have e5 : (revP p i hi).arcs.all (hasEnds (revP p i hi)) = p.arcs.all (hasEnds p) := by
    rw [all_map', all_map' p.arcs]
    have : (revP p i hi).arcs.map (hasEnds (revP p i hi)) = p.arcs.map (hasEnds p) := map_set _ i hi _ (hasEnds p) (by unfold hasEnds revA; exact Bool.and_comm _ _)
    rw [this]
  have e6 : sidesS (revP p i hi) = sidesS p := by
    unfold sidesS
    rw [all_map', all_map' p.arcs]
    have : (revP p i hi).arcs.map (fun a => faceS (revP p i hi).faces a.left && faceS (revP p i hi).faces a.right) = p.arcs.map (fun a => faceS p.faces a.left && faceS p.faces a.right) := map_set _ i hi _ (fun a => faceS p.faces a.left && faceS p.faces a.right) (by unfold revA; exact Bool.and_comm _ _)
    rw [this]
  unfold checkS
  rw [e1, e3, e4, e5, e6]
  show (if limS p = true then 3 else if orderedS p = false then 10 else if rangesS p = false then 2 else if dupS (p.nodes.map (·.pt)) = true then 8 else if p.arcs.all (hasEnds p) = false then 7 else if sidesS p = false then 12 else if planarR (revP p i hi) = false then 11 else 0) = _
  by_cases ho : orderedS p = false
  · simp only [ho, if_true]
  · have ha : (p.arcs.map (·.id)).Pairwise (· < ·) := by
      have := ho
      unfold orderedS at this
      rw [Bool.not_eq_false, Bool.and_eq_true, Bool.and_eq_true] at this
      exact asc_pw _ this.1.2
    rw [planar_rev p i hi ha]
end Go.Proofs.Ytibchmofckhofaa
