/- Plain law: what Check gives for a valid plan that is moved and turned. No walk here. -/
import Derived.Test.YtibchmofckhofaaPMove
set_option linter.unusedSimpArgs false
set_option linter.unusedVariables false
namespace Go.Proofs.Ytibchmofckhofaa
open Go.RowKit

section
variable (d : Pt) (t : Bool) {p : Pl}
theorem mv_points (p : Pl) : pointsS (mvPl d t p) = (pointsS p).map (mvPt d t) := by
  unfold pointsS mvPl
  rw [List.map_append, List.map_map, List.map_map, List.flatMap_map, List.map_flatMap]
  rfl
theorem mv_find (p : Pl) (id : Int) : findNd (mvPl d t p).nodes id = (findNd p.nodes id).map (mvNd d t) := by
  unfold findNd mvPl
  rw [List.find?_map]
  rfl
theorem mv_node {p : Pl} {id : Int} (h : (findNd p.nodes id).isSome = true) : nodeAt (mvPl d t p) id = mvPt d t (nodeAt p id) := by
  unfold nodeAt
  rw [mv_find]
  obtain ⟨n, hn⟩ := Option.isSome_iff_exists.1 h
  rw [hn]
  rfl
theorem mv_ends (p : Pl) (a : Ar) : hasEnds (mvPl d t p) (mvAr d t a) = hasEnds p a := by
  unfold hasEnds
  rw [mv_find, mv_find, Option.isSome_map, Option.isSome_map]
  rfl
theorem mv_path {p : Pl} {a : Ar} (h : hasEnds p a = true) : pathS (mvPl d t p) (mvAr d t a) = (pathS p a).map (mvPt d t) := by
  unfold hasEnds at h
  rw [Bool.and_eq_true] at h
  unfold pathS
  have e1 : nodeAt (mvPl d t p) (mvAr d t a).fr = mvPt d t (nodeAt p a.fr) := mv_node d t h.1
  have e2 : nodeAt (mvPl d t p) (mvAr d t a).dst = mvPt d t (nodeAt p a.dst) := mv_node d t h.2
  rw [e1, e2]
  simp [mvAr]
theorem getD_map (l : List Pt) (f : Pt → Pt) (k : Nat) (hk : k < l.length) : (l.map f).getD k pt0 = f (l.getD k pt0) := by
  rw [List.getD_eq_getElem?_getD, List.getD_eq_getElem?_getD, List.getElem?_map, List.getElem?_eq_getElem hk]
  rfl
theorem mv_seg {p : Pl} {a : Ar} (h : hasEnds p a = true) {k : Nat} (hk : k + 1 < (pathS p a).length) : segK (mvPl d t p) (mvAr d t a) k = ⟨mvAr d t a, k, (pathS p a).length - 1, mvPt d t (segK p a k).a, mvPt d t (segK p a k).b⟩ := by
  unfold segK
  rw [mv_path d t h, List.length_map, getD_map _ _ _ (by omega), getD_map _ _ _ hk]

variable (h : Valid p) (hok : (pointsS (mvPl d t p)).all ptOk = true)
include h hok
theorem mv_near {a : Ar} (ha : a ∈ p.arcs) {q : Pt} (hq : q ∈ pathS p a) : near1 (mvPt d t q) = true := by
  rw [mv_points, List.all_map] at hok
  have key : ∀ q ∈ pointsS p, near1 (mvPt d t q) = true := fun q hq => ptOk_near (List.all_eq_true.1 hok q hq)
  unfold pathS at hq
  rcases List.mem_cons.1 hq with rfl | hq
  · obtain ⟨n, hn, -, e⟩ := h.sound.at_fr ha
    rw [e]; exact key _ (List.mem_append_left _ (List.mem_map_of_mem hn))
  · rcases List.mem_append.1 hq with hq | hq
    · exact key _ (List.mem_append_right _ (List.mem_flatMap.2 ⟨a, ha, hq⟩))
    · rw [List.mem_singleton] at hq
      subst hq
      obtain ⟨n, hn, -, e⟩ := h.sound.at_dst ha
      rw [e]; exact key _ (List.mem_append_left _ (List.mem_map_of_mem hn))
omit h in
theorem mv_nnear {n : Nd} (hn : n ∈ p.nodes) : near1 (mvPt d t n.pt) = true := by
  rw [mv_points, List.all_map] at hok
  exact ptOk_near (List.all_eq_true.1 hok _ (List.mem_append_left _ (List.mem_map_of_mem hn)))
theorem mv_near4 {a b : Ar} (ha : a ∈ p.arcs) (hb : b ∈ p.arcs) {k m : Nat} (hk : k + 1 < (pathS p a).length) (hm : m + 1 < (pathS p b).length) :
    nears [(segK p a k).a, (segK p a k).b, (segK p b m).a, (segK p b m).b] = true ∧ nears [mvPt d t (segK p a k).a, mvPt d t (segK p a k).b, mvPt d t (segK p b m).a, mvPt d t (segK p b m).b] = true := by
  unfold segK
  exact ⟨near4 (h.pt_near ha (by omega)) (h.pt_near ha hk) (h.pt_near hb (by omega)) (h.pt_near hb hm),
    near4 (mv_near d t h hok ha (path_mem p a k (by omega))) (mv_near d t h hok ha (path_mem p a _ hk)) (mv_near d t h hok hb (path_mem p b m (by omega))) (mv_near d t h hok hb (path_mem p b _ hm))⟩
theorem mv_ron {a : Ar} (ha : a ∈ p.arcs) {k : Nat} (hk : k + 1 < (pathS p a).length) {n : Nd} (hn : n ∈ p.nodes) : ronS (mvPt d t (segK p a k).a) (mvPt d t (segK p a k).b) (mvPt d t n.pt) = ronS (segK p a k).a (segK p a k).b n.pt := by
  have h4 := mv_near4 d t h hok ha ha hk hk
  have n1 := h.node_near hn
  have n2 := mv_nnear d t hok hn
  refine mv_on d t ?_ ?_
  · simp [nears] at h4 ⊢; exact ⟨h4.1.1, h4.1.2.1, n1⟩
  · simp [nears] at h4 ⊢; exact ⟨h4.2.1, h4.2.2.1, n2⟩
theorem mv_rmeet {a b : Ar} (ha : a ∈ p.arcs) (hb : b ∈ p.arcs) {k m : Nat} (hk : k + 1 < (pathS p a).length) (hm : m + 1 < (pathS p b).length) :
    rmeetS (mvPt d t (segK p a k).a) (mvPt d t (segK p a k).b) (mvPt d t (segK p b m).a) (mvPt d t (segK p b m).b) = rmeetS (segK p a k).a (segK p a k).b (segK p b m).a (segK p b m).b := by
  obtain ⟨n1, n2⟩ := mv_near4 d t h hok ha hb hk hm
  exact mv_meet d t (h.distinct ha hk).1 n1 n2
theorem mv_planar : planarR (mvPl d t p) = true := by
  obtain ⟨o1, o2, o3⟩ := h.ord_parts
  have hends := List.all_eq_true.1 h.ends
  have e2 : (mvPl d t p).arcs.map (·.id) = p.arcs.map (·.id) := by unfold mvPl; rw [List.map_map]; rfl
  have hp := (planar_iff p o2).1 h.planar
  refine (planar_iff (mvPl d t p) (by rw [e2]; exact o2)).2 ⟨fun a' ha' => ?_, ?_⟩
  · obtain ⟨a, ha, rfl⟩ := List.mem_map.1 ha'
    have hg := hp.1 a ha
    constructor
    · intro k hk
      rw [mv_path d t (hends a ha), List.length_map] at hk
      have h1 := hg.1 k hk
      rw [mv_seg d t (hends a ha) hk]
      unfold aloneS at h1 ⊢
      rw [Bool.and_eq_true] at h1 ⊢
      constructor
      · rw [List.all_eq_true] at h1 ⊢
        intro n' hn'
        obtain ⟨n, hn, rfl⟩ := List.mem_map.1 hn'
        have h2 := h1.1 n hn
        unfold offNd at h2 ⊢
        have hr := mv_ron d t h hok ha hk hn
        show (isEnd _ _ || !ronS (mvPt d t (segK p a k).a) (mvPt d t (segK p a k).b) (mvPt d t n.pt)) = true
        rw [hr]
        exact h2
      · have h2 := h1.2
        unfold soundS at h2 ⊢
        rw [Bool.and_eq_true] at h2 ⊢
        refine ⟨?_, h2.2⟩
        have h3 := (h.distinct ha hk).1
        rw [Bool.not_eq_true', decide_eq_false_iff_not]
        exact fun e => h3 (mv_inj d t e)
    · intro k m hkm hm
      rw [mv_path d t (hends a ha), List.length_map] at hm
      have h1 := hg.2 k m hkm hm
      rw [mv_seg d t (hends a ha) (by omega), mv_seg d t (hends a ha) hm]
      unfold apartS at h1 ⊢
      simp only [mv_rmeet d t h hok ha ha (show k + 1 < (pathS p a).length by omega) hm]
      exact h1
  · unfold mvPl
    rw [List.pairwise_map]
    refine (List.Pairwise.and_mem.1 hp.2).imp ?_
    rintro a b ⟨ha, hb, hab⟩ k hk m hm
    have ea : pathS ⟨p.nodes.map (mvNd d t), p.arcs.map (mvAr d t), p.faces⟩ (mvAr d t a) = (pathS p a).map (mvPt d t) := mv_path d t (hends a ha)
    have eb : pathS ⟨p.nodes.map (mvNd d t), p.arcs.map (mvAr d t), p.faces⟩ (mvAr d t b) = (pathS p b).map (mvPt d t) := mv_path d t (hends b hb)
    rw [ea, List.length_map] at hk
    rw [eb, List.length_map] at hm
    have h1 := hab k hk m hm
    have sa : segK ⟨p.nodes.map (mvNd d t), p.arcs.map (mvAr d t), p.faces⟩ (mvAr d t a) k = _ := mv_seg d t (hends a ha) hk
    have sb : segK ⟨p.nodes.map (mvNd d t), p.arcs.map (mvAr d t), p.faces⟩ (mvAr d t b) m = _ := mv_seg d t (hends b hb) hm
    rw [sa, sb]
    unfold joinedS at h1 ⊢
    simp only [mv_rmeet d t h hok ha hb hk hm]
    split
    · rename_i hr
      rw [if_pos hr, List.any_eq_true] at h1
      obtain ⟨n, hn, hn'⟩ := h1
      rw [List.any_eq_true]
      refine ⟨mvNd d t n, List.mem_map_of_mem hn, ?_⟩
      unfold meetAt at hn' ⊢
      have r1 := mv_ron d t h hok ha hk hn
      have r2 := mv_ron d t h hok hb hm hn
      show (endsS a n.id && endsS b n.id && ronS (mvPt d t (segK p a k).a) (mvPt d t (segK p a k).b) (mvPt d t n.pt) && ronS (mvPt d t (segK p b m).a) (mvPt d t (segK p b m).b) (mvPt d t n.pt)) = true
      rw [r1, r2]
      exact hn'
    · rename_i hr
      rw [if_neg hr] at h1
      exact h1
end

theorem mv_check (d : Pt) (t : Bool) (p : Pl) (h : Valid p) : checkS (mvPl d t p) = if (pointsS (mvPl d t p)).all ptOk = true then 0 else 2 := by
  obtain ⟨o1, o2, o3⟩ := h.ord_parts
  obtain ⟨r1, r2, r3, r4⟩ := h.rng_parts
  obtain ⟨l1, l2, l3, l4⟩ := h.lim_parts
  have en : (mvPl d t p).nodes.map (·.id) = p.nodes.map (·.id) := by unfold mvPl; rw [List.map_map]; rfl
  have ea : (mvPl d t p).arcs.map (·.id) = p.arcs.map (·.id) := by unfold mvPl; rw [List.map_map]; rfl
  have e1 : limS (mvPl d t p) = false := by
    unfold limS
    have : (mvPl d t p).arcs.any (fun a => decide (64 < a.via.length)) = p.arcs.any fun a => decide (64 < a.via.length) := by
      unfold mvPl
      rw [List.any_map]
      congr 1
      funext a
      simp [mvAr]
    rw [this, l1]
    unfold mvPl
    simp only [List.length_map, Bool.false_or, Bool.or_eq_false_iff, decide_eq_false_iff_not]
    exact ⟨⟨l2, l3⟩, l4⟩
  have e2 : orderedS (mvPl d t p) = true := by
    unfold orderedS
    rw [en, ea, asc_of_pw _ o1, asc_of_pw _ o2]
    exact o3
  by_cases hok : (pointsS (mvPl d t p)).all ptOk = true
  · rw [if_pos hok]
    refine (check_zero _).2 ⟨e1, e2, ?_, ?_, ?_, ?_, mv_planar d t h hok⟩
    · unfold rangesS
      rw [List.any_append, List.any_append, en, ea, r1, r2, hok]
      show (!(false || false || p.faces.any idBad) && true) = true
      rw [r3]; rfl
    · rw [dup_iff]
      have := (dup_iff _).1 h.dup
      have e : (mvPl d t p).nodes.map (·.pt) = (p.nodes.map (·.pt)).map (mvPt d t) := by unfold mvPl; rw [List.map_map, List.map_map]; rfl
      rw [e, List.pairwise_map]
      exact this.imp fun hne e => hne (mv_inj d t e)
    · rw [List.all_eq_true]
      intro a' ha'
      obtain ⟨a, ha, rfl⟩ := List.mem_map.1 ha'
      rw [mv_ends]
      exact List.all_eq_true.1 h.ends a ha
    · have := h.sides
      unfold sidesS at this ⊢
      rw [List.all_eq_true] at this ⊢
      intro a' ha'
      obtain ⟨a, ha, rfl⟩ := List.mem_map.1 ha'
      exact this a ha
  · rw [if_neg hok]
    unfold checkS
    have e3 : rangesS (mvPl d t p) = false := by
      unfold rangesS
      rw [Bool.not_eq_true] at hok
      rw [hok, Bool.and_false]
    rw [e1, e2, e3]
    simp
end Go.Proofs.Ytibchmofckhofaa
