/- Plain law: without an arc, or without a node at which no arc ends, a valid plan stays valid. No walk here. -/
import Derived.Test.YtibchmofckhofaaPRev
set_option linter.unusedSimpArgs false
set_option linter.unusedVariables false
namespace Go.Proofs.Ytibchmofckhofaa
open Go.RowKit

def del {α : Type} (l : List α) (i : Nat) : List α := l.take i ++ l.drop (i + 1)
theorem del_sub {α : Type} (l : List α) (i : Nat) : (del l i).Sublist l := by
  unfold del
  rw [← List.eraseIdx_eq_take_drop_succ]
  exact List.eraseIdx_sublist l i
theorem del_split {α : Type} (l : List α) (i : Nat) (hi : i < l.length) : l = l.take i ++ l[i] :: l.drop (i + 1) := by
  rw [← List.drop_eq_getElem_cons hi, List.take_append_drop]
theorem del_mem {α : Type} {l : List α} {i : Nat} (hi : i < l.length) {x : α} (hx : x ∈ l) (hne : x ≠ l[i]) : x ∈ del l i := by
  rw [del_split l i hi] at hx
  unfold del
  rcases List.mem_append.1 hx with h | h
  · exact List.mem_append_left _ h
  · rcases List.mem_cons.1 h with h | h
    · exact absurd h hne
    · exact List.mem_append_right _ h
theorem asc_of_pw (l : List Int) (h : l.Pairwise (· < ·)) : asc l = true := by
  refine asc_yes l fun j hj => ?_
  rw [List.pairwise_iff_getElem] at h
  exact h j (j + 1) (by omega) hj (by omega)
theorem dup_iff (l : List Pt) : dupS l = false ↔ l.Pairwise (· ≠ ·) := by
  constructor
  · intro h
    rw [List.pairwise_iff_getElem]
    intro i j hi hj hij e
    have := dup_yes l j i hij hj e.symm
    rw [h] at this
    cases this
  · intro h
    rw [List.pairwise_iff_getElem] at h
    exact dup_no l fun j k hk hj e => h k j (by omega) hj hk e.symm
theorem all_sub {α : Type} {l m : List α} {f : α → Bool} (hs : m.Sublist l) (h : l.all f = true) : m.all f = true := by
  rw [List.all_eq_true] at h ⊢
  exact fun x hx => h x (hs.subset hx)
theorem any_sub {α : Type} {l m : List α} {f : α → Bool} (hs : m.Sublist l) (h : l.any f = false) : m.any f = false := by
  rw [List.any_eq_false] at h ⊢
  exact fun x hx => h x (hs.subset hx)

section
variable {p : Pl} (h : Valid p)
include h
theorem Valid.ord_parts : (p.nodes.map (·.id)).Pairwise (· < ·) ∧ (p.arcs.map (·.id)).Pairwise (· < ·) ∧ asc p.faces = true := by
  have ho := h.ord
  unfold orderedS at ho
  rw [Bool.and_eq_true, Bool.and_eq_true] at ho
  exact ⟨asc_pw _ ho.1.1, asc_pw _ ho.1.2, ho.2⟩
theorem Valid.rng_parts : (p.nodes.map (·.id)).any idBad = false ∧ (p.arcs.map (·.id)).any idBad = false ∧ p.faces.any idBad = false ∧ (pointsS p).all ptOk = true := by
  have hr := h.rng
  unfold rangesS at hr
  rw [Bool.and_eq_true, Bool.not_eq_true', List.any_append, List.any_append, Bool.or_eq_false_iff, Bool.or_eq_false_iff] at hr
  exact ⟨hr.1.1.1, hr.1.1.2, hr.1.2, hr.2⟩
theorem Valid.lim_parts : p.arcs.any (fun a => decide (64 < a.via.length)) = false ∧ ¬ 256 < p.nodes.length ∧ ¬ 256 < p.arcs.length ∧ ¬ 64 < p.faces.length := by
  have hl := h.lim
  unfold limS at hl
  simp only [Bool.or_eq_false_iff, decide_eq_false_iff_not] at hl
  exact ⟨hl.1, hl.2.1.1, hl.2.1.2, hl.2.2⟩

/-- Fewer arcs. -/
theorem Valid.sub_arcs {m : List Ar} (hs : m.Sublist p.arcs) : Valid ⟨p.nodes, m, p.faces⟩ := by
  obtain ⟨o1, o2, o3⟩ := h.ord_parts
  obtain ⟨r1, r2, r3, r4⟩ := h.rng_parts
  obtain ⟨l1, l2, l3, l4⟩ := h.lim_parts
  have o2' : (m.map (·.id)).Pairwise (· < ·) := o2.sublist (hs.map _)
  refine ⟨?_, ?_, ?_, h.dup, all_sub hs h.ends, all_sub hs h.sides, ?_⟩
  · unfold limS
    have := hs.length_le
    simp only [any_sub hs l1, Bool.false_or, Bool.or_eq_false_iff, decide_eq_false_iff_not]
    exact ⟨⟨l2, by omega⟩, l4⟩
  · unfold orderedS
    rw [asc_of_pw _ o1, asc_of_pw _ o2', o3]; rfl
  · unfold rangesS
    rw [List.any_append, List.any_append, r1, any_sub (hs.map _) r2, r3]
    have : (pointsS ⟨p.nodes, m, p.faces⟩).all ptOk = true := by
      unfold pointsS at r4 ⊢
      rw [List.all_append, Bool.and_eq_true] at r4 ⊢
      refine ⟨r4.1, ?_⟩
      rw [List.all_flatMap] at r4 ⊢
      exact all_sub hs r4.2
    rw [this]; rfl
  · have hp := (planar_iff p o2).1 h.planar
    exact (planar_iff ⟨p.nodes, m, p.faces⟩ o2').2 ⟨fun a ha => hp.1 a (hs.subset ha), hp.2.sublist hs⟩
end

theorem degS_append (l m : List Ar) (id : Int) : degS (l ++ m) id = degS l id + degS m id := by
  unfold degS; rw [List.map_append, List.sum_append]
theorem degS_cons (a : Ar) (l : List Ar) (id : Int) : degS (a :: l) id = ((if a.fr = id then (1 : Int) else 0) + (if a.dst = id then 1 else 0)) + degS l id := by
  unfold degS; rw [List.map_cons, List.sum_cons]
theorem deg_del (l : List Ar) (i : Nat) (hi : i < l.length) : degS (del l i) l[i].fr < degS l l[i].fr := by
  have e : degS l l[i].fr = degS (l.take i ++ l[i] :: l.drop (i + 1)) l[i].fr := by rw [← del_split l i hi]
  rw [e]
  unfold del
  rw [degS_append, degS_append, degS_cons, if_pos rfl]
  split <;> omega
theorem deg_zero (l : List Ar) (id : Int) : degS l id = 0 ↔ ∀ a ∈ l, a.fr ≠ id ∧ a.dst ≠ id := by
  induction l with
  | nil => simp [degS]
  | cons a l ih =>
    rw [degS_cons]
    have := degS_bd l id
    constructor
    · intro h b hb
      have h1 : a.fr ≠ id := fun e => by rw [if_pos e] at h; split at h <;> omega
      have h2 : a.dst ≠ id := fun e => by rw [if_neg h1, if_pos e] at h; omega
      rw [if_neg h1, if_neg h2] at h
      rcases List.mem_cons.1 hb with rfl | hb
      · exact ⟨h1, h2⟩
      · exact ih.1 (by omega) b hb
    · intro h
      rw [if_neg (h a (by simp)).1, if_neg (h a (by simp)).2, ih.2 fun b hb => h b (by simp [hb])]
      rfl
theorem ids_ne {l : List Nd} (hs : (l.map (·.id)).Pairwise (· < ·)) {i : Nat} (hi : i < l.length) {x : Nd} (hx : x ∈ del l i) : x.id ≠ l[i].id := by
  rw [del_split l i hi, List.map_append, List.map_cons, List.pairwise_append, List.pairwise_cons] at hs
  unfold del at hx
  rcases List.mem_append.1 hx with h | h
  · have := hs.2.2 x.id (List.mem_map_of_mem h) l[i].id (by simp)
    omega
  · have := hs.2.1.1 x.id (List.mem_map_of_mem h)
    omega
theorem find_del {l : List Nd} (hs : (l.map (·.id)).Pairwise (· < ·)) {i : Nat} (hi : i < l.length) {id : Int} (hne : id ≠ l[i].id) : findNd (del l i) id = findNd l id := by
  have hs' : ((del l i).map (·.id)).Pairwise (· < ·) := hs.sublist ((del_sub l i).map _)
  unfold findNd
  cases hf : l.find? (fun n => n.id == id) with
  | none =>
    rw [List.find?_eq_none] at hf ⊢
    exact fun x hx => hf x ((del_sub l i).subset hx)
  | some x =>
    have hx := List.mem_of_find?_eq_some hf
    have hid : x.id = id := by simpa using List.find?_some hf
    have hm : x ∈ del l i := del_mem hi hx (fun e => hne (by rw [← hid, e]))
    have := find_uniq (·.id) (del l i) hs' x hm
    rw [hid] at this
    exact this
theorem check_node (p : Pl) (h : Valid p) (i : Nat) (hi : i < p.nodes.length) : checkS ⟨del p.nodes i, p.arcs, p.faces⟩ = if 0 < degS p.arcs p.nodes[i].id then 7 else 0 := by
  obtain ⟨o1, o2, o3⟩ := h.ord_parts
  obtain ⟨r1, r2, r3, r4⟩ := h.rng_parts
  obtain ⟨l1, l2, l3, l4⟩ := h.lim_parts
  have hs := del_sub p.nodes i
  have o1' : ((del p.nodes i).map (·.id)).Pairwise (· < ·) := o1.sublist (hs.map _)
  have e1 : limS ⟨del p.nodes i, p.arcs, p.faces⟩ = false := by
    unfold limS
    have := hs.length_le
    simp only [l1, Bool.false_or, Bool.or_eq_false_iff, decide_eq_false_iff_not]
    exact ⟨⟨by omega, l3⟩, l4⟩
  have e2 : orderedS ⟨del p.nodes i, p.arcs, p.faces⟩ = true := by
    unfold orderedS
    rw [asc_of_pw _ o1', asc_of_pw _ o2, o3]; rfl
  have e3 : rangesS ⟨del p.nodes i, p.arcs, p.faces⟩ = true := by
    unfold rangesS
    rw [List.any_append, List.any_append, any_sub (hs.map _) r1, r2, r3]
    have : (pointsS ⟨del p.nodes i, p.arcs, p.faces⟩).all ptOk = true := by
      unfold pointsS at r4 ⊢
      rw [List.all_append, Bool.and_eq_true] at r4 ⊢
      exact ⟨all_sub (hs.map _) r4.1, r4.2⟩
    rw [this]; rfl
  have e4 : dupS ((del p.nodes i).map (·.pt)) = false := (dup_iff _).2 (((dup_iff _).1 h.dup).sublist (hs.map _))
  have hd := degS_bd p.arcs p.nodes[i].id
  by_cases hz : degS p.arcs p.nodes[i].id = 0
  · rw [if_neg (by omega)]
    have hno := (deg_zero _ _).1 hz
    have hne : ∀ a ∈ p.arcs, nodeAt ⟨del p.nodes i, p.arcs, p.faces⟩ a.fr = nodeAt p a.fr ∧ nodeAt ⟨del p.nodes i, p.arcs, p.faces⟩ a.dst = nodeAt p a.dst := fun a ha => by
      unfold nodeAt
      exact ⟨by rw [find_del o1 hi (hno a ha).1], by rw [find_del o1 hi (hno a ha).2]⟩
    have hpath : ∀ a ∈ p.arcs, pathS ⟨del p.nodes i, p.arcs, p.faces⟩ a = pathS p a := fun a ha => by
      unfold pathS; rw [(hne a ha).1, (hne a ha).2]
    have hseg : ∀ a ∈ p.arcs, ∀ k, segK ⟨del p.nodes i, p.arcs, p.faces⟩ a k = segK p a k := fun a ha k => by
      unfold segK; rw [hpath a ha]
    refine (check_zero _).2 ⟨e1, e2, e3, e4, ?_, h.sides, ?_⟩
    · rw [List.all_eq_true]
      intro a ha
      have := List.all_eq_true.1 h.ends a ha
      unfold hasEnds at this ⊢
      rw [find_del o1 hi (hno a ha).1, find_del o1 hi (hno a ha).2]
      exact this
    · have hp := (planar_iff p o2).1 h.planar
      refine (planar_iff ⟨del p.nodes i, p.arcs, p.faces⟩ o2).2 ⟨fun a ha => ⟨fun k hk => ?_, fun k m hkm hm => ?_⟩, ?_⟩
      · rw [hpath a ha] at hk
        rw [hseg a ha]
        have h1 := (hp.1 a ha).1 k hk
        unfold aloneS at h1 ⊢
        rw [Bool.and_eq_true] at h1 ⊢
        exact ⟨all_sub hs h1.1, h1.2⟩
      · rw [hpath a ha] at hm
        rw [hseg a ha, hseg a ha]
        exact (hp.1 a ha).2 k m hkm hm
      · refine (List.Pairwise.and_mem.1 hp.2).imp ?_
        rintro a b ⟨ha, hb, hab⟩ k hk m hm
        rw [hpath a ha] at hk
        rw [hpath b hb] at hm
        rw [hseg a ha, hseg b hb]
        have h1 := hab k hk m hm
        unfold joinedS at h1 ⊢
        split
        · rename_i hr
          rw [if_pos hr, List.any_eq_true] at h1
          obtain ⟨x, hx, hx'⟩ := h1
          rw [List.any_eq_true]
          refine ⟨x, del_mem hi hx (fun e => ?_), hx'⟩
          unfold meetAt endsS at hx'
          rw [Bool.and_eq_true, Bool.and_eq_true, Bool.and_eq_true, Bool.or_eq_true, beq_iff_eq, beq_iff_eq] at hx'
          have hn := hno a ha
          rw [← e] at hn
          rcases hx'.1.1.1 with h2 | h2
          · exact hn.1 h2
          · exact hn.2 h2
        · rename_i hr
          rw [if_neg hr] at h1
          exact h1
  · rw [if_pos (by omega)]
    have e5 : p.arcs.all (hasEnds ⟨del p.nodes i, p.arcs, p.faces⟩) = false := by
      rw [← Bool.not_eq_true]
      intro hall
      rw [List.all_eq_true] at hall
      refine hz ((deg_zero _ _).2 fun a ha => ?_)
      have := hall a ha
      unfold hasEnds findNd at this
      rw [Bool.and_eq_true, List.find?_isSome, List.find?_isSome] at this
      obtain ⟨⟨x, hx, ex⟩, ⟨y, hy, ey⟩⟩ := this
      have n1 := ids_ne o1 hi hx
      have n2 := ids_ne o1 hi hy
      have ex' : x.id = a.fr := by simpa using ex
      have ey' : y.id = a.dst := by simpa using ey
      exact ⟨by rw [← ex']; exact n1, by rw [← ey']; exact n2⟩
    unfold checkS
    rw [e1, e2, e3]
    show (if false = true then 3 else if true = false then 10 else if true = false then 2 else if dupS ((del p.nodes i).map (·.pt)) = true then 8 else if p.arcs.all (hasEnds ⟨del p.nodes i, p.arcs, p.faces⟩) = false then 7 else _) = (7 : Int)
    rw [e4, e5]
    simp
end Go.Proofs.Ytibchmofckhofaa
