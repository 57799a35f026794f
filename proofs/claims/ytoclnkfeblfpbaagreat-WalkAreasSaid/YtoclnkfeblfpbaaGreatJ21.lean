/- PLAIN: winding numbers: a closed chain on the arcs gives each dart a number (on its left) that is the same along a cycle and jumps by the chain across an arc. PLAIN: labels that are joined step by step, and how many there are; the parts of a plan; chains between connected nodes. PLAIN: the cycles of a plan joined across the arcs that join no parts: each such step joins two. -/
import Derived.Test.YtoclnkfeblfpbaaGreatJ20
import Derived.Test.YtoclnkfeblfpbaaGreatJ15
set_option linter.unusedSimpArgs false
set_option linter.unusedVariables false
namespace Go.Proofs.YtoclnkfeblfpbaaGreat
open Go.RowKit

theorem sumNd {l : List Int} (hl : l.Nodup) {d : Int} (hd : d ∈ l) (c : Int → Int) : (l.map fun x => if x = d then c x else 0).sum = c d := by
 induction l with
 | nil => cases hd
 | cons a l ih =>
  rw [List.nodup_cons] at hl
  rw [List.map_cons, List.sum_cons]
  rcases List.mem_cons.1 hd with rfl | hd
  · rw [if_pos rfl, sumZ l _ (fun x hx => if_neg (by rintro rfl; exact hl.1 hx))]; omega
  · rw [if_neg (by rintro rfl; exact hl.1 hd), ih hl.2 hd]; omega
theorem zD_neg (z : Int → Int) {d : Int} (h : d ≠ 0) : zD z (-d) = -zD z d := by
 unfold zD
 by_cases h1 : 0 < d
 · rw [if_neg (by omega), if_pos h1, Int.neg_neg]
 · rw [if_pos (by omega), if_neg h1, Int.neg_neg]
theorem ind_self (o a : Pt) : ind (dirLt o a a) = 0 := if_neg (dirLt_irr o a)
theorem ind_one {o a b : Pt} (h : dirLt o a b ∨ dirLt o b a) : ind (dirLt o a b) + ind (dirLt o b a) = 1 := by
 unfold ind
 rcases h with h | h
 · rw [if_pos h, if_neg (dirLt_asym h)]; rfl
 · rw [if_neg (dirLt_asym h), if_pos h]; rfl
section
variable {p : Pl} (h : Valid p)
include h
/-- the two neighbours of an inner point lie in different directions -/
theorem Valid.inner_dirs {a : Ar} (ha : a ∈ p.arcs) {k : Nat} (hk : k + 2 < (pathS p a).length) : dirLt ((pathS p a).getD (k + 1) pt0) ((pathS p a).getD k pt0) ((pathS p a).getD (k + 2) pt0) ∨ dirLt ((pathS p a).getD (k + 1) pt0) ((pathS p a).getD (k + 2) pt0) ((pathS p a).getD k pt0) := by
 have d1 := (h.distinct ha (k := k) (by omega)).1
 have d2 := (h.distinct ha (k := k + 1) (by omega)).1
 have n0 := h.pt_near ha (k := k) (by omega)
 have n1 := h.pt_near ha (k := k + 1) (by omega)
 have n2 := h.pt_near ha (k := k + 2) (by omega)
 have hap := h.segs.2.1 a ha k (k + 1) (by omega) (by omega)
 unfold apartS at hap
 rw [if_pos (.inl rfl)] at hap
 unfold segK at hap
 simp only [beq_iff_eq] at hap
 generalize (pathS p a).getD k pt0 = u at *
 generalize (pathS p a).getD (k + 1) pt0 = o at *
 rw [show k + 1 + 1 = k + 2 by omega] at *
 generalize (pathS p a).getD (k + 2) pt0 = v at *
 apply Classical.byContradiction
 intro hno
 obtain ⟨-, r2, -, -⟩ := meet_dir n1 n0 n2 d1 (fun e => d2 e.symm) (fun e => hno (.inl e)) (fun e => hno (.inr e))
 rw [r2] at hap
 exact absurd hap (by decide)
/-- left and right of a dart, at an inner point -/
theorem Valid.jump_next (z : Int → Int) {a : Ar} (ha : a ∈ p.arcs) {k : Nat} (hk : k + 2 < (pathS p a).length) : ltW p z ((pathS p a).getD (k + 1) pt0) ((pathS p a).getD (k + 2) pt0) - rtW p z ((pathS p a).getD (k + 1) pt0) ((pathS p a).getD (k + 2) pt0) = z a.id := by
 rw [ltrt, h.at_inner z _ ha (j := k + 1) (by omega) hk, show k + 1 - 1 = k by omega, show k + 1 + 1 = k + 2 by omega, ind_self, ind_one (h.inner_dirs ha hk).symm]
 grind
theorem Valid.jump_prev (z : Int → Int) {a : Ar} (ha : a ∈ p.arcs) {k : Nat} (hk : k + 2 < (pathS p a).length) : ltW p z ((pathS p a).getD (k + 1) pt0) ((pathS p a).getD k pt0) - rtW p z ((pathS p a).getD (k + 1) pt0) ((pathS p a).getD k pt0) = -z a.id := by
 rw [ltrt, h.at_inner z _ ha (j := k + 1) (by omega) hk, show k + 1 - 1 = k by omega, show k + 1 + 1 = k + 2 by omega, ind_self, ind_one (h.inner_dirs ha hk)]
 grind
/-- past an inner point -/
theorem Valid.turn_inner (z : Int → Int) {a : Ar} (ha : a ∈ p.arcs) {k : Nat} (hk : k + 2 < (pathS p a).length) : ltW p z ((pathS p a).getD (k + 1) pt0) ((pathS p a).getD k pt0) = rtW p z ((pathS p a).getD (k + 1) pt0) ((pathS p a).getD (k + 2) pt0) := by
 have e := ltrt p z ((pathS p a).getD (k + 1) pt0) ((pathS p a).getD k pt0) ((pathS p a).getD (k + 2) pt0)
 rw [h.at_inner z _ ha (j := k + 1) (by omega) hk, show k + 1 - 1 = k by omega, show k + 1 + 1 = k + 2 by omega, ind_self, ind_self, Int.add_zero, Int.zero_add, Int.sub_self, Int.mul_zero] at e
 omega
/-- left and right of a dart, at a node -/
theorem Valid.jump_node {z : Int → Int} (hz : ClosedC p z) {n : Nd} (hn : n ∈ p.nodes) {d : Int} (hd : d ∈ dartL p.arcs n.id) : ltW p z n.pt (toD p d) - rtW p z n.pt (toD p d) = zD z d := by
 rw [ltrt, h.at_node z _ hn]
 have h0 := h.node_zero hz hn
 have h1 := sumNd (h.dartL_nodup (n := n.id)) hd (fun x => zD z x)
 have e : ((dartL p.arcs n.id).map fun x => zD z x * (ind (dirLt n.pt (toD p d) (toD p x)) + ind (dirLt n.pt (toD p x) (toD p d)))).sum = ((dartL p.arcs n.id).map fun x => zD z x + -(if x = d then zD z x else 0)).sum := by
  refine sumC _ _ _ fun x hx => ?_
  by_cases hxd : x = d
  ·
   subst hxd
   rw [ind_self, if_pos rfl]; omega
  · rw [ind_one (h.dirs hn hd hx (fun e => hxd e.symm)), if_neg hxd]; omega
 rw [e, sumA, sumN, h0, h1]
 omega
theorem Valid.around_sorted {n : Nd} (hn : n ∈ p.nodes) {i j : Nat} (hij : i < j) (hj : j < (aroundD p n.id).length) : dirLt n.pt (toD p ((aroundD p n.id)[i]'(by omega))) (toD p (aroundD p n.id)[j]) := by
 have hmem : ∀ {x : Int}, x ∈ aroundD p n.id → x ∈ dartL p.arcs n.id := fun hx => (h.around_perm hn).subset hx
 have hs := (sortB_facts (h.ordOn hn)).2
 rw [← h.around_eq hn, List.pairwise_iff_getElem] at hs
 have h1 := hs i j (by omega) hj hij
 have hne : (aroundD p n.id)[i] ≠ (aroundD p n.id)[j] := fun e => by
  have hnd := h.around_nodup hn
  rw [List.nodup_iff_pairwise_ne, List.pairwise_iff_getElem] at hnd
  exact hnd i j (by omega) hj hij e
 have m1 := hmem (List.getElem_mem (show i < (aroundD p n.id).length by omega)); have m2 := hmem (List.getElem_mem hj)
 rcases h.dirs hn m1 m2 hne with h2 | h2
 · exact h2
 ·
  exfalso
  obtain ⟨n0, n1, x1⟩ := h.to_facts hn m1
  obtain ⟨-, n2, x2⟩ := h.to_facts hn m2
  unfold ltD at h1
  rw [(less_iff _ _ _).2 ⟨by simp [nears, n0, n1, n2], x2, x1, h2⟩] at h1
  cases h1
/-- around a node, from the dart before to a dart -/
theorem Valid.turn_node {z : Int → Int} (hz : ClosedC p z) {n : Nd} (hn : n ∈ p.nodes) {d : Int} (hd : d ∈ aroundD p n.id) : ltW p z n.pt (toD p (precD (aroundD p n.id) d)) = rtW p z n.pt (toD p d) := by
 have hnd := h.around_nodup hn
 have hp := h.around_perm hn
 have hso := fun {i j : Nat} => h.around_sorted hn (i := i) (j := j)
 have e := ltrt p z n.pt (toD p (precD (aroundD p n.id) d)) (toD p d)
 rw [h.at_node z _ hn] at e
 have h0 := h.node_zero hz hn
 obtain ⟨i, hi, rfl⟩ := List.mem_iff_getElem.1 hd
 rw [precD_at hnd hi] at e ⊢
 have hso2 : ∀ i j (hi : i < (aroundD p n.id).length) (hj : j < (aroundD p n.id).length), ind (dirLt n.pt (toD p (aroundD p n.id)[i]) (toD p (aroundD p n.id)[j])) = if i < j then 1 else 0 := by
  intro i j hi hj
  rcases Nat.lt_trichotomy i j with h1 | h1 | h1
  · rw [if_pos h1]; exact if_pos (hso h1 hj)
  · subst h1; rw [if_neg (by omega)]; exact ind_self _ _
  · rw [if_neg (by omega)]; exact if_neg (dirLt_asym (hso h1 hi))
 have hc : ∃ c : Int, ∀ x ∈ dartL p.arcs n.id, ind (dirLt n.pt (toD p ((aroundD p n.id)[(i + (aroundD p n.id).length - 1) % (aroundD p n.id).length]'(Nat.mod_lt _ (by omega)))) (toD p x)) + ind (dirLt n.pt (toD p x) (toD p (aroundD p n.id)[i])) = c := by
  by_cases h1 : i = 0
  ·
   refine ⟨0, fun x hx => ?_⟩
   obtain ⟨j, hj, rfl⟩ := List.mem_iff_getElem.1 (hp.symm.subset hx)
   have hm : (i + (aroundD p n.id).length - 1) % (aroundD p n.id).length = (aroundD p n.id).length - 1 := by rw [h1]; rw [Nat.zero_add]; exact Nat.mod_eq_of_lt (by omega)
   rw [hso2 _ _ (Nat.mod_lt _ (by omega)) hj, hso2 j i hj hi, if_neg (by omega), if_neg (by omega)]; rfl
  ·
   refine ⟨1, fun x hx => ?_⟩
   obtain ⟨j, hj, rfl⟩ := List.mem_iff_getElem.1 (hp.symm.subset hx)
   have hm : (i + (aroundD p n.id).length - 1) % (aroundD p n.id).length = i - 1 := by rw [show i + (aroundD p n.id).length - 1 = i - 1 + (aroundD p n.id).length by omega, Nat.add_mod_right]; exact Nat.mod_eq_of_lt (by omega)
   rw [hso2 _ _ (Nat.mod_lt _ (by omega)) hj, hso2 j i hj hi]
   by_cases h2 : j < i
   · rw [if_neg (by omega), if_pos h2]; rfl
   · rw [if_pos (by omega), if_neg h2]; rfl
 obtain ⟨c, hc⟩ := hc
 rw [sumC _ _ (fun x => c * zD z x) (fun x hx => by rw [hc x hx, Int.mul_comm]), sumM, h0, Int.mul_zero] at e
 omega
/-- along a segment: right of it at the one end is left of it, seen from the other -/
theorem Valid.side_seg {z : Int → Int} (hz : ClosedC p z) {a : Ar} (ha : a ∈ p.arcs) {m : Nat} (hm : m + 1 < (pathS p a).length) : rtW p z ((pathS p a).getD m pt0) ((pathS p a).getD (m + 1) pt0) = ltW p z ((pathS p a).getD (m + 1) pt0) ((pathS p a).getD m pt0) := by
 have hl := pathS_length p a
 have hid := (h.id_pos ha).1
 have hne := (h.distinct ha hm).1
 have n1 := h.pt_near ha (k := m) (by omega); have n2 := h.pt_near ha (k := m + 1) hm
 have j1 : ltW p z ((pathS p a).getD m pt0) ((pathS p a).getD (m + 1) pt0) - rtW p z ((pathS p a).getD m pt0) ((pathS p a).getD (m + 1) pt0) = z a.id := by
  by_cases h0 : m = 0
  ·
   subst h0
   obtain ⟨n, hn, e1, e2⟩ := h.sound.at_fr ha
   have := h.jump_node hz hn (d := a.id) (mem_dartL.2 ⟨a, ha, .inl ⟨rfl, e1.symm⟩⟩)
   rw [h.to_pos ha] at this
   rw [path_0, e2, this]
   unfold zD; rw [if_pos (by omega)]
  ·
   obtain ⟨k, rfl⟩ : ∃ k, m = k + 1 := ⟨m - 1, by omega⟩
   exact h.jump_next z ha hm
 have j2 : ltW p z ((pathS p a).getD (m + 1) pt0) ((pathS p a).getD m pt0) - rtW p z ((pathS p a).getD (m + 1) pt0) ((pathS p a).getD m pt0) = -z a.id := by
  by_cases h0 : m + 1 = (pathS p a).length - 1
  ·
   obtain ⟨n, hn, e1, e2⟩ := h.sound.at_dst ha
   have := h.jump_node hz hn (d := -a.id) (mem_dartL.2 ⟨a, ha, .inr ⟨rfl, e1.symm⟩⟩)
   rw [h.to_neg ha, show a.via.length = m by omega] at this
   rw [h0, path_end, e2, this]
   unfold zD; rw [if_neg (by omega), Int.neg_neg]
  · exact h.jump_prev z ha (by omega)
 rcases Int.lt_trichotomy (hY ((pathS p a).getD m pt0)) (hY ((pathS p a).getD (m + 1) pt0)) with h1 | h1 | h1
 · exact h.side_up hz ha hm (.inl ⟨rfl, rfl⟩) h1
 · exact absurd (hY_inj n1 n2 h1) hne
 ·
  have := h.side_up hz ha hm (.inr ⟨rfl, rfl⟩) h1
  omega
theorem Valid.side_path {z : Int → Int} (hz : ClosedC p z) {a : Ar} (ha : a ∈ p.arcs) : ∀ (m : Nat), m + 1 < (pathS p a).length → rtW p z ((pathS p a).getD 0 pt0) ((pathS p a).getD 1 pt0) = ltW p z ((pathS p a).getD (m + 1) pt0) ((pathS p a).getD m pt0)
 | 0, hm => h.side_seg hz ha hm
 | m + 1, hm => by
  rw [Valid.side_path hz ha m (by omega), h.turn_inner z ha (k := m) (by omega)]
  exact h.side_seg hz ha (m := m + 1) hm
end
/-- the number on the left of a dart -/
def Hz (p : Pl) (z : Int → Int) (d : Int) : Int := ltW p z (nodeAt p (startD p d)) (toD p d)
section
variable {p : Pl} (h : Valid p)
include h
theorem Valid.Hz_pos {z : Int → Int} (hz : ClosedC p z) {a : Ar} (ha : a ∈ p.arcs) : Hz p z a.id - Hz p z (-a.id) = z a.id := by
 have hl := pathS_length p a
 have hid := (h.id_pos ha).1
 have h1 := h.side_path hz ha a.via.length (by omega)
 have h2 : (pathS p a).getD (a.via.length + 1) pt0 = nodeAt p a.dst := by
  have := path_end p a
  rwa [hl, show a.via.length + 2 - 1 = a.via.length + 1 by omega] at this
 unfold Hz
 rw [h.start_pos ha, h.start_neg ha, h.to_pos ha, h.to_neg ha]
 rw [h2, path_0] at h1
 obtain ⟨n, hn, e1, e2⟩ := h.sound.at_fr ha
 have := h.jump_node hz hn (d := a.id) (mem_dartL.2 ⟨a, ha, .inl ⟨rfl, e1.symm⟩⟩)
 rw [h.to_pos ha, ← e2] at this
 unfold zD at this
 rw [if_pos (by omega)] at this
 omega
theorem Valid.dart_ne {d : Int} (hd : d ∈ dartsD p) : d ≠ 0 := by
 obtain ⟨a, ha, e⟩ := mem_dartsD.1 hd
 have := h.id_pos ha
 omega
/-- across an arc -/
theorem Valid.Hz_jump {z : Int → Int} (hz : ClosedC p z) {d : Int} (hd : d ∈ dartsD p) : Hz p z d - Hz p z (-d) = zD z d := by
 obtain ⟨a, ha, e⟩ := mem_dartsD.1 hd
 have hid := (h.id_pos ha).1
 have := h.Hz_pos hz ha
 rcases e with rfl | rfl
 · rw [this]; unfold zD; rw [if_pos (by omega)]
 · rw [Int.neg_neg]; unfold zD; rw [if_neg (by omega), Int.neg_neg]; omega
/-- along a cycle -/
theorem Valid.Hz_next {z : Int → Int} (hz : ClosedC p z) {d : Int} (hd : d ∈ dartsD p) : Hz p z (nextD p d) = Hz p z d := by
 obtain ⟨n, hn, e1, hm, hx⟩ := h.next_eq hd
 have hs := (h.next_mem hd).2
 have j := h.jump_node hz hn ((h.around_perm hn).subset hm)
 have t := h.turn_node hz hn hm
 have k := h.Hz_jump hz hd
 have en : nodeAt p (startD p (-d)) = n.pt := by rw [← e1]; exact h.sound.node_eq hn
 have z1 := zD_neg z (h.dart_ne hd)
 unfold Hz at k ⊢
 rw [hs, en, hx, t]
 rw [en] at k
 omega
end
end Go.Proofs.YtoclnkfeblfpbaaGreat
namespace Go.Proofs.YtoclnkfeblfpbaaGreat
open Go.RowKit
set_option linter.unusedSectionVars false

/-- the labels when that of a is joined to that of b -/
def mrg (r : Int → Int) (a b x : Int) : Int := if r x = r a then r b else r x
structure LabOn (U : List Int) (r : Int → Int) : Prop where
 mem : ∀ x ∈ U, r x ∈ U
 idem : ∀ x ∈ U, r (r x) = r x
def cntR (U : List Int) (r : Int → Int) : Nat := (U.filter (fun x => decide (r x = x))).length
theorem LabOn.mrg {U : List Int} {r : Int → Int} (h : LabOn U r) {a b : Int} (hb : b ∈ U) : LabOn U (mrg r a b) := by
 constructor
 ·
  intro x hx
  unfold Go.Proofs.YtoclnkfeblfpbaaGreat.mrg
  split
  · exact h.mem b hb
  · exact h.mem x hx
 ·
  intro x hx
  unfold Go.Proofs.YtoclnkfeblfpbaaGreat.mrg
  by_cases e : r x = r a
  ·
   rw [if_pos e, h.idem b hb]
   split <;> rfl
  · rw [if_neg e, h.idem x hx, if_neg e]
theorem filter_one {l : List Int} (hl : l.Nodup) {c : Int} (hc : c ∈ l) : (l.filter (fun x => decide (x ≠ c))).length + 1 = l.length := by
 induction l with
 | nil => cases hc
 | cons a l ih =>
  rw [List.nodup_cons] at hl
  rcases List.mem_cons.1 hc with rfl | hc
  · rw [List.filter_cons, if_neg (by simp), List.filter_eq_self.2 (fun x hx => by
    rw [decide_eq_true_eq]; rintro rfl; exact hl.1 hx)]; rfl
  ·
   have hac : a ≠ c := by rintro rfl; exact hl.1 hc
   rw [List.filter_cons, if_pos (by simpa using hac), List.length_cons, ih hl.2 hc]; rfl
theorem cnt_mrg {U : List Int} (hU : U.Nodup) {r : Int → Int} (h : LabOn U r) {a b : Int} (ha : a ∈ U) (hb : b ∈ U) (hne : r a ≠ r b) : cntR U (mrg r a b) + 1 = cntR U r := by
 have e : U.filter (fun x => decide (mrg r a b x = x)) = (U.filter (fun x => decide (r x = x))).filter (fun x => decide (x ≠ r a)) := by
  rw [List.filter_filter]
  refine List.filter_congr fun x hx => ?_
  unfold mrg
  by_cases e : r x = r a
  ·
   rw [if_pos e]
   have h1 : ¬ r b = x := by
    rintro rfl
    rw [h.idem b hb] at e
    exact hne e.symm
   rw [decide_eq_false h1]
   by_cases h2 : x = r a
   · subst h2; simp
   ·
    have : ¬ r x = x := fun e2 => h2 (e2.symm.trans e)
    simp [this]
  ·
   rw [if_neg e]
   by_cases h2 : r x = x
   ·
    have : x ≠ r a := fun e2 => e (h2.trans e2)
    simp [h2, this]
   · simp [h2]
 unfold cntR
 rw [e]
 refine filter_one (hU.filter _) ?_
 rw [List.mem_filter]
 exact ⟨h.mem a ha, by rw [decide_eq_true_eq]; exact h.idem a ha⟩
/-- the labels of the nodes behind the first k arcs -/
def rtE (p : Pl) (k : Nat) (x : Int) : Int := pw (eulSt p k).1 x (p.arcs.length + 1)
/-- an arc that joins two parts -/
def treeA (p : Pl) (k : Nat) (a : Ar) : Prop := rtE p k a.fr ≠ rtE p k a.dst
instance (p : Pl) (k : Nat) (a : Ar) : Decidable (treeA p k a) := by unfold treeA; infer_instance
def nIds (p : Pl) : List Int := p.nodes.map (·.id)
section
variable {p : Pl} (h : Valid p)
include h
theorem Valid.nIds_nodup : (nIds p).Nodup := h.sound.nodes.imp (fun h => by omega)
theorem Valid.fr_mem {a : Ar} (ha : a ∈ p.arcs) : a.fr ∈ nIds p ∧ a.dst ∈ nIds p := by
 obtain ⟨n1, h1, e1, -⟩ := h.sound.at_fr ha
 obtain ⟨n2, h2, e2, -⟩ := h.sound.at_dst ha
 exact ⟨List.mem_map.2 ⟨n1, h1, e1⟩, List.mem_map.2 ⟨n2, h2, e2⟩⟩
theorem Valid.rtE_succ {k : Nat} (hk : k < p.arcs.length) : (rtE p (k + 1) = if treeA p k p.arcs[k] then mrg (rtE p k) p.arcs[k].fr p.arcs[k].dst else rtE p k) ∧ (eulSt p (k + 1)).2 = (eulSt p k).2 - (if treeA p k p.arcs[k] then 1 else 0) := by
 have ho := eul_ok h k (by omega)
 by_cases ht : treeA p k p.arcs[k]
 ·
  rw [if_pos ht, if_pos ht]
  unfold treeA rtE at ht
  unfold rtE
  rw [eulSt_succ p k hk]
  unfold eulStep
  rw [if_neg ht]
  refine ⟨?_, rfl⟩
  have hr : ∀ x, (eulSt p k).1 (pw (eulSt p k).1 x (p.arcs.length + 1)) = pw (eulSt p k).1 x (p.arcs.length + 1) := ho.flat.more (by omega)
  obtain ⟨h1, h2⟩ := link_pw ho.flat (hr p.arcs[k].fr) (hr p.arcs[k].dst) ht
  funext x
  show pw (linkF _ _ _) x (p.arcs.length + 1) = mrg _ _ _ x
  rw [h1.eq (M := p.arcs.length + 1) (by omega), h2 x]
  unfold mrg
  simp only
  rw [← ho.flat.eq (M := p.arcs.length + 1) (by omega) x]
 ·
  rw [if_neg ht, if_neg ht]
  unfold treeA rtE at ht
  unfold rtE
  rw [eulSt_succ p k hk]
  unfold eulStep
  rw [if_pos (Classical.byContradiction ht)]
  exact ⟨rfl, by omega⟩
theorem Valid.rtE_zero {x : Int} (hx : x ∈ nIds p) : rtE p 0 x = x := by
 have h0 : above0 p.nodes x = x := if_pos hx
 have : ∀ n, pw (above0 p.nodes) x n = x := by
  intro n
  induction n with
  | zero => rfl
  | succ n ih => show above0 p.nodes (pw (above0 p.nodes) x n) = x; rw [ih, h0]
 exact this _
theorem Valid.rtE_lab (k : Nat) (hk : k ≤ p.arcs.length) : LabOn (nIds p) (rtE p k) ∧ (eulSt p k).2 = (cntR (nIds p) (rtE p k) : Int) := by
 induction k with
 | zero =>
  refine ⟨⟨fun x hx => by rw [h.rtE_zero hx]; exact hx, fun x hx => by rw [h.rtE_zero hx, h.rtE_zero hx]⟩, ?_⟩
  show (p.nodes.length : Int) = _
  unfold cntR
  rw [List.filter_eq_self.2 (fun x hx => by rw [decide_eq_true_eq]; exact h.rtE_zero hx)]
  unfold nIds
  rw [List.length_map]
 | succ k ih =>
  obtain ⟨h1, h2⟩ := ih (by omega)
  obtain ⟨e1, e2⟩ := h.rtE_succ (k := k) (by omega)
  have hm := h.fr_mem (List.getElem_mem (show k < p.arcs.length by omega))
  rw [e2, e1, h2]
  by_cases ht : treeA p k p.arcs[k]
  ·
   rw [if_pos ht, if_pos ht]
   refine ⟨h1.mrg hm.2, ?_⟩
   have := cnt_mrg h.nIds_nodup h1 hm.1 hm.2 ht
   omega
  ·
   rw [if_neg ht, if_neg ht]
   exact ⟨h1, by omega⟩
/-- labels once equal stay equal -/
theorem Valid.rtE_keep {k j : Nat} (hkj : k ≤ j) (hj : j ≤ p.arcs.length) {x y : Int} (e : rtE p k x = rtE p k y) : rtE p j x = rtE p j y := by
 induction j with
 | zero =>
  have : k = 0 := by omega
  subst this
  exact e
 | succ j ih =>
  by_cases h1 : k = j + 1
  · subst h1; exact e
  ·
   have e2 := ih (by omega) (by omega)
   rw [(h.rtE_succ (k := j) (by omega)).1]
   split
   · unfold mrg; rw [e2]
   · exact e2
theorem Valid.rtE_arc {k j : Nat} (hj : j < k) (hk : k ≤ p.arcs.length) : rtE p k (p.arcs[j]'(by omega)).fr = rtE p k (p.arcs[j]'(by omega)).dst := by
 refine h.rtE_keep (k := j + 1) (by omega) hk ?_
 rw [(h.rtE_succ (k := j) (by omega)).1]
 split
 ·
  unfold mrg
  rw [if_pos rfl]
  split <;> rfl
 ·
  rename_i ht
  unfold treeA at ht
  exact Classical.byContradiction ht
end
/- ## chains -/
/-- what a chain leaves at a node -/
def bdC (p : Pl) (c : Int → Int) (n : Int) : Int := (p.arcs.map fun a => c a.id * ((if a.dst = n then 1 else 0) - (if a.fr = n then 1 else 0))).sum
theorem bdC_add (p : Pl) (c d : Int → Int) (n : Int) : bdC p (fun i => c i + d i) n = bdC p c n + bdC p d n := by
 unfold bdC
 rw [← sumA]
 exact sumC _ _ _ fun a _ => by rw [Int.add_mul]
theorem bdC_neg (p : Pl) (c : Int → Int) (n : Int) : bdC p (fun i => -c i) n = -bdC p c n := by
 unfold bdC
 rw [← sumN]
 exact sumC _ _ _ fun a _ => by rw [Int.neg_mul]
def oneC (a : Ar) (i : Int) : Int := if i = a.id then 1 else 0
/-- only on arcs that join parts, among the first k -/
def SupT (p : Pl) (k : Nat) (c : Int → Int) : Prop := ∀ j (hj : j < p.arcs.length), c p.arcs[j].id ≠ 0 → j < k ∧ treeA p j p.arcs[j]
section
variable {p : Pl} (h : Valid p)
include h
theorem Valid.bdC_one {a : Ar} (ha : a ∈ p.arcs) (n : Int) : bdC p (oneC a) n = (if a.dst = n then 1 else 0) - (if a.fr = n then 1 else 0) := by
 unfold bdC oneC
 have := sumH p.arcs (·.id) h.sound.arcs (fun _ => (if a.dst = n then (1 : Int) else 0) - (if a.fr = n then 1 else 0)) a.id ⟨a, ha, rfl⟩
 rw [← this]
 refine sumC _ _ _ fun b hb => ?_
 by_cases e : a.id = b.id
 ·
  have := h.arc_eq ha hb e
  subst this
  rw [if_pos rfl, if_pos rfl]; omega
 · rw [if_neg (fun e2 => e e2.symm), if_neg e]; omega
/-- between two nodes with the same label -/
theorem Valid.chain (k : Nat) (hk : k ≤ p.arcs.length) : ∀ x ∈ nIds p, ∀ y ∈ nIds p, rtE p k x = rtE p k y → ∃ c, SupT p k c ∧ ∀ n, bdC p c n = (if y = n then 1 else 0) - (if x = n then 1 else 0) := by
 induction k with
 | zero =>
  intro x hx y hy e
  rw [h.rtE_zero hx, h.rtE_zero hy] at e
  subst e
  refine ⟨fun _ => 0, fun j hj h0 => absurd rfl h0, fun n => ?_⟩
  unfold bdC
  rw [sumZ _ _ (fun a _ => Int.zero_mul _)]; omega
 | succ k ih =>
  intro x hx y hy e
  have ih := ih (by omega)
  have hup : ∀ {c}, SupT p k c → SupT p (k + 1) c := fun hc j hj h0 => ⟨by have := (hc j hj h0).1; omega, (hc j hj h0).2⟩
  rw [(h.rtE_succ (k := k) (by omega)).1] at e
  by_cases ht : treeA p k p.arcs[k]
  ·
   rw [if_pos ht] at e
   have ha := List.getElem_mem (show k < p.arcs.length by omega)
   have hm := h.fr_mem ha
   have h1 := h.bdC_one ha
   have hs1 : SupT p (k + 1) (oneC p.arcs[k]) := fun j hj h0 => by
    unfold oneC at h0
    split at h0
    ·
     rename_i e2
     have h2 : j = k := by
      have hpw := h.sound.arcs
      rw [List.pairwise_map, List.pairwise_iff_getElem] at hpw
      rcases Nat.lt_trichotomy j k with h3 | h3 | h3
      · have := hpw j k hj (by omega) h3; omega
      · exact h3
      · have := hpw k j (by omega) hj h3; omega
     subst h2
     exact ⟨by omega, ht⟩
    · exact absurd rfl h0
   have hadd : ∀ {c d : Int → Int}, SupT p (k + 1) c → SupT p (k + 1) d → SupT p (k + 1) (fun i => c i + d i) := by
    intro c d hc hd j hj h0
    by_cases h2 : c p.arcs[j].id = 0
    · exact hd j hj (fun e => h0 (by show _ + _ = (0 : Int); rw [h2, e]; rfl))
    · exact hc j hj h2
   have hneg : ∀ {c}, SupT p (k + 1) c → SupT p (k + 1) (fun i => -c i) := fun hc j hj h0 => hc j hj (fun e => h0 (by show -_ = (0 : Int); rw [e]; rfl))
   unfold mrg at e
   by_cases ex : rtE p k x = rtE p k p.arcs[k].fr <;> by_cases ey : rtE p k y = rtE p k p.arcs[k].fr
   ·
    obtain ⟨c, hc, hb⟩ := ih x hx y hy (ex.trans ey.symm)
    exact ⟨c, hup hc, hb⟩
   ·
    rw [if_pos ex, if_neg ey] at e
    obtain ⟨c, hc, hb⟩ := ih x hx _ hm.1 ex
    obtain ⟨d, hd, hb2⟩ := ih _ hm.2 y hy e
    refine ⟨fun i => (c i + oneC p.arcs[k] i) + d i, hadd (hadd (hup hc) hs1) (hup hd), fun n => ?_⟩
    rw [bdC_add p (fun i => c i + oneC p.arcs[k] i), bdC_add, hb, hb2, h1]; omega
   ·
    rw [if_neg ex, if_pos ey] at e
    obtain ⟨c, hc, hb⟩ := ih x hx _ hm.2 e
    obtain ⟨d, hd, hb2⟩ := ih _ hm.1 y hy ey.symm
    refine ⟨fun i => (c i + -oneC p.arcs[k] i) + d i, hadd (hadd (hup hc) (hneg hs1)) (hup hd), fun n => ?_⟩
    rw [bdC_add p (fun i => c i + -oneC p.arcs[k] i), bdC_add, bdC_neg, hb, hb2, h1]; omega
   ·
    rw [if_neg ex, if_neg ey] at e
    obtain ⟨c, hc, hb⟩ := ih x hx y hy e
    exact ⟨c, hup hc, hb⟩
  ·
   rw [if_neg ht] at e
   obtain ⟨c, hc, hb⟩ := ih x hx y hy e
   exact ⟨c, hup hc, hb⟩
/-- an arc that joins nothing lies in a closed chain with arcs that join, and with no other -/
theorem Valid.fund {k : Nat} (hk : k < p.arcs.length) (ht : ¬ treeA p k p.arcs[k]) : ∃ z, ClosedC p z ∧ z p.arcs[k].id = 1 ∧ ∀ j (hj : j < p.arcs.length), j ≠ k → ¬ treeA p j p.arcs[j] → z p.arcs[j].id = 0 := by
 have ha := List.getElem_mem hk
 have hm := h.fr_mem ha
 unfold treeA at ht
 obtain ⟨c, hc, hb⟩ := h.chain k (by omega) _ hm.2 _ hm.1 (Classical.byContradiction fun e => ht (fun e2 => e e2.symm))
 refine ⟨fun i => oneC p.arcs[k] i + c i, fun n hn => ?_, ?_, fun j hj hjk hjt => ?_⟩
 ·
  show bdC p (fun i => oneC p.arcs[k] i + c i) n.id = 0
  rw [bdC_add, h.bdC_one ha, hb]; omega
 ·
  have : c p.arcs[k].id = 0 := Classical.byContradiction fun e => by have := (hc k hk e).1; omega
  show oneC _ _ + _ = _
  rw [this]; unfold oneC; rw [if_pos rfl]; rfl
 ·
  have h1 : c p.arcs[j].id = 0 := Classical.byContradiction fun e => hjt (hc j hj e).2
  have h2 : p.arcs[j].id ≠ p.arcs[k].id := fun e => by
   have hpw := h.sound.arcs
   rw [List.pairwise_map, List.pairwise_iff_getElem] at hpw
   rcases Nat.lt_trichotomy j k with h3 | h3 | h3
   · have := hpw j k hj hk h3; omega
   · exact hjk h3
   · have := hpw k j hk hj h3; omega
  show oneC _ _ + _ = _
  rw [h1]; unfold oneC; rw [if_neg h2]; rfl
/-- a closed chain on arcs that join alone is nothing -/
theorem Valid.forest {g : Int → Int} (hg : ClosedC p g) (h0 : ∀ j (hj : j < p.arcs.length), ¬ treeA p j p.arcs[j] → g p.arcs[j].id = 0) : ∀ (k : Nat), k ≤ p.arcs.length → (∀ j (hj : j < p.arcs.length), k ≤ j → g p.arcs[j].id = 0) → ∀ j (hj : j < p.arcs.length), g p.arcs[j].id = 0
 | 0, _, hz, j, hj => hz j hj (by omega)
 | k + 1, hk, hz, j, hj => by
  refine Valid.forest hg h0 k (by omega) (fun j hj hkj => ?_) j hj
  by_cases hjk : j = k
  ·
   subst hjk
   by_cases ht : treeA p j p.arcs[j]
   ·
    have hs := h.closed_sum hg (fun x => if rtE p j x = rtE p j p.arcs[j].fr then 1 else 0)
    have e : (p.arcs.map fun a => g a.id * ((if rtE p j a.dst = rtE p j p.arcs[j].fr then (1 : Int) else 0) - (if rtE p j a.fr = rtE p j p.arcs[j].fr then 1 else 0))).sum = (p.arcs.map fun a => if p.arcs[j].id = a.id then -g a.id else 0).sum := by
     refine sumC _ _ _ fun a ha => ?_
     obtain ⟨i, hi, rfl⟩ := List.mem_iff_getElem.1 ha
     rcases Nat.lt_trichotomy i j with h3 | h3 | h3
     ·
      have hne : ¬ p.arcs[j].id = p.arcs[i].id := fun e => by
       have hpw := h.sound.arcs
       rw [List.pairwise_map, List.pairwise_iff_getElem] at hpw
       have := hpw i j hi hj h3; omega
      rw [if_neg hne, h.rtE_arc h3 (by omega), Int.sub_self, Int.mul_zero]
     ·
      subst h3
      rw [if_pos rfl, if_pos rfl]
      unfold treeA at ht
      rw [if_neg (fun e => ht e.symm)]; omega
     ·
      have hne : ¬ p.arcs[j].id = p.arcs[i].id := fun e => by
       have hpw := h.sound.arcs
       rw [List.pairwise_map, List.pairwise_iff_getElem] at hpw
       have := hpw j i hj hi h3; omega
      rw [if_neg hne, hz i hi (by omega), Int.zero_mul]
    rw [e, sumH p.arcs (·.id) h.sound.arcs (fun i => -g i) p.arcs[j].id ⟨_, List.getElem_mem hj, rfl⟩] at hs
    omega
   · exact h0 j hj ht
  · exact hz j hj (by omega)
end
end Go.Proofs.YtoclnkfeblfpbaaGreat
namespace Go.Proofs.YtoclnkfeblfpbaaGreat
open Go.RowKit
set_option linter.unusedSectionVars false

/-- the first dart of the cycle of a dart -/
def headOf (L : List (List Int)) (d : Int) : Int := match L.find? (fun c => decide (d ∈ c)) with
 | some c => c.headD 0
 | none => d
/-- the labels of the darts behind the first k arcs -/
def slE (p : Pl) : Nat → Int → Int
 | 0 => headOf (cyclesD p)
 | k + 1 => match p.arcs[k]? with
  | some a => if treeA p k a then slE p k else mrg (slE p k) a.id (-a.id)
  | none => slE p k
theorem slE_succ {p : Pl} {k : Nat} (hk : k < p.arcs.length) : slE p (k + 1) = if treeA p k p.arcs[k] then slE p k else mrg (slE p k) p.arcs[k].id (-p.arcs[k].id) := by
 rw [slE, List.getElem?_eq_getElem hk]
section
variable {p : Pl} (h : Valid p)
include h
theorem Valid.cyc_one {c c' : List Int} (hc : c ∈ cyclesD p) (hc' : c' ∈ cyclesD p) {y : Int} (h1 : y ∈ c) (h2 : y ∈ c') : c = c' := by
 have hnd := h.cyc.nodup
 rw [List.nodup_iff_pairwise_ne, List.pairwise_flatten] at hnd
 have hpw := hnd.2
 rw [List.pairwise_iff_getElem] at hpw
 obtain ⟨i, hi, rfl⟩ := List.mem_iff_getElem.1 hc
 obtain ⟨j, hj, rfl⟩ := List.mem_iff_getElem.1 hc'
 rcases Nat.lt_trichotomy i j with h3 | h3 | h3
 · exact absurd rfl (hpw i j hi hj h3 _ h1 _ h2)
 · subst h3; rfl
 · exact absurd rfl (hpw j i hj hi h3 _ h2 _ h1)
/-- a cycle: from its first dart on -/
theorem Valid.cyc_form {c : List Int} (hc : c ∈ cyclesD p) : ∃ x ∈ dartsD p, c = orb (nextD p) (dartsD p) x ∧ c.headD 0 = x ∧ x ∈ c := by
 obtain ⟨x, hx, e, -⟩ := h.cyc.orbs c hc
 have hf := orb_facts (fun x hx => (h.next_mem hx).1) (fun x hx y hy => h.next_inj hx hy) hx
 refine ⟨x, hx, e, ?_, by rw [e]; exact head_orb hf.1⟩
 rw [e]
 unfold orb
 obtain ⟨m, hm⟩ : ∃ m, orbN (nextD p) (dartsD p) x = m + 1 := ⟨orbN (nextD p) (dartsD p) x - 1, by have := hf.1; omega⟩
 rw [hm]
 rfl
theorem Valid.head_of {d : Int} (hd : d ∈ dartsD p) : ∃ c ∈ cyclesD p, d ∈ c ∧ headOf (cyclesD p) d = c.headD 0 := by
 obtain ⟨c, hc, hdc⟩ := List.mem_flatten.1 (h.cyc.covers d hd)
 unfold headOf
 cases hf : (cyclesD p).find? (fun c => decide (d ∈ c)) with
 | none =>
  have := List.find?_eq_none.1 hf c hc
  simp [hdc] at this
 | some c' =>
  have h1 := List.find?_some hf
  exact ⟨c', List.mem_of_find?_eq_some hf, by simpa using h1, rfl⟩
theorem Valid.head_eq {c : List Int} (hc : c ∈ cyclesD p) {d : Int} (hd : d ∈ dartsD p) (hdc : d ∈ c) : headOf (cyclesD p) d = c.headD 0 := by
 obtain ⟨c', h1, h2, h3⟩ := h.head_of hd
 rw [h3, h.cyc_one h1 hc h2 hdc]
theorem Valid.head_next {d : Int} (hd : d ∈ dartsD p) : headOf (cyclesD p) (nextD p d) = headOf (cyclesD p) d := by
 obtain ⟨c, h1, h2, h3⟩ := h.head_of hd
 obtain ⟨x, hx, e, -, -⟩ := h.cyc_form h1
 rw [h3]
 refine h.head_eq h1 (h.next_mem hd).1 ?_
 rw [e] at h2 ⊢
 exact (orb_closed (fun x hx => (h.next_mem hx).1) (fun x hx y hy => h.next_inj hx hy) hx hd).2 h2
/-- what is the same along cycles is that of the first dart -/
theorem Valid.head_const {β : Type} (H : Int → β) (hH : ∀ d ∈ dartsD p, H (nextD p d) = H d) {d : Int} (hd : d ∈ dartsD p) : H (headOf (cyclesD p) d) = H d := by
 obtain ⟨c, h1, h2, h3⟩ := h.head_of hd
 obtain ⟨x, hx, e, e2, -⟩ := h.cyc_form h1
 rw [h3, e2]
 rw [e] at h2
 obtain ⟨k, -, rfl⟩ := mem_iter.1 h2
 clear h1 h2 h3 e e2 hd
 induction k with
 | zero => rfl
 | succ k ih =>
  show H x = H (nextD p (pw (nextD p) x k))
  rw [hH _ (pw_mem (fun x hx => (h.next_mem hx).1) hx k)]
  exact ih
theorem Valid.head_lab : LabOn (dartsD p) (headOf (cyclesD p)) ∧ cntR (dartsD p) (headOf (cyclesD p)) = (cyclesD p).length := by
 have hmem : ∀ x ∈ dartsD p, headOf (cyclesD p) x ∈ dartsD p ∧ headOf (cyclesD p) (headOf (cyclesD p) x) = headOf (cyclesD p) x := by
  intro d hd
  obtain ⟨c, h1, h2, h3⟩ := h.head_of hd
  obtain ⟨x, hx, e, e2, e3⟩ := h.cyc_form h1
  rw [h3, e2]
  exact ⟨hx, (h.head_eq h1 hx e3).trans e2⟩
 refine ⟨⟨fun x hx => (hmem x hx).1, fun x hx => (hmem x hx).2⟩, ?_⟩
 have hnd := h.cyc.nodup
 rw [List.nodup_iff_pairwise_ne, List.pairwise_flatten] at hnd
 have hL : ((cyclesD p).map (fun c => c.headD 0)).Nodup := by
  rw [List.nodup_iff_pairwise_ne, List.pairwise_map]
  refine List.Pairwise.imp_of_mem (fun {c c'} h1 h2 h3 => ?_) hnd.2
  obtain ⟨x, -, -, e2, e3⟩ := h.cyc_form h1
  obtain ⟨y, -, -, f2, f3⟩ := h.cyc_form h2
  rw [e2, f2]
  exact h3 _ e3 _ f3
 have h1 := nodup_le hL (m := (dartsD p).filter (fun x => decide (headOf (cyclesD p) x = x))) (fun y hy => by
  obtain ⟨c, hc, rfl⟩ := List.mem_map.1 hy
  obtain ⟨x, hx, -, e2, e3⟩ := h.cyc_form hc
  rw [e2, List.mem_filter, decide_eq_true_eq]
  exact ⟨hx, (h.head_eq hc hx e3).trans e2⟩)
 have h2 := nodup_le (h.darts_nodup.filter (fun x => decide (headOf (cyclesD p) x = x))) (m := (cyclesD p).map (fun c => c.headD 0)) (fun y hy => by
  rw [List.mem_filter, decide_eq_true_eq] at hy
  obtain ⟨c, hc, -, e⟩ := h.head_of hy.1
  exact List.mem_map.2 ⟨c, hc, by rw [← e]; exact hy.2⟩)
 rw [List.length_map] at h1 h2
 unfold cntR
 omega
theorem Valid.arc_darts {k : Nat} (hk : k < p.arcs.length) : p.arcs[k].id ∈ dartsD p ∧ -p.arcs[k].id ∈ dartsD p :=
 ⟨mem_dartsD.2 ⟨_, List.getElem_mem hk, .inl rfl⟩, mem_dartsD.2 ⟨_, List.getElem_mem hk, .inr rfl⟩⟩
theorem Valid.slE_lab (k : Nat) (hk : k ≤ p.arcs.length) : LabOn (dartsD p) (slE p k) := by
 induction k with
 | zero => exact h.head_lab.1
 | succ k ih =>
  rw [slE_succ (k := k) (by omega)]
  split
  · exact ih (by omega)
  · exact (ih (by omega)).mrg (h.arc_darts (by omega)).2
theorem Valid.slE_keep {k j : Nat} (hkj : k ≤ j) (hj : j ≤ p.arcs.length) {x y : Int} (e : slE p k x = slE p k y) : slE p j x = slE p j y := by
 induction j with
 | zero =>
  have : k = 0 := by omega
  subst this
  exact e
 | succ j ih =>
  by_cases h1 : k = j + 1
  · subst h1; exact e
  ·
   have e2 := ih (by omega) (by omega)
   rw [slE_succ (k := j) (by omega)]
   split
   · exact e2
   · unfold mrg; rw [e2]
/-- a number that is the same along cycles and on both sides of the arcs gone over is that of the label -/
theorem Valid.slE_const {β : Type} (H : Int → β) (hH : ∀ d ∈ dartsD p, H (nextD p d) = H d) (k : Nat) (hk : k ≤ p.arcs.length) (h0 : ∀ j (hj : j < p.arcs.length), j < k → ¬ treeA p j p.arcs[j] → H p.arcs[j].id = H (-p.arcs[j].id)) : ∀ d ∈ dartsD p, H (slE p k d) = H d := by
 induction k with
 | zero => exact fun d hd => h.head_const H hH hd
 | succ k ih =>
  intro d hd
  have ih := ih (by omega) (fun j hj hjk => h0 j hj (by omega))
  rw [slE_succ (k := k) (by omega)]
  split
  · exact ih d hd
  ·
   rename_i ht
   have hm := h.arc_darts (k := k) (by omega)
   unfold mrg
   split
   ·
    rename_i e
    rw [ih _ hm.2, ← h0 k (by omega) (by omega) ht, ← ih _ hm.1, ← e, ih d hd]
   · exact ih d hd
/-- the two sides of an arc that joins no parts are in different classes -/
theorem Valid.slE_differ {k : Nat} (hk : k < p.arcs.length) (ht : ¬ treeA p k p.arcs[k]) : slE p k p.arcs[k].id ≠ slE p k (-p.arcs[k].id) := by
 obtain ⟨z, hz, h1, h2⟩ := h.fund hk ht
 have hid : ∀ j (hj : j < p.arcs.length), 1 ≤ p.arcs[j].id := fun j hj => (h.id_pos (List.getElem_mem hj)).1
 have hj : ∀ j (hj : j < p.arcs.length), Hz p z p.arcs[j].id - Hz p z (-p.arcs[j].id) = z p.arcs[j].id := fun j hj => h.Hz_pos hz (List.getElem_mem hj)
 have hc := h.slE_const (Hz p z) (fun d hd => h.Hz_next hz hd) k (by omega) (fun j hjl hjk hjt => by
  have := hj j hjl
  rw [h2 j hjl (by omega) hjt] at this
  omega)
 intro e
 have hm := h.arc_darts hk
 have e1 := hc _ hm.1
 have e2 := hc _ hm.2
 rw [e] at e1
 have := hj k hk
 omega
theorem Valid.slE_cnt (k : Nat) (hk : k ≤ p.arcs.length) : (cntR (dartsD p) (slE p k) : Int) = (cyclesD p).length - k + p.nodes.length - (eulSt p k).2 := by
 induction k with
 | zero =>
  show (cntR (dartsD p) (headOf (cyclesD p)) : Int) = (cyclesD p).length - ((0 : Nat) : Int) + p.nodes.length - (p.nodes.length : Int)
  rw [h.head_lab.2]; omega
 | succ k ih =>
  have ih := ih (by omega)
  have e2 := (h.rtE_succ (k := k) (by omega)).2
  rw [slE_succ (k := k) (by omega), e2]
  by_cases ht : treeA p k p.arcs[k]
  · rw [if_pos ht, if_pos ht, ih]; omega
  ·
   rw [if_neg ht, if_neg ht]
   have hm := h.arc_darts (k := k) (by omega)
   have := cnt_mrg h.darts_nodup (h.slE_lab k (by omega)) hm.1 hm.2 (h.slE_differ (by omega) ht)
   omega
end
end Go.Proofs.YtoclnkfeblfpbaaGreat
