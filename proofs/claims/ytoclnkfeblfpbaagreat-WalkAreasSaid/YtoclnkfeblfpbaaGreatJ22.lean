/- PLAIN: Euler's formula for plans: nodes - arcs + cycles = 2 * parts - nodes without arcs. PLAIN: the parts of a plan, found by growing from each node that is not met yet. -/
import Derived.Test.YtoclnkfeblfpbaaGreatJ21
set_option linter.unusedSimpArgs false
set_option linter.unusedVariables false
namespace Go.Proofs.YtoclnkfeblfpbaaGreat
open Go.RowKit
set_option linter.unusedSectionVars false

theorem prec_sum {L : List Int} (hL : L.Nodup) (f : Int → Int) : (L.map fun d => f (precD L d)).sum = (L.map f).sum := by
 by_cases h0 : L.length = 0
 ·
  have : L = [] := List.eq_nil_of_length_eq_zero h0
  subst this; rfl
 ·
  have e : L.map (precD L) = L[L.length - 1]'(by omega) :: L.take (L.length - 1) := by
   refine List.ext_getElem (by simp; omega) fun i h1 h2 => ?_
   rw [List.length_map] at h1
   rw [List.getElem_map, precD_at hL h1]
   cases i with
   | zero =>
    rw [List.getElem_cons_zero]
    congr 1
    rw [Nat.zero_add]; exact Nat.mod_eq_of_lt (by omega)
   | succ i =>
    rw [List.getElem_cons_succ, List.getElem_take]
    congr 1
    rw [show i + 1 + L.length - 1 = i + L.length by omega, Nat.add_mod_right]
    exact Nat.mod_eq_of_lt (by omega)
  have e2 : L.map f = (L.take (L.length - 1)).map f ++ [f (L[L.length - 1]'(by omega))] := by
   conv => lhs; rw [← List.take_append_drop (L.length - 1) L]
   rw [List.map_append, List.drop_eq_getElem_cons (show L.length - 1 < L.length by omega), List.drop_eq_nil_of_le (by omega)]
   rfl
  rw [show (L.map fun d => f (precD L d)) = (L.map (precD L)).map f by rw [List.map_map]; rfl, e, List.map_cons, List.sum_cons, e2, List.sum_append]
  simp only [List.sum_cons, List.sum_nil]
  omega
theorem perm_sum {l m : List Int} (h : l.Perm m) : l.sum = m.sum := by
 induction h with
 | nil => rfl
 | cons x _ ih => rw [List.sum_cons, List.sum_cons, ih]
 | swap x y l => simp only [List.sum_cons]; omega
 | trans _ _ h1 h2 => exact h1.trans h2
section
variable {p : Pl} (h : Valid p)
include h
theorem Valid.node_bd (z : Int → Int) (n : Int) : ((dartL p.arcs n).map fun d => zD z d).sum = -bdC p z n := by
 have hid : ∀ b ∈ p.arcs, 1 ≤ b.id := fun b hb => (h.id_pos hb).1
 unfold dartL bdC
 generalize p.arcs = l at hid
 induction l with
 | nil => rfl
 | cons b l ih =>
  have := hid b (by simp)
  have z1 : zD z b.id = z b.id := by unfold zD; rw [if_pos (by omega)]
  have z2 : zD z (-b.id) = -z b.id := by unfold zD; rw [if_neg (by omega), Int.neg_neg]
  rw [List.map_cons, List.sum_cons, List.flatMap_cons, List.map_append, List.sum_append, ih (fun c hc => hid c (by simp [hc]))]
  by_cases c1 : b.fr = n <;> by_cases c2 : b.dst = n <;> simp only [c1, c2, if_true, if_false, List.map_append, List.sum_append, List.map_cons, List.map_nil, List.sum_cons, List.sum_nil, z1, z2] <;> grind
theorem Valid.next_prec {n : Nd} (hn : n ∈ p.nodes) {d : Int} (hd : d ∈ aroundD p n.id) : nextD p (-d) = precD (aroundD p n.id) d ∧ d ∈ dartsD p ∧ startD p d = n.id := by
 obtain ⟨h1, h2⟩ := h.dartL_start ((h.around_perm hn).subset hd)
 obtain ⟨n', hn', e, hm, hx⟩ := h.next_eq (neg_dart h1)
 rw [Int.neg_neg] at e hm hx
 exact ⟨by rw [hx, e, h2], h1, h2⟩
theorem Valid.sl_next {d : Int} (hd : d ∈ dartsD p) : slE p p.arcs.length (nextD p d) = slE p p.arcs.length d :=
 h.slE_keep (k := 0) (Nat.zero_le _) (Nat.le_refl _) (h.head_next hd)
theorem Valid.sl_arc {k : Nat} (hk : k < p.arcs.length) (ht : ¬ treeA p k p.arcs[k]) : slE p p.arcs.length p.arcs[k].id = slE p p.arcs.length (-p.arcs[k].id) := by
 refine h.slE_keep (k := k + 1) (by omega) (Nat.le_refl _) ?_
 rw [slE_succ hk, if_neg ht]
 unfold mrg
 rw [if_pos rfl]
 split <;> rfl
/-- both sides of every arc are in one class -/
theorem Valid.sl_neg {k : Nat} (hk : k < p.arcs.length) : slE p p.arcs.length p.arcs[k].id = slE p p.arcs.length (-p.arcs[k].id) := by
 obtain ⟨S, hS⟩ : ∃ S, slE p p.arcs.length = S := ⟨_, rfl⟩
 have hnx := fun {d} (hd : d ∈ dartsD p) => h.sl_next hd
 have har := fun {k} (hk : k < p.arcs.length) ht => h.sl_arc (k := k) hk ht
 rw [hS] at hnx har ⊢
 obtain ⟨f, hf⟩ : ∃ f : Int → Int, f = fun d => if S d = S p.arcs[k].id then 1 else 0 := ⟨_, rfl⟩
 have hfn : ∀ d ∈ dartsD p, f (nextD p d) = f d := fun d hd => by rw [hf]; simp only [hnx hd]
 have hcl : ClosedC p (fun i => f i - f (-i)) := by
  intro n hn
  show bdC p (fun i => f i - f (-i)) n.id = 0
  have hb := h.node_bd (fun i => f i - f (-i)) n.id
  have hp := h.around_perm hn
  have e1 : ((dartL p.arcs n.id).map fun d => zD (fun i => f i - f (-i)) d).sum = ((aroundD p n.id).map fun d => f d + -f (precD (aroundD p n.id) d)).sum := by
   rw [perm_sum (hp.symm.map _)]
   refine sumC _ _ _ fun d hd => ?_
   obtain ⟨g1, g2, -⟩ := h.next_prec hn hd
   rw [← g1, hfn _ (neg_dart g2)]
   unfold zD
   by_cases h0 : 0 < d
   · rw [if_pos h0]; show f d - f (-d) = _; omega
   · rw [if_neg h0]; show -(f (-d) - f (- -d)) = _; rw [Int.neg_neg]; omega
  rw [e1, sumA, sumN, prec_sum (h.around_nodup hn) f] at hb
  omega
 have h0 := h.forest hcl (fun j hj ht => by
  show f _ - f _ = 0
  rw [hf]; simp only [har hj ht]; omega) p.arcs.length (Nat.le_refl _) (fun j hj hle => by omega) k hk
 have h1 : f p.arcs[k].id = 1 := by rw [hf]; exact if_pos rfl
 have h2 : f (-p.arcs[k].id) = 1 := by
  have h0' : f p.arcs[k].id - f (-p.arcs[k].id) = 0 := h0
  omega
 rw [hf] at h2
 have h2' : (if S (-p.arcs[k].id) = S p.arcs[k].id then (1 : Int) else 0) = 1 := h2
 split at h2'
 · rename_i e; exact e.symm
 · omega
theorem Valid.sl_dart {d : Int} (hd : d ∈ dartsD p) : slE p p.arcs.length (-d) = slE p p.arcs.length d := by
 obtain ⟨a, ha, e⟩ := mem_dartsD.1 hd
 obtain ⟨k, hk, rfl⟩ := List.mem_iff_getElem.1 ha
 have := h.sl_neg hk
 rcases e with rfl | rfl
 · exact this.symm
 · rw [Int.neg_neg]; exact this
/-- darts that begin at one node are in one class -/
theorem Valid.sl_node {n : Nd} (hn : n ∈ p.nodes) {d e : Int} (hd : d ∈ aroundD p n.id) (he : e ∈ aroundD p n.id) : slE p p.arcs.length d = slE p p.arcs.length e := by
 have key : ∀ i (hi : i < (aroundD p n.id).length), slE p p.arcs.length (aroundD p n.id)[i] = slE p p.arcs.length ((aroundD p n.id)[0]'(by omega)) := by
  intro i
  induction i with
  | zero => intro _; rfl
  | succ i ih =>
   intro hi
   rw [← ih (by omega)]
   obtain ⟨g1, g2, -⟩ := h.next_prec hn (List.getElem_mem hi)
   have hm : (i + 1 + (aroundD p n.id).length - 1) % (aroundD p n.id).length = i := by
    rw [show i + 1 + (aroundD p n.id).length - 1 = i + (aroundD p n.id).length by omega, Nat.add_mod_right]
    exact Nat.mod_eq_of_lt (by omega)
   have e1 : precD (aroundD p n.id) (aroundD p n.id)[i + 1] = (aroundD p n.id)[i] := by
    rw [precD_at (h.around_nodup hn) hi]
    congr 1
   rw [← e1, ← g1, h.sl_next (neg_dart g2), h.sl_dart g2]
 obtain ⟨i, hi, rfl⟩ := List.mem_iff_getElem.1 hd
 obtain ⟨j, hj, rfl⟩ := List.mem_iff_getElem.1 he
 rw [key i hi, key j hj]
theorem Valid.in_around {d : Int} (hd : d ∈ dartsD p) : ∃ n ∈ p.nodes, n.id = startD p d ∧ d ∈ aroundD p n.id := by
 obtain ⟨n, hn, e, hm⟩ := h.start_node hd
 exact ⟨n, hn, e, (h.around_perm hn).symm.subset hm⟩
theorem Valid.start_mem {d : Int} (hd : d ∈ dartsD p) : startD p d ∈ nIds p := by
 obtain ⟨n, hn, e, -⟩ := h.start_node hd
 exact List.mem_map.2 ⟨n, hn, e⟩
/-- darts of one part are in one class -/
theorem Valid.sl_part (k : Nat) (hk : k ≤ p.arcs.length) : ∀ d ∈ dartsD p, ∀ e ∈ dartsD p, rtE p k (startD p d) = rtE p k (startD p e) → slE p p.arcs.length d = slE p p.arcs.length e := by
 induction k with
 | zero =>
  intro d hd e he he2
  rw [h.rtE_zero (h.start_mem hd), h.rtE_zero (h.start_mem he)] at he2
  obtain ⟨n, hn, e1, m1⟩ := h.in_around hd
  obtain ⟨m, hm, e2, m2⟩ := h.in_around he
  rw [show m.id = n.id by omega] at m2
  exact h.sl_node hn m1 m2
 | succ k ih =>
  intro d hd e he he2
  have ih := ih (by omega)
  rw [(h.rtE_succ (k := k) (by omega)).1] at he2
  by_cases ht : treeA p k p.arcs[k]
  ·
   rw [if_pos ht] at he2
   have ha := List.getElem_mem (show k < p.arcs.length by omega)
   have hm := h.arc_darts (k := k) (by omega)
   have s1 := h.start_pos ha; have s2 := h.start_neg ha
   have hn := h.sl_neg (k := k) (by omega)
   have up : ∀ x ∈ dartsD p, rtE p k (startD p x) = rtE p k p.arcs[k].fr → slE p p.arcs.length x = slE p p.arcs.length p.arcs[k].id := fun x hx e => ih x hx _ hm.1 (by rw [s1]; exact e)
   have dn : ∀ x ∈ dartsD p, rtE p k (startD p x) = rtE p k p.arcs[k].dst → slE p p.arcs.length x = slE p p.arcs.length p.arcs[k].id := fun x hx e => (ih x hx _ hm.2 (by rw [s2]; exact e)).trans hn.symm
   unfold mrg at he2
   by_cases ex : rtE p k (startD p d) = rtE p k p.arcs[k].fr <;> by_cases ey : rtE p k (startD p e) = rtE p k p.arcs[k].fr
   · exact (up d hd ex).trans (up e he ey).symm
   ·
    rw [if_pos ex, if_neg ey] at he2
    exact (up d hd ex).trans (dn e he he2.symm).symm
   ·
    rw [if_neg ex, if_pos ey] at he2
    exact (dn d hd he2).trans (up e he ey).symm
   ·
    rw [if_neg ex, if_neg ey] at he2
    exact ih d hd e he he2
  ·
   rw [if_neg ht] at he2
   exact ih d hd e he he2
theorem Valid.rt_dart {d : Int} (hd : d ∈ dartsD p) : rtE p p.arcs.length (startD p (-d)) = rtE p p.arcs.length (startD p d) := by
 obtain ⟨a, ha, e⟩ := mem_dartsD.1 hd
 obtain ⟨k, hk, rfl⟩ := List.mem_iff_getElem.1 ha
 have := h.rtE_arc (j := k) (k := p.arcs.length) hk (Nat.le_refl _)
 rcases e with rfl | rfl
 · rw [h.start_pos ha, h.start_neg ha]; exact this.symm
 · rw [Int.neg_neg, h.start_pos ha, h.start_neg ha]; exact this
/-- one class: one part -/
theorem Valid.sl_iff {d e : Int} (hd : d ∈ dartsD p) (he : e ∈ dartsD p) : slE p p.arcs.length d = slE p p.arcs.length e ↔ rtE p p.arcs.length (startD p d) = rtE p p.arcs.length (startD p e) := by
 have hc := h.slE_const (fun d => rtE p p.arcs.length (startD p d)) (fun d hd => by
  show rtE p p.arcs.length (startD p (nextD p d)) = _
  rw [(h.next_mem hd).2, h.rt_dart hd]) p.arcs.length (Nat.le_refl _) (fun j hj _ _ => (h.rt_dart (h.arc_darts hj).1).symm)
 refine ⟨fun e1 => ?_, fun e1 => h.sl_part p.arcs.length (Nat.le_refl _) d hd e he e1⟩
 have h1 : rtE p p.arcs.length (startD p (slE p p.arcs.length d)) = rtE p p.arcs.length (startD p d) := hc d hd
 have h2 : rtE p p.arcs.length (startD p (slE p p.arcs.length e)) = rtE p p.arcs.length (startD p e) := hc e he
 rw [← h1, e1, h2]
end
/-- does a part have a dart? -/
def hasDt (p : Pl) (x : Int) : Bool := (dartsD p).any (fun d => decide (rtE p p.arcs.length (startD p d) = x))
def singleS (p : Pl) : Nat := (p.nodes.filter (fun n => decide (degS p.arcs n.id = 0))).length
section
variable {p : Pl} (h : Valid p)
include h
/-- a node without arcs is a part by itself -/
theorem Valid.alone (k : Nat) (hk : k ≤ p.arcs.length) {x : Int} (hx : x ∈ nIds p) (h0 : degS p.arcs x = 0) : rtE p k x = x ∧ ∀ y ∈ nIds p, rtE p k y = x → y = x := by
 rw [deg_zero] at h0
 induction k with
 | zero =>
  refine ⟨h.rtE_zero hx, fun y hy e => ?_⟩
  rw [h.rtE_zero hy] at e; exact e
 | succ k ih =>
  obtain ⟨i1, i2⟩ := ih (by omega)
  rw [(h.rtE_succ (k := k) (by omega)).1]
  have ha := List.getElem_mem (show k < p.arcs.length by omega)
  have hm := h.fr_mem ha
  have n1 : rtE p k p.arcs[k].fr ≠ x := fun e => (h0 _ ha).1 (i2 _ hm.1 e)
  have n2 : rtE p k p.arcs[k].dst ≠ x := fun e => (h0 _ ha).2 (i2 _ hm.2 e)
  split
  ·
   unfold mrg
   refine ⟨by rw [i1, if_neg (fun e => n1 e.symm)], fun y hy e => ?_⟩
   split at e
   · exact absurd e n2
   · exact i2 y hy e
  · exact ⟨i1, i2⟩
theorem Valid.part_split : cntR (nIds p) (rtE p p.arcs.length) = ((nIds p).filter (fun x => decide (rtE p p.arcs.length x = x) && hasDt p x)).length + singleS p := by
 have e1 : cntR (nIds p) (rtE p p.arcs.length) = ((nIds p).filter (fun x => decide (rtE p p.arcs.length x = x) && hasDt p x)).length + ((nIds p).filter (fun x => decide (rtE p p.arcs.length x = x) && !hasDt p x)).length := by
  unfold cntR
  generalize nIds p = l
  induction l with
  | nil => rfl
  | cons a l ih =>
   simp only [List.filter_cons]
   cases hasDt p a <;> by_cases h1 : rtE p p.arcs.length a = a <;> simp [h1, ih] <;> omega
 have e2 : ((nIds p).filter (fun x => decide (rtE p p.arcs.length x = x) && !hasDt p x)).length = singleS p := by
  unfold singleS nIds
  rw [List.filter_map, List.length_map]
  congr 1
  refine List.filter_congr fun n hn => ?_
  have hx : n.id ∈ nIds p := List.mem_map_of_mem hn
  show (decide (rtE p p.arcs.length n.id = n.id) && !hasDt p n.id) = decide (degS p.arcs n.id = 0)
  by_cases h0 : degS p.arcs n.id = 0
  ·
   obtain ⟨a1, a2⟩ := h.alone p.arcs.length (Nat.le_refl _) hx h0
   have hf : hasDt p n.id = false := by
    unfold hasDt
    rw [List.any_eq_false]
    intro d hd
    rw [decide_eq_true_eq]
    intro e
    have := a2 _ (h.start_mem hd) e
    obtain ⟨a, ha, e3⟩ := mem_dartsD.1 hd
    have := (deg_zero _ _).1 h0 a ha
    rcases e3 with rfl | rfl
    · rw [h.start_pos ha] at *; omega
    · rw [h.start_neg ha] at *; omega
   rw [hf, decide_eq_true a1, decide_eq_true h0]; rfl
  ·
   rw [decide_eq_false h0]
   by_cases h1 : rtE p p.arcs.length n.id = n.id
   ·
    have : hasDt p n.id = true := by
     obtain ⟨a, ha, hor⟩ : ∃ a ∈ p.arcs, a.fr = n.id ∨ a.dst = n.id := by
      apply Classical.byContradiction
      intro hno
      exact h0 ((deg_zero _ _).2 fun a ha => ⟨fun e => hno ⟨a, ha, .inl e⟩, fun e => hno ⟨a, ha, .inr e⟩⟩)
     unfold hasDt
     rw [List.any_eq_true]
     rcases hor with e | e
     · exact ⟨a.id, mem_dartsD.2 ⟨a, ha, .inl rfl⟩, by rw [h.start_pos ha, e, decide_eq_true_eq]; exact h1⟩
     · exact ⟨-a.id, mem_dartsD.2 ⟨a, ha, .inr rfl⟩, by rw [h.start_neg ha, e, decide_eq_true_eq]; exact h1⟩
    rw [this]; simp
   · rw [decide_eq_false h1]; rfl
 omega
theorem Valid.part_darts : cntR (dartsD p) (slE p p.arcs.length) = ((nIds p).filter (fun x => decide (rtE p p.arcs.length x = x) && hasDt p x)).length := by
 have hlb := h.slE_lab p.arcs.length (Nat.le_refl _)
 have hrl := (h.rtE_lab p.arcs.length (Nat.le_refl _)).1
 apply Nat.le_antisymm
 ·
  have hnd : (((dartsD p).filter (fun x => decide (slE p p.arcs.length x = x))).map (fun d => rtE p p.arcs.length (startD p d))).Nodup := by
   rw [List.nodup_iff_pairwise_ne, List.pairwise_map]
   have := h.darts_nodup.filter (fun x => decide (slE p p.arcs.length x = x))
   refine List.Pairwise.imp_of_mem (fun {d e} h1 h2 h3 e4 => ?_) this
   rw [List.mem_filter, decide_eq_true_eq] at h1 h2
   have := (h.sl_iff h1.1 h2.1).2 e4
   rw [h1.2, h2.2] at this
   exact h3 this
  have := nodup_le hnd (m := (nIds p).filter (fun x => decide (rtE p p.arcs.length x = x) && hasDt p x)) (fun y hy => by
   obtain ⟨d, hd, rfl⟩ := List.mem_map.1 hy
   rw [List.mem_filter] at hd
   have hs := h.start_mem hd.1
   rw [List.mem_filter, Bool.and_eq_true, decide_eq_true_eq]
   refine ⟨hrl.mem _ hs, hrl.idem _ hs, ?_⟩
   unfold hasDt
   rw [List.any_eq_true]
   exact ⟨d, hd.1, by simp⟩)
  rw [List.length_map] at this
  exact this
 ·
  obtain ⟨φ, hφ⟩ : ∃ φ : Int → Int, ∀ x, hasDt p x = true → φ x ∈ dartsD p ∧ rtE p p.arcs.length (startD p (φ x)) = x := by
   refine ⟨fun x => ((dartsD p).find? (fun d => decide (rtE p p.arcs.length (startD p d) = x))).getD 0, fun x hx => ?_⟩
   unfold hasDt at hx
   obtain ⟨d, hd, e⟩ := List.any_eq_true.1 hx
   cases hf : (dartsD p).find? (fun d => decide (rtE p p.arcs.length (startD p d) = x)) with
   | none => exact absurd e (List.find?_eq_none.1 hf d hd)
   | some c =>
    have h1 := List.mem_of_find?_eq_some hf
    have h2 := List.find?_some hf
    rw [decide_eq_true_eq] at h2
    show Option.getD _ 0 ∈ dartsD p ∧ rtE p p.arcs.length (startD p (Option.getD _ 0)) = x
    rw [hf]
    exact ⟨h1, h2⟩
  have hnd : (((nIds p).filter (fun x => decide (rtE p p.arcs.length x = x) && hasDt p x)).map (fun x => slE p p.arcs.length (φ x))).Nodup := by
   rw [List.nodup_iff_pairwise_ne, List.pairwise_map]
   have := h.nIds_nodup.filter (fun x => decide (rtE p p.arcs.length x = x) && hasDt p x)
   refine List.Pairwise.imp_of_mem (fun {x y} h1 h2 h3 e4 => ?_) this
   rw [List.mem_filter, Bool.and_eq_true, decide_eq_true_eq] at h1 h2
   obtain ⟨g1, g2⟩ := hφ x h1.2.2
   obtain ⟨k1, k2⟩ := hφ y h2.2.2
   have := (h.sl_iff g1 k1).1 e4
   rw [g2, k2] at this
   exact h3 this
  have := nodup_le hnd (m := (dartsD p).filter (fun x => decide (slE p p.arcs.length x = x))) (fun y hy => by
   obtain ⟨x, hx, rfl⟩ := List.mem_map.1 hy
   rw [List.mem_filter, Bool.and_eq_true] at hx
   obtain ⟨g1, -⟩ := hφ x hx.2.2
   rw [List.mem_filter, decide_eq_true_eq]
   exact ⟨hlb.mem _ g1, hlb.idem _ g1⟩)
  rw [List.length_map] at this
  exact this
/-- EULER's FORMULA -/
theorem Valid.euler : (p.nodes.length : Int) - p.arcs.length + (cyclesD p).length = 2 * partsD p - singleS p := by
 have h1 := h.slE_cnt p.arcs.length (Nat.le_refl _)
 have h2 := (h.rtE_lab p.arcs.length (Nat.le_refl _)).2
 have h3 := h.part_split
 have h4 := h.part_darts
 unfold partsD
 omega
end
end Go.Proofs.YtoclnkfeblfpbaaGreat
namespace Go.Proofs.YtoclnkfeblfpbaaGreat
open Go.RowKit
set_option linter.unusedSectionVars false

/-- does a node lie in the part of one of the first i nodes? -/
def inPt (p : Pl) (i : Nat) (x : Int) : Bool := (p.nodes.take i).any (fun n => decide (rtE p p.arcs.length n.id = rtE p p.arcs.length x))
theorem inPt_succ {p : Pl} {i : Nat} (hi : i < p.nodes.length) (x : Int) : inPt p (i + 1) x = (inPt p i x || decide (rtE p p.arcs.length p.nodes[i].id = rtE p p.arcs.length x)) := by
 unfold inPt
 rw [List.take_succ_eq_append_getElem hi, List.any_append]
 simp
theorem inPt_congr (p : Pl) (i : Nat) {x y : Int} (e : rtE p p.arcs.length x = rtE p p.arcs.length y) : inPt p i x = inPt p i y := by unfold inPt; rw [e]
/-- the first i nodes: how many of them are the first of their part -/
def newN (p : Pl) : Nat → Nat
 | 0 => 0
 | i + 1 => newN p i + (if inPt p i (p.nodes.getD i ⟨0, ⟨0, 0⟩⟩).id = true then 0 else 1)
theorem newN_succ {p : Pl} {i : Nat} (hi : i < p.nodes.length) : newN p (i + 1) = newN p i + (if inPt p i p.nodes[i].id = true then 0 else 1) := by
 rw [newN, List.getD_eq_getElem?_getD, List.getElem?_eq_getElem hi]; rfl
theorem newN_le (p : Pl) (i : Nat) : newN p i ≤ i := by
 induction i with
 | zero => exact Nat.le_refl _
 | succ i ih => rw [newN]; split <;> omega
theorem filter_more {l : List Int} (hl : l.Nodup) {c : Int} (hc : c ∈ l) (q : Int → Bool) (hq : q c = false) : (l.filter (fun x => q x || decide (x = c))).length = (l.filter q).length + 1 := by
 induction l with
 | nil => cases hc
 | cons a l ih =>
  rw [List.nodup_cons] at hl
  rcases List.mem_cons.1 hc with rfl | hc
  ·
   rw [List.filter_cons, if_pos (by simp), List.filter_cons, if_neg (by rw [hq]; simp), List.length_cons]
   congr 2
   refine List.filter_congr fun x hx => ?_
   have : ¬ x = c := by rintro rfl; exact hl.1 hx
   simp [this]
  ·
   have hac : ¬ a = c := by rintro rfl; exact hl.1 hc
   rw [List.filter_cons, List.filter_cons]
   cases h : q a
   · rw [if_neg (by simp [hac]), if_neg (by simp), ih hl.2 hc]
   · rw [if_pos (by simp), if_pos (by simp), List.length_cons, List.length_cons, ih hl.2 hc]
section
variable {p : Pl} (h : Valid p)
include h
theorem Valid.newN_roots (i : Nat) (hi : i ≤ p.nodes.length) : newN p i = ((nIds p).filter (fun x => decide (rtE p p.arcs.length x = x) && inPt p i x)).length := by
 have hlb := (h.rtE_lab p.arcs.length (Nat.le_refl _)).1
 induction i with
 | zero =>
  rw [newN, List.filter_eq_nil_iff.2 (fun x _ => by simp [inPt])]; rfl
 | succ i ih =>
  have hm : p.nodes[i].id ∈ nIds p := List.mem_map_of_mem (List.getElem_mem (show i < p.nodes.length by omega))
  rw [newN_succ (show i < p.nodes.length by omega), ih (by omega)]
  have e : ∀ x ∈ nIds p, (decide (rtE p p.arcs.length x = x) && inPt p (i + 1) x) = ((decide (rtE p p.arcs.length x = x) && inPt p i x) || decide (x = rtE p p.arcs.length p.nodes[i].id)) := by
   intro x hx
   rw [inPt_succ (show i < p.nodes.length by omega)]
   by_cases h1 : rtE p p.arcs.length x = x
   ·
    by_cases h2 : rtE p p.arcs.length p.nodes[i].id = x
    · simp [h1, h2]
    ·
     have : ¬ x = rtE p p.arcs.length p.nodes[i].id := fun e => h2 e.symm
     simp [h1, h2, this]
   ·
    have : ¬ x = rtE p p.arcs.length p.nodes[i].id := fun e => h1 (by rw [e]; exact hlb.idem _ hm)
    simp [h1, this]
  rw [List.filter_congr e]
  by_cases hin : inPt p i p.nodes[i].id = true
  ·
   rw [if_pos hin, Nat.add_zero]
   congr 1
   refine List.filter_congr fun x hx => ?_
   by_cases h1 : x = rtE p p.arcs.length p.nodes[i].id
   ·
    subst h1
    have h2 : inPt p i (rtE p p.arcs.length p.nodes[i].id) = true := by rw [inPt_congr p i (hlb.idem _ hm)]; exact hin
    simp [hlb.idem _ hm, h2]
   · simp [h1]
  ·
   rw [if_neg hin]
   have h2 : inPt p i (rtE p p.arcs.length p.nodes[i].id) = false := by rw [inPt_congr p i (hlb.idem _ hm)]; simpa using hin
   rw [filter_more h.nIds_nodup (hlb.mem _ hm) (fun x => decide (rtE p p.arcs.length x = x) && inPt p i x) (by simp [h2])]
theorem Valid.newN_all : (newN p p.nodes.length : Int) = partsD p := by
 rw [h.newN_roots _ (Nat.le_refl _)]
 unfold partsD
 rw [(h.rtE_lab p.arcs.length (Nat.le_refl _)).2]
 unfold cntR
 congr 2
 refine List.filter_congr fun x hx => ?_
 have : inPt p p.nodes.length x = true := by
  unfold inPt
  rw [List.take_length, List.any_eq_true]
  obtain ⟨n, hn, rfl⟩ := List.mem_map.1 hx
  exact ⟨n, hn, by simp⟩
 simp [this]
/-- a list of nodes that no arc leaves has whole parts -/
theorem Valid.whole_part {M : List Int} (hM : ∀ a ∈ p.arcs, a.fr ∈ M ↔ a.dst ∈ M) (k : Nat) (hk : k ≤ p.arcs.length) : ∀ x ∈ nIds p, ∀ y ∈ nIds p, rtE p k x = rtE p k y → (x ∈ M ↔ y ∈ M) := by
 induction k with
 | zero =>
  intro x hx y hy e
  rw [h.rtE_zero hx, h.rtE_zero hy] at e
  subst e
  exact Iff.rfl
 | succ k ih =>
  intro x hx y hy e
  have ih := ih (by omega)
  have ha := List.getElem_mem (show k < p.arcs.length by omega)
  have hm := h.fr_mem ha
  have hMa := hM _ ha
  rw [(h.rtE_succ (k := k) (by omega)).1] at e
  split at e
  ·
   unfold mrg at e
   by_cases ex : rtE p k x = rtE p k p.arcs[k].fr <;> by_cases ey : rtE p k y = rtE p k p.arcs[k].fr
   · exact (ih x hx _ hm.1 ex).trans (ih y hy _ hm.1 ey).symm
   ·
    rw [if_pos ex, if_neg ey] at e
    exact (ih x hx _ hm.1 ex).trans (hMa.trans (ih y hy _ hm.2 e.symm).symm)
   ·
    rw [if_neg ex, if_pos ey] at e
    exact (ih x hx _ hm.2 e).trans (hMa.symm.trans (ih y hy _ hm.1 ey).symm)
   ·
    rw [if_neg ex, if_neg ey] at e
    exact ih x hx y hy e
  · exact ih x hx y hy e
end
/-- while it grows from node i on -/
structure MetOK (p : Pl) (i : Nat) (M : List Int) : Prop where
 nd : M.Nodup
 sub : ∀ x ∈ M, x ∈ nIds p ∧ inPt p (i + 1) x = true
 old : ∀ j (hj : j < p.nodes.length), j ≤ i → p.nodes[j].id ∈ M
/-- behind the first i nodes -/
structure MetDn (p : Pl) (i : Nat) (M : List Int) : Prop where
 nd : M.Nodup
 all : ∀ x, x ∈ M ↔ x ∈ nIds p ∧ inPt p i x = true
theorem MetDn.nil (p : Pl) : MetDn p 0 [] := ⟨List.nodup_nil, fun x => by simp [inPt]⟩
theorem nodup_snoc {M : List Int} (h : M.Nodup) {x : Int} (hx : x ∉ M) : (M ++ [x]).Nodup := by
 rw [List.nodup_append]
 refine ⟨h, by simp, fun a ha b hb => ?_⟩
 rw [List.mem_singleton] at hb
 subst hb
 rintro rfl
 exact hx ha
section
variable {p : Pl} (h : Valid p)
include h
theorem MetDn.at_ {i : Nat} (hi : i < p.nodes.length) {M : List Int} (hM : MetDn p i M) : (M.any fun y => y == p.nodes[i].id) = inPt p i p.nodes[i].id := by
 have hm : p.nodes[i].id ∈ nIds p := List.mem_map_of_mem (List.getElem_mem hi)
 rw [Bool.eq_iff_iff, List.any_eq_true]
 constructor
 ·
  rintro ⟨x, hx, e⟩
  have e := beq_iff_eq.1 e
  rw [← e]
  exact ((hM.all x).1 hx).2
 ·
  intro e
  exact ⟨_, (hM.all _).2 ⟨hm, e⟩, by simp⟩
theorem MetDn.skip {i : Nat} (hi : i < p.nodes.length) {M : List Int} (hM : MetDn p i M) (e : inPt p i p.nodes[i].id = true) : MetDn p (i + 1) M := by
 refine ⟨hM.nd, fun x => ?_⟩
 rw [hM.all, inPt_succ hi]
 constructor
 · rintro ⟨h1, h2⟩; exact ⟨h1, by rw [h2]; rfl⟩
 ·
  rintro ⟨h1, h2⟩
  refine ⟨h1, ?_⟩
  rw [Bool.or_eq_true, decide_eq_true_eq] at h2
  rcases h2 with h2 | h2
  · exact h2
  · rw [← inPt_congr p i h2]; exact e
theorem MetDn.start {i : Nat} (hi : i < p.nodes.length) {M : List Int} (hM : MetDn p i M) (e : inPt p i p.nodes[i].id = false) : MetOK p i (M ++ [p.nodes[i].id]) := by
 have hm : ∀ j (hj : j < p.nodes.length), p.nodes[j].id ∈ nIds p := fun j hj => List.mem_map_of_mem (List.getElem_mem hj)
 refine ⟨nodup_snoc hM.nd (fun hx => by rw [((hM.all _).1 hx).2] at e; cases e), fun x hx => ?_, fun j hj hji => ?_⟩
 ·
  rw [inPt_succ hi]
  rcases List.mem_append.1 hx with hx | hx
  ·
   have := (hM.all x).1 hx
   exact ⟨this.1, by rw [this.2]; rfl⟩
  ·
   rw [List.mem_singleton] at hx
   subst hx
   exact ⟨hm i hi, by simp⟩
 ·
  by_cases h1 : j = i
  · subst h1; simp
  ·
   refine List.mem_append_left _ ((hM.all _).2 ⟨hm j hj, ?_⟩)
   unfold inPt
   rw [List.any_eq_true]
   exact ⟨p.nodes[j], List.mem_take_iff_getElem.2 ⟨j, by omega, rfl⟩, by simp⟩
theorem MetOK.add {i : Nat} {M : List Int} (hM : MetOK p i M) {a : Ar} (ha : a ∈ p.arcs) {x y : Int} (hxy : (x = a.fr ∧ y = a.dst) ∨ (x = a.dst ∧ y = a.fr)) (hx : x ∈ M) (hy : y ∉ M) : MetOK p i (M ++ [y]) := by
 have hm := h.fr_mem ha
 obtain ⟨k, hk, rfl⟩ := List.mem_iff_getElem.1 ha
 have he := h.rtE_arc (j := k) (k := p.arcs.length) hk (Nat.le_refl _)
 refine ⟨nodup_snoc hM.nd hy, fun z hz => ?_, fun j hj hji => List.mem_append_left _ (hM.old j hj hji)⟩
 rcases List.mem_append.1 hz with hz | hz
 · exact hM.sub z hz
 ·
  rw [List.mem_singleton] at hz
  subst hz
  have := (hM.sub x hx).2
  rcases hxy with ⟨rfl, rfl⟩ | ⟨rfl, rfl⟩
  · exact ⟨hm.2, by rw [← inPt_congr p (i + 1) he]; exact this⟩
  · exact ⟨hm.1, by rw [inPt_congr p (i + 1) he]; exact this⟩
theorem MetOK.done {i : Nat} (hi : i < p.nodes.length) {M : List Int} (hM : MetOK p i M) (hc : ∀ a ∈ p.arcs, a.fr ∈ M ↔ a.dst ∈ M) : MetDn p (i + 1) M := by
 refine ⟨hM.nd, fun x => ⟨hM.sub x, fun ⟨h1, h2⟩ => ?_⟩⟩
 unfold inPt at h2
 obtain ⟨n, hn, e⟩ := List.any_eq_true.1 h2
 rw [decide_eq_true_eq] at e
 obtain ⟨j, hj, rfl⟩ := List.mem_take_iff_getElem.1 hn
 have hjl : j < p.nodes.length := by omega
 exact (h.whole_part hc p.arcs.length (Nat.le_refl _) _ (List.mem_map_of_mem (List.getElem_mem hjl)) x h1 e).1 (hM.old j hjl (by omega))
theorem MetOK.len {i : Nat} {M : List Int} (hM : MetOK p i M) : M.length ≤ p.nodes.length := by
 have := nodup_le hM.nd (fun x hx => (hM.sub x hx).1)
 unfold nIds at this
 rwa [List.length_map] at this
theorem MetDn.len {i : Nat} {M : List Int} (hM : MetDn p i M) : M.length ≤ p.nodes.length := by
 have := nodup_le hM.nd (fun x hx => ((hM.all x).1 hx).1)
 unfold nIds at this
 rwa [List.length_map] at this
end
end Go.Proofs.YtoclnkfeblfpbaaGreat
