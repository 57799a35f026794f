/- PLAIN: a path in the box has one piece, itself; a path beside it has none; an arc without pieces can be left out. Points and pieces of a row all at once; what an answer of Part says. -/
import Derived.Test.YtfondidmklmonaaGreatJ21
import Derived.Test.YtfondidmklmonaaGreatJ15
set_option linter.unusedSimpArgs false
set_option linter.unusedVariables false
namespace Go.Proofs.YtfondidmklmonaaGreat

/-- the smallest box of points -/
def bdBox : List Pt → Bx
 | [] => ⟨0, 0, -1, -1⟩
 | p :: l => l.foldl (fun x q => ⟨min x.x0 q.x, min x.y0 q.y, max x.x1 q.x, max x.y1 q.y⟩) ⟨p.x, p.y, p.x, p.y⟩
def addB (x : Bx) (q : Pt) : Bx := ⟨min x.x0 q.x, min x.y0 q.y, max x.x1 q.x, max x.y1 q.y⟩
theorem addB_fold (l : List Pt) : ∀ x : Bx, (x.x0 ≤ x.x1 ∧ x.y0 ≤ x.y1) → (∀ q ∈ l, (l.foldl addB x).x0 ≤ q.x ∧ q.x ≤ (l.foldl addB x).x1 ∧ (l.foldl addB x).y0 ≤ q.y ∧ q.y ≤ (l.foldl addB x).y1) ∧ (l.foldl addB x).x0 ≤ x.x0 ∧ x.x1 ≤ (l.foldl addB x).x1 ∧ (l.foldl addB x).y0 ≤ x.y0 ∧ x.y1 ≤ (l.foldl addB x).y1 := by
 induction l with
 | nil => intro x _; exact ⟨fun q hq => (by cases hq), Int.le_refl _, Int.le_refl _, Int.le_refl _, Int.le_refl _⟩
 | cons p l ih =>
  intro x hx
  obtain ⟨h1, h2, h3, h4, h5⟩ := ih (addB x p) (by unfold addB; simp only; omega)
  rw [List.foldl_cons]
  have e : (addB x p).x0 = min x.x0 p.x ∧ (addB x p).y0 = min x.y0 p.y ∧ (addB x p).x1 = max x.x1 p.x ∧ (addB x p).y1 = max x.y1 p.y := ⟨rfl, rfl, rfl, rfl⟩
  refine ⟨fun q hq => ?_, by omega, by omega, by omega, by omega⟩
  rcases List.mem_cons.1 hq with rfl | hq
  · omega
  · exact h1 q hq
theorem bdBox_in {l : List Pt} {q : Pt} (hq : q ∈ l) : (bdBox l).x0 ≤ q.x ∧ q.x ≤ (bdBox l).x1 ∧ (bdBox l).y0 ≤ q.y ∧ q.y ≤ (bdBox l).y1 := by
 cases l with
 | nil => cases hq
 | cons p l =>
  have h := addB_fold l ⟨p.x, p.y, p.x, p.y⟩ ⟨Int.le_refl _, Int.le_refl _⟩
  show (l.foldl addB ⟨p.x, p.y, p.x, p.y⟩).x0 ≤ q.x ∧ _
  rcases List.mem_cons.1 hq with rfl | hq
  · have := h.2; simp only at this; exact ⟨this.1, this.2.1, this.2.2.1, this.2.2.2⟩
  · exact h.1 q hq
theorem cmp_id : ∀ (l acc : List Pt), NoRep (acc ++ l) → l.foldl cmpStep acc = acc ++ l
 | [], acc, _ => by simp
 | p :: l, acc, h => by
  have hs : cmpStep acc p = acc ++ [p] := by
   unfold cmpStep
   rw [if_neg]
   intro e
   rw [List.getLast?_eq_getElem?] at e
   obtain ⟨hl, he⟩ := List.getElem?_eq_some_iff.1 e
   have hk : acc.length - 1 + 1 < (acc ++ p :: l).length := by rw [List.length_append, List.length_cons]; omega
   have := h (acc.length - 1) hk
   apply this
   rw [List.getElem_append_left (by omega), he, List.getElem_append_right (by omega)]
   simp only [show acc.length - 1 + 1 - acc.length = 0 by omega, List.getElem_cons_zero]
  rw [List.foldl_cons, hs, cmp_id l (acc ++ [p]) (by rw [List.append_assoc]; exact h), List.append_assoc]; rfl
theorem cmpP_id {l : List Pt} (h : NoRep l) : cmpP l = l := cmp_id l [] h
theorem clip_both {p q : Pt} {b : Bx} (hp : inB b p = true) (hq : inB b q = true) : clipS p q b = some (p, q) := by
 cases h : clipS p q b with
 | none =>
  have hn := clip_is p q b
  rw [h] at hn
  exact absurd (in_box_Q hp) (hn 0 1 ⟨by decide, by decide, by decide⟩)
 | some r =>
  obtain ⟨c, d⟩ := r
  rw [clip_first h hp, clip_last h hq]
theorem through_in {p q : Pt} {b : Bx} (hp : inB b p = true) : throughS p q b = 0 := by unfold throughS; rw [if_pos hp]
theorem getD_take_snoc (l : List Pt) {i : Nat} (h : i < l.length) : l.take i ++ [l.getD i ptz] = l.take (i + 1) := by
 rw [List.take_succ_eq_append_getElem h, List.getD_eq_getElem?_getD, List.getElem?_eq_getElem h]; rfl
/-- a path in the box is one open piece -/
theorem st_whole {arc : Int} {b : Bx} {l : List Pt} (h : ∀ q ∈ l, inB b q = true) : ∀ i, i + 1 < l.length → stAt arc b l (i + 1) = ⟨true, ⟨arc, l.take (i + 2), 0, 0⟩, []⟩
 | 0, hi => by
  have h0 : inB b (l.getD 0 ptz) = true := h _ (by rw [List.getD_eq_getElem?_getD, List.getElem?_eq_getElem (by omega)]; exact List.getElem_mem _)
  have h1 : inB b (l.getD 1 ptz) = true := h _ (by rw [List.getD_eq_getElem?_getD, List.getElem?_eq_getElem hi]; exact List.getElem_mem _)
  show stepS arc b ⟨false, pc0, []⟩ (l.getD 0 ptz) (l.getD 1 ptz) = _
  unfold stepS
  rw [clip_both h0 h1]
  simp only [h1, if_true]
  unfold clAdd
  simp only [Bool.false_eq_true, if_false, through_in h0, through_in h1]
  have e : l.take 2 = [l.getD 0 ptz, l.getD 1 ptz] := by
   rw [← getD_take_snoc l (i := 1) hi, ← getD_take_snoc l (i := 0) (by omega)]; rfl
  rw [e]; rfl
 | i + 1, hi => by
  have h0 : inB b (l.getD (i + 1) ptz) = true := h _ (by rw [List.getD_eq_getElem?_getD, List.getElem?_eq_getElem (by omega)]; exact List.getElem_mem _)
  have h1 : inB b (l.getD (i + 2) ptz) = true := h _ (by rw [List.getD_eq_getElem?_getD, List.getElem?_eq_getElem hi]; exact List.getElem_mem _)
  show stepS arc b (stAt arc b l (i + 1)) (l.getD (i + 1) ptz) (l.getD (i + 2) ptz) = _
  rw [st_whole h i (by omega)]
  unfold stepS
  rw [clip_both h0 h1]
  simp only [h1, if_true]
  unfold clAdd
  simp only [if_true, through_in h1]
  rw [getD_take_snoc l hi]
theorem pieces_whole {arc : Int} {b : Bx} {l : List Pt} (h : ∀ q ∈ l, inB b q = true) (h2 : 2 ≤ l.length) (hn : NoRep l) : piecesS arc l b = [⟨arc, l, 0, 0⟩] := by
 unfold piecesS
 obtain ⟨i, hi⟩ : ∃ i, l.length - 1 = i + 1 := ⟨l.length - 2, by omega⟩
 rw [hi, st_whole h i (by omega), List.take_of_length_le (by omega)]
 unfold endS
 simp only [Bool.true_eq_false, if_false, cmpP_id hn, List.nil_append]
 rw [if_pos (by omega)]
/-- a segment beside the box -/
theorem clip_beside {p q : Pt} {b : Bx} (h : (p.x < b.x0 ∧ q.x < b.x0) ∨ (b.x1 < p.x ∧ b.x1 < q.x) ∨ (p.y < b.y0 ∧ q.y < b.y0) ∨ (b.y1 < p.y ∧ b.y1 < q.y)) : clipS p q b = none := by
 cases hc : clipS p q b with
 | none => rfl
 | some r =>
  exfalso
  obtain ⟨c, d⟩ := r
  obtain ⟨n, d, hp, hx, hy⟩ := clip_par hc
  have lo : ∀ s e f t : Int, s < f → e < f → ¬ Btw s (e - s) f t n d := by
   intro s e f t h1 h2 hb
   unfold Btw at hb
   have a1 : s * d < f * d := Int.mul_lt_mul_of_pos_right h1 hp.1
   have a2 : e * d < f * d := Int.mul_lt_mul_of_pos_right h2 hp.1
   rcases Int.lt_or_le (e - s) 0 with hw | hw
   ·
    have : (e - s) * n ≤ 0 := by
     have := Int.mul_le_mul_of_nonneg_right (show e - s ≤ 0 by omega) hp.2.1
     omega
    omega
   ·
    have : (e - s) * n ≤ (e - s) * d := Int.mul_le_mul_of_nonneg_left hp.2.2 hw
    rw [Int.sub_mul e s d] at this
    omega
  have hi : ∀ s e f t : Int, t < s → t < e → ¬ Btw s (e - s) f t n d := by
   intro s e f t h1 h2 hb
   unfold Btw at hb
   have a1 : t * d < s * d := Int.mul_lt_mul_of_pos_right h1 hp.1
   have a2 : t * d < e * d := Int.mul_lt_mul_of_pos_right h2 hp.1
   rcases Int.lt_or_le (e - s) 0 with hw | hw
   ·
    have : (e - s) * d ≤ (e - s) * n := by
     have := Int.mul_le_mul_of_nonneg_left hp.2.2 (show 0 ≤ -(e - s) by omega)
     rw [Int.neg_mul, Int.neg_mul] at this; omega
    rw [Int.sub_mul e s d] at this
    omega
   ·
    have : 0 ≤ (e - s) * n := Int.mul_nonneg hw hp.2.1
    omega
  rcases h with h | h | h | h
  · exact lo _ _ _ _ h.1 h.2 hx
  · exact hi _ _ _ _ h.1 h.2 hx
  · exact lo _ _ _ _ h.1 h.2 hy
  · exact hi _ _ _ _ h.1 h.2 hy
/-- beside the box -/
def beside (c b : Bx) : Prop := c.x1 < b.x0 ∨ b.x1 < c.x0 ∨ c.y1 < b.y0 ∨ b.y1 < c.y0
theorem st_beside {arc : Int} {b : Bx} {l : List Pt} (h : beside (bdBox l) b) : ∀ i, i < l.length → stAt arc b l i = ⟨false, pc0, []⟩
 | 0, _ => rfl
 | i + 1, hi => by
  show stepS arc b (stAt arc b l i) (l.getD i ptz) (l.getD (i + 1) ptz) = _
  rw [st_beside h i (by omega)]
  have m0 := bdBox_in (l := l) (q := l.getD i ptz) (by rw [List.getD_eq_getElem?_getD, List.getElem?_eq_getElem (by omega)]; exact List.getElem_mem _)
  have m1 := bdBox_in (l := l) (q := l.getD (i + 1) ptz) (by rw [List.getD_eq_getElem?_getD, List.getElem?_eq_getElem hi]; exact List.getElem_mem _)
  unfold stepS
  rw [clip_beside (by unfold beside at h; omega)]
  rfl
theorem pieces_beside {arc : Int} {b : Bx} {l : List Pt} (h : beside (bdBox l) b) : piecesS arc l b = [] := by
 unfold piecesS
 rcases Nat.eq_zero_or_pos l.length with h0 | h0
 · rw [show l.length - 1 = 0 by omega]; rfl
 · rw [st_beside h _ (by omega)]; rfl
theorem pieces_arc {p : Pl} (hV : Valid p) {b : Bx} (hx : b.x0 < b.x1) (hy : b.y0 < b.y1) (n : Int) {a : Ar} (ha : a ∈ p.arcs) : (partS p n b).pieces.filter (fun y => decide (y.arc = a.id)) = piecesS a.id (pathS p a) b := by
 have hs := hV.sound.arcs
 have huq : ∀ c ∈ p.arcs, c.id = a.id → c = a := by
  intro c hc e
  have h1 := find_uniq (fun x : Ar => x.id) p.arcs hs c hc
  have h2 := find_uniq (fun x : Ar => x.id) p.arcs hs a ha
  rw [e, h2] at h1
  injection h1 with h1
  exact h1.symm
 have key : ∀ l : List Ar, (l.map (·.id)).Pairwise (· < ·) → (∀ c ∈ l, c.id = a.id → c = a) → (l.flatMap (fun a => piecesS a.id (pathS p a) b)).filter (fun y => decide (y.arc = a.id)) = if a ∈ l then piecesS a.id (pathS p a) b else [] := by
  intro l
  induction l with
  | nil => intro _ _; simp
  | cons c l ih =>
   intro h hu
   rw [List.map_cons, List.pairwise_cons] at h
   rw [List.flatMap_cons, List.filter_append, ih h.2 (fun c hc => hu c (by simp [hc]))]
   have hc : (piecesS c.id (pathS p c) b).filter (fun y => decide (y.arc = a.id)) = if c.id = a.id then piecesS c.id (pathS p c) b else [] := by
    by_cases e : c.id = a.id
    ·
     rw [if_pos e, List.filter_eq_self]
     intro y hy'
     rw [(pieces_good hx hy _ y hy').arc, e]; simp
    ·
     rw [if_neg e, List.filter_eq_nil_iff]
     intro y hy'
     rw [(pieces_good hx hy _ y hy').arc]; simpa using e
   rw [hc]
   by_cases hca : c = a
   ·
    subst hca
    have hni : ¬ c ∈ l := fun hm => by have := h.1 c.id (List.mem_map_of_mem hm); omega
    rw [if_pos rfl, if_neg hni, if_pos (by simp), List.append_nil]
   ·
    by_cases hal : a ∈ l
    ·
     have hne : c.id ≠ a.id := fun e => by have := h.1 a.id (List.mem_map_of_mem hal); omega
     rw [if_neg hne, if_pos hal, if_pos (by simp [hal]), List.nil_append]
    ·
     by_cases e : c.id = a.id
     · exact absurd (hu c (by simp) e) hca
     · rw [if_neg e, if_neg hal, if_neg (by simp [hal]; exact fun e => hca e.symm), List.nil_append]
 have := key p.arcs hs huq
 rw [if_pos ha] at this
 exact this
end Go.Proofs.YtfondidmklmonaaGreat
namespace Go.Proofs.YtfondidmklmonaaGreat
open Go.RowKit

theorem Row.ptsAll {w : World} {A : Option Addr} {l : List Pt} (h : Row w A (l.flatMap ptC)) (h0 : 0 < l.length) :
  ∃ b o, A = some ⟨b, o, none⟩ ∧ b < w.heap.size ∧ ∀ j (hj : j < l.length), w.cell? ⟨b, o + j * 2, none⟩ = some (.int .i64 l[j].x) ∧ w.cell? ⟨b, o + j * 2 + 1, none⟩ = some (.int .i64 l[j].y) := by
 obtain ⟨b, o, hA, hb, -⟩ := h.pt h0
 refine ⟨b, o, hA, hb, fun j hj => ?_⟩
 obtain ⟨b', o', hA', -, c0, c1⟩ := h.pt hj
 rw [hA] at hA'
 obtain ⟨rfl, rfl⟩ : b = b' ∧ o = o' := by simpa using hA'
 exact ⟨c0, c1⟩
theorem partRes_ok {p : Pl} {s : Se} {n : Int} {x : Prt} (h : partRes p s n = (x, 0)) : Valid p ∧ InS s n ∧ findE s n = 0 ∧ x = partS p n (boxOf s n) := by
 unfold partRes at h
 split at h
 ·
  rename_i h1
  injection h with h2 h3
  exact absurd h3 h1
 ·
  rename_i h1
  split at h
  ·
   rename_i h4
   injection h with h2 h3
   exact absurd h3 h4
  ·
   rename_i h4
   injection h with h2 h3
   have hc : checkS p = 0 := Classical.byContradiction h1
   have hs : findE s n = 0 := Classical.byContradiction h4
   exact ⟨(check_zero p).1 hc, findE_zero.1 hs, hs, h2.symm⟩
end Go.Proofs.YtfondidmklmonaaGreat
