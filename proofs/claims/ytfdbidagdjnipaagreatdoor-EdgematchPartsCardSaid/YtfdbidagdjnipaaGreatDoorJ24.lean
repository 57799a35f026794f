/- PLAIN: a path in the box has one piece, itself; a path beside it has none; an arc without pieces can be left out. PLAIN: the pieces of a path the other way round are the pieces, each the other way round, in the opposite order. PLAIN: a segment that comes into a box, seen from one of its edges: outer, inner, on the edge's line. -/
import Derived.Test.YtfdbidagdjnipaaGreatDoorJ23
import Derived.Test.YtfdbidagdjnipaaGreatDoorJ14
set_option linter.unusedSimpArgs false
set_option linter.unusedVariables false
namespace Go.Proofs.YtfdbidagdjnipaaGreatDoor

theorem cmp_id : ∀ (l acc : List Pt), NoRep (acc ++ l) → l.foldl cmpStep acc = acc ++ l
 | [], acc, _ => by simp
 | p :: l, acc, h => by
  have hs : cmpStep acc p = acc ++ [p] := by
   unfold cmpStep
   rw [if_neg]
   intro e
   rw [List.getLast?_eq_getElem?] at e
   obtain ⟨hl, he⟩ := List.getElem?_eq_some_iff.1 e
   have hk : acc.length - 1 + 1 < (acc ++ p :: l).length := by rw [List.length_append, List.length_cons]; omega
   have := h (acc.length - 1) hk
   apply this
   rw [List.getElem_append_left (by omega), he, List.getElem_append_right (by omega)]
   simp only [show acc.length - 1 + 1 - acc.length = 0 by omega, List.getElem_cons_zero]
  rw [List.foldl_cons, hs, cmp_id l (acc ++ [p]) (by rw [List.append_assoc]; exact h), List.append_assoc]; rfl
theorem cmpP_id {l : List Pt} (h : NoRep l) : cmpP l = l := cmp_id l [] h
theorem clip_both {p q : Pt} {b : Bx} (hp : inB b p = true) (hq : inB b q = true) : clipS p q b = some (p, q) := by
 cases h : clipS p q b with
 | none =>
  have hn := clip_is p q b
  rw [h] at hn
  exact absurd (in_box_Q hp) (hn 0 1 ⟨by decide, by decide, by decide⟩)
 | some r =>
  obtain ⟨c, d⟩ := r
  rw [clip_first h hp, clip_last h hq]
theorem through_in {p q : Pt} {b : Bx} (hp : inB b p = true) : throughS p q b = 0 := by unfold throughS; rw [if_pos hp]
/-- beside the box -/
def beside (c b : Bx) : Prop := c.x1 < b.x0 ∨ b.x1 < c.x0 ∨ c.y1 < b.y0 ∨ b.y1 < c.y0
end Go.Proofs.YtfdbidagdjnipaaGreatDoor
namespace Go.Proofs.YtfdbidagdjnipaaGreatDoor

/- ## without repetitions, from both ends -/
theorem cmpP_last_of {l : List Pt} {q : Pt} (h : l.getLast? = some q) : (cmpP l).getLast? = some q := by
 rcases List.eq_nil_or_concat l with e | ⟨m, x, e⟩
 · rw [e] at h; cases h
 ·
  rw [List.concat_eq_append] at e
  rw [e] at h ⊢
  rw [List.getLast?_append] at h
  simp at h
  rw [← h]
  exact cmpP_last m x
theorem cmpP_cons (p : Pt) : ∀ m : List Pt, cmpP (p :: m.reverse) = if m.reverse.head? = some p then cmpP m.reverse else p :: cmpP m.reverse
 | [] => rfl
 | q :: m => by
  have ih := cmpP_cons p m
  rw [List.reverse_cons, ← List.cons_append, cmpP_snoc, cmpP_snoc]
  cases hm : m.reverse with
  | nil =>
   rw [show cmpP [p] = [p] from rfl, show cmpP [] = [] from rfl]
   simp only [List.nil_append, List.head?_cons, List.getLast?_singleton, List.getLast?_nil, Option.some.injEq]
   by_cases e : p = q
   · subst e; simp
   · rw [if_neg e, if_neg (fun h => e h.symm)]; simp
  | cons a r =>
   rw [hm] at ih
   have hl : (p :: a :: r).getLast? = (a :: r).getLast? := by rw [List.getLast?_cons_cons]
   obtain ⟨t, ht⟩ : ∃ t, (a :: r).getLast? = some t := by
    cases h : (a :: r).getLast? with
    | none => simp at h
    | some t => exact ⟨t, rfl⟩
   rw [cmpP_last_of (hl.trans ht), cmpP_last_of ht, ih]
   simp only [List.cons_append, List.head?_cons, Option.some.injEq]
   by_cases e1 : a = p
   · rw [if_pos e1, if_pos e1]
   ·
    rw [if_neg e1, if_neg e1]
    by_cases e2 : t = q
    · rw [if_pos e2, if_pos e2]
    · rw [if_neg e2, if_neg e2]; rfl
theorem cmpP_cons' (p : Pt) (l : List Pt) : cmpP (p :: l) = if l.head? = some p then cmpP l else p :: cmpP l := by
 have := cmpP_cons p l.reverse
 rwa [List.reverse_reverse] at this
theorem cmpP_rev : ∀ l : List Pt, cmpP l.reverse = (cmpP l).reverse
 | [] => rfl
 | p :: l => by
  have ih := cmpP_rev l
  rw [List.reverse_cons, cmpP_snoc, cmpP_cons', ih]
  cases l with
  | nil => rfl
  | cons a r =>
   have hl : (cmpP (a :: r)).reverse.getLast? = some a := by
    obtain ⟨r', hr⟩ := cmpP_head a r
    rw [hr]; simp
   rw [hl]
   simp only [List.head?_cons, Option.some.injEq]
   by_cases e : a = p
   · rw [if_pos e, if_pos e]
   · rw [if_neg e, if_neg e, List.reverse_cons]

/- ## the walk along a path, from a state on -/
def runP (arc : Int) (b : Bx) : PSt → Pt → List Pt → PSt
 | s, _, [] => s
 | s, p, q :: r => runP arc b (stepS arc b s p q) q r
theorem runP_app (arc : Int) (b : Bx) : ∀ (r : List Pt) (s : PSt) (p v : Pt) (t : List Pt), runP arc b s p (r ++ v :: t) = runP arc b (runP arc b s p (r ++ [v])) v t
 | [], s, p, v, t => rfl
 | q :: r, s, p, v, t => runP_app arc b r _ q v t
theorem runP_snoc (arc : Int) (b : Bx) : ∀ (r : List Pt) (s : PSt) (p v : Pt), runP arc b s p (r ++ [v]) = stepS arc b (runP arc b s p r) ((p :: r).getD r.length ptz) v
 | [], s, p, v => rfl
 | q :: r, s, p, v => runP_snoc arc b r _ q v
theorem st_run (arc : Int) (b : Bx) (p : Pt) (r : List Pt) : ∀ i, i ≤ r.length → stAt arc b (p :: r) i = runP arc b ⟨false, pc0, []⟩ p (r.take i)
 | 0, _ => rfl
 | i + 1, hi => by
  have ih := st_run arc b p r i (by omega)
  show stepS arc b (stAt arc b (p :: r) i) ((p :: r).getD i ptz) ((p :: r).getD (i + 1) ptz) = _
  rw [ih, List.take_succ_eq_append_getElem (by omega), runP_snoc]
  congr 1
  ·
   rw [List.length_take, show min i r.length = i by omega, List.getD_eq_getElem?_getD, List.getD_eq_getElem?_getD]
   congr 1
   cases i with
   | zero => rfl
   | succ j => rw [List.getElem?_cons_succ, List.getElem?_cons_succ, List.getElem?_take, if_pos (by omega)]
  · rw [List.getD_eq_getElem?_getD, List.getElem?_cons_succ, List.getElem?_eq_getElem (by omega)]; rfl
theorem pieces_run (arc : Int) (b : Bx) (p : Pt) (r : List Pt) : piecesS arc (p :: r) b = (endS (runP arc b ⟨false, pc0, []⟩ p r)).l := by
 unfold piecesS
 rw [List.length_cons, Nat.add_sub_cancel, st_run arc b p r r.length (Nat.le_refl _), List.take_length]
/-- two states that go on alike -/
structure RelS (L : List Pc) (s t : PSt) : Prop where
 op : s.open_ = t.open_
 x : s.open_ = true → s.x = t.x
 l : s.l = L ++ t.l
theorem rel_end {L : List Pc} {s t : PSt} (h : RelS L s t) : RelS L (endS s) (endS t) := by
 unfold endS
 rw [← h.op]
 by_cases e : s.open_ = false
 · rw [if_pos e, if_pos e]; exact h
 ·
  rw [if_neg e, if_neg e]
  have hx := h.x (by simpa using e)
  rw [hx]
  refine ⟨rfl, fun e => by simp at e, ?_⟩
  simp only
  split
  · rw [h.l, List.append_assoc]
  · exact h.l
theorem rel_step {arc : Int} {b : Bx} {L : List Pc} {s t : PSt} (h : RelS L s t) (p q : Pt) : RelS L (stepS arc b s p q) (stepS arc b t p q) := by
 unfold stepS
 cases clipS p q b with
 | none => exact rel_end h
 | some r =>
  obtain ⟨c, d⟩ := r
  have hc : RelS L (clAdd arc b s p q c d) (clAdd arc b t p q c d) := by
   unfold clAdd
   rw [← h.op]
   cases ho : s.open_
   · exact ⟨rfl, fun _ => rfl, h.l⟩
   ·
    rw [h.x ho]
    exact ⟨rfl, fun _ => rfl, h.l⟩
  by_cases hin : inB b q = true
  · simp only [hin, if_true]; exact hc
  · simp only [hin, if_false, Bool.false_eq_true]; exact rel_end hc
theorem rel_run {arc : Int} {b : Bx} {L : List Pc} : ∀ (r : List Pt) {s t : PSt} (p : Pt), RelS L s t → RelS L (runP arc b s p r) (runP arc b t p r)
 | [], _, _, _, h => h
 | q :: r, _, _, p, h => rel_run r q (rel_step h p q)
theorem end_closed (s : PSt) : (endS s).open_ = false := by
 unfold endS
 by_cases e : s.open_ = false
 · rw [if_pos e]; exact e
 · rw [if_neg e]
theorem step_out {arc : Int} {b : Bx} {s : PSt} {p q : Pt} (h : inB b q = false) : (stepS arc b s p q).open_ = false := by
 unfold stepS
 cases clipS p q b with
 | none => exact end_closed s
 | some r =>
  obtain ⟨c, d⟩ := r
  simp only [h, Bool.false_eq_true, if_false]
  exact end_closed _
/-- a path is cut at a point outside of the box -/
theorem pieces_split (arc : Int) (b : Bx) (p : Pt) (r : List Pt) (v : Pt) (t : List Pt) (hv : inB b v = false) : piecesS arc (p :: (r ++ v :: t)) b = piecesS arc (p :: (r ++ [v])) b ++ piecesS arc (v :: t) b := by
 rw [pieces_run, pieces_run, pieces_run, runP_app]
 have ho : (runP arc b ⟨false, pc0, []⟩ p (r ++ [v])).open_ = false := by
  rw [runP_snoc]; exact step_out hv
 generalize runP arc b ⟨false, pc0, []⟩ p (r ++ [v]) = s at *
 have he : endS s = s := by unfold endS; rw [if_pos ho]
 rw [he]
 have hr : RelS s.l s ⟨false, pc0, []⟩ := ⟨ho, (fun e => by rw [ho] at e; cases e), (by simp)⟩
 exact (rel_end (rel_run t v hr)).l
/-- each piece the other way round, in the opposite order -/
def turnPc (y : Pc) : Pc := ⟨y.arc, y.path.reverse, y.leave, y.enter⟩
/-- one run: a piece, if it has two points -/
def oneS (arc : Int) (P : List Pt) (en lv : Int) : List Pc := if 1 < (cmpP P).length then [⟨arc, cmpP P, en, lv⟩] else []
theorem end_one {arc : Int} {P : List Pt} {en lv : Int} : (endS ⟨true, ⟨arc, P, en, lv⟩, []⟩).l = oneS arc P en lv := by
 unfold endS oneS
 simp
theorem end_end (s : PSt) : endS (endS s) = endS s := by
 have := end_closed s
 generalize endS s = t at *
 unfold endS
 rw [if_pos this]
/-- points in the box, from an open state on -/
theorem run_open {arc : Int} {b : Bx} : ∀ (mid : List Pt) (q : Pt) (P : List Pt) (en lv : Int) (L : List Pc), inB b q = true → (∀ x ∈ mid, inB b x = true) → lv = 0 →
  runP arc b ⟨true, ⟨arc, P, en, lv⟩, L⟩ q mid = ⟨true, ⟨arc, P ++ mid, en, 0⟩, L⟩
 | [], q, P, en, lv, L, _, _, h0 => by subst h0; simp [runP]
 | x :: mid, q, P, en, lv, L, hq, hm, h0 => by
  have hx := hm x (by simp)
  show runP arc b (stepS arc b ⟨true, ⟨arc, P, en, lv⟩, L⟩ q x) x mid = _
  have hs : stepS arc b ⟨true, ⟨arc, P, en, lv⟩, L⟩ q x = ⟨true, ⟨arc, P ++ [x], en, 0⟩, L⟩ := by
   unfold stepS
   rw [clip_both hq hx]
   simp only [hx, if_true]
   unfold clAdd
   simp only [if_true, through_in hx]
  rw [hs, run_open mid x (P ++ [x]) en 0 L hx (fun y hy => hm y (by simp [hy])) rfl]
  simp
/-- a step into the box, from a closed state -/
theorem clip_into {p q : Pt} {b : Bx} (hq : inB b q = true) : ∃ c, clipS p q b = some (c, q) := by
 cases h : clipS p q b with
 | none =>
  have hn := clip_is p q b
  rw [h] at hn
  exact absurd (in_box_Q1 hq) (hn 1 1 ⟨by decide, by decide, by decide⟩)
 | some r =>
  obtain ⟨c, d⟩ := r
  have := clip_last h hq
  subst this
  exact ⟨c, rfl⟩
/-- a path with its inner points in the box, two segments at least -/
theorem pieces_mid {arc : Int} {b : Bx} {p q k e c d : Pt} {mid : List Pt} (hm : ∀ x ∈ mid, inB b x = true) (hq : mid.head? = some q) (hk : mid.getLast? = some k) (hc : clipS p q b = some (c, q)) (hd : clipS k e b = some (k, d)) :
  piecesS arc (p :: (mid ++ [e])) b = oneS arc (c :: (mid ++ [d])) (throughS p q b) (throughS e k b) := by
 cases mid with
 | nil => cases hq
 | cons q' mid' =>
  have hq' : q' = q := by simpa using hq
  subst hq'
  have hqi := hm q' (by simp)
  have hki : inB b k = true := hm k (List.mem_of_getLast? hk)
  rw [pieces_run, runP_snoc]
  have h1 : runP arc b ⟨false, pc0, []⟩ p (q' :: mid') = ⟨true, ⟨arc, c :: q' :: mid', throughS p q' b, 0⟩, []⟩ := by
   show runP arc b (stepS arc b ⟨false, pc0, []⟩ p q') q' mid' = _
   have hs : stepS arc b ⟨false, pc0, []⟩ p q' = ⟨true, ⟨arc, [c, q'], throughS p q' b, 0⟩, []⟩ := by
    unfold stepS
    rw [hc]
    simp only [hqi, if_true]
    unfold clAdd
    simp only [Bool.false_eq_true, if_false, through_in hqi]
    rfl
   rw [hs, run_open mid' q' _ _ 0 _ hqi (fun y hy => hm y (by simp [hy])) rfl]
   rfl
  rw [h1]
  have hl : (p :: q' :: mid').getD (q' :: mid').length ptz = k := by
   rw [List.getLast?_eq_getElem?] at hk
   rw [List.getD_eq_getElem?_getD, List.length_cons, List.getElem?_cons_succ]
   rw [List.length_cons, Nat.add_sub_cancel] at hk
   rw [hk]; rfl
  rw [hl]
  unfold stepS
  rw [hd]
  have hcl : clAdd arc b ⟨true, ⟨arc, c :: q' :: mid', throughS p q' b, 0⟩, []⟩ k e k d = ⟨true, ⟨arc, c :: (q' :: mid' ++ [d]), throughS p q' b, throughS e k b⟩, []⟩ := by
   unfold clAdd
   simp only [if_true]
   rfl
  simp only [hcl]
  split
  · exact end_one
  · rw [end_end]; exact end_one
theorem pieces_two {arc : Int} {b : Bx} {p e : Pt} : piecesS arc [p, e] b = match clipS p e b with
  | none => []
  | some (c, d) => oneS arc [c, d] (throughS p e b) (throughS e p b) := by
 rw [pieces_run]
 show (endS (stepS arc b ⟨false, pc0, []⟩ p e)).l = _
 unfold stepS
 cases clipS p e b with
 | none =>
  rw [end_end]; rfl
 | some r =>
  obtain ⟨c, d⟩ := r
  have hcl : clAdd arc b ⟨false, pc0, []⟩ p e c d = ⟨true, ⟨arc, [c, d], throughS p e b, throughS e p b⟩, []⟩ := by
   unfold clAdd
   simp only [Bool.false_eq_true, if_false]
   rfl
  simp only [hcl]
  split
  · exact end_one
  · rw [end_end]; exact end_one
end Go.Proofs.YtfdbidagdjnipaaGreatDoor
namespace Go.Proofs.YtfdbidagdjnipaaGreatDoor

/-- beyond the edge -/
def outE (g : Ed) (p : Pt) : Bool := !onE g p && !innerS g p
/-- strictly between the edge's ends -/
def rngE (g : Ed) (p : Pt) : Prop := g.lo < alongS g p ∧ alongS g p < g.hi
/-- an edge of a box: its number and what it is -/
theorem ed_cases {b : Bx} {side : Int} {g : Ed} (h : edOf b side = some g) : g.side = side ∧
  ((side = 1 ∧ g = ⟨1, true, b.x0, b.y0, b.y1⟩) ∨ (side = 2 ∧ g = ⟨2, false, b.y0, b.x0, b.x1⟩) ∨ (side = 3 ∧ g = ⟨3, true, b.x1, b.y0, b.y1⟩) ∨ (side = 4 ∧ g = ⟨4, false, b.y1, b.x0, b.x1⟩)) := by
 unfold edOf at h
 split at h
 · injection h with h; rename_i hs; subst h hs; exact ⟨rfl, .inl ⟨rfl, rfl⟩⟩
 ·
  split at h
  · injection h with h; rename_i hs; subst h hs; exact ⟨rfl, .inr (.inl ⟨rfl, rfl⟩)⟩
  ·
   split at h
   · injection h with h; rename_i hs; subst h hs; exact ⟨rfl, .inr (.inr (.inl ⟨rfl, rfl⟩))⟩
   ·
    split at h
    · injection h with h; rename_i hs; subst h hs; exact ⟨rfl, .inr (.inr (.inr ⟨rfl, rfl⟩))⟩
    · cases h
theorem out_iff {b : Bx} {side : Int} {g : Ed} (h : edOf b side = some g) (p : Pt) : outE g p = true ↔ (side = 1 ∧ p.x < b.x0) ∨ (side = 2 ∧ p.y < b.y0) ∨ (side = 3 ∧ b.x1 < p.x) ∨ (side = 4 ∧ b.y1 < p.y) := by
 obtain ⟨-, ⟨rfl, rfl⟩ | ⟨rfl, rfl⟩ | ⟨rfl, rfl⟩ | ⟨rfl, rfl⟩⟩ := ed_cases h <;> simp [outE, onE, innerS, acrossS, posS] <;> omega
theorem on_iffE {b : Bx} {side : Int} {g : Ed} (h : edOf b side = some g) (p : Pt) : onE g p = true ↔ (side = 1 ∧ p.x = b.x0) ∨ (side = 2 ∧ p.y = b.y0) ∨ (side = 3 ∧ p.x = b.x1) ∨ (side = 4 ∧ p.y = b.y1) := by
 obtain ⟨-, ⟨rfl, rfl⟩ | ⟨rfl, rfl⟩ | ⟨rfl, rfl⟩ | ⟨rfl, rfl⟩⟩ := ed_cases h <;> simp [onE, acrossS]
theorem in_iffE {b : Bx} {side : Int} {g : Ed} (h : edOf b side = some g) (p : Pt) : innerS g p = true ↔ (side = 1 ∧ b.x0 < p.x) ∨ (side = 2 ∧ b.y0 < p.y) ∨ (side = 3 ∧ p.x < b.x1) ∨ (side = 4 ∧ p.y < b.y1) := by
 obtain ⟨-, ⟨rfl, rfl⟩ | ⟨rfl, rfl⟩ | ⟨rfl, rfl⟩ | ⟨rfl, rfl⟩⟩ := ed_cases h <;> simp [innerS, acrossS, posS]
theorem rng_iffE {b : Bx} {side : Int} {g : Ed} (h : edOf b side = some g) (p : Pt) : rngE g p ↔ (((side = 1 ∨ side = 3) ∧ b.y0 < p.y ∧ p.y < b.y1) ∨ ((side = 2 ∨ side = 4) ∧ b.x0 < p.x ∧ p.x < b.x1)) := by
 obtain ⟨-, ⟨rfl, rfl⟩ | ⟨rfl, rfl⟩ | ⟨rfl, rfl⟩ | ⟨rfl, rfl⟩⟩ := ed_cases h <;> simp [rngE, alongS]
theorem inB_iff {b : Bx} {p : Pt} : inB b p = true ↔ b.x0 ≤ p.x ∧ p.x ≤ b.x1 ∧ b.y0 ≤ p.y ∧ p.y ≤ b.y1 := by unfold inB; rw [decide_eq_true_iff]
theorem inB_no {b : Bx} {p : Pt} : inB b p = false ↔ ¬ (b.x0 ≤ p.x ∧ p.x ≤ b.x1 ∧ b.y0 ≤ p.y ∧ p.y ≤ b.y1) := by unfold inB; rw [decide_eq_false_iff_not]
/-- of a point in the box: not beyond the edge -/
theorem in_notout {b : Bx} {side : Int} {g : Ed} (h : edOf b side = some g) {p : Pt} (hp : inB b p = true) : outE g p = false := by
 rw [inB_iff] at hp
 cases ho : outE g p
 · rfl
 · rw [out_iff h] at ho; omega

theorem clip_some {p q : Pt} {b : Bx} {c d : Pt} (h : clipS p q b = some (c, d)) : ∃ n1 d1 n2 d2, ClipSome p q b c d n1 d1 n2 d2 := by
 have hci := clip_is p q b
 rw [h] at hci
 exact hci
/-- the number's side is one that the point lies beyond -/
theorem cl_side_x {p q : Pt} {b : Bx} : ((clSideX p q b).1 = 1 ∧ p.x < b.x0) ∨ ((clSideX p q b).1 = 3 ∧ b.x1 < p.x) ∨ (clSideX p q b).1 = 0 := by
 unfold clSideX
 split
 · left; exact ⟨rfl, by assumption⟩
 ·
  split
  · right; left; exact ⟨rfl, by assumption⟩
  · right; right; rfl
theorem cl_side_y {p q : Pt} {b : Bx} : ((clSideY p q b).1 = 2 ∧ p.y < b.y0) ∨ ((clSideY p q b).1 = 4 ∧ b.y1 < p.y) ∨ (clSideY p q b).1 = 0 := by
 unfold clSideY
 split
 · left; exact ⟨rfl, by assumption⟩
 ·
  split
  · right; left; exact ⟨rfl, by assumption⟩
  · right; right; rfl
/-- G1 -/
theorem thr_out {p q : Pt} {b : Bx} (hx : b.x0 < b.x1) (hy : b.y0 < b.y1) {side : Int} {g : Ed} (hg : edOf b side = some g) {c d : Pt} (hc : clipS p q b = some (c, d)) (h : throughS p q b = side) : outE g p = true := by
 rw [out_iff hg]
 have hs : side = 1 ∨ side = 2 ∨ side = 3 ∨ side = 4 := by obtain ⟨-, h⟩ := ed_cases hg; omega
 cases hin : inB b p
 case true => unfold throughS at h; rw [if_pos hin] at h; omega
 obtain ⟨n1, d1, n2, d2, k⟩ := clip_some hc
 rw [through_eq hx hy hin k.lo k.inLo] at h
 have h1 := cl_side_x (p := p) (q := q) (b := b)
 have h2 := cl_side_y (p := p) (q := q) (b := b)
 unfold clSide at h
 simp only at h
 split at h
 · split at h <;> omega
 · split at h <;> omega
/-- in the parameters, what lies beyond a line comes nearer -/
theorem par_lin {s t v n d : Int} (hp : Par n d) (h1 : s < v) (h2 : t = v) (hb : v * d ≤ s * d + (t - s) * n) : n = d := by
 subst h2
 have h : (t - s) * d ≤ (t - s) * n := by rw [Int.sub_mul t s d]; omega
 have := Int.le_of_mul_le_mul_left h (by omega)
 have := hp.2.2
 omega
theorem par_lin' {s t v n d : Int} (hp : Par n d) (h1 : v < s) (h2 : t = v) (hb : s * d + (t - s) * n ≤ v * d) : n = d := by
 refine par_lin (s := -s) (t := -t) (v := -v) hp (by omega) (by omega) ?_
 have e : (-t - -s) * n = -((t - s) * n) := by rw [← Int.neg_mul]; congr 1; omega
 rw [e, Int.neg_mul, Int.neg_mul]
 omega
/-- G4: from beyond to the line: only the end is in the box -/
theorem clip_touch {p q : Pt} {b : Bx} {side : Int} {g : Ed} (hg : edOf b side = some g) (hp : outE g p = true) (hq : onE g q = true) {c d : Pt} (hc : clipS p q b = some (c, d)) : c = d := by
 obtain ⟨n1, d1, n2, d2, k⟩ := clip_some hc
 rw [out_iff hg] at hp
 rw [on_iffE hg] at hq
 have key : ∀ n e, Par n e → InQ p q b n e → n = e := by
  intro n e hp' hi
  obtain ⟨⟨hi1, hi2⟩, hi3, hi4⟩ := hi
  rcases hp with ⟨rfl, h⟩ | ⟨rfl, h⟩ | ⟨rfl, h⟩ | ⟨rfl, h⟩
  · exact par_lin hp' h (by omega) hi1
  · exact par_lin hp' h (by omega) hi3
  · exact par_lin' hp' h (by omega) hi2
  · exact par_lin' hp' h (by omega) hi4
 have h1 := key _ _ k.lo k.inLo
 have h2 := key _ _ k.hi k.inHi
 rw [k.pc, k.pe, h1, h2]
 exact ptQ_val k.lo.1 k.hi.1 (by rw [Int.mul_comm])
theorem par_neg {s t v n d : Int} (hp : Par n d) (h1 : s < v) (h2 : t < v) (hb : v * d ≤ s * d + (t - s) * n) : False := by
 have hd := hp.1
 have e : s * d + (t - s) * n = s * (d - n) + t * n := by rw [Int.sub_mul, Int.mul_sub]; omega
 have e2 : v * d = v * (d - n) + v * n := by rw [Int.mul_sub]; omega
 have a1 : s * (d - n) ≤ v * (d - n) := Int.mul_le_mul_of_nonneg_right (by omega) (by have := hp.2.2; omega)
 have a2 : t * n ≤ v * n := Int.mul_le_mul_of_nonneg_right (by omega) hp.2.1
 rcases Int.lt_or_le 0 n with h0 | h0
 ·
  have : t * n < v * n := Int.mul_lt_mul_of_pos_right h2 h0
  omega
 ·
  have h0 : n = 0 := by have := hp.2.1; omega
  subst h0
  have : s * (d - 0) < v * (d - 0) := Int.mul_lt_mul_of_pos_right h1 (by omega)
  omega
/-- both beyond the line: nothing in the box -/
theorem clip_beyond {p q : Pt} {b : Bx} {side : Int} {g : Ed} (hg : edOf b side = some g) (hp : outE g p = true) (hq : outE g q = true) : clipS p q b = none := by
 cases hc : clipS p q b with
 | none => rfl
 | some r =>
  obtain ⟨c, d⟩ := r
  obtain ⟨n1, d1, n2, d2, k⟩ := clip_some hc
  obtain ⟨⟨hi1, hi2⟩, hi3, hi4⟩ := k.inLo
  rw [out_iff hg] at hp hq
  exfalso
  have neg : ∀ {s t v n d : Int}, Par n d → v < s → v < t → s * d + (t - s) * n ≤ v * d → False := by
   intro s t v n d hp' h1 h2 hb
   refine par_neg (s := -s) (t := -t) (v := -v) hp' (by omega) (by omega) ?_
   have e : (-t - -s) * n = -((t - s) * n) := by rw [← Int.neg_mul]; congr 1; omega
   rw [e, Int.neg_mul, Int.neg_mul]
   omega
  rcases hp with ⟨rfl, h⟩ | ⟨rfl, h⟩ | ⟨rfl, h⟩ | ⟨rfl, h⟩
  · exact par_neg k.lo h (by omega) hi1
  · exact par_neg k.lo h (by omega) hi3
  · exact neg k.lo h (by omega) hi2
  · exact neg k.lo h (by omega) hi4
end Go.Proofs.YtfdbidagdjnipaaGreatDoor
