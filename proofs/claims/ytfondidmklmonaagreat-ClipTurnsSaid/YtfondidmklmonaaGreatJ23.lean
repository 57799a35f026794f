/- PLAIN: the pieces of a path the other way round are the pieces, each the other way round, in the opposite order. mapsheetslaw41.turned: the pieces in the opposite order, each reversed. PLAIN: the parts of a plan with an arc turned; how long a piece's path is. -/
import Derived.Test.YtfondidmklmonaaGreatJ22
import Derived.Deep.CutBlock
import Derived.Test.YtfondidmklmonaaGreatJ21
import Derived.Test.YtfondidmklmonaaGreatLawFinds
set_option linter.unusedSimpArgs false
set_option linter.unusedVariables false
namespace Go.Proofs.YtfondidmklmonaaGreat

/- ## without repetitions, from both ends -/
theorem cmpP_last_of {l : List Pt} {q : Pt} (h : l.getLast? = some q) : (cmpP l).getLast? = some q := by
 rcases List.eq_nil_or_concat l with e | ⟨m, x, e⟩
 · rw [e] at h; cases h
 ·
  rw [List.concat_eq_append] at e
  rw [e] at h ⊢
  rw [List.getLast?_append] at h
  simp at h
  rw [← h]
  exact cmpP_last m x
theorem cmpP_cons (p : Pt) : ∀ m : List Pt, cmpP (p :: m.reverse) = if m.reverse.head? = some p then cmpP m.reverse else p :: cmpP m.reverse
 | [] => rfl
 | q :: m => by
  have ih := cmpP_cons p m
  rw [List.reverse_cons, ← List.cons_append, cmpP_snoc, cmpP_snoc]
  cases hm : m.reverse with
  | nil =>
   rw [show cmpP [p] = [p] from rfl, show cmpP [] = [] from rfl]
   simp only [List.nil_append, List.head?_cons, List.getLast?_singleton, List.getLast?_nil, Option.some.injEq]
   by_cases e : p = q
   · subst e; simp
   · rw [if_neg e, if_neg (fun h => e h.symm)]; simp
  | cons a r =>
   rw [hm] at ih
   have hl : (p :: a :: r).getLast? = (a :: r).getLast? := by rw [List.getLast?_cons_cons]
   obtain ⟨t, ht⟩ : ∃ t, (a :: r).getLast? = some t := by
    cases h : (a :: r).getLast? with
    | none => simp at h
    | some t => exact ⟨t, rfl⟩
   rw [cmpP_last_of (hl.trans ht), cmpP_last_of ht, ih]
   simp only [List.cons_append, List.head?_cons, Option.some.injEq]
   by_cases e1 : a = p
   · rw [if_pos e1, if_pos e1]
   ·
    rw [if_neg e1, if_neg e1]
    by_cases e2 : t = q
    · rw [if_pos e2, if_pos e2]
    · rw [if_neg e2, if_neg e2]; rfl
theorem cmpP_cons' (p : Pt) (l : List Pt) : cmpP (p :: l) = if l.head? = some p then cmpP l else p :: cmpP l := by
 have := cmpP_cons p l.reverse
 rwa [List.reverse_reverse] at this
theorem cmpP_rev : ∀ l : List Pt, cmpP l.reverse = (cmpP l).reverse
 | [] => rfl
 | p :: l => by
  have ih := cmpP_rev l
  rw [List.reverse_cons, cmpP_snoc, cmpP_cons', ih]
  cases l with
  | nil => rfl
  | cons a r =>
   have hl : (cmpP (a :: r)).reverse.getLast? = some a := by
    obtain ⟨r', hr⟩ := cmpP_head a r
    rw [hr]; simp
   rw [hl]
   simp only [List.head?_cons, Option.some.injEq]
   by_cases e : a = p
   · rw [if_pos e, if_pos e]
   · rw [if_neg e, if_neg e, List.reverse_cons]

/- ## the walk along a path, from a state on -/
def runP (arc : Int) (b : Bx) : PSt → Pt → List Pt → PSt
 | s, _, [] => s
 | s, p, q :: r => runP arc b (stepS arc b s p q) q r
theorem runP_app (arc : Int) (b : Bx) : ∀ (r : List Pt) (s : PSt) (p v : Pt) (t : List Pt), runP arc b s p (r ++ v :: t) = runP arc b (runP arc b s p (r ++ [v])) v t
 | [], s, p, v, t => rfl
 | q :: r, s, p, v, t => runP_app arc b r _ q v t
theorem runP_snoc (arc : Int) (b : Bx) : ∀ (r : List Pt) (s : PSt) (p v : Pt), runP arc b s p (r ++ [v]) = stepS arc b (runP arc b s p r) ((p :: r).getD r.length ptz) v
 | [], s, p, v => rfl
 | q :: r, s, p, v => runP_snoc arc b r _ q v
theorem st_run (arc : Int) (b : Bx) (p : Pt) (r : List Pt) : ∀ i, i ≤ r.length → stAt arc b (p :: r) i = runP arc b ⟨false, pc0, []⟩ p (r.take i)
 | 0, _ => rfl
 | i + 1, hi => by
  have ih := st_run arc b p r i (by omega)
  show stepS arc b (stAt arc b (p :: r) i) ((p :: r).getD i ptz) ((p :: r).getD (i + 1) ptz) = _
  rw [ih, List.take_succ_eq_append_getElem (by omega), runP_snoc]
  congr 1
  ·
   rw [List.length_take, show min i r.length = i by omega, List.getD_eq_getElem?_getD, List.getD_eq_getElem?_getD]
   congr 1
   cases i with
   | zero => rfl
   | succ j => rw [List.getElem?_cons_succ, List.getElem?_cons_succ, List.getElem?_take, if_pos (by omega)]
  · rw [List.getD_eq_getElem?_getD, List.getElem?_cons_succ, List.getElem?_eq_getElem (by omega)]; rfl
theorem pieces_run (arc : Int) (b : Bx) (p : Pt) (r : List Pt) : piecesS arc (p :: r) b = (endS (runP arc b ⟨false, pc0, []⟩ p r)).l := by
 unfold piecesS
 rw [List.length_cons, Nat.add_sub_cancel, st_run arc b p r r.length (Nat.le_refl _), List.take_length]
/-- two states that go on alike -/
structure RelS (L : List Pc) (s t : PSt) : Prop where
 op : s.open_ = t.open_
 x : s.open_ = true → s.x = t.x
 l : s.l = L ++ t.l
theorem rel_end {L : List Pc} {s t : PSt} (h : RelS L s t) : RelS L (endS s) (endS t) := by
 unfold endS
 rw [← h.op]
 by_cases e : s.open_ = false
 · rw [if_pos e, if_pos e]; exact h
 ·
  rw [if_neg e, if_neg e]
  have hx := h.x (by simpa using e)
  rw [hx]
  refine ⟨rfl, fun e => by simp at e, ?_⟩
  simp only
  split
  · rw [h.l, List.append_assoc]
  · exact h.l
theorem rel_step {arc : Int} {b : Bx} {L : List Pc} {s t : PSt} (h : RelS L s t) (p q : Pt) : RelS L (stepS arc b s p q) (stepS arc b t p q) := by
 unfold stepS
 cases clipS p q b with
 | none => exact rel_end h
 | some r =>
  obtain ⟨c, d⟩ := r
  have hc : RelS L (clAdd arc b s p q c d) (clAdd arc b t p q c d) := by
   unfold clAdd
   rw [← h.op]
   cases ho : s.open_
   · exact ⟨rfl, fun _ => rfl, h.l⟩
   ·
    rw [h.x ho]
    exact ⟨rfl, fun _ => rfl, h.l⟩
  by_cases hin : inB b q = true
  · simp only [hin, if_true]; exact hc
  · simp only [hin, if_false, Bool.false_eq_true]; exact rel_end hc
theorem rel_run {arc : Int} {b : Bx} {L : List Pc} : ∀ (r : List Pt) {s t : PSt} (p : Pt), RelS L s t → RelS L (runP arc b s p r) (runP arc b t p r)
 | [], _, _, _, h => h
 | q :: r, _, _, p, h => rel_run r q (rel_step h p q)
theorem end_closed (s : PSt) : (endS s).open_ = false := by
 unfold endS
 by_cases e : s.open_ = false
 · rw [if_pos e]; exact e
 · rw [if_neg e]
theorem step_out {arc : Int} {b : Bx} {s : PSt} {p q : Pt} (h : inB b q = false) : (stepS arc b s p q).open_ = false := by
 unfold stepS
 cases clipS p q b with
 | none => exact end_closed s
 | some r =>
  obtain ⟨c, d⟩ := r
  simp only [h, Bool.false_eq_true, if_false]
  exact end_closed _
/-- a path is cut at a point outside of the box -/
theorem pieces_split (arc : Int) (b : Bx) (p : Pt) (r : List Pt) (v : Pt) (t : List Pt) (hv : inB b v = false) : piecesS arc (p :: (r ++ v :: t)) b = piecesS arc (p :: (r ++ [v])) b ++ piecesS arc (v :: t) b := by
 rw [pieces_run, pieces_run, pieces_run, runP_app]
 have ho : (runP arc b ⟨false, pc0, []⟩ p (r ++ [v])).open_ = false := by
  rw [runP_snoc]; exact step_out hv
 generalize runP arc b ⟨false, pc0, []⟩ p (r ++ [v]) = s at *
 have he : endS s = s := by unfold endS; rw [if_pos ho]
 rw [he]
 have hr : RelS s.l s ⟨false, pc0, []⟩ := ⟨ho, (fun e => by rw [ho] at e; cases e), (by simp)⟩
 exact (rel_end (rel_run t v hr)).l
/-- each piece the other way round, in the opposite order -/
def turnPc (y : Pc) : Pc := ⟨y.arc, y.path.reverse, y.leave, y.enter⟩
def turnedS (l : List Pc) : List Pc := l.reverse.map turnPc
theorem turned_app (l m : List Pc) : turnedS (l ++ m) = turnedS m ++ turnedS l := by unfold turnedS; rw [List.reverse_append, List.map_append]
/-- one run: a piece, if it has two points -/
def oneS (arc : Int) (P : List Pt) (en lv : Int) : List Pc := if 1 < (cmpP P).length then [⟨arc, cmpP P, en, lv⟩] else []
theorem one_rev (arc : Int) (P : List Pt) (en lv : Int) : oneS arc P.reverse lv en = turnedS (oneS arc P en lv) := by
 unfold oneS
 rw [cmpP_rev, List.length_reverse]
 split
 · rfl
 · rfl
theorem end_one {arc : Int} {P : List Pt} {en lv : Int} : (endS ⟨true, ⟨arc, P, en, lv⟩, []⟩).l = oneS arc P en lv := by
 unfold endS oneS
 simp
theorem end_end (s : PSt) : endS (endS s) = endS s := by
 have := end_closed s
 generalize endS s = t at *
 unfold endS
 rw [if_pos this]
/-- points in the box, from an open state on -/
theorem run_open {arc : Int} {b : Bx} : ∀ (mid : List Pt) (q : Pt) (P : List Pt) (en lv : Int) (L : List Pc), inB b q = true → (∀ x ∈ mid, inB b x = true) → lv = 0 →
  runP arc b ⟨true, ⟨arc, P, en, lv⟩, L⟩ q mid = ⟨true, ⟨arc, P ++ mid, en, 0⟩, L⟩
 | [], q, P, en, lv, L, _, _, h0 => by subst h0; simp [runP]
 | x :: mid, q, P, en, lv, L, hq, hm, h0 => by
  have hx := hm x (by simp)
  show runP arc b (stepS arc b ⟨true, ⟨arc, P, en, lv⟩, L⟩ q x) x mid = _
  have hs : stepS arc b ⟨true, ⟨arc, P, en, lv⟩, L⟩ q x = ⟨true, ⟨arc, P ++ [x], en, 0⟩, L⟩ := by
   unfold stepS
   rw [clip_both hq hx]
   simp only [hx, if_true]
   unfold clAdd
   simp only [if_true, through_in hx]
  rw [hs, run_open mid x (P ++ [x]) en 0 L hx (fun y hy => hm y (by simp [hy])) rfl]
  simp
/-- a step into the box, from a closed state -/
theorem clip_into {p q : Pt} {b : Bx} (hq : inB b q = true) : ∃ c, clipS p q b = some (c, q) := by
 cases h : clipS p q b with
 | none =>
  have hn := clip_is p q b
  rw [h] at hn
  exact absurd (in_box_Q1 hq) (hn 1 1 ⟨by decide, by decide, by decide⟩)
 | some r =>
  obtain ⟨c, d⟩ := r
  have := clip_last h hq
  subst this
  exact ⟨c, rfl⟩
/-- a path with its inner points in the box, two segments at least -/
theorem pieces_mid {arc : Int} {b : Bx} {p q k e c d : Pt} {mid : List Pt} (hm : ∀ x ∈ mid, inB b x = true) (hq : mid.head? = some q) (hk : mid.getLast? = some k) (hc : clipS p q b = some (c, q)) (hd : clipS k e b = some (k, d)) :
  piecesS arc (p :: (mid ++ [e])) b = oneS arc (c :: (mid ++ [d])) (throughS p q b) (throughS e k b) := by
 cases mid with
 | nil => cases hq
 | cons q' mid' =>
  have hq' : q' = q := by simpa using hq
  subst hq'
  have hqi := hm q' (by simp)
  have hki : inB b k = true := hm k (List.mem_of_getLast? hk)
  rw [pieces_run, runP_snoc]
  have h1 : runP arc b ⟨false, pc0, []⟩ p (q' :: mid') = ⟨true, ⟨arc, c :: q' :: mid', throughS p q' b, 0⟩, []⟩ := by
   show runP arc b (stepS arc b ⟨false, pc0, []⟩ p q') q' mid' = _
   have hs : stepS arc b ⟨false, pc0, []⟩ p q' = ⟨true, ⟨arc, [c, q'], throughS p q' b, 0⟩, []⟩ := by
    unfold stepS
    rw [hc]
    simp only [hqi, if_true]
    unfold clAdd
    simp only [Bool.false_eq_true, if_false, through_in hqi]
    rfl
   rw [hs, run_open mid' q' _ _ 0 _ hqi (fun y hy => hm y (by simp [hy])) rfl]
   rfl
  rw [h1]
  have hl : (p :: q' :: mid').getD (q' :: mid').length ptz = k := by
   rw [List.getLast?_eq_getElem?] at hk
   rw [List.getD_eq_getElem?_getD, List.length_cons, List.getElem?_cons_succ]
   rw [List.length_cons, Nat.add_sub_cancel] at hk
   rw [hk]; rfl
  rw [hl]
  unfold stepS
  rw [hd]
  have hcl : clAdd arc b ⟨true, ⟨arc, c :: q' :: mid', throughS p q' b, 0⟩, []⟩ k e k d = ⟨true, ⟨arc, c :: (q' :: mid' ++ [d]), throughS p q' b, throughS e k b⟩, []⟩ := by
   unfold clAdd
   simp only [if_true]
   rfl
  simp only [hcl]
  split
  · exact end_one
  · rw [end_end]; exact end_one
theorem pieces_two {arc : Int} {b : Bx} {p e : Pt} : piecesS arc [p, e] b = match clipS p e b with
  | none => []
  | some (c, d) => oneS arc [c, d] (throughS p e b) (throughS e p b) := by
 rw [pieces_run]
 show (endS (stepS arc b ⟨false, pc0, []⟩ p e)).l = _
 unfold stepS
 cases clipS p e b with
 | none =>
  rw [end_end]; rfl
 | some r =>
  obtain ⟨c, d⟩ := r
  have hcl : clAdd arc b ⟨false, pc0, []⟩ p e c d = ⟨true, ⟨arc, [c, d], throughS p e b, throughS e p b⟩, []⟩ := by
   unfold clAdd
   simp only [Bool.false_eq_true, if_false]
   rfl
  simp only [hcl]
  split
  · exact end_one
  · rw [end_end]; exact end_one
theorem pieces_rev (arc : Int) (b : Bx) : ∀ (n : Nat) (l : List Pt), l.length ≤ n → piecesS arc l.reverse b = turnedS (piecesS arc l b)
 | 0, l, h => by
  have : l = [] := List.eq_nil_of_length_eq_zero (by omega)
  subst this
  rfl
 | n + 1, l, h => by
  cases l with
  | nil => rfl
  | cons p r =>
   rcases List.eq_nil_or_concat r with e | ⟨m, e, he⟩
   · subst e; rfl
   rw [List.concat_eq_append] at he
   subst he
   have hrev : (p :: (m ++ [e])).reverse = e :: (m.reverse ++ [p]) := by simp
   rw [hrev]
   by_cases hall : ∀ x ∈ m, inB b x = true
   · cases hm : m with
    | nil =>
     show piecesS arc [e, p] b = turnedS (piecesS arc [p, e] b)
     rw [pieces_two, pieces_two, clip_rev p e b]
     cases clipS p e b with
     | none => rfl
     | some r =>
      obtain ⟨c, d⟩ := r
      exact one_rev arc [c, d] _ _
    | cons q m' =>
     rw [← hm]
     obtain ⟨k, hk⟩ : ∃ k, m.getLast? = some k := by
      cases h : m.getLast? with
      | none => rw [hm] at h; simp at h
      | some k => exact ⟨k, rfl⟩
     have hq : m.head? = some q := by rw [hm]; rfl
     have hqi := hall q (by rw [hm]; simp)
     have hki := hall k (List.mem_of_getLast? hk)
     obtain ⟨c, hc⟩ := clip_into (p := p) hqi
     obtain ⟨d, hd0⟩ := clip_into (p := e) hki
     have hd : clipS k e b = some (k, d) := by rw [clip_rev e k b, hd0]; rfl
     have hc2 : clipS q p b = some (q, c) := by rw [clip_rev p q b, hc]; rfl
     rw [pieces_mid hall hq hk hc hd]
     rw [pieces_mid (mid := m.reverse) (q := k) (k := q) (fun x hx => hall x (List.mem_reverse.1 hx)) (by rw [List.head?_reverse]; exact hk) (by rw [List.getLast?_reverse]; exact hq) hd0 hc2]
     rw [← one_rev]
     congr 1
     simp
   ·
    obtain ⟨v, hv, hvo⟩ : ∃ v ∈ m, inB b v = false := by
     apply Classical.byContradiction
     intro hno
     apply hall
     intro x hx
     cases hx2 : inB b x
     · exact absurd ⟨x, hx, hx2⟩ hno
     · rfl
    obtain ⟨m1, m2, hmm⟩ := List.append_of_mem hv
    subst hmm
    have e1 : m1 ++ v :: m2 ++ [e] = m1 ++ v :: (m2 ++ [e]) := by simp
    have e2 : (m1 ++ v :: m2).reverse ++ [p] = m2.reverse ++ v :: (m1.reverse ++ [p]) := by simp
    rw [e1, e2, pieces_split arc b e m2.reverse v _ hvo, pieces_split arc b p m1 v _ hvo, turned_app]
    have hlen : (p :: (m1 ++ v :: m2 ++ [e])).length = m1.length + m2.length + 3 := by simp; omega
    rw [hlen] at h
    have i1 := pieces_rev arc b n (v :: (m2 ++ [e])) (by simp; omega)
    have i2 := pieces_rev arc b n (p :: (m1 ++ [v])) (by simp; omega)
    rw [show (v :: (m2 ++ [e])).reverse = e :: (m2.reverse ++ [v]) by simp] at i1
    rw [show (p :: (m1 ++ [v])).reverse = v :: (m1.reverse ++ [p]) by simp] at i2
    rw [i1, i2]
end Go.Proofs.YtfondidmklmonaaGreat
namespace Go.Proofs.YtfondidmklmonaaGreat
open Go.RowKit

theorem turned_take {X : List Pc} {j k : Nat} (hj : j + k + 1 = X.length) (hjx : j < X.length) : (turnedS X).take (k + 1) = (turnedS X).take k ++ [turnPc X[j]] := by
 have hl : (turnedS X).length = X.length := by unfold turnedS; simp
 have hk : k < (turnedS X).length := by omega
 rw [List.take_succ_eq_append_getElem hk]
 congr 2
 simp only [turnedS, List.getElem_map, List.getElem_reverse]
 congr 2
 omega
theorem rev_take {l : List Pt} {j m : Nat} (hj : j + m + 1 = l.length) (hjl : j < l.length) : l.reverse.take (m + 1) = l.reverse.take m ++ [l[j]] := by
 have hk : m < l.reverse.length := by rw [List.length_reverse]; omega
 rw [List.take_succ_eq_append_getElem hk, List.getElem_reverse]
 congr 3
 omega
set_option maxRecDepth 100000 in
set_option maxHeartbeats 16000000 in
theorem turned41_spec (v : Value) (l : List (Pc × Value)) (w : World) (h : Pcs w v l) (hl : l.length ≤ 1000000) (hpl : ∀ x ∈ l, x.1.path.length ≤ 1000000) :
  Calls Tryz.prog 31 #[v] w (RetPcF w (turnedS (l.map (·.1)))) := by
 obtain ⟨⟨Aa, ca, rfl, ha1, ha2, hRa⟩, hV⟩ := h
 unfold maxLen at ha2
 have HRa := Lib.hid hRa; have HV := Lib.hid hV
 obtain ⟨q, hq⟩ : ∃ q, turnedS (l.map (·.1)) = q := ⟨_, rfl⟩
 rw [hq]
 have HQ := Lib.hid hq
 obtain ⟨ln, hln⟩ : ∃ n, l.length = n := ⟨_, rfl⟩
 have HLn := Lib.hid hln
 have HQl := Lib.hid (show q.length = ln by rw [← hq, ← hln]; unfold turnedS; simp)
 have HPl := Lib.hid hpl
 rw [hln] at ha1 hl ⊢
 clear hRa hV hq hln hpl
 unfold RetPcF
 go_enter Tryz.func31, Tryz.ntmps31
 go_wp2_with fail
 go_loopw [3, 4] (fun s i wr => ∃ (k : Nat) (L : List (Pc × SV)) (A : Option Addr) (c : Nat), k ≤ ln ∧ i = .int .i64 ((ln : Int) - 1 - k) ∧ s = .slice A L.length c ∧ L.map (·.1) = q.take k ∧ L.length ≤ k ∧ PcsO wr w.heap.size (.slice A L.length c) L ∧ Below w.heap.size w wr) (fun _ i _ => (intOf i + 1).toNat)
 case atStart => exact ⟨0, [], none, 0, Nat.zero_le _, by simp, rfl, rfl, Nat.le_refl _, ⟨Own.nil _ _ _ _ _, fun x hx => by cases hx⟩, bR w⟩
 case round =>
  obtain ⟨k, L, A, c, hk, rfl, rfl, hL, hLl, hpo, hb⟩ := hrel
  have Hb := Lib.hid hb; have HL := Lib.hid hL; have HPO := Lib.hid hpo
  have hz2 := hb.size
  clear hb hL hpo
  by_cases hlt : k < ln
  case neg =>
   have hLq : L.map (·.1) = q := by rw [HL.out, List.take_of_length_le (by have := HQl.out; omega)]
   have hll : L.length = q.length := by rw [← hLq, List.length_map]
   have HLq := Lib.hid hLq
   have HPc := Lib.hid (own_pcs HPO.out.own (fun x hx => (HPO.out.path x hx).sl))
   rw [hll] at HPc ⊢
   have e1 : (ln : Int) - 1 - k = -1 := by omega
   rw [e1]
   clear hLq hll e1
   go_wp2_with fail
   go_ret
   exact ⟨A, c, L.map rdP, rfl, Hb.out, by rw [List.map_map]; exact HLq.out, HPc.out⟩
  obtain ⟨j, hj⟩ : ∃ j, j + k + 1 = ln := ⟨ln - 1 - k, by omega⟩
  have e1 : (ln : Int) - 1 - k = (j : Int) := by omega
  rw [e1]
  have hjl : j < l.length := by have := HLn.out; omega
  obtain ⟨b, o, rfl, hlb, c0, c1, c2, c3⟩ := (HRa.out.mono Hb.out).pc hjl
  obtain ⟨Av, cv, hv, hy1, hy2, hRy⟩ := (HV.out j hjl).mono Hb.out
  rw [hv] at c1
  unfold maxLen at hy2
  have hyl := HPl.out _ (List.getElem_mem hjl)
  have HSt := Lib.hid (show q.take (k + 1) = L.map (·.1) ++ [turnPc l[j].1] by
   rw [← HQ.out, turned_take (j := j) (by rw [List.length_map, HLn.out]; omega) (by rw [List.length_map]; exact hjl), HQ.out, ← HL.out]
   simp)
  have HC := Lib.hid (⟨c0, c2, c3⟩ : _ ∧ _ ∧ _)
  have HC1 := Lib.hid c1
  obtain ⟨y, hy⟩ : ∃ y, l[j].1 = y := ⟨_, rfl⟩
  rw [hy] at c0 c1 c2 c3 hRy HSt hyl hy1 HC HC1
  have HRy := Lib.hid hRy
  obtain ⟨ly, hly⟩ : ∃ n, y.path.length = n := ⟨_, rfl⟩
  rw [hly] at c1 hyl hy1 HC1
  have HLy := Lib.hid hly
  clear hv hy hRy hly e1
  have v2 : 0 ≤ (j : Int) := by omega
  have v3 : (j : Int) < ln := by omega
  go_upto_region 5 with fail
  go_cut [5] (fun u wx => ∃ g5, u = .pointer (some ⟨g5, 0, none⟩) ∧ Blk wx g5 55 #[.int .i64 y.arc, .slice none 0 0, .int .i64 y.leave, .int .i64 y.enter] ∧ wr.heap.size ≤ g5 ∧ Below wr.heap.size wr wx)
  case first =>
   refine rg_start (SinceB (wr.heap.size) wr) (.run 16 0 0 (.call 16 131071 (.call 17 262143 (.done)))) (by kernel_rfl) (Below.drew (Below.refl _ _)) (by kernel_rfl) (by kernel_rfl) (Nat.le_of_ble_eq_true (by kernel_rfl)) ?_
   intro opsR QR Hops HQrg hS
   iterate 16
    apply rg_pB; exact Hops; exact rfl; exact hS; exact rfl
    · intro _ hqc; go_simp; try rfl
    try simp only [pu]
   refine rg_call (i := 16) (get_of Hops rfl) (fun K hK => ?_)
   have HSrg := Lib.hid hS; clear hS
   refine rg_run (wanted_plain rfl) ?_
   go_simp
   have XQy : Below (wr.heap.size) wr (wr.drew) := HSrg.out
   have XQz : wr.heap.size ≤ (wr.drew).heap.size := Nat.le_trans (by omega) (show Below (wr.heap.size) wr (wr.drew) from HSrg.out).size
   refine hK.out _ _ (bAB (by omega) HSrg.out _) (fun hS => ?_)
   clear hK K HSrg
   try replace XQ := XQ.alloc (.cells #[.int .i64 0, .slice none 0 0, .int .i64 0, .int .i64 0] 55)
   have XQ := Blk.new (wr.drew) 55 #[.int .i64 0, .slice none 0 0, .int .i64 0, .int .i64 0]
   try simp only [World.size_drew] at XQ XQz
   try simp only [pu]
   refine rg_call (i := 17) (get_of Hops rfl) (fun K hK => ?_)
   have HSrg := Lib.hid hS; clear hS
   refine rg_run (wanted_plain rfl) ?_
   obtain ⟨XQl, XQa, XQb, XQc, XQd, XQe, XQf, XQg, XQh⟩ := XQ.facts4
   go_simp
   refine hK.out _ _ (by unfold SinceB; have h : Below _ _ _ := HSrg.out; repeat (first | with_reducible assumption | with_reducible exact Below.refl _ _ | with_reducible refine bSB ?_ (by first | omega | (simp; omega)) _ | with_reducible refine Below.drew ?_ | with_reducible refine bAB (by omega) ?_ _ | exact h)) ?_
   intro hS
   clear hK K HSrg
   try simp only [pu]
   refine rg_done ?_
   refine HQrg.down _ _ ?_
   have hB : Below (wr.heap.size) wr _ := hS
   clear hS HQrg Hops
   go_wp2_with fail
   go_meet
   case rel => exact ⟨_, rfl, (by first | with_reducible exact Blk.put4 XQ | with_reducible exact Blk.made rfl _ _ | with_reducible exact Blk.drew (Blk.made rfl _ _)), (by first | omega | (simp; done) | (simp; omega)), hB⟩
  case rest =>
  obtain ⟨g5, rfl, X5, hg5, hbq⟩ := hcut
  obtain ⟨wq, hwq⟩ : ∃ wq : World, wq = wc := ⟨_, rfl⟩
  rw [← hwq] at X5 hbq ⊢
  have HX5 := Lib.hid X5
  have Hbq := Lib.hid hbq
  have l5 := X5.lt
  have hlbq : b < wq.heap.size := Nat.lt_of_lt_of_le hlb hbq.size
  have hbg : b < g5 := by omega
  have c1q := keepc hbq HC1.out
  have HRyq := Lib.hid (HRy.out.mono hbq)
  clear hwq hbq X5 c0 c1 c2 c3
  have HRyp := Lib.hid (show ∀ m (hm : m < y.path.length), ∃ bq oq, Av = some ⟨bq, oq, none⟩ ∧ bq < g5 ∧ wq.cell? ⟨bq, oq + m * 2, none⟩ = some (.int .i64 y.path[m].x) ∧ wq.cell? ⟨bq, oq + m * 2 + 1, none⟩ = some (.int .i64 y.path[m].y) by
   intro m hm
   obtain ⟨bq, oq, h1, h2, h3, h4⟩ := HRy.out.pt hm
   obtain ⟨bq', oq', h1', -, h3', h4'⟩ := HRyq.out.pt hm
   rw [h1] at h1'
   obtain ⟨rfl, rfl⟩ : bq = bq' ∧ oq = oq' := by simpa using h1'
   exact ⟨bq, oq, h1, by omega, h3', h4'⟩)
  have HC1q := Lib.hid c1q
  go_upto_block 2 with fail
  clear c1q
  go_wp2_with fail
  go_loopw [6] (fun u wx => ∃ (m : Nat) (P : List Pt) (Ap : Option Addr) (cp : Nat), m ≤ ly ∧ u = .int .i64 ((ly : Int) - 1 - m) ∧ Blk wx g5 55 #[.int .i64 y.arc, .slice Ap P.length cp, .int .i64 y.leave, .int .i64 y.enter] ∧ Own wx g5 28 2 ptC (.slice Ap P.length cp) P ∧ P = y.path.reverse.take m ∧ P.length ≤ m ∧ Below g5 wq wx) (fun u _ => (intOf u + 1).toNat)
  case atStart => exact ⟨0, [], none, 0, Nat.zero_le _, by simp, HX5.out, Own.nil _ _ _ _ _, rfl, Nat.le_refl _, Below.refl _ _⟩
  case round =>
   rename_i wr0
   obtain ⟨m, P, Ap, cp, hm, rfl, x5, hon, hP, hPl, hb2⟩ := hrel
   have Hb2 := Lib.hid hb2; have HP := Lib.hid hP
   by_cases hml : m < ly
   ·
    obtain ⟨jj, hjj⟩ : ∃ jj, jj + m + 1 = ly := ⟨ly - 1 - m, by omega⟩
    have e1 : (ly : Int) - 1 - m = (jj : Int) := by omega
    rw [e1]
    have hjp : jj < y.path.length := by have := HLy.out; omega
    obtain ⟨bq, oq, rfl, hbq5, d0, d1⟩ := HRyp.out jj hjp
    have HSt2 := Lib.hid (show y.path.reverse.take (m + 1) = P ++ [y.path[jj]] by rw [rev_take (j := jj) (by rw [HLy.out]; omega) hjp, ← HP.out])
    obtain ⟨pt, hpt⟩ : ∃ p, y.path[jj] = p := ⟨_, rfl⟩
    rw [hpt] at d0 d1 HSt2
    have PW := hon
    have X5 := x5
    have l5r : g5 < wr.heap.size := x5.lt
    have c1 : wr.cell? ⟨b, o + j * 4 + 1, none⟩ = some (.slice (some ⟨bq, oq, none⟩) ly cv) := by
     have := HC1q.out
     rw [hb2.cell (p := ⟨b, _, none⟩) hbg]; exact this
    replace d0 : wr.cell? ⟨bq, oq + jj * 2, none⟩ = some (.int .i64 pt.x) := by rw [hb2.cell (p := ⟨bq, _, none⟩) hbq5]; exact d0
    replace d1 : wr.cell? ⟨bq, oq + jj * 2 + 1, none⟩ = some (.int .i64 pt.y) := by rw [hb2.cell (p := ⟨bq, _, none⟩) hbq5]; exact d1
    have v4 : 0 ≤ (jj : Int) := by omega
    have v5 : (jj : Int) < ly := by omega
    have hPl2 : P.length ≤ 1000000 := by omega
    clear hb2 hP hon x5 hpt hjp e1
    go_upto_region 9 with fail
    refine rg_start (SinceB (g5) wr) (.take 0 1 (.run 8 2 1 (.two 1 1023 (.call 10 2047 (.call 11 4095 (.take 12 8191 (.call 13 16383 (.done))))) 10 2045 (.call 1 2047 (.call 11 4095 (.take 12 8191 (.call 13 16383 (.done)))))))) (by kernel_rfl) (Below.drew (Below.refl _ _)) (by kernel_rfl) (by kernel_rfl) (Nat.le_of_ble_eq_true (by kernel_rfl)) ?_
    intro opsR QR Hops HQrg hS
    replace X5 := X5.drew
    replace PW := PW.drew
    iterate 9
     apply rg_pB; exact Hops; exact rfl; exact hS; exact rfl
     · intro _ hqc; go_simp; try rfl
     try simp only [pu]
    refine rg_two (i := 1) (j := 10) (get_of Hops rfl) (get_of Hops rfl) (fun K hK => ?_) (fun K hK => ?_)
    -- operation 1 first
    ·
     have HSrg := Lib.hid hS; clear hS
     refine rg_run (wanted_plain rfl) ?_
     obtain ⟨X5l, X5a, X5b, X5c, X5d, X5fa, X5fb, X5fc, X5fd⟩ := X5.facts4
     go_simp
     refine hK.out _ _ HSrg.out (fun hS => ?_)
     clear hK K HSrg
     try simp only [pu]
     refine rg_call (i := 10) (get_of Hops rfl) (fun K hK => ?_)
     have HSrg := Lib.hid hS; clear hS
     refine rg_run (wanted_plain rfl) ?_
     go_simp
     have XPy : Below (g5) wr (wr.drew) := HSrg.out
     have XPz : g5 ≤ (wr.drew).heap.size := Nat.le_trans (by omega) (show Below (g5) wr (wr.drew) from HSrg.out).size
     refine hK.out _ _ (bAB (by omega) HSrg.out _) (fun hS => ?_)
     clear hK K HSrg
     try replace X5 := X5.alloc (.cells #[.int .i64 pt.x, .int .i64 pt.y] 28)
     try replace PW := PW.alloc (.cells #[.int .i64 pt.x, .int .i64 pt.y] 28)
     try replace XP := XP.alloc (.cells #[.int .i64 pt.x, .int .i64 pt.y] 28)
     have XP := Blk.new (wr.drew) 28 #[.int .i64 pt.x, .int .i64 pt.y]
     try simp only [World.size_drew] at XP XPz
     try simp only [World.alloc_drew] at X5
     try simp only [World.alloc_drew] at PW
     try simp only [World.alloc_drew] at XP
     try simp only [pu]
     refine rg_call (i := 11) (get_of Hops rfl) (fun K hK => ?_)
     have HSrg := Lib.hid hS; clear hS
     refine rg_run (wanted_plain rfl) ?_
     have hz1 : g5 ≤ _ := Nat.le_trans (Nat.le_of_lt l5r) (show Below g5 wr _ from HSrg.out).size
     refine wp_appl (.tmp 42) (.tmp 51) _ rfl (base := g5) (l2 := [pt]) elem_pt ptC_len ptC_one rfl PW rfl (Sl.lit (n := 1) XP rfl (le_maxLen (by omega))) (by simp only [List.length_cons, List.length_nil]; omega) (by simp only [List.length_cons, List.length_nil]; omega) hz1 ?_
     intro v9 wn hon9 hgn hatn
     obtain ⟨A9, c9, hv9, -⟩ := Own.shape_ hon9
     rw [show (P ++ [pt]).length = P.length + 1 by simp] at hv9
     subst hv9
     have X5n := X5.grown hgn (fun e => Own.ne_blk PW X5 (by decide) e.symm)
     have HOn := Lib.hid hon9
     have hS : SinceB g5 wr wn := Below.grown (show Below g5 wr _ from HSrg.out) hgn hz1 (fun j hj => (PW.lt j hj).1)
     obtain ⟨X5l, X5a, X5b, X5c, X5d, X5fa, X5fb, X5fc, X5fd⟩ := X5n.facts4
     clear hon9 hgn hatn
     clear HSrg
     refine hK.out _ _ hS (fun _ => ?_)
     clear hK K
     try simp only [pu]
     apply rg_pB; exact Hops; exact rfl; exact hS; exact rfl
     · intro _ hqc; go_simp; try rfl
     try simp only [pu]
     refine rg_call (i := 13) (get_of Hops rfl) (fun K hK => ?_)
     have HSrg := Lib.hid hS; clear hS
     refine rg_run (wanted_plain rfl) ?_
     go_simp
     refine hK.out _ _ (by unfold SinceB; have h : Below _ _ _ := HSrg.out; repeat (first | with_reducible assumption | with_reducible exact Below.refl _ _ | with_reducible refine bSB ?_ (by first | omega | (simp; omega)) _ | with_reducible refine Below.drew ?_ | with_reducible refine bAB (by omega) ?_ _ | exact h)) ?_
     intro hS
     clear hK K HSrg
     try simp only [pu]
     refine rg_done ?_
     refine HQrg.down _ _ ?_
     have hB : Below (g5) wr _ := hS
     clear hS HQrg Hops
     go_wp2_with fail
     go_roundw
     case rel => (rw [show (P.length + 1) = (P ++ [pt]).length by simp] at *; exact ⟨m + 1, P ++ [pt], A9, c9, by omega, by (have : (ly : Int) - 1 - ((m + 1 : Nat) : Int) = (jj : Int) - 1 := by omega); rw [this], by have := X5n.set_ 1 (.slice A9 (P ++ [pt]).length c9); simpa using this, HOn.out.far (Own.ne_blk HOn.out X5n (by decide)) _, HSt2.out.symm, by rw [List.length_append, List.length_singleton]; omega, Hb2.out.trans hB⟩)
     case measure => first | (simp [intOf]; done) | (simp [intOf]; omega)
    -- operation 10 first
    ·
     have HSrg := Lib.hid hS; clear hS
     refine rg_run (wanted_plain rfl) ?_
     go_simp
     have XPy : Below (g5) wr (wr.drew) := HSrg.out
     have XPz : g5 ≤ (wr.drew).heap.size := Nat.le_trans (by omega) (show Below (g5) wr (wr.drew) from HSrg.out).size
     refine hK.out _ _ (bAB (by omega) HSrg.out _) (fun hS => ?_)
     clear hK K HSrg
     try replace X5 := X5.alloc (.cells #[.int .i64 pt.x, .int .i64 pt.y] 28)
     try replace PW := PW.alloc (.cells #[.int .i64 pt.x, .int .i64 pt.y] 28)
     try replace XP := XP.alloc (.cells #[.int .i64 pt.x, .int .i64 pt.y] 28)
     have XP := Blk.new (wr.drew) 28 #[.int .i64 pt.x, .int .i64 pt.y]
     try simp only [World.size_drew] at XP XPz
     try simp only [World.alloc_drew] at X5
     try simp only [World.alloc_drew] at PW
     try simp only [World.alloc_drew] at XP
     try simp only [pu]
     refine rg_call (i := 1) (get_of Hops rfl) (fun K hK => ?_)
     have HSrg := Lib.hid hS; clear hS
     refine rg_run (wanted_plain rfl) ?_
     obtain ⟨X5l, X5a, X5b, X5c, X5d, X5fa, X5fb, X5fc, X5fd⟩ := X5.facts4
     go_simp
     refine hK.out _ _ HSrg.out (fun hS => ?_)
     clear hK K HSrg
     try simp only [pu]
     refine rg_call (i := 11) (get_of Hops rfl) (fun K hK => ?_)
     have HSrg := Lib.hid hS; clear hS
     refine rg_run (wanted_plain rfl) ?_
     have hz1 : g5 ≤ _ := Nat.le_trans (Nat.le_of_lt l5r) (show Below g5 wr _ from HSrg.out).size
     refine wp_appl (.tmp 42) (.tmp 51) _ rfl (base := g5) (l2 := [pt]) elem_pt ptC_len ptC_one rfl PW rfl (Sl.lit (n := 1) XP rfl (le_maxLen (by omega))) (by simp only [List.length_cons, List.length_nil]; omega) (by simp only [List.length_cons, List.length_nil]; omega) hz1 ?_
     intro v9 wn hon9 hgn hatn
     obtain ⟨A9, c9, hv9, -⟩ := Own.shape_ hon9
     rw [show (P ++ [pt]).length = P.length + 1 by simp] at hv9
     subst hv9
     have X5n := X5.grown hgn (fun e => Own.ne_blk PW X5 (by decide) e.symm)
     have HOn := Lib.hid hon9
     have hS : SinceB g5 wr wn := Below.grown (show Below g5 wr _ from HSrg.out) hgn hz1 (fun j hj => (PW.lt j hj).1)
     obtain ⟨X5l, X5a, X5b, X5c, X5d, X5fa, X5fb, X5fc, X5fd⟩ := X5n.facts4
     clear hon9 hgn hatn
     clear HSrg
     refine hK.out _ _ hS (fun _ => ?_)
     clear hK K
     try simp only [pu]
     apply rg_pB; exact Hops; exact rfl; exact hS; exact rfl
     · intro _ hqc; go_simp; try rfl
     try simp only [pu]
     refine rg_call (i := 13) (get_of Hops rfl) (fun K hK => ?_)
     have HSrg := Lib.hid hS; clear hS
     refine rg_run (wanted_plain rfl) ?_
     go_simp
     refine hK.out _ _ (by unfold SinceB; have h : Below _ _ _ := HSrg.out; repeat (first | with_reducible assumption | with_reducible exact Below.refl _ _ | with_reducible refine bSB ?_ (by first | omega | (simp; omega)) _ | with_reducible refine Below.drew ?_ | with_reducible refine bAB (by omega) ?_ _ | exact h)) ?_
     intro hS
     clear hK K HSrg
     try simp only [pu]
     refine rg_done ?_
     refine HQrg.down _ _ ?_
     have hB : Below (g5) wr _ := hS
     clear hS HQrg Hops
     go_wp2_with fail
     go_roundw
     case rel => (rw [show (P.length + 1) = (P ++ [pt]).length by simp] at *; exact ⟨m + 1, P ++ [pt], A9, c9, by omega, by (have : (ly : Int) - 1 - ((m + 1 : Nat) : Int) = (jj : Int) - 1 := by omega); rw [this], by have := X5n.set_ 1 (.slice A9 (P ++ [pt]).length c9); simpa using this, HOn.out.far (Own.ne_blk HOn.out X5n (by decide)) _, HSt2.out.symm, by rw [List.length_append, List.length_singleton]; omega, Hb2.out.trans hB⟩)
     case measure => first | (simp [intOf]; done) | (simp [intOf]; omega)
   ·
    have hPr : P = y.path.reverse := by rw [HP.out, List.take_of_length_le (by rw [List.length_reverse, HLy.out]; omega)]
    have HPr := Lib.hid hPr
    have e1 : (ly : Int) - 1 - m = -1 := by omega
    rw [e1]
    have HXr := Lib.hid x5; have HOn := Lib.hid hon
    have hbw : Below wr.heap.size wr wr := bR wr
    have Hbr := Lib.hid (Hbq.out.trans (hb2.mono hg5))
    have HPOr := Lib.hid (HPO.out.keep Hbr.out)
    have hz5 := Hbr.out.size
    have X5 := x5
    clear hb2 hP hon x5 hPr hbw e1
    try clear X5l
    try clear X5a
    try clear X5b
    try clear X5c
    try clear X5d
    try clear X5fa
    try clear X5fb
    try clear X5fc
    try clear X5fd
    obtain ⟨X5l, X5a, X5b, X5c, X5d, -, -, -, -⟩ := X5.facts4
    go_wp2_with
     (at_builtin
      refine wpList_appl _ rfl (.tmp 54) (.tmp 56) _ rfl (base := w.heap.size) elem_pc pcS_len pcS_one rfl (Own.alloc HPOr.out.own _) rfl (l2 := [((turnPc y, ⟨Ap, P.length, cp⟩) : Pc × SV)]) (Sl.lit (n := 1) (Blk.made rfl _ _) rfl (le_maxLen (by omega))) (by simp only [List.length_cons, List.length_nil]; omega) (by simp only [List.length_cons, List.length_nil]; omega) (by simp; omega) ?_
      intro v6 w6 ho6 hg6 hat6
      obtain ⟨A6, c6, hv6, -⟩ := Own.shape_ ho6
      rw [show (L ++ [((turnPc y, ⟨Ap, P.length, cp⟩) : Pc × SV)]).length = L.length + 1 by simp] at hv6
      subst hv6
      have HPO6 := Lib.hid (show PcsO w6 w.heap.size (.slice A6 (L.length + 1) c6) (L ++ [((turnPc y, ⟨Ap, P.length, cp⟩) : Pc × SV)]) from ⟨ho6, fun x hx => by
       rcases List.mem_append.1 hx with hx | hx
       · exact Own.grown (Own.alloc (HPOr.out.path x hx) _) hg6 (fun k hk => Own.apart (HPOr.out.path x hx) HPOr.out.own (by decide) k hk)
       ·
        rw [List.mem_singleton] at hx
        subst hx
        have ho := Own.grown (Own.alloc HOn.out _) hg6 (fun k hk => Own.apart (Own.mono_base HOn.out (by omega)) HPOr.out.own (by decide) k hk)
        rw [HPr.out] at ho ⊢
        exact Own.mono_base ho (by omega)⟩)
      have HB6 := Lib.hid (Below.grown ((bT Hb.out Hbr.out).alloc (by omega) _) hg6 (by simp; omega) (fun i hi => (HPOr.out.own.lt i hi).1))
      clear ho6 hg6 hat6)
    go_roundw
    case rel => (rw [show (L.length + 1) = (L ++ [((turnPc y, ⟨Ap, P.length, cp⟩) : Pc × SV)]).length by simp] at *; exact ⟨k + 1, L ++ [((turnPc y, ⟨Ap, P.length, cp⟩) : Pc × SV)], A6, c6, by omega, by (have : (ln : Int) - 1 - ((k + 1 : Nat) : Int) = (j : Int) - 1 := by omega); rw [this], rfl, by rw [HSt.out, List.map_append]; rfl, by rw [List.length_append, List.length_singleton]; omega, HPO6.out, HB6.out⟩)
    case measure => first | (simp [intOf]; done) | (simp [intOf]; omega)
end Go.Proofs.YtfondidmklmonaaGreat
namespace Go.Proofs.YtfondidmklmonaaGreat

theorem turned_turned (l : List Pc) : turnedS (turnedS l) = l := by
 unfold turnedS
 rw [← List.map_reverse, List.reverse_reverse, List.map_map]
 have : (turnPc ∘ turnPc) = id := by
  funext y
  obtain ⟨a, b, c, d⟩ := y
  simp [turnPc]
 rw [this, List.map_id]
theorem endS_pl {s : PSt} {n : Nat} (h : ∀ y ∈ s.l, y.path.length ≤ n) (hx : s.x.path.length ≤ n) : ∀ y ∈ (endS s).l, y.path.length ≤ n := by
 unfold endS
 split
 · exact h
 ·
  simp only
  split
  ·
   intro y hy
   rcases List.mem_append.1 hy with hy | hy
   · exact h y hy
   ·
    rw [List.mem_singleton] at hy
    subst hy
    exact Nat.le_trans (cmp_len _) hx
  · exact h
theorem stAt_pl (arc : Int) (b : Bx) (l : List Pt) : ∀ i, ∀ y ∈ (stAt arc b l i).l, y.path.length ≤ 2 * i
 | 0 => fun y hy => by cases hy
 | i + 1 => by
  have h := stAt_pl arc b l i
  have hx := (stAt_l arc b l i).2
  show ∀ y ∈ (stepS _ _ _ _ _).l, _
  unfold stepS
  split
  · exact endS_pl (fun y hy => by have := h y hy; omega) (by omega)
  ·
   rename_i c d _
   have hh : ∀ y ∈ (clAdd arc b (stAt arc b l i) (l.getD i ptz) (l.getD (i + 1) ptz) c d).l, y.path.length ≤ 2 * (i + 1) := fun y hy => by
    have := h y hy
    omega
   have hl : (clAdd arc b (stAt arc b l i) (l.getD i ptz) (l.getD (i + 1) ptz) c d).x.path.length ≤ 2 * (i + 1) := by
    rw [clAdd_eq]
    have := (open_l arc b (stAt arc b l i) (l.getD i ptz) (l.getD (i + 1) ptz) c).2.1
    simp only [List.length_append, List.length_singleton]
    omega
   split
   · exact hh
   · exact endS_pl hh hl
theorem pieces_pl (arc : Int) (b : Bx) (l : List Pt) : ∀ y ∈ piecesS arc l b, y.path.length ≤ 2 * l.length := by
 unfold piecesS
 have h := stAt_pl arc b l (l.length - 1)
 have h2 := (stAt_l arc b l (l.length - 1)).2
 exact endS_pl (fun y hy => by have := h y hy; omega) (by omega)
theorem part_len {p : Pl} {K : Nat} (hv : ∀ a ∈ p.arcs, a.via.length ≤ K) (n : Int) (b : Bx) : (partS p n b).pieces.length ≤ p.arcs.length * (K + 3) := by
 show (p.arcs.flatMap (fun a => piecesS a.id (pathS p a) b)).length ≤ _
 have key : ∀ l : List Ar, (∀ a ∈ l, a.via.length ≤ K) → (l.flatMap (fun a => piecesS a.id (pathS p a) b)).length ≤ l.length * (K + 3) := by
  intro l
  induction l with
  | nil => intro _; simp
  | cons a l ih =>
   intro h
   rw [List.flatMap_cons, List.length_append, List.length_cons, Nat.add_mul]
   have h1 := pcs_len a.id (pathS p a) b
   rw [pathS_length] at h1
   have h2 := h a (by simp)
   have h3 := ih (fun a ha => h a (by simp [ha]))
   omega
 exact key _ hv
theorem revP_via {p : Pl} {i : Nat} {hi : i < p.arcs.length} {K : Nat} (hv : ∀ a ∈ p.arcs, a.via.length ≤ K) : ∀ a ∈ (revP p i hi).arcs, a.via.length ≤ K := by
 intro a ha
 obtain ⟨j, hj, rfl⟩ := List.mem_iff_getElem.1 ha
 rw [revP_len] at hj
 rw [revP_get p i hi j hj]
 split
 ·
  show (p.arcs[i].via.reverse).length ≤ K
  rw [List.length_reverse]
  exact hv _ (List.getElem_mem hi)
 · exact hv _ (List.getElem_mem hj)
theorem partRes_rev (p : Pl) (i : Nat) (hi : i < p.arcs.length) (s : Se) (n : Int) : (partRes (revP p i hi) s n).2 = (partRes p s n).2 := by
 unfold partRes
 rw [check_rev]
 split
 · rfl
 · split <;> rfl
/-- what the law compares -/
theorem rev_pieces {p : Pl} {i : Nat} {hi : i < p.arcs.length} (hV : Valid p) {b : Bx} (hx : b.x0 < b.x1) (hy : b.y0 < b.y1) (n : Int) {k : Nat} (hk : k < p.arcs.length) :
  (partS (revP p i hi) n b).pieces.filter (fun y => decide (y.arc = p.arcs[k].id)) = if k = i then turnedS ((partS p n b).pieces.filter (fun y => decide (y.arc = p.arcs[k].id))) else (partS p n b).pieces.filter (fun y => decide (y.arc = p.arcs[k].id)) := by
 have hV2 : Valid (revP p i hi) := (check_zero _).1 (by rw [check_rev]; exact (check_zero p).2 hV)
 have hk2 : k < (revP p i hi).arcs.length := by rw [revP_len]; exact hk
 have h1 := pieces_arc hV hx hy n (List.getElem_mem hk)
 have h2 := pieces_arc hV2 hx hy n (List.getElem_mem hk2)
 rw [revP_get p i hi k hk] at h2
 rw [h1]
 have hp : ∀ a, pathS (revP p i hi) a = pathS p a := fun a => rfl
 by_cases e : k = i
 ·
  subst e
  rw [if_pos rfl] at h2 ⊢
  rw [hp, path_rev, pieces_rev _ _ _ _ (Nat.le_refl _)] at h2
  exact h2
 ·
  rw [if_neg (fun h => e h.symm)] at h2
  rw [if_neg e]
  rw [hp] at h2
  exact h2
end Go.Proofs.YtfondidmklmonaaGreat
