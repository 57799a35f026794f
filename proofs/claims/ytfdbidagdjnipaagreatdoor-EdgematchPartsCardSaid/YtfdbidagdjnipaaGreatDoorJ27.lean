/- Plain law: two segments from a point in one direction have more than a point in common. No walk here. PLAIN: the crossings of the pieces of a path in a box are those that the path is expected to have. clip.Part. clip.All. -/
import Derived.Test.YtfdbidagdjnipaaGreatDoorJ26
import Derived.Test.YtfdbidagdjnipaaGreatDoorJ14
import Derived.Test.YtfdbidagdjnipaaGreatDoorJ23
import Derived.Test.YtfdbidagdjnipaaGreatDoorJ12
set_option linter.unusedSimpArgs false
set_option linter.unusedVariables false
namespace Go.Proofs.YtfdbidagdjnipaaGreatDoor
open Go.RowKit

/-- neither before the other: the same direction -/
theorem dir_same {o a b : Pt} (ha : a ≠ o) (hb : b ≠ o) (h1 : ¬ dirLt o a b) (h2 : ¬ dirLt o b a) : tw o a b = 0 ∧ (bef o a = true ↔ bef o b = true) := by
 have ha' := ne_vec.1 ha
 have hb' := ne_vec.1 hb
 unfold dirLt ltV at h1 h2
 have e : tw o a b = (a.x - o.x) * (b.y - o.y) - (a.y - o.y) * (b.x - o.x) := rfl
 rw [bef_iff, bef_iff, e]
 generalize hux : a.x - o.x = ux at *
 generalize huy : a.y - o.y = uy at *
 generalize hvx : b.x - o.x = vx at *
 generalize hvy : b.y - o.y = vy at *
 rw [Int.mul_comm vx, Int.mul_comm vy] at h2
 have hl : lowV ux uy ↔ lowV vx vy := by
  by_cases l1 : lowV ux uy <;> by_cases l2 : lowV vx vy <;> simp [l1, l2] at h1 h2 ⊢
 have hz : ux * vy - uy * vx = 0 := by
  rcases Int.lt_trichotomy (ux * vy - uy * vx) 0 with h | h | h
  · exact absurd (.inr ⟨hl.symm, by omega⟩) h2
  · exact h
  · exact absurd (.inr ⟨hl, h⟩) h1
 refine ⟨hz, ?_⟩
 have m1 : ∀ {a b : Int}, 0 < a → 0 < b → 0 < a * b := Int.mul_pos
 have m2 : ∀ {a b : Int}, 0 < a → b < 0 → a * b < 0 := Int.mul_neg_of_pos_of_neg
 have m3 : ∀ {a b : Int}, a < 0 → 0 < b → a * b < 0 := Int.mul_neg_of_neg_of_pos
 have m4 : ∀ {a b : Int}, a < 0 → b < 0 → 0 < a * b := Int.mul_pos_of_neg_of_neg
 unfold lowV at hl
 -- the signs of the first coordinates agree
 have key : (0 < ux ↔ 0 < vx) ∧ (ux < 0 ↔ vx < 0) := by
  rcases Int.lt_trichotomy uy 0 with y1 | y1 | y1
  ·
   have y2 : vy < 0 := by
    rcases Int.lt_trichotomy vy 0 with y2 | y2 | y2
    · exact y2
    ·
     have h3 : vx < 0 := by omega
     have := m4 y1 h3
     rw [y2, Int.mul_zero] at hz; omega
    · omega
   rcases Int.lt_trichotomy ux 0 with x1 | x1 | x1 <;> rcases Int.lt_trichotomy vx 0 with x2 | x2 | x2
   · omega
   · have := m4 x1 y2; rw [x2, Int.mul_zero] at hz; omega
   · have h3 := m4 x1 y2; have h4 := m3 y1 x2; omega
   · have := m4 y1 x2; rw [x1, Int.zero_mul] at hz; omega
   · omega
   · have := m3 y1 x2; rw [x1, Int.zero_mul] at hz; omega
   · have h3 := m2 x1 y2; have h4 := m4 y1 x2; omega
   · have := m2 x1 y2; rw [x2, Int.mul_zero] at hz; omega
   · omega
  ·
   rw [y1, Int.zero_mul] at hz
   have hx : ux ≠ 0 := by omega
   have y2 : vy = 0 := by
    rcases Int.mul_eq_zero.1 (show ux * vy = 0 by omega) with h | h
    · exact absurd h hx
    · exact h
   omega
  ·
   have y2 : 0 < vy := by
    rcases Int.lt_trichotomy vy 0 with y2 | y2 | y2
    · omega
    ·
     have h3 : 0 < vx := by omega
     have := m1 y1 h3
     rw [y2, Int.mul_zero] at hz; omega
    · exact y2
   rcases Int.lt_trichotomy ux 0 with x1 | x1 | x1 <;> rcases Int.lt_trichotomy vx 0 with x2 | x2 | x2
   · omega
   · have := m3 x1 y2; rw [x2, Int.mul_zero] at hz; omega
   · have h3 := m3 x1 y2; have h4 := m1 y1 x2; omega
   · have := m2 y1 x2; rw [x1, Int.zero_mul] at hz; omega
   · omega
   · have := m1 y1 x2; rw [x1, Int.zero_mul] at hz; omega
   · have h3 := m1 x1 y2; have h4 := m2 y1 x2; omega
   · have := m1 x1 y2; rw [x2, Int.mul_zero] at hz; omega
   · omega
 omega
theorem shared_two {o a b : Pt} (ha : a ≠ o) (hb : b ≠ o) (h : bef o a = true ↔ bef o b = true) : sharedS o a o b = 2 := by
 have tri : ∀ q : Pt, q ≠ o → bef o q = true ∨ bef q o = true := fun q hq => by
  cases h1 : bef o q
  ·
   cases h2 : bef q o
   · exact absurd (bef_tri h2 h1) hq
   · exact .inr rfl
  · exact .inl rfl
 rw [sharedS_def]
 rcases tri a ha with h1 | h1
 ·
  have h2 := h.1 h1
  have e1 : lo o a = o := by unfold lo; rw [bef_asym h1]; simp
  have e2 : lo o b = o := by unfold lo; rw [bef_asym h2]; simp
  have e3 : hi o a = a := by unfold hi; rw [bef_asym h1]; simp
  have e4 : hi o b = b := by unfold hi; rw [bef_asym h2]; simp
  have e5 : hi o o = o := by unfold hi; rw [bef_irr]; simp
  rw [e1, e2, e3, e4, e5]
  have e6 : lo a b = a ∨ lo a b = b := by unfold lo; split; exact .inr rfl; exact .inl rfl
  rcases e6 with e6 | e6 <;> rw [e6]
  · rw [if_neg (fun e => ha e.symm), if_pos h1]
  · rw [if_neg (fun e => hb e.symm), if_pos h2]
 ·
  have h2 : bef b o = true := by
   rcases tri b hb with h3 | h3
   · rw [bef_asym (h.2 h3)] at h1; cases h1
   · exact h3
  have e1 : lo o a = a := by unfold lo; rw [h1]; simp
  have e2 : lo o b = b := by unfold lo; rw [h2]; simp
  have e3 : hi o a = o := by unfold hi; rw [h1]; simp
  have e4 : hi o b = o := by unfold hi; rw [h2]; simp
  have e5 : lo o o = o := by unfold lo; rw [bef_irr]; simp
  rw [e1, e2, e3, e4, e5]
  have e6 : hi a b = a ∨ hi a b = b := by unfold hi; split; exact .inl rfl; exact .inr rfl
  rcases e6 with e6 | e6 <;> rw [e6]
  · rw [if_neg ha, if_pos h1]
  · rw [if_neg hb, if_pos h2]
/-- Two segments from one point in one direction have more than a point in common. -/
theorem meet_dir {o a b : Pt} (ho : near1 o = true) (hna : near1 a = true) (hnb : near1 b = true) (ha : a ≠ o) (hb : b ≠ o) (h1 : ¬ dirLt o a b) (h2 : ¬ dirLt o b a) :
  rmeetS o a o b = 2 ∧ rmeetS a o o b = 2 ∧ rmeetS o a b o = 2 ∧ rmeetS a o b o = 2 := by
 obtain ⟨hc, hbf⟩ := dir_same ha hb h1 h2
 have hs := shared_two ha hb hbf
 have c1 : sharedS a o o b = 2 := by rw [← hs]; exact sharedS_flip a o o b
 have c2 : sharedS o a b o = 2 := by rw [sharedS_comm, sharedS_flip, sharedS_comm]; exact hs
 have c3 : sharedS a o b o = 2 := by rw [sharedS_comm, sharedS_flip, sharedS_comm]; exact c1
 unfold tw at hc
 unfold rmeetS rmeetN
 refine ⟨?_, ?_, ?_, ?_⟩
 · rw [if_pos (near4 ho hna ho hnb), if_neg (fun e => ha e.1.symm), if_pos (by unfold crossS; grind), if_pos ⟨by unfold crossS; grind, by unfold crossS; grind, by unfold crossS; grind, by unfold crossS; grind⟩]; exact hs
 · rw [if_pos (near4 hna ho ho hnb), if_neg (fun e => ha e.1), if_pos (by unfold crossS; grind), if_pos ⟨by unfold crossS; grind, by unfold crossS; grind, by unfold crossS; grind, by unfold crossS; grind⟩]; exact c1
 · rw [if_pos (near4 ho hna hnb ho), if_neg (fun e => ha e.1.symm), if_pos (by unfold crossS; grind), if_pos ⟨by unfold crossS; grind, by unfold crossS; grind, by unfold crossS; grind, by unfold crossS; grind⟩]; exact c2
 · rw [if_pos (near4 hna ho hnb ho), if_neg (fun e => ha e.1), if_pos (by unfold crossS; grind), if_pos ⟨by unfold crossS; grind, by unfold crossS; grind, by unfold crossS; grind, by unfold crossS; grind⟩]; exact c3
end Go.Proofs.YtfdbidagdjnipaaGreatDoor
namespace Go.Proofs.YtfdbidagdjnipaaGreatDoor

/-- the run at which a piece goes out is the one at which the turned piece comes in -/
theorem leave_turn (g : Ed) (y : Pc) : leaveS g y = (enterS g (turnPc y)).reverse := by
 have hle : leadN g y.path.reverse ≤ y.path.length := by
  have := (List.takeWhile_prefix (onE g) (l := y.path.reverse)).length_le
  rw [List.length_reverse] at this
  exact this
 have ht : trailN g y.path = y.path.length - leadN g y.path.reverse := rfl
 unfold leaveS enterS turnPc
 simp only [List.length_reverse]
 by_cases h1 : y.leave ≠ g.side
 · rw [if_pos h1, if_pos h1]; rfl
 ·
  rw [if_neg h1, if_neg h1, ht]
  by_cases h2 : leadN g y.path.reverse = y.path.length
  ·
   rw [if_pos h2, if_pos (by omega)]
   by_cases h3 : y.enter = 0 ∨ y.enter = g.side
   · rw [if_pos h3, if_pos h3]; rfl
   ·
    rw [if_neg h3, if_neg h3, List.reverse_take, List.reverse_reverse, List.length_reverse]
    congr 1
    by_cases h4 : 1 < y.path.length
    · rw [if_pos h4, if_pos h4]; omega
    · rw [if_neg h4, if_neg h4]; omega
  · rw [if_neg h2, if_neg (by omega), List.reverse_take, List.reverse_reverse, List.length_reverse]
theorem piece_cr (g : Ed) (ns : List Nd) (y : Pc) : pieceS g ns y = crO g ns y.arc 0 (enterS g y) ++ crO g ns y.arc 1 (leaveS g y) := rfl
theorem crO_closed {g : Ed} {ns : List Nd} {id o : Int} {l : List Pt} (h : ¬ openS g ns l = true) : crO g ns id o l = [] := by unfold crO; rw [if_neg h]
theorem one_exp {g : Ed} {ns : List Nd} {arc en lv : Int} {P E F : List Pt} (h1 : (1 < (cmpP P).length → EqO g ns (enterS g ⟨arc, cmpP P, en, lv⟩) E) ∧ (¬ 1 < (cmpP P).length → ¬ openS g ns E = true))
  (h2 : (1 < (cmpP P.reverse).length → EqO g ns (enterS g ⟨arc, cmpP P.reverse, lv, en⟩) F) ∧ (¬ 1 < (cmpP P.reverse).length → ¬ openS g ns F = true)) :
  (oneS arc P en lv).flatMap (pieceS g ns) = crO g ns arc 0 E ++ crO g ns arc 1 F.reverse := by
 unfold oneS
 rw [cmpP_rev, List.length_reverse] at h2
 by_cases h : 1 < (cmpP P).length
 ·
  rw [if_pos h, List.flatMap_cons, List.flatMap_nil, List.append_nil, piece_cr, leave_turn]
  rw [(h1.1 h).cr, show turnPc ⟨arc, cmpP P, en, lv⟩ = ⟨arc, (cmpP P).reverse, lv, en⟩ from rfl, (h2.1 h).rev.cr]
 ·
  rw [if_neg h, List.flatMap_nil, crO_closed (h1.2 h), crO_closed (by rw [open_rev]; exact h2.2 h)]
  rfl
theorem NRp_rev {l : List Pt} (h : NRp l) : NRp l.reverse := by
 intro k hk
 rw [List.length_reverse] at hk
 rw [List.getD_eq_getElem?_getD, List.getD_eq_getElem?_getD, List.getElem?_reverse (by omega), List.getElem?_reverse (by omega)]
 have := h (l.length - 1 - (k + 1)) (by omega)
 rw [List.getD_eq_getElem?_getD, List.getD_eq_getElem?_getD, show l.length - 1 - (k + 1) + 1 = l.length - 1 - k by omega] at this
 exact fun e => this e.symm
section
variable {ns : List Nd} {b : Bx} (hx : b.x0 < b.x1) (hy : b.y0 < b.y1) {side : Int} {g : Ed} (hg : edOf b side = some g)
include hx hy hg
theorem in_line_rng {v : Pt} (hv : inB b v = false) : onE g v = true → ¬ rngE g v := by
 intro ho hr
 rw [inB_no] at hv
 rw [on_iffE hg] at ho
 rw [rng_iffE hg] at hr
 omega
theorem piece_mid {arc : Int} {p e : Pt} {m : List Pt} (hm : ∀ x ∈ m, inB b x = true) (hn : NRp (p :: (m ++ [e]))) :
  (piecesS arc (p :: (m ++ [e])) b).flatMap (pieceS g ns) = expR g ns arc none (p :: (m ++ [e])) := by
 rw [exp_mid hg (fun q hq => in_notout hg (hm q hq))]
 have hnm : NRp m := NRp.pre (NRp.tail hn)
 have hmr : ∀ x ∈ m.reverse, inB b x = true := fun x hx' => hm x (List.mem_reverse.1 hx')
 cases hmm : m with
 | nil =>
  show (piecesS arc [p, e] b).flatMap _ = _
  rw [pieces_two]
  cases hc : clipS p e b with
  | none =>
   have key : ∀ {p e : Pt}, clipS p e b = none → crO g ns arc 0 (enRun g p [] e) = [] ∧ ¬ openS g ns (enRun g p [] e) = true := by
    intro p e hc
    have hno : ¬ openS g ns (enRun g p [] e) = true := fun ho => by
     obtain ⟨-, n, d, h1, h2⟩ := en_side hx hy hg (m := []) (fun x hx => by cases hx) ho
     have hn := clip_is p e b
     rw [hc] at hn
     exact hn n d h1 h2
    exact ⟨crO_closed hno, hno⟩
   have hc2 : clipS e p b = none := by rw [clip_rev p e b, hc]; rfl
   rw [(key hc).1, crO_closed (by rw [open_rev]; exact (key hc2).2)]
   rfl
  | some r =>
   obtain ⟨c, d⟩ := r
   have hc2 : clipS e p b = some (d, c) := by rw [clip_rev p e b, hc]; rfl
   exact one_exp (ent_two hx hy hg hc rfl rfl rfl) (ent_two hx hy hg hc2 rfl rfl rfl)
 | cons q m' =>
  rw [← hmm]
  obtain ⟨k, hk⟩ : ∃ k, m.getLast? = some k := by
   cases h : m.getLast? with
   | none => rw [hmm] at h; simp at h
   | some k => exact ⟨k, rfl⟩
  have hq : m.head? = some q := by rw [hmm]; rfl
  have hqi := hm q (by rw [hmm]; simp)
  have hki := hm k (List.mem_of_getLast? hk)
  obtain ⟨c, hc⟩ := clip_into (p := p) hqi
  obtain ⟨d, hd0⟩ := clip_into (p := e) hki
  have hd : clipS k e b = some (k, d) := by rw [clip_rev e k b, hd0]; rfl
  rw [pieces_mid hm hq hk hc hd]
  refine one_exp (ent_mid hx hy hg hm hnm hq hk hc hd0 rfl rfl rfl) (ent_mid hx hy hg hmr (NRp_rev hnm) (by rw [List.head?_reverse]; exact hk) (by rw [List.getLast?_reverse]; exact hq) hd0 hc rfl rfl ?_)
  congr 1
  simp
theorem pieces_exp (arc : Int) : ∀ (n : Nat) (l : List Pt), l.length ≤ n → NRp l → MonoE g l → (piecesS arc l b).flatMap (pieceS g ns) = expR g ns arc none l
 | 0, l, h, _, _ => by
  have : l = [] := List.eq_nil_of_length_eq_zero (by omega)
  subst this
  rfl
 | n + 1, l, h, hn, hmo => by
  cases l with
  | nil => rfl
  | cons p r =>
   rcases List.eq_nil_or_concat r with e | ⟨m, e, he⟩
   ·
    subst e
    show _ = expR g ns arc none [p]
    cases ho : onE g p
    · rw [exp_none_off ho, exp_nil]; rfl
    · rw [exp_none_on ho, exp_nil]; rfl
   rw [List.concat_eq_append] at he
   subst he
   by_cases hall : ∀ x ∈ m, inB b x = true
   · exact piece_mid hx hy hg hall hn
   ·
    obtain ⟨v, hv, hvo⟩ : ∃ v ∈ m, inB b v = false := by
     apply Classical.byContradiction
     intro hno
     apply hall
     intro x hx
     cases hx2 : inB b x
     · exact absurd ⟨x, hx, hx2⟩ hno
     · rfl
    obtain ⟨m1, m2, hmm⟩ := List.append_of_mem hv
    subst hmm
    have e1 : m1 ++ v :: m2 ++ [e] = m1 ++ v :: (m2 ++ [e]) := by simp
    rw [e1] at hn hmo ⊢
    have hlen : (p :: (m1 ++ v :: m2 ++ [e])).length = m1.length + m2.length + 3 := by simp; omega
    rw [hlen] at h
    have e2 : p :: (m1 ++ v :: (m2 ++ [e])) = (p :: (m1 ++ [v])) ++ (m2 ++ [e]) := by simp
    have e3 : p :: (m1 ++ v :: (m2 ++ [e])) = (p :: m1) ++ (v :: (m2 ++ [e])) := by simp
    have i1 := pieces_exp arc n (v :: (m2 ++ [e])) (by simp; omega) (NRp.suf (by rw [← e3]; exact hn)) (MonoE.suf (by rw [← e3]; exact hmo))
    have i2 := pieces_exp arc n (p :: (m1 ++ [v])) (by simp; omega) (NRp.pre (by rw [← e2]; exact hn)) (MonoE.pre (by rw [← e2]; exact hmo))
    rw [pieces_split arc b p m1 v _ hvo, List.flatMap_append, i1, i2]
    have hs := exp_split (ns := ns) (id := arc) (in_line_rng hx hy hg hvo) (m2 ++ [e]) (p :: m1) none (fun q hq => by cases hq) hmo hn
    exact hs.symm
end
/-- three points of a valid path on one line go one way -/
theorem mono_path {p : Pl} (h : Valid p) {a : Ar} (ha : a ∈ p.arcs) (g : Ed) : MonoE g (pathS p a) := by
 intro k hk h0 h1 h2
 have d1 := (h.distinct ha (k := k) (by omega)).1
 have d2 := (h.distinct ha (k := k + 1) (by omega)).1
 have n0 := h.pt_near ha (k := k) (by omega)
 have n1 := h.pt_near ha (k := k + 1) (by omega)
 have n2 := h.pt_near ha (k := k + 2) (by omega)
 have hap := h.segs.2.1 a ha k (k + 1) (by omega) (by omega)
 unfold apartS at hap
 rw [if_pos (.inl rfl)] at hap
 unfold segK at hap
 simp only [beq_iff_eq] at hap
 generalize (pathS p a).getD k pt0 = u at *
 generalize (pathS p a).getD (k + 1) pt0 = o at *
 rw [show k + 1 + 1 = k + 2 by omega] at *
 generalize (pathS p a).getD (k + 2) pt0 = v at *
 unfold onE at h0 h1 h2
 rw [decide_eq_true_iff] at h0 h1 h2
 apply Classical.byContradiction
 intro hno
 have hdir : ¬ dirLt o u v ∧ ¬ dirLt o v u := by
  have hu : ¬ (u.x = o.x ∧ u.y = o.y) := fun e => d1 (Pt.ext_iff'.2 e)
  have hv : ¬ (v.x = o.x ∧ v.y = o.y) := fun e => d2 (Pt.ext_iff'.2 ⟨e.1.symm, e.2.symm⟩)
  unfold dirLt ltV lowV
  unfold acrossS at h0 h1 h2
  unfold alongS at hno
  cases hup : g.upright
  ·
   rw [hup] at h0 h1 h2 hno
   simp only [Bool.false_eq_true, if_false] at h0 h1 h2 hno
   rw [show u.y - o.y = 0 by omega, show v.y - o.y = 0 by omega]
   simp only [Int.zero_mul, Int.mul_zero]
   refine ⟨?_, ?_⟩ <;> (rintro (⟨z1, z2⟩ | ⟨z1, z2⟩) <;> (try simp only [true_and] at z1 z2) <;> omega)
  ·
   rw [hup] at h0 h1 h2 hno
   simp only [if_true] at h0 h1 h2 hno
   rw [show u.x - o.x = 0 by omega, show v.x - o.x = 0 by omega]
   simp only [Int.zero_mul, Int.mul_zero]
   refine ⟨?_, ?_⟩ <;> (rintro (⟨z1, z2⟩ | ⟨z1, z2⟩) <;> (try simp only [true_and] at z1 z2) <;> omega)
 obtain ⟨-, r2, -, -⟩ := meet_dir n1 n0 n2 d1 (fun e => d2 e.symm) hdir.1 hdir.2
 rw [r2] at hap
 exact absurd hap (by decide)
/-- a valid path: its pieces' crossings are the expected ones -/
theorem path_exp {p : Pl} (h : Valid p) {a : Ar} (ha : a ∈ p.arcs) {ns : List Nd} {b : Bx} (hx : b.x0 < b.x1) (hy : b.y0 < b.y1) {side : Int} {g : Ed} (hg : edOf b side = some g) :
  (piecesS a.id (pathS p a) b).flatMap (pieceS g ns) = (expAt g ns a.id (pathS p a) (pathS p a).length).2 := by
 rw [exp_all]
 refine pieces_exp hx hy hg a.id _ _ (Nat.le_refl _) ?_ (mono_path h ha g)
 intro k hk
 exact (h.distinct ha hk).1
end Go.Proofs.YtfdbidagdjnipaaGreatDoor
namespace Go.Proofs.YtfdbidagdjnipaaGreatDoor
open Go.RowKit

theorem InS.smB {s : Se} {n : Int} (h : InS s n) : smB (boxOf s n) ∧ (boxOf s n).x0 < (boxOf s n).x1 ∧ (boxOf s n).y0 < (boxOf s n).y1 := by
 have hb := seOk_bd h.ok
 have hi := h.bd
 have hx := hb.x; have hy := hb.y; have hw := hb.w; have hh := hb.h; have hc := hb.c; have hr := hb.r
 have h1 := mul_bds (a := colS s n) (b := s.width) (m := 16) (n := 65536) hi.1 (by omega) (by omega) hw.2
 have h2 := mul_bds (a := rowS s n) (b := s.height) (m := 16) (n := 65536) hi.2.2.1 (by omega) (by omega) hh.2
 unfold boxOf Go.Proofs.YtfdbidagdjnipaaGreatDoor.smB sm22
 refine ⟨⟨⟨⟨?_, ?_⟩, ?_, ?_⟩, ⟨?_, ?_⟩, ?_, ?_⟩, ?_, ?_⟩ <;> simp only <;> omega
def prt0 : Prt := ⟨0, [], []⟩
def partRes (p : Pl) (s : Se) (n : Int) : Prt × Int :=
 if checkS p ≠ 0 then (prt0, checkS p) else if findE s n ≠ 0 then (prt0, findE s n) else (partS p n (boxOf s n), 0)
def RetPrtE (w : World) (r : Prt × Int) (e : Ending) (w' : World) : Prop :=
 ∃ A n c A' n' c', e = .returned (.tuple #[.agg #[.int .i64 r.1.sheet, .slice A n c, .slice A' n' c'], .int .i64 r.2]) ∧ Below w.heap.size w w' ∧ PrtO w' w.heap.size r.1 (.slice A n c) (.slice A' n' c')
theorem PrtO.zero (w : World) (B : Nat) : PrtO w B prt0 (.slice none 0 0) (.slice none 0 0) := ⟨[], ⟨Own.nil _ _ _ _ _, fun x hx => by cases hx⟩, rfl, Own.nil _ _ _ _ _⟩
theorem PrtO.keep {w w' : World} {B : Nat} {x : Prt} {vp vn : Value} (h : PrtO w B x vp vn) (hb : Below w.heap.size w w') : PrtO w' B x vp vn := by
 obtain ⟨L, h1, h2, h3⟩ := h
 exact ⟨L, h1.keep hb, h2, h3.keep hb⟩
theorem PrtO.base {w : World} {B B' : Nat} {x : Prt} {vp vn : Value} (h : PrtO w B x vp vn) (hb : B' ≤ B) : PrtO w B' x vp vn := by
 obtain ⟨L, h1, h2, h3⟩ := h
 exact ⟨L, ⟨h1.own.mono_base hb, fun x hx => (h1.path x hx).mono_base hb⟩, h2, h3.mono_base hb⟩
theorem PrtO.far {w : World} {B g : Nat} {x : Prt} {vp vn : Value} (h : PrtO w B x vp vn) {t : TypeId} {cs : Array Value} (hg : Blk w g t cs) (h1 : 68 ≠ t) (h2 : 28 ≠ t) (h3 : 93 ≠ t) (i : Nat) (u : Value) : PrtO (w.setCell ⟨g, i, none⟩ u) B x vp vn := by
 obtain ⟨L, p1, p2, p3⟩ := h
 exact ⟨L, p1.far hg h1 h2 i u, p2, p3.far (Own.ne_blk p3 hg h3) u⟩
theorem PrtO.grown {w w' : World} {B : Nat} {x : Prt} {vp vn : Value} (h : PrtO w B x vp vn) {row : Option Nat} (hg : w.grownBy w' row) (h1 : ∀ α (f : α → List Value) v (l : List α) s t, (t = 68 ∨ t = 28 ∨ t = 93) → Own w B t s f v l → ∀ k, v.ownBlock = some k → some k ≠ row) : PrtO w' B x vp vn := by
 obtain ⟨L, p1, p2, p3⟩ := h
 exact ⟨L, ⟨Own.grown p1.own hg (h1 _ _ _ _ _ _ (.inl rfl) p1.own), fun y hy => Own.grown (p1.path y hy) hg (h1 _ _ _ _ _ _ (.inr (.inl rfl)) (p1.path y hy))⟩, p2, Own.grown p3 hg (h1 _ _ _ _ _ _ (.inr (.inr rfl)) p3)⟩
set_option maxRecDepth 100000 in
set_option maxHeartbeats 8000000 in
theorem Part_spec (v : Value) (p : Pl) (s : Se) (n : Int) (w : World) (h : PlV w v p) (hs : SmP p) : Calls Tryz.prog 10 #[v, seV s, .int .i64 n] w (RetPrtE w (partRes p s n)) := by
 have HP := Lib.hid h; have HSm := Lib.hid hs
 have TC := fun (W : World) hW => Check_spec v p W (h.mono hW)
 have HCk := Lib.hid TC
 have HBx := Lib.hid (fun W => sBox_spec s n W)
 obtain ⟨q, hq⟩ : ∃ q, partRes p s n = q := ⟨_, rfl⟩
 rw [hq]
 unfold partRes at hq
 have HQ := Lib.hid hq
 obtain ⟨vn, va, vf, al, rfl, -⟩ := h
 unfold seV at HBx ⊢
 clear hq hs TC
 obtain ⟨s0, hs0⟩ : ∃ s0, w.heap.size = s0 := ⟨_, rfl⟩
 obtain ⟨g4, h4⟩ : ∃ g, s0 + 1 = g := ⟨_, rfl⟩
 obtain ⟨g6, h6⟩ : ∃ g, g4 + 1 = g := ⟨_, rfl⟩
 obtain ⟨W, hW⟩ : ∃ W : World, W = ((w.alloc (.cells #[vn, va, vf] 26)).alloc (.cells #[.int .i64 s.at_.x, .int .i64 s.at_.y, .int .i64 s.width, .int .i64 s.height, .int .i64 s.cols, .int .i64 s.rows] 30)).alloc (.cells #[.int .i64 0, .slice none 0 0, .slice none 0 0] 45) := ⟨_, rfl⟩
 have HB0 := Lib.hid (show Below w.heap.size w W by rw [hW]; exact bA (bA (bA (bR w) _) _) _)
 have X3 : Blk W s0 26 #[vn, va, vf] := by rw [hW]; exact ((Blk.made hs0.symm _ _).alloc _).alloc _
 have X4 : Blk W g4 30 #[.int .i64 s.at_.x, .int .i64 s.at_.y, .int .i64 s.width, .int .i64 s.height, .int .i64 s.cols, .int .i64 s.rows] := by rw [hW]; exact (Blk.made (by simp; omega) _ _).alloc _
 have X6 : Blk W g6 45 #[.int .i64 0, .slice none 0 0, .slice none 0 0] := by rw [hW]; exact Blk.made (by simp; omega) _ _
 go_enter Tryz.func10, Tryz.ntmps10
 go_upto_region 1 with fail
 try rw [← hW]
 have HG := Lib.hid (show w.heap.size = s0 ∧ s0 + 1 = g4 ∧ g4 + 1 = g6 from ⟨hs0, h4, h6⟩)
 clear hW hs0 h4 h6
 have hq0 : w.heap.size ≤ g6 := by have := HG.out; omega
 obtain ⟨X3l, X3a, X3b, X3c, -, -, -⟩ := X3.facts3
 go_wp2_with fail
 refine (HCk.out _ HB0.out).mono ?_
 rintro e w1 ⟨rfl, hb1⟩
 have HB1 := Lib.hid (bT HB0.out hb1)
 replace X3 := X3.keep hb1
 replace X4 := X4.keep hb1
 replace X6 := X6.keep hb1
 have HX6 := Lib.hid X6
 clear hb1 HCk HB0
 by_cases hck : checkS p = 0
 case neg =>
  have hne : (checkS p != 0) = true := by simp [hck]
  have hq := HQ.out
  rw [if_pos hck] at hq
  have HF := Lib.hid hq
  clear hq hck
  generalize checkS p = z at *
  obtain ⟨X6l, X6a, X6b, X6c, X6fa, X6fb, X6fc⟩ := X6.facts3
  go_wp2_with fail
  refine res_cell_tmp (g := g6) (cs := #[.int .i64 0, .slice none 0 0, .slice none 0 0]) rfl struct_prt rfl rfl (Blk.put3 HX6.out) ⟨none, 0, 0, none, 0, 0, ?_, ?_, ?_⟩
  · rw [← HF.out]; rfl
  · exact ((HB1.out.setCell (p := ⟨g6, 0, none⟩) hq0 _).setCell (p := ⟨g6, 1, none⟩) hq0 _).setCell (p := ⟨g6, 2, none⟩) hq0 _
  · rw [← HF.out]; exact PrtO.zero _ _
 have hq := HQ.out
 rw [if_neg (fun h => h hck)] at hq
 have HQ1 := Lib.hid hq
 have HVd := Lib.hid ((check_zero p).1 hck)
 rw [hck]
 clear hq hck HQ
 try clear X3l X3a X3b X3c
 obtain ⟨X4l, X4a, X4b, X4c, X4d, X4e, X4f, -, -, -, -, -, -⟩ := X4.facts6
 go_wp2_with fail
 refine (HBx.out _).mono ?_
 rintro e w2 ⟨rfl, hb2⟩
 have HB2 := Lib.hid (bT HB1.out hb2)
 replace X3 := X3.keep hb2
 replace X6 := X6.keep hb2
 replace HX6 := Lib.hid X6
 clear hb2 HB1 HBx X4 X4l X4a X4b X4c X4d X4e X4f
 by_cases hfe : findE s n = 0
 case neg =>
  have hne : (findE s n != 0) = true := by simp [hfe]
  have hq := HQ1.out
  rw [if_pos hfe] at hq
  have HF := Lib.hid hq
  have hbr : boxRes s n = (bx0, findE s n) := by unfold boxRes; rw [if_neg hfe]
  rw [hbr]
  clear hq hfe hbr
  generalize findE s n = z at *
  unfold boxV bxV bx0
  try clear X6l
  try clear X6a
  try clear X6b
  try clear X6c
  try clear X6fa
  try clear X6fb
  try clear X6fc
  obtain ⟨X6l, X6a, X6b, X6c, X6fa, X6fb, X6fc⟩ := X6.facts3
  go_wp2_with fail
  refine res_cell_tmp (g := g6) (cs := #[.int .i64 0, .slice none 0 0, .slice none 0 0]) rfl struct_prt rfl rfl ((Blk.put3 HX6.out).alloc _) ⟨none, 0, 0, none, 0, 0, ?_, ?_, ?_⟩
  · rw [← HF.out]; rfl
  · exact bA (((HB2.out.setCell (p := ⟨g6, 0, none⟩) hq0 _).setCell (p := ⟨g6, 1, none⟩) hq0 _).setCell (p := ⟨g6, 2, none⟩) hq0 _) _
  · rw [← HF.out]; exact PrtO.zero _ _
 have hq := HQ1.out
 rw [if_neg (fun h => h hfe)] at hq
 have hbr : boxRes s n = (boxOf s n, 0) := by unfold boxRes; rw [if_pos hfe]
 have hin := (findE_zero.1 hfe).smB.1
 have HPt := Lib.hid (fun (W : World) hW => part_spec _ p n (boxOf s n) W (HP.out.mono hW) HVd.out HSm.out hin)
 obtain ⟨x, hx⟩ : ∃ x, partS p n (boxOf s n) = x := ⟨_, rfl⟩
 rw [hx] at hq HPt
 rw [hbr]
 have HFq := Lib.hid hq
 have hxs : x.sheet = n := by rw [← hx]; rfl
 have HXs := Lib.hid hxs
 clear hq hbr hfe hin HQ1 hx hxs
 generalize boxOf s n = bx at *
 unfold boxV
 unfold bxV at *
 try clear X3l
 try clear X3a
 try clear X3b
 try clear X3c
 obtain ⟨X3l, X3a, X3b, X3c, -, -, -⟩ := X3.facts3
 go_wp2_with fail
 refine (HPt.out _ (bA HB2.out _)).mono ?_
 rintro e w3 ⟨A, m, c, A', m', c', rfl, hb3, hpo⟩
 rw [HXs.out]
 have HX63 := Lib.hid ((HX6.out.alloc _).keep hb3)
 have HB3 := Lib.hid (bT (bA HB2.out _) hb3)
 have HPO := Lib.hid (hpo.base (show w.heap.size ≤ _ from (bA HB2.out _).size))
 have X6 := HX63.out
 clear hb3 hpo X3 X3l X3a X3b X3c HB2 HX6
 try clear X6l
 try clear X6a
 try clear X6b
 try clear X6c
 try clear X6fa
 try clear X6fb
 try clear X6fc
 obtain ⟨X6l, X6a, X6b, X6c, X6fa, X6fb, X6fc⟩ := X6.facts3
 go_wp2_with fail
 refine res_cell_tmp (g := g6) (cs := #[.int .i64 n, .slice A m c, .slice A' m' c']) rfl struct_prt rfl rfl (Blk.put3 HX63.out) ⟨A, m, c, A', m', c', ?_, ?_, ?_⟩
 · rw [← HFq.out]; simp only; rw [HXs.out]; rfl
 · exact ((HB3.out.setCell (p := ⟨g6, 0, none⟩) hq0 _).setCell (p := ⟨g6, 1, none⟩) hq0 _).setCell (p := ⟨g6, 2, none⟩) hq0 _
 ·
  rw [← HFq.out]
  have x0 := HX63.out.set_ 0 (.int .i64 n)
  have x1 := x0.set_ 1 (.slice A m c)
  exact ((HPO.out.far HX63.out (by decide) (by decide) (by decide) 0 _).far x0 (by decide) (by decide) (by decide) 1 _).far x1 (by decide) (by decide) (by decide) 2 _
end Go.Proofs.YtfdbidagdjnipaaGreatDoor
namespace Go.Proofs.YtfdbidagdjnipaaGreatDoor
open Go.RowKit

def prS (x : Prt × SV × SV) : List Value := [.int .i64 x.1.sheet, .slice x.2.1.a x.2.1.n x.2.1.c, .slice x.2.2.a x.2.2.n x.2.2.c]
theorem prS_len (x : Prt × SV × SV) : (prS x).length = 3 := rfl
theorem prS_one (x : Prt × SV × SV) : ∀ u ∈ prS x, u.oneCell' = true := by simp [prS, Value.oneCell']
theorem elem_prt : Elem Tryz.prog 36 45 3 56 := Elem.mk_ (z := .agg #[.int .i64 0, .slice none 0 0, .slice none 0 0]) (by kernel_rfl) (by kernel_rfl) rfl (by omega)
/-- a list of parts of the call's own -/
structure PrtsO (w : World) (B : Nat) (v : Value) (L : List (Prt × SV × SV)) : Prop where
 own : Own w B 45 3 prS v L
 part : ∀ x ∈ L, PrtO w B x.1 (.slice x.2.1.a x.2.1.n x.2.1.c) (.slice x.2.2.a x.2.2.n x.2.2.c)
theorem PrtsO.keep {w w' : World} {B : Nat} {v : Value} {L : List (Prt × SV × SV)} (h : PrtsO w B v L) (hb : Below w.heap.size w w') : PrtsO w' B v L := ⟨h.own.keep hb, fun x hx => (h.part x hx).keep hb⟩
def RetPrts (w : World) (r : List Prt × Int) (e : Ending) (w' : World) : Prop :=
 ∃ A c L, e = .returned (.tuple #[.slice A r.1.length c, .int .i64 r.2]) ∧ Below w.heap.size w w' ∧ L.map (·.1) = r.1 ∧ PrtsO w' w.heap.size (.slice A r.1.length c) L
def partI (p : Pl) (s : Se) (i : Nat) : Prt := partS p ((i : Int) + 1) (boxOf s ((i : Int) + 1))
def allS (p : Pl) (s : Se) : List Prt := (List.range (s.cols * s.rows).toNat).map (partI p s)
def allRes (p : Pl) (s : Se) : List Prt × Int :=
 if checkS p ≠ 0 then ([], checkS p) else if seCheck s ≠ 0 then ([], seCheck s) else (allS p s, 0)
theorem RetPrts.nil {w w' : World} (hb : Below w.heap.size w w') (z : Int) : RetPrts w ([], z) (.returned (.tuple #[.slice none 0 0, .int .i64 z])) w' :=
 ⟨none, 0, [], rfl, hb, rfl, Own.nil _ _ _ _ _, fun x hx => by cases hx⟩
set_option maxRecDepth 100000 in
set_option maxHeartbeats 8000000 in
theorem All_spec (v : Value) (p : Pl) (s : Se) (w : World) (h : PlV w v p) (hs : SmP p) : Calls Tryz.prog 8 #[v, seV s] w (RetPrts w (allRes p s)) := by
 have HP := Lib.hid h; have HSm := Lib.hid hs
 have TC := fun (W : World) hW => Check_spec v p W (h.mono hW)
 have HCk := Lib.hid TC
 have HSc := Lib.hid (fun W => sCheck_spec s W)
 have HBx := Lib.hid (fun n W => sBox_spec s n W)
 obtain ⟨q, hq⟩ : ∃ q, allRes p s = q := ⟨_, rfl⟩
 rw [hq]
 unfold allRes at hq
 have HQ := Lib.hid hq
 obtain ⟨vn, va, vf, al, rfl, -⟩ := h
 unfold seV at HSc HBx ⊢
 clear hq hs TC
 obtain ⟨s0, hs0⟩ : ∃ s0, w.heap.size = s0 := ⟨_, rfl⟩
 obtain ⟨g4, h4⟩ : ∃ g, s0 + 1 = g := ⟨_, rfl⟩
 obtain ⟨W, hW⟩ : ∃ W : World, W = (w.alloc (.cells #[vn, va, vf] 26)).alloc (.cells #[.int .i64 s.at_.x, .int .i64 s.at_.y, .int .i64 s.width, .int .i64 s.height, .int .i64 s.cols, .int .i64 s.rows] 30) := ⟨_, rfl⟩
 have HB0 := Lib.hid (show Below w.heap.size w W by rw [hW]; exact bA (bA (bR w) _) _)
 have X3 : Blk W s0 26 #[vn, va, vf] := by rw [hW]; exact (Blk.made hs0.symm _ _).alloc _
 have X4 : Blk W g4 30 #[.int .i64 s.at_.x, .int .i64 s.at_.y, .int .i64 s.width, .int .i64 s.height, .int .i64 s.cols, .int .i64 s.rows] := by rw [hW]; exact Blk.made (by simp; omega) _ _
 go_enter Tryz.func8, Tryz.ntmps8
 go_upto_region 1 with fail
 try rw [← hW]
 clear hW hs0 h4
 obtain ⟨X3l, X3a, X3b, X3c, -, -, -⟩ := X3.facts3
 go_wp2_with fail
 refine (HCk.out _ HB0.out).mono ?_
 rintro e w1 ⟨rfl, hb1⟩
 have HB1 := Lib.hid (bT HB0.out hb1)
 replace X3 := X3.keep hb1
 replace X4 := X4.keep hb1
 clear hb1 HCk HB0
 by_cases hck : checkS p = 0
 case neg =>
  have hne : (checkS p != 0) = true := by simp [hck]
  have hq := HQ.out
  rw [if_pos hck] at hq
  have HF := Lib.hid hq
  clear hq hck
  generalize checkS p = z at *
  go_wp2_with fail
  go_ret2
  rw [← HF.out]
  exact RetPrts.nil HB1.out _
 have hq := HQ.out
 rw [if_neg (fun h => h hck)] at hq
 have HQ1 := Lib.hid hq
 have HVd := Lib.hid ((check_zero p).1 hck)
 rw [hck]
 clear hq hck HQ
 try clear X3l X3a X3b X3c
 obtain ⟨X4l, X4a, X4b, X4c, X4d, X4e, X4f, -, -, -, -, -, -⟩ := X4.facts6
 go_wp2_with fail
 refine (HSc.out _).mono ?_
 rintro e w2 ⟨rfl, hb2⟩
 have HB2 := Lib.hid (bT HB1.out hb2)
 replace X3 := X3.keep hb2
 replace X4 := X4.keep hb2
 clear hb2 HB1 HSc X4l X4a X4b X4c X4d X4e X4f
 by_cases hfe : seCheck s = 0
 case neg =>
  have hne : (seCheck s != 0) = true := by simp [hfe]
  have hq := HQ1.out
  rw [if_pos hfe] at hq
  have HF := Lib.hid hq
  clear hq hfe
  generalize seCheck s = z at *
  go_wp2_with fail
  go_ret2
  rw [← HF.out]
  exact RetPrts.nil HB2.out _
 have hq := HQ1.out
 rw [if_neg (fun h => h hfe)] at hq
 rw [hfe]
 have hok : seOk s = true := by
  unfold seCheck at hfe
  cases h : seOk s
  · rw [h] at hfe; simp at hfe
  · rfl
 have hbd := seOk_bd hok
 have hc := hbd.c; have hr := hbd.r
 have hM := mul_bds (a := s.cols) (b := s.rows) (m := 16) (n := 16) (by omega) hc.2 (by omega) hr.2
 obtain ⟨M, hMe⟩ : ∃ M, s.cols * s.rows = M := ⟨_, rfl⟩
 have HIn := Lib.hid (fun (i : Nat) (hi : (i : Int) < M) => (InS.of hok (n := (i : Int) + 1) (by unfold thereS; rw [Bool.and_eq_true, decide_eq_true_eq, decide_eq_true_eq]; omega)))
 have hN : (M.toNat : Int) = M := by omega
 obtain ⟨N, hNe⟩ : ∃ N, M.toNat = N := ⟨_, rfl⟩
 unfold allS at hq
 rw [hMe, hNe] at hq
 rw [hNe] at hN
 have hN6 : N ≤ 256 := by omega
 rw [← hN] at hMe HIn
 have hmul : IntKind.i64.wrap (s.cols * s.rows) = (N : Int) := by rw [hMe]; exact IntWalk.i64_in _ (by omega)
 have HQ2 := Lib.hid hq
 clear hq hfe hok hbd hc hr hM hMe hN hNe HQ1
 try clear X4l
 try clear X4a
 try clear X4b
 try clear X4c
 try clear X4d
 try clear X4e
 try clear X4f
 obtain ⟨X4l, X4a, X4b, X4c, X4d, X4e, X4f, -, -, -, -, -, -⟩ := X4.facts6
 have HX3 := Lib.hid X3; have HX4 := Lib.hid X4
 go_wp2_with fail
 go_loopw [4, 24] (fun u v wr => ∃ (k : Nat) (L : List (Prt × SV × SV)) (A : Option Addr) (c : Nat), k ≤ N ∧ u = .slice A L.length c ∧ v = .int .i64 k ∧ PrtsO wr w.heap.size (.slice A L.length c) L ∧ L.map (·.1) = (List.range k).map (partI p s) ∧ L.length ≤ k ∧ Blk wr s0 26 #[vn, va, vf] ∧ Blk wr g4 30 #[.int .i64 s.at_.x, .int .i64 s.at_.y, .int .i64 s.width, .int .i64 s.height, .int .i64 s.cols, .int .i64 s.rows] ∧ Below w.heap.size w wr) (fun _ v _ => N - (intOf v).toNat)
 case atStart => exact ⟨0, [], none, 0, Nat.zero_le _, rfl, rfl, ⟨Own.nil _ _ _ _ _, fun x hx => by cases hx⟩, rfl, Nat.le_refl _, HX3.out, HX4.out, HB2.out⟩
 case round =>
  obtain ⟨k, L, A, c, hk, rfl, rfl, hpo, hmap, hlen, X3, X4, hb⟩ := hrel
  have HPO := Lib.hid hpo; have HMap := Lib.hid hmap; have HB := Lib.hid hb
  clear hpo hmap hb
  by_cases hlt : k < N
  ·
   have hin := HIn.out k (by omega)
   have hbr : boxRes s ((k : Int) + 1) = (boxOf s ((k : Int) + 1), 0) := boxRes_in hin
   have HBk := Lib.hid (HBx.out ((k : Int) + 1))
   rw [hbr] at HBk
   have HPt := Lib.hid (fun (W : World) hW => part_spec _ p ((k : Int) + 1) (boxOf s ((k : Int) + 1)) W (HP.out.mono hW) HVd.out HSm.out hin.smB.1)
   obtain ⟨x, hx⟩ : ∃ x, partS p ((k : Int) + 1) (boxOf s ((k : Int) + 1)) = x := ⟨_, rfl⟩
   have hxs : x.sheet = (k : Int) + 1 := by rw [← hx]; rfl
   have hsucc : (List.range (k + 1)).map (partI p s) = (List.range k).map (partI p s) ++ [x] := by
    rw [List.range_succ, List.map_append, ← hx]; rfl
   rw [hx] at HPt
   have HXs := Lib.hid hxs; have HSu := Lib.hid hsucc
   have HX3 := Lib.hid X3; have HX4 := Lib.hid X4
   generalize boxOf s ((k : Int) + 1) = bx at *
   have c1 : (k : Int) < N := by omega
   clear hin hbr hx hxs hsucc
   unfold boxV at HBk
   unfold bxV at HBk HPt
   try clear X4l
   try clear X4a
   try clear X4b
   try clear X4c
   try clear X4d
   try clear X4e
   try clear X4f
   obtain ⟨X4l, X4a, X4b, X4c, X4d, X4e, X4f, -, -, -, -, -, -⟩ := X4.facts6
   try clear X3l
   try clear X3a
   try clear X3b
   try clear X3c
   obtain ⟨X3l, X3a, X3b, X3c, -, -, -⟩ := X3.facts3
   go_wp2_with fail
   refine (HBk.out _).mono ?_
   rintro e w3 ⟨rfl, hb3⟩
   have HX33 := Lib.hid (HX3.out.keep hb3); have HX43 := Lib.hid (HX4.out.keep hb3); have HPO3 := Lib.hid (HPO.out.keep hb3)
   have HB3 := Lib.hid (bT HB.out hb3)
   have Y3 := HX33.out
   clear hb3 X3 X4 X3l X3a X3b X3c X4l X4a X4b X4c X4d X4e X4f HX3 HX4 HPO HB
   obtain ⟨Y3l, Y3a, Y3b, Y3c, -, -, -⟩ := Y3.facts3
   go_wp2_with fail
   refine (HPt.out _ (bA HB3.out _)).mono ?_
   rintro e w4 ⟨A4, m4, c4, A5, m5, c5, rfl, hb4, hpo4⟩
   rw [HXs.out]
   have hA4 : Below w3.heap.size w3 w4 := bT (bA (bR w3) _) hb4
   have HX34 := Lib.hid (HX33.out.keep hA4); have HX44 := Lib.hid (HX43.out.keep hA4); have HPO4 := Lib.hid (HPO3.out.keep hA4)
   have HB4 := Lib.hid (bT HB3.out hA4)
   have HPq := Lib.hid (hpo4.base (show w.heap.size ≤ _ from (bA HB3.out _).size))
   have hz4 := HB4.out.size
   clear hb4 hpo4 hA4 Y3 Y3l Y3a Y3b Y3c HX33 HX43 HPO3 HB3
   go_wp2_with
    (at_builtin
     refine wpList_appl _ rfl (.tmp 37) (.tmp 43) _ rfl (base := w.heap.size) elem_prt prS_len prS_one rfl (Own.alloc HPO4.out.own _) rfl (l2 := [((x, ⟨A4, m4, c4⟩, ⟨A5, m5, c5⟩) : Prt × SV × SV)]) (Sl.lit (n := 1) (Blk.made rfl _ _) (by simp [prS, HXs.out]) (le_maxLen (by omega))) (by simp only [List.length_cons, List.length_nil]; omega) (by simp only [List.length_cons, List.length_nil]; omega) (by simp; omega) ?_
     intro v5 w5 ho5 hg5 hat5
     obtain ⟨A9, c9, hv5, -⟩ := Own.shape_ ho5
     rw [show (L ++ [((x, ⟨A4, m4, c4⟩, ⟨A5, m5, c5⟩) : Prt × SV × SV)]).length = L.length + 1 by simp] at hv5
     subst hv5
     have nrow : ∀ α (f : α → List Value) v (l : List α) sz t, (t = 68 ∨ t = 28 ∨ t = 93) → Own (w4.alloc (.cells #[.int .i64 ((k : Int) + 1), .slice A4 m4 c4, .slice A5 m5 c5] 45)) w.heap.size t sz f v l → ∀ i, v.ownBlock = some i → some i ≠ (Value.slice A L.length c).ownBlock := fun α f v l sz t ht ho i hi => by
      rcases ht with rfl | rfl | rfl
      · exact Own.apart ho (Own.alloc HPO4.out.own _) (by decide) i hi
      · exact Own.apart ho (Own.alloc HPO4.out.own _) (by decide) i hi
      · exact Own.apart ho (Own.alloc HPO4.out.own _) (by decide) i hi
     have HPO5 := Lib.hid (show PrtsO w5 w.heap.size (.slice A9 (L.length + 1) c9) (L ++ [((x, ⟨A4, m4, c4⟩, ⟨A5, m5, c5⟩) : Prt × SV × SV)]) from ⟨ho5, fun y hy => by
      rcases List.mem_append.1 hy with hy | hy
      · exact ((HPO4.out.part y hy).keep (bA (bR w4) _)).grown hg5 nrow
      ·
       rw [List.mem_singleton] at hy
       subst hy
       exact (HPq.out.keep (bA (bR w4) _)).grown hg5 nrow⟩)
     have HX35 := Lib.hid (Blk.grown (HX34.out.alloc _) hg5 (fun e => Own.ne_blk HPO4.out.own HX34.out (by decide) e.symm))
     have HX45 := Lib.hid (Blk.grown (HX44.out.alloc _) hg5 (fun e => Own.ne_blk HPO4.out.own HX44.out (by decide) e.symm))
     have HB5 := Lib.hid (bG (bA HB4.out _) hg5 (fun i hi => (HPO4.out.own.lt i hi).1))
     clear ho5 hg5 hat5 nrow
     )
   go_wp2_with fail
   go_roundw
   case rel => (rw [show (L.length + 1) = (L ++ [((x, ⟨A4, m4, c4⟩, ⟨A5, m5, c5⟩) : Prt × SV × SV)]).length by simp] at *; exact ⟨k + 1, L ++ [((x, ⟨A4, m4, c4⟩, ⟨A5, m5, c5⟩) : Prt × SV × SV)], A9, c9, by omega, rfl, by go_num, HPO5.out, by rw [List.map_append, HMap.out, HSu.out]; rfl, by rw [List.length_append, List.length_singleton]; omega, HX35.out, HX45.out, HB5.out⟩)
   case measure => simp [intOf]; omega
  ·
   have hkn : k = N := by omega
   have hq := HQ2.out
   have hmp := HMap.out
   have hl : L.map (·.1) = q.1 := by rw [hmp, hkn, ← hq]
   have hll : L.length = q.1.length := by rw [← hl, List.length_map]
   have hq2 : q.2 = 0 := by rw [← hq]
   have HL := Lib.hid hl; have HQ3 := Lib.hid hq2
   have hpo := HPO.out
   rw [hll] at hpo ⊢
   have HPOf := Lib.hid hpo
   have c1 : ¬ (k : Int) < N := by omega
   clear hkn hq hmp hl hll hq2 hpo
   go_wp2_with fail
   go_ret2
   exact ⟨A, c, L, by rw [HQ3.out]; rfl, HB.out, HL.out, HPOf.out⟩
end Go.Proofs.YtfdbidagdjnipaaGreatDoor
