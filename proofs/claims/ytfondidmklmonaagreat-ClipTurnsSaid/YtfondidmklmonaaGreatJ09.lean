/- Plain law of geometry: the program's On and Meet are the reference's. mapsheetsref14.ends, apart. mapsheetsref14.joined, alone. mapsheetsref14.alone. mapsheetsref14.Segments. walk.Cycles: its closure 'follow'. clip.pieces: its memory, and its closure 'end'. mapsheetsref14.planar. mapsheetsref14.Check. -/
import Derived.Test.YtfondidmklmonaaGreatJ08
import Derived.Test.YtfondidmklmonaaGreatGE
import Derived.Test.YtfondidmklmonaaGreatGB
import Derived.Test.YtfondidmklmonaaGreatJ06
import Derived.Test.YtfondidmklmonaaGreatJ05
import Derived.Test.YtfondidmklmonaaGreatClipWF
set_option linter.unusedSimpArgs false
set_option linter.unusedVariables false
namespace Go.Proofs.YtfondidmklmonaaGreat

theorem sq_nn (a : Int) : 0 ≤ a * a := by
 rcases Int.le_total 0 a with h | h
 · exact Int.mul_nonneg h h
 · exact Int.mul_nonneg_of_nonpos_of_nonpos h h
theorem le0_iff {a b : Int} : a * b ≤ 0 ↔ (0 ≤ a ∧ b ≤ 0) ∨ (a ≤ 0 ∧ 0 ≤ b) := by
 constructor
 ·
  intro h
  by_cases ha : a = 0
  · omega
  by_cases hp : 0 < a
  ·
   left; refine ⟨by omega, ?_⟩
   by_cases hb : 0 < b
   · have := Int.mul_pos hp hb; omega
   · omega
  ·
   right; refine ⟨by omega, ?_⟩
   by_cases hb : b < 0
   · have := Int.mul_pos_of_neg_of_neg (show a < 0 by omega) hb; omega
   · omega
 ·
  rintro (⟨ha, hb⟩ | ⟨ha, hb⟩)
  · exact Int.mul_nonpos_of_nonneg_of_nonpos ha hb
  · exact Int.mul_nonpos_of_nonpos_of_nonneg ha hb
theorem btw {p a b : Int} : (p - a) * (p - b) ≤ 0 ↔ min a b ≤ p ∧ p ≤ max a b := by
 rw [le0_iff]; omega
/-- cross 0: the dot is not positive iff each part is not. -/
theorem dot_parts {ux uy vx vy : Int} (hc : ux * vy = uy * vx) : ux * vx + uy * vy ≤ 0 ↔ ux * vx ≤ 0 ∧ uy * vy ≤ 0 := by
 constructor
 ·
  intro h
  have hp : 0 ≤ (ux * vx) * (uy * vy) := by
   have e : (ux * vx) * (uy * vy) = (ux * vy) * (ux * vy) := by grind
   rw [e]
   exact sq_nn _
  by_cases h1 : 0 < ux * vx
  · have := Int.mul_neg_of_pos_of_neg h1 (show uy * vy < 0 by omega); omega
  ·
   by_cases h2 : 0 < uy * vy
   · have := Int.mul_neg_of_neg_of_pos (show ux * vx < 0 by omega) h2; omega
   · omega
 · omega
theorem parallel {ux uy vx vy wx wy : Int} (h : ¬ (ux = 0 ∧ uy = 0)) (h1 : ux * vy - uy * vx = 0) (h2 : ux * wy - uy * wx = 0) : vx * wy - vy * wx = 0 := by
 have e1 : ux * (vx * wy - vy * wx) = 0 := by grind
 have e2 : uy * (vx * wy - vy * wx) = 0 := by grind
 rcases Int.mul_eq_zero.1 e1 with h3 | h3
 ·
  rcases Int.mul_eq_zero.1 e2 with h4 | h4
  · exact absurd ⟨h3, h4⟩ h
  · exact h4
 · exact h3

theorem onS_eq (a b p : Pt) : onS a b p = ronS a b p := by
 unfold onS ronS
 cases nears [a, b, p]
 · rfl
 have hc : crossS a b a p = tw a b p := rfl
 rw [hc]
 by_cases h : tw a b p = 0
 ·
  simp only [h, decide_true, Bool.true_and, Bool.and_assoc]
  rw [Bool.eq_iff_iff]
  simp only [Bool.and_eq_true, decide_eq_true_eq]
  unfold dotS
  rw [dot_parts (by unfold tw at h; grind), btw, btw]
  omega
 · simp [h]

/- Points in their order. -/
theorem bef_iff (a b : Pt) : bef a b = true ↔ a.x < b.x ∨ (a.x = b.x ∧ a.y < b.y) := by simp [bef]
theorem bef_irr (a : Pt) : bef a a = false := by rw [← Bool.not_eq_true, bef_iff]; omega
theorem bef_asym {a b : Pt} (h : bef a b = true) : bef b a = false := by
 rw [← Bool.not_eq_true, bef_iff]; rw [bef_iff] at h; omega
theorem bef_tri {a b : Pt} (h : bef a b = false) (h' : bef b a = false) : a = b := by
 rw [← Bool.not_eq_true, bef_iff] at h h'
 rw [Pt.ext_iff']; omega
def lo (a b : Pt) : Pt := if bef b a then b else a
def hi (a b : Pt) : Pt := if bef b a then a else b
theorem lo_comm (a b : Pt) : lo a b = lo b a := by
 unfold lo
 cases h : bef b a <;> cases h' : bef a b <;> simp
 · exact bef_tri h' h
 · exact absurd (bef_asym h) (by simp [h'])
theorem hi_comm (a b : Pt) : hi a b = hi b a := by
 unfold hi
 cases h : bef b a <;> cases h' : bef a b <;> simp
 · exact (bef_tri h' h).symm
 · exact absurd (bef_asym h) (by simp [h'])
theorem sharedS_def (a b c d : Pt) : sharedS a b c d = if hi (lo a b) (lo c d) = lo (hi a b) (hi c d) then 1 else if bef (hi (lo a b) (lo c d)) (lo (hi a b) (hi c d)) then 2 else 0 := by
 have e1 : ∀ p q : Pt, (if bef p q then q else p) = hi p q := fun p q => by
  unfold hi; cases h : bef q p <;> cases h' : bef p q <;> simp
  · exact bef_tri h' h
  · exact absurd (bef_asym h) (by simp [h'])
 have e2 : ∀ p q : Pt, (if bef q p then q else p) = lo p q := fun p q => rfl
 have e3 : ∀ p q : Pt, (if bef q p then p else q) = hi p q := fun p q => rfl
 unfold sharedS
 simp only [e2, e3, e1]
 rw [hi_comm (lo c d) (lo a b)]
theorem sharedS_comm (a b c d : Pt) : sharedS a b c d = sharedS c d a b := by
 rw [sharedS_def a b c d, hi_comm (lo a b) (lo c d), lo_comm (hi a b) (hi c d), ← sharedS_def]
theorem sharedS_flip (a b c d : Pt) : sharedS a b c d = sharedS b a c d := by
 rw [sharedS_def, sharedS_def, lo_comm a b, hi_comm a b]

theorem lo_hi (c d : Pt) : (lo c d = c ∧ hi c d = d ∧ bef d c = false) ∨ (lo c d = d ∧ hi c d = c ∧ bef d c = true) := by
 unfold lo hi
 cases h : bef d c <;> simp

/-- A point of the line is on the segment iff it lies between its ends in the points' order. -/
theorem box_lex (c d a : Pt) (hcd : c ≠ d) (h : tw c d a = 0) :
  (min c.x d.x ≤ a.x ∧ a.x ≤ max c.x d.x ∧ min c.y d.y ≤ a.y ∧ a.y ≤ max c.y d.y) ↔ (bef a (lo c d) = false ∧ bef (hi c d) a = false) := by
 have hne : ¬ (c.x = d.x ∧ c.y = d.y) := fun e => hcd (Pt.ext_iff'.2 e)
 unfold tw at h
 have hp : (a.x - c.x) * (a.y - d.y) = (a.y - c.y) * (a.x - d.x) := by grind
 have hs : 0 ≤ ((a.x - c.x) * (a.x - d.x)) * ((a.y - c.y) * (a.y - d.y)) := by
  have e : ((a.x - c.x) * (a.x - d.x)) * ((a.y - c.y) * (a.y - d.y)) = ((a.x - c.x) * (a.y - d.y)) * ((a.x - c.x) * (a.y - d.y)) := by grind
  rw [e]; exact sq_nn _
 have b1 : (a.x - c.x) * (a.x - d.x) ≤ 0 ↔ min c.x d.x ≤ a.x ∧ a.x ≤ max c.x d.x := btw
 have b2 : (a.y - c.y) * (a.y - d.y) ≤ 0 ↔ min c.y d.y ≤ a.y ∧ a.y ≤ max c.y d.y := btw
 have k1 : a.x = c.x → (d.x - c.x) * (a.y - c.y) = 0 := fun e => by rw [e] at h; grind
 have k2 : a.x = d.x → (d.x - c.x) * (a.y - d.y) = 0 := fun e => by rw [e] at h; grind
 have k3 : (a.x - c.x) * (a.x - d.x) < 0 → (a.y - c.y) * (a.y - d.y) ≤ 0 := fun e => by
  by_cases hy : 0 < (a.y - c.y) * (a.y - d.y)
  · have := Int.mul_neg_of_neg_of_pos e hy; omega
  · omega
 rw [← Bool.not_eq_true, ← Bool.not_eq_true, bef_iff, bef_iff]
 by_cases hx : c.x = d.x
 ·
  -- upright
  have hax : a.x = c.x ∨ ¬ a.x = c.x := Classical.em _
  have hz : a.x = c.x := by
   have : (d.y - c.y) * (a.x - c.x) = 0 := by rw [hx] at h ⊢; grind
   rcases Int.mul_eq_zero.1 this with e | e
   · exact absurd ⟨hx, by omega⟩ hne
   · omega
  have hl := lo_hi c d
  rcases hl with ⟨e1, e2, e3⟩ | ⟨e1, e2, e3⟩ <;> rw [e1, e2]
  · rw [← Bool.not_eq_true, bef_iff] at e3; omega
  · rw [bef_iff] at e3; omega
 ·
  have k1' : a.x = c.x → a.y = c.y := fun e => by
   rcases Int.mul_eq_zero.1 (k1 e) with f | f <;> omega
  have k2' : a.x = d.x → a.y = d.y := fun e => by
   rcases Int.mul_eq_zero.1 (k2 e) with f | f <;> omega
  have k3' : (min c.x d.x < a.x ∧ a.x < max c.x d.x) → min c.y d.y ≤ a.y ∧ a.y ≤ max c.y d.y := fun e => by
   refine b2.1 (k3 ?_)
   rcases Int.lt_or_gt_of_ne hx with f | f
   · exact Int.mul_neg_of_pos_of_neg (by omega) (by omega)
   · exact Int.mul_neg_of_neg_of_pos (by omega) (by omega)
  have hl := lo_hi c d
  clear h hp hs b1 b2 k1 k2 k3
  rcases hl with ⟨e1, e2, e3⟩ | ⟨e1, e2, e3⟩ <;> rw [e1, e2]
  · rw [← Bool.not_eq_true, bef_iff] at e3; omega
  · rw [bef_iff] at e3; omega

/-- A point and a segment of its line. -/
theorem shared_pt (c d a : Pt) (hcd : c ≠ d) (h : tw c d a = 0) : sharedS a a c d = if (min c.x d.x ≤ a.x ∧ a.x ≤ max c.x d.x ∧ min c.y d.y ≤ a.y ∧ a.y ≤ max c.y d.y) then 1 else 0 := by
 have hl : lo a a = a := by simp [lo]
 have hh : hi a a = a := by simp [hi]
 have hb := box_lex c d a hcd h
 rw [sharedS_def, hl, hh]
 generalize hC : lo c d = C at *
 generalize hD : hi c d = D at *
 have hCD : bef D C = false := by
  rcases lo_hi c d with ⟨e1, e2, e3⟩ | ⟨e1, e2, e3⟩ <;> rw [← hC, ← hD, e1, e2]
  · exact e3
  · exact bef_asym e3
 by_cases hin : bef a C = false ∧ bef D a = false
 ·
  rw [if_pos (hb.2 hin)]
  have e1 : hi a C = a := by
   unfold hi; cases h' : bef C a <;> simp
   exact (bef_tri hin.1 h').symm
  have e2 : lo a D = a := by unfold lo; rw [hin.2]; rfl
  rw [e1, e2]; simp
 ·
  rw [if_neg (fun e => hin (hb.1 e))]
  cases h1 : bef a C
  ·
   have h2 : bef D a = true := by simpa [h1] using hin
   have e2 : lo a D = D := by unfold lo; rw [h2]; rfl
   have e1 : hi a C = a := by
    unfold hi; cases h' : bef C a <;> simp
    exact (bef_tri h1 h').symm
   rw [e1, e2, if_neg (fun e => by rw [e, bef_irr] at h2; cases h2), bef_asym h2]; rfl
  ·
   have e1 : hi a C = C := by unfold hi; rw [bef_asym h1]; rfl
   have h2 : bef D a = false := by
    rw [← Bool.not_eq_true, bef_iff] at hCD ⊢
    rw [bef_iff] at h1
    omega
   have e2 : lo a D = a := by unfold lo; rw [h2]; rfl
   rw [e1, e2, if_neg (fun e => by rw [e, bef_irr] at h1; cases h1), bef_asym h1]; rfl

theorem Pt.sub_ne {a b : Pt} (h : a ≠ b) : ¬ (b.x - a.x = 0 ∧ b.y - a.y = 0) := fun e => h (Pt.ext_iff'.2 ⟨by omega, by omega⟩)

theorem sideS_zero {a b c : Pt} (h : nears [a, b, c] = true) : sideS a b c = 0 ↔ tw a b c = 0 := by
 unfold sideS twS
 rw [if_pos h]
 split
 · omega
 · split <;> omega
theorem side_prod {a b c d e f : Pt} (h1 : nears [a, b, c] = true) (h2 : nears [d, e, f] = true) : sideS a b c * sideS d e f ≤ 0 ↔ (0 ≤ tw a b c ∧ tw d e f ≤ 0) ∨ (tw a b c ≤ 0 ∧ 0 ≤ tw d e f) := by
 unfold sideS twS
 rw [if_pos h1, if_pos h2]
 generalize tw a b c = p
 generalize tw d e f = q
 split <;> split <;> (try split) <;> (try split) <;> simp <;> omega

theorem meetS_eq (a b c d : Pt) : meetS a b c d = rmeetS a b c d := by
 unfold meetS rmeetS
 by_cases hn : nears [a, b, c, d] = true
 case neg => rw [if_neg hn, if_neg hn]
 rw [if_pos hn, if_pos hn]
 have hn' : near1 a = true ∧ near1 b = true ∧ near1 c = true ∧ near1 d = true := by simpa [nears] using hn
 obtain ⟨na, nb, nc, nd⟩ := hn'
 have nn : ∀ p q r : Pt, near1 p = true → near1 q = true → near1 r = true → nears [p, q, r] = true := fun p q r h1 h2 h3 => by simp [nears, h1, h2, h3]
 unfold rmeetN
 by_cases hab : a = b
 ·
  subst hab
  rw [if_pos rfl]
  have c0 : crossS a a c d = 0 := by unfold crossS; grind
  have c1 : crossS a a a c = 0 := by unfold crossS; grind
  have c2 : crossS a a a d = 0 := by unfold crossS; grind
  by_cases hcd : c = d
  ·
   subst hcd
   have hon : onS c c a = decide (a = c) := by
    unfold onS tw
    rw [nn c c a nc nc na, Bool.eq_iff_iff]
    simp only [Bool.and_eq_true, decide_eq_true_eq, Bool.true_and, Pt.ext_iff']
    grind
   rw [hon]
   by_cases hac : a = c
   ·
    subst hac
    have hl : lo a a = a := by simp [lo]
    have hh : hi a a = a := by simp [hi]
    have : sharedS a a a a = 1 := by rw [sharedS_def, hl, hh, hl]; simp
    simp [c0, this]
   · simp [hac]
  ·
   rw [if_neg (show ¬ (a = a ∧ c = d ∧ ¬ a = c) from fun e => hcd e.2.1), if_pos c0]
   have ct : crossS c d c a = tw c d a := rfl
   unfold onS
   rw [nn c d a nc nd na]
   by_cases ht : tw c d a = 0
   ·
    rw [if_pos (show crossS a a a c = 0 ∧ crossS a a a d = 0 ∧ crossS c d c a = 0 ∧ crossS c d c a = 0 from ⟨c1, c2, ht, ht⟩), shared_pt c d a hcd ht]
    simp only [ht, decide_true, Bool.true_and, Bool.and_eq_true, decide_eq_true_eq, and_assoc]
   ·
    rw [if_neg (show ¬ (crossS a a a c = 0 ∧ crossS a a a d = 0 ∧ crossS c d c a = 0 ∧ crossS c d c a = 0) from fun e => ht e.2.2.1)]
    simp [ht]
 rw [if_neg hab]
 by_cases hcd : c = d
 ·
  subst hcd
  rw [if_pos rfl]
  have c0 : crossS a b c c = 0 := by unfold crossS; grind
  have c1 : crossS c c c a = 0 := by unfold crossS; grind
  have c2 : crossS c c c b = 0 := by unfold crossS; grind
  rw [if_neg (show ¬ (a = b ∧ c = c ∧ ¬ a = c) from fun e => hab e.1), if_pos c0]
  unfold onS
  rw [nn a b c na nb nc]
  have ct : crossS a b a c = tw a b c := rfl
  by_cases ht : tw a b c = 0
  ·
   rw [if_pos (show crossS a b a c = 0 ∧ crossS a b a c = 0 ∧ crossS c c c a = 0 ∧ crossS c c c b = 0 from ⟨ht, ht, c1, c2⟩), sharedS_comm, shared_pt a b c hab ht]
   simp only [ht, decide_true, Bool.true_and, Bool.and_eq_true, decide_eq_true_eq, and_assoc]
  ·
   rw [if_neg (show ¬ (crossS a b a c = 0 ∧ crossS a b a c = 0 ∧ crossS c c c a = 0 ∧ crossS c c c b = 0) from fun e => ht e.1)]
   simp [ht]
 rw [if_neg hcd, if_neg (show ¬ (a = b ∧ c = d ∧ ¬ a = c) from fun e => hab e.1)]
 have e1 : crossS a b a c = tw a b c := rfl
 have e2 : crossS a b a d = tw a b d := rfl
 have e0 : crossS a b c d = tw a b d - tw a b c := by unfold crossS tw; grind
 have es : crossS a c c d = tw c d a := by unfold crossS tw; grind
 have es2 : tw c d b = tw c d a - crossS a b c d := by unfold crossS tw; grind
 have et : crossS a c a b = - tw a b c := by unfold crossS tw; grind
 simp only [sideS_zero (nn a b c na nb nc), sideS_zero (nn a b d na nb nd)]
 by_cases hz : tw a b c = 0 ∧ tw a b d = 0
 ·
  obtain ⟨z1, z2⟩ := hz
  have p1 : crossS c d c a = 0 := by
   unfold crossS
   refine parallel (Pt.sub_ne hab) ?_ ?_
   · unfold tw at z1 z2; grind
   · unfold tw at z1 z2; grind
  have p2 : crossS c d c b = 0 := by
   unfold crossS
   refine parallel (Pt.sub_ne hab) ?_ ?_
   · unfold tw at z1 z2; grind
   · unfold tw at z1 z2; grind
  rw [if_pos (show tw a b c = 0 ∧ tw a b d = 0 from ⟨z1, z2⟩), if_pos (show crossS a b c d = 0 by rw [e0, z1, z2]; rfl), if_pos (show crossS a b a c = 0 ∧ crossS a b a d = 0 ∧ crossS c d c a = 0 ∧ crossS c d c b = 0 from ⟨z1, z2, p1, p2⟩)]
 ·
  rw [if_neg hz]
  simp only [side_prod (nn a b c na nb nc) (nn a b d na nb nd), side_prod (nn c d a nc nd na) (nn c d b nc nd nb), es2, et, es]
  generalize crossS a b c d = n at *
  generalize tw c d a = s at *
  by_cases hn0 : n = 0
  ·
   rw [if_pos hn0, if_neg (show ¬ (crossS a b a c = 0 ∧ crossS a b a d = 0 ∧ crossS c d c a = 0 ∧ crossS c d c b = 0) from fun e => hz ⟨e.1, e.2.1⟩), if_neg]
   omega
  ·
   rw [if_neg hn0]
   by_cases hneg : n < 0
   ·
    rw [if_pos hneg]
    have : (((0 ≤ tw a b c ∧ tw a b d ≤ 0 ∨ tw a b c ≤ 0 ∧ 0 ≤ tw a b d) ∧ (0 ≤ s ∧ s - n ≤ 0 ∨ s ≤ 0 ∧ 0 ≤ s - n)) ↔ (0 ≤ -s ∧ -s ≤ -n ∧ 0 ≤ - -tw a b c ∧ - -tw a b c ≤ -n)) := by omega
    simp only [this]
   ·
    rw [if_neg hneg]
    have : (((0 ≤ tw a b c ∧ tw a b d ≤ 0 ∨ tw a b c ≤ 0 ∧ 0 ≤ tw a b d) ∧ (0 ≤ s ∧ s - n ≤ 0 ∨ s ≤ 0 ∧ 0 ≤ s - n)) ↔ (0 ≤ s ∧ s ≤ n ∧ 0 ≤ -tw a b c ∧ -tw a b c ≤ n)) := by omega
    simp only [this]
end Go.Proofs.YtfondidmklmonaaGreat
namespace Go.Proofs.YtfondidmklmonaaGreat
open Go.RowKit

structure Sg where
 arc : Ar
 i : Nat
 n : Nat
 a : Pt
 b : Pt
/-- A slice value in a cell. -/
structure SV where
 a : Option Addr
 n : Nat
 c : Nat
def sgC (s : Sg × SV) : List Value := [.int .i64 s.1.arc.id, .int .i64 s.1.arc.fr, .int .i64 s.1.arc.dst, .slice s.2.a s.2.n s.2.c, .int .i64 s.1.arc.left, .int .i64 s.1.arc.right, .int .i64 s.1.i, .int .i64 s.1.n, .int .i64 s.1.a.x, .int .i64 s.1.a.y, .int .i64 s.1.b.x, .int .i64 s.1.b.y]
def endsS (a : Ar) (id : Int) : Bool := a.fr == id || a.dst == id
def apartS (s t : Sg) : Bool := if t.i = s.i + 1 ∨ (s.i = 0 ∧ t.i + 1 = t.n ∧ s.arc.fr = s.arc.dst) then rmeetS s.a s.b t.a t.b == 1 else rmeetS s.a s.b t.a t.b == 0
end Go.Proofs.YtfondidmklmonaaGreat
namespace Go.Proofs.YtfondidmklmonaaGreat
open Go.RowKit

def meetAt (s t : Sg) (x : Nd) : Bool := endsS s.arc x.id && endsS t.arc x.id && ronS s.a s.b x.pt && ronS t.a t.b x.pt
def joinedS (p : Pl) (s t : Sg) : Bool := if rmeetS s.a s.b t.a t.b = 1 then p.nodes.any (meetAt s t) else rmeetS s.a s.b t.a t.b == 0

end Go.Proofs.YtfondidmklmonaaGreat
namespace Go.Proofs.YtfondidmklmonaaGreat
open Go.RowKit

def isEnd (s : Sg) (x : Nd) : Bool := (((s.i : Int) == 0) && (s.arc.fr == x.id)) || (((s.i : Int) == (s.n : Int) - 1) && (s.arc.dst == x.id))
def offNd (s : Sg) (x : Nd) : Bool := isEnd s x || !ronS s.a s.b x.pt
def soundS (s : Sg) : Bool := !decide (s.a = s.b) && (s.arc.fr != s.arc.dst || decide (3 ≤ (s.n : Int)))
def aloneS (p : Pl) (s : Sg) : Bool := p.nodes.all (offNd s) && soundS s
theorem all_hit {α : Type} (l : List α) (q : α → Bool) (k : Nat) (hk : k < l.length) (h : q l[k] = false) : l.all q = false := List.all_eq_false.2 ⟨l[k], List.getElem_mem hk, by simp [h]⟩
theorem all_miss {α : Type} (l : List α) (q : α → Bool) (h : ∀ j (hj : j < l.length), q l[j] = true) : l.all q = true := List.all_eq_true.2 fun x hx => by
 obtain ⟨i, hi, rfl⟩ := List.mem_iff_getElem.1 hx
 exact h i hi

end Go.Proofs.YtfondidmklmonaaGreat
namespace Go.Proofs.YtfondidmklmonaaGreat
open Go.RowKit

section
variable {α β : Type} {w w' : World} {base base' : Nat} {e e' : TypeId} {size size' : Nat} {f : α → List Value} {f' : β → List Value} {v v' : Value} {l : List α} {l' : List β}
theorem Own.grown (h : Own w base e size f v l) {row : Option Nat} (hg : w.grownBy w' row) (hne : ∀ g, v.ownBlock = some g → some g ≠ row) : Own w' base e size f v l := by
 obtain ⟨h1, h2⟩ := h
 refine ⟨h1, ?_⟩
 rcases h2 with h2 | ⟨g, cap, cur, hv, hg', hh, r⟩
 · exact .inl h2
 ·
  subst hv
  refine .inr ⟨g, cap, cur, rfl, hg', ?_, r⟩
  exact Blk.grown (t := e) (cs := cur) hh hg (hne g rfl)
theorem Own.blk (h : Own w base e size f v l) {g : Nat} (hg : v.ownBlock = some g) : ∃ cs, Blk w g e cs := by
 rcases h.2 with ⟨rfl, _⟩ | ⟨g', cap, cur, rfl, _, hh, _⟩
 · simp [Value.ownBlock] at hg
 ·
  have : g' = g := by simpa [Value.ownBlock] using hg
  subst this
  exact ⟨_, hh⟩
theorem Own.apart (h : Own w base e size f v l) (h' : Own w base' e' size' f' v' l') (hne : e ≠ e') : ∀ g, v.ownBlock = some g → some g ≠ v'.ownBlock := by
 intro g hg hg'
 obtain ⟨cs, h1⟩ := h.blk hg
 obtain ⟨cs', h2⟩ := h'.blk hg'.symm
 exact Blk.ne_ h1 h2 hne rfl
end

def pt0 : Pt := ⟨0, 0⟩
def segsOf (a : Ar) (l : List Pt) : List Sg := (List.range (l.length - 1)).map fun k => ⟨a, k, l.length - 1, l.getD k pt0, l.getD (k + 1) pt0⟩
def segsS (p : Pl) : List Sg := p.arcs.flatMap fun a => segsOf a (pathS p a)
theorem pathS_length (p : Pl) (a : Ar) : (pathS p a).length = a.via.length + 2 := by simp [pathS]
end Go.Proofs.YtfondidmklmonaaGreat
namespace Go.Proofs.YtfondidmklmonaaGreat
open Go.RowKit

theorem Own.shape_ {α : Type} {w : World} {base : Nat} {e : TypeId} {size : Nat} {f : α → List Value} {v : Value} {l : List α} (h : Own w base e size f v l) : ∃ A c, v = .slice A l.length c ∧ l.length ≤ c ∧ c ≤ maxLen := by
 obtain ⟨A, c, rfl, h1, h2, -⟩ := Own.sl h
 exact ⟨A, c, rfl, h1, h2⟩

end Go.Proofs.YtfondidmklmonaaGreat
namespace Go.Proofs.YtfondidmklmonaaGreat
open Go.RowKit

def pcS (x : Pc × SV) : List Value := [.int .i64 x.1.arc, .slice x.2.a x.2.n x.2.c, .int .i64 x.1.enter, .int .i64 x.1.leave]
theorem pcS_len (x : Pc × SV) : (pcS x).length = 4 := rfl
theorem pcS_one (x : Pc × SV) : ∀ u ∈ pcS x, u.oneCell' = true := by simp [pcS, Value.oneCell']
theorem elem_pc : Elem Tryz.prog 33 55 4 48 := Elem.mk_ (z := .agg #[.int .i64 0, .slice none 0 0, .int .i64 0, .int .i64 0]) (by kernel_rfl) (by kernel_rfl) rfl (by omega)
/-- a list of pieces of the call's own (from block B on), each with its own path -/
structure PcsO (w : World) (B : Nat) (v : Value) (L : List (Pc × SV)) : Prop where
 own : Own w B 55 4 pcS v L
 path : ∀ x ∈ L, Own w B 28 2 ptC (.slice x.2.a x.2.n x.2.c) x.1.path
theorem PcsO.keep {w w' : World} {B : Nat} {v : Value} {L : List (Pc × SV)} (h : PcsO w B v L) (hb : Below w.heap.size w w') : PcsO w' B v L :=
 ⟨h.own.keep hb, fun x hx => (h.path x hx).keep hb⟩
theorem Own.ne_hold {α : Type} {w : World} {base : Nat} {e : TypeId} {size : Nat} {f : α → List Value} {v : Value} {l : List α} (h : Own w base e size f v l) {g c : Nat} {m : List Pt} (hh : HoldP w g c m) (hne : e ≠ 28) : v.ownBlock ≠ some g := by
 obtain ⟨cur, h1, -⟩ := hh
 exact h.ne_blk h1 hne
theorem PcsO.far {w : World} {B g : Nat} {t : TypeId} {cs : Array Value} {v : Value} {L : List (Pc × SV)} (h : PcsO w B v L) (hg : Blk w g t cs) (h1 : 55 ≠ t) (h2 : 28 ≠ t) (i : Nat) (u : Value) : PcsO (w.setCell ⟨g, i, none⟩ u) B v L :=
 ⟨h.own.far (Own.ne_blk h.own hg h1) u, fun x hx => (h.path x hx).far (Own.ne_blk (h.path x hx) hg h2) u⟩
/-- the three boxes of 'pieces' (g6: the list, g7: the open piece, g8: is one open?) -/
structure PcM (w : World) (B g6 g7 g8 : Nat) (st : PSt) (L : List (Pc × SV)) (vl vp : Value) : Prop where
 opn : Blk w g8 4 #[.bool st.open_]
 x : Blk w g7 55 #[.int .i64 st.x.arc, vp, .int .i64 st.x.enter, .int .i64 st.x.leave]
 out : Blk w g6 33 #[vl]
 pcs : PcsO w B vl L
 eq : L.map (·.1) = st.l
 n7 : vl.ownBlock ≠ some g7
 path : st.open_ = true → Own w B 28 2 ptC vp st.x.path ∧ st.x.path ≠ [] ∧ ∀ x ∈ L, ∀ g, (Value.slice x.2.a x.2.n x.2.c).ownBlock = some g → some g ≠ vp.ownBlock
theorem PcM.keep {w w' : World} {B g6 g7 g8 : Nat} {st : PSt} {L : List (Pc × SV)} {vl vp : Value} (h : PcM w B g6 g7 g8 st L vl vp) (hb : Below w.heap.size w w') : PcM w' B g6 g7 g8 st L vl vp :=
 ⟨h.opn.keep hb, h.x.keep hb, h.out.keep hb, h.pcs.keep hb, h.eq, h.n7, fun e => ⟨(h.path e).1.keep hb, (h.path e).2⟩⟩
def RetEnd (w : World) (B g6 g7 g8 : Nat) (st : PSt) (e : Ending) (w' : World) : Prop :=
 e = .returned (.tuple #[]) ∧ (∃ L vl vp, PcM w' B g6 g7 g8 st L vl vp) ∧ Below B w w'
set_option maxRecDepth 100000 in
set_option maxHeartbeats 8000000 in
theorem end_spec (B g6 g7 g8 : Nat) (st : PSt) (L : List (Pc × SV)) (vl vp : Value) (w : World) (h : PcM w B g6 g7 g8 st L vl vp) (hB : B ≤ w.heap.size) (b6 : B ≤ g6) (b7 : B ≤ g7) (b8 : B ≤ g8) (hl : L.length ≤ 4294967295) :
  Calls Tryz.prog 93 #[.pointer (some ⟨g8, 0, none⟩), .pointer (some ⟨g7, 0, none⟩), .pointer (some ⟨g6, 0, none⟩)] w (RetEnd w B g6 g7 g8 (endS st)) := by
 obtain ⟨op, hop⟩ : ∃ op, st.open_ = op := ⟨_, rfl⟩
 cases op
 ·
  have he : endS st = st := by unfold endS; rw [if_pos hop]
  rw [he]
  have X8 := h.opn
  rw [hop] at X8
  obtain ⟨X8l, X8a, -⟩ := X8.facts1
  have HH := Lib.hid h
  clear h he hop
  go_enter Tryz.func93, Tryz.ntmps93
  go_wp2_with fail
  exact bodyPost_end (v := .tuple #[]) (results_none rfl _ _ _) rfl ⟨rfl, ⟨L, vl, vp, HH.out⟩, Below.refl _ _⟩
 ·
  have X8 := h.opn
  rw [hop] at X8
  have X7 := h.x
  have X6 := h.out
  obtain ⟨hown, hne, hap⟩ := h.path hop
  obtain ⟨g, c, rfl, hg, hc, hhp⟩ := hown.hold hne
  have he : endS st = ⟨false, ⟨st.x.arc, cmpP st.x.path, st.x.enter, st.x.leave⟩, if 1 < (cmpP st.x.path).length then st.l ++ [⟨st.x.arc, cmpP st.x.path, st.x.enter, st.x.leave⟩] else st.l⟩ := by unfold endS; rw [if_neg (by rw [hop]; simp)]
  rw [he]
  have HX8 := Lib.hid X8; have HX7 := Lib.hid X7; have HX6 := Lib.hid X6
  have HPc := Lib.hid h.pcs; have HEq := Lib.hid h.eq; have HAp := Lib.hid hap
  have HC := Lib.hid (fun (W : World) hh => compact_spec st.x.path g c W hh hc hne)
  have HHp := Lib.hid hhp
  have n8 := hhp.ne_ X8 (by decide)
  have n7 := hhp.ne_ X7 (by decide)
  have n6 := hhp.ne_ X6 (by decide)
  have n87 := Blk.ne_ X8 X7 (by decide)
  have n86 := Blk.ne_ X8 X6 (by decide)
  have n76 := Blk.ne_ X7 X6 (by decide)
  obtain ⟨A, cl, rfl, -, -⟩ := Own.shape_ h.pcs.own
  have npg := h.pcs.own.ne_hold hhp (by decide)
  have np7 := h.n7
  have HPt7 := Lib.hid (fun x (hx : x ∈ L) => Own.ne_blk (h.pcs.path x hx) X7 (by decide))
  have HNp := Lib.hid npg; have HN7 := Lib.hid np7
  clear npg np7
  have hl8 := X8.lt; have hl7 := X7.lt; have hl6 := X6.lt
  clear h he hop hown hne hap hhp
  have HLen := Lib.hid (cmp_len st.x.path)
  generalize cmpP st.x.path = q at *
  obtain ⟨l', hl'⟩ : ∃ l', (if 1 < q.length then st.l ++ [⟨st.x.arc, q, st.x.enter, st.x.leave⟩] else st.l) = l' := ⟨_, rfl⟩
  rw [hl']
  have HL' := Lib.hid hl'
  clear hl'
  try clear X8l
  try clear X8a
  obtain ⟨X8l, X8a, X8fa⟩ := X8.facts1
  obtain ⟨X7l, X7a, X7b, X7c, X7d, X7fa, X7fb, X7fc, X7fd⟩ := X7.facts4
  go_enter Tryz.func93, Tryz.ntmps93
  go_wp2_with fail
  refine (HC.out _ (HHp.out.far n8 _)).mono ?_
  rintro e w2 ⟨rfl, hh2, hg2⟩
  have B2 : Below B w w2 := ((Below.refl B w).setCell (p := ⟨g8, 0, none⟩) b8 _).grown hg2 (by simpa using hB) (fun k hk => by have := Option.some.inj hk; omega)
  have Y8 := (HX8.out.put1 (x0 := .bool false)).grow hg2 (fun e => n8 (Option.some.inj e).symm)
  have Y7 := (HX7.out.far (p := ⟨g8, 0, none⟩) (by first | omega | (simp; done) | (simp; omega)) (.bool false)).grow hg2 (fun e => n7 (Option.some.inj e).symm)
  have Y6 := (HX6.out.far (p := ⟨g8, 0, none⟩) (by first | omega | (simp; done) | (simp; omega)) (.bool false)).grow hg2 (fun e => n6 (Option.some.inj e).symm)
  have P1 := HPc.out.far HX8.out (by decide) (by decide) 0 (.bool false)
  have P2 : PcsO w2 B (.slice A L.length cl) L := ⟨Own.grown P1.own hg2 (fun k hk e => HNp.out (by rw [hk, e])), fun x hx => Own.grown (P1.path x hx) hg2 (fun k hk => HAp.out x hx k hk)⟩
  have HY8 := Lib.hid Y8; have HY6 := Lib.hid Y6; have HP2 := Lib.hid P2; have HB2 := Lib.hid B2; have HH2 := Lib.hid hh2
  have hs2 := hg2.size
  simp only [World.size_setCell] at hs2
  clear hh2 hg2 Y8 Y6 P1 P2 B2 HX8 HX7 HX6 HPc HHp HC X8 X7 X6 X8l X8a X8fa X7l X7a X7b X7c X7d X7fa X7fb X7fc X7fd
  obtain ⟨Y7l, Y7a, Y7b, Y7c, Y7d, Y7fa, Y7fb, Y7fc, Y7fd⟩ := Y7.facts4
  go_upto_if 12 with fail
  obtain ⟨w3, hw3⟩ : ∃ w3, w3 = w2.setCell ⟨g7, 1, none⟩ (.slice (some ⟨g, 0, none⟩) q.length c) := ⟨_, rfl⟩
  rw [← hw3]
  have X8 : Blk w3 g8 4 #[.bool false] := by rw [hw3]; exact HY8.out.far (by first | omega | (simp; done) | (simp; omega)) _
  have X7 : Blk w3 g7 55 #[.int .i64 st.x.arc, .slice (some ⟨g, 0, none⟩) q.length c, .int .i64 st.x.enter, .int .i64 st.x.leave] := by
   rw [hw3]
   have := Y7.set_ 1 (.slice (some ⟨g, 0, none⟩) q.length c)
   simpa using this
  have X6 : Blk w3 g6 33 #[.slice A L.length cl] := by rw [hw3]; exact HY6.out.far (by first | omega | (simp; done) | (simp; omega)) _
  have P3 : PcsO w3 B (.slice A L.length cl) L := by
   rw [hw3]
   exact ⟨HP2.out.own.far HN7.out _, fun x hx => (HP2.out.path x hx).far (HPt7.out x hx) _⟩
  have H3 : HoldP w3 g c q := by rw [hw3]; exact HH2.out.far n7 _
  have B3 : Below B w w3 := by rw [hw3]; exact HB2.out.setCell (p := ⟨g7, 1, none⟩) b7 _
  have hs3 : w2.heap.size ≤ w3.heap.size := by rw [hw3]; simp
  clear hw3
  have HX8 := Lib.hid X8; have HX7 := Lib.hid X7; have HX6 := Lib.hid X6; have HP3 := Lib.hid P3; have HH3 := Lib.hid H3; have HB3 := Lib.hid B3
  by_cases hlt : 1 < q.length
  ·
   have HL2 := Lib.hid (show st.l ++ [⟨st.x.arc, q, st.x.enter, st.x.leave⟩] = l' by rw [← HL'.out, if_pos hlt])
   have c1 : (1 : Int) < q.length := by omega
   clear Y7 X8 P3 H3 B3
   try clear Y7l Y7a Y7b Y7c Y7d
   try clear Y7fa Y7fb Y7fc Y7fd
   try clear X7l
   try clear X7a
   try clear X7b
   try clear X7c
   try clear X7d
   try clear X7fa
   try clear X7fb
   try clear X7fc
   try clear X7fd
   obtain ⟨X7l, X7a, X7b, X7c, X7d, -, -, -, -⟩ := X7.facts4
   obtain ⟨X6l, X6a, X6fa⟩ := X6.facts1
   go_wp2_with
    (at_builtin
     refine wpList_appl _ rfl (.tmp 13) (.tmp 15) _ rfl (base := B) elem_pc pcS_len pcS_one rfl (Own.alloc HP3.out.own _) rfl (l2 := [((⟨st.x.arc, q, st.x.enter, st.x.leave⟩, ⟨some ⟨g, 0, none⟩, q.length, c⟩) : Pc × SV)]) (Sl.lit (n := 1) (Blk.made rfl _ _) rfl (le_maxLen (by omega))) (by simp only [List.length_cons, List.length_nil]; omega) (by simp only [List.length_cons, List.length_nil]; omega) (by have := HB3.out.size; simp; omega) ?_
     intro v5 w5 ho5 hg5 hat5
     obtain ⟨A5, c5, hv5, -⟩ := Own.shape_ ho5
     rw [show (L ++ [((⟨st.x.arc, q, st.x.enter, st.x.leave⟩, ⟨some ⟨g, 0, none⟩, q.length, c⟩) : Pc × SV)]).length = L.length + 1 by simp] at hv5
     subst hv5
     have e6 := Own.ne_blk HP3.out.own HX6.out (by decide)
     have Z6 := Blk.grown (HX6.out.alloc _) hg5 (fun e => e6 e.symm)
     have HZ6 := Lib.hid Z6
     have HZ8 := Lib.hid (Blk.grown (HX8.out.alloc _) hg5 (fun e => Own.ne_blk HP3.out.own HX8.out (by decide) e.symm))
     have HZ7 := Lib.hid (Blk.grown (HX7.out.alloc _) hg5 (fun e => HN7.out e.symm))
     have HPt := Lib.hid (fun x (hx : x ∈ L) => Own.grown (Own.alloc (HP3.out.path x hx) _) hg5 (fun k hk => Own.apart (HP3.out.path x hx) HP3.out.own (by decide) k hk))
     have HOq := Lib.hid (Own.grown (Own.alloc (HH3.out.own hg hc) _) hg5 (fun k hk => Own.apart (HH3.out.own hg hc) HP3.out.own (by decide) k hk))
     have HB5 := Lib.hid (Below.grown (HB3.out.alloc (by have := HB3.out.size; omega) _) hg5 (by have := HB3.out.size; simp; omega) (fun k hk => (HP3.out.own.lt k hk).1))
     have hn5 : (Value.slice A5 (L.length + 1) c5).ownBlock ≠ some g7 := by
      rcases hat5 with e | e
      · rw [e]; exact HN7.out
      · rw [e]; intro h; have := Option.some.inj h; simp at this; omega
     have HN5 := Lib.hid hn5
     have HO5 := Lib.hid ho5
     clear ho5 hg5 hat5 hn5 e6
     obtain ⟨Z6l, Z6a, Z6fa⟩ := Z6.facts1
     )
   go_wp2_with fail
   refine bodyPost_end (v := .tuple #[]) (results_none rfl _ _ _) rfl ⟨rfl, ⟨L ++ [((⟨st.x.arc, q, st.x.enter, st.x.leave⟩, ⟨some ⟨g, 0, none⟩, q.length, c⟩) : Pc × SV)], .slice A5 (L.length + 1) c5, .slice (some ⟨g, 0, none⟩) q.length c, ?_⟩, ?_⟩
   ·
    have hPF : PcsO w5 B (.slice A5 (L.length + 1) c5) (L ++ [((⟨st.x.arc, q, st.x.enter, st.x.leave⟩, ⟨some ⟨g, 0, none⟩, q.length, c⟩) : Pc × SV)]) := by
     refine ⟨HO5.out, fun y hy => ?_⟩
     rcases List.mem_append.1 hy with hy | hy
     · exact HPt.out y hy
     ·
      rw [List.mem_singleton] at hy
      subst hy
      exact HOq.out
    refine ⟨HZ8.out.far (by first | omega | (simp; done) | (simp; omega)) _, HZ7.out.far (by first | omega | (simp; done) | (simp; omega)) _, HZ6.out.put1, hPF.far HZ6.out (by decide) (by decide) _ _, ?_, HN5.out, fun h => by cases h⟩
    show (L ++ _).map _ = l'
    rw [List.map_append, HEq.out, ← HL2.out]
    rfl
   · exact HB5.out.setCell (p := ⟨g6, 0, none⟩) b6 _
  ·
   have HL2 := Lib.hid (show st.l = l' by rw [← HL'.out, if_neg hlt])
   have c1 : ¬ (1 : Int) < q.length := by omega
   clear Y7 X8 P3 H3 B3
   try clear Y7l Y7a Y7b Y7c Y7d
   try clear Y7fa Y7fb Y7fc Y7fd
   go_wp2_with fail
   refine bodyPost_end (v := .tuple #[]) (results_none rfl _ _ _) rfl ⟨rfl, ⟨L, .slice A L.length cl, .slice (some ⟨g, 0, none⟩) q.length c, ?_⟩, HB3.out⟩
   exact ⟨HX8.out, HX7.out, HX6.out, HP3.out, by show L.map _ = l'; rw [HEq.out, HL2.out], HN7.out, fun h => by cases h⟩
end Go.Proofs.YtfondidmklmonaaGreat
namespace Go.Proofs.YtfondidmklmonaaGreat
open Go.RowKit

/-- f at each element, g at each two. -/
def triB {α : Type} (l : List α) (f : α → Bool) (g : α → α → Bool) : Bool := (List.range l.length).all fun i => match l[i]? with
 | none => true
 | some t => f t && (l.take i).all fun s => g s t
theorem tri_f {α : Type} (l : List α) (f : α → Bool) (g : α → α → Bool) (i : Nat) (hi : i < l.length) (h : f l[i] = false) : triB l f g = false := by
 unfold triB
 rw [List.all_eq_false]
 exact ⟨i, List.mem_range.2 hi, by simp [List.getElem?_eq_getElem hi, h]⟩
theorem tri_g {α : Type} (l : List α) (f : α → Bool) (g : α → α → Bool) (i k : Nat) (hk : k < i) (hi : i < l.length) (h : g (l[k]'(by omega)) l[i] = false) : triB l f g = false := by
 unfold triB
 rw [List.all_eq_false]
 refine ⟨i, List.mem_range.2 hi, ?_⟩
 have : (l.take i).all (fun s => g s l[i]) = false := by
  rw [List.all_eq_false]
  refine ⟨l[k]'(by omega), ?_, by simp [h]⟩
  rw [List.mem_iff_getElem]
  exact ⟨k, by rw [List.length_take]; omega, by simp⟩
 simp [List.getElem?_eq_getElem hi, this]
theorem tri_ok {α : Type} (l : List α) (f : α → Bool) (g : α → α → Bool) (h1 : ∀ i (hi : i < l.length), f l[i] = true) (h2 : ∀ i k (hk : k < i) (hi : i < l.length), g (l[k]'(by omega)) l[i] = true) : triB l f g = true := by
 unfold triB
 rw [List.all_eq_true]
 intro i hi
 have hi := List.mem_range.1 hi
 rw [List.getElem?_eq_getElem hi]
 simp only [Bool.and_eq_true]
 refine ⟨h1 i hi, List.all_eq_true.2 fun s hs => ?_⟩
 obtain ⟨k, hk, rfl⟩ := List.mem_iff_getElem.1 hs
 rw [List.length_take] at hk
 have := h2 i k (by omega) hi
 simpa using this

def pairR (p : Pl) (s t : Sg) : Bool := if s.arc.id = t.arc.id then apartS s t else joinedS p s t
def planarR (p : Pl) : Bool := triB (segsS p) (aloneS p) (pairR p)

theorem Row.sg {w : World} {A : Option Addr} {l : List (Sg × SV)} (h : Row w A (l.flatMap sgC)) {k : Nat} (hk : k < l.length) :
  ∃ b o, A = some ⟨b, o, none⟩ ∧ b < w.heap.size ∧ w.cell? ⟨b, o + k * 12, none⟩ = some (.int .i64 l[k].1.arc.id) ∧ w.cell? ⟨b, o + k * 12 + 1, none⟩ = some (.int .i64 l[k].1.arc.fr) ∧ w.cell? ⟨b, o + k * 12 + 2, none⟩ = some (.int .i64 l[k].1.arc.dst) ∧ w.cell? ⟨b, o + k * 12 + 3, none⟩ = some (.slice l[k].2.a l[k].2.n l[k].2.c) ∧ w.cell? ⟨b, o + k * 12 + 4, none⟩ = some (.int .i64 l[k].1.arc.left) ∧ w.cell? ⟨b, o + k * 12 + 5, none⟩ = some (.int .i64 l[k].1.arc.right) ∧ w.cell? ⟨b, o + k * 12 + 6, none⟩ = some (.int .i64 l[k].1.i) ∧ w.cell? ⟨b, o + k * 12 + 7, none⟩ = some (.int .i64 l[k].1.n) ∧ w.cell? ⟨b, o + k * 12 + 8, none⟩ = some (.int .i64 l[k].1.a.x) ∧ w.cell? ⟨b, o + k * 12 + 9, none⟩ = some (.int .i64 l[k].1.a.y) ∧ w.cell? ⟨b, o + k * 12 + 10, none⟩ = some (.int .i64 l[k].1.b.x) ∧ w.cell? ⟨b, o + k * 12 + 11, none⟩ = some (.int .i64 l[k].1.b.y) := by
 obtain ⟨b, o, hA, hb, hc⟩ := h.at_ (n := 12) (fun _ => rfl) hk (by omega)
 exact ⟨b, o, hA, hb, hc 0 _ rfl, hc 1 _ rfl, hc 2 _ rfl, hc 3 _ rfl, hc 4 _ rfl, hc 5 _ rfl, hc 6 _ rfl, hc 7 _ rfl, hc 8 _ rfl, hc 9 _ rfl, hc 10 _ rfl, hc 11 _ rfl⟩

end Go.Proofs.YtfondidmklmonaaGreat
namespace Go.Proofs.YtfondidmklmonaaGreat
open Go.RowKit

def orderedS (p : Pl) : Bool := asc (p.nodes.map (·.id)) && asc (p.arcs.map (·.id)) && asc p.faces
def sidesS (p : Pl) : Bool := p.arcs.all fun a => faceS p.faces a.left && faceS p.faces a.right
/-- The reference's Check. -/
def checkS (p : Pl) : Int :=
 if limS p = true then 3 else if orderedS p = false then 10 else if rangesS p = false then 2 else if dupS (p.nodes.map (·.pt)) = true then 8
 else if p.arcs.all (hasEnds p) = false then 7 else if sidesS p = false then 12 else if planarR p = false then 11 else 0

theorem flat_le {α β : Type} (l : List α) (f : α → List β) (n : Nat) (h : ∀ a ∈ l, (f a).length ≤ n) : (l.flatMap f).length ≤ l.length * n := by
 induction l with
 | nil => simp
 | cons a l ih =>
  simp only [List.flatMap_cons, List.length_append, List.length_cons, Nat.succ_mul]
  have := h a (by simp)
  have := ih fun b hb => h b (by simp [hb])
  omega
theorem limS_no {p : Pl} (h : limS p = false) : (∀ a ∈ p.arcs, a.via.length ≤ 64) ∧ p.nodes.length ≤ 256 ∧ p.arcs.length ≤ 256 ∧ p.faces.length ≤ 64 ∧ (p.arcs.flatMap (·.via)).length ≤ 16384 := by
 unfold limS at h
 simp only [Bool.or_eq_false_iff, decide_eq_false_iff_not, List.any_eq_false, decide_eq_true_eq] at h
 obtain ⟨h1, ⟨h2, h3⟩, h4⟩ := h
 have h5 : ∀ a ∈ p.arcs, a.via.length ≤ 64 := fun a ha => by have := h1 a ha; omega
 have h6 := flat_le p.arcs (·.via) 64 h5
 refine ⟨h5, by omega, by omega, by omega, by omega⟩

end Go.Proofs.YtfondidmklmonaaGreat
