/- Plain law of geometry: the program's On and Meet are the reference's. mapsheetsref14.ends, apart. mapsheetsref14.joined, alone. mapsheetsref14.alone. -/
import Derived.Test.YtoclnkfeblfpbaaGreatJ03
import Derived.Test.YtoclnkfeblfpbaaGreatJ04
import Derived.Test.YtoclnkfeblfpbaaGreatGE
set_option linter.unusedSimpArgs false
set_option linter.unusedVariables false
namespace Go.Proofs.YtoclnkfeblfpbaaGreat

theorem sq_nn (a : Int) : 0 ≤ a * a := by
 rcases Int.le_total 0 a with h | h
 · exact Int.mul_nonneg h h
 · exact Int.mul_nonneg_of_nonpos_of_nonpos h h
theorem le0_iff {a b : Int} : a * b ≤ 0 ↔ (0 ≤ a ∧ b ≤ 0) ∨ (a ≤ 0 ∧ 0 ≤ b) := by
 constructor
 ·
  intro h
  by_cases ha : a = 0
  · omega
  by_cases hp : 0 < a
  ·
   left; refine ⟨by omega, ?_⟩
   by_cases hb : 0 < b
   · have := Int.mul_pos hp hb; omega
   · omega
  ·
   right; refine ⟨by omega, ?_⟩
   by_cases hb : b < 0
   · have := Int.mul_pos_of_neg_of_neg (show a < 0 by omega) hb; omega
   · omega
 ·
  rintro (⟨ha, hb⟩ | ⟨ha, hb⟩)
  · exact Int.mul_nonpos_of_nonneg_of_nonpos ha hb
  · exact Int.mul_nonpos_of_nonpos_of_nonneg ha hb
theorem btw {p a b : Int} : (p - a) * (p - b) ≤ 0 ↔ min a b ≤ p ∧ p ≤ max a b := by
 rw [le0_iff]; omega
/-- cross 0: the dot is not positive iff each part is not. -/
theorem dot_parts {ux uy vx vy : Int} (hc : ux * vy = uy * vx) : ux * vx + uy * vy ≤ 0 ↔ ux * vx ≤ 0 ∧ uy * vy ≤ 0 := by
 constructor
 ·
  intro h
  have hp : 0 ≤ (ux * vx) * (uy * vy) := by
   have e : (ux * vx) * (uy * vy) = (ux * vy) * (ux * vy) := by grind
   rw [e]
   exact sq_nn _
  by_cases h1 : 0 < ux * vx
  · have := Int.mul_neg_of_pos_of_neg h1 (show uy * vy < 0 by omega); omega
  ·
   by_cases h2 : 0 < uy * vy
   · have := Int.mul_neg_of_neg_of_pos (show ux * vx < 0 by omega) h2; omega
   · omega
 · omega
theorem parallel {ux uy vx vy wx wy : Int} (h : ¬ (ux = 0 ∧ uy = 0)) (h1 : ux * vy - uy * vx = 0) (h2 : ux * wy - uy * wx = 0) : vx * wy - vy * wx = 0 := by
 have e1 : ux * (vx * wy - vy * wx) = 0 := by grind
 have e2 : uy * (vx * wy - vy * wx) = 0 := by grind
 rcases Int.mul_eq_zero.1 e1 with h3 | h3
 ·
  rcases Int.mul_eq_zero.1 e2 with h4 | h4
  · exact absurd ⟨h3, h4⟩ h
  · exact h4
 · exact h3

theorem onS_eq (a b p : Pt) : onS a b p = ronS a b p := by
 unfold onS ronS
 cases nears [a, b, p]
 · rfl
 have hc : crossS a b a p = tw a b p := rfl
 rw [hc]
 by_cases h : tw a b p = 0
 ·
  simp only [h, decide_true, Bool.true_and, Bool.and_assoc]
  rw [Bool.eq_iff_iff]
  simp only [Bool.and_eq_true, decide_eq_true_eq]
  unfold dotS
  rw [dot_parts (by unfold tw at h; grind), btw, btw]
  omega
 · simp [h]

/- Points in their order. -/
theorem bef_iff (a b : Pt) : bef a b = true ↔ a.x < b.x ∨ (a.x = b.x ∧ a.y < b.y) := by simp [bef]
theorem bef_irr (a : Pt) : bef a a = false := by rw [← Bool.not_eq_true, bef_iff]; omega
theorem bef_asym {a b : Pt} (h : bef a b = true) : bef b a = false := by
 rw [← Bool.not_eq_true, bef_iff]; rw [bef_iff] at h; omega
theorem bef_tri {a b : Pt} (h : bef a b = false) (h' : bef b a = false) : a = b := by
 rw [← Bool.not_eq_true, bef_iff] at h h'
 rw [Pt.ext_iff']; omega
def lo (a b : Pt) : Pt := if bef b a then b else a
def hi (a b : Pt) : Pt := if bef b a then a else b
theorem lo_comm (a b : Pt) : lo a b = lo b a := by
 unfold lo
 cases h : bef b a <;> cases h' : bef a b <;> simp
 · exact bef_tri h' h
 · exact absurd (bef_asym h) (by simp [h'])
theorem hi_comm (a b : Pt) : hi a b = hi b a := by
 unfold hi
 cases h : bef b a <;> cases h' : bef a b <;> simp
 · exact (bef_tri h' h).symm
 · exact absurd (bef_asym h) (by simp [h'])
theorem sharedS_def (a b c d : Pt) : sharedS a b c d = if hi (lo a b) (lo c d) = lo (hi a b) (hi c d) then 1 else if bef (hi (lo a b) (lo c d)) (lo (hi a b) (hi c d)) then 2 else 0 := by
 have e1 : ∀ p q : Pt, (if bef p q then q else p) = hi p q := fun p q => by
  unfold hi; cases h : bef q p <;> cases h' : bef p q <;> simp
  · exact bef_tri h' h
  · exact absurd (bef_asym h) (by simp [h'])
 have e2 : ∀ p q : Pt, (if bef q p then q else p) = lo p q := fun p q => rfl
 have e3 : ∀ p q : Pt, (if bef q p then p else q) = hi p q := fun p q => rfl
 unfold sharedS
 simp only [e2, e3, e1]
 rw [hi_comm (lo c d) (lo a b)]
theorem sharedS_comm (a b c d : Pt) : sharedS a b c d = sharedS c d a b := by
 rw [sharedS_def a b c d, hi_comm (lo a b) (lo c d), lo_comm (hi a b) (hi c d), ← sharedS_def]
theorem sharedS_flip (a b c d : Pt) : sharedS a b c d = sharedS b a c d := by
 rw [sharedS_def, sharedS_def, lo_comm a b, hi_comm a b]

theorem lo_hi (c d : Pt) : (lo c d = c ∧ hi c d = d ∧ bef d c = false) ∨ (lo c d = d ∧ hi c d = c ∧ bef d c = true) := by
 unfold lo hi
 cases h : bef d c <;> simp

/-- A point of the line is on the segment iff it lies between its ends in the points' order. -/
theorem box_lex (c d a : Pt) (hcd : c ≠ d) (h : tw c d a = 0) :
  (min c.x d.x ≤ a.x ∧ a.x ≤ max c.x d.x ∧ min c.y d.y ≤ a.y ∧ a.y ≤ max c.y d.y) ↔ (bef a (lo c d) = false ∧ bef (hi c d) a = false) := by
 have hne : ¬ (c.x = d.x ∧ c.y = d.y) := fun e => hcd (Pt.ext_iff'.2 e)
 unfold tw at h
 have hp : (a.x - c.x) * (a.y - d.y) = (a.y - c.y) * (a.x - d.x) := by grind
 have hs : 0 ≤ ((a.x - c.x) * (a.x - d.x)) * ((a.y - c.y) * (a.y - d.y)) := by
  have e : ((a.x - c.x) * (a.x - d.x)) * ((a.y - c.y) * (a.y - d.y)) = ((a.x - c.x) * (a.y - d.y)) * ((a.x - c.x) * (a.y - d.y)) := by grind
  rw [e]; exact sq_nn _
 have b1 : (a.x - c.x) * (a.x - d.x) ≤ 0 ↔ min c.x d.x ≤ a.x ∧ a.x ≤ max c.x d.x := btw
 have b2 : (a.y - c.y) * (a.y - d.y) ≤ 0 ↔ min c.y d.y ≤ a.y ∧ a.y ≤ max c.y d.y := btw
 have k1 : a.x = c.x → (d.x - c.x) * (a.y - c.y) = 0 := fun e => by rw [e] at h; grind
 have k2 : a.x = d.x → (d.x - c.x) * (a.y - d.y) = 0 := fun e => by rw [e] at h; grind
 have k3 : (a.x - c.x) * (a.x - d.x) < 0 → (a.y - c.y) * (a.y - d.y) ≤ 0 := fun e => by
  by_cases hy : 0 < (a.y - c.y) * (a.y - d.y)
  · have := Int.mul_neg_of_neg_of_pos e hy; omega
  · omega
 rw [← Bool.not_eq_true, ← Bool.not_eq_true, bef_iff, bef_iff]
 by_cases hx : c.x = d.x
 ·
  -- upright
  have hax : a.x = c.x ∨ ¬ a.x = c.x := Classical.em _
  have hz : a.x = c.x := by
   have : (d.y - c.y) * (a.x - c.x) = 0 := by rw [hx] at h ⊢; grind
   rcases Int.mul_eq_zero.1 this with e | e
   · exact absurd ⟨hx, by omega⟩ hne
   · omega
  have hl := lo_hi c d
  rcases hl with ⟨e1, e2, e3⟩ | ⟨e1, e2, e3⟩ <;> rw [e1, e2]
  · rw [← Bool.not_eq_true, bef_iff] at e3; omega
  · rw [bef_iff] at e3; omega
 ·
  have k1' : a.x = c.x → a.y = c.y := fun e => by
   rcases Int.mul_eq_zero.1 (k1 e) with f | f <;> omega
  have k2' : a.x = d.x → a.y = d.y := fun e => by
   rcases Int.mul_eq_zero.1 (k2 e) with f | f <;> omega
  have k3' : (min c.x d.x < a.x ∧ a.x < max c.x d.x) → min c.y d.y ≤ a.y ∧ a.y ≤ max c.y d.y := fun e => by
   refine b2.1 (k3 ?_)
   rcases Int.lt_or_gt_of_ne hx with f | f
   · exact Int.mul_neg_of_pos_of_neg (by omega) (by omega)
   · exact Int.mul_neg_of_neg_of_pos (by omega) (by omega)
  have hl := lo_hi c d
  clear h hp hs b1 b2 k1 k2 k3
  rcases hl with ⟨e1, e2, e3⟩ | ⟨e1, e2, e3⟩ <;> rw [e1, e2]
  · rw [← Bool.not_eq_true, bef_iff] at e3; omega
  · rw [bef_iff] at e3; omega

/-- A point and a segment of its line. -/
theorem shared_pt (c d a : Pt) (hcd : c ≠ d) (h : tw c d a = 0) : sharedS a a c d = if (min c.x d.x ≤ a.x ∧ a.x ≤ max c.x d.x ∧ min c.y d.y ≤ a.y ∧ a.y ≤ max c.y d.y) then 1 else 0 := by
 have hl : lo a a = a := by simp [lo]
 have hh : hi a a = a := by simp [hi]
 have hb := box_lex c d a hcd h
 rw [sharedS_def, hl, hh]
 generalize hC : lo c d = C at *
 generalize hD : hi c d = D at *
 have hCD : bef D C = false := by
  rcases lo_hi c d with ⟨e1, e2, e3⟩ | ⟨e1, e2, e3⟩ <;> rw [← hC, ← hD, e1, e2]
  · exact e3
  · exact bef_asym e3
 by_cases hin : bef a C = false ∧ bef D a = false
 ·
  rw [if_pos (hb.2 hin)]
  have e1 : hi a C = a := by
   unfold hi; cases h' : bef C a <;> simp
   exact (bef_tri hin.1 h').symm
  have e2 : lo a D = a := by unfold lo; rw [hin.2]; rfl
  rw [e1, e2]; simp
 ·
  rw [if_neg (fun e => hin (hb.1 e))]
  cases h1 : bef a C
  ·
   have h2 : bef D a = true := by simpa [h1] using hin
   have e2 : lo a D = D := by unfold lo; rw [h2]; rfl
   have e1 : hi a C = a := by
    unfold hi; cases h' : bef C a <;> simp
    exact (bef_tri h1 h').symm
   rw [e1, e2, if_neg (fun e => by rw [e, bef_irr] at h2; cases h2), bef_asym h2]; rfl
  ·
   have e1 : hi a C = C := by unfold hi; rw [bef_asym h1]; rfl
   have h2 : bef D a = false := by
    rw [← Bool.not_eq_true, bef_iff] at hCD ⊢
    rw [bef_iff] at h1
    omega
   have e2 : lo a D = a := by unfold lo; rw [h2]; rfl
   rw [e1, e2, if_neg (fun e => by rw [e, bef_irr] at h1; cases h1), bef_asym h1]; rfl

theorem Pt.sub_ne {a b : Pt} (h : a ≠ b) : ¬ (b.x - a.x = 0 ∧ b.y - a.y = 0) := fun e => h (Pt.ext_iff'.2 ⟨by omega, by omega⟩)

theorem sideS_zero {a b c : Pt} (h : nears [a, b, c] = true) : sideS a b c = 0 ↔ tw a b c = 0 := by
 unfold sideS twS
 rw [if_pos h]
 split
 · omega
 · split <;> omega
theorem side_prod {a b c d e f : Pt} (h1 : nears [a, b, c] = true) (h2 : nears [d, e, f] = true) : sideS a b c * sideS d e f ≤ 0 ↔ (0 ≤ tw a b c ∧ tw d e f ≤ 0) ∨ (tw a b c ≤ 0 ∧ 0 ≤ tw d e f) := by
 unfold sideS twS
 rw [if_pos h1, if_pos h2]
 generalize tw a b c = p
 generalize tw d e f = q
 split <;> split <;> (try split) <;> (try split) <;> simp <;> omega

theorem meetS_eq (a b c d : Pt) : meetS a b c d = rmeetS a b c d := by
 unfold meetS rmeetS
 by_cases hn : nears [a, b, c, d] = true
 case neg => rw [if_neg hn, if_neg hn]
 rw [if_pos hn, if_pos hn]
 have hn' : near1 a = true ∧ near1 b = true ∧ near1 c = true ∧ near1 d = true := by simpa [nears] using hn
 obtain ⟨na, nb, nc, nd⟩ := hn'
 have nn : ∀ p q r : Pt, near1 p = true → near1 q = true → near1 r = true → nears [p, q, r] = true := fun p q r h1 h2 h3 => by simp [nears, h1, h2, h3]
 unfold rmeetN
 by_cases hab : a = b
 ·
  subst hab
  rw [if_pos rfl]
  have c0 : crossS a a c d = 0 := by unfold crossS; grind
  have c1 : crossS a a a c = 0 := by unfold crossS; grind
  have c2 : crossS a a a d = 0 := by unfold crossS; grind
  by_cases hcd : c = d
  ·
   subst hcd
   have hon : onS c c a = decide (a = c) := by
    unfold onS tw
    rw [nn c c a nc nc na, Bool.eq_iff_iff]
    simp only [Bool.and_eq_true, decide_eq_true_eq, Bool.true_and, Pt.ext_iff']
    grind
   rw [hon]
   by_cases hac : a = c
   ·
    subst hac
    have hl : lo a a = a := by simp [lo]
    have hh : hi a a = a := by simp [hi]
    have : sharedS a a a a = 1 := by rw [sharedS_def, hl, hh, hl]; simp
    simp [c0, this]
   · simp [hac]
  ·
   rw [if_neg (show ¬ (a = a ∧ c = d ∧ ¬ a = c) from fun e => hcd e.2.1), if_pos c0]
   have ct : crossS c d c a = tw c d a := rfl
   unfold onS
   rw [nn c d a nc nd na]
   by_cases ht : tw c d a = 0
   ·
    rw [if_pos (show crossS a a a c = 0 ∧ crossS a a a d = 0 ∧ crossS c d c a = 0 ∧ crossS c d c a = 0 from ⟨c1, c2, ht, ht⟩), shared_pt c d a hcd ht]
    simp only [ht, decide_true, Bool.true_and, Bool.and_eq_true, decide_eq_true_eq, and_assoc]
   ·
    rw [if_neg (show ¬ (crossS a a a c = 0 ∧ crossS a a a d = 0 ∧ crossS c d c a = 0 ∧ crossS c d c a = 0) from fun e => ht e.2.2.1)]
    simp [ht]
 rw [if_neg hab]
 by_cases hcd : c = d
 ·
  subst hcd
  rw [if_pos rfl]
  have c0 : crossS a b c c = 0 := by unfold crossS; grind
  have c1 : crossS c c c a = 0 := by unfold crossS; grind
  have c2 : crossS c c c b = 0 := by unfold crossS; grind
  rw [if_neg (show ¬ (a = b ∧ c = c ∧ ¬ a = c) from fun e => hab e.1), if_pos c0]
  unfold onS
  rw [nn a b c na nb nc]
  have ct : crossS a b a c = tw a b c := rfl
  by_cases ht : tw a b c = 0
  ·
   rw [if_pos (show crossS a b a c = 0 ∧ crossS a b a c = 0 ∧ crossS c c c a = 0 ∧ crossS c c c b = 0 from ⟨ht, ht, c1, c2⟩), sharedS_comm, shared_pt a b c hab ht]
   simp only [ht, decide_true, Bool.true_and, Bool.and_eq_true, decide_eq_true_eq, and_assoc]
  ·
   rw [if_neg (show ¬ (crossS a b a c = 0 ∧ crossS a b a c = 0 ∧ crossS c c c a = 0 ∧ crossS c c c b = 0) from fun e => ht e.1)]
   simp [ht]
 rw [if_neg hcd, if_neg (show ¬ (a = b ∧ c = d ∧ ¬ a = c) from fun e => hab e.1)]
 have e1 : crossS a b a c = tw a b c := rfl
 have e2 : crossS a b a d = tw a b d := rfl
 have e0 : crossS a b c d = tw a b d - tw a b c := by unfold crossS tw; grind
 have es : crossS a c c d = tw c d a := by unfold crossS tw; grind
 have es2 : tw c d b = tw c d a - crossS a b c d := by unfold crossS tw; grind
 have et : crossS a c a b = - tw a b c := by unfold crossS tw; grind
 simp only [sideS_zero (nn a b c na nb nc), sideS_zero (nn a b d na nb nd)]
 by_cases hz : tw a b c = 0 ∧ tw a b d = 0
 ·
  obtain ⟨z1, z2⟩ := hz
  have p1 : crossS c d c a = 0 := by
   unfold crossS
   refine parallel (Pt.sub_ne hab) ?_ ?_
   · unfold tw at z1 z2; grind
   · unfold tw at z1 z2; grind
  have p2 : crossS c d c b = 0 := by
   unfold crossS
   refine parallel (Pt.sub_ne hab) ?_ ?_
   · unfold tw at z1 z2; grind
   · unfold tw at z1 z2; grind
  rw [if_pos (show tw a b c = 0 ∧ tw a b d = 0 from ⟨z1, z2⟩), if_pos (show crossS a b c d = 0 by rw [e0, z1, z2]; rfl), if_pos (show crossS a b a c = 0 ∧ crossS a b a d = 0 ∧ crossS c d c a = 0 ∧ crossS c d c b = 0 from ⟨z1, z2, p1, p2⟩)]
 ·
  rw [if_neg hz]
  simp only [side_prod (nn a b c na nb nc) (nn a b d na nb nd), side_prod (nn c d a nc nd na) (nn c d b nc nd nb), es2, et, es]
  generalize crossS a b c d = n at *
  generalize tw c d a = s at *
  by_cases hn0 : n = 0
  ·
   rw [if_pos hn0, if_neg (show ¬ (crossS a b a c = 0 ∧ crossS a b a d = 0 ∧ crossS c d c a = 0 ∧ crossS c d c b = 0) from fun e => hz ⟨e.1, e.2.1⟩), if_neg]
   omega
  ·
   rw [if_neg hn0]
   by_cases hneg : n < 0
   ·
    rw [if_pos hneg]
    have : (((0 ≤ tw a b c ∧ tw a b d ≤ 0 ∨ tw a b c ≤ 0 ∧ 0 ≤ tw a b d) ∧ (0 ≤ s ∧ s - n ≤ 0 ∨ s ≤ 0 ∧ 0 ≤ s - n)) ↔ (0 ≤ -s ∧ -s ≤ -n ∧ 0 ≤ - -tw a b c ∧ - -tw a b c ≤ -n)) := by omega
    simp only [this]
   ·
    rw [if_neg hneg]
    have : (((0 ≤ tw a b c ∧ tw a b d ≤ 0 ∨ tw a b c ≤ 0 ∧ 0 ≤ tw a b d) ∧ (0 ≤ s ∧ s - n ≤ 0 ∨ s ≤ 0 ∧ 0 ≤ s - n)) ↔ (0 ≤ s ∧ s ≤ n ∧ 0 ≤ -tw a b c ∧ -tw a b c ≤ n)) := by omega
    simp only [this]
end Go.Proofs.YtoclnkfeblfpbaaGreat
namespace Go.Proofs.YtoclnkfeblfpbaaGreat
open Go.RowKit

structure Sg where
 arc : Ar
 i : Nat
 n : Nat
 a : Pt
 b : Pt
/-- A slice value in a cell. -/
structure SV where
 a : Option Addr
 n : Nat
 c : Nat
def sgC (s : Sg × SV) : List Value := [.int .i64 s.1.arc.id, .int .i64 s.1.arc.fr, .int .i64 s.1.arc.dst, .slice s.2.a s.2.n s.2.c, .int .i64 s.1.arc.left, .int .i64 s.1.arc.right, .int .i64 s.1.i, .int .i64 s.1.n, .int .i64 s.1.a.x, .int .i64 s.1.a.y, .int .i64 s.1.b.x, .int .i64 s.1.b.y]
def sgV (s : Sg) (v : Value) : Value := .agg #[.int .i64 s.arc.id, .int .i64 s.arc.fr, .int .i64 s.arc.dst, v, .int .i64 s.arc.left, .int .i64 s.arc.right, .int .i64 s.i, .int .i64 s.n, .int .i64 s.a.x, .int .i64 s.a.y, .int .i64 s.b.x, .int .i64 s.b.y]
theorem Blk.facts12 {w : World} {g : Nat} {t : TypeId} {v0 v1 v2 v3 v4 v5 v6 v7 v8 v9 v10 v11 : Value} (h : Blk w g t #[v0, v1, v2, v3, v4, v5, v6, v7, v8, v9, v10, v11]) :
  g < w.heap.size ∧ w.cell? ⟨g, 0, none⟩ = some v0 ∧ w.cell? ⟨g, 1, none⟩ = some v1 ∧ w.cell? ⟨g, 2, none⟩ = some v2 ∧ w.cell? ⟨g, 3, none⟩ = some v3 ∧ w.cell? ⟨g, 4, none⟩ = some v4 ∧ w.cell? ⟨g, 5, none⟩ = some v5 ∧ w.cell? ⟨g, 6, none⟩ = some v6 ∧ w.cell? ⟨g, 7, none⟩ = some v7 ∧ w.cell? ⟨g, 8, none⟩ = some v8 ∧ w.cell? ⟨g, 9, none⟩ = some v9 ∧ w.cell? ⟨g, 10, none⟩ = some v10 ∧ w.cell? ⟨g, 11, none⟩ = some v11 ∧
  w.frozen? ⟨g, 0, none⟩ = false ∧ w.frozen? ⟨g, 1, none⟩ = false ∧ w.frozen? ⟨g, 2, none⟩ = false ∧ w.frozen? ⟨g, 3, none⟩ = false ∧ w.frozen? ⟨g, 4, none⟩ = false ∧ w.frozen? ⟨g, 5, none⟩ = false ∧ w.frozen? ⟨g, 6, none⟩ = false ∧ w.frozen? ⟨g, 7, none⟩ = false ∧ w.frozen? ⟨g, 8, none⟩ = false ∧ w.frozen? ⟨g, 9, none⟩ = false ∧ w.frozen? ⟨g, 10, none⟩ = false ∧ w.frozen? ⟨g, 11, none⟩ = false :=
 ⟨h.lt, h.cell 0, h.cell 1, h.cell 2, h.cell 3, h.cell 4, h.cell 5, h.cell 6, h.cell 7, h.cell 8, h.cell 9, h.cell 10, h.cell 11, h.frozen 0, h.frozen 1, h.frozen 2, h.frozen 3, h.frozen 4, h.frozen 5, h.frozen 6, h.frozen 7, h.frozen 8, h.frozen 9, h.frozen 10, h.frozen 11⟩

def endsS (a : Ar) (id : Int) : Bool := a.fr == id || a.dst == id
set_option maxHeartbeats 1000000 in
theorem ends_spec (a : Ar) (A : Option Addr) (n c : Nat) (id : Int) (w : World) :
  Calls Tryz.prog 134 #[.agg #[.int .i64 a.id, .int .i64 a.fr, .int .i64 a.dst, .slice A n c, .int .i64 a.left, .int .i64 a.right], .int .i64 id] w fun e w' => e = .returned (.bool (endsS a id)) ∧ Below w.heap.size w w' := by
 unfold endsS
 cases h1 : (a.fr == id)
 ·
  cases h2 : (a.dst == id)
  all_goals
   go_enter Tryz.func134, Tryz.ntmps134
   go_wp2_with fail
   go_ret
   exact ⟨rfl, bA (bR w) _⟩
 ·
  go_enter Tryz.func134, Tryz.ntmps134
  go_wp2_with fail
  go_ret
  exact ⟨rfl, bA (bR w) _⟩

def apartS (s t : Sg) : Bool := if t.i = s.i + 1 ∨ (s.i = 0 ∧ t.i + 1 = t.n ∧ s.arc.fr = s.arc.dst) then rmeetS s.a s.b t.a t.b == 1 else rmeetS s.a s.b t.a t.b == 0
set_option maxRecDepth 100000 in
set_option maxHeartbeats 1000000 in
theorem apart_spec (s t : Sg) (A A' : Option Addr) (n n' c c' : Nat) (w : World) (hs : s.i ≤ 2097152) (ht : t.n ≤ 2097152) (ht' : 1 ≤ t.n) :
  Calls Tryz.prog 109 #[sgV s (.slice A n c), sgV t (.slice A' n' c')] w fun e w' => e = .returned (.bool (apartS s t)) ∧ Below w.heap.size w w' := by
 have TM : ∀ W, Calls Tryz.prog 133 #[ptV s.a, ptV s.b, ptV t.a, ptV t.b] W _ := fun W => RMeet_spec s.a s.b t.a t.b W
 unfold ptV at TM
 have HM := Lib.hid TM; clear TM
 unfold sgV
 obtain ⟨q, hq⟩ : ∃ q, apartS s t = q := ⟨_, rfl⟩
 rw [hq]
 unfold apartS at hq
 have Hq := Lib.hid hq; clear hq
 go_enter Tryz.func109, Tryz.ntmps109
 go_wp2_with fail
 refine (HM.out _).mono ?_
 rintro e w1 ⟨rfl, hb1⟩
 have Bw : Below w.heap.size w w1 := by
  repeat (first | with_reducible exact bR _ | with_reducible assumption | with_reducible refine bA ?_ _ | with_reducible refine bD ?_ | with_reducible refine bN ?_ _ | ((with_reducible refine bS ?_ ?_ _); rotate_left; (simp; try omega)) | ((with_reducible refine bT ?_ ?_); rotate_left; with_reducible assumption) | with_reducible refine bT ?_ (by assumption))
 have X2 : Blk _ (w.heap.size) 129 #[.int .i64 s.arc.id, .int .i64 s.arc.fr, .int .i64 s.arc.dst, .slice A n c, .int .i64 s.arc.left, .int .i64 s.arc.right, .int .i64 s.i, .int .i64 s.n, .int .i64 s.a.x, .int .i64 s.a.y, .int .i64 s.b.x, .int .i64 s.b.y] := Blk.keep (by repeat (first | exact Blk.made (by simp) _ _ | refine Blk.alloc ?_ _)) hb1
 have X3 : Blk _ (w.heap.size + 1) 129 #[.int .i64 t.arc.id, .int .i64 t.arc.fr, .int .i64 t.arc.dst, .slice A' n' c', .int .i64 t.arc.left, .int .i64 t.arc.right, .int .i64 t.i, .int .i64 t.n, .int .i64 t.a.x, .int .i64 t.a.y, .int .i64 t.b.x, .int .i64 t.b.y] := Blk.keep (by repeat (first | exact Blk.made (by simp) _ _ | refine Blk.alloc ?_ _)) hb1
 clear hb1
 generalize rmeetS s.a s.b t.a t.b = m at *
 obtain ⟨X2l, X2a, X2b, X2c, X2d, X2e, X2f, X2g, X2h, X2i, X2j, X2k, X2l, -, -, -, -, -, -, -, -, -, -, -, -⟩ := X2.facts12
 obtain ⟨X3l, X3a, X3b, X3c, X3d, X3e, X3f, X3g, X3h, X3i, X3j, X3k, X3l, -, -, -, -, -, -, -, -, -, -, -, -⟩ := X3.facts12
 cases h1 : ((t.i : Int) == (s.i : Int) + 1)
 case true =>
  have hf := Lib.hid (show (m == 1) = q by rw [← Hq.out, if_pos]; left; have := eq_of_beq h1; omega)
  go_wp2_with fail
  go_ret
  exact ⟨ret_bool hf.out, Bw⟩
 case false =>
  cases h2 : ((s.i : Int) == 0)
  case false =>
   have hf := Lib.hid (show (m == 0) = q by rw [← Hq.out, if_neg]; simp only [beq_eq_false_iff_ne] at h1 h2; omega)
   go_wp2_with fail
   go_ret
   exact ⟨ret_bool hf.out, Bw⟩
  case true =>
   cases h3 : ((t.i : Int) == (t.n : Int) - 1)
   case false =>
    have hf := Lib.hid (show (m == 0) = q by rw [← Hq.out, if_neg]; simp only [beq_eq_false_iff_ne, beq_iff_eq] at h1 h2 h3; omega)
    go_wp2_with fail
    go_ret
    exact ⟨ret_bool hf.out, Bw⟩
   case true =>
    cases h4 : (s.arc.fr == s.arc.dst)
    case false =>
     have hf := Lib.hid (show (m == 0) = q by rw [← Hq.out, if_neg]; simp only [beq_eq_false_iff_ne, beq_iff_eq] at h1 h2 h3 h4; omega)
     go_wp2_with fail
     go_ret
     exact ⟨ret_bool hf.out, Bw⟩
    case true =>
     have hf := Lib.hid (show (m == 1) = q by rw [← Hq.out, if_pos]; simp only [beq_eq_false_iff_ne, beq_iff_eq] at h1 h2 h3 h4; omega)
     go_wp2_with fail
     go_ret
     exact ⟨ret_bool hf.out, Bw⟩
end Go.Proofs.YtoclnkfeblfpbaaGreat
namespace Go.Proofs.YtoclnkfeblfpbaaGreat
open Go.RowKit

def meetAt (s t : Sg) (x : Nd) : Bool := endsS s.arc x.id && endsS t.arc x.id && ronS s.a s.b x.pt && ronS t.a t.b x.pt
def joinedS (p : Pl) (s t : Sg) : Bool := if rmeetS s.a s.b t.a t.b = 1 then p.nodes.any (meetAt s t) else rmeetS s.a s.b t.a t.b == 0

set_option maxRecDepth 100000 in
set_option maxHeartbeats 2000000 in
theorem joined_spec (v : Value) (p : Pl) (s t : Sg) (A A' : Option Addr) (n n' c c' : Nat) (w : World) (h : PlV w v p) :
  Calls Tryz.prog 110 #[v, sgV s (.slice A n c), sgV t (.slice A' n' c')] w fun e w' => e = .returned (.bool (joinedS p s t)) ∧ Below w.heap.size w w' := by
 have TM : ∀ W, Calls Tryz.prog 133 #[ptV s.a, ptV s.b, ptV t.a, ptV t.b] W _ := fun W => RMeet_spec s.a s.b t.a t.b W
 have TE : ∀ (a : Ar) (A : Option Addr) (n c : Nat) (id : Int) W, Calls Tryz.prog 134 #[.agg #[.int .i64 a.id, .int .i64 a.fr, .int .i64 a.dst, .slice A n c, .int .i64 a.left, .int .i64 a.right], .int .i64 id] W _ := fun a A n c id W => ends_spec a A n c id W
 have TO : ∀ p q r : Pt, ∀ W, Calls Tryz.prog 132 #[ptV p, ptV q, ptV r] W _ := fun p q r W => ROn_spec p q r W
 unfold ptV at TM TO
 have HM := Lib.hid TM; clear TM
 have HE := Lib.hid TE; clear TE
 have HO := Lib.hid TO; clear TO
 obtain ⟨_, va, vf, al, rfl, -, ⟨An, cn, rfl, hn1, hn2, hR⟩, -, -⟩ := h
 unfold maxLen at hn2
 have HR := Lib.hid hR; clear hR
 unfold sgV
 obtain ⟨q, hq⟩ : ∃ q, joinedS p s t = q := ⟨_, rfl⟩
 rw [hq]
 unfold joinedS at hq
 generalize p.nodes = l at *
 have Hq := Lib.hid hq; clear hq
 go_enter Tryz.func110, Tryz.ntmps110
 go_wp2_with fail
 refine (HM.out _).mono ?_
 rintro e w1 ⟨rfl, hb1⟩
 have Bw : Below w.heap.size w w1 := by
  repeat (first | with_reducible exact bR _ | with_reducible assumption | with_reducible refine bA ?_ _ | with_reducible refine bD ?_ | with_reducible refine bN ?_ _ | ((with_reducible refine bS ?_ ?_ _); rotate_left; (simp; try omega)) | ((with_reducible refine bT ?_ ?_); rotate_left; with_reducible assumption) | with_reducible refine bT ?_ (by assumption))
 have X2 : Blk _ (w.heap.size) 26 #[.slice An l.length cn, va, vf] := Blk.keep (by repeat (first | exact Blk.made (by simp) _ _ | refine Blk.alloc ?_ _)) hb1
 have X3 : Blk _ (w.heap.size + 1) 129 #[.int .i64 s.arc.id, .int .i64 s.arc.fr, .int .i64 s.arc.dst, .slice A n c, .int .i64 s.arc.left, .int .i64 s.arc.right, .int .i64 s.i, .int .i64 s.n, .int .i64 s.a.x, .int .i64 s.a.y, .int .i64 s.b.x, .int .i64 s.b.y] := Blk.keep (by repeat (first | exact Blk.made (by simp) _ _ | refine Blk.alloc ?_ _)) hb1
 have X4 : Blk _ (w.heap.size + 1 + 1) 129 #[.int .i64 t.arc.id, .int .i64 t.arc.fr, .int .i64 t.arc.dst, .slice A' n' c', .int .i64 t.arc.left, .int .i64 t.arc.right, .int .i64 t.i, .int .i64 t.n, .int .i64 t.a.x, .int .i64 t.a.y, .int .i64 t.b.x, .int .i64 t.b.y] := Blk.keep (by repeat (first | exact Blk.made (by simp) _ _ | refine Blk.alloc ?_ _)) hb1
 clear hb1
 generalize rmeetS s.a s.b t.a t.b = m at *
 by_cases h1 : m = 1
 case neg =>
  have hf := Lib.hid (show (m == 0) = q by rw [← Hq.out, if_neg h1])
  have h1' : (m != 1) = true := by simpa using h1
  clear h1
  go_wp2_with fail
  go_ret
  exact ⟨ret_bool hf.out, Bw⟩
 subst h1
 have hf := Lib.hid (show l.any (meetAt s t) = q by rw [← Hq.out, if_pos rfl])
 clear Hq
 have HX2 := Lib.hid X2
 have HX3 := Lib.hid X3
 have HX4 := Lib.hid X4
 have HB := Lib.hid Bw
 clear X2 X3 X4 Bw
 go_wp2_with fail
 go_loopw [8] (fun i wr => ∃ k : Nat, k ≤ l.length ∧ i = .int .i64 k ∧ Below w1.heap.size w1 wr ∧ ∀ j (hj : j < l.length), j < k → meetAt s t l[j] = false) (fun i _ => l.length - (intOf i).toNat)
 case atStart => exact ⟨0, Nat.zero_le _, rfl, bR w1, fun j _ h => by omega⟩
 case round =>
  obtain ⟨k, hk, rfl, hb, hno⟩ := hrel
  have Hb := Lib.hid hb
  have Hno := Lib.hid hno
  have X2 := HX2.out.keep hb
  have X3 := HX3.out.keep hb
  have X4 := HX4.out.keep hb
  clear hb hno
  obtain ⟨X2l, X2a, X2b, X2c, -, -, -⟩ := X2.facts3
  obtain ⟨X3l, X3a, X3b, X3c, X3d, X3e, X3f, X3g, X3h, X3i, X3j, X3k, X3l, -, -, -, -, -, -, -, -, -, -, -, -⟩ := X3.facts12
  obtain ⟨X4l, X4a, X4b, X4c, X4d, X4e, X4f, X4g, X4h, X4i, X4j, X4k, X4l, -, -, -, -, -, -, -, -, -, -, -, -⟩ := X4.facts12
  by_cases hlt : k < l.length
  case neg =>
   have hg := Lib.hid (any_miss l (meetAt s t) (fun j hj => Hno.out j hj (by omega)))
   go_wp2_with fail
   go_ret
   exact ⟨ret_bool (by rw [← hf.out, hg.out]), bT HB.out Hb.out⟩
  obtain ⟨b, o, rfl, hlb, c0, c1, c2⟩ := (HR.out.mono (bT HB.out Hb.out)).nd hlt
  have hx := Lib.hid (show meetAt s t l[k] = (endsS s.arc l[k].id && endsS t.arc l[k].id && ronS s.a s.b l[k].pt && ronS t.a t.b l[k].pt) from rfl)
  go_wp2_with fail
  refine (HE.out _ _ _ _ _ _).mono ?_
  rintro e w2 ⟨rfl, hb2⟩
  have B2 : Below w1.heap.size w1 w2 := bT (bA Hb.out _) hb2
  have X5 : Blk w2 wr.heap.size 43 #[.int .i64 l[k].id, .int .i64 l[k].pt.x, .int .i64 l[k].pt.y] := (Blk.made rfl _ _).keep hb2
  replace X2 := (X2.alloc _).keep hb2
  replace X3 := (X3.alloc _).keep hb2
  replace X4 := (X4.alloc _).keep hb2
  clear hb2 c0 c1 c2 hlb
  try clear X2l
  try clear X2a
  try clear X2b
  try clear X2c
  obtain ⟨X2l, X2a, X2b, X2c, -, -, -⟩ := X2.facts3
  try clear X3l
  try clear X3a
  try clear X3b
  try clear X3c
  try clear X3d
  try clear X3e
  try clear X3f
  try clear X3g
  try clear X3h
  try clear X3i
  try clear X3j
  try clear X3k
  try clear X3l
  obtain ⟨X3l, X3a, X3b, X3c, X3d, X3e, X3f, X3g, X3h, X3i, X3j, X3k, X3l, -, -, -, -, -, -, -, -, -, -, -, -⟩ := X3.facts12
  try clear X4l
  try clear X4a
  try clear X4b
  try clear X4c
  try clear X4d
  try clear X4e
  try clear X4f
  try clear X4g
  try clear X4h
  try clear X4i
  try clear X4j
  try clear X4k
  try clear X4l
  obtain ⟨X4l, X4a, X4b, X4c, X4d, X4e, X4f, X4g, X4h, X4i, X4j, X4k, X4l, -, -, -, -, -, -, -, -, -, -, -, -⟩ := X4.facts12
  obtain ⟨X5l, X5a, X5b, X5c, -, -, -⟩ := X5.facts3
  cases e1 : endsS s.arc l[k].id
  case false =>
   have hy := Lib.hid (show meetAt s t l[k] = false by rw [hx.out, e1]; rfl)
   clear e1
   go_wp2_with fail
   go_roundw
   case rel => exact ⟨k + 1, by omega, by go_num, B2, all_succ (p := fun x => meetAt s t x = false) Hno.out hlt hy.out⟩
   case measure => simp [intOf]; omega
  have H1 := Lib.hid e1; clear e1
  go_wp2_with fail
  refine (HE.out _ _ _ _ _ _).mono ?_
  rintro e w3 ⟨rfl, hb3⟩
  replace B2 : Below w1.heap.size w1 w3 := bT B2 hb3
  replace X2 := X2.keep hb3
  replace X3 := X3.keep hb3
  replace X4 := X4.keep hb3
  replace X5 := X5.keep hb3
  clear hb3
  try clear X2l
  try clear X2a
  try clear X2b
  try clear X2c
  obtain ⟨X2l, X2a, X2b, X2c, -, -, -⟩ := X2.facts3
  try clear X3l
  try clear X3a
  try clear X3b
  try clear X3c
  try clear X3d
  try clear X3e
  try clear X3f
  try clear X3g
  try clear X3h
  try clear X3i
  try clear X3j
  try clear X3k
  try clear X3l
  obtain ⟨X3l, X3a, X3b, X3c, X3d, X3e, X3f, X3g, X3h, X3i, X3j, X3k, X3l, -, -, -, -, -, -, -, -, -, -, -, -⟩ := X3.facts12
  try clear X4l
  try clear X4a
  try clear X4b
  try clear X4c
  try clear X4d
  try clear X4e
  try clear X4f
  try clear X4g
  try clear X4h
  try clear X4i
  try clear X4j
  try clear X4k
  try clear X4l
  obtain ⟨X4l, X4a, X4b, X4c, X4d, X4e, X4f, X4g, X4h, X4i, X4j, X4k, X4l, -, -, -, -, -, -, -, -, -, -, -, -⟩ := X4.facts12
  try clear X5l
  try clear X5a
  try clear X5b
  try clear X5c
  obtain ⟨X5l, X5a, X5b, X5c, -, -, -⟩ := X5.facts3
  cases e2 : endsS t.arc l[k].id
  case false =>
   have hy := Lib.hid (show meetAt s t l[k] = false by rw [hx.out, e2]; simp)
   clear e2
   go_wp2_with fail
   go_roundw
   case rel => exact ⟨k + 1, by omega, by go_num, B2, all_succ (p := fun x => meetAt s t x = false) Hno.out hlt hy.out⟩
   case measure => simp [intOf]; omega
  have H2 := Lib.hid e2; clear e2
  go_wp2_with fail
  refine (HO.out s.a s.b l[k].pt _).mono ?_
  rintro e w4 ⟨rfl, hb4⟩
  replace B2 : Below w1.heap.size w1 w4 := bT B2 hb4
  replace X2 := X2.keep hb4
  replace X3 := X3.keep hb4
  replace X4 := X4.keep hb4
  replace X5 := X5.keep hb4
  clear hb4
  try clear X2l
  try clear X2a
  try clear X2b
  try clear X2c
  obtain ⟨X2l, X2a, X2b, X2c, -, -, -⟩ := X2.facts3
  try clear X3l
  try clear X3a
  try clear X3b
  try clear X3c
  try clear X3d
  try clear X3e
  try clear X3f
  try clear X3g
  try clear X3h
  try clear X3i
  try clear X3j
  try clear X3k
  try clear X3l
  obtain ⟨X3l, X3a, X3b, X3c, X3d, X3e, X3f, X3g, X3h, X3i, X3j, X3k, X3l, -, -, -, -, -, -, -, -, -, -, -, -⟩ := X3.facts12
  try clear X4l
  try clear X4a
  try clear X4b
  try clear X4c
  try clear X4d
  try clear X4e
  try clear X4f
  try clear X4g
  try clear X4h
  try clear X4i
  try clear X4j
  try clear X4k
  try clear X4l
  obtain ⟨X4l, X4a, X4b, X4c, X4d, X4e, X4f, X4g, X4h, X4i, X4j, X4k, X4l, -, -, -, -, -, -, -, -, -, -, -, -⟩ := X4.facts12
  try clear X5l
  try clear X5a
  try clear X5b
  try clear X5c
  obtain ⟨X5l, X5a, X5b, X5c, -, -, -⟩ := X5.facts3
  cases e3 : ronS s.a s.b l[k].pt
  case false =>
   have hy := Lib.hid (show meetAt s t l[k] = false by rw [hx.out, e3]; simp)
   clear e3
   go_wp2_with fail
   go_roundw
   case rel => exact ⟨k + 1, by omega, by go_num, B2, all_succ (p := fun x => meetAt s t x = false) Hno.out hlt hy.out⟩
   case measure => simp [intOf]; omega
  have H3 := Lib.hid e3; clear e3
  go_wp2_with fail
  refine (HO.out t.a t.b l[k].pt _).mono ?_
  rintro e w5 ⟨rfl, hb5⟩
  replace B2 : Below w1.heap.size w1 w5 := bT B2 hb5
  replace X2 := X2.keep hb5
  replace X3 := X3.keep hb5
  replace X4 := X4.keep hb5
  replace X5 := X5.keep hb5
  clear hb5
  try clear X2l
  try clear X2a
  try clear X2b
  try clear X2c
  obtain ⟨X2l, X2a, X2b, X2c, -, -, -⟩ := X2.facts3
  try clear X3l
  try clear X3a
  try clear X3b
  try clear X3c
  try clear X3d
  try clear X3e
  try clear X3f
  try clear X3g
  try clear X3h
  try clear X3i
  try clear X3j
  try clear X3k
  try clear X3l
  obtain ⟨X3l, X3a, X3b, X3c, X3d, X3e, X3f, X3g, X3h, X3i, X3j, X3k, X3l, -, -, -, -, -, -, -, -, -, -, -, -⟩ := X3.facts12
  try clear X4l
  try clear X4a
  try clear X4b
  try clear X4c
  try clear X4d
  try clear X4e
  try clear X4f
  try clear X4g
  try clear X4h
  try clear X4i
  try clear X4j
  try clear X4k
  try clear X4l
  obtain ⟨X4l, X4a, X4b, X4c, X4d, X4e, X4f, X4g, X4h, X4i, X4j, X4k, X4l, -, -, -, -, -, -, -, -, -, -, -, -⟩ := X4.facts12
  try clear X5l
  try clear X5a
  try clear X5b
  try clear X5c
  obtain ⟨X5l, X5a, X5b, X5c, -, -, -⟩ := X5.facts3
  cases e4 : ronS t.a t.b l[k].pt
  case false =>
   have hy := Lib.hid (show meetAt s t l[k] = false by rw [hx.out, e4]; simp)
   clear e4
   go_wp2_with fail
   go_roundw
   case rel => exact ⟨k + 1, by omega, by go_num, B2, all_succ (p := fun x => meetAt s t x = false) Hno.out hlt hy.out⟩
   case measure => simp [intOf]; omega
  have hg := Lib.hid (any_hit l (meetAt s t) k hlt (by rw [hx.out, H1.out, H2.out, H3.out, e4]; rfl))
  clear e4
  go_wp2_with fail
  go_ret
  exact ⟨ret_bool (by rw [← hf.out, hg.out]), bT HB.out B2⟩
end Go.Proofs.YtoclnkfeblfpbaaGreat
namespace Go.Proofs.YtoclnkfeblfpbaaGreat
open Go.RowKit

def isEnd (s : Sg) (x : Nd) : Bool := (((s.i : Int) == 0) && (s.arc.fr == x.id)) || (((s.i : Int) == (s.n : Int) - 1) && (s.arc.dst == x.id))
def offNd (s : Sg) (x : Nd) : Bool := isEnd s x || !ronS s.a s.b x.pt
def soundS (s : Sg) : Bool := !decide (s.a = s.b) && (s.arc.fr != s.arc.dst || decide (3 ≤ (s.n : Int)))
def aloneS (p : Pl) (s : Sg) : Bool := p.nodes.all (offNd s) && soundS s
theorem all_hit {α : Type} (l : List α) (q : α → Bool) (k : Nat) (hk : k < l.length) (h : q l[k] = false) : l.all q = false := List.all_eq_false.2 ⟨l[k], List.getElem_mem hk, by simp [h]⟩
theorem all_miss {α : Type} (l : List α) (q : α → Bool) (h : ∀ j (hj : j < l.length), q l[j] = true) : l.all q = true := List.all_eq_true.2 fun x hx => by
 obtain ⟨i, hi, rfl⟩ := List.mem_iff_getElem.1 hx
 exact h i hi

set_option maxRecDepth 100000 in
set_option maxHeartbeats 2000000 in
theorem alone_spec (v : Value) (p : Pl) (s : Sg) (A : Option Addr) (n c : Nat) (w : World) (h : PlV w v p) (hs1 : s.i ≤ 2097152) (hs2 : s.n ≤ 2097152) :
  Calls Tryz.prog 108 #[v, sgV s (.slice A n c)] w fun e w' => e = .returned (.bool (aloneS p s)) ∧ Below w.heap.size w w' := by
 have TO : ∀ p q r : Pt, ∀ W, Calls Tryz.prog 132 #[ptV p, ptV q, ptV r] W _ := fun p q r W => ROn_spec p q r W
 unfold ptV at TO
 have HO := Lib.hid TO; clear TO
 obtain ⟨_, va, vf, al, rfl, -, ⟨An, cn, rfl, hn1, hn2, hR⟩, -, -⟩ := h
 unfold maxLen at hn2
 have HR := Lib.hid hR; clear hR
 unfold sgV
 obtain ⟨q, hq⟩ : ∃ q, aloneS p s = q := ⟨_, rfl⟩
 rw [hq]
 unfold aloneS at hq
 generalize p.nodes = l at *
 have Hq := Lib.hid hq; clear hq
 go_enter Tryz.func108, Tryz.ntmps108
 go_wp2_with fail
 obtain ⟨W0, hW0⟩ : ∃ W0 : World, W0 = (w.alloc (.cells #[.slice An l.length cn, va, vf] 26)).alloc (.cells #[.int .i64 s.arc.id, .int .i64 s.arc.fr, .int .i64 s.arc.dst, .slice A n c, .int .i64 s.arc.left, .int .i64 s.arc.right, .int .i64 s.i, .int .i64 s.n, .int .i64 s.a.x, .int .i64 s.a.y, .int .i64 s.b.x, .int .i64 s.b.y] 129) := ⟨_, rfl⟩
 have Bw : Below w.heap.size w W0 := by rw [hW0]; exact bA (bA (bR w) _) _
 have X2 : Blk W0 w.heap.size 26 #[.slice An l.length cn, va, vf] := by rw [hW0]; exact (Blk.made rfl _ _).alloc _
 have X3 : Blk W0 (w.heap.size + 1) 129 #[.int .i64 s.arc.id, .int .i64 s.arc.fr, .int .i64 s.arc.dst, .slice A n c, .int .i64 s.arc.left, .int .i64 s.arc.right, .int .i64 s.i, .int .i64 s.n, .int .i64 s.a.x, .int .i64 s.a.y, .int .i64 s.b.x, .int .i64 s.b.y] := by rw [hW0]; exact Blk.made (by simp) _ _
 rw [← hW0]
 have HX2 := Lib.hid X2
 have HX3 := Lib.hid X3
 have HB := Lib.hid Bw
 clear X2 X3 Bw hW0
 go_loopw [5] (fun i wr => ∃ k : Nat, k ≤ l.length ∧ i = .int .i64 k ∧ Below W0.heap.size W0 wr ∧ ∀ j (hj : j < l.length), j < k → offNd s l[j] = true) (fun i _ => l.length - (intOf i).toNat)
 case atStart => exact ⟨0, Nat.zero_le _, rfl, bR W0, fun j _ h => by omega⟩
 case round =>
  obtain ⟨k, hk, rfl, hb, hno⟩ := hrel
  have Hb := Lib.hid hb
  have Hno := Lib.hid hno
  have X2 := HX2.out.keep hb
  have X3 := HX3.out.keep hb
  clear hb hno
  obtain ⟨X2l, X2a, X2b, X2c, -, -, -⟩ := X2.facts3
  obtain ⟨X3l, X3a, X3b, X3c, X3d, X3e, X3f, X3g, X3h, X3i, X3j, X3k, X3l, -, -, -, -, -, -, -, -, -, -, -, -⟩ := X3.facts12
  by_cases hlt : k < l.length
  case neg =>
   have hg := Lib.hid (all_miss l (offNd s) (fun j hj => Hno.out j hj (by omega)))
   have hf := Lib.hid (show soundS s = q by rw [← Hq.out, hg.out]; rfl)
   have hE := run_neq_pt s.a s.b
   by_cases h1 : s.a = s.b
   ·
    have h1' : decide (s.a = s.b) = true := decide_eq_true h1
    have hz := Lib.hid (show false = soundS s by rw [soundS, h1']; rfl)
    have H1 := Lib.hid h1; clear h1
    go_wp2_with fail
    go_ret
    exact ⟨ret_bool (hz.out.trans hf.out), bT HB.out Hb.out⟩
   ·
    have h1' : decide (s.a = s.b) = false := decide_eq_false h1
    have H1 := Lib.hid h1; clear h1
    cases h2 : (s.arc.fr != s.arc.dst)
    ·
     have hz := Lib.hid (show decide (3 ≤ (s.n : Int)) = soundS s by rw [soundS, h1', h2]; rfl)
     go_wp2_with fail
     go_ret
     exact ⟨ret_bool (hz.out.trans hf.out), bT HB.out Hb.out⟩
    ·
     have hz := Lib.hid (show true = soundS s by rw [soundS, h1', h2]; rfl)
     go_wp2_with fail
     go_ret
     exact ⟨ret_bool (hz.out.trans hf.out), bT HB.out Hb.out⟩
  obtain ⟨b, o, rfl, hlb, c0, c1, c2⟩ := (HR.out.mono (bT HB.out Hb.out)).nd hlt
  go_upto_region 5 with fail
  obtain ⟨W1, hW1⟩ : ∃ W1 : World, W1 = wr.alloc (.cells #[.int .i64 l[k].id, .int .i64 l[k].pt.x, .int .i64 l[k].pt.y] 43) := ⟨_, rfl⟩
  have B1 : Below W0.heap.size W0 W1 := by rw [hW1]; exact bA Hb.out _
  have X6 : Blk W1 wr.heap.size 43 #[.int .i64 l[k].id, .int .i64 l[k].pt.x, .int .i64 l[k].pt.y] := by rw [hW1]; exact Blk.made rfl _ _
  have hA1 : Below wr.heap.size wr W1 := by rw [hW1]; exact bA (bR wr) _
  replace X2 := X2.keep hA1
  replace X3 := X3.keep hA1
  rw [← hW1]
  clear c0 c1 c2 hlb hW1 hA1
  try clear X2l
  try clear X2a
  try clear X2b
  try clear X2c
  obtain ⟨X2l, X2a, X2b, X2c, -, -, -⟩ := X2.facts3
  try clear X3l
  try clear X3a
  try clear X3b
  try clear X3c
  try clear X3d
  try clear X3e
  try clear X3f
  try clear X3g
  try clear X3h
  try clear X3i
  try clear X3j
  try clear X3k
  try clear X3l
  obtain ⟨X3l, X3a, X3b, X3c, X3d, X3e, X3f, X3g, X3h, X3i, X3j, X3k, X3l, -, -, -, -, -, -, -, -, -, -, -, -⟩ := X3.facts12
  obtain ⟨X6l, X6a, X6b, X6c, -, -, -⟩ := X6.facts3
  go_cut [7] (fun u wx => u = .bool (isEnd s l[k]) ∧ wx = W1)
  case first =>
   cases h1 : ((s.i : Int) == 0)
   case true =>
    cases h2 : (s.arc.fr == l[k].id)
    case true =>
     have hz := Lib.hid (show true = isEnd s l[k] by rw [isEnd, h1, h2]; rfl)
     go_wp2_with fail
     go_meet
     case rel => exact ⟨congrArg Value.bool hz.out, rfl⟩
    case false =>
     cases h3 : ((s.i : Int) == (s.n : Int) - 1)
     case false =>
      have hz := Lib.hid (show false = isEnd s l[k] by rw [isEnd, h1, h2, h3]; rfl)
      go_wp2_with fail
      go_meet
      case rel => exact ⟨congrArg Value.bool hz.out, rfl⟩
     case true =>
      have hz := Lib.hid (show (s.arc.dst == l[k].id) = isEnd s l[k] by rw [isEnd, h1, h2, h3]; rfl)
      go_wp2_with fail
      go_meet
      case rel => exact ⟨congrArg Value.bool hz.out, rfl⟩
   case false =>
    cases h3 : ((s.i : Int) == (s.n : Int) - 1)
    case false =>
     have hz := Lib.hid (show false = isEnd s l[k] by rw [isEnd, h1, h3]; rfl)
     go_wp2_with fail
     go_meet
     case rel => exact ⟨congrArg Value.bool hz.out, rfl⟩
    case true =>
     have hz := Lib.hid (show (s.arc.dst == l[k].id) = isEnd s l[k] by rw [isEnd, h1, h3]; rfl)
     go_wp2_with fail
     go_meet
     case rel => exact ⟨congrArg Value.bool hz.out, rfl⟩
  case rest =>
   obtain ⟨rfl, rfl⟩ := hcut
   cases e1 : isEnd s l[k]
   case true =>
    have hy := Lib.hid (show offNd s l[k] = true by rw [offNd, e1]; rfl)
    clear e1
    go_wp2_with fail
    go_roundw
    case rel => exact ⟨k + 1, by omega, by go_num, B1, all_succ (p := fun x => offNd s x = true) Hno.out hlt hy.out⟩
    case measure => simp [intOf]; omega
   case false =>
   have E1 := Lib.hid e1; clear e1
   go_wp2_with fail
   refine (HO.out s.a s.b l[k].pt _).mono ?_
   rintro e w4 ⟨rfl, hb4⟩
   have B4 := bT B1 hb4
   cases e3 : ronS s.a s.b l[k].pt
   case false =>
    have hy := Lib.hid (show offNd s l[k] = true by rw [offNd, e3]; simp)
    clear e3
    go_wp2_with fail
    go_roundw
    case rel => exact ⟨k + 1, by omega, by go_num, B4, all_succ (p := fun x => offNd s x = true) Hno.out hlt hy.out⟩
    case measure => simp [intOf]; omega
   case true =>
    have hg := Lib.hid (all_hit l (offNd s) k hlt (by rw [offNd, E1.out, e3]; rfl))
    clear e3
    go_wp2_with fail
    go_ret
    exact ⟨ret_bool (by rw [← Hq.out, hg.out]; rfl), bT HB.out B4⟩
end Go.Proofs.YtoclnkfeblfpbaaGreat
