/- Plain law: the side through which a segment comes into a box: the program's way and the reference's. No walk here. Plain law: the reference's Clip (with reduced fractions) is the part of the segment within the box, too. No walk here. Plain law: crossings in their order: a sorted list of the same crossings is the one that is made by inserting each. No walk here. Words for memory of layer 42: crossings, pieces, parts, series. Plain law: the pieces of a path in a box: the program's way and the reference's give the same. No walk here. -/
import Derived.Test.YtfondidmklmonaaGreatJ01
import Derived.Test.YtfondidmklmonaaGreatGB
set_option linter.unusedSimpArgs false
set_option linter.unusedVariables false
namespace Go.Proofs.YtfondidmklmonaaGreat
open Go.RowKit

def inB (b : Bx) (p : Pt) : Bool := decide (b.x0 ≤ p.x ∧ p.x ≤ b.x1 ∧ b.y0 ≤ p.y ∧ p.y ≤ b.y1)
/-- the later of two places m / c, where c may be negative -/
def laterT (nd : Int × Int) (m c : Int) : Int × Int :=
 if c < 0 then (if nd.1 * -c < -m * nd.2 then (-m, -c) else nd) else if 0 < c ∧ nd.1 * c < m * nd.2 then (m, c) else nd
def onT (nd : Int × Int) (s w v : Int) : Bool := s * nd.2 + w * nd.1 == v * nd.2
def placeT (p q : Pt) (b : Bx) : Int × Int :=
 let a1 := if p.x < b.x0 then laterT (0, 1) (b.x0 - p.x) (q.x - p.x) else (0, 1)
 let a2 := if b.x1 < p.x then laterT a1 (b.x1 - p.x) (q.x - p.x) else a1
 let a3 := if p.y < b.y0 then laterT a2 (b.y0 - p.y) (q.y - p.y) else a2
 if b.y1 < p.y then laterT a3 (b.y1 - p.y) (q.y - p.y) else a3
def outT (w s e n : Bool) : Int := match w, s, e, n with
 | true, false, false, false => 1
 | false, true, false, false => 2
 | false, false, true, false => 3
 | false, false, false, true => 4
 | _, _, _, _ => 0
def throughS (p q : Pt) (b : Bx) : Int :=
 if inB b p = true then 0
 else
  let nd := placeT p q b
  outT (onT nd p.x (q.x - p.x) b.x0) (onT nd p.y (q.y - p.y) b.y0) (onT nd p.x (q.x - p.x) b.x1) (onT nd p.y (q.y - p.y) b.y1)
/-- the reference's -/
def clSideX (p q : Pt) (b : Bx) : Int × Int × Int := if p.x < b.x0 then (1, b.x0 - p.x, q.x - p.x) else if b.x1 < p.x then (3, p.x - b.x1, p.x - q.x) else (0, 0, 1)
def clSideY (p q : Pt) (b : Bx) : Int × Int × Int := if p.y < b.y0 then (2, b.y0 - p.y, q.y - p.y) else if b.y1 < p.y then (4, p.y - b.y1, p.y - q.y) else (0, 0, 1)
def clSide (p q : Pt) (b : Bx) : Int :=
 let X := clSideX p q b
 let Y := clSideY p q b
 if X.1 ≠ 0 ∧ (Y.1 = 0 ∨ Y.2.1 * X.2.2 < X.2.1 * Y.2.2) then
  (if (b.y0 - p.y) * X.2.2 = (q.y - p.y) * X.2.1 ∨ (b.y1 - p.y) * X.2.2 = (q.y - p.y) * X.2.1 then 0 else X.1)
 else if (X.1 ≠ 0 ∧ X.2.1 * Y.2.2 = Y.2.1 * X.2.2) ∨ (b.x0 - p.x) * Y.2.2 = (q.x - p.x) * Y.2.1 ∨ (b.x1 - p.x) * Y.2.2 = (q.x - p.x) * Y.2.1 then 0
 else Y.1
theorem on_iff {nd : Int × Int} {s w v : Int} : (onT nd s w v = true) ↔ (v - s) * nd.2 = w * nd.1 := by
 unfold onT
 rw [beq_iff_eq, Int.sub_mul]
 omega
theorem on_hit {n d s w v : Int} (hw : w = d) (hn : n = v - s) : onT (n, d) s w v = true := by
 rw [on_iff]; subst hw; subst hn; exact Int.mul_comm _ _
theorem on_hit' {n d s w v : Int} (hw : w = -d) (hn : n = s - v) : onT (n, d) s w v = true := by
 rw [on_iff]; subst hw; subst hn
 show (v - s) * d = -d * (s - v)
 rw [Int.neg_mul, ← Int.mul_neg, Int.neg_sub, Int.mul_comm]
theorem on_miss {n d s w v v' : Int} (h : onT (n, d) s w v = true) (hd : 0 < d) (hv : v ≠ v') : onT (n, d) s w v' = false := by
 cases h' : onT (n, d) s w v'
 · rfl
 ·
  rw [on_iff] at h h'
  have : (v - s) * d = (v' - s) * d := h.trans h'.symm
  have := Int.eq_of_mul_eq_mul_right (by omega) this
  omega
/-- a segment that reaches the box goes towards it -/
theorem goes {a b : Pt} {x : Bx} {n d : Int} (hp : Par n d) (h : InQ a b x n d) :
  (a.x < x.x0 → 0 < b.x - a.x) ∧ (x.x1 < a.x → b.x - a.x < 0) ∧ (a.y < x.y0 → 0 < b.y - a.y) ∧ (x.y1 < a.y → b.y - a.y < 0) := by
 have key : ∀ s w f t : Int, Btw s w f t n d → (s < f → 0 < w) ∧ (t < s → w < 0) := by
  intro s w f t hb
  unfold Btw at hb
  obtain ⟨h1, h2⟩ := hb
  constructor
  ·
   intro hs
   rcases Int.lt_or_le 0 w with h | h
   · exact h
   ·
    have e1 : s * d < f * d := Int.mul_lt_mul_of_pos_right hs hp.1
    have e2 : w * n ≤ 0 := by
     have := Int.mul_le_mul_of_nonneg_right h hp.2.1
     omega
    omega
  ·
   intro hs
   rcases Int.lt_or_le w 0 with h | h
   · exact h
   ·
    have e1 : t * d < s * d := Int.mul_lt_mul_of_pos_right hs hp.1
    have e2 : 0 ≤ w * n := Int.mul_nonneg h hp.2.1
    omega
 exact ⟨(key _ _ _ _ h.1).1, (key _ _ _ _ h.1).2, (key _ _ _ _ h.2).1, (key _ _ _ _ h.2).2⟩

theorem out_1 (u v : Bool) : outT true u false v = if u = true ∨ v = true then 0 else 1 := by cases u <;> cases v <;> rfl
theorem out_3 (u v : Bool) : outT false u true v = if u = true ∨ v = true then 0 else 3 := by cases u <;> cases v <;> rfl
theorem out_2 (u v : Bool) : outT u true v false = if u = true ∨ v = true then 0 else 2 := by cases u <;> cases v <;> rfl
theorem out_4 (u v : Bool) : outT u false v true = if u = true ∨ v = true then 0 else 4 := by cases u <;> cases v <;> rfl
theorem later_pos {nd : Int × Int} {m c : Int} (hc : 0 < c) : laterT nd m c = if nd.1 * c < m * nd.2 then (m, c) else nd := by
 unfold laterT
 rw [if_neg (by omega)]
 simp only [hc, true_and]
theorem later_neg {nd : Int × Int} {m c : Int} (hc : c < 0) : laterT nd m c = if nd.1 * -c < -m * nd.2 then (-m, -c) else nd := by
 unfold laterT
 rw [if_pos hc]
/-- what the x (or the y) side gives -/
structure SdX (p q b0 b1 k1 k3 : Int) (X : Int × Int × Int) : Prop where
 cases : (X = (0, 0, 1) ∧ b0 ≤ p ∧ p ≤ b1) ∨ (X.1 = k1 ∧ p < b0 ∧ X.2.1 = b0 - p ∧ X.2.2 = q - p ∧ 0 < X.2.2) ∨ (X.1 = k3 ∧ b1 < p ∧ X.2.1 = p - b1 ∧ X.2.2 = p - q ∧ 0 < X.2.2)
theorem SdX.pos {p q b0 b1 k1 k3 : Int} {X : Int × Int × Int} (h : SdX p q b0 b1 k1 k3 X) : 0 < X.2.2 ∧ 0 ≤ X.2.1 := by
 rcases h.cases with ⟨h1, h2⟩ | ⟨h1, h2, h3, h4, h5⟩ | ⟨h1, h2, h3, h4, h5⟩
 · subst h1; exact ⟨by decide, by decide⟩
 · exact ⟨h5, by omega⟩
 · exact ⟨h5, by omega⟩
/-- one step of the program: the later place -/
theorem later_step {nd : Int × Int} {p q b0 b1 k1 k3 : Int} {X : Int × Int × Int} (h : SdX p q b0 b1 k1 k3 X) (hb : b0 < b1) (hnd : 0 ≤ nd.1 ∧ 0 < nd.2) :
  (if b1 < p then laterT (if p < b0 then laterT nd (b0 - p) (q - p) else nd) (b1 - p) (q - p) else (if p < b0 then laterT nd (b0 - p) (q - p) else nd)) = if nd.1 * X.2.2 < X.2.1 * nd.2 then (X.2.1, X.2.2) else nd := by
 rcases h.cases with ⟨h1, h2, h2'⟩ | ⟨h1, h2, h3, h4, h5⟩ | ⟨h1, h2, h3, h4, h5⟩
 ·
  subst h1
  rw [if_neg (by omega), if_neg (by omega), if_neg (by simp; omega)]
 · rw [if_neg (by omega), if_pos h2, later_pos (by omega), h3, h4]
 · rw [if_pos h2, if_neg (by omega), later_neg (by omega), h3, h4, show -(q - p) = p - q by omega, show -(b1 - p) = p - b1 by omega]
/-- the place lies on the line of its own side and on no other of the two -/
theorem SdX.hits {p q b0 b1 k1 k3 : Int} {X : Int × Int × Int} (h : SdX p q b0 b1 k1 k3 X) (hb : b0 < b1) (h0 : X.1 ≠ 0) (hk1 : k1 ≠ 0) (hk : k1 ≠ k3) :
  (X.1 = k1 ∧ onT (X.2.1, X.2.2) p (q - p) b0 = true ∧ onT (X.2.1, X.2.2) p (q - p) b1 = false) ∨ (X.1 = k3 ∧ onT (X.2.1, X.2.2) p (q - p) b0 = false ∧ onT (X.2.1, X.2.2) p (q - p) b1 = true) := by
 rcases h.cases with ⟨h1, h2, h2'⟩ | ⟨h1, h2, h3, h4, h5⟩ | ⟨h1, h2, h3, h4, h5⟩
 · subst h1; exact absurd rfl h0
 ·
  left
  have e := on_hit (n := X.2.1) (d := X.2.2) (s := p) (w := q - p) (v := b0) (by omega) (by omega)
  exact ⟨h1, e, on_miss e h5 (by omega)⟩
 ·
  right
  have e := on_hit' (n := X.2.1) (d := X.2.2) (s := p) (w := q - p) (v := b1) (by omega) (by omega)
  exact ⟨h1, on_miss e h5 (by omega), e⟩
theorem on_val {n d m e s w v : Int} (hd : 0 < d) (he : 0 < e) (h : n * e = m * d) (ho : onT (n, d) s w v = true) : onT (m, e) s w v = true := by
 rw [on_iff] at ho ⊢
 show (v - s) * e = w * m
 have ho' : (v - s) * d = w * n := ho
 have : (v - s) * e * d = w * m * d := by
  rw [Int.mul_right_comm, ho', Int.mul_assoc, h, Int.mul_assoc]
 exact Int.eq_of_mul_eq_mul_right (by omega) this
theorem through_eq {p q : Pt} {b : Bx} (hx : b.x0 < b.x1) (hy : b.y0 < b.y1) (hin : inB b p = false) {n d : Int} (hp : Par n d) (hq : InQ p q b n d) : throughS p q b = clSide p q b := by
 obtain ⟨g1, g2, g3, g4⟩ := goes hp hq
 have hX : SdX p.x q.x b.x0 b.x1 1 3 (clSideX p q b) := by
  unfold clSideX
  constructor
  by_cases h1 : p.x < b.x0
  · rw [if_pos h1]; exact .inr (.inl ⟨rfl, h1, rfl, rfl, g1 h1⟩)
  ·
   rw [if_neg h1]
   by_cases h2 : b.x1 < p.x
   · rw [if_pos h2]; exact .inr (.inr ⟨rfl, h2, rfl, rfl, by have := g2 h2; show 0 < p.x - q.x; omega⟩)
   · rw [if_neg h2]; exact .inl ⟨rfl, by omega, by omega⟩
 have hY : SdX p.y q.y b.y0 b.y1 2 4 (clSideY p q b) := by
  unfold clSideY
  constructor
  by_cases h1 : p.y < b.y0
  · rw [if_pos h1]; exact .inr (.inl ⟨rfl, h1, rfl, rfl, g3 h1⟩)
  ·
   rw [if_neg h1]
   by_cases h2 : b.y1 < p.y
   · rw [if_pos h2]; exact .inr (.inr ⟨rfl, h2, rfl, rfl, by have := g4 h2; show 0 < p.y - q.y; omega⟩)
   · rw [if_neg h2]; exact .inl ⟨rfl, by omega, by omega⟩
 have hne : (clSideX p q b).1 = 0 → (clSideY p q b).1 ≠ 0 := by
  intro e1 e2
  rcases hX.cases with ⟨-, h2, h3⟩ | ⟨h1, -⟩ | ⟨h1, -⟩
  ·
   rcases hY.cases with ⟨-, h4, h5⟩ | ⟨h1, -⟩ | ⟨h1, -⟩
   ·
    have : inB b p = true := by unfold inB; rw [decide_eq_true_iff]; exact ⟨h2, h3, h4, h5⟩
    rw [this] at hin; cases hin
   · omega
   · omega
  · omega
  · omega
 have hpl : placeT p q b = if (clSideX p q b).2.1 * (clSideY p q b).2.2 < (clSideY p q b).2.1 * (clSideX p q b).2.2 then ((clSideY p q b).2.1, (clSideY p q b).2.2) else ((clSideX p q b).2.1, (clSideX p q b).2.2) := by
  unfold placeT
  have s1 := later_step (nd := (0, 1)) hX hx ⟨by decide, by decide⟩
  have e1 : (if ((0 : Int), (1 : Int)).1 * (clSideX p q b).2.2 < (clSideX p q b).2.1 * ((0 : Int), (1 : Int)).2 then ((clSideX p q b).2.1, (clSideX p q b).2.2) else ((0 : Int), (1 : Int))) = ((clSideX p q b).2.1, (clSideX p q b).2.2) := by
   rcases hX.cases with ⟨h1, -⟩ | ⟨-, h2, h3, -, -⟩ | ⟨-, h2, h3, -, -⟩
   · rw [h1]; simp
   · rw [if_pos (by simp; omega)]
   · rw [if_pos (by simp; omega)]
  rw [e1] at s1
  have s2 := later_step (nd := ((clSideX p q b).2.1, (clSideX p q b).2.2)) hY hy ⟨hX.pos.2, hX.pos.1⟩
  rw [← s2, ← s1]
 unfold throughS
 rw [if_neg (by rw [hin]; decide)]
 show outT (onT (placeT p q b) p.x (q.x - p.x) b.x0) (onT (placeT p q b) p.y (q.y - p.y) b.y0) (onT (placeT p q b) p.x (q.x - p.x) b.x1) (onT (placeT p q b) p.y (q.y - p.y) b.y1) = _
 rw [hpl]
 unfold clSide
 have px := hX.pos; have py := hY.pos
 have hitX := fun h0 => hX.hits hx h0 (by decide) (by decide)
 have hitY := fun h0 => hY.hits hy h0 (by decide) (by decide)
 have zY : (clSideY p q b).1 = 0 → (clSideY p q b).2.1 = 0 := fun e => by
  rcases hY.cases with ⟨h1, -⟩ | ⟨h1, -⟩ | ⟨h1, -⟩
  · rw [h1]
  · omega
  · omega
 have zX : (clSideX p q b).1 = 0 → (clSideX p q b).2.1 = 0 := fun e => by
  rcases hX.cases with ⟨h1, -⟩ | ⟨h1, -⟩ | ⟨h1, -⟩
  · rw [h1]
  · omega
  · omega
 have nzX : (clSideX p q b).1 ≠ 0 → 0 < (clSideX p q b).2.1 := fun e => by
  rcases hX.cases with ⟨h1, -⟩ | ⟨h1, h2, h3, -⟩ | ⟨h1, h2, h3, -⟩
  · rw [h1] at e; exact absurd rfl e
  · omega
  · omega
 have nzY : (clSideY p q b).1 ≠ 0 → 0 < (clSideY p q b).2.1 := fun e => by
  rcases hY.cases with ⟨h1, -⟩ | ⟨h1, h2, h3, -⟩ | ⟨h1, h2, h3, -⟩
  · rw [h1] at e; exact absurd rfl e
  · omega
  · omega
 generalize clSideX p q b = X at *
 generalize clSideY p q b = Y at *
 obtain ⟨X0, xn, xd⟩ := X
 obtain ⟨Y0, yn, yd⟩ := Y
 simp only at *
 clear hX hY hpl g1 g2 g3 g4 hq hp
 have onx : ∀ v, ((v - p.x) * yd = (q.x - p.x) * yn) ↔ onT (yn, yd) p.x (q.x - p.x) v = true := fun v => (on_iff (nd := (yn, yd)) (s := p.x) (w := q.x - p.x) (v := v)).symm
 have ony : ∀ v, ((v - p.y) * xd = (q.y - p.y) * xn) ↔ onT (xn, xd) p.y (q.y - p.y) v = true := fun v => (on_iff (nd := (xn, xd)) (s := p.y) (w := q.y - p.y) (v := v)).symm
 simp only [onx, ony]
 by_cases hlt : xn * yd < yn * xd
 ·
  rw [if_pos hlt]
  have hy0 : Y0 ≠ 0 := fun e => by
   rw [zY e, Int.zero_mul] at hlt
   have : 0 ≤ xn * yd := Int.mul_nonneg px.2 (Int.le_of_lt py.1)
   omega
  rw [if_neg (by rintro ⟨-, h | h⟩; exact hy0 h; omega)]
  have hti : ¬ (X0 ≠ 0 ∧ xn * yd = yn * xd) := fun h => by omega
  rcases hitY hy0 with ⟨k1, k2, k3⟩ | ⟨k1, k2, k3⟩
  ·
   rw [k2, k3, out_2, k1]
   by_cases ho : onT (yn, yd) p.x (q.x - p.x) b.x0 = true ∨ onT (yn, yd) p.x (q.x - p.x) b.x1 = true
   · rw [if_pos ho, if_pos (.inr ho)]
   · rw [if_neg ho, if_neg (fun h => h.elim hti ho)]
  ·
   rw [k2, k3, out_4, k1]
   by_cases ho : onT (yn, yd) p.x (q.x - p.x) b.x0 = true ∨ onT (yn, yd) p.x (q.x - p.x) b.x1 = true
   · rw [if_pos ho, if_pos (.inr ho)]
   · rw [if_neg ho, if_neg (fun h => h.elim hti ho)]
 ·
  rw [if_neg hlt]
  have hx0 : X0 ≠ 0 := fun e => by
   have h1 := nzY (hne e)
   have h2 : 0 < yn * xd := Int.mul_pos h1 px.1
   rw [zX e, Int.zero_mul] at hlt
   omega
  by_cases htie : xn * yd = yn * xd
  ·
   have hy0 : Y0 ≠ 0 := fun e => by
    rw [zY e, Int.zero_mul] at htie
    have := Int.mul_pos (nzX hx0) py.1
    omega
   rw [if_neg (by rintro ⟨-, h | h⟩; exact hy0 h; omega), if_pos (.inl ⟨hx0, htie⟩)]
   have hh : onT (xn, xd) p.y (q.y - p.y) b.y0 = true ∨ onT (xn, xd) p.y (q.y - p.y) b.y1 = true := by
    rcases hitY hy0 with ⟨-, k2, -⟩ | ⟨-, -, k3⟩
    · exact .inl (on_val py.1 px.1 htie.symm k2)
    · exact .inr (on_val py.1 px.1 htie.symm k3)
   rcases hitX hx0 with ⟨k1, k2, k3⟩ | ⟨k1, k2, k3⟩
   · rw [k2, k3, out_1, if_pos hh]
   · rw [k2, k3, out_3, if_pos hh]
  ·
   rw [if_pos ⟨hx0, .inr (by omega)⟩]
   rcases hitX hx0 with ⟨k1, k2, k3⟩ | ⟨k1, k2, k3⟩
   · rw [k2, k3, out_1, k1]
   · rw [k2, k3, out_3, k1]
end Go.Proofs.YtfondidmklmonaaGreat
namespace Go.Proofs.YtfondidmklmonaaGreat
open Go.RowKit

/-- a fraction in lowest terms, with a positive denominator -/
def mkF (n d : Int) : Int × Int :=
 ((if decide (n < 0) ≠ decide (d < 0) then -((n.natAbs / Nat.gcd n.natAbs d.natAbs : Nat) : Int) else ((n.natAbs / Nat.gcd n.natAbs d.natAbs : Nat) : Int)), ((d.natAbs / Nat.gcd n.natAbs d.natAbs : Nat) : Int))
theorem mkF_facts (n : Int) {d : Int} (hd : d ≠ 0) : 0 < (mkF n d).2 ∧ (mkF n d).1 * d = n * (mkF n d).2 ∧ (mkF n d).2 ≤ d.natAbs ∧ (mkF n d).1.natAbs ≤ n.natAbs ∧ Nat.gcd (mkF n d).1.natAbs (mkF n d).2.natAbs = 1 := by
 have hdp : 0 < d.natAbs := by omega
 have hg : 0 < Nat.gcd n.natAbs d.natAbs := Nat.gcd_pos_of_pos_right _ hdp
 have h1 : n.natAbs / Nat.gcd n.natAbs d.natAbs * Nat.gcd n.natAbs d.natAbs = n.natAbs := Nat.div_mul_cancel (Nat.gcd_dvd_left _ _)
 have h2 : d.natAbs / Nat.gcd n.natAbs d.natAbs * Nat.gcd n.natAbs d.natAbs = d.natAbs := Nat.div_mul_cancel (Nat.gcd_dvd_right _ _)
 have hco : Nat.gcd (n.natAbs / Nat.gcd n.natAbs d.natAbs) (d.natAbs / Nat.gcd n.natAbs d.natAbs) = 1 := Nat.gcd_div_gcd_div_gcd_of_pos_right hdp
 unfold mkF
 generalize Nat.gcd n.natAbs d.natAbs = g at *
 generalize n.natAbs / g = u at *
 generalize d.natAbs / g = v at *
 have hv : 0 < v := by
  rcases Nat.eq_zero_or_pos v with h | h
  · rw [h, Nat.zero_mul] at h2; omega
  · exact h
 have hvd : v ≤ d.natAbs := by rw [← h2]; exact Nat.le_mul_of_pos_right v hg
 have hun : u ≤ n.natAbs := by rw [← h1]; exact Nat.le_mul_of_pos_right u hg
 have key : (u : Int) * d.natAbs = n.natAbs * v := by
  have : u * d.natAbs = n.natAbs * v := by rw [← h2, ← h1, ← Nat.mul_assoc, Nat.mul_right_comm]
  exact_mod_cast this
 refine ⟨by show (0 : Int) < (v : Int); omega, ?_, by show (v : Int) ≤ _; omega, ?_, ?_⟩
 ·
  show (if decide (n < 0) ≠ decide (d < 0) then -(u : Int) else (u : Int)) * d = n * (v : Int)
  by_cases hn : n < 0
  ·
   by_cases hd0 : d < 0
   ·
    rw [if_neg (by simp [hn, hd0])]
    rw [show (d.natAbs : Int) = -d by omega, show (n.natAbs : Int) = -n by omega, Int.mul_neg, Int.neg_mul] at key
    omega
   ·
    rw [if_pos (by simp [hn, hd0]), Int.neg_mul]
    rw [show (d.natAbs : Int) = d by omega, show (n.natAbs : Int) = -n by omega, Int.neg_mul] at key
    omega
  ·
   by_cases hd0 : d < 0
   ·
    rw [if_pos (by simp [hn, hd0]), Int.neg_mul]
    rw [show (d.natAbs : Int) = -d by omega, show (n.natAbs : Int) = n by omega, Int.mul_neg] at key
    omega
   ·
    rw [if_neg (by simp [hn, hd0])]
    rw [show (d.natAbs : Int) = d by omega, show (n.natAbs : Int) = n by omega] at key
    exact key
 ·
  show (if decide (n < 0) ≠ decide (d < 0) then -(u : Int) else (u : Int)).natAbs ≤ _
  split <;> omega
 ·
  show Nat.gcd (if decide (n < 0) ≠ decide (d < 0) then -(u : Int) else (u : Int)).natAbs ((v : Int)).natAbs = 1
  have e1 : (if decide (n < 0) ≠ decide (d < 0) then -(u : Int) else (u : Int)).natAbs = u := by split <;> omega
  have e2 : ((v : Int)).natAbs = v := by omega
  rw [e1, e2]; exact hco
/-- where x / y stands against n / d -/
theorem mk_le {u w : Int} (hw : w ≠ 0) {n d : Int} : (leQ (mkF u w).1 (mkF u w).2 n d ↔ if 0 < w then u * d ≤ n * w else n * w ≤ u * d) ∧ (leQ n d (mkF u w).1 (mkF u w).2 ↔ if 0 < w then n * w ≤ u * d else u * d ≤ n * w) := by
 obtain ⟨f1, f2, -⟩ := mkF_facts u hw
 generalize (mkF u w).1 = p at *
 generalize (mkF u w).2 = q at *
 have e1 : p * d * w = u * d * q := by
  have : p * d * w = p * w * d := Int.mul_right_comm _ _ _
  rw [this, f2]; exact Int.mul_right_comm _ _ _
 have e2 : n * q * w = n * w * q := Int.mul_right_comm _ _ _
 unfold leQ
 by_cases h : 0 < w
 ·
  simp only [h, if_true]
  constructor
  ·
   constructor
   ·
    intro h1
    have := Int.mul_le_mul_of_nonneg_right h1 (Int.le_of_lt h)
    rw [e1, e2] at this
    exact Int.le_of_mul_le_mul_right this f1
   ·
    intro h1
    have := Int.mul_le_mul_of_nonneg_right h1 (Int.le_of_lt f1)
    rw [← e1, ← e2] at this
    exact Int.le_of_mul_le_mul_right this h
  ·
   constructor
   ·
    intro h1
    have := Int.mul_le_mul_of_nonneg_right h1 (Int.le_of_lt h)
    rw [e1, e2] at this
    exact Int.le_of_mul_le_mul_right this f1
   ·
    intro h1
    have := Int.mul_le_mul_of_nonneg_right h1 (Int.le_of_lt f1)
    rw [← e1, ← e2] at this
    exact Int.le_of_mul_le_mul_right this h
 ·
  simp only [h, if_false]
  have hn : 0 < -w := by omega
  have e1' : p * d * -w = -(u * d * q) := by rw [Int.mul_neg, e1]
  have e2' : n * q * -w = -(n * w * q) := by rw [Int.mul_neg, e2]
  constructor
  ·
   constructor
   ·
    intro h1
    have := Int.mul_le_mul_of_nonneg_right h1 (Int.le_of_lt hn)
    rw [e1', e2'] at this
    exact Int.le_of_mul_le_mul_right (show n * w * q ≤ u * d * q by omega) f1
   ·
    intro h1
    have := Int.mul_le_mul_of_nonneg_right h1 (Int.le_of_lt f1)
    exact Int.le_of_mul_le_mul_right (show p * d * -w ≤ n * q * -w by rw [e1', e2']; omega) hn
  ·
   constructor
   ·
    intro h1
    have := Int.mul_le_mul_of_nonneg_right h1 (Int.le_of_lt hn)
    rw [e1', e2'] at this
    exact Int.le_of_mul_le_mul_right (show u * d * q ≤ n * w * q by omega) f1
   ·
    intro h1
    have := Int.mul_le_mul_of_nonneg_right h1 (Int.le_of_lt f1)
    exact Int.le_of_mul_le_mul_right (show n * q * -w ≤ p * d * -w by rw [e1', e2']; omega) hn
def cmpF (x y : Int × Int) : Int := if x.1 * y.2 < y.1 * x.2 then -1 else if x.1 * y.2 = y.1 * x.2 then 0 else 1
def laterF (x y : Int × Int) : Int × Int := if cmpF x y < 0 then y else x
def soonerF (x y : Int × Int) : Int × Int := if 0 < cmpF x y then y else x
theorem cmpF_lt (x y : Int × Int) : (cmpF x y < 0 ↔ x.1 * y.2 < y.1 * x.2) ∧ (0 < cmpF x y ↔ y.1 * x.2 < x.1 * y.2) := by
 unfold cmpF
 split
 · constructor <;> constructor <;> omega
 ·
  split
  · constructor <;> constructor <;> omega
  · constructor <;> constructor <;> omega
theorem later_ok {x y : Int × Int} (hx : 0 < x.2) (hy : 0 < y.2) : 0 < (laterF x y).2 ∧ ∀ n d, 0 < d → ((leQ (laterF x y).1 (laterF x y).2 n d ↔ leQ x.1 x.2 n d ∧ leQ y.1 y.2 n d) ∧ (leQ n d (laterF x y).1 (laterF x y).2 ↔ leQ n d x.1 x.2 ∨ leQ n d y.1 y.2)) := by
 unfold laterF
 by_cases h : cmpF x y < 0
 ·
  rw [if_pos h]
  rw [(cmpF_lt x y).1] at h
  have hle : leQ x.1 x.2 y.1 y.2 := Int.le_of_lt h
  exact ⟨hy, fun n d hd => ⟨⟨fun k => ⟨leQ_trans hx hy hd hle k, k⟩, fun k => k.2⟩, ⟨fun k => .inr k, fun k => k.elim (fun k => leQ_trans hd hx hy k hle) id⟩⟩⟩
 ·
  rw [if_neg h]
  rw [(cmpF_lt x y).1] at h
  have hle : leQ y.1 y.2 x.1 x.2 := by unfold leQ; omega
  exact ⟨hx, fun n d hd => ⟨⟨fun k => ⟨k, leQ_trans hy hx hd hle k⟩, fun k => k.1⟩, ⟨fun k => .inl k, fun k => k.elim id (fun k => leQ_trans hd hy hx k hle)⟩⟩⟩
theorem sooner_ok {x y : Int × Int} (hx : 0 < x.2) (hy : 0 < y.2) : 0 < (soonerF x y).2 ∧ ∀ n d, 0 < d → ((leQ (soonerF x y).1 (soonerF x y).2 n d ↔ leQ x.1 x.2 n d ∨ leQ y.1 y.2 n d) ∧ (leQ n d (soonerF x y).1 (soonerF x y).2 ↔ leQ n d x.1 x.2 ∧ leQ n d y.1 y.2)) := by
 unfold soonerF
 by_cases h : 0 < cmpF x y
 ·
  rw [if_pos h]
  rw [(cmpF_lt x y).2] at h
  have hle : leQ y.1 y.2 x.1 x.2 := Int.le_of_lt h
  exact ⟨hy, fun n d hd => ⟨⟨fun k => .inr k, fun k => k.elim (fun k => leQ_trans hy hx hd hle k) id⟩, ⟨fun k => ⟨leQ_trans hd hy hx k hle, k⟩, fun k => k.2⟩⟩⟩
 ·
  rw [if_neg h]
  rw [(cmpF_lt x y).2] at h
  have hle : leQ x.1 x.2 y.1 y.2 := by unfold leQ; omega
  exact ⟨hx, fun n d hd => ⟨⟨fun k => .inl k, fun k => k.elim id (fun k => leQ_trans hx hy hd hle k)⟩, ⟨fun k => ⟨k, leQ_trans hd hx hy k hle⟩, fun k => k.1⟩⟩⟩
structure RLim where
 lo : Int × Int
 hi : Int × Int
 none : Bool
/-- the reference's 'between' (limits that need no cutting down) -/
def betweenS (l : RLim) (s e f t : Int) : RLim :=
 if s = e then ⟨l.lo, l.hi, l.none || (decide (s < f) || decide (t < s))⟩
 else ⟨laterF l.lo (soonerF (mkF (f - s) (e - s)) (mkF (t - s) (e - s))), soonerF l.hi (laterF (mkF (f - s) (e - s)) (mkF (t - s) (e - s))), l.none⟩
def rclipS (a b : Pt) (x : Bx) : Option (Pt × Pt) :=
 let l := betweenS (betweenS ⟨(0, 1), (1, 1), false⟩ a.x b.x x.x0 x.x1) a.y b.y x.y0 x.y1
 if l.none = true ∨ 0 < cmpF l.lo l.hi then none else some (ptQ a b x l.lo.1 l.lo.2, ptQ a b x l.hi.1 l.hi.2)
structure RLI (l : RLim) (C : Int → Int → Prop) : Prop where
 lo : 0 < l.lo.2 ∧ 0 ≤ l.lo.1
 hi : 0 < l.hi.2 ∧ l.hi.1 ≤ l.hi.2
 yes : l.none = false → ∀ n d, Par n d → (C n d ↔ leQ l.lo.1 l.lo.2 n d ∧ leQ n d l.hi.1 l.hi.2)
 no : l.none = true → ∀ n d, Par n d → ¬ C n d
theorem between_ok {l : RLim} {C : Int → Int → Prop} (h : RLI l C) (s e f t : Int) (hft : f ≤ t) : RLI (betweenS l s e f t) (fun n d => C n d ∧ Btw s (e - s) f t n d) := by
 unfold betweenS
 by_cases hse : s = e
 ·
  subst hse
  rw [if_pos rfl]
  have hb : ∀ n d, Par n d → (Btw s (s - s) f t n d ↔ f ≤ s ∧ s ≤ t) := by
   intro n d hp
   unfold Btw
   rw [Int.sub_self, Int.zero_mul, Int.add_zero]
   constructor
   · exact fun ⟨h1, h2⟩ => ⟨Int.le_of_mul_le_mul_right h1 hp.1, Int.le_of_mul_le_mul_right h2 hp.1⟩
   · exact fun ⟨h1, h2⟩ => ⟨Int.mul_le_mul_of_nonneg_right h1 (Int.le_of_lt hp.1), Int.mul_le_mul_of_nonneg_right h2 (Int.le_of_lt hp.1)⟩
  refine ⟨h.lo, h.hi, fun hok n d hp => ?_, fun hok n d hp => ?_⟩
  ·
   simp only [Bool.or_eq_false_iff, decide_eq_false_iff_not] at hok
   rw [hb n d hp, h.yes hok.1 n d hp]
   exact ⟨fun x => x.1, fun x => ⟨x, by omega⟩⟩
  ·
   rintro ⟨h1, h2⟩
   rw [hb n d hp] at h2
   cases hk : l.none
   ·
    simp only [hk, Bool.false_or, Bool.or_eq_true, decide_eq_true_eq] at hok
    omega
   · exact h.no hk n d hp h1
 ·
  rw [if_neg hse]
  have hw : e - s ≠ 0 := by omega
  obtain ⟨p1, -⟩ := mkF_facts (f - s) hw
  obtain ⟨p2, -⟩ := mkF_facts (t - s) hw
  have a1 := fun n d => mk_le (u := f - s) hw (n := n) (d := d)
  have a2 := fun n d => mk_le (u := t - s) hw (n := n) (d := d)
  generalize mkF (f - s) (e - s) = x at *
  generalize mkF (t - s) (e - s) = y at *
  obtain ⟨s1, s2⟩ := sooner_ok p1 p2
  obtain ⟨l1, l2⟩ := later_ok p1 p2
  generalize soonerF x y = sm at *
  generalize laterF x y = lg at *
  obtain ⟨m1, m2⟩ := later_ok h.lo.1 s1
  obtain ⟨k1, k2⟩ := sooner_ok h.hi.1 l1
  generalize hlo : laterF l.lo sm = lo at *
  generalize hhi : soonerF l.hi lg = hi at *
  have hb : ∀ n d, Par n d → (Btw s (e - s) f t n d ↔ leQ sm.1 sm.2 n d ∧ leQ n d lg.1 lg.2) := by
   intro n d hp
   rw [(s2 n d hp.1).1, (l2 n d hp.1).2, (a1 n d).1, (a2 n d).1, (a1 n d).2, (a2 n d).2]
   have hm : (f - s) * d ≤ (t - s) * d := Int.mul_le_mul_of_nonneg_right (by omega) (Int.le_of_lt hp.1)
   unfold Btw
   rw [Int.sub_mul f s, Int.sub_mul t s] at hm
   rw [Int.sub_mul f s, Int.sub_mul t s, Int.mul_comm (e - s) n]
   generalize n * (e - s) = z at *
   by_cases h0 : 0 < e - s
   · simp only [h0, if_true]; omega
   · simp only [h0, if_false]; omega
  refine ⟨⟨m1, ?_⟩, ⟨k1, ?_⟩, fun hok n d hp => ?_, fun hok n d hp => ?_⟩
  ·
   have h0 := ((m2 lo.1 lo.2 m1).1.1 (Int.le_refl _)).1
   unfold leQ at h0
   have h1 : 0 ≤ l.lo.1 * lo.2 := Int.mul_nonneg h.lo.2 (Int.le_of_lt m1)
   have h2 : 0 * l.lo.2 ≤ lo.1 * l.lo.2 := by omega
   exact Int.le_of_mul_le_mul_right h2 h.lo.1
  ·
   have h0 := ((k2 hi.1 hi.2 k1).2.1 (Int.le_refl _)).1
   unfold leQ at h0
   have h1 := Int.mul_le_mul_of_nonneg_right h.hi.2 (Int.le_of_lt k1)
   have h2 : hi.1 * l.hi.2 ≤ hi.2 * l.hi.2 := by rw [Int.mul_comm hi.2]; omega
   exact Int.le_of_mul_le_mul_right h2 h.hi.1
  ·
   show C n d ∧ Btw s (e - s) f t n d ↔ leQ lo.1 lo.2 n d ∧ leQ n d hi.1 hi.2
   rw [hb n d hp, h.yes hok n d hp, (m2 n d hp.1).1, (k2 n d hp.1).2]
   exact ⟨fun ⟨⟨a, b⟩, c, d⟩ => ⟨⟨a, c⟩, b, d⟩, fun ⟨⟨a, c⟩, b, d⟩ => ⟨⟨a, b⟩, c, d⟩⟩
  · exact fun h1 => h.no hok n d hp h1.1
/-- the reference's Clip is the part within the box -/
theorem rclip_is (a b : Pt) (x : Bx) (hx : x.x0 ≤ x.x1) (hy : x.y0 ≤ x.y1) : ClipIs a b x (rclipS a b x) := by
 have i0 : RLI ⟨(0, 1), (1, 1), false⟩ (fun _ _ => True) := by
  refine ⟨⟨by decide, by decide⟩, ⟨by decide, by decide⟩, fun _ n d hp => ?_, fun h => by cases h⟩
  have := hp.2
  unfold leQ
  show True ↔ 0 * d ≤ n * 1 ∧ n * 1 ≤ 1 * d
  constructor
  · intro _; omega
  · intro _; trivial
 have i2 := between_ok (between_ok i0 a.x b.x x.x0 x.x1 hx) a.y b.y x.y0 x.y1 hy
 unfold rclipS
 generalize betweenS (betweenS ⟨(0, 1), (1, 1), false⟩ a.x b.x x.x0 x.x1) a.y b.y x.y0 x.y1 = l at *
 have hC : ∀ n d, ((True ∧ Btw a.x (b.x - a.x) x.x0 x.x1 n d) ∧ Btw a.y (b.y - a.y) x.y0 x.y1 n d) ↔ InQ a b x n d := fun n d => by
  unfold InQ; simp
 show ClipIs a b x (if l.none = true ∨ 0 < cmpF l.lo l.hi then none else some (ptQ a b x l.lo.1 l.lo.2, ptQ a b x l.hi.1 l.hi.2))
 by_cases h : l.none = true ∨ 0 < cmpF l.lo l.hi
 ·
  rw [if_pos h]
  intro n d hp hin
  rw [← hC] at hin
  cases hk : l.none
  ·
   have h1 := (i2.yes hk n d hp).1 hin
   have h2 := leQ_trans i2.lo.1 hp.1 i2.hi.1 h1.1 h1.2
   rcases h with h | h
   · rw [hk] at h; cases h
   ·
    rw [(cmpF_lt _ _).2] at h
    unfold leQ at h2
    omega
  · exact i2.no hk n d hp hin
 ·
  rw [if_neg h]
  have hk : l.none = false := by
   cases hk : l.none
   · rfl
   · exact absurd (.inl hk) h
  have hle : leQ l.lo.1 l.lo.2 l.hi.1 l.hi.2 := by
   have : ¬ 0 < cmpF l.lo l.hi := fun e => h (.inr e)
   rw [(cmpF_lt _ _).2] at this
   unfold leQ; omega
  have plo : Par l.lo.1 l.lo.2 := by
   refine ⟨i2.lo.1, i2.lo.2, ?_⟩
   have h1 := leQ_trans (n3 := 1) (d3 := 1) i2.lo.1 i2.hi.1 (by decide) hle (by unfold leQ; have := i2.hi.2; omega)
   unfold leQ at h1
   omega
  have phi : Par l.hi.1 l.hi.2 := by
   refine ⟨i2.hi.1, ?_, i2.hi.2⟩
   have h1 := leQ_trans (n1 := 0) (d1 := 1) (by decide) i2.lo.1 i2.hi.1 (by unfold leQ; have := i2.lo.2; omega) hle
   unfold leQ at h1
   omega
  exact ⟨_, _, _, _, plo, phi, hle, fun n d hp => by rw [← hC]; exact i2.yes hk n d hp, rfl, rfl⟩
theorem clip_eq (a b : Pt) (x : Bx) (hx : x.x0 ≤ x.x1) (hy : x.y0 ≤ x.y1) : rclipS a b x = clipS a b x := clip_uniq (rclip_is a b x hx hy) (clip_is a b x)
end Go.Proofs.YtfondidmklmonaaGreat
namespace Go.Proofs.YtfondidmklmonaaGreat

structure Cr where
 pos : Int
 arc : Int
 out : Int
theorem Cr.ext_iff' {a b : Cr} : a = b ↔ a.pos = b.pos ∧ a.arc = b.arc ∧ a.out = b.out := by cases a; cases b; simp
instance : DecidableEq Cr := fun a b =>
 if h : a.pos = b.pos ∧ a.arc = b.arc ∧ a.out = b.out then isTrue (by cases a; cases b; simp_all) else isFalse (by rintro rfl; simp at h)
end Go.Proofs.YtfondidmklmonaaGreat
namespace Go.Proofs.YtfondidmklmonaaGreat
open Go.RowKit

structure Pc where
 arc : Int
 path : List Pt
 enter : Int
 leave : Int
structure Prt where
 sheet : Int
 pieces : List Pc
 nodes : List Nd
structure Se where
 at_ : Pt
 width : Int
 height : Int
 cols : Int
 rows : Int

def crC (c : Cr) : List Value := [.int .i64 c.pos, .int .i64 c.arc, .int .i64 c.out]
def pcC (x : Pc × Value) : List Value := [.int .i64 x.1.arc, x.2, .int .i64 x.1.enter, .int .i64 x.1.leave]
def pcV (x : Pc) (v : Value) : Value := .agg #[.int .i64 x.arc, v, .int .i64 x.enter, .int .i64 x.leave]
def seV (s : Se) : Value := .agg #[.int .i64 s.at_.x, .int .i64 s.at_.y, .int .i64 s.width, .int .i64 s.height, .int .i64 s.cols, .int .i64 s.rows]
theorem pcC_len (p : Pc × Value) : (pcC p).length = 4 := rfl
def Crs (w : World) (v : Value) (l : List Cr) : Prop := Sl w v l.length (l.flatMap crC)
/-- The pieces, each with its value in the cell of its Path. -/
def Paths (w : World) (l : List (Pc × Value)) : Prop := ∀ k (hk : k < l.length), Pts w l[k].2 l[k].1.path
def Pcs (w : World) (v : Value) (l : List (Pc × Value)) : Prop := Sl w v l.length (l.flatMap pcC) ∧ Paths w l
def PrtV (w : World) (v : Value) (x : Prt) : Prop :=
 ∃ vp vn pl, v = .agg #[.int .i64 x.sheet, vp, vn] ∧ x.pieces = pl.map (·.1) ∧ Pcs w vp pl ∧ Nds w vn x.nodes
def prC (x : Prt × Value × Value) : List Value := [.int .i64 x.1.sheet, x.2.1, x.2.2]
theorem prC_len (p : Prt × Value × Value) : (prC p).length = 3 := rfl
/-- A list of parts, each with its values in the cells of its pieces and nodes. -/
def Prts (w : World) (v : Value) (l : List (Prt × Value × Value)) : Prop :=
 Sl w v l.length (l.flatMap prC) ∧ ∀ k (hk : k < l.length), PrtV w (.agg #[.int .i64 l[k].1.sheet, l[k].2.1, l[k].2.2]) l[k].1

section
variable {w w' : World} {v : Value}
theorem Crs.mono {l : List Cr} (h : Crs w v l) (hb : Below w.heap.size w w') : Crs w' v l := Sl.mono h hb
theorem Paths.mono {l : List (Pc × Value)} (h : Paths w l) (hb : Below w.heap.size w w') : Paths w' l := fun k hk => (h k hk).mono hb
theorem Pcs.mono {l : List (Pc × Value)} (h : Pcs w v l) (hb : Below w.heap.size w w') : Pcs w' v l := ⟨Sl.mono h.1 hb, h.2.mono hb⟩
theorem PrtV.mono {x : Prt} (h : PrtV w v x) (hb : Below w.heap.size w w') : PrtV w' v x := by
 obtain ⟨vp, vn, pl, hv, hp, h1, h2⟩ := h
 exact ⟨vp, vn, pl, hv, hp, h1.mono hb, h2.mono hb⟩
theorem Prts.mono {l : List (Prt × Value × Value)} (h : Prts w v l) (hb : Below w.heap.size w w') : Prts w' v l := ⟨Sl.mono h.1 hb, fun k hk => (h.2 k hk).mono hb⟩
end
section
variable {w : World} {A : Option Addr}
theorem Row.cr {l : List Cr} (h : Row w A (l.flatMap crC)) {k : Nat} (hk : k < l.length) :
  ∃ b o, A = some ⟨b, o, none⟩ ∧ b < w.heap.size ∧ w.cell? ⟨b, o + k * 3, none⟩ = some (.int .i64 l[k].pos) ∧ w.cell? ⟨b, o + k * 3 + 1, none⟩ = some (.int .i64 l[k].arc) ∧ w.cell? ⟨b, o + k * 3 + 2, none⟩ = some (.int .i64 l[k].out) := by
 obtain ⟨b, o, hA, hb, hc⟩ := h.at_ (n := 3) (fun _ => rfl) hk (by omega)
 exact ⟨b, o, hA, hb, hc 0 _ rfl, hc 1 _ rfl, hc 2 _ rfl⟩
theorem Row.pc {l : List (Pc × Value)} (h : Row w A (l.flatMap pcC)) {k : Nat} (hk : k < l.length) :
  ∃ b o, A = some ⟨b, o, none⟩ ∧ b < w.heap.size ∧ w.cell? ⟨b, o + k * 4, none⟩ = some (.int .i64 l[k].1.arc) ∧ w.cell? ⟨b, o + k * 4 + 1, none⟩ = some l[k].2 ∧ w.cell? ⟨b, o + k * 4 + 2, none⟩ = some (.int .i64 l[k].1.enter) ∧ w.cell? ⟨b, o + k * 4 + 3, none⟩ = some (.int .i64 l[k].1.leave) := by
 obtain ⟨b, o, hA, hb, hc⟩ := h.at_ (n := 4) (fun _ => rfl) hk (by omega)
 exact ⟨b, o, hA, hb, hc 0 _ rfl, hc 1 _ rfl, hc 2 _ rfl, hc 3 _ rfl⟩
theorem Row.prt {l : List (Prt × Value × Value)} (h : Row w A (l.flatMap prC)) {k : Nat} (hk : k < l.length) :
  ∃ b o, A = some ⟨b, o, none⟩ ∧ b < w.heap.size ∧ w.cell? ⟨b, o + k * 3, none⟩ = some (.int .i64 l[k].1.sheet) ∧ w.cell? ⟨b, o + k * 3 + 1, none⟩ = some l[k].2.1 ∧ w.cell? ⟨b, o + k * 3 + 2, none⟩ = some l[k].2.2 := by
 obtain ⟨b, o, hA, hb, hc⟩ := h.at_ (n := 3) (fun _ => rfl) hk (by omega)
 exact ⟨b, o, hA, hb, hc 0 _ rfl, hc 1 _ rfl, hc 2 _ rfl⟩
end
end Go.Proofs.YtfondidmklmonaaGreat
namespace Go.Proofs.YtfondidmklmonaaGreat
open Go.RowKit

def ptz : Pt := ⟨0, 0⟩
/-- slices.Compact: without elements that equal the one before them -/
def cmpP (l : List Pt) : List Pt := l.foldl (fun acc p => if acc.getLast? = some p then acc else acc ++ [p]) []
theorem cmpP_snoc (l : List Pt) (p : Pt) : cmpP (l ++ [p]) = if (cmpP l).getLast? = some p then cmpP l else cmpP l ++ [p] := by
 unfold cmpP; rw [List.foldl_append]; rfl
theorem cmpP_last (l : List Pt) (p : Pt) : (cmpP (l ++ [p])).getLast? = some p := by
 rw [cmpP_snoc]
 split
 · assumption
 · simp
structure PSt where
 open_ : Bool
 x : Pc
 l : List Pc
def pc0 : Pc := ⟨0, [], 0, 0⟩
def endS (s : PSt) : PSt := if s.open_ = false then s else ⟨false, ⟨s.x.arc, cmpP s.x.path, s.x.enter, s.x.leave⟩, if 1 < (cmpP s.x.path).length then s.l ++ [⟨s.x.arc, cmpP s.x.path, s.x.enter, s.x.leave⟩] else s.l⟩
/-- a segment of which the part from c to d lies in the box -/
def clAdd (arc : Int) (b : Bx) (s : PSt) (p q c d : Pt) : PSt :=
 ⟨true, ⟨if s.open_ = true then s.x.arc else arc, (if s.open_ = true then s.x.path else [c]) ++ [d], if s.open_ = true then s.x.enter else throughS p q b, throughS q p b⟩, s.l⟩
def stepS (arc : Int) (b : Bx) (s : PSt) (p q : Pt) : PSt := match clipS p q b with
 | none => endS s
 | some (c, d) => if inB b q = true then clAdd arc b s p q c d else endS (clAdd arc b s p q c d)
def stAt (arc : Int) (b : Bx) (l : List Pt) : Nat → PSt
 | 0 => ⟨false, pc0, []⟩
 | i + 1 => stepS arc b (stAt arc b l i) (l.getD i ptz) (l.getD (i + 1) ptz)
def piecesS (arc : Int) (l : List Pt) (b : Bx) : List Pc := (endS (stAt arc b l (l.length - 1))).l

/-- the reference's step; last: it is the path's last segment -/
def rclAdd (arc : Int) (b : Bx) (s : PSt) (p q c d : Pt) : Pc :=
 let path := if s.open_ = true then s.x.path else [c]
 ⟨if s.open_ = true then s.x.arc else arc, if path.getLast? = some d then path else path ++ [d], if s.open_ = true then s.x.enter else (if inB b p = true then 0 else clSide p q b), if inB b q = true then (if s.open_ = true then s.x.leave else 0) else clSide q p b⟩
def rstepS (arc : Int) (b : Bx) (s : PSt) (p q : Pt) (last : Bool) : PSt := match rclipS p q b with
 | none => s
 | some (c, d) => ⟨inB b q, rclAdd arc b s p q c d, if (inB b q = false ∨ last = true) ∧ 1 < (rclAdd arc b s p q c d).path.length then s.l ++ [rclAdd arc b s p q c d] else s.l⟩
def rstAt (arc : Int) (b : Bx) (l : List Pt) : Nat → PSt
 | 0 => ⟨false, pc0, []⟩
 | i + 1 => rstepS arc b (rstAt arc b l i) (l.getD i ptz) (l.getD (i + 1) ptz) (decide (i + 2 = l.length))
def rpiecesS (arc : Int) (l : List Pt) (b : Bx) : List Pc := (rstAt arc b l (l.length - 1)).l

theorem in_box_Q {a b : Pt} {x : Bx} (h : inB x a = true) : InQ a b x 0 1 := by
 unfold inB at h
 rw [decide_eq_true_iff] at h
 unfold InQ Btw
 omega
/-- a segment the other way round -/
theorem inQ_rev {a b : Pt} {x : Bx} {n d : Int} : InQ b a x (d - n) d ↔ InQ a b x n d := by
 unfold InQ Btw
 have e1 : (a.x - b.x) * (d - n) = (a.x - b.x) * d + (b.x - a.x) * n := by
  rw [Int.mul_sub, ← Int.neg_sub b.x a.x, Int.neg_mul, Int.neg_mul]; omega
 have e2 : (a.y - b.y) * (d - n) = (a.y - b.y) * d + (b.y - a.y) * n := by
  rw [Int.mul_sub, ← Int.neg_sub b.y a.y, Int.neg_mul, Int.neg_mul]; omega
 rw [e1, e2, Int.sub_mul a.x, Int.sub_mul a.y]
 generalize (b.x - a.x) * n = u
 generalize (b.y - a.y) * n = v
 omega
theorem clip_par {a b : Pt} {x : Bx} {c e : Pt} (h : clipS a b x = some (c, e)) : ∃ n d, Par n d ∧ InQ a b x n d := by
 have := clip_is a b x
 rw [h] at this
 obtain ⟨n1, d1, n2, d2, k⟩ := this
 exact ⟨n1, d1, k.lo, k.inLo⟩
/-- the sides, where there is a part -/
theorem sides_eq {p q : Pt} {b : Bx} (hx : b.x0 < b.x1) (hy : b.y0 < b.y1) {c e : Pt} (h : clipS p q b = some (c, e)) :
  throughS p q b = (if inB b p = true then 0 else clSide p q b) ∧ throughS q p b = (if inB b q = true then 0 else clSide q p b) := by
 obtain ⟨n, d, hp, hq⟩ := clip_par h
 constructor
 ·
  cases hi : inB b p
  · rw [if_neg (by decide)]; exact through_eq hx hy hi hp hq
  · rw [if_pos rfl]; unfold throughS; rw [if_pos hi]
 ·
  cases hi : inB b q
  ·
   rw [if_neg (by decide)]
   exact through_eq hx hy hi (n := d - n) (d := d) ⟨hp.1, by have := hp.2; omega, by have := hp.2; omega⟩ (inQ_rev.2 hq)
  · rw [if_pos rfl]; unfold throughS; rw [if_pos hi]
/-- the two states behind i segments -/
structure Same2 (b : Bx) (l : List Pt) (i : Nat) (s r : PSt) : Prop where
 op : s.open_ = r.open_
 ls : s.l = r.l
 on : s.open_ = true → i < l.length ∧ inB b (l.getD i ptz) = true ∧ r.x = ⟨s.x.arc, cmpP s.x.path, s.x.enter, s.x.leave⟩ ∧ s.x.leave = 0
theorem step_same {arc : Int} {b : Bx} {l : List Pt} (hx : b.x0 < b.x1) (hy : b.y0 < b.y1) {i : Nat} {s r : PSt} (h : Same2 b l i s r) (hi : i + 1 < l.length) :
  Same2 b l (i + 1) (stepS arc b s (l.getD i ptz) (l.getD (i + 1) ptz)) (rstepS arc b r (l.getD i ptz) (l.getD (i + 1) ptz) false) ∧
  (rstepS arc b r (l.getD i ptz) (l.getD (i + 1) ptz) true).l = (endS (stepS arc b s (l.getD i ptz) (l.getD (i + 1) ptz))).l := by
 obtain ⟨h1, h2, h3⟩ := h
 unfold stepS rstepS
 rw [clip_eq _ _ _ (Int.le_of_lt hx) (Int.le_of_lt hy)]
 generalize l.getD i ptz = p at *
 generalize hq : l.getD (i + 1) ptz = q at *
 cases hc : clipS p q b with
 | none =>
  have hno : s.open_ = false := by
   cases ho : s.open_
   · rfl
   ·
    have := h3 ho
    have hcl := clip_is p q b
    rw [hc] at hcl
    exact absurd (in_box_Q this.2.1) (hcl 0 1 ⟨by decide, by decide, by decide⟩)
  have he : endS s = s := by unfold endS; rw [if_pos hno]
  simp only [he]
  exact ⟨⟨h1, h2, fun e => by rw [hno] at e; cases e⟩, h2.symm⟩
 | some ce =>
  obtain ⟨c, d⟩ := ce
  obtain ⟨t1, t2⟩ := sides_eq hx hy hc
  -- the piece of the one state is the other's, made compact
  have hpc : rclAdd arc b r p q c d = ⟨(clAdd arc b s p q c d).x.arc, cmpP (clAdd arc b s p q c d).x.path, (clAdd arc b s p q c d).x.enter, (clAdd arc b s p q c d).x.leave⟩ := by
   unfold rclAdd clAdd
   cases ho : s.open_
   ·
    rw [← h1, ho]
    simp only [if_false, Bool.false_eq_true]
    rw [t1, t2, show cmpP ([c] ++ [d]) = if ([c] : List Pt).getLast? = some d then [c] else [c] ++ [d] from cmpP_snoc [c] d]
   ·
    obtain ⟨-, -, k1, k2⟩ := h3 ho
    rw [← h1, ho, k1]
    simp only [if_true]
    rw [t2, cmpP_snoc, k2]
  have he : endS (clAdd arc b s p q c d) = ⟨false, ⟨(clAdd arc b s p q c d).x.arc, cmpP (clAdd arc b s p q c d).x.path, (clAdd arc b s p q c d).x.enter, (clAdd arc b s p q c d).x.leave⟩, if 1 < (cmpP (clAdd arc b s p q c d).x.path).length then s.l ++ [⟨(clAdd arc b s p q c d).x.arc, cmpP (clAdd arc b s p q c d).x.path, (clAdd arc b s p q c d).x.enter, (clAdd arc b s p q c d).x.leave⟩] else s.l⟩ := rfl
  cases hin : inB b q
  ·
   -- the piece ends
   simp only [Bool.false_eq_true, if_false, true_or, true_and, hpc, he]
   refine ⟨⟨rfl, by rw [h2], fun e => by cases e⟩, ?_⟩
   first | (rw [h2]; done) | (unfold endS; rw [if_pos rfl, h2])
  ·
   simp only [if_true, hpc, Bool.true_eq_false, false_or, Bool.false_eq_true, false_and, if_false, true_and, he]
   refine ⟨⟨rfl, h2, fun _ => ⟨hi, by rw [hq]; exact hin, rfl, ?_⟩⟩, ?_⟩
   ·
    show throughS q p b = 0
    rw [t2, hin]; rfl
   · rw [h2]
theorem at_same {arc : Int} {b : Bx} {l : List Pt} (hx : b.x0 < b.x1) (hy : b.y0 < b.y1) : ∀ i, i + 1 < l.length → Same2 b l i (stAt arc b l i) (rstAt arc b l i)
 | 0, _ => ⟨rfl, rfl, fun e => by cases e⟩
 | i + 1, h => by
  have := (step_same (arc := arc) (l := l) hx hy (at_same (arc := arc) (l := l) hx hy i (by omega)) (by omega)).1
  show Same2 b l (i + 1) (stepS _ _ _ _ _) (rstepS _ _ _ _ _ (decide (i + 2 = l.length)))
  rw [show decide (i + 2 = l.length) = false from decide_eq_false (by omega)]
  exact this
theorem pieces_eq (arc : Int) (l : List Pt) {b : Bx} (hx : b.x0 < b.x1) (hy : b.y0 < b.y1) : rpiecesS arc l b = piecesS arc l b := by
 unfold rpiecesS piecesS
 by_cases h : l.length ≤ 1
 · rw [show l.length - 1 = 0 by omega]; rfl
 ·
  obtain ⟨i, hi⟩ : ∃ i, l.length - 1 = i + 1 := ⟨l.length - 2, by omega⟩
  rw [hi]
  show (rstepS _ _ _ _ _ (decide (i + 2 = l.length))).l = (endS (stepS _ _ _ _ _)).l
  rw [show decide (i + 2 = l.length) = true from decide_eq_true (by omega)]
  exact (step_same (arc := arc) (l := l) hx hy (at_same (arc := arc) (l := l) hx hy i (by omega)) (by omega)).2
end Go.Proofs.YtfondidmklmonaaGreat
