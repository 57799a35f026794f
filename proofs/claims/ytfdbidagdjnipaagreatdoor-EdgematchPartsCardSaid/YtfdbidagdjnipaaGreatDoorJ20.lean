/- Plain law: the side through which a segment comes into a box: the program's way and the reference's. No walk here. Plain law: the pieces of a path in a box: the program's way and the reference's give the same. No walk here. PLAIN: the part of a segment within a box: its ends lie in the box, and the other way round it is the same part. -/
import Derived.Test.YtfdbidagdjnipaaGreatDoorJ19
import Derived.Test.YtfdbidagdjnipaaGreatDoorJ01
set_option linter.unusedSimpArgs false
set_option linter.unusedVariables false
namespace Go.Proofs.YtfdbidagdjnipaaGreatDoor
open Go.RowKit

def inB (b : Bx) (p : Pt) : Bool := decide (b.x0 ≤ p.x ∧ p.x ≤ b.x1 ∧ b.y0 ≤ p.y ∧ p.y ≤ b.y1)
/-- the later of two places m / c, where c may be negative -/
def laterT (nd : Int × Int) (m c : Int) : Int × Int :=
 if c < 0 then (if nd.1 * -c < -m * nd.2 then (-m, -c) else nd) else if 0 < c ∧ nd.1 * c < m * nd.2 then (m, c) else nd
def onT (nd : Int × Int) (s w v : Int) : Bool := s * nd.2 + w * nd.1 == v * nd.2
def placeT (p q : Pt) (b : Bx) : Int × Int :=
 let a1 := if p.x < b.x0 then laterT (0, 1) (b.x0 - p.x) (q.x - p.x) else (0, 1)
 let a2 := if b.x1 < p.x then laterT a1 (b.x1 - p.x) (q.x - p.x) else a1
 let a3 := if p.y < b.y0 then laterT a2 (b.y0 - p.y) (q.y - p.y) else a2
 if b.y1 < p.y then laterT a3 (b.y1 - p.y) (q.y - p.y) else a3
def outT (w s e n : Bool) : Int := match w, s, e, n with
 | true, false, false, false => 1
 | false, true, false, false => 2
 | false, false, true, false => 3
 | false, false, false, true => 4
 | _, _, _, _ => 0
def throughS (p q : Pt) (b : Bx) : Int :=
 if inB b p = true then 0
 else
  let nd := placeT p q b
  outT (onT nd p.x (q.x - p.x) b.x0) (onT nd p.y (q.y - p.y) b.y0) (onT nd p.x (q.x - p.x) b.x1) (onT nd p.y (q.y - p.y) b.y1)
/-- the reference's -/
def clSideX (p q : Pt) (b : Bx) : Int × Int × Int := if p.x < b.x0 then (1, b.x0 - p.x, q.x - p.x) else if b.x1 < p.x then (3, p.x - b.x1, p.x - q.x) else (0, 0, 1)
def clSideY (p q : Pt) (b : Bx) : Int × Int × Int := if p.y < b.y0 then (2, b.y0 - p.y, q.y - p.y) else if b.y1 < p.y then (4, p.y - b.y1, p.y - q.y) else (0, 0, 1)
def clSide (p q : Pt) (b : Bx) : Int :=
 let X := clSideX p q b
 let Y := clSideY p q b
 if X.1 ≠ 0 ∧ (Y.1 = 0 ∨ Y.2.1 * X.2.2 < X.2.1 * Y.2.2) then
  (if (b.y0 - p.y) * X.2.2 = (q.y - p.y) * X.2.1 ∨ (b.y1 - p.y) * X.2.2 = (q.y - p.y) * X.2.1 then 0 else X.1)
 else if (X.1 ≠ 0 ∧ X.2.1 * Y.2.2 = Y.2.1 * X.2.2) ∨ (b.x0 - p.x) * Y.2.2 = (q.x - p.x) * Y.2.1 ∨ (b.x1 - p.x) * Y.2.2 = (q.x - p.x) * Y.2.1 then 0
 else Y.1
theorem on_iff {nd : Int × Int} {s w v : Int} : (onT nd s w v = true) ↔ (v - s) * nd.2 = w * nd.1 := by
 unfold onT
 rw [beq_iff_eq, Int.sub_mul]
 omega
theorem on_hit {n d s w v : Int} (hw : w = d) (hn : n = v - s) : onT (n, d) s w v = true := by
 rw [on_iff]; subst hw; subst hn; exact Int.mul_comm _ _
theorem on_hit' {n d s w v : Int} (hw : w = -d) (hn : n = s - v) : onT (n, d) s w v = true := by
 rw [on_iff]; subst hw; subst hn
 show (v - s) * d = -d * (s - v)
 rw [Int.neg_mul, ← Int.mul_neg, Int.neg_sub, Int.mul_comm]
theorem on_miss {n d s w v v' : Int} (h : onT (n, d) s w v = true) (hd : 0 < d) (hv : v ≠ v') : onT (n, d) s w v' = false := by
 cases h' : onT (n, d) s w v'
 · rfl
 ·
  rw [on_iff] at h h'
  have : (v - s) * d = (v' - s) * d := h.trans h'.symm
  have := Int.eq_of_mul_eq_mul_right (by omega) this
  omega
/-- a segment that reaches the box goes towards it -/
theorem goes {a b : Pt} {x : Bx} {n d : Int} (hp : Par n d) (h : InQ a b x n d) :
  (a.x < x.x0 → 0 < b.x - a.x) ∧ (x.x1 < a.x → b.x - a.x < 0) ∧ (a.y < x.y0 → 0 < b.y - a.y) ∧ (x.y1 < a.y → b.y - a.y < 0) := by
 have key : ∀ s w f t : Int, Btw s w f t n d → (s < f → 0 < w) ∧ (t < s → w < 0) := by
  intro s w f t hb
  unfold Btw at hb
  obtain ⟨h1, h2⟩ := hb
  constructor
  ·
   intro hs
   rcases Int.lt_or_le 0 w with h | h
   · exact h
   ·
    have e1 : s * d < f * d := Int.mul_lt_mul_of_pos_right hs hp.1
    have e2 : w * n ≤ 0 := by
     have := Int.mul_le_mul_of_nonneg_right h hp.2.1
     omega
    omega
  ·
   intro hs
   rcases Int.lt_or_le w 0 with h | h
   · exact h
   ·
    have e1 : t * d < s * d := Int.mul_lt_mul_of_pos_right hs hp.1
    have e2 : 0 ≤ w * n := Int.mul_nonneg h hp.2.1
    omega
 exact ⟨(key _ _ _ _ h.1).1, (key _ _ _ _ h.1).2, (key _ _ _ _ h.2).1, (key _ _ _ _ h.2).2⟩

theorem out_1 (u v : Bool) : outT true u false v = if u = true ∨ v = true then 0 else 1 := by cases u <;> cases v <;> rfl
theorem out_3 (u v : Bool) : outT false u true v = if u = true ∨ v = true then 0 else 3 := by cases u <;> cases v <;> rfl
theorem out_2 (u v : Bool) : outT u true v false = if u = true ∨ v = true then 0 else 2 := by cases u <;> cases v <;> rfl
theorem out_4 (u v : Bool) : outT u false v true = if u = true ∨ v = true then 0 else 4 := by cases u <;> cases v <;> rfl
theorem later_pos {nd : Int × Int} {m c : Int} (hc : 0 < c) : laterT nd m c = if nd.1 * c < m * nd.2 then (m, c) else nd := by
 unfold laterT
 rw [if_neg (by omega)]
 simp only [hc, true_and]
theorem later_neg {nd : Int × Int} {m c : Int} (hc : c < 0) : laterT nd m c = if nd.1 * -c < -m * nd.2 then (-m, -c) else nd := by
 unfold laterT
 rw [if_pos hc]
/-- what the x (or the y) side gives -/
structure SdX (p q b0 b1 k1 k3 : Int) (X : Int × Int × Int) : Prop where
 cases : (X = (0, 0, 1) ∧ b0 ≤ p ∧ p ≤ b1) ∨ (X.1 = k1 ∧ p < b0 ∧ X.2.1 = b0 - p ∧ X.2.2 = q - p ∧ 0 < X.2.2) ∨ (X.1 = k3 ∧ b1 < p ∧ X.2.1 = p - b1 ∧ X.2.2 = p - q ∧ 0 < X.2.2)
theorem SdX.pos {p q b0 b1 k1 k3 : Int} {X : Int × Int × Int} (h : SdX p q b0 b1 k1 k3 X) : 0 < X.2.2 ∧ 0 ≤ X.2.1 := by
 rcases h.cases with ⟨h1, h2⟩ | ⟨h1, h2, h3, h4, h5⟩ | ⟨h1, h2, h3, h4, h5⟩
 · subst h1; exact ⟨by decide, by decide⟩
 · exact ⟨h5, by omega⟩
 · exact ⟨h5, by omega⟩
/-- one step of the program: the later place -/
theorem later_step {nd : Int × Int} {p q b0 b1 k1 k3 : Int} {X : Int × Int × Int} (h : SdX p q b0 b1 k1 k3 X) (hb : b0 < b1) (hnd : 0 ≤ nd.1 ∧ 0 < nd.2) :
  (if b1 < p then laterT (if p < b0 then laterT nd (b0 - p) (q - p) else nd) (b1 - p) (q - p) else (if p < b0 then laterT nd (b0 - p) (q - p) else nd)) = if nd.1 * X.2.2 < X.2.1 * nd.2 then (X.2.1, X.2.2) else nd := by
 rcases h.cases with ⟨h1, h2, h2'⟩ | ⟨h1, h2, h3, h4, h5⟩ | ⟨h1, h2, h3, h4, h5⟩
 ·
  subst h1
  rw [if_neg (by omega), if_neg (by omega), if_neg (by simp; omega)]
 · rw [if_neg (by omega), if_pos h2, later_pos (by omega), h3, h4]
 · rw [if_pos h2, if_neg (by omega), later_neg (by omega), h3, h4, show -(q - p) = p - q by omega, show -(b1 - p) = p - b1 by omega]
/-- the place lies on the line of its own side and on no other of the two -/
theorem SdX.hits {p q b0 b1 k1 k3 : Int} {X : Int × Int × Int} (h : SdX p q b0 b1 k1 k3 X) (hb : b0 < b1) (h0 : X.1 ≠ 0) (hk1 : k1 ≠ 0) (hk : k1 ≠ k3) :
  (X.1 = k1 ∧ onT (X.2.1, X.2.2) p (q - p) b0 = true ∧ onT (X.2.1, X.2.2) p (q - p) b1 = false) ∨ (X.1 = k3 ∧ onT (X.2.1, X.2.2) p (q - p) b0 = false ∧ onT (X.2.1, X.2.2) p (q - p) b1 = true) := by
 rcases h.cases with ⟨h1, h2, h2'⟩ | ⟨h1, h2, h3, h4, h5⟩ | ⟨h1, h2, h3, h4, h5⟩
 · subst h1; exact absurd rfl h0
 ·
  left
  have e := on_hit (n := X.2.1) (d := X.2.2) (s := p) (w := q - p) (v := b0) (by omega) (by omega)
  exact ⟨h1, e, on_miss e h5 (by omega)⟩
 ·
  right
  have e := on_hit' (n := X.2.1) (d := X.2.2) (s := p) (w := q - p) (v := b1) (by omega) (by omega)
  exact ⟨h1, on_miss e h5 (by omega), e⟩
theorem on_val {n d m e s w v : Int} (hd : 0 < d) (he : 0 < e) (h : n * e = m * d) (ho : onT (n, d) s w v = true) : onT (m, e) s w v = true := by
 rw [on_iff] at ho ⊢
 show (v - s) * e = w * m
 have ho' : (v - s) * d = w * n := ho
 have : (v - s) * e * d = w * m * d := by
  rw [Int.mul_right_comm, ho', Int.mul_assoc, h, Int.mul_assoc]
 exact Int.eq_of_mul_eq_mul_right (by omega) this
theorem through_eq {p q : Pt} {b : Bx} (hx : b.x0 < b.x1) (hy : b.y0 < b.y1) (hin : inB b p = false) {n d : Int} (hp : Par n d) (hq : InQ p q b n d) : throughS p q b = clSide p q b := by
 obtain ⟨g1, g2, g3, g4⟩ := goes hp hq
 have hX : SdX p.x q.x b.x0 b.x1 1 3 (clSideX p q b) := by
  unfold clSideX
  constructor
  by_cases h1 : p.x < b.x0
  · rw [if_pos h1]; exact .inr (.inl ⟨rfl, h1, rfl, rfl, g1 h1⟩)
  ·
   rw [if_neg h1]
   by_cases h2 : b.x1 < p.x
   · rw [if_pos h2]; exact .inr (.inr ⟨rfl, h2, rfl, rfl, by have := g2 h2; show 0 < p.x - q.x; omega⟩)
   · rw [if_neg h2]; exact .inl ⟨rfl, by omega, by omega⟩
 have hY : SdX p.y q.y b.y0 b.y1 2 4 (clSideY p q b) := by
  unfold clSideY
  constructor
  by_cases h1 : p.y < b.y0
  · rw [if_pos h1]; exact .inr (.inl ⟨rfl, h1, rfl, rfl, g3 h1⟩)
  ·
   rw [if_neg h1]
   by_cases h2 : b.y1 < p.y
   · rw [if_pos h2]; exact .inr (.inr ⟨rfl, h2, rfl, rfl, by have := g4 h2; show 0 < p.y - q.y; omega⟩)
   · rw [if_neg h2]; exact .inl ⟨rfl, by omega, by omega⟩
 have hne : (clSideX p q b).1 = 0 → (clSideY p q b).1 ≠ 0 := by
  intro e1 e2
  rcases hX.cases with ⟨-, h2, h3⟩ | ⟨h1, -⟩ | ⟨h1, -⟩
  ·
   rcases hY.cases with ⟨-, h4, h5⟩ | ⟨h1, -⟩ | ⟨h1, -⟩
   ·
    have : inB b p = true := by unfold inB; rw [decide_eq_true_iff]; exact ⟨h2, h3, h4, h5⟩
    rw [this] at hin; cases hin
   · omega
   · omega
  · omega
  · omega
 have hpl : placeT p q b = if (clSideX p q b).2.1 * (clSideY p q b).2.2 < (clSideY p q b).2.1 * (clSideX p q b).2.2 then ((clSideY p q b).2.1, (clSideY p q b).2.2) else ((clSideX p q b).2.1, (clSideX p q b).2.2) := by
  unfold placeT
  have s1 := later_step (nd := (0, 1)) hX hx ⟨by decide, by decide⟩
  have e1 : (if ((0 : Int), (1 : Int)).1 * (clSideX p q b).2.2 < (clSideX p q b).2.1 * ((0 : Int), (1 : Int)).2 then ((clSideX p q b).2.1, (clSideX p q b).2.2) else ((0 : Int), (1 : Int))) = ((clSideX p q b).2.1, (clSideX p q b).2.2) := by
   rcases hX.cases with ⟨h1, -⟩ | ⟨-, h2, h3, -, -⟩ | ⟨-, h2, h3, -, -⟩
   · rw [h1]; simp
   · rw [if_pos (by simp; omega)]
   · rw [if_pos (by simp; omega)]
  rw [e1] at s1
  have s2 := later_step (nd := ((clSideX p q b).2.1, (clSideX p q b).2.2)) hY hy ⟨hX.pos.2, hX.pos.1⟩
  rw [← s2, ← s1]
 unfold throughS
 rw [if_neg (by rw [hin]; decide)]
 show outT (onT (placeT p q b) p.x (q.x - p.x) b.x0) (onT (placeT p q b) p.y (q.y - p.y) b.y0) (onT (placeT p q b) p.x (q.x - p.x) b.x1) (onT (placeT p q b) p.y (q.y - p.y) b.y1) = _
 rw [hpl]
 unfold clSide
 have px := hX.pos; have py := hY.pos
 have hitX := fun h0 => hX.hits hx h0 (by decide) (by decide)
 have hitY := fun h0 => hY.hits hy h0 (by decide) (by decide)
 have zY : (clSideY p q b).1 = 0 → (clSideY p q b).2.1 = 0 := fun e => by
  rcases hY.cases with ⟨h1, -⟩ | ⟨h1, -⟩ | ⟨h1, -⟩
  · rw [h1]
  · omega
  · omega
 have zX : (clSideX p q b).1 = 0 → (clSideX p q b).2.1 = 0 := fun e => by
  rcases hX.cases with ⟨h1, -⟩ | ⟨h1, -⟩ | ⟨h1, -⟩
  · rw [h1]
  · omega
  · omega
 have nzX : (clSideX p q b).1 ≠ 0 → 0 < (clSideX p q b).2.1 := fun e => by
  rcases hX.cases with ⟨h1, -⟩ | ⟨h1, h2, h3, -⟩ | ⟨h1, h2, h3, -⟩
  · rw [h1] at e; exact absurd rfl e
  · omega
  · omega
 have nzY : (clSideY p q b).1 ≠ 0 → 0 < (clSideY p q b).2.1 := fun e => by
  rcases hY.cases with ⟨h1, -⟩ | ⟨h1, h2, h3, -⟩ | ⟨h1, h2, h3, -⟩
  · rw [h1] at e; exact absurd rfl e
  · omega
  · omega
 generalize clSideX p q b = X at *
 generalize clSideY p q b = Y at *
 obtain ⟨X0, xn, xd⟩ := X
 obtain ⟨Y0, yn, yd⟩ := Y
 simp only at *
 clear hX hY hpl g1 g2 g3 g4 hq hp
 have onx : ∀ v, ((v - p.x) * yd = (q.x - p.x) * yn) ↔ onT (yn, yd) p.x (q.x - p.x) v = true := fun v => (on_iff (nd := (yn, yd)) (s := p.x) (w := q.x - p.x) (v := v)).symm
 have ony : ∀ v, ((v - p.y) * xd = (q.y - p.y) * xn) ↔ onT (xn, xd) p.y (q.y - p.y) v = true := fun v => (on_iff (nd := (xn, xd)) (s := p.y) (w := q.y - p.y) (v := v)).symm
 simp only [onx, ony]
 by_cases hlt : xn * yd < yn * xd
 ·
  rw [if_pos hlt]
  have hy0 : Y0 ≠ 0 := fun e => by
   rw [zY e, Int.zero_mul] at hlt
   have : 0 ≤ xn * yd := Int.mul_nonneg px.2 (Int.le_of_lt py.1)
   omega
  rw [if_neg (by rintro ⟨-, h | h⟩; exact hy0 h; omega)]
  have hti : ¬ (X0 ≠ 0 ∧ xn * yd = yn * xd) := fun h => by omega
  rcases hitY hy0 with ⟨k1, k2, k3⟩ | ⟨k1, k2, k3⟩
  ·
   rw [k2, k3, out_2, k1]
   by_cases ho : onT (yn, yd) p.x (q.x - p.x) b.x0 = true ∨ onT (yn, yd) p.x (q.x - p.x) b.x1 = true
   · rw [if_pos ho, if_pos (.inr ho)]
   · rw [if_neg ho, if_neg (fun h => h.elim hti ho)]
  ·
   rw [k2, k3, out_4, k1]
   by_cases ho : onT (yn, yd) p.x (q.x - p.x) b.x0 = true ∨ onT (yn, yd) p.x (q.x - p.x) b.x1 = true
   · rw [if_pos ho, if_pos (.inr ho)]
   · rw [if_neg ho, if_neg (fun h => h.elim hti ho)]
 ·
  rw [if_neg hlt]
  have hx0 : X0 ≠ 0 := fun e => by
   have h1 := nzY (hne e)
   have h2 : 0 < yn * xd := Int.mul_pos h1 px.1
   rw [zX e, Int.zero_mul] at hlt
   omega
  by_cases htie : xn * yd = yn * xd
  ·
   have hy0 : Y0 ≠ 0 := fun e => by
    rw [zY e, Int.zero_mul] at htie
    have := Int.mul_pos (nzX hx0) py.1
    omega
   rw [if_neg (by rintro ⟨-, h | h⟩; exact hy0 h; omega), if_pos (.inl ⟨hx0, htie⟩)]
   have hh : onT (xn, xd) p.y (q.y - p.y) b.y0 = true ∨ onT (xn, xd) p.y (q.y - p.y) b.y1 = true := by
    rcases hitY hy0 with ⟨-, k2, -⟩ | ⟨-, -, k3⟩
    · exact .inl (on_val py.1 px.1 htie.symm k2)
    · exact .inr (on_val py.1 px.1 htie.symm k3)
   rcases hitX hx0 with ⟨k1, k2, k3⟩ | ⟨k1, k2, k3⟩
   · rw [k2, k3, out_1, if_pos hh]
   · rw [k2, k3, out_3, if_pos hh]
  ·
   rw [if_pos ⟨hx0, .inr (by omega)⟩]
   rcases hitX hx0 with ⟨k1, k2, k3⟩ | ⟨k1, k2, k3⟩
   · rw [k2, k3, out_1, k1]
   · rw [k2, k3, out_3, k1]
end Go.Proofs.YtfdbidagdjnipaaGreatDoor
namespace Go.Proofs.YtfdbidagdjnipaaGreatDoor
open Go.RowKit

def ptz : Pt := ⟨0, 0⟩
/-- slices.Compact: without elements that equal the one before them -/
def cmpP (l : List Pt) : List Pt := l.foldl (fun acc p => if acc.getLast? = some p then acc else acc ++ [p]) []
theorem cmpP_snoc (l : List Pt) (p : Pt) : cmpP (l ++ [p]) = if (cmpP l).getLast? = some p then cmpP l else cmpP l ++ [p] := by
 unfold cmpP; rw [List.foldl_append]; rfl
theorem cmpP_last (l : List Pt) (p : Pt) : (cmpP (l ++ [p])).getLast? = some p := by
 rw [cmpP_snoc]
 split
 · assumption
 · simp
structure PSt where
 open_ : Bool
 x : Pc
 l : List Pc
def pc0 : Pc := ⟨0, [], 0, 0⟩
def endS (s : PSt) : PSt := if s.open_ = false then s else ⟨false, ⟨s.x.arc, cmpP s.x.path, s.x.enter, s.x.leave⟩, if 1 < (cmpP s.x.path).length then s.l ++ [⟨s.x.arc, cmpP s.x.path, s.x.enter, s.x.leave⟩] else s.l⟩
/-- a segment of which the part from c to d lies in the box -/
def clAdd (arc : Int) (b : Bx) (s : PSt) (p q c d : Pt) : PSt :=
 ⟨true, ⟨if s.open_ = true then s.x.arc else arc, (if s.open_ = true then s.x.path else [c]) ++ [d], if s.open_ = true then s.x.enter else throughS p q b, throughS q p b⟩, s.l⟩
def stepS (arc : Int) (b : Bx) (s : PSt) (p q : Pt) : PSt := match clipS p q b with
 | none => endS s
 | some (c, d) => if inB b q = true then clAdd arc b s p q c d else endS (clAdd arc b s p q c d)
def stAt (arc : Int) (b : Bx) (l : List Pt) : Nat → PSt
 | 0 => ⟨false, pc0, []⟩
 | i + 1 => stepS arc b (stAt arc b l i) (l.getD i ptz) (l.getD (i + 1) ptz)
def piecesS (arc : Int) (l : List Pt) (b : Bx) : List Pc := (endS (stAt arc b l (l.length - 1))).l

theorem in_box_Q {a b : Pt} {x : Bx} (h : inB x a = true) : InQ a b x 0 1 := by
 unfold inB at h
 rw [decide_eq_true_iff] at h
 unfold InQ Btw
 omega
theorem in_box_Q1 {a b : Pt} {x : Bx} (h : inB x b = true) : InQ a b x 1 1 := by
 unfold inB at h
 rw [decide_eq_true_iff] at h
 unfold InQ Btw
 omega
/-- a segment the other way round -/
theorem inQ_rev {a b : Pt} {x : Bx} {n d : Int} : InQ b a x (d - n) d ↔ InQ a b x n d := by
 unfold InQ Btw
 have e1 : (a.x - b.x) * (d - n) = (a.x - b.x) * d + (b.x - a.x) * n := by
  rw [Int.mul_sub, ← Int.neg_sub b.x a.x, Int.neg_mul, Int.neg_mul]; omega
 have e2 : (a.y - b.y) * (d - n) = (a.y - b.y) * d + (b.y - a.y) * n := by
  rw [Int.mul_sub, ← Int.neg_sub b.y a.y, Int.neg_mul, Int.neg_mul]; omega
 rw [e1, e2, Int.sub_mul a.x, Int.sub_mul a.y]
 generalize (b.x - a.x) * n = u
 generalize (b.y - a.y) * n = v
 omega
end Go.Proofs.YtfdbidagdjnipaaGreatDoor
namespace Go.Proofs.YtfdbidagdjnipaaGreatDoor

theorem round_neg {a b : Int} (hb : b ≠ 0) : roundS (-a) (-b) = roundS a b := by
 have h1 := roundS_near (a := a) hb
 have h2 := roundS_near (a := -a) (b := -b) (by omega)
 rcases Int.lt_or_gt_of_ne hb with h | h
 · exact near_unique (a := -a) (b := -b) (by omega) (h2.1 (by omega)).1 (h2.1 (by omega)).2 (h1.2 h).1 (h1.2 h).2
 ·
  have h3 := h2.2 (by omega)
  simp only [Int.neg_neg] at h3
  exact near_unique (a := a) (b := b) h h3.1 h3.2 (h1.1 h).1 (h1.1 h).2
theorem round_shift_pos {a b k : Int} (hb : 0 < b) : roundS (a + k * b) b = roundS a b + k := by
 have h1 := (roundS_near (a := a) (b := b) (by omega)).1 hb
 have h2 := (roundS_near (a := a + k * b) (b := b) (by omega)).1 hb
 refine near_unique (a := a + k * b) (b := b) hb h2.1 h2.2 ?_ ?_
 · rw [Int.add_mul]; omega
 · rw [Int.add_mul]; omega
theorem round_shift {a b k : Int} (hb : b ≠ 0) : roundS (a + k * b) b = roundS a b + k := by
 rcases Int.lt_or_gt_of_ne hb with h | h
 ·
  rw [← round_neg (a := a + k * b) hb, ← round_neg (a := a) hb, show -(a + k * b) = -a + k * -b by rw [Int.mul_neg]; omega]
  exact round_shift_pos (by omega)
 · exact round_shift_pos h
theorem round_lo_pos {a b k : Int} (hb : 0 < b) (h : k * b ≤ a) : k ≤ roundS a b := by
 have h1 := (roundS_near (a := a) (b := b) (by omega)).1 hb
 rcases Int.lt_or_le (roundS a b) k with h2 | h2
 · have := mul_lt_le h2 hb; omega
 · exact h2
theorem round_hi_pos {a b k : Int} (hb : 0 < b) (h : a ≤ k * b) : roundS a b ≤ k := by
 have h1 := (roundS_near (a := a) (b := b) (by omega)).1 hb
 rcases Int.lt_or_le k (roundS a b) with h2 | h2
 · have := mul_lt_le h2 hb; omega
 · exact h2
/-- a rounded quotient lies between whole numbers between which the quotient n / d lies -/
theorem round_btw {a b n d lo hi : Int} (hb : b ≠ 0) (hd : 0 < d) (he : a * d = n * b) (h1 : lo * d ≤ n) (h2 : n ≤ hi * d) : lo ≤ roundS a b ∧ roundS a b ≤ hi := by
 have key : ∀ a b : Int, 0 < b → a * d = n * b → lo ≤ roundS a b ∧ roundS a b ≤ hi := by
  intro a b hb he
  have e1 : lo * b * d ≤ a * d := by
   rw [he, Int.mul_right_comm]
   exact Int.mul_le_mul_of_nonneg_right h1 (Int.le_of_lt hb)
  have e2 : a * d ≤ hi * b * d := by
   rw [he, Int.mul_right_comm]
   exact Int.mul_le_mul_of_nonneg_right h2 (Int.le_of_lt hb)
  exact ⟨round_lo_pos hb (Int.le_of_mul_le_mul_right e1 hd), round_hi_pos hb (Int.le_of_mul_le_mul_right e2 hd)⟩
 rcases Int.lt_or_gt_of_ne hb with h | h
 ·
  rw [← round_neg (a := a) hb]
  exact key _ _ (by omega) (by rw [Int.neg_mul, he, Int.mul_neg])
 · exact key _ _ h he
theorem atx_rev {a b : Pt} (h : b.x - a.x ≠ 0) (v : Int) : atxS b a v = atxS a b v := by
 unfold atxS
 have e : (a.y - b.y) * (v - b.x) = -((b.y - a.y) * (v - a.x) + (-(b.y - a.y)) * (b.x - a.x)) := by
  have e1 : (a.y - b.y) = -(b.y - a.y) := by omega
  have e2 : (v - b.x) = (v - a.x) - (b.x - a.x) := by omega
  rw [e1, e2, Int.neg_mul, Int.neg_mul, Int.mul_sub]
  omega
 rw [e, show a.x - b.x = -(b.x - a.x) by omega, round_neg h, round_shift h]
 omega
theorem goodAt_rev {a b : Pt} {x : Bx} {p : Plc} (h : GoodAt a b x p) : GoodAt b a x ⟨p.d - p.n, p.d, p.at_⟩ := by
 have alg : ∀ A B E : Int, (B - A) * p.n = (E - A) * p.d → (A - B) * (p.d - p.n) = (E - B) * p.d := by
  intro A B E h
  have e1 : (A - B) * (p.d - p.n) = (A - B) * p.d + (B - A) * p.n := by
   rw [Int.mul_sub, show (A - B) * p.n = -((B - A) * p.n) by rw [← Int.neg_mul]; congr 1; omega]; omega
  rw [e1, h, ← Int.add_mul]
  congr 1
  omega
 rcases h with ⟨h1, h2⟩ | ⟨h1, h2⟩ | ⟨E, hE, hx, h1, h2⟩ | ⟨E, hE, hy, h1, h2⟩
 · exact .inr (.inl ⟨show p.d - p.n = p.d by omega, h2⟩)
 · exact .inl ⟨show p.d - p.n = 0 by omega, h2⟩
 ·
  refine .inr (.inr (.inl ⟨E, hE, by omega, alg _ _ _ h1, ?_⟩))
  rw [h2]
  unfold atX
  rw [atx_rev hx]
 ·
  refine .inr (.inr (.inr ⟨E, hE, by omega, alg _ _ _ h1, ?_⟩))
  rw [h2]
  unfold atY
  rw [atx_rev (a := turnP a) (b := turnP b) hy]
theorem good_in {a b : Pt} {x : Bx} {p : Plc} (hp : Par p.n p.d) (h : GoodAt a b x p) (hq : InQ a b x p.n p.d) : inB x p.at_ = true := by
 obtain ⟨⟨x1, x2⟩, y1, y2⟩ := hq
 have cancel : ∀ {u v : Int}, u * p.d ≤ v * p.d → u ≤ v := fun h => Int.le_of_mul_le_mul_right h hp.1
 unfold inB
 rw [decide_eq_true_iff]
 rcases h with ⟨h1, h2⟩ | ⟨h1, h2⟩ | ⟨E, hE, hx, h1, h2⟩ | ⟨E, hE, hy, h1, h2⟩
 ·
  rw [h1, Int.mul_zero, Int.add_zero] at x1 x2 y1 y2
  rw [h2]
  exact ⟨cancel x1, cancel x2, cancel y1, cancel y2⟩
 ·
  rw [h1, ← Int.add_mul] at x1 x2 y1 y2
  rw [h2]
  have := cancel x1; have := cancel x2; have := cancel y1; have := cancel y2
  omega
 ·
  rw [h1, ← Int.add_mul] at x1 x2
  have e1 := cancel x1; have e2 := cancel x2
  have hr := round_btw (a := (b.y - a.y) * (E - a.x)) (b := b.x - a.x) (n := (b.y - a.y) * p.n) (d := p.d) (lo := x.y0 - a.y) (hi := x.y1 - a.y) hx hp.1
   (by rw [Int.mul_assoc, ← h1, Int.mul_comm (b.x - a.x), ← Int.mul_assoc]) (by rw [Int.sub_mul x.y0]; omega) (by rw [Int.sub_mul x.y1]; omega)
  rw [h2]
  unfold atX atxS
  simp only
  omega
 ·
  rw [h1, ← Int.add_mul] at y1 y2
  have e1 := cancel y1; have e2 := cancel y2
  have hr := round_btw (a := (b.x - a.x) * (E - a.y)) (b := b.y - a.y) (n := (b.x - a.x) * p.n) (d := p.d) (lo := x.x0 - a.x) (hi := x.x1 - a.x) hy hp.1
   (by rw [Int.mul_assoc, ← h1, Int.mul_comm (b.y - a.y), ← Int.mul_assoc]) (by rw [Int.sub_mul x.x0]; omega) (by rw [Int.sub_mul x.x1]; omega)
  rw [h2]
  unfold atY atxS turnP
  simp only
  omega
/-- the part, with the places of its ends -/
theorem clip_goodP {a b : Pt} {x : Bx} {c e : Pt} (h : clipS a b x = some (c, e)) : ∃ P1 P2 : Plc, P1.at_ = c ∧ P2.at_ = e ∧ GoodAt a b x P1 ∧ GoodAt a b x P2 ∧ ClipSome a b x c e P1.n P1.d P2.n P2.d := by
 have i0 := cl0_ok a b
 have i1 := limit_ok i0 a.x (b.x - a.x) x.x0 x.x1 (atX a b)
 have i2 := limit_ok i1 a.y (b.y - a.y) x.y0 x.y1 (atY a b)
 have g1 := limit_good (a := a) (b := b) (x := x) i0.first i0.last (.inl ⟨rfl, rfl⟩) (.inr (.inl ⟨rfl, rfl⟩)) a.x (b.x - a.x) x.x0 x.x1 (atX a b)
  (fun hw p v hv hp he => .inr (.inr (.inl ⟨v, hv, hw, he, hp⟩)))
 have g2 := limit_good (a := a) (b := b) (x := x) i1.first i1.last g1.1 g1.2 a.y (b.y - a.y) x.y0 x.y1 (atY a b)
  (fun hw p v hv hp he => .inr (.inr (.inr ⟨v, hv, hw, he, hp⟩)))
 unfold clipS clipSt at h
 generalize limitS (limitS ⟨⟨0, 1, a⟩, ⟨1, 1, b⟩, true⟩ a.x (b.x - a.x) x.x0 x.x1 (atX a b)) a.y (b.y - a.y) x.y0 x.y1 (atY a b) = st at *
 have hC : ∀ n d, ((True ∧ Btw a.x (b.x - a.x) x.x0 x.x1 n d) ∧ Btw a.y (b.y - a.y) x.y0 x.y1 n d) ↔ InQ a b x n d := fun n d => by
  unfold InQ; simp
 simp only at h
 by_cases hn : st.ok = false ∨ st.last.n * st.first.d < st.first.n * st.last.d
 · rw [if_pos hn] at h; cases h
 ·
  rw [if_neg hn] at h
  have hk : st.ok = true := by
   cases hk : st.ok
   · exact absurd (.inl hk) hn
   · rfl
  injection h with h
  injection h with h1 h2
  refine ⟨st.first, st.last, h1, h2, g2.1, g2.2, i2.first, i2.last, ?_, fun n d hp => ?_, ?_, ?_⟩
  ·
   unfold leQ
   have : ¬ st.last.n * st.first.d < st.first.n * st.last.d := fun e => hn (.inr e)
   omega
  · rw [← hC]; exact i2.yes hk n d hp
  · rw [← h1]; exact good_pt i2.first.1 g2.1
  · rw [← h2]; exact good_pt i2.last.1 g2.2
theorem clip_in {a b : Pt} {x : Bx} {c e : Pt} (h : clipS a b x = some (c, e)) : inB x c = true ∧ inB x e = true := by
 obtain ⟨P1, P2, rfl, rfl, g1, g2, k⟩ := clip_goodP h
 exact ⟨good_in k.lo g1 k.inLo, good_in k.hi g2 k.inHi⟩
theorem par_rev {n d : Int} (h : Par n d) : Par (d - n) d := ⟨h.1, by have := h.2; omega, by have := h.2; omega⟩
theorem leQ_rev {n d m e : Int} : leQ (d - n) d (e - m) e ↔ leQ m e n d := by
 unfold leQ
 rw [Int.sub_mul, Int.sub_mul, Int.mul_comm d e]
 omega
/-- a segment the other way round has the same part, the other way round -/
theorem clip_rev (a b : Pt) (x : Bx) : clipS b a x = (clipS a b x).map (fun r => (r.2, r.1)) := by
 refine clip_uniq (a := b) (b := a) (x := x) (clip_is b a x) ?_
 cases h : clipS a b x with
 | none =>
  intro n d hp hq
  have hn := clip_is a b x
  rw [h] at hn
  have hq2 : InQ b a x (d - (d - n)) d := by rw [show d - (d - n) = n by omega]; exact hq
  exact hn (d - n) d (par_rev hp) (inQ_rev.1 hq2)
 | some r =>
  obtain ⟨c, e⟩ := r
  obtain ⟨P1, P2, h1, h2, g1, g2, k⟩ := clip_goodP h
  refine ⟨P2.d - P2.n, P2.d, P1.d - P1.n, P1.d, par_rev k.hi, par_rev k.lo, leQ_rev.2 k.le, fun n d hp => ?_, ?_, ?_⟩
  ·
   have e1 := k.all (d - n) d (par_rev hp)
   have e2 : InQ b a x n d ↔ InQ a b x (d - n) d := by
    have := inQ_rev (a := a) (b := b) (x := x) (n := d - n) (d := d)
    rw [show d - (d - n) = n by omega] at this
    exact this
   rw [e2, e1]
   have r1 := leQ_rev (n := d - n) (d := d) (m := P1.n) (e := P1.d)
   have r2 := leQ_rev (n := P2.n) (d := P2.d) (m := d - n) (e := d)
   rw [show d - (d - n) = n by omega] at r1 r2
   rw [r1, r2]
   exact ⟨fun h => ⟨h.2, h.1⟩, fun h => ⟨h.2, h.1⟩⟩
  · rw [← h2]; exact good_pt (p := ⟨P2.d - P2.n, P2.d, P2.at_⟩) k.hi.1 (goodAt_rev g2)
  · rw [← h1]; exact good_pt (p := ⟨P1.d - P1.n, P1.d, P1.at_⟩) k.lo.1 (goodAt_rev g1)
end Go.Proofs.YtfdbidagdjnipaaGreatDoor
