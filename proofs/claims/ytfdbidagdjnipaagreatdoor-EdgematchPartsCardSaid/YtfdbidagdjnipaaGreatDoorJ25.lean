/- PLAIN: the side through which a segment comes into a box, and where, seen from an edge. PLAIN: where exactly a segment comes into a box; the facts about the points where it does. PLAIN: the expected crossings of a path, point by point; where a path may be divided. -/
import Derived.Test.YtfdbidagdjnipaaGreatDoorJ24
set_option linter.unusedSimpArgs false
set_option linter.unusedVariables false
namespace Go.Proofs.YtfdbidagdjnipaaGreatDoor

theorem cl_x {p q : Pt} {b : Bx} (hX : (clSideX p q b).1 ≠ 0) (hY : (clSideY p q b).1 = 0 ∨ (clSideY p q b).2.1 * (clSideX p q b).2.2 < (clSideX p q b).2.1 * (clSideY p q b).2.2)
  (h0 : (b.y0 - p.y) * (clSideX p q b).2.2 ≠ (q.y - p.y) * (clSideX p q b).2.1) (h1 : (b.y1 - p.y) * (clSideX p q b).2.2 ≠ (q.y - p.y) * (clSideX p q b).2.1) : clSide p q b = (clSideX p q b).1 := by
 unfold clSide
 simp only
 rw [if_pos ⟨hX, hY⟩, if_neg (fun h => h.elim h0 h1)]
theorem cl_y {p q : Pt} {b : Bx} (hX : (clSideX p q b).1 = 0 ∨ ((clSideY p q b).1 ≠ 0 ∧ (clSideX p q b).2.1 * (clSideY p q b).2.2 < (clSideY p q b).2.1 * (clSideX p q b).2.2))
  (h0 : (b.x0 - p.x) * (clSideY p q b).2.2 ≠ (q.x - p.x) * (clSideY p q b).2.1) (h1 : (b.x1 - p.x) * (clSideY p q b).2.2 ≠ (q.x - p.x) * (clSideY p q b).2.1) : clSide p q b = (clSideY p q b).1 := by
 unfold clSide
 simp only
 rw [if_neg (fun h => by
  rcases hX with e | ⟨e, e2⟩
  · exact h.1 e
  ·
   rcases h.2 with h | h
   · exact e h
   · omega), if_neg (fun h => by
  rcases h with ⟨h, h2⟩ | h | h
  ·
   rcases hX with e | ⟨e, e2⟩
   · exact h e
   · omega
  · exact h0 h
  · exact h1 h)]
/-- what the x side is of a point beyond the west or the east side -/
theorem clx_out {p q : Pt} {b : Bx} (hx : b.x0 < b.x1) : (p.x < b.x0 → clSideX p q b = (1, b.x0 - p.x, q.x - p.x)) ∧ (b.x1 < p.x → clSideX p q b = (3, p.x - b.x1, p.x - q.x)) ∧ (b.x0 ≤ p.x → p.x ≤ b.x1 → clSideX p q b = (0, 0, 1)) := by
 unfold clSideX
 refine ⟨fun h => if_pos h, fun h => by rw [if_neg (by omega), if_pos h], fun h1 h2 => by rw [if_neg (by omega), if_neg (by omega)]⟩
theorem cly_out {p q : Pt} {b : Bx} (hy : b.y0 < b.y1) : (p.y < b.y0 → clSideY p q b = (2, b.y0 - p.y, q.y - p.y)) ∧ (b.y1 < p.y → clSideY p q b = (4, p.y - b.y1, p.y - q.y)) ∧ (b.y0 ≤ p.y → p.y ≤ b.y1 → clSideY p q b = (0, 0, 1)) := by
 unfold clSideY
 refine ⟨fun h => if_pos h, fun h => by rw [if_neg (by omega), if_pos h], fun h1 h2 => by rw [if_neg (by omega), if_neg (by omega)]⟩
/-- a segment that meets the line of the x side strictly within the side: the numbers N / D say where -/
theorem thr_x {p q : Pt} {b : Bx} (hx : b.x0 < b.x1) (hy : b.y0 < b.y1) {side N D : Int} (hX : clSideX p q b = (side, N, D)) (hs : side ≠ 0) (hD : 0 < D) (h0 : b.y0 * D < p.y * D + (q.y - p.y) * N) (h1 : p.y * D + (q.y - p.y) * N < b.y1 * D) : clSide p q b = side := by
 obtain ⟨y1, y2, y3⟩ := cly_out (p := p) (q := q) hy
 have eX : (clSideX p q b).1 = side ∧ (clSideX p q b).2.1 = N ∧ (clSideX p q b).2.2 = D := by rw [hX]; exact ⟨rfl, rfl, rfl⟩
 obtain ⟨e1, e2, e3⟩ := eX
 rw [← e1]
 have s0 : (b.y0 - p.y) * D = b.y0 * D - p.y * D := Int.sub_mul _ _ _
 have s1 : (b.y1 - p.y) * D = b.y1 * D - p.y * D := Int.sub_mul _ _ _
 refine cl_x (by rw [e1]; exact hs) ?_ (by rw [e2, e3]; omega) (by rw [e2, e3]; omega)
 rw [e2, e3]
 rcases Int.lt_or_le p.y b.y0 with h | h
 ·
  right
  rw [y1 h]
  simp only
  rw [Int.mul_comm N]
  omega
 ·
  rcases Int.lt_or_le b.y1 p.y with h' | h'
  ·
   right
   rw [y2 h']
   simp only
   have t1 : (p.y - b.y1) * D = -((b.y1 - p.y) * D) := by rw [← Int.neg_mul]; congr 1; omega
   have t2 : N * (p.y - q.y) = -((q.y - p.y) * N) := by rw [← Int.neg_mul, Int.mul_comm]; congr 1; omega
   omega
  · left; rw [y3 h h']
theorem thr_y {p q : Pt} {b : Bx} (hx : b.x0 < b.x1) (hy : b.y0 < b.y1) {side N D : Int} (hY : clSideY p q b = (side, N, D)) (hs : side ≠ 0) (hD : 0 < D) (h0 : b.x0 * D < p.x * D + (q.x - p.x) * N) (h1 : p.x * D + (q.x - p.x) * N < b.x1 * D) : clSide p q b = side := by
 obtain ⟨y1, y2, y3⟩ := clx_out (p := p) (q := q) hx
 have eX : (clSideY p q b).1 = side ∧ (clSideY p q b).2.1 = N ∧ (clSideY p q b).2.2 = D := by rw [hY]; exact ⟨rfl, rfl, rfl⟩
 obtain ⟨e1, e2, e3⟩ := eX
 rw [← e1]
 have s0 : (b.x0 - p.x) * D = b.x0 * D - p.x * D := Int.sub_mul _ _ _
 have s1 : (b.x1 - p.x) * D = b.x1 * D - p.x * D := Int.sub_mul _ _ _
 refine cl_y ?_ (by rw [e2, e3]; omega) (by rw [e2, e3]; omega)
 rw [e1, e2, e3]
 rcases Int.lt_or_le p.x b.x0 with h | h
 ·
  right
  rw [y1 h]
  simp only
  refine ⟨hs, ?_⟩
  rw [Int.mul_comm N]
  omega
 ·
  rcases Int.lt_or_le b.x1 p.x with h' | h'
  ·
   right
   rw [y2 h']
   simp only
   refine ⟨hs, ?_⟩
   have t1 : (p.x - b.x1) * D = -((b.x1 - p.x) * D) := by rw [← Int.neg_mul]; congr 1; omega
   have t2 : N * (p.x - q.x) = -((q.x - p.x) * N) := by rw [← Int.neg_mul, Int.mul_comm]; congr 1; omega
   omega
  · left; rw [y3 h h']
theorem out_notin {b : Bx} {side : Int} {g : Ed} (hg : edOf b side = some g) {p : Pt} (hp : outE g p = true) : inB b p = false := by
 cases h : inB b p
 · rfl
 · rw [in_notout hg h] at hp; cases hp
/-- a strict rounded value comes from a strict one -/
theorem round_strict {s w N D lo hi : Int} (hD : 0 < D) (h0 : lo < s + roundS (w * N) D) (h1 : s + roundS (w * N) D < hi) : lo * D < s * D + w * N ∧ s * D + w * N < hi * D := by
 constructor
 ·
  rcases Int.lt_or_le (lo * D) (s * D + w * N) with h | h
  · exact h
  ·
   have := round_hi_pos (a := w * N) (b := D) (k := lo - s) hD (by rw [Int.sub_mul]; omega)
   omega
 ·
  rcases Int.lt_or_le (s * D + w * N) (hi * D) with h | h
  · exact h
  ·
   have := round_lo_pos (a := w * N) (b := D) (k := hi - s) hD (by rw [Int.sub_mul]; omega)
   omega
/-- the same with both numbers turned -/
theorem round_flip {w v s t : Int} (h : t - s ≠ 0) : roundS (w * (v - s)) (t - s) = roundS (w * (s - v)) (s - t) := by
 rw [← round_neg h]
 congr 1
 · rw [← Int.mul_neg]; congr 1; omega
 · omega
/-- G2 and G6: a segment from beyond an edge that meets it strictly within comes in there -/
theorem thr_meet {p q : Pt} {b : Bx} (hx : b.x0 < b.x1) (hy : b.y0 < b.y1) {side : Int} {g : Ed} (hg : edOf b side = some g) (hp : outE g p = true) (hq : outE g q = false) (hm : rngE g (meetP g p q)) : throughS p q b = side ∧ ∃ n d, Par n d ∧ InQ p q b n d := by
 have hpi := out_notin hg hp
 have hnq : ¬ outE g q = true := by rw [hq]; simp
 rw [out_iff hg] at hp hnq
 obtain ⟨x1, x2, -⟩ := clx_out (p := p) (q := q) hx
 obtain ⟨y1, y2, -⟩ := cly_out (p := p) (q := q) hy
 obtain ⟨-, hgs⟩ := ed_cases hg
 rcases hp with ⟨rfl, h⟩ | ⟨rfl, h⟩ | ⟨rfl, h⟩ | ⟨rfl, h⟩
 ·
  have hg' : g = ⟨1, true, b.x0, b.y0, b.y1⟩ := by rcases hgs with ⟨e, h⟩ | ⟨e, -⟩ | ⟨e, -⟩ | ⟨e, -⟩ <;> first | exact h | (exact absurd e (by decide))
  subst hg'
  have hqx : b.x0 ≤ q.x := by omega
  obtain ⟨m1, m2⟩ : b.y0 < p.y + roundS ((q.y - p.y) * (b.x0 - p.x)) (q.x - p.x) ∧ p.y + roundS ((q.y - p.y) * (b.x0 - p.x)) (q.x - p.x) < b.y1 := hm
  have hD : 0 < q.x - p.x := by omega
  obtain ⟨k1, k2⟩ := round_strict hD m1 m2
  have hP : Par (b.x0 - p.x) (q.x - p.x) := ⟨hD, by omega, by omega⟩
  have e : p.x * (q.x - p.x) + (q.x - p.x) * (b.x0 - p.x) = b.x0 * (q.x - p.x) := by rw [Int.mul_comm (q.x - p.x) (b.x0 - p.x), ← Int.add_mul]; congr 1; omega
  have hI : InQ p q b (b.x0 - p.x) (q.x - p.x) := ⟨⟨by omega, by rw [e]; exact Int.mul_le_mul_of_nonneg_right (by omega) (by omega)⟩, by omega, by omega⟩
  exact ⟨by rw [through_eq hx hy hpi hP hI]; exact thr_x hx hy (x1 h) (by decide) hD k1 k2, _, _, hP, hI⟩
 ·
  have hg' : g = ⟨2, false, b.y0, b.x0, b.x1⟩ := by rcases hgs with ⟨e, -⟩ | ⟨e, h⟩ | ⟨e, -⟩ | ⟨e, -⟩ <;> first | exact h | (exact absurd e (by decide))
  subst hg'
  have hqx : b.y0 ≤ q.y := by omega
  obtain ⟨m1, m2⟩ : b.x0 < p.x + roundS ((q.x - p.x) * (b.y0 - p.y)) (q.y - p.y) ∧ p.x + roundS ((q.x - p.x) * (b.y0 - p.y)) (q.y - p.y) < b.x1 := hm
  have hD : 0 < q.y - p.y := by omega
  obtain ⟨k1, k2⟩ := round_strict hD m1 m2
  have hP : Par (b.y0 - p.y) (q.y - p.y) := ⟨hD, by omega, by omega⟩
  have e : p.y * (q.y - p.y) + (q.y - p.y) * (b.y0 - p.y) = b.y0 * (q.y - p.y) := by rw [Int.mul_comm (q.y - p.y) (b.y0 - p.y), ← Int.add_mul]; congr 1; omega
  have hI : InQ p q b (b.y0 - p.y) (q.y - p.y) := ⟨⟨by omega, by omega⟩, by omega, by rw [e]; exact Int.mul_le_mul_of_nonneg_right (by omega) (by omega)⟩
  exact ⟨by rw [through_eq hx hy hpi hP hI]; exact thr_y hx hy (y1 h) (by decide) hD k1 k2, _, _, hP, hI⟩
 ·
  have hg' : g = ⟨3, true, b.x1, b.y0, b.y1⟩ := by rcases hgs with ⟨e, -⟩ | ⟨e, -⟩ | ⟨e, h⟩ | ⟨e, -⟩ <;> first | exact h | (exact absurd e (by decide))
  subst hg'
  have hqx : q.x ≤ b.x1 := by omega
  have hm' : b.y0 < p.y + roundS ((q.y - p.y) * (b.x1 - p.x)) (q.x - p.x) ∧ p.y + roundS ((q.y - p.y) * (b.x1 - p.x)) (q.x - p.x) < b.y1 := hm
  rw [round_flip (by omega)] at hm'
  obtain ⟨m1, m2⟩ := hm'
  have hD : 0 < p.x - q.x := by omega
  obtain ⟨k1, k2⟩ := round_strict hD m1 m2
  have hP : Par (p.x - b.x1) (p.x - q.x) := ⟨hD, by omega, by omega⟩
  have e : p.x * (p.x - q.x) + (q.x - p.x) * (p.x - b.x1) = b.x1 * (p.x - q.x) := by
   have t : (q.x - p.x) * (p.x - b.x1) = (b.x1 - p.x) * (p.x - q.x) := by rw [Int.mul_comm, show p.x - b.x1 = -(b.x1 - p.x) by omega, show q.x - p.x = -(p.x - q.x) by omega, Int.neg_mul_neg]
   rw [t, ← Int.add_mul]; congr 1; omega
  have hI : InQ p q b (p.x - b.x1) (p.x - q.x) := ⟨⟨by rw [e]; exact Int.mul_le_mul_of_nonneg_right (by omega) (by omega), by omega⟩, by omega, by omega⟩
  exact ⟨by rw [through_eq hx hy hpi hP hI]; exact thr_x hx hy (x2 h) (by decide) hD k1 k2, _, _, hP, hI⟩
 ·
  have hg' : g = ⟨4, false, b.y1, b.x0, b.x1⟩ := by rcases hgs with ⟨e, -⟩ | ⟨e, -⟩ | ⟨e, -⟩ | ⟨e, h⟩ <;> first | exact h | (exact absurd e (by decide))
  subst hg'
  have hqx : q.y ≤ b.y1 := by omega
  have hm' : b.x0 < p.x + roundS ((q.x - p.x) * (b.y1 - p.y)) (q.y - p.y) ∧ p.x + roundS ((q.x - p.x) * (b.y1 - p.y)) (q.y - p.y) < b.x1 := hm
  rw [round_flip (by omega)] at hm'
  obtain ⟨m1, m2⟩ := hm'
  have hD : 0 < p.y - q.y := by omega
  obtain ⟨k1, k2⟩ := round_strict hD m1 m2
  have hP : Par (p.y - b.y1) (p.y - q.y) := ⟨hD, by omega, by omega⟩
  have e : p.y * (p.y - q.y) + (q.y - p.y) * (p.y - b.y1) = b.y1 * (p.y - q.y) := by
   have t : (q.y - p.y) * (p.y - b.y1) = (b.y1 - p.y) * (p.y - q.y) := by rw [Int.mul_comm, show p.y - b.y1 = -(b.y1 - p.y) by omega, show q.y - p.y = -(p.y - q.y) by omega, Int.neg_mul_neg]
   rw [t, ← Int.add_mul]; congr 1; omega
  have hI : InQ p q b (p.y - b.y1) (p.y - q.y) := ⟨⟨by omega, by omega⟩, by rw [e]; exact Int.mul_le_mul_of_nonneg_right (by omega) (by omega), by omega⟩
  exact ⟨by rw [through_eq hx hy hpi hP hI]; exact thr_y hx hy (y2 h) (by decide) hD k1 k2, _, _, hP, hI⟩
/-- the meeting point with a point on the line is this point -/
theorem meet_on {b : Bx} {side : Int} {g : Ed} (hg : edOf b side = some g) {p q : Pt} (hp : outE g p = true) (hq : onE g q = true) : meetP g p q = q := by
 rw [out_iff hg] at hp
 rw [on_iffE hg] at hq
 obtain ⟨-, ⟨rfl, rfl⟩ | ⟨rfl, rfl⟩ | ⟨rfl, rfl⟩ | ⟨rfl, rfl⟩⟩ := ed_cases hg
 ·
  have e : q.x = b.x0 := by omega
  show (⟨b.x0, atxS p q b.x0⟩ : Pt) = q
  rw [← e]
  unfold atxS
  rw [round_exact (by omega)]
  exact Pt.ext_iff'.2 ⟨rfl, by simp only; omega⟩
 ·
  have e : q.y = b.y0 := by omega
  show (⟨atxS (turnP p) (turnP q) b.y0, b.y0⟩ : Pt) = q
  rw [← e]
  unfold atxS turnP
  simp only
  rw [round_exact (by omega)]
  exact Pt.ext_iff'.2 ⟨by simp only; omega, rfl⟩
 ·
  have e : q.x = b.x1 := by omega
  show (⟨b.x1, atxS p q b.x1⟩ : Pt) = q
  rw [← e]
  unfold atxS
  rw [round_exact (by omega)]
  exact Pt.ext_iff'.2 ⟨rfl, by simp only; omega⟩
 ·
  have e : q.y = b.y1 := by omega
  show (⟨atxS (turnP p) (turnP q) b.y1, b.y1⟩ : Pt) = q
  rw [← e]
  unfold atxS turnP
  simp only
  rw [round_exact (by omega)]
  exact Pt.ext_iff'.2 ⟨by simp only; omega, rfl⟩
end Go.Proofs.YtfdbidagdjnipaaGreatDoor
namespace Go.Proofs.YtfdbidagdjnipaaGreatDoor

/-- a hit moves between equal parameters -/
theorem hit_val {W V n d N D : Int} (hD : 0 < D) (hv : n * D = N * d) (h : W * N = V * D) : W * n = V * d := by
 have e : W * n * D = V * d * D := by
  rw [Int.mul_assoc, hv, ← Int.mul_assoc, h, Int.mul_right_comm]
 exact Int.eq_of_mul_eq_mul_right (by omega) e
theorem thr_exact {p q : Pt} {b : Bx} (hx : b.x0 < b.x1) (hy : b.y0 < b.y1) (hin : inB b p = false) {c e : Pt} {n1 d1 n2 d2 : Int} (k : ClipSome p q b c e n1 d1 n2 d2) :
  (throughS p q b = 1 ∧ (q.x - p.x) * n1 = (b.x0 - p.x) * d1) ∨ (throughS p q b = 3 ∧ (q.x - p.x) * n1 = (b.x1 - p.x) * d1) ∨
  (throughS p q b = 2 ∧ (q.y - p.y) * n1 = (b.y0 - p.y) * d1) ∨ (throughS p q b = 4 ∧ (q.y - p.y) * n1 = (b.y1 - p.y) * d1) ∨
  (throughS p q b = 0 ∧ ∃ Ex Ey, (Ex = b.x0 ∨ Ex = b.x1) ∧ (Ey = b.y0 ∨ Ey = b.y1) ∧ (q.x - p.x) * n1 = (Ex - p.x) * d1 ∧ (q.y - p.y) * n1 = (Ey - p.y) * d1) := by
 rw [through_eq hx hy hin k.lo k.inLo]
 obtain ⟨hX, hY⟩ := sdx_of k.lo k.inLo
 have px := hX.pos; have py := hY.pos
 have bx := sd_btw hX (Int.le_of_lt hx); have bY := sd_btw hY (Int.le_of_lt hy)
 have lx := sd_le hX k.lo k.inLo.1; have ly := sd_le hY k.lo k.inLo.2
 have hitX : (clSideX p q b).1 ≠ 0 → ((clSideX p q b).1 = 1 ∧ (q.x - p.x) * (clSideX p q b).2.1 = (b.x0 - p.x) * (clSideX p q b).2.2) ∨ ((clSideX p q b).1 = 3 ∧ (q.x - p.x) * (clSideX p q b).2.1 = (b.x1 - p.x) * (clSideX p q b).2.2) := by
  intro h0
  rcases hX.cases with ⟨h1, -⟩ | ⟨h1, h2, h3, h4, h5⟩ | ⟨h1, h2, h3, h4, h5⟩
  · rw [h1] at h0; exact absurd rfl h0
  · exact .inl ⟨h1, by rw [h3, h4, Int.mul_comm]⟩
  · exact .inr ⟨h1, by rw [h3, h4, show q.x - p.x = -(p.x - q.x) by omega, show b.x1 - p.x = -(p.x - b.x1) by omega, Int.neg_mul, Int.neg_mul, Int.mul_comm]⟩
 have hitY : (clSideY p q b).1 ≠ 0 → ((clSideY p q b).1 = 2 ∧ (q.y - p.y) * (clSideY p q b).2.1 = (b.y0 - p.y) * (clSideY p q b).2.2) ∨ ((clSideY p q b).1 = 4 ∧ (q.y - p.y) * (clSideY p q b).2.1 = (b.y1 - p.y) * (clSideY p q b).2.2) := by
  intro h0
  rcases hY.cases with ⟨h1, -⟩ | ⟨h1, h2, h3, h4, h5⟩ | ⟨h1, h2, h3, h4, h5⟩
  · rw [h1] at h0; exact absurd rfl h0
  · exact .inl ⟨h1, by rw [h3, h4, Int.mul_comm]⟩
  · exact .inr ⟨h1, by rw [h3, h4, show q.y - p.y = -(p.y - q.y) by omega, show b.y1 - p.y = -(p.y - b.y1) by omega, Int.neg_mul, Int.neg_mul, Int.mul_comm]⟩
 unfold clSide
 simp only
 by_cases hc : (clSideX p q b).1 ≠ 0 ∧ ((clSideY p q b).1 = 0 ∨ (clSideY p q b).2.1 * (clSideX p q b).2.2 < (clSideX p q b).2.1 * (clSideY p q b).2.2)
 ·
  rw [if_pos hc]
  have hle : leQ (clSideY p q b).2.1 (clSideY p q b).2.2 (clSideX p q b).2.1 (clSideX p q b).2.2 := by
   unfold leQ
   rcases hc.2 with h0 | h0
   ·
    rcases hY.cases with ⟨h1, -⟩ | ⟨h1, -⟩ | ⟨h1, -⟩
    · rw [h1]; simp only [Int.zero_mul, Int.mul_one]; exact px.2
    · omega
    · omega
   · omega
  have hby := btw_conv py.1 px.1 k.lo.1 bY k.inLo.2 hle lx
  have h2 := ((k.all _ _ (entry_par k.lo px.1 px.2 lx)).1 ⟨bx, hby⟩).1
  have hv : n1 * (clSideX p q b).2.2 = (clSideX p q b).2.1 * d1 := by unfold leQ at lx h2; omega
  have hh := hitX hc.1
  generalize clSideX p q b = X at *
  by_cases h0 : (b.y0 - p.y) * X.2.2 = (q.y - p.y) * X.2.1 ∨ (b.y1 - p.y) * X.2.2 = (q.y - p.y) * X.2.1
  ·
   rw [if_pos h0]
   right; right; right; right
   refine ⟨rfl, ?_⟩
   rcases hh with ⟨-, hh⟩ | ⟨-, hh⟩ <;> rcases h0 with h0 | h0
   · exact ⟨_, _, .inl rfl, .inl rfl, hit_val px.1 hv hh, hit_val px.1 hv h0.symm⟩
   · exact ⟨_, _, .inl rfl, .inr rfl, hit_val px.1 hv hh, hit_val px.1 hv h0.symm⟩
   · exact ⟨_, _, .inr rfl, .inl rfl, hit_val px.1 hv hh, hit_val px.1 hv h0.symm⟩
   · exact ⟨_, _, .inr rfl, .inr rfl, hit_val px.1 hv hh, hit_val px.1 hv h0.symm⟩
  ·
   rw [if_neg h0]
   rcases hh with ⟨e, hh⟩ | ⟨e, hh⟩
   · left; exact ⟨e, hit_val px.1 hv hh⟩
   · right; left; exact ⟨e, hit_val px.1 hv hh⟩
 ·
  rw [if_neg hc]
  have hy0 : (clSideY p q b).1 ≠ 0 := by
   intro e
   have hx0 : (clSideX p q b).1 = 0 := Classical.byContradiction fun h => hc ⟨h, .inl e⟩
   rcases hX.cases with ⟨-, h2, h3⟩ | ⟨h1, -⟩ | ⟨h1, -⟩
   ·
    rcases hY.cases with ⟨-, h4, h5⟩ | ⟨h1, -⟩ | ⟨h1, -⟩
    ·
     have : inB b p = true := inB_iff.2 ⟨h2, h3, h4, h5⟩
     rw [this] at hin; cases hin
    · omega
    · omega
   · omega
   · omega
  have hle : leQ (clSideX p q b).2.1 (clSideX p q b).2.2 (clSideY p q b).2.1 (clSideY p q b).2.2 := by
   unfold leQ
   rcases hX.cases with ⟨h1, -⟩ | ⟨h1, -⟩ | ⟨h1, -⟩
   · rw [h1]; simp only [Int.zero_mul, Int.mul_one]; exact py.2
   ·
    have : ¬ ((clSideY p q b).2.1 * (clSideX p q b).2.2 < (clSideX p q b).2.1 * (clSideY p q b).2.2) := fun h => hc ⟨by omega, .inr h⟩
    omega
   ·
    have : ¬ ((clSideY p q b).2.1 * (clSideX p q b).2.2 < (clSideX p q b).2.1 * (clSideY p q b).2.2) := fun h => hc ⟨by omega, .inr h⟩
    omega
  have hbx := btw_conv px.1 py.1 k.lo.1 bx k.inLo.1 hle ly
  have h2 := ((k.all _ _ (entry_par k.lo py.1 py.2 ly)).1 ⟨hbx, bY⟩).1
  have hv : n1 * (clSideY p q b).2.2 = (clSideY p q b).2.1 * d1 := by unfold leQ at ly h2; omega
  have hh := hitY hy0
  by_cases h0 : (clSideX p q b).1 ≠ 0 ∧ (clSideX p q b).2.1 * (clSideY p q b).2.2 = (clSideY p q b).2.1 * (clSideX p q b).2.2 ∨ (b.x0 - p.x) * (clSideY p q b).2.2 = (q.x - p.x) * (clSideY p q b).2.1 ∨ (b.x1 - p.x) * (clSideY p q b).2.2 = (q.x - p.x) * (clSideY p q b).2.1
  ·
   rw [if_pos h0]
   right; right; right; right
   refine ⟨rfl, ?_⟩
   have hxe : ∃ Ex, (Ex = b.x0 ∨ Ex = b.x1) ∧ (q.x - p.x) * n1 = (Ex - p.x) * d1 := by
    rcases h0 with ⟨h0, h3⟩ | h0 | h0
    ·
     have hv2 : n1 * (clSideX p q b).2.2 = (clSideX p q b).2.1 * d1 := by
      have e : n1 * (clSideX p q b).2.2 * (clSideY p q b).2.2 = (clSideX p q b).2.1 * d1 * (clSideY p q b).2.2 := by
       rw [Int.mul_right_comm, hv, Int.mul_right_comm, ← h3, Int.mul_right_comm]
      exact Int.eq_of_mul_eq_mul_right (by omega) e
     rcases hitX h0 with ⟨-, h4⟩ | ⟨-, h4⟩
     · exact ⟨_, .inl rfl, hit_val px.1 hv2 h4⟩
     · exact ⟨_, .inr rfl, hit_val px.1 hv2 h4⟩
    · exact ⟨_, .inl rfl, hit_val py.1 hv h0.symm⟩
    · exact ⟨_, .inr rfl, hit_val py.1 hv h0.symm⟩
   obtain ⟨Ex, he, hxe⟩ := hxe
   rcases hh with ⟨-, hh⟩ | ⟨-, hh⟩
   · exact ⟨Ex, _, he, .inl rfl, hxe, hit_val py.1 hv hh⟩
   · exact ⟨Ex, _, he, .inr rfl, hxe, hit_val py.1 hv hh⟩
  ·
   rw [if_neg h0]
   rcases hh with ⟨e, hh⟩ | ⟨e, hh⟩
   · right; right; left; exact ⟨e, hit_val py.1 hv hh⟩
   · right; right; right; left; exact ⟨e, hit_val py.1 hv hh⟩
/-- G5: where it comes in through an edge it is the meeting point -/
theorem thr_point {p q : Pt} {b : Bx} (hx : b.x0 < b.x1) (hy : b.y0 < b.y1) {side : Int} {g : Ed} (hg : edOf b side = some g) {c d : Pt} (hc : clipS p q b = some (c, d)) (h : throughS p q b = side) : c = meetP g p q := by
 have hp := thr_out hx hy hg hc h
 have hpi := out_notin hg hp
 obtain ⟨n1, d1, n2, d2, k⟩ := clip_some hc
 have hex := thr_exact hx hy hpi k
 have hnz : ∀ {u v w : Int}, u ≠ v → (w - u) * n1 = (v - u) * d1 → w - u ≠ 0 := by
  intro u v w hne he h0
  rw [h0, Int.zero_mul] at he
  rcases Int.mul_eq_zero.1 he.symm with e | e
  · omega
  · have := k.lo.1; omega
 rw [out_iff hg] at hp
 obtain ⟨-, ⟨rfl, rfl⟩ | ⟨rfl, rfl⟩ | ⟨rfl, rfl⟩ | ⟨rfl, rfl⟩⟩ := ed_cases hg
 ·
  have he : (q.x - p.x) * n1 = (b.x0 - p.x) * d1 := by rcases hex with ⟨-, h⟩ | ⟨e, -⟩ | ⟨e, -⟩ | ⟨e, -⟩ | ⟨e, -⟩ <;> first | exact h | omega
  rw [k.pc]
  exact (good_pt (p := ⟨n1, d1, atX p q b.x0⟩) k.lo.1 (.inr (.inr (.inl ⟨b.x0, .inl rfl, hnz (by omega) he, he, rfl⟩)))).symm
 ·
  have he : (q.y - p.y) * n1 = (b.y0 - p.y) * d1 := by rcases hex with ⟨e, -⟩ | ⟨e, -⟩ | ⟨-, h⟩ | ⟨e, -⟩ | ⟨e, -⟩ <;> first | exact h | omega
  rw [k.pc]
  exact (good_pt (p := ⟨n1, d1, atY p q b.y0⟩) k.lo.1 (.inr (.inr (.inr ⟨b.y0, .inl rfl, hnz (by omega) he, he, rfl⟩)))).symm
 ·
  have he : (q.x - p.x) * n1 = (b.x1 - p.x) * d1 := by rcases hex with ⟨e, -⟩ | ⟨-, h⟩ | ⟨e, -⟩ | ⟨e, -⟩ | ⟨e, -⟩ <;> first | exact h | omega
  rw [k.pc]
  exact (good_pt (p := ⟨n1, d1, atX p q b.x1⟩) k.lo.1 (.inr (.inr (.inl ⟨b.x1, .inr rfl, hnz (by omega) he, he, rfl⟩)))).symm
 ·
  have he : (q.y - p.y) * n1 = (b.y1 - p.y) * d1 := by rcases hex with ⟨e, -⟩ | ⟨e, -⟩ | ⟨e, -⟩ | ⟨-, h⟩ | ⟨e, -⟩ <;> first | exact h | omega
  rw [k.pc]
  exact (good_pt (p := ⟨n1, d1, atY p q b.y1⟩) k.lo.1 (.inr (.inr (.inr ⟨b.y1, .inr rfl, hnz (by omega) he, he, rfl⟩)))).symm
/-- G2 -/
theorem thr_to {p q : Pt} {b : Bx} (hx : b.x0 < b.x1) (hy : b.y0 < b.y1) {side : Int} {g : Ed} (hg : edOf b side = some g) (hp : outE g p = true) (hq : onE g q = true) (hr : rngE g q) : throughS p q b = side := by
 refine (thr_meet hx hy hg hp ?_ (by rw [meet_on hg hp hq]; exact hr)).1
 unfold outE
 rw [hq]; rfl
/-- G3: to a point of the edge, from beyond it or along its line -/
theorem thr_line {e k : Pt} {b : Bx} (hx : b.x0 < b.x1) (hy : b.y0 < b.y1) {side : Int} {g : Ed} (hg : edOf b side = some g) (hk : inB b k = true) (hon : onE g k = true) (he : onE g e = true ∨ outE g e = true) : throughS e k b = 0 ∨ throughS e k b = side := by
 cases hin : inB b e
 case true => left; unfold throughS; rw [if_pos hin]
 have hP : Par 1 1 := ⟨by decide, by decide, by decide⟩
 have hI : InQ e k b 1 1 := in_box_Q1 hk
 rw [through_eq hx hy hin hP hI]
 obtain ⟨hX, hY⟩ := sdx_of hP hI
 rw [inB_iff] at hk
 rw [on_iffE hg] at hon
 have hcx := hX.cases; have hcy := hY.cases
 have hex : (clSideX e k b).2.1 ≤ (clSideX e k b).2.2 := by rcases hcx with ⟨h1, -⟩ | ⟨-, h2, h3, h4, -⟩ | ⟨-, h2, h3, h4, -⟩ <;> first | (rw [h1]; decide) | omega
 have hey : (clSideY e k b).2.1 ≤ (clSideY e k b).2.2 := by rcases hcy with ⟨h1, -⟩ | ⟨-, h2, h3, h4, -⟩ | ⟨-, h2, h3, h4, -⟩ <;> first | (rw [h1]; decide) | omega
 have px := hX.pos; have py := hY.pos
 have h14 : (side = 1 ∨ side = 3) ∨ (side = 2 ∨ side = 4) := by omega
 unfold clSide
 simp only
 rcases he with he | he
 ·
  rw [on_iffE hg] at he
  rcases h14 with h14 | h14
  ·
   have hx0 : (clSideX e k b).1 = 0 := by rcases hcx with ⟨h1, -⟩ | ⟨-, h2, -⟩ | ⟨-, h2, -⟩ <;> first | (rw [h1]) | omega
   rw [if_neg (fun h => h.1 hx0)]
   left
   rw [if_pos]
   right
   rcases h14 with e1 | e1
   · left; rw [show b.x0 - e.x = 0 by omega, show k.x - e.x = 0 by omega, Int.zero_mul, Int.zero_mul]
   · right; rw [show b.x1 - e.x = 0 by omega, show k.x - e.x = 0 by omega, Int.zero_mul, Int.zero_mul]
  ·
   have hy0 : (clSideY e k b).1 = 0 := by rcases hcy with ⟨h1, -⟩ | ⟨-, h2, -⟩ | ⟨-, h2, -⟩ <;> first | (rw [h1]) | omega
   left
   split
   ·
    rw [if_pos]
    rcases h14 with e1 | e1
    · left; rw [show b.y0 - e.y = 0 by omega, show k.y - e.y = 0 by omega, Int.zero_mul, Int.zero_mul]
    · right; rw [show b.y1 - e.y = 0 by omega, show k.y - e.y = 0 by omega, Int.zero_mul, Int.zero_mul]
   ·
    split
    · rfl
    · exact hy0
 ·
  rw [out_iff hg] at he
  rcases h14 with h14 | h14
  ·
   obtain ⟨K, hK, k1, k2, k3⟩ : ∃ K, 0 < K ∧ (clSideX e k b).1 = side ∧ (clSideX e k b).2.1 = K ∧ (clSideX e k b).2.2 = K := by
    rcases hcx with ⟨-, h2, h3⟩ | ⟨h1, h2, h3, h4, h5⟩ | ⟨h1, h2, h3, h4, h5⟩
    · omega
    · exact ⟨_, h5, by omega, by omega, rfl⟩
    · exact ⟨_, h5, by omega, by omega, rfl⟩
   by_cases hc : (clSideX e k b).1 ≠ 0 ∧ ((clSideY e k b).1 = 0 ∨ (clSideY e k b).2.1 * (clSideX e k b).2.2 < (clSideX e k b).2.1 * (clSideY e k b).2.2)
   ·
    rw [if_pos hc]
    split
    · exact .inl rfl
    · exact .inr k1
   ·
    rw [if_neg hc]
    left
    rw [if_pos]
    left
    have hn : ¬ (clSideY e k b).2.1 < (clSideY e k b).2.2 := fun h => hc ⟨by omega, .inr (by rw [k2, k3, Int.mul_comm K]; exact Int.mul_lt_mul_of_pos_right h hK)⟩
    have heq : (clSideY e k b).2.1 = (clSideY e k b).2.2 := by omega
    exact ⟨by omega, by rw [k2, k3, heq, Int.mul_comm]⟩
  ·
   obtain ⟨K, hK, k1, k2, k3⟩ : ∃ K, 0 < K ∧ (clSideY e k b).1 = side ∧ (clSideY e k b).2.1 = K ∧ (clSideY e k b).2.2 = K := by
    rcases hcy with ⟨-, h2, h3⟩ | ⟨h1, h2, h3, h4, h5⟩ | ⟨h1, h2, h3, h4, h5⟩
    · omega
    · exact ⟨_, h5, by omega, by omega, rfl⟩
    · exact ⟨_, h5, by omega, by omega, rfl⟩
   rw [if_neg]
   ·
    split
    · exact .inl rfl
    · exact .inr k1
   ·
    intro h
    rcases h.2 with h2 | h2
    · omega
    ·
     rw [k2, k3, Int.mul_comm K] at h2
     have := Int.lt_of_mul_lt_mul_right h2 (Int.le_of_lt hK)
     omega
/-- G7: number 0 from without: a corner, met exactly -/
theorem thr_corner {p q : Pt} {b : Bx} (hx : b.x0 < b.x1) (hy : b.y0 < b.y1) (hin : inB b p = false) {c d : Pt} (hc : clipS p q b = some (c, d)) (h : throughS p q b = 0) :
  ∃ n1 d1 n2 d2, ClipSome p q b c d n1 d1 n2 d2 ∧ (c.x = b.x0 ∨ c.x = b.x1) ∧ (c.y = b.y0 ∨ c.y = b.y1) ∧ (q.x - p.x) * n1 = (c.x - p.x) * d1 ∧ (q.y - p.y) * n1 = (c.y - p.y) * d1 := by
 obtain ⟨n1, d1, n2, d2, k⟩ := clip_some hc
 rcases thr_exact hx hy hin k with ⟨e, -⟩ | ⟨e, -⟩ | ⟨e, -⟩ | ⟨e, -⟩ | ⟨-, Ex, Ey, h1, h2, h3, h4⟩
 · omega
 · omega
 · omega
 · omega
 ·
  have e1 := entry_x k h1 (Int.le_of_lt hx) k.lo.1 k.lo.2.1 h3 (Int.le_refl _) k.inLo.2
  have e2 := entry_y k h2 (Int.le_of_lt hy) k.lo.1 k.lo.2.1 h4 (Int.le_refl _) k.inLo.1
  exact ⟨n1, d1, n2, d2, k, by rw [e1]; exact h1, by rw [e2]; exact h2, by rw [e1]; exact h3, by rw [e2]; exact h4⟩
end Go.Proofs.YtfdbidagdjnipaaGreatDoor
namespace Go.Proofs.YtfdbidagdjnipaaGreatDoor

/-- the crossing of a run, if it is open -/
def crO (g : Ed) (ns : List Nd) (id : Int) (o : Int) (run : List Pt) : List Cr := if openS g ns run = true then [⟨alongS g (lastP run), id, o⟩] else []
/-- the run between two points off the line -/
def runO (g : Ed) (m : Pt) (R : List Pt) (q : Pt) : List Pt := if R = [] then [meetP g m q] else R
/-- from a state on: the last point off the line and the points on it since -/
def expR (g : Ed) (ns : List Nd) (id : Int) : Option (Pt × List Pt) → List Pt → List Cr
 | _, [] => []
 | none, q :: l => if onE g q = true then expR g ns id none l else expR g ns id (some (q, [])) l
 | some (m, R), q :: l => if onE g q = true then expR g ns id (some (m, R ++ [q])) l
  else (if innerS g m ≠ innerS g q then crO g ns id (if innerS g m then 1 else 0) (runO g m R q) else []) ++ expR g ns id (some (q, [])) l
/-- the state as the other form has it -/
def stE (path : List Pt) (m : Int) (k : Nat) : Option (Pt × List Pt) := if 0 ≤ m then some (path.getD m.toNat pt0, (path.drop (m.toNat + 1)).take (k - (m.toNat + 1))) else none
theorem exp_rec (g : Ed) (ns : List Nd) (id : Int) (path : List Pt) : ∀ j k, k + j = path.length → (expAt g ns id path path.length).2 = (expAt g ns id path k).2 ++ expR g ns id (stE path (expAt g ns id path k).1 k) (path.drop k)
 | 0, k, h => by
  have : k = path.length := by omega
  subst this
  rw [List.drop_length]
  cases stE path (expAt g ns id path path.length).1 path.length <;> simp [expR]
 | j + 1, k, h => by
  have hk : k < path.length := by omega
  rw [exp_rec g ns id path j (k + 1) (by omega)]
  obtain ⟨b1, b2, b3, -⟩ := expAt_bd g ns id path k
  have hd : path.drop k = path.getD k pt0 :: path.drop (k + 1) := by
   rw [List.drop_eq_getElem_cons hk, List.getD_eq_getElem?_getD, List.getElem?_eq_getElem hk]; rfl
  rw [hd]
  obtain ⟨m, L, he⟩ : ∃ m L, expAt g ns id path k = (m, L) := ⟨_, _, rfl⟩
  rw [he] at b1 b2 b3 ⊢
  simp only at b1 b2 b3 ⊢
  cases ho : onE g (path.getD k pt0)
  ·
   by_cases hm : 0 ≤ m
   ·
    obtain ⟨mm, rfl⟩ : ∃ mm : Nat, m = mm := ⟨m.toNat, by omega⟩
    have hst : stE path (mm : Int) k = some (path.getD mm pt0, (path.drop (mm + 1)).take (k - (mm + 1))) := by unfold stE; rw [if_pos hm]; rfl
    have hs2 : stE path (k : Int) (k + 1) = some (path.getD k pt0, []) := by
     unfold stE; rw [if_pos (by omega)]; simp
    rw [hst]
    by_cases hi : innerS g (path.getD mm pt0) = innerS g (path.getD k pt0)
    ·
     rw [expAt_same ho he hi]
     simp only
     rw [hs2]
     congr 1
     rw [expR, if_neg (by rw [ho]; simp), if_neg (fun h => h hi), List.nil_append]
    ·
     rw [expAt_cross ho he hi]
     simp only
     rw [hs2]
     have hr : expR g ns id (some (path.getD mm pt0, (path.drop (mm + 1)).take (k - (mm + 1)))) (path.getD k pt0 :: path.drop (k + 1)) = expCr g ns id path mm k ++ expR g ns id (some (path.getD k pt0, [])) (path.drop (k + 1)) := by
      rw [expR, if_neg (by rw [ho]; simp), if_pos hi]
      congr 1
      unfold expCr crO runO runS
      have hrun : (if (path.drop (mm + 1)).take (k - (mm + 1)) = [] then [meetP g (path.getD mm pt0) (path.getD k pt0)] else (path.drop (mm + 1)).take (k - (mm + 1))) = (if k = mm + 1 then [meetP g (path.getD mm pt0) (path.getD k pt0)] else (path.drop (mm + 1)).take (k - (mm + 1))) := by
       by_cases e : k = mm + 1
       · rw [if_pos e, if_pos (by rw [e]; simp)]
       · rw [if_neg e, if_neg (fun h => by
         have := congrArg List.length h
         rw [List.length_take, List.length_drop, List.length_nil] at this
         omega)]
      rw [hrun]
     rw [hr, List.append_assoc]
   ·
    have hm' : m = -1 := by omega
    subst hm'
    rw [expAt_no ho he]
    simp only
    have hs2 : stE path (k : Int) (k + 1) = some (path.getD k pt0, []) := by
     unfold stE; rw [if_pos (by omega)]; simp
    have hst : stE path (-1) k = none := by unfold stE; rw [if_neg (by omega)]
    rw [hs2, hst]
    congr 1
    rw [expR, if_neg (by rw [ho]; simp)]
  ·
   rw [expAt_on ho, he]
   simp only
   congr 1
   by_cases hm : 0 ≤ m
   ·
    obtain ⟨mm, rfl⟩ : ∃ mm : Nat, m = mm := ⟨m.toNat, by omega⟩
    have hst : ∀ k, stE path (mm : Int) k = some (path.getD mm pt0, (path.drop (mm + 1)).take (k - (mm + 1))) := fun k => by unfold stE; rw [if_pos hm]; rfl
    rw [hst, hst]
    show _ = expR g ns id _ (path.getD k pt0 :: path.drop (k + 1))
    have e : (path.drop (mm + 1)).take (k + 1 - (mm + 1)) = (path.drop (mm + 1)).take (k - (mm + 1)) ++ [path.getD k pt0] := by
     rw [show k + 1 - (mm + 1) = (k - (mm + 1)) + 1 by omega, List.take_succ_eq_append_getElem (by rw [List.length_drop]; omega)]
     congr 2
     rw [List.getElem_drop, List.getD_eq_getElem?_getD, List.getElem?_eq_getElem hk]
     simp only [show mm + 1 + (k - (mm + 1)) = k by omega]
     rfl
    rw [expR, if_pos ho, e]
   ·
    have hst : ∀ k, stE path m k = none := fun k => by unfold stE; rw [if_neg hm]
    rw [hst, hst]
    rw [expR, if_pos ho]
theorem exp_all (g : Ed) (ns : List Nd) (id : Int) (path : List Pt) : (expAt g ns id path path.length).2 = expR g ns id none path := by
 rw [exp_rec g ns id path path.length 0 (by omega)]
 rfl

/- ## points along the line -/
/-- three neighbours on the line go one way -/
def MonoE (g : Ed) (l : List Pt) : Prop := ∀ k, k + 2 < l.length → onE g (l.getD k pt0) = true → onE g (l.getD (k + 1) pt0) = true → onE g (l.getD (k + 2) pt0) = true →
 (alongS g (l.getD k pt0) < alongS g (l.getD (k + 1) pt0) ∧ alongS g (l.getD (k + 1) pt0) < alongS g (l.getD (k + 2) pt0)) ∨ (alongS g (l.getD (k + 2) pt0) < alongS g (l.getD (k + 1) pt0) ∧ alongS g (l.getD (k + 1) pt0) < alongS g (l.getD k pt0))
theorem MonoE.tail {g : Ed} {a : Pt} {l : List Pt} (h : MonoE g (a :: l)) : MonoE g l := fun k hk h0 h1 h2 => by
 have := h (k + 1) (by simp only [List.length_cons]; omega)
 simp only [List.getD_cons_succ] at this
 exact this h0 h1 h2
theorem MonoE.pre {g : Ed} {l m : List Pt} (h : MonoE g (l ++ m)) : MonoE g l := fun k hk h0 h1 h2 => by
 have e : ∀ j, j < l.length → (l ++ m).getD j pt0 = l.getD j pt0 := fun j hj => by
  rw [List.getD_eq_getElem?_getD, List.getD_eq_getElem?_getD, List.getElem?_append_left hj]
 have := h k (by rw [List.length_append]; omega)
 rw [e _ (by omega), e _ (by omega), e _ (by omega)] at this
 exact this h0 h1 h2
theorem MonoE.suf {g : Ed} {m : List Pt} : ∀ {l : List Pt}, MonoE g (l ++ m) → MonoE g m
 | [], h => h
 | _ :: l, h => MonoE.suf (l := l) (MonoE.tail h)
/-- a run on the line: going up from the first step on, or down -/
theorem mono_run {g : Ed} : ∀ {l : List Pt}, MonoE g l → (∀ q ∈ l, onE g q = true) → 2 ≤ l.length → (∀ k, k + 1 < l.length → l.getD k pt0 ≠ l.getD (k + 1) pt0) →
  (∀ k, k + 1 < l.length → alongS g (l.getD k pt0) < alongS g (l.getD (k + 1) pt0)) ∨ (∀ k, k + 1 < l.length → alongS g (l.getD (k + 1) pt0) < alongS g (l.getD k pt0)) := by
 intro l hm hon h2 hne
 have hat : ∀ k, k < l.length → onE g (l.getD k pt0) = true := fun k hk => by
  rw [List.getD_eq_getElem?_getD, List.getElem?_eq_getElem hk]; exact hon _ (List.getElem_mem hk)
 have hd : ∀ k, k + 1 < l.length → alongS g (l.getD k pt0) ≠ alongS g (l.getD (k + 1) pt0) := by
  intro k hk e
  refine hne k hk ?_
  have h1 := hat k (by omega); have h3 := hat (k + 1) hk
  unfold onE at h1 h3
  rw [decide_eq_true_iff] at h1 h3
  unfold alongS at e
  unfold acrossS at h1 h3
  cases hu : g.upright
  ·
   rw [hu] at e h1 h3
   simp only [Bool.false_eq_true, if_false] at e h1 h3
   exact Pt.ext_iff'.2 ⟨e, by omega⟩
  ·
   rw [hu] at e h1 h3
   simp only [if_true] at e h1 h3
   exact Pt.ext_iff'.2 ⟨by omega, e⟩
 rcases Int.lt_or_gt_of_ne (hd 0 (by omega)) with h0 | h0
 ·
  left
  intro k
  induction k with
  | zero => intro _; exact h0
  | succ k ih =>
   intro hk
   have h1 := ih (by omega)
   rcases hm k (by omega) (hat _ (by omega)) (hat _ (by omega)) (hat _ (by omega)) with ⟨-, h⟩ | ⟨-, h⟩
   · exact h
   · omega
 ·
  right
  intro k
  induction k with
  | zero => intro _; exact h0
  | succ k ih =>
   intro hk
   have h1 := ih (by omega)
   rcases hm k (by omega) (hat _ (by omega)) (hat _ (by omega)) (hat _ (by omega)) with ⟨h, -⟩ | ⟨h, -⟩
   · exact absurd h (by omega)
   · exact h
theorem mono_le {f : Nat → Int} {n : Nat} (h : ∀ k, k + 1 < n → f k < f (k + 1)) : ∀ i j, i ≤ j → j < n → f i ≤ f j := by
 intro i j hij
 induction j with
 | zero =>
  intro _
  have : i = 0 := by omega
  subst this
  exact Int.le_refl _
 | succ j ih =>
  intro hj
  by_cases e : i = j + 1
  · subst e; exact Int.le_refl _
  ·
   have := ih (by omega) (by omega)
   have := h j hj
   omega
/-- an open run lies between the edge's ends -/
theorem open_rng {g : Ed} {ns : List Nd} {l : List Pt} (hm : MonoE g l) (hon : ∀ q ∈ l, onE g q = true) (hne : ∀ k, k + 1 < l.length → l.getD k pt0 ≠ l.getD (k + 1) pt0) (ho : openS g ns l = true) : ∀ q ∈ l, rngE g q := by
 unfold openS at ho
 simp only [Bool.and_eq_true, decide_eq_true_eq] at ho
 obtain ⟨hl, hf, hla⟩ := ho
 unfold strictS at hf hla
 simp only [Bool.and_eq_true, decide_eq_true_eq] at hf hla
 intro q hq
 obtain ⟨j, hj, rfl⟩ := List.mem_iff_getElem.1 hq
 have e : l[j] = l.getD j pt0 := by rw [List.getD_eq_getElem?_getD, List.getElem?_eq_getElem hj]; rfl
 have ef : firstP l = l.getD 0 pt0 := rfl
 have el : lastP l = l.getD (l.length - 1) pt0 := rfl
 rw [ef] at hf
 rw [el] at hla
 rw [e]
 unfold rngE
 by_cases h2 : 2 ≤ l.length
 ·
  rcases mono_run hm hon h2 hne with h | h
  ·
   have a1 := mono_le (f := fun k => alongS g (l.getD k pt0)) h 0 j (by omega) hj
   have a2 := mono_le (f := fun k => alongS g (l.getD k pt0)) h j (l.length - 1) (by omega) (by omega)
   exact ⟨by omega, by omega⟩
  ·
   have a1 := mono_le (f := fun k => -alongS g (l.getD k pt0)) (n := l.length) (fun k hk => by have := h k hk; show -_ < -_; omega) 0 j (by omega) hj
   have a2 := mono_le (f := fun k => -alongS g (l.getD k pt0)) (n := l.length) (fun k hk => by have := h k hk; show -_ < -_; omega) j (l.length - 1) (by omega) (by omega)
   exact ⟨by omega, by omega⟩
 ·
  have : j = 0 := by omega
  subst this
  exact hf.2
end Go.Proofs.YtfdbidagdjnipaaGreatDoor
