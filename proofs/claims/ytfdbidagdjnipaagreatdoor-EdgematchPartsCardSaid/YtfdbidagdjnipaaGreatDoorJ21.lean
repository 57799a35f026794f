/- PLAIN: the pieces of a path in a box lie in the box, without repetitions, and their ends lie on the sides that are named. geom.In, ref08.In; cut: reach, place.less. cut.reach. cut.Clip: its closures. -/
import Derived.Test.YtfdbidagdjnipaaGreatDoorJ20
import Derived.Test.YtfdbidagdjnipaaGreatDoorJ13
set_option linter.unusedSimpArgs false
set_option linter.unusedVariables false
namespace Go.Proofs.YtfdbidagdjnipaaGreatDoor

/-- a point lies on the line of a side, or the side is 0 -/
def onSd (b : Bx) (side : Int) (p : Pt) : Prop := (side = 1 ∧ p.x = b.x0) ∨ (side = 2 ∧ p.y = b.y0) ∨ (side = 3 ∧ p.x = b.x1) ∨ (side = 4 ∧ p.y = b.y1) ∨ side = 0
theorem btw_conv {s w f t m e n d n1 d1 : Int} (he : 0 < e) (hd : 0 < d) (hd1 : 0 < d1) (h0 : Btw s w f t m e) (h1 : Btw s w f t n1 d1) (a : leQ m e n d) (b : leQ n d n1 d1) : Btw s w f t n d := by
 unfold Btw leQ at *
 have mulr : ∀ {x y z : Int}, x ≤ y → 0 ≤ z → x * z ≤ y * z := fun h hz => Int.mul_le_mul_of_nonneg_right h hz
 have A1 := mulr h0.1 (Int.le_of_lt hd); have A2 := mulr h0.2 (Int.le_of_lt hd)
 have B1 := mulr h1.1 (Int.le_of_lt hd); have B2 := mulr h1.2 (Int.le_of_lt hd)
 rw [Int.add_mul] at A1 A2 B1 B2
 have r1 : ∀ x y z : Int, x * y * z = x * z * y := fun x y z => Int.mul_right_comm x y z
 rcases Int.lt_or_le w 0 with hw | hw
 ·
  -- falling: the lower bound from the end, the upper one from the beginning
  have c1 : w * (n1 * d) ≤ w * (n * d1) := by
   have := Int.mul_le_mul_of_nonneg_left b (show 0 ≤ -w by omega)
   rw [Int.neg_mul, Int.neg_mul] at this; omega
  have c2 : w * (n * e) ≤ w * (m * d) := by
   have := Int.mul_le_mul_of_nonneg_left a (show 0 ≤ -w by omega)
   rw [Int.neg_mul, Int.neg_mul] at this; omega
  constructor
  ·
   refine Int.le_of_mul_le_mul_right (a := d1) ?_ hd1
   rw [Int.add_mul, r1 f, r1 s, Int.mul_assoc w]
   rw [Int.mul_assoc w n1 d] at B1
   omega
  ·
   refine Int.le_of_mul_le_mul_right (a := e) ?_ he
   rw [Int.add_mul, r1 t, r1 s, Int.mul_assoc w]
   rw [Int.mul_assoc w m d] at A2
   omega
 ·
  have c1 : w * (m * d) ≤ w * (n * e) := Int.mul_le_mul_of_nonneg_left a hw
  have c2 : w * (n * d1) ≤ w * (n1 * d) := Int.mul_le_mul_of_nonneg_left b hw
  constructor
  ·
   refine Int.le_of_mul_le_mul_right (a := e) ?_ he
   rw [Int.add_mul, r1 f, r1 s, Int.mul_assoc w]
   rw [Int.mul_assoc w m d] at A1
   omega
  ·
   refine Int.le_of_mul_le_mul_right (a := d1) ?_ hd1
   rw [Int.add_mul, r1 t, r1 s, Int.mul_assoc w]
   rw [Int.mul_assoc w n1 d] at B2
   omega
theorem sd_btw {p q b0 b1 k1 k3 : Int} {X : Int × Int × Int} (h : SdX p q b0 b1 k1 k3 X) (hb : b0 ≤ b1) : Btw p (q - p) b0 b1 X.2.1 X.2.2 := by
 have hpos := h.pos
 unfold Btw
 rcases h.cases with ⟨h1, h2, h3⟩ | ⟨h1, h2, h3, h4, h5⟩ | ⟨h1, h2, h3, h4, h5⟩
 ·
  subst h1
  simp only [Int.mul_one, Int.mul_zero, Int.add_zero]
  exact ⟨h2, h3⟩
 ·
  have e : p * X.2.2 + (q - p) * X.2.1 = b0 * X.2.2 := by
   rw [← h4, Int.mul_comm X.2.2 X.2.1, ← Int.add_mul]; congr 1; omega
  rw [e]
  exact ⟨Int.le_refl _, Int.mul_le_mul_of_nonneg_right hb (Int.le_of_lt hpos.1)⟩
 ·
  have e : p * X.2.2 + (q - p) * X.2.1 = b1 * X.2.2 := by
   rw [show q - p = -X.2.2 by omega, Int.neg_mul, Int.mul_comm X.2.2 X.2.1, show p * X.2.2 + -(X.2.1 * X.2.2) = p * X.2.2 - X.2.1 * X.2.2 by omega, ← Int.sub_mul]; congr 1; omega
  rw [e]
  exact ⟨Int.mul_le_mul_of_nonneg_right hb (Int.le_of_lt hpos.1), Int.le_refl _⟩
theorem sd_le {p q b0 b1 k1 k3 n d : Int} {X : Int × Int × Int} (h : SdX p q b0 b1 k1 k3 X) (hp : Par n d) (hq : Btw p (q - p) b0 b1 n d) : leQ X.2.1 X.2.2 n d := by
 unfold Btw at hq
 unfold leQ
 rcases h.cases with ⟨h1, h2, h3⟩ | ⟨h1, h2, h3, h4, h5⟩ | ⟨h1, h2, h3, h4, h5⟩
 ·
  subst h1
  have := hp.2.1
  simp only [Int.zero_mul, Int.mul_one]
  exact this
 · rw [h3, h4, Int.sub_mul, Int.mul_comm n]; omega
 · rw [h3, h4, Int.sub_mul, Int.mul_comm n, show p - q = -(q - p) by omega, Int.neg_mul]; omega
theorem entry_par {n1 d1 n d : Int} (hp : Par n1 d1) (hd : 0 < d) (hn : 0 ≤ n) (h : leQ n d n1 d1) : Par n d := by
 refine ⟨hd, hn, ?_⟩
 unfold leQ at h
 have h2 := Int.mul_le_mul_of_nonneg_right hp.2.2 (Int.le_of_lt hd)
 rw [Int.mul_comm d1 d] at h2
 exact Int.le_of_mul_le_mul_right (Int.le_trans h h2) hp.1
theorem entry_x {p q : Pt} {b : Bx} {c e : Pt} {n1 d1 n2 d2 E n d : Int} (k : ClipSome p q b c e n1 d1 n2 d2) (hE : E = b.x0 ∨ E = b.x1) (hb : b.x0 ≤ b.x1) (hd : 0 < d) (hn : 0 ≤ n)
  (he : (q.x - p.x) * n = (E - p.x) * d) (h1 : leQ n d n1 d1) (hy : Btw p.y (q.y - p.y) b.y0 b.y1 n d) : c.x = E := by
 have hp := entry_par k.lo hd hn h1
 have hx : Btw p.x (q.x - p.x) b.x0 b.x1 n d := by
  unfold Btw
  rw [he, ← Int.add_mul, show p.x + (E - p.x) = E by omega]
  exact ⟨Int.mul_le_mul_of_nonneg_right (by omega) (Int.le_of_lt hd), Int.mul_le_mul_of_nonneg_right (by omega) (Int.le_of_lt hd)⟩
 have h2 := ((k.all n d hp).1 ⟨hx, hy⟩).1
 have hv : n1 * d = n * d1 := by unfold leQ at h1 h2; omega
 rw [k.pc, ptQ_val k.lo.1 hd hv]
 obtain ⟨e1, e2⟩ := div_of hd he
 unfold ptQ
 rw [e2]
 by_cases hc : ((q.x - p.x) * n) % d = 0 ∧ ((q.y - p.y) * n) % d = 0
 · rw [if_pos hc]; show p.x + (E - p.x) = E; omega
 · rw [if_neg hc, if_pos ⟨e1, by omega⟩]; show p.x + (E - p.x) = E; omega
theorem entry_y {p q : Pt} {b : Bx} {c e : Pt} {n1 d1 n2 d2 E n d : Int} (k : ClipSome p q b c e n1 d1 n2 d2) (hE : E = b.y0 ∨ E = b.y1) (hb : b.y0 ≤ b.y1) (hd : 0 < d) (hn : 0 ≤ n)
  (he : (q.y - p.y) * n = (E - p.y) * d) (h1 : leQ n d n1 d1) (hx : Btw p.x (q.x - p.x) b.x0 b.x1 n d) : c.y = E := by
 have hp := entry_par k.lo hd hn h1
 have hy : Btw p.y (q.y - p.y) b.y0 b.y1 n d := by
  unfold Btw
  rw [he, ← Int.add_mul, show p.y + (E - p.y) = E by omega]
  exact ⟨Int.mul_le_mul_of_nonneg_right (by omega) (Int.le_of_lt hd), Int.mul_le_mul_of_nonneg_right (by omega) (Int.le_of_lt hd)⟩
 have h2 := ((k.all n d hp).1 ⟨hx, hy⟩).1
 have hv : n1 * d = n * d1 := by unfold leQ at h1 h2; omega
 rw [k.pc, ptQ_val k.lo.1 hd hv]
 obtain ⟨e1, e2⟩ := div_of hd he
 unfold ptQ
 rw [e2]
 by_cases hc : ((q.x - p.x) * n) % d = 0 ∧ ((q.y - p.y) * n) % d = 0
 · rw [if_pos hc]; show p.y + (E - p.y) = E; omega
 · rw [if_neg hc, if_neg (fun h => hc ⟨h.1, e1⟩)]; show p.y + (E - p.y) = E; omega
theorem sdx_of {p q : Pt} {b : Bx} {n d : Int} (hp : Par n d) (hq : InQ p q b n d) : SdX p.x q.x b.x0 b.x1 1 3 (clSideX p q b) ∧ SdX p.y q.y b.y0 b.y1 2 4 (clSideY p q b) := by
 obtain ⟨g1, g2, g3, g4⟩ := goes hp hq
 constructor
 ·
  unfold clSideX
  constructor
  by_cases h1 : p.x < b.x0
  · rw [if_pos h1]; exact .inr (.inl ⟨rfl, h1, rfl, rfl, g1 h1⟩)
  ·
   rw [if_neg h1]
   by_cases h2 : b.x1 < p.x
   · rw [if_pos h2]; exact .inr (.inr ⟨rfl, h2, rfl, rfl, by have := g2 h2; show 0 < p.x - q.x; omega⟩)
   · rw [if_neg h2]; exact .inl ⟨rfl, by omega, by omega⟩
 ·
  unfold clSideY
  constructor
  by_cases h1 : p.y < b.y0
  · rw [if_pos h1]; exact .inr (.inl ⟨rfl, h1, rfl, rfl, g3 h1⟩)
  ·
   rw [if_neg h1]
   by_cases h2 : b.y1 < p.y
   · rw [if_pos h2]; exact .inr (.inr ⟨rfl, h2, rfl, rfl, by have := g4 h2; show 0 < p.y - q.y; omega⟩)
   · rw [if_neg h2]; exact .inl ⟨rfl, by omega, by omega⟩
/-- where a segment comes into a box, it lies on the line of the side that is named -/
theorem through_on {p q : Pt} {b : Bx} (hx : b.x0 < b.x1) (hy : b.y0 < b.y1) {c e : Pt} (h : clipS p q b = some (c, e)) : onSd b (throughS p q b) c := by
 cases hin : inB b p
 case true => unfold throughS; rw [if_pos hin]; exact .inr (.inr (.inr (.inr rfl)))
 have hci := clip_is p q b
 rw [h] at hci
 obtain ⟨n1, d1, n2, d2, k⟩ := hci
 rw [through_eq hx hy hin k.lo k.inLo]
 obtain ⟨hX, hY⟩ := sdx_of k.lo k.inLo
 have px := hX.pos; have py := hY.pos
 have bx := sd_btw hX (Int.le_of_lt hx); have bY := sd_btw hY (Int.le_of_lt hy)
 have lx := sd_le hX k.lo k.inLo.1; have ly := sd_le hY k.lo k.inLo.2
 unfold clSide
 simp only
 by_cases hc : (clSideX p q b).1 ≠ 0 ∧ ((clSideY p q b).1 = 0 ∨ (clSideY p q b).2.1 * (clSideX p q b).2.2 < (clSideX p q b).2.1 * (clSideY p q b).2.2)
 ·
  rw [if_pos hc]
  split
  · exact .inr (.inr (.inr (.inr rfl)))
  have hle : leQ (clSideY p q b).2.1 (clSideY p q b).2.2 (clSideX p q b).2.1 (clSideX p q b).2.2 := by
   unfold leQ
   rcases hc.2 with h0 | h0
   ·
    rcases hY.cases with ⟨h1, -⟩ | ⟨h1, -⟩ | ⟨h1, -⟩
    · rw [h1]; simp only [Int.zero_mul, Int.mul_one]; exact px.2
    · omega
    · omega
   · omega
  have hby := btw_conv py.1 px.1 k.lo.1 bY k.inLo.2 hle lx
  rcases hX.cases with ⟨h1, -⟩ | ⟨h1, h2, h3, h4, h5⟩ | ⟨h1, h2, h3, h4, h5⟩
  · rw [h1] at hc; exact absurd rfl hc.1
  ·
   left
   exact ⟨h1, entry_x k (.inl rfl) (Int.le_of_lt hx) px.1 px.2 (by rw [h3, h4, Int.mul_comm]) lx hby⟩
  ·
   right; right; left
   exact ⟨h1, entry_x k (.inr rfl) (Int.le_of_lt hx) px.1 px.2 (by rw [h3, h4, show q.x - p.x = -(p.x - q.x) by omega, show b.x1 - p.x = -(p.x - b.x1) by omega, Int.neg_mul, Int.neg_mul, Int.mul_comm]) lx hby⟩
 ·
  rw [if_neg hc]
  split
  · exact .inr (.inr (.inr (.inr rfl)))
  have hle : (clSideY p q b).1 ≠ 0 → leQ (clSideX p q b).2.1 (clSideX p q b).2.2 (clSideY p q b).2.1 (clSideY p q b).2.2 := by
   intro hy0
   unfold leQ
   rcases hX.cases with ⟨h1, -⟩ | ⟨h1, -⟩ | ⟨h1, -⟩
   · rw [h1]; simp only [Int.zero_mul, Int.mul_one]; exact py.2
   ·
    have : ¬ ((clSideY p q b).2.1 * (clSideX p q b).2.2 < (clSideX p q b).2.1 * (clSideY p q b).2.2) := fun h => hc ⟨by omega, .inr h⟩
    omega
   ·
    have : ¬ ((clSideY p q b).2.1 * (clSideX p q b).2.2 < (clSideX p q b).2.1 * (clSideY p q b).2.2) := fun h => hc ⟨by omega, .inr h⟩
    omega
  rcases hY.cases with ⟨h1, -⟩ | ⟨h1, h2, h3, h4, h5⟩ | ⟨h1, h2, h3, h4, h5⟩
  · rw [h1]; exact .inr (.inr (.inr (.inr rfl)))
  ·
   right; left
   exact ⟨h1, entry_y k (.inl rfl) (Int.le_of_lt hy) py.1 py.2 (by rw [h3, h4, Int.mul_comm]) ly (btw_conv px.1 py.1 k.lo.1 bx k.inLo.1 (hle (by omega)) ly)⟩
  ·
   right; right; right; left
   exact ⟨h1, entry_y k (.inr rfl) (Int.le_of_lt hy) py.1 py.2 (by rw [h3, h4, show q.y - p.y = -(p.y - q.y) by omega, show b.y1 - p.y = -(p.y - b.y1) by omega, Int.neg_mul, Int.neg_mul, Int.mul_comm]) ly (btw_conv px.1 py.1 k.lo.1 bx k.inLo.1 (hle (by omega)) ly)⟩
theorem through_on2 {p q : Pt} {b : Bx} (hx : b.x0 < b.x1) (hy : b.y0 < b.y1) {c e : Pt} (h : clipS p q b = some (c, e)) : onSd b (throughS q p b) e := by
 have h2 : clipS q p b = some (e, c) := by rw [clip_rev p q b, h]; rfl
 exact through_on hx hy h2
/-- a segment whose end lies in the box ends there -/
theorem clip_first {p q : Pt} {b : Bx} {c e : Pt} (h : clipS p q b = some (c, e)) (hin : inB b p = true) : c = p := by
 have hci := clip_is p q b
 rw [h] at hci
 obtain ⟨n1, d1, n2, d2, k⟩ := hci
 have hp0 : Par 0 1 := ⟨by decide, by decide, by decide⟩
 have h1 := ((k.all 0 1 hp0).1 (in_box_Q hin)).1
 have hv : n1 * 1 = 0 * d1 := by unfold leQ at h1; have := k.lo.2.1; omega
 rw [k.pc, ptQ_val k.lo.1 (by decide) hv]
 exact (good_pt (p := ⟨0, 1, p⟩) (show (0 : Int) < 1 by decide) (.inl ⟨rfl, rfl⟩)).symm
theorem clip_last {p q : Pt} {b : Bx} {c e : Pt} (h : clipS p q b = some (c, e)) (hin : inB b q = true) : e = q := by
 have h2 : clipS q p b = some (e, c) := by rw [clip_rev p q b, h]; rfl
 exact clip_first h2 hin
end Go.Proofs.YtfdbidagdjnipaaGreatDoor
namespace Go.Proofs.YtfdbidagdjnipaaGreatDoor
open Go.RowKit

set_option maxRecDepth 100000 in
set_option maxHeartbeats 2000000 in
theorem gIn_spec (b : Bx) (p : Pt) (w : World) : Calls Tryz.prog 63 #[bxV b, ptV p] w fun e w' => e = .returned (.bool (inB b p)) ∧ Below w.heap.size w w' := by
 unfold bxV ptV
 obtain ⟨q, hq⟩ : ∃ q, inB b p = q := ⟨_, rfl⟩
 rw [hq]
 unfold inB at hq
 have Hq := Lib.hid hq
 clear hq
 go_enter Tryz.func63, Tryz.ntmps63
 by_cases h1 : b.x0 ≤ p.x
 case neg =>
  go_wp2_with fail
  go_ret
  exact ⟨ret_bool (by rw [← Hq.out]; exact (decide_eq_false (by omega)).symm), bA (bA (bR w) _) _⟩
 by_cases h2 : p.x ≤ b.x1
 case neg =>
  go_wp2_with fail
  go_ret
  exact ⟨ret_bool (by rw [← Hq.out]; exact (decide_eq_false (by omega)).symm), bA (bA (bR w) _) _⟩
 by_cases h3 : b.y0 ≤ p.y
 case neg =>
  go_wp2_with fail
  go_ret
  exact ⟨ret_bool (by rw [← Hq.out]; exact (decide_eq_false (by omega)).symm), bA (bA (bR w) _) _⟩
 by_cases h4 : p.y ≤ b.y1
 case neg =>
  go_wp2_with fail
  go_ret
  exact ⟨ret_bool (by rw [← Hq.out]; exact (decide_eq_false (by omega)).symm), bA (bA (bR w) _) _⟩
 go_wp2_with fail
 go_ret
 exact ⟨ret_bool (by rw [← Hq.out]; exact (decide_eq_true (by omega)).symm), bA (bA (bR w) _) _⟩
def plV (p : Plc) : Value := .agg #[.int .i64 p.n, .int .i64 p.d, .int .i64 p.at_.x, .int .i64 p.at_.y]
def plB (p : Plc) : Array Value := #[.int .i64 p.n, .int .i64 p.d, .int .i64 p.at_.x, .int .i64 p.at_.y]
/-- numbers whose products fit -/
def sm23 (n : Int) : Prop := -8388608 ≤ n ∧ n ≤ 8388608
theorem sm_mul {m n : Int} (hm : sm23 m) (hn : sm23 n) : -70368744177664 ≤ m * n ∧ m * n ≤ 70368744177664 := by
 have := mul_abs (u := m) (v := n) (m := 8388608) (n := 8388608) hm hn
 omega
set_option maxRecDepth 100000 in
set_option maxHeartbeats 2000000 in
theorem less_spec (p q : Plc) (w : World) (h1 : sm23 p.n) (h2 : sm23 p.d) (h3 : sm23 q.n) (h4 : sm23 q.d) : Calls Tryz.prog 120 #[plV p, plV q] w fun e w' => e = .returned (.bool (decide (p.n * q.d < q.n * p.d))) ∧ Below w.heap.size w w' := by
 unfold plV
 have a1 := sm_mul h1 h4
 have a2 := sm_mul h3 h2
 clear h1 h2 h3 h4
 go_enter Tryz.func120, Tryz.ntmps120
 go_wp2_with fail
 go_ret
 exact ⟨rfl, bA (bA (bR w) _) _⟩
end Go.Proofs.YtfdbidagdjnipaaGreatDoor
namespace Go.Proofs.YtfdbidagdjnipaaGreatDoor
open Go.RowKit

theorem struct_place : StructOf Tryz.prog 169 4 := .mk_ Tryz.underlying169 (by kernel_rfl)
def RetReach (w : World) (r : (Int × Int) × Bool) (e : Ending) (w' : World) : Prop :=
 e = .returned (.tuple #[.agg #[.int .i64 r.1.1, .int .i64 r.1.2, .int .i64 0, .int .i64 0], .bool r.2]) ∧ Below w.heap.size w w'
set_option maxRecDepth 100000 in
set_option maxHeartbeats 4000000 in
theorem reach_spec (s u v : Int) (w : World) (h1 : sm23 s) (h2 : sm23 u) (h3 : sm23 v) : Calls Tryz.prog 119 #[.int .i64 s, .int .i64 u, .int .i64 v] w (RetReach w (reachS s u v)) := by
 unfold sm23 at h1 h2 h3
 obtain ⟨r, hr⟩ : ∃ r, reachS s u v = r := ⟨_, rfl⟩
 rw [hr]
 unfold reachS at hr
 have Hr := Lib.hid hr
 clear hr
 go_enter Tryz.func119, Tryz.ntmps119
 go_upto_region 1 with fail
 obtain ⟨W, hW⟩ : ∃ W : World, W = w.alloc (.cells #[.int .i64 0, .int .i64 0, .int .i64 0, .int .i64 0] 169) := ⟨_, rfl⟩
 have B1 := Lib.hid (show Below w.heap.size w W by rw [hW]; exact bA (bR w) _)
 have X6 : Blk W w.heap.size 169 #[.int .i64 0, .int .i64 0, .int .i64 0, .int .i64 0] := by rw [hW]; exact Blk.made rfl _ _
 rw [← hW]
 clear hW
 obtain ⟨X6l, X6a, X6b, X6c, X6d, X6fa, X6fb, X6fc, X6fd⟩ := X6.facts4
 by_cases hin : min s (s + u) ≤ v ∧ v ≤ max s (s + u)
 ·
  by_cases hu : u < 0
  ·
   have a1 : s + u ≤ v := by omega
   have a2 : v ≤ s := by omega
   have a3 : s + u < s := by omega
   have hv := Lib.hid (show r = ((s - v, -u), true) by rw [← Hr.out, if_pos hin, if_pos hu])
   clear hin
   go_wp2_with fail
   all_goals
    refine res_cell_tmp (g := w.heap.size) (cs := #[.int .i64 (s - v), .int .i64 (-u), .int .i64 0, .int .i64 0]) rfl struct_place rfl rfl (Blk.put4 X6) ⟨?_, ?_⟩
    · rw [hv.out]; rfl
    · exact bS (bS (bS (bS B1.out (Nat.le_refl _) _) (Nat.le_refl _) _) (Nat.le_refl _) _) (Nat.le_refl _) _
  ·
   have a1 : s ≤ v := by omega
   have a2 : v ≤ s + u := by omega
   have a3 : s ≤ s + u := by omega
   have hv := Lib.hid (show r = ((v - s, u), true) by rw [← Hr.out, if_pos hin, if_neg hu])
   clear hin
   go_wp2_with fail
   all_goals
    refine res_cell_tmp (g := w.heap.size) (cs := #[.int .i64 (v - s), .int .i64 (u), .int .i64 0, .int .i64 0]) rfl struct_place rfl rfl (Blk.put4 X6) ⟨?_, ?_⟩
    · rw [hv.out]; rfl
    · exact bS (bS (bS (bS B1.out (Nat.le_refl _) _) (Nat.le_refl _) _) (Nat.le_refl _) _) (Nat.le_refl _) _
 ·
  have hin' : v < min s (s + u) ∨ max s (s + u) < v := by omega
  rcases hin' with h | h
  ·
   have a1 : v < s := by omega
   have a2 : v < s + u := by omega
   clear h
   by_cases hu : 0 < u
   ·
    have hv := Lib.hid (show r = ((-1, 1), false) by rw [← Hr.out, if_neg hin, if_pos (by simp [a1, hu])])
    clear hin
    go_wp2_with fail
    all_goals
     refine res_cell_tmp (g := w.heap.size) (cs := #[.int .i64 (-1), .int .i64 (1), .int .i64 0, .int .i64 0]) rfl struct_place rfl rfl (Blk.put4 X6) ⟨?_, ?_⟩
     · rw [hv.out]; rfl
     · exact bS (bS (bS (bS B1.out (Nat.le_refl _) _) (Nat.le_refl _) _) (Nat.le_refl _) _) (Nat.le_refl _) _
   ·
    have hv := Lib.hid (show r = ((1, 1), false) by rw [← Hr.out, if_neg hin, if_neg (by simp [a1, hu])])
    clear hin
    go_wp2_with fail
    all_goals
     refine res_cell_tmp (g := w.heap.size) (cs := #[.int .i64 (1), .int .i64 (1), .int .i64 0, .int .i64 0]) rfl struct_place rfl rfl (Blk.put4 X6) ⟨?_, ?_⟩
     · rw [hv.out]; rfl
     · exact bS (bS (bS (bS B1.out (Nat.le_refl _) _) (Nat.le_refl _) _) (Nat.le_refl _) _) (Nat.le_refl _) _
  ·
   have a1 : s < v := by omega
   have a2 : s + u < v := by omega
   have a4 : ¬ v < s := by omega
   clear h
   by_cases hu : 0 < u
   ·
    have hv := Lib.hid (show r = ((1, 1), false) by rw [← Hr.out, if_neg hin, if_neg (by simp [a4, hu])])
    clear hin
    go_wp2_with fail
    all_goals
     refine res_cell_tmp (g := w.heap.size) (cs := #[.int .i64 (1), .int .i64 (1), .int .i64 0, .int .i64 0]) rfl struct_place rfl rfl (Blk.put4 X6) ⟨?_, ?_⟩
     · rw [hv.out]; rfl
     · exact bS (bS (bS (bS B1.out (Nat.le_refl _) _) (Nat.le_refl _) _) (Nat.le_refl _) _) (Nat.le_refl _) _
   ·
    have hv := Lib.hid (show r = ((-1, 1), false) by rw [← Hr.out, if_neg hin, if_pos (by simp [a4, hu])])
    clear hin
    go_wp2_with fail
    all_goals
     refine res_cell_tmp (g := w.heap.size) (cs := #[.int .i64 (-1), .int .i64 (1), .int .i64 0, .int .i64 0]) rfl struct_place rfl rfl (Blk.put4 X6) ⟨?_, ?_⟩
     · rw [hv.out]; rfl
     · exact bS (bS (bS (bS B1.out (Nat.le_refl _) _) (Nat.le_refl _) _) (Nat.le_refl _) _) (Nat.le_refl _) _
end Go.Proofs.YtfdbidagdjnipaaGreatDoor
namespace Go.Proofs.YtfdbidagdjnipaaGreatDoor
open Go.RowKit

set_option maxRecDepth 100000 in
set_option maxHeartbeats 2000000 in
theorem at2_spec (a b : Pt) (v : Int) (g3 g4 : Nat) (w : World) (h3 : Blk w g3 28 #[.int .i64 a.x, .int .i64 a.y]) (h4 : Blk w g4 28 #[.int .i64 b.x, .int .i64 b.y]) (h : AtX a b v) :
  Calls Tryz.prog 121 #[.int .i64 v, .pointer (some ⟨g3, 0, none⟩), .pointer (some ⟨g4, 0, none⟩)] w fun e w' => e = .returned (ptV (atX a b v)) ∧ Below w.heap.size w w' := by
 have HT := Lib.hid (fun W => sAtX_spec a b v W h)
 unfold ptV atX at *
 clear h
 generalize atxS a b v = q at *
 have X3 := h3; have X4 := h4
 clear h3 h4
 go_enter Tryz.func121, Tryz.ntmps121
 go_upto_region 1 with fail
 obtain ⟨W, hW⟩ : ∃ W : World, W = w.alloc (.cells #[.int .i64 0, .int .i64 0] 28) := ⟨_, rfl⟩
 have hA : Below w.heap.size w W := by rw [hW]; exact bA (bR w) _
 have X5 : Blk W w.heap.size 28 #[.int .i64 0, .int .i64 0] := by rw [hW]; exact Blk.made rfl _ _
 rw [← hW]
 replace X3 := X3.keep hA
 replace X4 := X4.keep hA
 clear hW
 obtain ⟨X3l, X3a, X3b, -, -⟩ := X3.facts2
 obtain ⟨X4l, X4a, X4b, -, -⟩ := X4.facts2
 go_wp2_with fail
 refine (HT.out _).mono ?_
 rintro e w1 ⟨rfl, hb1⟩
 have B1 := Lib.hid (bT hA hb1)
 replace X5 := X5.keep hb1
 clear hb1 X3 X4 X3l X3a X3b X4l X4a X4b HT hA
 obtain ⟨X5l, X5a, X5b, X5fa, X5fb⟩ := X5.facts2
 go_wp2_with fail
 refine res_cell (g := w.heap.size) (cs := #[.int .i64 v, .int .i64 q]) rfl struct_pt rfl rfl (Blk.put2 X5) ⟨rfl, ?_⟩
 exact bS (bS B1.out (Nat.le_refl _) _) (Nat.le_refl _) _
set_option maxRecDepth 100000 in
set_option maxHeartbeats 2000000 in
theorem at3_spec (a b : Pt) (v : Int) (g3 g4 : Nat) (w : World) (h3 : Blk w g3 28 #[.int .i64 a.x, .int .i64 a.y]) (h4 : Blk w g4 28 #[.int .i64 b.x, .int .i64 b.y]) (h : AtX (turnP a) (turnP b) v) :
  Calls Tryz.prog 122 #[.int .i64 v, .pointer (some ⟨g3, 0, none⟩), .pointer (some ⟨g4, 0, none⟩)] w fun e w' => e = .returned (ptV (atY a b v)) ∧ Below w.heap.size w w' := by
 have HT := Lib.hid (fun W => sAtY_spec a b v W h)
 unfold ptV atY at *
 clear h
 generalize atxS (turnP a) (turnP b) v = q at *
 have X3 := h3; have X4 := h4
 clear h3 h4
 go_enter Tryz.func122, Tryz.ntmps122
 go_upto_region 1 with fail
 obtain ⟨W, hW⟩ : ∃ W : World, W = w.alloc (.cells #[.int .i64 0, .int .i64 0] 28) := ⟨_, rfl⟩
 have hA : Below w.heap.size w W := by rw [hW]; exact bA (bR w) _
 have X5 : Blk W w.heap.size 28 #[.int .i64 0, .int .i64 0] := by rw [hW]; exact Blk.made rfl _ _
 rw [← hW]
 replace X3 := X3.keep hA
 replace X4 := X4.keep hA
 clear hW
 obtain ⟨X3l, X3a, X3b, -, -⟩ := X3.facts2
 obtain ⟨X4l, X4a, X4b, -, -⟩ := X4.facts2
 go_wp2_with fail
 refine (HT.out _).mono ?_
 rintro e w1 ⟨rfl, hb1⟩
 have B1 := Lib.hid (bT hA hb1)
 replace X5 := X5.keep hb1
 clear hb1 X3 X4 X3l X3a X3b X4l X4a X4b HT hA
 obtain ⟨X5l, X5a, X5b, X5fa, X5fb⟩ := X5.facts2
 go_wp2_with fail
 refine res_cell (g := w.heap.size) (cs := #[.int .i64 q, .int .i64 v]) rfl struct_pt rfl rfl (Blk.put2 X5) ⟨rfl, ?_⟩
 exact bS (bS B1.out (Nat.le_refl _) _) (Nat.le_refl _) _
end Go.Proofs.YtfdbidagdjnipaaGreatDoor
