/- Plain law: the part of a segment within a box (the program's way): what it is. No walk here. Plain law: the part of a segment within a box: its ends as points, by the value of the parameter alone. No walk here. Plain law: what the part of a segment within a box is, and that there is only one such. No walk here. -/
import Derived.Test.YtfdbidagdjnipaaGreatDoorJ13
set_option linter.unusedSimpArgs false
set_option linter.unusedVariables false
namespace Go.Proofs.YtfdbidagdjnipaaGreatDoor
open Go.RowKit

/-- a place on a segment: n / d of the way, and the point -/
structure Plc where
 n : Int
 d : Int
 at_ : Pt
structure ClS where
 first : Plc
 last : Plc
 ok : Bool
def reachS (s w v : Int) : (Int × Int) × Bool :=
 if min s (s + w) ≤ v ∧ v ≤ max s (s + w) then (if w < 0 then ((s - v, -w), true) else ((v - s, w), true))
 else if decide (v < s) = decide (0 < w) then ((-1, 1), false) else ((1, 1), false)
def clEnter (f : Plc) (ok : Bool) (r : (Int × Int) × Bool) (q : Pt) : Plc × Bool :=
 if r.2 = true then (if f.n * r.1.2 < r.1.1 * f.d then (⟨r.1.1, r.1.2, q⟩, ok) else (f, ok)) else (f, ok && decide (r.1.1 ≤ 0))
def clLeave (l : Plc) (ok : Bool) (r : (Int × Int) × Bool) (q : Pt) : Plc × Bool :=
 if r.2 = true then (if r.1.1 * l.d < l.n * r.1.2 then (⟨r.1.1, r.1.2, q⟩, ok) else (l, ok)) else (l, ok && decide (0 < r.1.1))
def limitS (st : ClS) (s w f t : Int) (q : Int → Pt) : ClS :=
 if w = 0 ∨ t < f then ⟨st.first, st.last, st.ok && (decide (f ≤ s) && decide (s ≤ t))⟩
 else ⟨(clEnter st.first st.ok (reachS s w (if w < 0 then t else f)) (q (if w < 0 then t else f))).1,
  (clLeave st.last (clEnter st.first st.ok (reachS s w (if w < 0 then t else f)) (q (if w < 0 then t else f))).2 (reachS s w (if w < 0 then f else t)) (q (if w < 0 then f else t))).1,
  (clLeave st.last (clEnter st.first st.ok (reachS s w (if w < 0 then t else f)) (q (if w < 0 then t else f))).2 (reachS s w (if w < 0 then f else t)) (q (if w < 0 then f else t))).2⟩
def atX (a b : Pt) (v : Int) : Pt := ⟨v, atxS a b v⟩
def atY (a b : Pt) (v : Int) : Pt := ⟨atxS (turnP a) (turnP b) v, v⟩
def clipSt (a b : Pt) (x : Bx) : ClS :=
 limitS (limitS ⟨⟨0, 1, a⟩, ⟨1, 1, b⟩, true⟩ a.x (b.x - a.x) x.x0 x.x1 (atX a b)) a.y (b.y - a.y) x.y0 x.y1 (atY a b)
def clipS (a b : Pt) (x : Bx) : Option (Pt × Pt) :=
 let s := clipSt a b x
 if s.ok = false ∨ s.last.n * s.first.d < s.first.n * s.last.d then none else some (s.first.at_, s.last.at_)

/- ## What it is: the parameters n / d (0 ≤ n ≤ d, 0 < d) at which the point of the segment lies in the box -/
/-- s + w * n / d lies from f to t -/
def Btw (s w f t n d : Int) : Prop := f * d ≤ s * d + w * n ∧ s * d + w * n ≤ t * d
/-- n / d ≤ m / e -/
def leQ (n d m e : Int) : Prop := n * e ≤ m * d
/-- a proper parameter -/
def Par (n d : Int) : Prop := 0 < d ∧ 0 ≤ n ∧ n ≤ d

theorem leQ_trans {n1 d1 n2 d2 n3 d3 : Int} (h1 : 0 < d1) (h2 : 0 < d2) (h3 : 0 < d3) (a : leQ n1 d1 n2 d2) (b : leQ n2 d2 n3 d3) : leQ n1 d1 n3 d3 := by
 unfold leQ at *
 have e1 := Int.mul_le_mul_of_nonneg_right a (Int.le_of_lt h3)
 have e2 := Int.mul_le_mul_of_nonneg_right b (Int.le_of_lt h1)
 have e3 : n1 * d3 * d2 ≤ n3 * d1 * d2 := by
  have x1 : n1 * d2 * d3 = n1 * d3 * d2 := by rw [Int.mul_assoc, Int.mul_comm d2 d3, ← Int.mul_assoc]
  have x2 : n2 * d1 * d3 = n2 * d3 * d1 := by rw [Int.mul_assoc, Int.mul_comm d1 d3, ← Int.mul_assoc]
  have x3 : n3 * d2 * d1 = n3 * d1 * d2 := by rw [Int.mul_assoc, Int.mul_comm d2 d1, ← Int.mul_assoc]
  omega
 exact Int.le_of_mul_le_mul_right e3 h2
/-- sign and size of a step -/
def sgE (s w v : Int) : Int := if w < 0 then s - v else v - s
def szW (w : Int) : Int := if w < 0 then -w else w
theorem szW_pos {w : Int} (hw : w ≠ 0) : 0 < szW w := by unfold szW; split <;> omega
theorem reach_cases (s w v : Int) (hw : w ≠ 0) :
  (0 ≤ sgE s w v ∧ sgE s w v ≤ szW w ∧ reachS s w v = ((sgE s w v, szW w), true)) ∨ (sgE s w v < 0 ∧ reachS s w v = ((-1, 1), false)) ∨ (szW w < sgE s w v ∧ reachS s w v = ((1, 1), false)) := by
 unfold reachS sgE szW
 by_cases h : w < 0
 ·
  simp only [h, if_true]
  by_cases h1 : min s (s + w) ≤ v ∧ v ≤ max s (s + w)
  · left; rw [if_pos h1]; exact ⟨by omega, by omega, rfl⟩
  ·
   rw [if_neg h1]
   have hw2 : ¬ 0 < w := by omega
   by_cases h2 : v < s
   ·
    right; right
    rw [if_neg (by simp [h2, hw2])]
    exact ⟨by omega, rfl⟩
   ·
    right; left
    rw [if_pos (by simp [h2, hw2])]
    exact ⟨by omega, rfl⟩
 ·
  simp only [h, if_false]
  have hw2 : 0 < w := by omega
  by_cases h1 : min s (s + w) ≤ v ∧ v ≤ max s (s + w)
  · left; rw [if_pos h1]; exact ⟨by omega, by omega, rfl⟩
  ·
   rw [if_neg h1]
   by_cases h2 : v < s
   ·
    right; left
    rw [if_pos (by simp [h2, hw2])]
    exact ⟨by omega, rfl⟩
   ·
    right; right
    rw [if_neg (by simp [h2, hw2])]
    exact ⟨by omega, rfl⟩
/-- Btw, in terms of the sign and size of the step -/
theorem btw_iff {s w f t n d : Int} (hw : w ≠ 0) : Btw s w f t n d ↔ sgE s w (if w < 0 then t else f) * d ≤ szW w * n ∧ szW w * n ≤ sgE s w (if w < 0 then f else t) * d := by
 unfold Btw sgE szW
 by_cases h : w < 0
 ·
  simp only [h, if_true, Int.sub_mul, Int.neg_mul]
  omega
 ·
  simp only [h, if_false, Int.sub_mul]
  omega
theorem mul_le_l {a b c : Int} (h : a ≤ b) (hc : 0 ≤ c) : c * a ≤ c * b := Int.mul_le_mul_of_nonneg_left h hc
/-- entering: the later of two places; none if it lies behind the end -/
theorem enter_ok {f : Plc} (hf : Par f.n f.d) (ok : Bool) {s w v : Int} (hw : w ≠ 0) (q : Pt) :
  let r := clEnter f ok (reachS s w v) q
  Par r.1.n r.1.d ∧ (r.2 = true ↔ ok = true ∧ sgE s w v ≤ szW w) ∧ (sgE s w v ≤ szW w → ∀ n d, Par n d → (leQ r.1.n r.1.d n d ↔ leQ f.n f.d n d ∧ sgE s w v * d ≤ szW w * n)) ∧ (r.1 = f ∨ (r.1.at_ = q ∧ r.1.n = sgE s w v ∧ r.1.d = szW w)) := by
 have hW := szW_pos hw
 obtain ⟨hf1, hf2, hf3⟩ := hf
 rcases reach_cases s w v hw with ⟨h1, h2, h3⟩ | ⟨h1, h3⟩ | ⟨h1, h3⟩
 ·
  unfold clEnter
  rw [h3]
  simp only [if_true]
  by_cases hl : f.n * szW w < sgE s w v * f.d
  ·
   rw [if_pos hl]
   refine ⟨⟨hW, h1, h2⟩, ⟨fun h => ⟨h, h2⟩, fun h => h.1⟩, fun _ n d hp => ?_, .inr ⟨rfl, rfl, rfl⟩⟩
   show leQ (sgE s w v) (szW w) n d ↔ _
   have key : leQ (sgE s w v) (szW w) n d ↔ sgE s w v * d ≤ szW w * n := by unfold leQ; rw [Int.mul_comm n]
   rw [key]
   constructor
   ·
    intro h
    exact ⟨leQ_trans hf1 hW hp.1 (show leQ f.n f.d (sgE s w v) (szW w) from Int.le_of_lt hl) (key.2 h), h⟩
   · exact fun h => h.2
  ·
   rw [if_neg hl]
   refine ⟨⟨hf1, hf2, hf3⟩, ⟨fun h => ⟨h, h2⟩, fun h => h.1⟩, fun _ n d hp => ⟨fun h => ⟨h, ?_⟩, fun h => h.1⟩, .inl rfl⟩
   have h4 : leQ (sgE s w v) (szW w) f.n f.d := by unfold leQ; omega
   have := leQ_trans hW hf1 hp.1 h4 h
   unfold leQ at this
   rwa [Int.mul_comm n] at this
 ·
  unfold clEnter
  rw [h3]
  refine ⟨⟨hf1, hf2, hf3⟩, ⟨fun h => ⟨by simpa using h, by omega⟩, fun h => by simpa using h.1⟩, fun _ n d hp => ⟨fun h => ⟨h, ?_⟩, fun h => h.1⟩, .inl rfl⟩
  have e1 : sgE s w v * d ≤ 0 := by
   have := Int.mul_le_mul_of_nonneg_right (show sgE s w v ≤ 0 by omega) (Int.le_of_lt hp.1)
   omega
  have e2 : 0 ≤ szW w * n := Int.mul_nonneg (Int.le_of_lt hW) hp.2.1
  omega
 ·
  unfold clEnter
  rw [h3]
  refine ⟨⟨hf1, hf2, hf3⟩, ⟨fun h => by simp at h, fun h => by omega⟩, fun h => by omega, .inl rfl⟩
/-- leaving: the sooner of two places; none if it lies before the beginning -/
theorem leave_ok {f : Plc} (hf : Par f.n f.d) (ok : Bool) {s w v : Int} (hw : w ≠ 0) (q : Pt) :
  let r := clLeave f ok (reachS s w v) q
  Par r.1.n r.1.d ∧ (r.2 = true ↔ ok = true ∧ 0 ≤ sgE s w v) ∧ (0 ≤ sgE s w v → ∀ n d, Par n d → (leQ n d r.1.n r.1.d ↔ leQ n d f.n f.d ∧ szW w * n ≤ sgE s w v * d)) ∧ (r.1 = f ∨ (r.1.at_ = q ∧ r.1.n = sgE s w v ∧ r.1.d = szW w)) := by
 have hW := szW_pos hw
 obtain ⟨hf1, hf2, hf3⟩ := hf
 rcases reach_cases s w v hw with ⟨h1, h2, h3⟩ | ⟨h1, h3⟩ | ⟨h1, h3⟩
 ·
  unfold clLeave
  rw [h3]
  simp only [if_true]
  by_cases hl : sgE s w v * f.d < f.n * szW w
  ·
   rw [if_pos hl]
   refine ⟨⟨hW, h1, h2⟩, ⟨fun h => ⟨h, h1⟩, fun h => h.1⟩, fun _ n d hp => ?_, .inr ⟨rfl, rfl, rfl⟩⟩
   show leQ n d (sgE s w v) (szW w) ↔ _
   have key : leQ n d (sgE s w v) (szW w) ↔ szW w * n ≤ sgE s w v * d := by unfold leQ; rw [Int.mul_comm n]
   rw [key]
   constructor
   ·
    intro h
    exact ⟨leQ_trans hp.1 hW hf1 (key.2 h) (show leQ (sgE s w v) (szW w) f.n f.d from Int.le_of_lt hl), h⟩
   · exact fun h => h.2
  ·
   rw [if_neg hl]
   refine ⟨⟨hf1, hf2, hf3⟩, ⟨fun h => ⟨h, h1⟩, fun h => h.1⟩, fun _ n d hp => ⟨fun h => ⟨h, ?_⟩, fun h => h.1⟩, .inl rfl⟩
   have h4 : leQ f.n f.d (sgE s w v) (szW w) := by unfold leQ; omega
   have := leQ_trans hp.1 hf1 hW h h4
   unfold leQ at this
   rwa [Int.mul_comm n] at this
 ·
  unfold clLeave
  rw [h3]
  refine ⟨⟨hf1, hf2, hf3⟩, ⟨fun h => by simp at h, fun h => by omega⟩, fun h => by omega, .inl rfl⟩
 ·
  unfold clLeave
  rw [h3]
  refine ⟨⟨hf1, hf2, hf3⟩, ⟨fun h => ⟨by simpa using h, by omega⟩, fun h => by simpa using h.1⟩, fun _ n d hp => ⟨fun h => ⟨h, ?_⟩, fun h => h.1⟩, .inl rfl⟩
  have e1 := Int.mul_le_mul_of_nonneg_right (show szW w ≤ sgE s w v by omega) (Int.le_of_lt hp.1)
  have e2 := mul_le_l (c := szW w) hp.2.2 (Int.le_of_lt hW)
  omega
/-- what a state stands for: the parameters that are left -/
structure ClI (st : ClS) (C : Int → Int → Prop) : Prop where
 first : Par st.first.n st.first.d
 last : Par st.last.n st.last.d
 yes : st.ok = true → ∀ n d, Par n d → (C n d ↔ leQ st.first.n st.first.d n d ∧ leQ n d st.last.n st.last.d)
 no : st.ok = false → ∀ n d, Par n d → ¬ C n d
theorem limit_ok {st : ClS} {C : Int → Int → Prop} (h : ClI st C) (s w f t : Int) (q : Int → Pt) :
  ClI (limitS st s w f t q) (fun n d => C n d ∧ Btw s w f t n d) := by
 unfold limitS
 by_cases hw : w = 0 ∨ t < f
 ·
  rw [if_pos hw]
  have hb : ∀ n d, Par n d → (Btw s w f t n d ↔ f ≤ s ∧ s ≤ t) := by
   intro n d hp
   unfold Btw
   rcases hw with rfl | hw
   ·
    rw [Int.zero_mul, Int.add_zero]
    constructor
    · exact fun ⟨h1, h2⟩ => ⟨Int.le_of_mul_le_mul_right h1 hp.1, Int.le_of_mul_le_mul_right h2 hp.1⟩
    · exact fun ⟨h1, h2⟩ => ⟨Int.mul_le_mul_of_nonneg_right h1 (Int.le_of_lt hp.1), Int.mul_le_mul_of_nonneg_right h2 (Int.le_of_lt hp.1)⟩
   ·
    constructor
    ·
     rintro ⟨h1, h2⟩
     have := Int.le_of_mul_le_mul_right (Int.le_trans h1 h2) hp.1
     omega
    · omega
  refine ⟨h.first, h.last, fun hok n d hp => ?_, fun hok n d hp => ?_⟩
  ·
   simp only [Bool.and_eq_true, decide_eq_true_eq] at hok
   rw [hb n d hp, h.yes hok.1 n d hp]
   exact ⟨fun x => x.1, fun x => ⟨x, hok.2⟩⟩
  ·
   rintro ⟨h1, h2⟩
   rw [hb n d hp] at h2
   cases hk : st.ok
   · exact h.no hk n d hp h1
   ·
    simp only [hk, Bool.true_and, Bool.and_eq_false_iff, decide_eq_false_iff_not] at hok
    omega
 ·
  rw [if_neg hw]
  have hw0 : w ≠ 0 := fun e => hw (.inl e)
  obtain ⟨e1, e2, e3, -⟩ := enter_ok h.first st.ok (s := s) (v := if w < 0 then t else f) hw0 (q (if w < 0 then t else f))
  generalize clEnter st.first st.ok (reachS s w (if w < 0 then t else f)) (q (if w < 0 then t else f)) = r1 at *
  obtain ⟨l1, l2, l3, -⟩ := leave_ok h.last r1.2 (s := s) (v := if w < 0 then f else t) hw0 (q (if w < 0 then f else t))
  generalize clLeave st.last r1.2 (reachS s w (if w < 0 then f else t)) (q (if w < 0 then f else t)) = r2 at *
  refine ⟨e1, l1, fun hok n d hp => ?_, fun hok n d hp => ?_⟩
  ·
   obtain ⟨k1, k2⟩ := l2.1 hok
   obtain ⟨k3, k4⟩ := e2.1 k1
   show C n d ∧ Btw s w f t n d ↔ leQ r1.1.n r1.1.d n d ∧ leQ n d r2.1.n r2.1.d
   rw [e3 k4 n d hp, l3 k2 n d hp, h.yes k3 n d hp, btw_iff hw0]
   exact ⟨fun ⟨⟨a, b⟩, c, d⟩ => ⟨⟨a, c⟩, b, d⟩, fun ⟨⟨a, c⟩, b, d⟩ => ⟨⟨a, b⟩, c, d⟩⟩
  ·
   rintro ⟨h1, h2⟩
   rw [btw_iff hw0] at h2
   obtain ⟨b1, b2⟩ := h2
   have hW := szW_pos hw0
   cases hk : st.ok
   · exact h.no hk n d hp h1
   ·
    have c1 : sgE s w (if w < 0 then t else f) ≤ szW w := by
     have := mul_le_l (c := szW w) hp.2.2 (Int.le_of_lt hW)
     exact Int.le_of_mul_le_mul_right (Int.le_trans b1 this) hp.1
    have c2 : 0 ≤ sgE s w (if w < 0 then f else t) := by
     have h0 : 0 ≤ szW w * n := Int.mul_nonneg (Int.le_of_lt hW) hp.2.1
     rcases Int.lt_or_le (sgE s w (if w < 0 then f else t)) 0 with hn | hn
     ·
      have := Int.mul_neg_of_neg_of_pos hn hp.1
      omega
     · exact hn
    have := l2.2 ⟨e2.2 ⟨hk, c1⟩, c2⟩
    have h5 : r2.2 = false := hok
    rw [this] at h5
    cases h5
end Go.Proofs.YtfdbidagdjnipaaGreatDoor
namespace Go.Proofs.YtfdbidagdjnipaaGreatDoor
open Go.RowKit

theorem round_exact {k b : Int} (hb : b ≠ 0) : roundS (k * b) b = k := by
 have hf : floorS (k * b) b = k := by
  unfold floorS
  have h1 : (k * b).tmod b = 0 := Int.mul_tmod_left k b
  have h2 : (k * b).tdiv b = k := Int.mul_tdiv_cancel k hb
  rw [h1, h2]
  simp
 unfold roundS
 rw [hf]
 have : k * b - k * b = 0 := by omega
 rw [this]
 rw [show absS 0 = 0 from rfl, if_neg]
 unfold absS
 split <;> omega
/-- the point of a segment with a parameter n / d, rounded where the box cuts the segment -/
def ptQ (a b : Pt) (x : Bx) (n d : Int) : Pt :=
 if ((b.x - a.x) * n) % d = 0 ∧ ((b.y - a.y) * n) % d = 0 then ⟨a.x + (b.x - a.x) * n / d, a.y + (b.y - a.y) * n / d⟩
 else if ((b.x - a.x) * n) % d = 0 ∧ (a.x + (b.x - a.x) * n / d = x.x0 ∨ a.x + (b.x - a.x) * n / d = x.x1) then atX a b (a.x + (b.x - a.x) * n / d)
 else atY a b (a.y + (b.y - a.y) * n / d)
/-- a place whose point is an end of the segment, or where the box cuts it -/
def GoodAt (a b : Pt) (x : Bx) (p : Plc) : Prop :=
 (p.n = 0 ∧ p.at_ = a) ∨ (p.n = p.d ∧ p.at_ = b) ∨
 (∃ E, (E = x.x0 ∨ E = x.x1) ∧ b.x - a.x ≠ 0 ∧ (b.x - a.x) * p.n = (E - a.x) * p.d ∧ p.at_ = atX a b E) ∨
 (∃ E, (E = x.y0 ∨ E = x.y1) ∧ b.y - a.y ≠ 0 ∧ (b.y - a.y) * p.n = (E - a.y) * p.d ∧ p.at_ = atY a b E)
theorem exact_x {a b : Pt} {E n d k : Int} (hd : 0 < d) (hx : b.x - a.x ≠ 0) (h : (b.x - a.x) * n = (E - a.x) * d) (hk : (b.y - a.y) * n = k * d) : atxS a b E = a.y + k := by
 have e : (b.y - a.y) * (E - a.x) = k * (b.x - a.x) := by
  have h1 : (b.y - a.y) * (E - a.x) * d = k * (b.x - a.x) * d := by
   have x1 : (b.y - a.y) * (E - a.x) * d = (b.y - a.y) * ((E - a.x) * d) := Int.mul_assoc _ _ _
   have x2 : k * (b.x - a.x) * d = (b.x - a.x) * (k * d) := by rw [Int.mul_comm k, Int.mul_assoc]
   rw [x1, x2, ← h, ← hk, ← Int.mul_assoc, ← Int.mul_assoc, Int.mul_comm (b.y - a.y)]
  exact Int.eq_of_mul_eq_mul_right (by omega) h1
 unfold atxS
 rw [e, round_exact hx]
theorem exact_y {a b : Pt} {E n d k : Int} (hd : 0 < d) (hx : b.y - a.y ≠ 0) (h : (b.y - a.y) * n = (E - a.y) * d) (hk : (b.x - a.x) * n = k * d) : atxS (turnP a) (turnP b) E = a.x + k :=
 exact_x (a := turnP a) (b := turnP b) hd hx h hk
theorem div_of {m k d : Int} (hd : 0 < d) (h : m = k * d) : m % d = 0 ∧ m / d = k := by
 subst h
 exact ⟨Int.mul_emod_left k d, Int.mul_ediv_cancel k (by omega)⟩
theorem of_div {m d : Int} (h : m % d = 0) : m = m / d * d := by
 have := Int.mul_ediv_add_emod m d
 rw [h, Int.add_zero, Int.mul_comm] at this
 exact this.symm
theorem good_pt {a b : Pt} {x : Bx} {p : Plc} (hp : 0 < p.d) (h : GoodAt a b x p) : p.at_ = ptQ a b x p.n p.d := by
 unfold ptQ
 rcases h with ⟨h1, h2⟩ | ⟨h1, h2⟩ | ⟨E, hE, hx, h1, h2⟩ | ⟨E, hE, hy, h1, h2⟩
 ·
  rw [h1, h2, Int.mul_zero, Int.mul_zero, Int.zero_emod, if_pos ⟨rfl, rfl⟩, Int.zero_ediv]
  rw [Pt.ext_iff']
  exact ⟨by simp, by simp⟩
 ·
  obtain ⟨e1, e2⟩ := div_of (m := (b.x - a.x) * p.n) hp (by rw [h1])
  obtain ⟨e3, e4⟩ := div_of (m := (b.y - a.y) * p.n) hp (by rw [h1])
  rw [if_pos ⟨e1, e3⟩, e2, e4, h2, Pt.ext_iff']
  exact ⟨by simp; omega, by simp; omega⟩
 ·
  obtain ⟨e1, e2⟩ := div_of hp h1
  have e3 : a.x + (b.x - a.x) * p.n / p.d = E := by rw [e2]; omega
  by_cases hd : ((b.y - a.y) * p.n) % p.d = 0
  ·
   rw [if_pos ⟨e1, hd⟩, h2, e3]
   unfold atX
   rw [exact_x hp hx h1 (of_div hd)]
  · rw [if_neg (fun e => hd e.2), if_pos ⟨e1, by rw [e3]; exact hE⟩, e3, h2]
 ·
  obtain ⟨e1, e2⟩ := div_of hp h1
  have e3 : a.y + (b.y - a.y) * p.n / p.d = E := by rw [e2]; omega
  by_cases hd : ((b.x - a.x) * p.n) % p.d = 0
  ·
   rw [if_pos ⟨hd, e1⟩, h2, e3]
   unfold atY
   rw [exact_y hp hy h1 (of_div hd)]
  · rw [if_neg (fun e => hd e.1), if_neg (fun e => hd e.1), e3, h2]
/-- the point is one of the parameter's value -/
theorem ptQ_val {a b : Pt} {x : Bx} {n d m e : Int} (hd : 0 < d) (he : 0 < e) (h : n * e = m * d) : ptQ a b x n d = ptQ a b x m e := by
 have key : ∀ c : Int, ((c * n) % d = 0 ↔ (c * m) % e = 0) ∧ c * n / d = c * m / e := by
  intro c
  have hc : c * n * e = c * m * d := by rw [Int.mul_assoc, h, Int.mul_assoc]
  have tw : ∀ {n d m e : Int}, 0 < d → 0 < e → c * n * e = c * m * d → (c * n) % d = 0 → (c * m) % e = 0 := by
   intro n d m e hd he hc h0
   have h1 := of_div h0
   have h2 : c * m = c * n / d * e := by
    have : c * m * d = c * n / d * e * d := by
     rw [← hc]
     generalize c * n / d = k at *
     rw [h1, Int.mul_assoc, Int.mul_comm d e, ← Int.mul_assoc]
    exact Int.eq_of_mul_eq_mul_right (by omega) this
   exact (div_of he h2).1
  refine ⟨⟨fun h0 => tw hd he hc h0, fun h0 => tw he hd hc.symm h0⟩, ?_⟩
  have e1 : c * n * e / (d * e) = c * n / d := Int.mul_ediv_mul_of_pos_left _ _ he
  have e2 : c * m * d / (e * d) = c * m / e := Int.mul_ediv_mul_of_pos_left _ _ hd
  rw [← e1, ← e2, hc, Int.mul_comm d e]
 obtain ⟨x1, x2⟩ := key (b.x - a.x)
 obtain ⟨y1, y2⟩ := key (b.y - a.y)
 unfold ptQ
 rw [x2, y2]
 simp only [x1, y1]
end Go.Proofs.YtfdbidagdjnipaaGreatDoor
namespace Go.Proofs.YtfdbidagdjnipaaGreatDoor
open Go.RowKit

/-- the point at n / d of the way lies in the box -/
def InQ (a b : Pt) (x : Bx) (n d : Int) : Prop := Btw a.x (b.x - a.x) x.x0 x.x1 n d ∧ Btw a.y (b.y - a.y) x.y0 x.y1 n d
structure ClipSome (a b : Pt) (x : Bx) (c e : Pt) (n1 d1 n2 d2 : Int) : Prop where
 lo : Par n1 d1
 hi : Par n2 d2
 le : leQ n1 d1 n2 d2
 all : ∀ n d, Par n d → (InQ a b x n d ↔ leQ n1 d1 n d ∧ leQ n d n2 d2)
 pc : c = ptQ a b x n1 d1
 pe : e = ptQ a b x n2 d2
def ClipIs (a b : Pt) (x : Bx) : Option (Pt × Pt) → Prop
 | none => ∀ n d, Par n d → ¬ InQ a b x n d
 | some (c, e) => ∃ n1 d1 n2 d2, ClipSome a b x c e n1 d1 n2 d2
theorem ClipSome.inLo {a b : Pt} {x : Bx} {c e : Pt} {n1 d1 n2 d2 : Int} (h : ClipSome a b x c e n1 d1 n2 d2) : InQ a b x n1 d1 := (h.all _ _ h.lo).2 ⟨Int.le_refl _, h.le⟩
theorem ClipSome.inHi {a b : Pt} {x : Bx} {c e : Pt} {n1 d1 n2 d2 : Int} (h : ClipSome a b x c e n1 d1 n2 d2) : InQ a b x n2 d2 := (h.all _ _ h.hi).2 ⟨h.le, Int.le_refl _⟩
theorem clip_uniq {a b : Pt} {x : Bx} {r r' : Option (Pt × Pt)} (h : ClipIs a b x r) (h' : ClipIs a b x r') : r = r' := by
 cases r with
 | none =>
  cases r' with
  | none => rfl
  | some p =>
   obtain ⟨c, e⟩ := p
   obtain ⟨n1, d1, n2, d2, k⟩ := h'
   exact absurd k.inLo (h _ _ k.lo)
 | some p =>
  obtain ⟨c, e⟩ := p
  obtain ⟨n1, d1, n2, d2, k⟩ := h
  cases r' with
  | none => exact absurd k.inLo (h' _ _ k.lo)
  | some p' =>
   obtain ⟨c', e'⟩ := p'
   obtain ⟨m1, f1, m2, f2, k'⟩ := h'
   have l1 : n1 * f1 = m1 * d1 := by
    have a1 := ((k.all _ _ k'.lo).1 k'.inLo).1
    have a2 := ((k'.all _ _ k.lo).1 k.inLo).1
    unfold leQ at a1 a2
    omega
   have l2 : n2 * f2 = m2 * d2 := by
    have a1 := ((k.all _ _ k'.hi).1 k'.inHi).2
    have a2 := ((k'.all _ _ k.hi).1 k.inHi).2
    unfold leQ at a1 a2
    omega
   rw [k.pc, k.pe, k'.pc, k'.pe, ptQ_val k.lo.1 k'.lo.1 l1, ptQ_val k.hi.1 k'.hi.1 l2]

theorem sg_step {s w v : Int} : w * sgE s w v = (v - s) * szW w := by
 unfold sgE szW
 split
 · rw [Int.mul_comm w, Int.mul_neg, ← Int.neg_mul, Int.neg_sub]
 · rw [Int.mul_comm]
theorem limit_good {st : ClS} {a b : Pt} {x : Bx} (hf : Par st.first.n st.first.d) (hl : Par st.last.n st.last.d) (gf : GoodAt a b x st.first) (gl : GoodAt a b x st.last) (s w f t : Int) (q : Int → Pt)
  (hq : w ≠ 0 → ∀ (p : Plc) v, (v = f ∨ v = t) → p.at_ = q v → w * p.n = (v - s) * p.d → GoodAt a b x p) : GoodAt a b x (limitS st s w f t q).first ∧ GoodAt a b x (limitS st s w f t q).last := by
 unfold limitS
 by_cases hw : w = 0 ∨ t < f
 · rw [if_pos hw]; exact ⟨gf, gl⟩
 ·
  rw [if_neg hw]
  have hw0 : w ≠ 0 := fun e => hw (.inl e)
  obtain ⟨e1, -, -, e4⟩ := enter_ok hf st.ok (s := s) (v := if w < 0 then t else f) hw0 (q (if w < 0 then t else f))
  generalize clEnter st.first st.ok (reachS s w (if w < 0 then t else f)) (q (if w < 0 then t else f)) = r1 at *
  obtain ⟨l1, -, -, l4⟩ := leave_ok hl r1.2 (s := s) (v := if w < 0 then f else t) hw0 (q (if w < 0 then f else t))
  generalize clLeave st.last r1.2 (reachS s w (if w < 0 then f else t)) (q (if w < 0 then f else t)) = r2 at *
  constructor
  ·
   show GoodAt a b x r1.1
   rcases e4 with e | ⟨e5, e6, e7⟩
   · rw [e]; exact gf
   · exact hq hw0 _ _ (by split <;> simp) e5 (by rw [e6, e7]; exact sg_step)
  ·
   show GoodAt a b x r2.1
   rcases l4 with e | ⟨e5, e6, e7⟩
   · rw [e]; exact gl
   · exact hq hw0 _ _ (by split <;> simp) e5 (by rw [e6, e7]; exact sg_step)
theorem cl0_ok (a b : Pt) : ClI ⟨⟨0, 1, a⟩, ⟨1, 1, b⟩, true⟩ (fun _ _ => True) := by
 refine ⟨show Par 0 1 from ⟨by decide, by decide, by decide⟩, show Par 1 1 from ⟨by decide, by decide, by decide⟩, fun _ n d hp => ?_, fun h => by cases h⟩
 have := hp.2
 unfold leQ
 show True ↔ 0 * d ≤ n * 1 ∧ n * 1 ≤ 1 * d
 constructor
 · intro _; omega
 · intro _; trivial
/-- the program's Clip is the part within the box -/
theorem clip_is (a b : Pt) (x : Bx) : ClipIs a b x (clipS a b x) := by
 have i0 := cl0_ok a b
 have i1 := limit_ok i0 a.x (b.x - a.x) x.x0 x.x1 (atX a b)
 have i2 := limit_ok i1 a.y (b.y - a.y) x.y0 x.y1 (atY a b)
 have g1 := limit_good (a := a) (b := b) (x := x) i0.first i0.last (.inl ⟨rfl, rfl⟩) (.inr (.inl ⟨rfl, rfl⟩)) a.x (b.x - a.x) x.x0 x.x1 (atX a b)
  (fun hw p v hv hp he => .inr (.inr (.inl ⟨v, hv, hw, he, hp⟩)))
 have g2 := limit_good (a := a) (b := b) (x := x) i1.first i1.last g1.1 g1.2 a.y (b.y - a.y) x.y0 x.y1 (atY a b)
  (fun hw p v hv hp he => .inr (.inr (.inr ⟨v, hv, hw, he, hp⟩)))
 unfold clipS clipSt
 generalize limitS (limitS ⟨⟨0, 1, a⟩, ⟨1, 1, b⟩, true⟩ a.x (b.x - a.x) x.x0 x.x1 (atX a b)) a.y (b.y - a.y) x.y0 x.y1 (atY a b) = st at *
 have hC : ∀ n d, ((True ∧ Btw a.x (b.x - a.x) x.x0 x.x1 n d) ∧ Btw a.y (b.y - a.y) x.y0 x.y1 n d) ↔ InQ a b x n d := fun n d => by
  unfold InQ; simp
 show ClipIs a b x (if st.ok = false ∨ st.last.n * st.first.d < st.first.n * st.last.d then none else some (st.first.at_, st.last.at_))
 by_cases h : st.ok = false ∨ st.last.n * st.first.d < st.first.n * st.last.d
 ·
  rw [if_pos h]
  intro n d hp hin
  rw [← hC] at hin
  cases hk : st.ok
  · exact i2.no hk n d hp hin
  ·
   have h1 := (i2.yes hk n d hp).1 hin
   have h2 := leQ_trans i2.first.1 hp.1 i2.last.1 h1.1 h1.2
   unfold leQ at h2
   rcases h with h | h
   · rw [hk] at h; cases h
   · omega
 ·
  rw [if_neg h]
  have hk : st.ok = true := by
   cases hk : st.ok
   · exact absurd (.inl hk) h
   · rfl
  refine ⟨st.first.n, st.first.d, st.last.n, st.last.d, i2.first, i2.last, ?_, fun n d hp => ?_, good_pt i2.first.1 g2.1, good_pt i2.last.1 g2.2⟩
  ·
   unfold leQ
   have : ¬ st.last.n * st.first.d < st.first.n * st.last.d := fun e => h (.inr e)
   omega
  · rw [← hC]; exact i2.yes hk n d hp
end Go.Proofs.YtfdbidagdjnipaaGreatDoor
