/- Plain law: the order of directions around a point. No walk here. -/
import Derived.Test.YtoclnkfeblfpbaaGreatJ05
set_option linter.unusedSimpArgs false
set_option linter.unusedVariables false
namespace Go.Proofs.YtoclnkfeblfpbaaGreat
open Go.RowKit

def lowS (o p : Pt) : Bool := decide (p.y < o.y) || (decide (p.y = o.y) && decide (p.x < o.x))
def lessS (o a b : Pt) : Bool := nears [o, a, b] && (!decide (a = o) && (!decide (b = o) && (if lowS o a = lowS o b then decide (0 < tw o a b) else lowS o b)))
def quartS (o a : Pt) : Int := if 0 < a.x - o.x ∧ 0 ≤ a.y - o.y then 0 else if a.x - o.x ≤ 0 ∧ 0 < a.y - o.y then 1 else if a.x - o.x < 0 then 2 else 3
def rlessS (o a b : Pt) : Bool := nears [o, a, b] && (!decide (a = o) && (!decide (b = o) && (decide (quartS o a < quartS o b) || (decide (quartS o a = quartS o b) && decide (0 < crossS o a o b)))))

/-- the signs of a product -/
theorem sgn_mul (x y : Int) : (0 < x → 0 < y → 0 < x * y) ∧ (0 < x → y < 0 → x * y < 0) ∧ (x < 0 → 0 < y → x * y < 0) ∧ (x < 0 → y < 0 → 0 < x * y) ∧ (x = 0 → x * y = 0) ∧ (y = 0 → x * y = 0) :=
  ⟨Int.mul_pos, Int.mul_neg_of_pos_of_neg, Int.mul_neg_of_neg_of_pos, Int.mul_pos_of_neg_of_neg, fun h => by rw [h, Int.zero_mul], fun h => by rw [h, Int.mul_zero]⟩

/-- the lower half, and the order of directions, of vectors -/
def lowV (x y : Int) : Prop := y < 0 ∨ (y = 0 ∧ x < 0)
def ltV (ux uy vx vy : Int) : Prop := (¬ lowV ux uy ∧ lowV vx vy) ∨ ((lowV ux uy ↔ lowV vx vy) ∧ 0 < ux * vy - uy * vx)
theorem ltV_irr (ux uy : Int) : ¬ ltV ux uy ux uy := by
  rintro (⟨h1, h2⟩ | ⟨-, h⟩)
  · exact h1 h2
  · rw [Int.mul_comm uy ux] at h; omega
theorem three (ux uy vx vy wx wy : Int) : vy * (ux * wy - uy * wx) = uy * (vx * wy - vy * wx) + wy * (ux * vy - uy * vx) := by grind
theorem threeX (ux uy vx vy wx wy : Int) : vx * (ux * wy - uy * wx) = ux * (vx * wy - vy * wx) + wx * (ux * vy - uy * vx) := by grind
theorem pos_of_mul {v A : Int} (hv : 0 < v) (h : 0 < v * A) : 0 < A := by
  rcases Int.lt_or_le 0 A with h1 | h1
  · exact h1
  · have := Int.mul_nonpos_of_nonneg_of_nonpos (Int.le_of_lt hv) h1; omega
theorem nn_of_mul {v A : Int} (hv : 0 < v) (h : 0 ≤ v * A) : 0 ≤ A := by
  rcases Int.lt_or_le A 0 with h1 | h1
  · have := Int.mul_neg_of_pos_of_neg hv h1; omega
  · exact h1
def upV (x y : Int) : Prop := 0 < y ∨ (y = 0 ∧ 0 < x)
/-- within the upper half: a cross that is positive (not negative) twice is so at the third. -/
theorem cross_up {ux uy vx vy wx wy : Int} (hu : upV ux uy) (hv : upV vx vy) (hw : upV wx wy) (h1 : 0 ≤ ux * vy - uy * vx) (h2 : 0 ≤ vx * wy - vy * wx) :
    0 ≤ ux * wy - uy * wx ∧ (0 < ux * vy - uy * vx ∨ 0 < vx * wy - vy * wx → 0 < ux * wy - uy * wx) := by
  have e := three ux uy vx vy wx wy
  unfold upV at *
  rcases hv with hv | ⟨rfl, hv⟩
  · have hw' : 0 < wy := by
      rcases hw with hw | ⟨rfl, hw⟩
      · exact hw
      · have := Int.mul_pos hv hw
        rw [Int.mul_zero] at h2; omega
    have a1 : 0 ≤ uy * (vx * wy - vy * wx) := Int.mul_nonneg (by omega) h2
    have a2 : 0 ≤ wy * (ux * vy - uy * vx) := Int.mul_nonneg (by omega) h1
    refine ⟨nn_of_mul hv (by omega), fun h => pos_of_mul hv ?_⟩
    rcases h with h | h
    · have := Int.mul_pos hw' h; omega
    · rcases hu with hu | ⟨rfl, hu⟩
      · have := Int.mul_pos hu h; omega
      · have h3 := Int.mul_pos hu hv
        have := Int.mul_pos hw' (show 0 < ux * vy - 0 * vx by rw [Int.zero_mul]; omega)
        omega
  · have hu' : uy = 0 := by
      rcases hu with hu | ⟨hu, -⟩
      · have := Int.mul_pos hu hv
        rw [Int.mul_zero] at h1; omega
      · exact hu
    subst hu'
    have hu2 : 0 < ux := by omega
    rw [Int.zero_mul] at h2 ⊢
    rw [Int.zero_mul, Int.mul_zero]
    have hwy : 0 ≤ wy := by omega
    have a1 := Int.mul_nonneg (Int.le_of_lt hu2) hwy
    refine ⟨by omega, fun h => ?_⟩
    rcases h with h | h
    · omega
    · have : 0 < wy := pos_of_mul hv (by omega)
      have := Int.mul_pos hu2 this
      omega
theorem low_up {x y : Int} (h0 : ¬ (x = 0 ∧ y = 0)) : ¬ lowV x y ↔ upV x y := by
  unfold lowV upV; omega
theorem low_neg {x y : Int} : lowV x y ↔ upV (-x) (-y) := by
  unfold lowV upV; omega
/-- within one half -/
theorem cross_half {ux uy vx vy wx wy : Int} (hu : ¬ (ux = 0 ∧ uy = 0)) (hv : ¬ (vx = 0 ∧ vy = 0)) (hw : ¬ (wx = 0 ∧ wy = 0)) (huv : lowV ux uy ↔ lowV vx vy) (hvw : lowV vx vy ↔ lowV wx wy) (h1 : 0 ≤ ux * vy - uy * vx) (h2 : 0 ≤ vx * wy - vy * wx) :
    0 ≤ ux * wy - uy * wx ∧ (0 < ux * vy - uy * vx ∨ 0 < vx * wy - vy * wx → 0 < ux * wy - uy * wx) := by
  by_cases hl : lowV vx vy
  · have := cross_up (low_neg.1 (huv.2 hl)) (low_neg.1 hl) (low_neg.1 (hvw.1 hl))
    simp only [Int.neg_mul_neg] at this
    exact this h1 h2
  · exact cross_up ((low_up hu).1 (fun h => hl (huv.1 h))) ((low_up hv).1 hl) ((low_up hw).1 (fun h => hl (hvw.2 h))) h1 h2
theorem ltV_trans {ux uy vx vy wx wy : Int} (hu : ¬ (ux = 0 ∧ uy = 0)) (hv : ¬ (vx = 0 ∧ vy = 0)) (hw : ¬ (wx = 0 ∧ wy = 0)) (h1 : ltV ux uy vx vy) (h2 : ltV vx vy wx wy) : ltV ux uy wx wy := by
  unfold ltV at *
  rcases h1 with ⟨a1, a2⟩ | ⟨a1, a2⟩
  · rcases h2 with ⟨b1, b2⟩ | ⟨b1, b2⟩
    · exact absurd a2 b1
    · exact .inl ⟨a1, b1.1 a2⟩
  · rcases h2 with ⟨b1, b2⟩ | ⟨b1, b2⟩
    · exact .inl ⟨fun h => b1 (a1.1 h), b2⟩
    · exact .inr ⟨a1.trans b1, (cross_half hu hv hw a1 b1 (by omega) (by omega)).2 (.inl a2)⟩
theorem ltV_ntrans {ux uy vx vy wx wy : Int} (hu : ¬ (ux = 0 ∧ uy = 0)) (hv : ¬ (vx = 0 ∧ vy = 0)) (hw : ¬ (wx = 0 ∧ wy = 0)) (h1 : ¬ ltV ux uy vx vy) (h2 : ¬ ltV vx vy wx wy) : ¬ ltV ux uy wx wy := by
  have key : ∀ {ax ay bx b : Int}, ¬ ltV ax ay bx b → (lowV ax ay ∧ ¬ lowV bx b) ∨ ((lowV bx b ↔ lowV ax ay) ∧ 0 ≤ bx * ay - b * ax) := by
    intro ax ay bx b h
    unfold ltV at h
    by_cases l1 : lowV ax ay
    · by_cases l2 : lowV bx b
      · refine .inr ⟨by simp [l1, l2], ?_⟩
        rw [Int.mul_comm bx, Int.mul_comm b]
        rcases Int.lt_or_le (ay * bx - ax * b) 0 with h3 | h3
        · exact absurd (.inr ⟨by simp [l1, l2], by omega⟩) h
        · exact h3
      · exact .inl ⟨l1, l2⟩
    · by_cases l2 : lowV bx b
      · exact absurd (.inl ⟨l1, l2⟩) h
      · refine .inr ⟨by simp [l1, l2], ?_⟩
        rw [Int.mul_comm bx, Int.mul_comm b]
        rcases Int.lt_or_le (ay * bx - ax * b) 0 with h3 | h3
        · exact absurd (.inr ⟨by simp [l1, l2], by omega⟩) h
        · exact h3
  intro h3
  rcases key h1 with ⟨a1, a2⟩ | ⟨a1, a2⟩
  · rcases key h2 with ⟨b1, b2⟩ | ⟨b1, b2⟩
    · exact a2 b1
    · rcases h3 with ⟨c1, c2⟩ | ⟨c1, c2⟩
      · exact c1 a1
      · exact a2 (b1.1 (c1.1 a1))
  · rcases key h2 with ⟨b1, b2⟩ | ⟨b1, b2⟩
    · rcases h3 with ⟨c1, c2⟩ | ⟨c1, c2⟩
      · exact c1 (a1.1 b1)
      · exact b2 (c1.1 (a1.1 b1))
    · rcases h3 with ⟨c1, c2⟩ | ⟨c1, c2⟩
      · exact c1 (a1.1 (b1.1 c2))
      · have := (cross_half hw hv hu b1 a1 b2 a2).1
        rw [Int.mul_comm wx, Int.mul_comm wy] at this
        omega
def quartV (x y : Int) : Int := if 0 < x ∧ 0 ≤ y then 0 else if x ≤ 0 ∧ 0 < y then 1 else if x < 0 then 2 else 3
theorem q_cases {x y : Int} (h : ¬ (x = 0 ∧ y = 0)) : (quartV x y = 0 ∧ 0 < x ∧ 0 ≤ y) ∨ (quartV x y = 1 ∧ x ≤ 0 ∧ 0 < y) ∨ (quartV x y = 2 ∧ x < 0 ∧ y ≤ 0) ∨ (quartV x y = 3 ∧ 0 ≤ x ∧ y < 0) := by
  unfold quartV
  split
  · omega
  · split
    · omega
    · split
      · omega
      · omega
theorem quart_lt {ux uy vx vy : Int} (hu : ¬ (ux = 0 ∧ uy = 0)) (hv : ¬ (vx = 0 ∧ vy = 0)) : (quartV ux uy < quartV vx vy ∨ (quartV ux uy = quartV vx vy ∧ 0 < ux * vy - uy * vx)) ↔ ltV ux uy vx vy := by
  unfold ltV
  have np : ∀ {a b : Int}, 0 ≤ a → b ≤ 0 → a * b ≤ 0 := fun h1 h2 => Int.mul_nonpos_of_nonneg_of_nonpos h1 h2
  have pn : ∀ {a b : Int}, a ≤ 0 → 0 ≤ b → a * b ≤ 0 := fun h1 h2 => Int.mul_nonpos_of_nonpos_of_nonneg h1 h2
  rcases q_cases hu with ⟨e1, a1, a2⟩ | ⟨e1, a1, a2⟩ | ⟨e1, a1, a2⟩ | ⟨e1, a1, a2⟩ <;> rcases q_cases hv with ⟨e2, b1, b2⟩ | ⟨e2, b1, b2⟩ | ⟨e2, b1, b2⟩ | ⟨e2, b1, b2⟩ <;> rw [e1, e2]
  case inl.inr.inl =>
    have h1 := Int.mul_pos a1 b2; have h2 := np a2 b1
    have l1 : ¬ lowV ux uy := by unfold lowV; omega
    have l2 : ¬ lowV vx vy := by unfold lowV; omega
    simp only [l1, l2, iff_self, true_and, not_false_eq_true, and_false, false_or, not_true_eq_false, false_and]; omega
  case inr.inl.inl =>
    have h1 := pn a1 b2; have h2 := Int.mul_pos a2 b1
    have l1 : ¬ lowV ux uy := by unfold lowV; omega
    have l2 : ¬ lowV vx vy := by unfold lowV; omega
    simp only [l1, l2, iff_self, true_and, not_false_eq_true, and_false, false_or, not_true_eq_false, false_and]; omega
  case inr.inr.inl.inr.inr.inr =>
    have h1 := Int.mul_pos_of_neg_of_neg a1 b2; have h2 := pn a2 b1
    have l1 : lowV ux uy := by unfold lowV; omega
    have l2 : lowV vx vy := by unfold lowV; omega
    simp only [l1, l2, iff_self, true_and, not_false_eq_true, and_false, false_or, not_true_eq_false, false_and]; omega
  case inr.inr.inr.inr.inr.inl =>
    have h1 := np a1 b2; have h2 := Int.mul_pos_of_neg_of_neg a2 b1
    have l1 : lowV ux uy := by unfold lowV; omega
    have l2 : lowV vx vy := by unfold lowV; omega
    simp only [l1, l2, iff_self, true_and, not_false_eq_true, and_false, false_or, not_true_eq_false, false_and]; omega
  all_goals
    first
    | (have l1 : ¬ lowV ux uy := by unfold lowV; omega
       have l2 : ¬ lowV vx vy := by unfold lowV; omega
       simp only [l1, l2, iff_self, true_and, not_false_eq_true, and_false, false_or, not_true_eq_false, false_and]; omega)
    | (have l1 : lowV ux uy := by unfold lowV; omega
       have l2 : lowV vx vy := by unfold lowV; omega
       simp only [l1, l2, iff_self, true_and, not_false_eq_true, and_false, false_or, not_true_eq_false, false_and]; omega)
    | (have l1 : ¬ lowV ux uy := by unfold lowV; omega
       have l2 : lowV vx vy := by unfold lowV; omega
       simp [l1, l2])
    | (have l1 : lowV ux uy := by unfold lowV; omega
       have l2 : ¬ lowV vx vy := by unfold lowV; omega
       simp [l1, l2])

theorem low_iff (o p : Pt) : lowS o p = true ↔ lowV (p.x - o.x) (p.y - o.y) := by
  unfold lowS lowV
  simp only [Bool.or_eq_true, Bool.and_eq_true, decide_eq_true_eq]
  omega
theorem ne_vec {a o : Pt} : a ≠ o ↔ ¬ (a.x - o.x = 0 ∧ a.y - o.y = 0) := by
  rw [Ne, Pt.ext_iff']; omega
/-- a is in the direction before b's, seen from o -/
def dirLt (o a b : Pt) : Prop := ltV (a.x - o.x) (a.y - o.y) (b.x - o.x) (b.y - o.y)
theorem less_iff (o a b : Pt) : lessS o a b = true ↔ nears [o, a, b] = true ∧ a ≠ o ∧ b ≠ o ∧ dirLt o a b := by
  unfold lessS
  simp only [Bool.and_eq_true, Bool.not_eq_true', decide_eq_false_iff_not]
  refine and_congr_right fun _ => and_congr_right fun _ => and_congr_right fun _ => ?_
  unfold dirLt ltV
  rw [← low_iff, ← low_iff]
  show _ ↔ _ ∨ (_ ∧ 0 < tw o a b)
  cases lowS o a <;> cases lowS o b <;> simp
theorem rless_iff (o a b : Pt) : rlessS o a b = true ↔ nears [o, a, b] = true ∧ a ≠ o ∧ b ≠ o ∧ dirLt o a b := by
  unfold rlessS
  simp only [Bool.and_eq_true, Bool.not_eq_true', decide_eq_false_iff_not]
  refine and_congr_right fun _ => and_congr_right fun h1 => and_congr_right fun h2 => ?_
  rw [Bool.or_eq_true, Bool.and_eq_true, decide_eq_true_eq, decide_eq_true_eq, decide_eq_true_eq]
  exact quart_lt (ne_vec.1 h1) (ne_vec.1 h2)
theorem less_eq (o a b : Pt) : lessS o a b = rlessS o a b := by
  rw [Bool.eq_iff_iff, less_iff, rless_iff]
end Go.Proofs.YtoclnkfeblfpbaaGreat
