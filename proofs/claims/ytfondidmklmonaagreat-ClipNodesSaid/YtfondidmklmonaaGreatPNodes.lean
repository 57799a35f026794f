/- PLAIN: on how many sheets of a series a point lies: none, one, two or four. -/
import Derived.Test.YtfondidmklmonaaGreatJ16
import Derived.Test.YtfondidmklmonaaGreatJ02
set_option linter.unusedSimpArgs false
set_option linter.unusedVariables false
namespace Go.Proofs.YtfondidmklmonaaGreat

/-- how many of C strips of the width w contain t -/
def strips (t w : Int) (C : Nat) : Nat := (List.range C).countP (fun (c : Nat) => decide ((c : Int) * w ≤ t ∧ t ≤ (c : Int) * w + w))
theorem strips_is (t w : Int) (hw : 1 ≤ w) : ∀ C : Nat, (t < 0 ∨ (C : Int) * w < t → strips t w C = 0) ∧ (0 ≤ t ∧ t < (C : Int) * w → 1 ≤ strips t w C ∧ strips t w C ≤ 2) ∧ (0 < C ∧ t = (C : Int) * w → strips t w C = 1) ∧ (C = 0 → strips t w C = 0)
 | 0 => ⟨fun _ => rfl, fun h => by simp at h; omega, fun h => by omega, fun _ => rfl⟩
 | C + 1 => by
  obtain ⟨h1, h2, h3, h9⟩ := strips_is t w hw C
  have hs : strips t w (C + 1) = strips t w C + (if (C : Int) * w ≤ t ∧ t ≤ (C : Int) * w + w then 1 else 0) := by
   unfold strips
   rw [List.range_succ, List.countP_append, List.countP_singleton]
   congr 1
   by_cases h : (C : Int) * w ≤ t ∧ t ≤ (C : Int) * w + w
   · rw [if_pos h, if_pos (decide_eq_true h)]
   · rw [if_neg h, if_neg (by simpa using h)]
  have hM : ((C + 1 : Nat) : Int) * w = (C : Int) * w + w := by rw [Int.natCast_add, Int.add_mul]; simp
  have h0 : 0 ≤ (C : Int) * w := Int.mul_nonneg (by omega) (by omega)
  have hC0 : C = 0 → (C : Int) * w = 0 := fun e => by subst e; simp
  rw [hs, hM]
  generalize (C : Int) * w = M at *
  generalize strips t w C = k at *
  by_cases e1 : M ≤ t ∧ t ≤ M + w
  ·
   rw [if_pos e1]
   refine ⟨fun h => by omega, fun h => ?_, fun h => ?_, fun h => by omega⟩
   ·
    rcases Int.lt_or_le M t with h4 | h4
    · have := h1 (.inr h4); omega
    ·
     rcases Nat.eq_zero_or_pos C with h5 | h5
     · have := h9 h5; omega
     · have := h3 ⟨h5, by omega⟩; omega
   · have := h1 (.inr (by omega)); omega
  ·
   rw [if_neg e1]
   refine ⟨fun h => ?_, fun h => ?_, fun h => by omega, fun h => by omega⟩
   · have := h1 (by omega); omega
   · have := h2 (by omega); omega
/-- a grid row by row -/
theorem count_grid (f g : Nat → Bool) (C : Nat) (hC : 0 < C) : ∀ R : Nat, (List.range (R * C)).countP (fun i => f (i % C) && g (i / C)) = (List.range C).countP f * (List.range R).countP g
 | 0 => by simp
 | R + 1 => by
  have h1 : List.range ((R + 1) * C) = List.range (R * C) ++ (List.range C).map (R * C + ·) := by rw [Nat.succ_mul, List.range_add]
  rw [h1, List.countP_append, count_grid f g C hC R, List.countP_map, List.range_succ, List.countP_append, Nat.mul_add]
  congr 1
  have h2 : ∀ l : List Nat, (∀ x ∈ l, x < C) → l.countP ((fun i => f (i % C) && g (i / C)) ∘ (fun x => R * C + x)) = l.countP f * [R].countP g := by
   intro l hl
   induction l with
   | nil => simp
   | cons a l ih =>
    have ha := hl a (by simp)
    rw [List.countP_cons, List.countP_cons, ih (fun x hx => hl x (by simp [hx])), Nat.add_mul]
    congr 1
    have e1 : (R * C + a) % C = a := by rw [Nat.add_comm, Nat.add_mul_mod_self_right, Nat.mod_eq_of_lt ha]
    have e2 : (R * C + a) / C = R := by rw [Nat.add_comm, Nat.add_mul_div_right _ _ hC, Nat.div_eq_of_lt ha, Nat.zero_add]
    simp only [Function.comp, e1, e2, List.countP_singleton]
    cases f a <;> cases g R <;> simp
  exact h2 _ (fun x hx => List.mem_range.1 hx)
/-- the whole rectangle of a series -/
def wholeB (s : Se) : Bx := ⟨s.at_.x, s.at_.y, s.at_.x + s.cols * s.width, s.at_.y + s.rows * s.height⟩
def onSheets (s : Se) (p : Pt) : Nat := (List.range (s.cols * s.rows).toNat).countP (fun (i : Nat) => inB (boxOf s ((i : Int) + 1)) p)
theorem onSheets_is {s : Se} (h : SeBd s) (p : Pt) : (inB (wholeB s) p = true → onSheets s p = 1 ∨ onSheets s p = 2 ∨ onSheets s p = 4) ∧ (inB (wholeB s) p = false → onSheets s p = 0) := by
 obtain ⟨C, hC⟩ : ∃ C : Nat, s.cols = C := ⟨s.cols.toNat, by have := h.c; omega⟩
 obtain ⟨R, hR⟩ : ∃ R : Nat, s.rows = R := ⟨s.rows.toNat, by have := h.r; omega⟩
 have hCp : 0 < C := by have := h.c; omega
 have hRp : 0 < R := by have := h.r; omega
 have hN : (s.cols * s.rows).toNat = R * C := by rw [hC, hR, ← Int.natCast_mul, Int.toNat_natCast, Nat.mul_comm]
 have hcnt : onSheets s p = strips (p.x - s.at_.x) s.width C * strips (p.y - s.at_.y) s.height R := by
  unfold onSheets strips
  rw [hN, ← count_grid _ _ C hCp R]
  apply List.countP_congr
  intro i _
  have e1 : colS s ((i : Int) + 1) = ((i % C : Nat) : Int) := by
   unfold colS
   rw [show (i : Int) + 1 - 1 = i by omega, hC]
   rfl
  have e2 : rowS s ((i : Int) + 1) = ((i / C : Nat) : Int) := by
   unfold rowS
   rw [show (i : Int) + 1 - 1 = i by omega, hC]
   rfl
  unfold inB boxOf
  rw [e1, e2]
  simp only [decide_eq_true_eq, Bool.and_eq_true]
  generalize ((i % C : Nat) : Int) * s.width = a
  generalize ((i / C : Nat) : Int) * s.height = b
  constructor <;> intro h <;> refine ⟨?_, ?_⟩ <;> omega
 obtain ⟨x1, x2, x3, -⟩ := strips_is (p.x - s.at_.x) s.width h.w.1 C
 obtain ⟨y1, y2, y3, -⟩ := strips_is (p.y - s.at_.y) s.height h.h.1 R
 have hw : inB (wholeB s) p = decide (s.at_.x ≤ p.x ∧ p.x ≤ s.at_.x + (C : Int) * s.width ∧ s.at_.y ≤ p.y ∧ p.y ≤ s.at_.y + (R : Int) * s.height) := by unfold inB wholeB; rw [hC, hR]
 rw [hcnt, hw]
 generalize (C : Int) * s.width = A at *
 generalize (R : Int) * s.height = B at *
 generalize strips (p.x - s.at_.x) s.width C = k at *
 generalize strips (p.y - s.at_.y) s.height R = m at *
 constructor
 ·
  intro hd
  rw [decide_eq_true_eq] at hd
  have hk : k = 1 ∨ k = 2 := by
   rcases Int.lt_or_eq_of_le (show p.x - s.at_.x ≤ A by omega) with h1 | h1
   · have := x2 ⟨by omega, h1⟩; omega
   · exact .inl (x3 ⟨hCp, h1⟩)
  have hm : m = 1 ∨ m = 2 := by
   rcases Int.lt_or_eq_of_le (show p.y - s.at_.y ≤ B by omega) with h1 | h1
   · have := y2 ⟨by omega, h1⟩; omega
   · exact .inl (y3 ⟨hRp, h1⟩)
  rcases hk with rfl | rfl <;> rcases hm with rfl | rfl <;> simp
 ·
  intro hd
  rw [decide_eq_false_iff_not] at hd
  by_cases hx : s.at_.x ≤ p.x ∧ p.x ≤ s.at_.x + A
  ·
   have : m = 0 := y1 (by omega)
   rw [this, Nat.mul_zero]
  ·
   have : k = 0 := x1 (by omega)
   rw [this, Nat.zero_mul]
/-- how often a node stands in the parts -/
def nodeCnt (l : List Prt) (n : Nd) : Nat := (l.flatMap (·.nodes)).countP (fun x => decide (x = n))
theorem count_filter {l : List Nd} (hp : l.Pairwise (· ≠ ·)) {n : Nd} (hn : n ∈ l) (q : Nd → Bool) : (l.filter q).countP (fun x => decide (x = n)) = if q n then 1 else 0 := by
 induction l with
 | nil => cases hn
 | cons a l ih =>
  have hp' := List.pairwise_cons.1 hp
  by_cases ha : a = n
  ·
   subst ha
   have h0 : (l.filter q).countP (fun x => decide (x = a)) = 0 := by
    rw [List.countP_eq_zero]
    intro x hx
    have := hp'.1 x ((List.mem_filter.1 hx).1)
    simpa using fun e : x = a => this e.symm
   rw [List.filter_cons]
   by_cases hq : q a = true
   · rw [if_pos hq, List.countP_cons, h0]; simp [hq]
   · rw [if_neg hq, h0, if_neg hq]
  ·
   have hn' : n ∈ l := by
    rcases List.mem_cons.1 hn with e | e
    · exact absurd e.symm ha
    · exact e
   rw [List.filter_cons]
   by_cases hq : q a = true
   ·
    rw [if_pos hq, List.countP_cons, ih hp'.2 hn']
    simp [ha]
   · rw [if_neg hq, ih hp'.2 hn']
theorem nodeCnt_all (p : Pl) (s : Se) (hp : p.nodes.Pairwise (· ≠ ·)) {n : Nd} (hn : n ∈ p.nodes) : nodeCnt (allS p s) n = onSheets s n.pt := by
 unfold nodeCnt allS onSheets
 generalize List.range (s.cols * s.rows).toNat = l
 induction l with
 | nil => rfl
 | cons a l ih =>
  rw [List.map_cons, List.flatMap_cons, List.countP_append, ih, List.countP_cons, Nat.add_comm]
  congr 1
  exact count_filter hp hn _
end Go.Proofs.YtfondidmklmonaaGreat
