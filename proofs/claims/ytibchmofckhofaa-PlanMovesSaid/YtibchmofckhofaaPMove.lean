/- Plain law: moving and turning keeps a valid plan valid, as long as its points are valid. No walk here. -/
import Derived.Test.YtibchmofckhofaaPDrop
set_option linter.unusedSimpArgs false
set_option linter.unusedVariables false
namespace Go.Proofs.Ytibchmofckhofaa
open Go.RowKit

/-- A point turned by a quarter turn, if so, and moved. -/
def mvPt (by_ : Pt) (t : Bool) (q : Pt) : Pt := if t then ⟨-q.y + by_.x, q.x + by_.y⟩ else ⟨q.x + by_.x, q.y + by_.y⟩
def mvNd (by_ : Pt) (t : Bool) (n : Nd) : Nd := ⟨n.id, mvPt by_ t n.pt⟩
def mvAr (by_ : Pt) (t : Bool) (a : Ar) : Ar := ⟨a.id, a.fr, a.dst, a.via.map (mvPt by_ t), a.left, a.right⟩
def mvPl (by_ : Pt) (t : Bool) (p : Pl) : Pl := ⟨p.nodes.map (mvNd by_ t), p.arcs.map (mvAr by_ t), p.faces⟩

section
variable (d : Pt) (t : Bool)
theorem mv_inj {a b : Pt} (h : mvPt d t a = mvPt d t b) : a = b := by
  unfold mvPt at h
  cases t <;> simp only [Bool.false_eq_true, if_false, if_true, Pt.mk.injEq] at h <;> exact Pt.ext_iff'.2 (by omega)
theorem mv_cross (a b c e : Pt) : crossS (mvPt d t a) (mvPt d t b) (mvPt d t c) (mvPt d t e) = crossS a b c e := by
  unfold crossS mvPt
  cases t <;> simp only [Bool.false_eq_true, if_false, if_true] <;> grind
theorem mv_dot (a b c e : Pt) : dotS (mvPt d t a) (mvPt d t b) (mvPt d t c) (mvPt d t e) = dotS a b c e := by
  unfold dotS mvPt
  cases t <;> simp only [Bool.false_eq_true, if_false, if_true] <;> grind

/-- The points of a line keep their order or turn it round. -/
theorem mv_bef {a b : Pt} (hab : a ≠ b) : (∀ x y : Pt, crossS a b x y = 0 → bef (mvPt d t x) (mvPt d t y) = bef x y) ∨ (∀ x y : Pt, crossS a b x y = 0 → bef (mvPt d t x) (mvPt d t y) = bef y x) := by
  cases t
  · left
    intro x y _
    rw [Bool.eq_iff_iff, bef_iff, bef_iff]
    unfold mvPt
    simp only [Bool.false_eq_true, if_false]
    omega
  · have hu : ¬ (b.x - a.x = 0 ∧ b.y - a.y = 0) := Pt.sub_ne hab
    have key : ∀ x y : Pt, crossS a b x y = 0 → (b.x - a.x) * (y.y - x.y) = (b.y - a.y) * (y.x - x.x) := fun x y h => by unfold crossS at h; omega
    have hbef : ∀ x y : Pt, (bef (mvPt d true x) (mvPt d true y) = true ↔ y.y - x.y < 0 ∨ (y.y - x.y = 0 ∧ 0 < y.x - x.x)) := fun x y => by
      rw [bef_iff]; unfold mvPt; simp only [if_true]; omega
    have hbef2 : ∀ x y : Pt, (bef x y = true ↔ 0 < y.x - x.x ∨ (y.x - x.x = 0 ∧ 0 < y.y - x.y)) := fun x y => by rw [bef_iff]; omega
    generalize b.x - a.x = ux at *
    generalize b.y - a.y = uy at *
    -- the two directions of the line have the same sign (reversed), or not
    by_cases hs : (0 < ux ∧ uy ≤ 0) ∨ (ux < 0 ∧ 0 ≤ uy)
    · left
      intro x y h
      have hk := key x y h
      rw [Bool.eq_iff_iff, hbef, hbef2]
      generalize y.x - x.x = p at *
      generalize y.y - x.y = q at *
      rcases hs with ⟨h1, h2⟩ | ⟨h1, h2⟩
      · constructor
        · rintro (h3 | ⟨h3, h4⟩)
          · left
            have : ux * q < 0 := Int.mul_neg_of_pos_of_neg h1 h3
            rcases (show 0 < p ∨ p ≤ 0 by omega) with h5 | h5
            · exact h5
            · have := Int.mul_nonneg_of_nonpos_of_nonpos h2 h5; omega
          · left; exact h4
        · rintro (h3 | ⟨h3, h4⟩)
          · have h5 : uy * p ≤ 0 := Int.mul_nonpos_of_nonpos_of_nonneg h2 (by omega)
            rcases Int.lt_trichotomy q 0 with h6 | h6 | h6
            · left; exact h6
            · right; exact ⟨h6, h3⟩
            · have := Int.mul_pos h1 h6; omega
          · subst h3
            have := Int.mul_pos h1 h4
            simp at hk
            omega
      · constructor
        · rintro (h3 | ⟨h3, h4⟩)
          · left
            have : 0 < ux * q := Int.mul_pos_of_neg_of_neg h1 h3
            rcases (show 0 < p ∨ p ≤ 0 by omega) with h5 | h5
            · exact h5
            · have := Int.mul_nonpos_of_nonneg_of_nonpos h2 h5; omega
          · left; exact h4
        · rintro (h3 | ⟨h3, h4⟩)
          · have h5 : 0 ≤ uy * p := Int.mul_nonneg h2 (by omega)
            rcases Int.lt_trichotomy q 0 with h6 | h6 | h6
            · left; exact h6
            · right; exact ⟨h6, h3⟩
            · have := Int.mul_neg_of_neg_of_pos h1 h6; omega
          · subst h3
            have := Int.mul_neg_of_neg_of_pos h1 h4
            simp at hk
            omega
    · right
      intro x y h
      have hk := key x y h
      rw [Bool.eq_iff_iff, hbef, hbef2]
      have hs' : (0 ≤ ux ∧ 0 < uy) ∨ (ux ≤ 0 ∧ uy < 0) := by omega
      have hy1 : x.x - y.x = -(y.x - x.x) := by omega
      have hy2 : x.y - y.y = -(y.y - x.y) := by omega
      rw [hy1, hy2]
      generalize y.x - x.x = p at *
      generalize y.y - x.y = q at *
      rcases hs' with ⟨h1, h2⟩ | ⟨h1, h2⟩
      · constructor
        · rintro (h3 | ⟨h3, h4⟩)
          · have : ux * q ≤ 0 := Int.mul_nonpos_of_nonneg_of_nonpos h1 (by omega)
            rcases Int.lt_trichotomy p 0 with h6 | h6 | h6
            · left; omega
            · right; exact ⟨by omega, by omega⟩
            · have := Int.mul_pos h2 h6; omega
          · subst h3
            have := Int.mul_pos h2 h4
            simp at hk
            omega
        · rintro (h3 | ⟨h3, h4⟩)
          · left
            have : uy * p < 0 := Int.mul_neg_of_pos_of_neg h2 (by omega)
            rcases (show q < 0 ∨ 0 ≤ q by omega) with h5 | h5
            · exact h5
            · have := Int.mul_nonneg h1 h5; omega
          · left; omega
      · constructor
        · rintro (h3 | ⟨h3, h4⟩)
          · have : 0 ≤ ux * q := Int.mul_nonneg_of_nonpos_of_nonpos h1 (by omega)
            rcases Int.lt_trichotomy p 0 with h6 | h6 | h6
            · left; omega
            · right; exact ⟨by omega, by omega⟩
            · have := Int.mul_neg_of_neg_of_pos h2 h6; omega
          · subst h3
            have := Int.mul_neg_of_neg_of_pos h2 h4
            simp at hk
            omega
        · rintro (h3 | ⟨h3, h4⟩)
          · left
            have : 0 < uy * p := Int.mul_pos_of_neg_of_neg h2 (by omega)
            rcases (show q < 0 ∨ 0 ≤ q by omega) with h5 | h5
            · exact h5
            · have := Int.mul_nonpos_of_nonpos_of_nonneg h1 h5; omega
          · left; omega

theorem lo_same {f : Pt → Pt} {x y : Pt} (h : bef (f y) (f x) = bef y x) : lo (f x) (f y) = f (lo x y) := by
  unfold lo; rw [h]; split <;> rfl
theorem hi_same {f : Pt → Pt} {x y : Pt} (h : bef (f y) (f x) = bef y x) : hi (f x) (f y) = f (hi x y) := by
  unfold hi; rw [h]; split <;> rfl
theorem lo_turn {f : Pt → Pt} {x y : Pt} (h : bef (f y) (f x) = bef x y) : lo (f x) (f y) = f (hi x y) := by
  unfold lo hi
  rw [h]
  cases h1 : bef x y
  · cases h2 : bef y x
    · rw [bef_tri h1 h2]; simp
    · simp
  · rw [bef_asym h1]; simp
theorem hi_turn {f : Pt → Pt} {x y : Pt} (h : bef (f y) (f x) = bef x y) : hi (f x) (f y) = f (lo x y) := by
  unfold lo hi
  rw [h]
  cases h1 : bef x y
  · cases h2 : bef y x
    · rw [bef_tri h1 h2]; simp
    · simp
  · rw [bef_asym h1]; simp

/-- Four points of a line. -/
theorem mv_shared {a b c e : Pt} (hab : a ≠ b) (h1 : crossS a b a c = 0) (h2 : crossS a b a e = 0) : sharedS (mvPt d t a) (mvPt d t b) (mvPt d t c) (mvPt d t e) = sharedS a b c e := by
  have line : ∀ x y : Pt, crossS a b a x = 0 → crossS a b a y = 0 → crossS a b x y = 0 := fun x y hx hy => by
    have : crossS a b x y = crossS a b a y - crossS a b a x := by unfold crossS; grind
    omega
  have ha : crossS a b a a = 0 := by unfold crossS; grind
  have hb : crossS a b a b = 0 := by unfold crossS; grind
  have pick : ∀ (q : Pt → Prop) (x y : Pt), q x → q y → q (lo x y) ∧ q (hi x y) := fun q x y hx hy => by
    rcases lo_hi x y with ⟨e1, e2, -⟩ | ⟨e1, e2, -⟩ <;> rw [e1, e2]
    · exact ⟨hx, hy⟩
    · exact ⟨hy, hx⟩
  obtain ⟨l1, l2⟩ := pick (fun x => crossS a b a x = 0) a b ha hb
  obtain ⟨l3, l4⟩ := pick (fun x => crossS a b a x = 0) c e h1 h2
  obtain ⟨m1, m2⟩ := pick (fun x => crossS a b a x = 0) (lo a b) (lo c e) l1 l3
  obtain ⟨m3, m4⟩ := pick (fun x => crossS a b a x = 0) (hi a b) (hi c e) l2 l4
  have inj : ∀ x y : Pt, mvPt d t x = mvPt d t y ↔ x = y := fun x y => ⟨mv_inj d t, fun h => by rw [h]⟩
  rw [sharedS_def, sharedS_def]
  rcases mv_bef d t hab with hs | hs
  · rw [lo_same (hs _ _ (line _ _ hb ha)), lo_same (hs _ _ (line _ _ h2 h1)), hi_same (hs _ _ (line _ _ hb ha)), hi_same (hs _ _ (line _ _ h2 h1)), hi_same (hs _ _ (line _ _ l3 l1)), lo_same (hs _ _ (line _ _ l4 l2)), hs _ _ (line _ _ m2 m3)]
    simp only [inj]
  · rw [lo_turn (hs _ _ (line _ _ hb ha)), lo_turn (hs _ _ (line _ _ h2 h1)), hi_turn (hs _ _ (line _ _ hb ha)), hi_turn (hs _ _ (line _ _ h2 h1)), hi_turn (hs _ _ (line _ _ l4 l2)), lo_turn (hs _ _ (line _ _ l3 l1)), hs _ _ (line _ _ m3 m2)]
    simp only [inj]
    have : lo (hi a b) (hi c e) = hi (lo a b) (lo c e) ↔ hi (lo a b) (lo c e) = lo (hi a b) (hi c e) := eq_comm
    simp only [this]
theorem mv_meet {a b c e : Pt} (hab : a ≠ b) (hn : nears [a, b, c, e] = true) (hn' : nears [mvPt d t a, mvPt d t b, mvPt d t c, mvPt d t e] = true) : rmeetS (mvPt d t a) (mvPt d t b) (mvPt d t c) (mvPt d t e) = rmeetS a b c e := by
  unfold rmeetS
  rw [if_pos hn, if_pos hn']
  unfold rmeetN
  have hab' : mvPt d t a ≠ mvPt d t b := fun h => hab (mv_inj d t h)
  rw [if_neg (show ¬ (mvPt d t a = mvPt d t b ∧ mvPt d t c = mvPt d t e ∧ ¬ mvPt d t a = mvPt d t c) from fun h => hab' h.1), if_neg (show ¬ (a = b ∧ c = e ∧ ¬ a = c) from fun h => hab h.1)]
  simp only [mv_cross]
  split
  · split
    · rename_i hz
      exact mv_shared d t hab hz.1 hz.2.1
    · rfl
  · rfl
theorem mv_on {a b q : Pt} (hn : nears [a, b, q] = true) (hn' : nears [mvPt d t a, mvPt d t b, mvPt d t q] = true) : ronS (mvPt d t a) (mvPt d t b) (mvPt d t q) = ronS a b q := by
  unfold ronS
  rw [hn, hn', mv_cross, mv_dot]
end
end Go.Proofs.Ytibchmofckhofaa
