/- PLAIN: two segments that do not meet, at a height between those of the ends of one of them. PLAIN: two segments of a valid plan are never at one place at half a height. PLAIN: an area as a sum over half heights; a chain that winds 0 or 1 times has a positive area. -/
import Derived.Test.YtoclnkfeblfpbaaGreatJ22
import Derived.Test.YtoclnkfeblfpbaaGreatJ12
set_option linter.unusedSimpArgs false
set_option linter.unusedVariables false
namespace Go.Proofs.YtoclnkfeblfpbaaGreat
open Go.RowKit

/-- where a segment is at half a height, times twice the difference of the heights of its ends -/
def xN (a b : Pt) (τ : Int) : Int := a.x * (2 * hY b - τ) + b.x * (τ - 2 * hY a)
/-- does a segment pass half a height, and how? -/
def sgH (τ : Int) (a b : Pt) : Int := (if τ < 2 * hY b then 1 else 0) - (if τ < 2 * hY a then 1 else 0)
/-- a point east of a segment, above its lower end and below a height -/
def wR (s t : Pt) (τ : Int) (v : Pt) : Int := if hY s < hY v ∧ 2 * hY v < τ ∧ tw s t v < 0 then 1 else 0
/-- how far a segment lies east of another one -/
def dX (a b s t : Pt) (τ : Int) : Int := xN a b τ * (hY t - hY s) - xN s t τ * (hY b - hY a)
theorem xN_swap (a b : Pt) (τ : Int) : xN b a τ = -xN a b τ := by unfold xN; grind
theorem dX_s (a b s t : Pt) : dX a b s t (2 * hY s) = 16777216 * (hY t - hY s) * tw a b s := by unfold dX xN tw hY; grind
theorem dX_t (a b s t : Pt) : dX a b s t (2 * hY t) = 16777216 * (hY t - hY s) * tw a b t := by unfold dX xN tw hY; grind
theorem dX_a (a b s t : Pt) : dX a b s t (2 * hY a) = -(16777216 * (hY b - hY a) * tw s t a) := by unfold dX xN tw hY; grind
theorem dX_b (a b s t : Pt) : dX a b s t (2 * hY b) = -(16777216 * (hY b - hY a) * tw s t b) := by unfold dX xN tw hY; grind
theorem dX_lin (a b s t : Pt) (α τ β : Int) : dX a b s t τ * (β - α) = dX a b s t α * (β - τ) + dX a b s t β * (τ - α) := by
 unfold dX xN
 generalize hY a = A; generalize hY b = B; generalize hY s = S; generalize hY t = T
 grind
theorem lin_sign {x y z p q : Int} (hp : 0 < p) (hq : 0 < q) (e : z * (p + q) = x * p + y * q) :
  (0 < x → 0 ≤ y → 0 < z) ∧ (0 ≤ x → 0 < y → 0 < z) ∧ (x ≤ 0 → y ≤ 0 → ¬ 0 < z) := by
 refine ⟨fun h1 h2 => ?_, fun h1 h2 => ?_, fun h1 h2 h3 => ?_⟩
 ·
  have a1 := Int.mul_pos h1 hp
  have a2 := Int.mul_nonneg h2 (Int.le_of_lt hq)
  apply Classical.byContradiction
  intro h3
  have := Int.mul_nonneg (show 0 ≤ -z by omega) (show 0 ≤ p + q by omega)
  rw [Int.neg_mul] at this
  omega
 ·
  have a1 := Int.mul_nonneg h1 (Int.le_of_lt hp)
  have a2 := Int.mul_pos h2 hq
  apply Classical.byContradiction
  intro h3
  have := Int.mul_nonneg (show 0 ≤ -z by omega) (show 0 ≤ p + q by omega)
  rw [Int.neg_mul] at this
  omega
 ·
  have a1 := Int.mul_nonneg (show 0 ≤ -x by omega) (Int.le_of_lt hp)
  have a2 := Int.mul_nonneg (show 0 ≤ -y by omega) (Int.le_of_lt hq)
  have a3 := Int.mul_pos h3 (show 0 < p + q by omega)
  rw [Int.neg_mul] at a1 a2
  omega
theorem sg_mul {c : Int} (hc : 0 < c) (u : Int) : (0 < 16777216 * c * u ↔ 0 < u) ∧ (0 ≤ 16777216 * c * u ↔ 0 ≤ u) ∧ (16777216 * c * u ≤ 0 ↔ u ≤ 0) := by
 have h : 0 < 16777216 * c := by omega
 generalize 16777216 * c = k at *
 rcases Int.lt_trichotomy u 0 with h1 | h1 | h1
 · have := Int.mul_neg_of_pos_of_neg h h1; omega
 · subst h1; simp
 · have := Int.mul_pos h h1; omega
/-- between two heights at which it is known where one segment lies of the other -/
theorem dX_between {a b s t : Pt} {α τ β : Int} (h1 : α < τ) (h2 : τ < β) :
  (0 < dX a b s t α → 0 ≤ dX a b s t β → 0 < dX a b s t τ) ∧ (0 ≤ dX a b s t α → 0 < dX a b s t β → 0 < dX a b s t τ) ∧ (dX a b s t α ≤ 0 → dX a b s t β ≤ 0 → ¬ 0 < dX a b s t τ) := by
 have := dX_lin a b s t α τ β
 rw [show β - α = (β - τ) + (τ - α) by omega] at this
 exact lin_sign (by omega) (by omega) this
theorem dkey {x y D : Int} (b : (0 < x → 0 ≤ y → 0 < D) ∧ (0 ≤ x → 0 < y → 0 < D) ∧ (x ≤ 0 → y ≤ 0 → ¬ 0 < D)) {P : Prop} (h : (P → 0 < x ∧ 0 ≤ y) ∨ (P → 0 ≤ x ∧ 0 < y)) (h2 : ¬ P → x ≤ 0 ∧ y ≤ 0) : 0 < D ↔ P := by
 by_cases hp : P
 ·
  refine ⟨fun _ => hp, fun _ => ?_⟩
  rcases h with h | h
  · exact b.1 (h hp).1 (h hp).2
  · exact b.2.1 (h hp).1 (h hp).2
 · exact ⟨fun hd => absurd hd (b.2.2 (h2 hp).1 (h2 hp).2), fun h => absurd h hp⟩
theorem mid_int {A B S T τ D : Int} {P1 P3 P4 : Prop} [Decidable P1] [Decidable P3] [Decidable P4] (hab : A < B) (hA : 2 * A ≠ τ) (hB : 2 * B ≠ τ) (h1 : 2 * S < τ) (h2 : τ < 2 * T)
  (key1 : A < S → τ < 2 * B → (0 < D ↔ P1)) (key2 : A = S → τ < 2 * B → (0 < D ↔ P4)) (key3 : S < A → 2 * A < τ → τ < 2 * B → (0 < D ↔ P3))
  (g1 : A < S → S < B → B < T → (P1 ↔ P4)) (g3 : S < A → B < T → (P3 ↔ P4)) :
  (if 2 * A < τ ∧ τ < 2 * B ∧ 0 < D then (1 : Int) else 0) = (if A < S ∧ S < B ∧ P1 then 1 else 0) + (if A = S ∧ P4 then 1 else 0) - 0 + ((if S < A ∧ 2 * A < τ ∧ P3 then 1 else 0) - (if S < B ∧ 2 * B < τ ∧ P4 then 1 else 0)) := by
 rcases Int.lt_trichotomy A S with c1 | c1 | c1
 ·
  have e1 : ¬ A = S := by omega
  have e2 : ¬ S < A := by omega
  have e3 : 2 * A < τ := by omega
  simp only [e1, e2, e3, c1, true_and, false_and, if_false]
  by_cases c2 : 2 * B < τ
  ·
   have e4 : ¬ τ < 2 * B := by omega
   simp only [c2, e4, true_and, false_and, if_false]
   by_cases c3 : S < B
   ·
    have := g1 c1 c3 (by omega)
    simp only [c3, this, true_and]
    omega
   · simp only [c3, false_and, if_false]; rfl
  ·
   have e4 : τ < 2 * B := by omega
   have e5 : S < B := by omega
   have := key1 c1 e4
   simp only [c2, e4, e5, this, true_and, false_and, and_false, if_false]
   omega
 ·
  have e1 : ¬ A < S := by omega
  have e2 : ¬ S < A := by omega
  have e3 : 2 * A < τ := by omega
  have e5 : S < B := by omega
  simp only [c1, e1, e2, e3, e5, Int.lt_irrefl, true_and, false_and, if_false, h1]
  by_cases c2 : 2 * B < τ
  ·
   have e4 : ¬ τ < 2 * B := by omega
   simp only [c2, e4, true_and, false_and, if_false]
   omega
  ·
   have e4 : τ < 2 * B := by omega
   have := key2 c1 e4
   simp only [c2, e4, this, true_and, false_and, if_false]
   omega
 ·
  have e1 : ¬ A < S := by omega
  have e2 : ¬ A = S := by omega
  have e5 : S < B := by omega
  simp only [e1, e2, c1, e5, true_and, false_and, if_false]
  by_cases c3 : 2 * A < τ
  ·
   by_cases c2 : 2 * B < τ
   ·
    have e4 : ¬ τ < 2 * B := by omega
    have := g3 c1 (by omega)
    simp only [c2, c3, e4, this, true_and, false_and, if_false]
    omega
   ·
    have e4 : τ < 2 * B := by omega
    have := key3 c1 c3 e4
    simp only [c2, c3, e4, this, true_and, false_and, if_false]
    omega
  ·
   have e4 : ¬ 2 * B < τ := by omega
   simp only [c3, e4, false_and, if_false]
   rfl
theorem edge_mid {a b s t : Pt} (na : near1 a = true) (nb : near1 b = true) (ns : near1 s = true) (nt : near1 t = true) (hab : hY a < hY b) (hst : hY s < hY t)
  (hno : a ≠ s → a ≠ t → b ≠ s → b ≠ t → NMt a b s t) {τ : Int} (hA : 2 * hY a ≠ τ) (hB : 2 * hY b ≠ τ) (h1 : 2 * hY s < τ) (h2 : τ < 2 * hY t) :
  (if 2 * hY a < τ ∧ τ < 2 * hY b ∧ 0 < dX a b s t τ then 1 else 0) = rtF s t a b + (wR s t τ a - wR s t τ b) := by
 have d1 := dirLt_iff ns nb nt; have d2 := dirLt_iff ns na nt
 have q : ∀ {u v : Pt}, near1 u = true → near1 v = true → (u = v ↔ hY u = hY v) := fun hu hv => ⟨fun e => by rw [e], hY_inj hu hv⟩
 have e1 : tw s b t = -tw s t b := tw_anti s t b
 have f1 : hY a = hY s → tw a b s = 0 ∧ tw s t a = 0 := fun h => by
  have := hY_inj na ns h
  subst this
  exact ⟨tw_aba a b, tw_aba a t⟩
 have f2 : hY b = hY t → tw a b t = 0 ∧ tw s t b = 0 := fun h => by
  have := hY_inj nb nt h
  subst this
  exact ⟨tw_abb a b, tw_abb s b⟩
 have f3 : hY a ≠ hY s → hY a ≠ hY t → hY b ≠ hY s → hY b ≠ hY t → _ := fun h1 h2 h3 h4 => four_ways (s := s) (t := t) hab hst (hno (fun e => h1 (by rw [e])) (fun e => h2 (by rw [e])) (fun e => h3 (by rw [e])) (fun e => h4 (by rw [e])))
 have k1 : (a = s ∧ dirLt s b t) ↔ (hY a = hY s ∧ tw s t b < 0) := by rw [d1, q na ns, e1]; constructor <;> (rintro ⟨h1, h2⟩; exact ⟨h1, by omega⟩)
 have k2 : ¬ (b = s ∧ dirLt s a t) := by rw [d2, q nb ns]; rintro ⟨h1, h2⟩; omega
 have m1 : cr1 a b s = if hY a < hY s ∧ hY s < hY b ∧ 0 < tw a b s then 1 else 0 := by unfold cr1; rw [if_neg (show ¬ (hY b < hY s ∧ hY s < hY a ∧ 0 < tw b a s) by omega)]
 have gS := dX_s a b s t; have gT := dX_t a b s t; have gA := dX_a a b s t; have gB := dX_b a b s t
 have bw := fun (α β : Int) (g1 : α < τ) (g2 : τ < β) => dX_between (a := a) (b := b) (s := s) (t := t) g1 g2
 unfold rtF
 rw [m1, if_neg k2]
 simp only [k1]
 unfold wR
 have sS := sg_mul (show 0 < hY t - hY s by omega) (tw a b s)
 have sT := sg_mul (show 0 < hY t - hY s by omega) (tw a b t)
 have sA := sg_mul (show 0 < hY b - hY a by omega) (tw s t a)
 have sB := sg_mul (show 0 < hY b - hY a by omega) (tw s t b)
 have bSB := bw (2 * hY s) (2 * hY b); have bST := bw (2 * hY s) (2 * hY t); have bAB := bw (2 * hY a) (2 * hY b); have bAT := bw (2 * hY a) (2 * hY t)
 rw [gS, gB] at bSB; rw [gS, gT] at bST; rw [gA, gB] at bAB; rw [gA, gT] at bAT
 clear hno d1 d2 e1 q na nb ns nt k1 k2 m1 gS gT gA gB bw
 generalize dX a b s t τ = D at *
 generalize 16777216 * (hY t - hY s) * tw a b s = vS at *
 generalize 16777216 * (hY t - hY s) * tw a b t = vT at *
 generalize 16777216 * (hY b - hY a) * tw s t a = vA at *
 generalize 16777216 * (hY b - hY a) * tw s t b = vB at *
 generalize tw a b s = u1 at *
 generalize tw a b t = u2 at *
 generalize tw s t a = u3 at *
 generalize tw s t b = u4 at *
 generalize hY a = A at *
 generalize hY b = B at *
 generalize hY s = S at *
 generalize hY t = T at *
 refine mid_int hab hA hB h1 h2 (fun c1 c2 => ?_) (fun c1 c2 => ?_) (fun c1 c3 c2 => ?_) (fun c1 c2 c3 => ?_) (fun c1 c2 => ?_)
 ·
  rcases Int.lt_trichotomy B T with c4 | c4 | c4
  ·
   have f3 := (f3 (by omega) (by omega) (by omega) (by omega)).1 c1 (by omega) c4
   clear f1 f2 bAB bAT bST sA sT
   exact dkey (bSB h1 c2) (.inl fun hp => ⟨sS.1.2 hp, by omega⟩) (fun hp => ⟨by omega, by omega⟩)
  ·
   obtain ⟨g1, g2⟩ := f2 c4
   clear f1 f2 f3 bAB bAT bSB sA sB
   exact dkey (bST h1 h2) (.inl fun hp => ⟨sS.1.2 hp, by omega⟩) (fun hp => ⟨by omega, by omega⟩)
  ·
   have f3 := (f3 (by omega) (by omega) (by omega) (by omega)).2.1 c1 c4
   clear f1 f2 bAB bAT bSB sA sB
   exact dkey (bST h1 h2) (.inl fun hp => ⟨sS.1.2 hp, by omega⟩) (fun hp => ⟨by omega, by omega⟩)
 ·
  obtain ⟨g1, g2⟩ := f1 c1
  clear f1 f2 f3 bAB bAT bST sA sT
  exact dkey (bSB h1 c2) (.inr fun hp => ⟨by omega, by omega⟩) (fun hp => ⟨by omega, by omega⟩)
 ·
  rcases Int.lt_trichotomy B T with c4 | c4 | c4
  ·
   have f3 := (f3 (by omega) (by omega) (by omega) (by omega)).2.2.1 c1 c4
   clear f1 f2 bST bAT bSB sS sT
   exact dkey (bAB c3 c2) (.inl fun hp => ⟨by omega, by omega⟩) (fun hp => ⟨by omega, by omega⟩)
  ·
   obtain ⟨g1, g2⟩ := f2 c4
   clear f1 f2 f3 bST bAT bSB sS sT
   exact dkey (bAB c3 c2) (.inl fun hp => ⟨by omega, by omega⟩) (fun hp => ⟨by omega, by omega⟩)
  ·
   have f3 := (f3 (by omega) (by omega) (by omega) (by omega)).2.2.2 c1 (by omega) c4
   clear f1 f2 bST bAB bSB sS sB
   exact dkey (bAT c3 h2) (.inl fun hp => ⟨by omega, by omega⟩) (fun hp => ⟨by omega, by omega⟩)
 · exact (f3 (by omega) (by omega) (by omega) (by omega)).1 c1 c2 c3
 · exact (f3 (by omega) (by omega) (by omega) (by omega)).2.2.1 c1 c2
end Go.Proofs.YtoclnkfeblfpbaaGreat
namespace Go.Proofs.YtoclnkfeblfpbaaGreat
open Go.RowKit

theorem bef_line {p q : Pt} {dx dy : Int} (hN : 0 < 8388608 * dy + dx) (e : (q.x - p.x) * dy = (q.y - p.y) * dx) :
  (0 ≤ dx → (bef p q = true ↔ hY p < hY q)) ∧ (dx < 0 → (bef p q = true ↔ hY q < hY p)) := by
 have k : (8388608 * (q.y - p.y) + (q.x - p.x)) * dx = (q.x - p.x) * (8388608 * dy + dx) := by grind
 have hd : hY q - hY p = 8388608 * (q.y - p.y) + (q.x - p.x) := by unfold hY; omega
 rw [← hd] at k
 have z : q.x - p.x = 0 → dx ≠ 0 → q.y - p.y = 0 := fun h0 h1 => by
  rw [h0, Int.zero_mul] at e
  rcases Int.mul_eq_zero.1 e.symm with h2 | h2
  · exact h2
  · exact absurd h2 h1
 rw [bef_iff]
 generalize 8388608 * dy + dx = N at *
 generalize hu : q.x - p.x = u at *
 have s1 : 0 < u → 0 < u * N := fun h => Int.mul_pos h hN
 have s2 : u < 0 → u * N < 0 := fun h => Int.mul_neg_of_neg_of_pos h hN
 have s3 : u = 0 → u * N = 0 := fun h => by rw [h, Int.zero_mul]
 refine ⟨fun h => ?_, fun h => ?_⟩
 ·
  by_cases h0 : dx = 0
  ·
   subst h0
   have hu0 : u = 0 := by
    rcases Int.lt_trichotomy u 0 with g | g | g
    · have := s2 g; omega
    · exact g
    · have := s1 g; omega
   unfold hY at *
   omega
  ·
   have hp : 0 < dx := by omega
   have t1 : 0 < hY q - hY p → 0 < (hY q - hY p) * dx := fun h => Int.mul_pos h hp
   have t2 : hY q - hY p < 0 → (hY q - hY p) * dx < 0 := fun h => Int.mul_neg_of_neg_of_pos h hp
   have t3 : hY q - hY p = 0 → (hY q - hY p) * dx = 0 := fun h => by rw [h, Int.zero_mul]
   omega
 ·
  have t1 : 0 < hY q - hY p → (hY q - hY p) * dx < 0 := fun g => Int.mul_neg_of_pos_of_neg g h
  have t2 : hY q - hY p < 0 → 0 < (hY q - hY p) * dx := fun g => Int.mul_pos_of_neg_of_neg g h
  have t3 : hY q - hY p = 0 → (hY q - hY p) * dx = 0 := fun h => by rw [h, Int.zero_mul]
  omega
theorem two_of {X Y : Pt} (h : bef X Y = true) : (if X = Y then (1 : Int) else if bef X Y then 2 else 0) = 2 := by
 rw [if_neg (fun e => by rw [e, bef_irr] at h; cases h), if_pos h]
theorem over_up {a b s t : Pt} (hab : hY a < hY b) (hst : hY s < hY t) (h1 : tw a b s = 0) (h2 : tw a b t = 0) (h3 : hY s < hY b) (h4 : hY a < hY t) : sharedS a b s t = 2 := by
 have hN : 0 < 8388608 * (b.y - a.y) + (b.x - a.x) := by unfold hY at hab; omega
 have ln : ∀ {p q : Pt}, tw a b p = 0 → tw a b q = 0 → (q.x - p.x) * (b.y - a.y) = (q.y - p.y) * (b.x - a.x) := by
  intro p q hp hq
  have : tw a b q - tw a b p = (b.x - a.x) * (q.y - p.y) - (b.y - a.y) * (q.x - p.x) := by unfold tw; grind
  rw [hp, hq] at this
  rw [Int.mul_comm (q.x - p.x), Int.mul_comm (q.y - p.y)]
  omega
 have B : ∀ {p q : Pt}, tw a b p = 0 → tw a b q = 0 → _ := fun hp hq => bef_line hN (ln hp hq)
 have ha := tw_aba a b; have hb := tw_abb a b
 have Bba := B hb ha; have Bts := B h2 h1; have Bsa := B h1 ha; have Btb := B h2 hb
 have Bab := B ha hb; have Bat := B ha h2; have Bsb := B h1 hb; have Bst := B h1 h2
 have Bta := B h2 ha; have Bbs := B hb h1
 rw [sharedS_def]
 by_cases hx : 0 ≤ b.x - a.x
 ·
  have e1 : bef b a = false := by rw [← Bool.not_eq_true, Bba.1 hx]; omega
  have e2 : bef t s = false := by rw [← Bool.not_eq_true, Bts.1 hx]; omega
  have l1 : lo a b = a := by unfold lo; rw [e1]; simp
  have l2 : hi a b = b := by unfold hi; rw [e1]; simp
  have l3 : lo s t = s := by unfold lo; rw [e2]; simp
  have l4 : hi s t = t := by unfold hi; rw [e2]; simp
  rw [l1, l2, l3, l4]
  unfold hi lo
  refine two_of ?_
  cases e3 : bef s a <;> cases e4 : bef t b <;> simp only [Bool.false_eq_true, if_true, if_false]
  · exact (Bsb.1 hx).2 h3
  · exact (Bst.1 hx).2 hst
  · exact (Bab.1 hx).2 hab
  · exact (Bat.1 hx).2 h4
 ·
  have hx : b.x - a.x < 0 := by omega
  have e1 : bef b a = true := (Bba.2 hx).2 hab
  have e2 : bef t s = true := (Bts.2 hx).2 hst
  have l1 : lo a b = b := by unfold lo; rw [e1]; simp
  have l2 : hi a b = a := by unfold hi; rw [e1]; simp
  have l3 : lo s t = t := by unfold lo; rw [e2]; simp
  have l4 : hi s t = s := by unfold hi; rw [e2]; simp
  rw [l1, l2, l3, l4]
  unfold hi lo
  refine two_of ?_
  cases e3 : bef t b <;> cases e4 : bef s a <;> simp only [Bool.false_eq_true, if_true, if_false]
  · exact (Bta.2 hx).2 h4
  · exact (Bts.2 hx).2 hst
  · exact (Bba.2 hx).2 hab
  · exact (Bbs.2 hx).2 h3
theorem tw_line {a b s t : Pt} (hab : a ≠ b) (h1 : tw a b s = 0) (h2 : tw a b t = 0) : tw s t a = 0 ∧ tw s t b = 0 := by
 have hne := Pt.sub_ne hab
 unfold tw at *
 have e1 : (b.x - a.x) * (t.y - s.y) - (b.y - a.y) * (t.x - s.x) = 0 := by grind
 have e2 : (b.x - a.x) * (a.y - s.y) - (b.y - a.y) * (a.x - s.x) = 0 := by grind
 have e3 : (b.x - a.x) * (b.y - s.y) - (b.y - a.y) * (b.x - s.x) = 0 := by grind
 exact ⟨parallel hne e1 e2, parallel hne e1 e3⟩
/-- segments on one line that overlap meet in more than a point -/
theorem over_two {a b s t u v x y : Pt} (hu : (u = a ∧ v = b) ∨ (u = b ∧ v = a)) (hx : (x = s ∧ y = t) ∨ (x = t ∧ y = s))
  (hab : hY a < hY b) (hst : hY s < hY t) (h1 : tw a b s = 0) (h2 : tw a b t = 0) (h3 : hY s < hY b) (h4 : hY a < hY t) : rmeetN u v x y = 2 := by
 have hs := over_up hab hst h1 h2 h3 h4
 have hne : a ≠ b := fun e => by rw [e] at hab; omega
 obtain ⟨h5, h6⟩ := tw_line hne h1 h2
 have f1 : ∀ a b c : Pt, tw b a c = -tw a b c := fun a b c => by unfold tw; grind
 have hs' : sharedS u v x y = 2 := by
  have c1 : sharedS b a s t = 2 := by rw [← sharedS_flip]; exact hs
  have c2 : sharedS a b t s = 2 := by rw [sharedS_comm, sharedS_flip, sharedS_comm]; exact hs
  have c3 : sharedS b a t s = 2 := by rw [sharedS_comm, sharedS_flip, sharedS_comm]; exact c1
  rcases hu with ⟨rfl, rfl⟩ | ⟨rfl, rfl⟩ <;> rcases hx with ⟨rfl, rfl⟩ | ⟨rfl, rfl⟩ <;> assumption
 have huv : u ≠ v := by
  rcases hu with ⟨rfl, rfl⟩ | ⟨rfl, rfl⟩
  · exact hne
  · exact fun e => hne e.symm
 have z1 : tw u v x = 0 ∧ tw u v y = 0 := by
  rcases hu with ⟨rfl, rfl⟩ | ⟨rfl, rfl⟩ <;> rcases hx with ⟨rfl, rfl⟩ | ⟨rfl, rfl⟩ <;> first | exact ⟨h1, h2⟩ | exact ⟨h2, h1⟩ | (constructor <;> rw [f1] <;> omega)
 obtain ⟨z2, z3⟩ := tw_line huv z1.1 z1.2
 have q1 : crossS u v x y = 0 := by rw [cross_d]; omega
 have q2 : crossS u v u x = 0 := z1.1
 have q3 : crossS u v u y = 0 := z1.2
 have q4 : crossS x y x u = 0 := z2
 have q5 : crossS x y x v = 0 := z3
 unfold rmeetN
 rw [if_neg (fun e => huv e.1), if_pos q1, if_pos ⟨q2, q3, q4, q5⟩]
 exact hs'
/-- two segments at one place at half a height lie on one line -/
theorem dX_zero {a b s t : Pt} (na : near1 a = true) (nb : near1 b = true) (ns : near1 s = true) (nt : near1 t = true) (hab : hY a < hY b) (hst : hY s < hY t)
  (hno : a ≠ s → a ≠ t → b ≠ s → b ≠ t → NMt a b s t) {τ : Int} (h1 : 2 * hY s < τ) (h2 : τ < 2 * hY t) (h3 : 2 * hY a < τ) (h4 : τ < 2 * hY b)
  (h0 : dX a b s t τ = 0) : tw a b s = 0 ∧ tw a b t = 0 := by
 have l1 := dX_lin a b s t (2 * hY s) τ (2 * hY t)
 have l2 := dX_lin a b s t (2 * hY a) τ (2 * hY b)
 rw [h0, Int.zero_mul, dX_s, dX_t] at l1
 rw [h0, Int.zero_mul, dX_a, dX_b] at l2
 have k1 : tw a b s * (2 * hY t - τ) + tw a b t * (τ - 2 * hY s) = 0 := by
  have : (16777216 * (hY t - hY s)) * (tw a b s * (2 * hY t - τ) + tw a b t * (τ - 2 * hY s)) = 0 := by
   rw [Int.mul_add, ← Int.mul_assoc, ← Int.mul_assoc]; exact l1.symm
  rcases Int.mul_eq_zero.1 this with g | g
  · omega
  · exact g
 have k2 : tw s t a * (2 * hY b - τ) + tw s t b * (τ - 2 * hY a) = 0 := by
  have : (16777216 * (hY b - hY a)) * (tw s t a * (2 * hY b - τ) + tw s t b * (τ - 2 * hY a)) = 0 := by
   rw [Int.mul_add, ← Int.mul_assoc, ← Int.mul_assoc]
   rw [Int.neg_mul, Int.neg_mul] at l2
   omega
  rcases Int.mul_eq_zero.1 this with g | g
  · omega
  · exact g
 have sg : ∀ {u v p q : Int}, 0 < p → 0 < q → u * p + v * q = 0 → (u ≤ 0 ∧ 0 ≤ v ∧ (u = 0 ↔ v = 0)) ∨ (0 ≤ u ∧ v ≤ 0 ∧ (u = 0 ↔ v = 0)) := by
  intro u v p q hp hq e
  have a1 : 0 < u → 0 < u * p := fun h => Int.mul_pos h hp
  have a2 : u < 0 → u * p < 0 := fun h => Int.mul_neg_of_neg_of_pos h hp
  have a3 : 0 < v → 0 < v * q := fun h => Int.mul_pos h hq
  have a4 : v < 0 → v * q < 0 := fun h => Int.mul_neg_of_neg_of_pos h hq
  have a5 : u = 0 → u * p = 0 := fun h => by rw [h, Int.zero_mul]
  have a6 : v = 0 → v * q = 0 := fun h => by rw [h, Int.zero_mul]
  omega
 have g1 := sg (show 0 < 2 * hY t - τ by omega) (show 0 < τ - 2 * hY s by omega) k1
 have g2 := sg (show 0 < 2 * hY b - τ by omega) (show 0 < τ - 2 * hY a by omega) k2
 have d := tw_d a b s t
 by_cases hp : tw a b t - tw a b s = 0
 · omega
 ·
  by_cases c1 : a = s
  ·
   subst c1
   have := tw_aba a b
   omega
  by_cases c2 : b = t
  ·
   subst c2
   have := tw_abb a b
   omega
  have NM := hno c1 (fun e => by rw [e] at h3; omega) (fun e => by rw [e] at h4; omega) c2 hp
  omega
section
variable {p : Pl} (h : Valid p)
include h
/-- different segments have at most a point in common -/
theorem Valid.seg_one {a b : Ar} (ha : a ∈ p.arcs) (hb : b ∈ p.arcs) {k m : Nat} (hk : k + 1 < (pathS p a).length) (hm : m + 1 < (pathS p b).length) (hne : ¬ (a = b ∧ k = m)) :
  ¬ (rmeetN ((pathS p a).getD k pt0) ((pathS p a).getD (k + 1) pt0) ((pathS p b).getD m pt0) ((pathS p b).getD (m + 1) pt0) = 2 ∧ rmeetN ((pathS p b).getD m pt0) ((pathS p b).getD (m + 1) pt0) ((pathS p a).getD k pt0) ((pathS p a).getD (k + 1) pt0) = 2) := by
 have hnear : ∀ {c d : Ar} {i j : Nat}, c ∈ p.arcs → d ∈ p.arcs → i + 1 < (pathS p c).length → j + 1 < (pathS p d).length → nears [(pathS p c).getD i pt0, (pathS p c).getD (i + 1) pt0, (pathS p d).getD j pt0, (pathS p d).getD (j + 1) pt0] = true := fun hc hd hi hj =>
  near4 (h.pt_near hc (by omega)) (h.pt_near hc hi) (h.pt_near hd (by omega)) (h.pt_near hd hj)
 have same : ∀ {a : Ar} (ha : a ∈ p.arcs) {i j : Nat}, i < j → j + 1 < (pathS p a).length → rmeetN ((pathS p a).getD i pt0) ((pathS p a).getD (i + 1) pt0) ((pathS p a).getD j pt0) ((pathS p a).getD (j + 1) pt0) ≠ 2 := by
  intro a ha i j hij hj
  have hap := h.segs.2.1 a ha i j hij hj
  unfold apartS segK at hap
  simp only at hap
  unfold rmeetS at hap
  rw [if_pos (hnear ha ha (by omega) hj)] at hap
  intro e
  rw [e] at hap
  split at hap <;> exact absurd hap (by decide)
 have other : ∀ {c d : Ar} {i j : Nat}, c ∈ p.arcs → d ∈ p.arcs → i + 1 < (pathS p c).length → j + 1 < (pathS p d).length → joinedS p (segK p c i) (segK p d j) = true →
   rmeetN ((pathS p c).getD i pt0) ((pathS p c).getD (i + 1) pt0) ((pathS p d).getD j pt0) ((pathS p d).getD (j + 1) pt0) ≠ 2 := by
  intro c d i j hc hd hi hj hjo e
  unfold joinedS segK rmeetS at hjo
  simp only at hjo
  rw [if_pos (hnear hc hd hi hj), e, if_neg (by decide)] at hjo
  exact absurd hjo (by decide)
 rintro ⟨h1, h2⟩
 by_cases hab : a = b
 ·
  subst hab
  rcases Nat.lt_trichotomy k m with hkm | hkm | hkm
  · exact same ha hkm hm h1
  · exact hne ⟨rfl, hkm⟩
  · exact same ha hkm hk h2
 ·
  have hpw := h.segs.2.2
  obtain ⟨i, hi, rfl⟩ := List.mem_iff_getElem.1 ha
  obtain ⟨j, hj, rfl⟩ := List.mem_iff_getElem.1 hb
  rw [List.pairwise_iff_getElem] at hpw
  rcases Nat.lt_trichotomy i j with hij | hij | hij
  · exact other ha hb hk hm (hpw i j hi hj hij k hk m hm) h1
  · subst hij; exact hab rfl
  · exact other hb ha hm hk (hpw j i hj hi hij m hm k hk) h2
/-- at half a height different segments are at different places -/
theorem Valid.dX_ne {c d : Ar} (hc : c ∈ p.arcs) (hd : d ∈ p.arcs) {k m : Nat} (hk : k + 1 < (pathS p c).length) (hm : m + 1 < (pathS p d).length) (hne : ¬ (c = d ∧ k = m)) {a b s t : Pt}
  (hu : ((pathS p c).getD k pt0 = a ∧ (pathS p c).getD (k + 1) pt0 = b) ∨ ((pathS p c).getD k pt0 = b ∧ (pathS p c).getD (k + 1) pt0 = a))
  (hx : ((pathS p d).getD m pt0 = s ∧ (pathS p d).getD (m + 1) pt0 = t) ∨ ((pathS p d).getD m pt0 = t ∧ (pathS p d).getD (m + 1) pt0 = s))
  {τ : Int} (h1 : 2 * hY s < τ) (h2 : τ < 2 * hY t) (h3 : 2 * hY a < τ) (h4 : τ < 2 * hY b) : dX a b s t τ ≠ 0 := by
 intro h0
 have n1 := h.pt_near hc (k := k) (by omega); have n2 := h.pt_near hc (k := k + 1) hk
 have n3 := h.pt_near hd (k := m) (by omega); have n4 := h.pt_near hd (k := m + 1) hm
 have NM := fun h1 h2 h3 h4 => h.seg_NM hc hd hk hm h1 h2 h3 h4
 have one := h.seg_one hc hd hk hm hne
 generalize (pathS p c).getD k pt0 = u at *
 generalize (pathS p c).getD (k + 1) pt0 = v at *
 generalize (pathS p d).getD m pt0 = x at *
 generalize (pathS p d).getD (m + 1) pt0 = y at *
 have na : near1 a = true ∧ near1 b = true := by rcases hu with ⟨rfl, rfl⟩ | ⟨rfl, rfl⟩ <;> exact ⟨by assumption, by assumption⟩
 have ns : near1 s = true ∧ near1 t = true := by rcases hx with ⟨rfl, rfl⟩ | ⟨rfl, rfl⟩ <;> exact ⟨by assumption, by assumption⟩
 have hno : a ≠ s → a ≠ t → b ≠ s → b ≠ t → NMt a b s t := fun g1 g2 g3 g4 => by
  rcases hu with ⟨rfl, rfl⟩ | ⟨rfl, rfl⟩ <;> rcases hx with ⟨rfl, rfl⟩ | ⟨rfl, rfl⟩
  · exact NM g1 g2 g3 g4
  · exact (NM g2 g1 g4 g3).comm.flip.comm
  · exact (NM g3 g4 g1 g2).flip
  · exact (NM g4 g3 g2 g1).flip.comm.flip.comm
 have hab : hY a < hY b := by omega
 have hst : hY s < hY t := by omega
 obtain ⟨z1, z2⟩ := dX_zero na.1 na.2 ns.1 ns.2 hab hst hno h1 h2 h3 h4 h0
 obtain ⟨z3, z4⟩ := tw_line (fun e => by rw [e] at hab; omega) z1 z2
 exact one ⟨over_two hu hx hab hst z1 z2 (by omega) (by omega), over_two hx hu hst hab z3 z4 (by omega) (by omega)⟩
end
end Go.Proofs.YtoclnkfeblfpbaaGreat
namespace Go.Proofs.YtoclnkfeblfpbaaGreat
open Go.RowKit

theorem sumNN {α : Type} (l : List α) (f : α → Int) (h : ∀ x ∈ l, 0 ≤ f x) : 0 ≤ (l.map f).sum := by
 induction l with
 | nil => exact Int.le_refl _
 | cons a l ih =>
  rw [List.map_cons, List.sum_cons]
  have := h a List.mem_cons_self
  have := ih fun x hx => h x (List.mem_cons_of_mem _ hx)
  omega
theorem sumPP {α : Type} (l : List α) (f : α → Int) (h : ∀ x ∈ l, 0 ≤ f x) (h1 : ∃ x ∈ l, 0 < f x) : 0 < (l.map f).sum := by
 induction l with
 | nil => obtain ⟨x, hx, -⟩ := h1; cases hx
 | cons a l ih =>
  rw [List.map_cons, List.sum_cons]
  have h0 := h a List.mem_cons_self
  have h2 := sumNN l f fun x hx => h x (List.mem_cons_of_mem _ hx)
  obtain ⟨x, hx, hp⟩ := h1
  rcases List.mem_cons.1 hx with rfl | hx
  · omega
  ·
   have := ih (fun x hx => h x (List.mem_cons_of_mem _ hx)) ⟨x, hx, hp⟩
   omega
theorem sumFl {α : Type} (l : List α) (f : α → List Int) : (l.flatMap f).sum = (l.map fun x => (f x).sum).sum := by
 induction l with
 | nil => rfl
 | cons a l ih => rw [List.flatMap_cons, List.sum_append, ih, List.map_cons, List.sum_cons]
/- ## positions with signs -/
/-- of the things beyond a place: the sum of their signs -/
def beyS (L : List (Int × Int)) (t : Int) : Int := (L.map fun v => if t < v.1 then v.2 else 0).sum
def beyE (L : List (Int × Int)) (t : Int) : Int := (L.map fun v => if t ≤ v.1 then v.2 else 0).sum
theorem cake_win {L : List (Int × Int)} (h2 : ∀ u ∈ L, u.2 ≠ 0 → (beyS L u.1 = 0 ∧ beyE L u.1 = 1) ∨ (beyS L u.1 = 1 ∧ beyE L u.1 = 0)) :
  ∀ (n : Nat) (t : Int), (∀ v ∈ L, v.2 ≠ 0 → v.1 ≤ t + n) → beyS L t = 0 ∨ beyS L t = 1
 | 0, t, h => by
  left
  refine sumZ _ _ fun v hv => ?_
  by_cases h0 : v.2 = 0
  · rw [h0]; split <;> rfl
  ·
   have := h v hv h0
   rw [if_neg (by omega)]
 | n + 1, t, h => by
  by_cases hx : ∃ v ∈ L, v.2 ≠ 0 ∧ v.1 = t + 1
  ·
   obtain ⟨u, hu, h0, e⟩ := hx
   have : beyS L t = beyE L u.1 := by
    refine sumC _ _ _ fun v _ => ?_
    rw [e]
    by_cases c : t < v.1
    · rw [if_pos c, if_pos (by omega)]
    · rw [if_neg c, if_neg (by omega)]
   have := h2 u hu h0
   omega
  ·
   have e : beyS L t = beyS L (t + 1) := by
    refine sumC _ _ _ fun v hv => ?_
    by_cases h0 : v.2 = 0
    · rw [h0]; split <;> split <;> rfl
    ·
     have : v.1 ≠ t + 1 := fun e => hx ⟨v, hv, h0, e⟩
     by_cases c : t < v.1
     · rw [if_pos c, if_pos (by omega)]
     · rw [if_neg c, if_neg (by omega)]
   rw [e]
   refine cake_win h2 n (t + 1) fun v hv h0 => ?_
   have := h v hv h0
   omega
theorem pos_bd : ∀ (L : List (Int × Int)), ∃ B : Nat, ∀ v ∈ L, -(B : Int) < v.1 ∧ v.1 < B
 | [] => ⟨0, fun _ h => by cases h⟩
 | a :: L => by
  obtain ⟨B, hB⟩ := pos_bd L
  refine ⟨B + a.1.natAbs + 1, fun v hv => ?_⟩
  rcases List.mem_cons.1 hv with rfl | hv
  · omega
  ·
   have := hB v hv
   omega
theorem cnt_lt (n m : Nat) (h : m ≤ n) : ((List.range n).map fun k : Nat => if (k : Int) < m then (1 : Int) else 0).sum = m := by
 induction n generalizing m with
 | zero =>
  have : m = 0 := by omega
  subst this
  rfl
 | succ n ih =>
  rw [List.range_succ, List.map_append, List.sum_append]
  simp only [List.map_cons, List.map_nil, List.sum_cons, List.sum_nil]
  by_cases h1 : m ≤ n
  · rw [ih m h1, if_neg (by omega)]; omega
  ·
   have hm : m = n + 1 := by omega
   subst hm
   rw [if_pos (by omega)]
   have := ih n (Nat.le_refl _)
   rw [sumC _ _ (fun k : Nat => if (k : Int) < n then (1 : Int) else 0) (fun k hk => by
    have := List.mem_range.1 hk
    rw [if_pos (by omega), if_pos (by omega)]), this]
   omega
theorem cake {L : List (Int × Int)} (h2 : ∀ u ∈ L, u.2 ≠ 0 → (beyS L u.1 = 0 ∧ beyE L u.1 = 1) ∨ (beyS L u.1 = 1 ∧ beyE L u.1 = 0)) (h3 : (L.map (·.2)).sum = 0) :
  0 ≤ (L.map fun u => u.1 * u.2).sum ∧ ((∃ u ∈ L, u.2 ≠ 0) → 0 < (L.map fun u => u.1 * u.2).sum) := by
 obtain ⟨B, hB⟩ := pos_bd L
 have e : (L.map fun u => u.1 * u.2).sum = ((List.range (2 * B)).map fun k : Nat => beyS L ((k : Int) - B)).sum := by
  have e1 : (L.map fun u => u.1 * u.2).sum = (L.map fun u => u.1 * u.2 + (B : Int) * u.2).sum := by
   rw [sumA L (fun u => u.1 * u.2) (fun u => (B : Int) * u.2), sumM L (B : Int) (fun u => u.2), h3, Int.mul_zero, Int.add_zero]
  rw [e1]
  unfold beyS
  rw [sumS]
  refine sumC _ _ _ fun u hu => ?_
  have hb := hB u hu
  have c := cnt_lt (2 * B) (u.1 + B).toNat (by omega)
  rw [sumC _ _ (fun k : Nat => u.2 * (if (k : Int) < (u.1 + B).toNat then (1 : Int) else 0)) (fun k hk => by
   by_cases g : (k : Int) - B < u.1
   · rw [if_pos g, if_pos (by omega), Int.mul_one]
   · rw [if_neg g, if_neg (by omega), Int.mul_zero]), sumM, c, show (((u.1 + B).toNat : Nat) : Int) = u.1 + B by omega]
  rw [← Int.add_mul, Int.mul_comm]
 have W : ∀ t, beyS L t = 0 ∨ beyS L t = 1 := fun t => cake_win h2 (B + t.natAbs) t fun v hv _ => by
  have := hB v hv
  omega
 rw [e]
 refine ⟨sumNN _ _ fun k _ => ?_, fun ⟨u, hu, h0⟩ => sumPP _ _ (fun k _ => ?_) ?_⟩
 · have := W ((k : Int) - B); omega
 · have := W ((k : Int) - B); omega
 ·
  have hb := hB u hu
  rcases h2 u hu h0 with ⟨-, g⟩ | ⟨g, -⟩
  ·
   refine ⟨(u.1 - 1 + B).toNat, List.mem_range.2 (by omega), ?_⟩
   rw [show (((u.1 - 1 + B).toNat : Nat) : Int) - B = u.1 - 1 by omega]
   have : beyS L (u.1 - 1) = beyE L u.1 := by
    refine sumC _ _ _ fun v _ => ?_
    by_cases c : u.1 ≤ v.1
    · rw [if_pos c, if_pos (by omega)]
    · rw [if_neg c, if_neg (by omega)]
   omega
  ·
   refine ⟨(u.1 + B).toNat, List.mem_range.2 (by omega), ?_⟩
   rw [show (((u.1 + B).toNat : Nat) : Int) - B = u.1 by omega]
   omega
/- ## sums over half heights -/
theorem half_sum (T : Nat) (u v : Int) (m : Nat) : ∀ n : Nat, ((List.range n).map fun j : Nat => if 2 * (j : Int) + 1 - 2 * T < 2 * ((m : Int) - T) then u + v * (2 * (j : Int) + 1 - 2 * T) else 0).sum = u * (min n m : Nat) + v * ((min n m : Nat) * (min n m : Nat) - 2 * T * (min n m : Nat))
 | 0 => by simp
 | n + 1 => by
  rw [List.range_succ, List.map_append, List.sum_append, half_sum T u v m n]
  simp only [List.map_cons, List.map_nil, List.sum_cons, List.sum_nil, Int.add_zero]
  by_cases h : n < m
  ·
   rw [if_pos (by omega), Nat.min_eq_left (by omega), Nat.min_eq_left (by omega)]
   rw [show ((n + 1 : Nat) : Int) = (n : Int) + 1 by omega]
   grind
  · rw [if_neg (by omega), Nat.min_eq_right (by omega), Nat.min_eq_right (by omega), Int.add_zero]
/-- a half height -/
def tauT (T j : Nat) : Int := 2 * (j : Int) + 1 - 2 * T
theorem edge_sum {T : Nat} {a b : Pt} (ha : -(T : Int) ≤ hY a ∧ hY a ≤ T) (hb : -(T : Int) ≤ hY b ∧ hY b ≤ T) :
  ((List.range (2 * T)).map fun j => sgH (tauT T j) a b * xN a b (tauT T j)).sum = (hY b - hY a) * (hY b - hY a) * (a.x + b.x) := by
 have f : ∀ c : Pt, -(T : Int) ≤ hY c ∧ hY c ≤ T → ((List.range (2 * T)).map fun j => if tauT T j < 2 * hY c then xN a b (tauT T j) else 0).sum = 2 * (a.x * hY b - b.x * hY a) * (hY c + T) + (b.x - a.x) * ((hY c + T) * (hY c + T) - 2 * T * (hY c + T)) := by
  intro c hc
  have := half_sum T (2 * (a.x * hY b - b.x * hY a)) (b.x - a.x) (hY c + T).toNat (2 * T)
  rw [Nat.min_eq_right (by omega), show (((hY c + T).toNat : Nat) : Int) = hY c + T by omega] at this
  rw [← this]
  refine sumC _ _ _ fun j _ => ?_
  have e : xN a b (tauT T j) = 2 * (a.x * hY b - b.x * hY a) + (b.x - a.x) * tauT T j := by unfold xN; grind
  rw [e, show hY c + (T : Int) - T = hY c by omega]
  rfl
 have e : ((List.range (2 * T)).map fun j => sgH (tauT T j) a b * xN a b (tauT T j)).sum = ((List.range (2 * T)).map fun j => (if tauT T j < 2 * hY b then xN a b (tauT T j) else 0) + -(if tauT T j < 2 * hY a then xN a b (tauT T j) else 0)).sum := by
  refine sumC _ _ _ fun j _ => ?_
  unfold sgH
  split <;> split <;> omega
 rw [e, sumA, sumN, f b hb, f a ha]
 generalize hY a = A; generalize hY b = B
 grind
/- ## wnS -/
theorem wnS_mul (p : Pl) (z : Int → Int) (c : Int) (f : Pt → Pt → Int) : wnS p z (fun a b => c * f a b) = c * wnS p z f := by
 unfold wnS stp
 rw [← sumM]
 refine sumC _ _ _ fun a _ => ?_
 rw [sumM, ← Int.mul_assoc, Int.mul_comm (z a.id), Int.mul_assoc]
theorem wnS_zero (p : Pl) (z : Int → Int) : wnS p z (fun _ _ => 0) = 0 := by
 have := wnS_mul p z 0 (fun _ _ => 0)
 rw [Int.zero_mul] at this
 simpa using this
theorem wnS_list {β : Type} (p : Pl) (z : Int → Int) (f : β → Pt → Pt → Int) : ∀ l : List β, wnS p z (fun a b => (l.map fun j => f j a b).sum) = (l.map fun j => wnS p z (f j)).sum
 | [] => wnS_zero p z
 | j :: l => by
  simp only [List.map_cons, List.sum_cons]
  rw [wnS_add p z (f j) (fun a b => (l.map fun j => f j a b).sum), wnS_list p z f l]
/-- where a segment is at half a height, with a common denominator -/
def xE (D : Int) (a b : Pt) (τ : Int) : Int := xN a b τ * (D / (hY b - hY a))
theorem xE_swap (D : Int) (a b : Pt) (τ : Int) : xE D b a τ = xE D a b τ := by
 unfold xE
 rw [xN_swap, show hY a - hY b = -(hY b - hY a) by omega, Int.ediv_neg, Int.neg_mul_neg]
theorem xE_cmp {D : Int} (hD : 0 < D) {a b s t : Pt} {τ : Int} (hab : hY a < hY b) (hst : hY s < hY t) (d1 : hY b - hY a ∣ D) (d2 : hY t - hY s ∣ D) :
  (xE D s t τ < xE D a b τ ↔ 0 < dX a b s t τ) ∧ (xE D s t τ = xE D a b τ ↔ dX a b s t τ = 0) := by
 obtain ⟨q, hq⟩ := d1
 obtain ⟨r, hr⟩ := d2
 unfold xE
 have e1 : D / (hY b - hY a) = q := by rw [hq]; exact Int.mul_ediv_cancel_left _ (by omega)
 have e2 : D / (hY t - hY s) = r := by rw [hr]; exact Int.mul_ediv_cancel_left _ (by omega)
 rw [e1, e2]
 unfold dX
 generalize xN a b τ = X at *
 generalize xN s t τ = Y at *
 have hn : 0 < hY b - hY a := by omega
 have hm : 0 < hY t - hY s := by omega
 generalize hY b - hY a = n at *
 generalize hY t - hY s = m at *
 have k : (X * q - Y * r) * (n * m) = D * (X * m - Y * n) := by
  have h1 : (X * q - Y * r) * (n * m) = (n * q) * (X * m) - (m * r) * (Y * n) := by grind
  rw [h1, ← hq, ← hr, Int.mul_sub]
 have hnm := Int.mul_pos hn hm
 generalize n * m = w at *
 generalize X * m - Y * n = x at *
 have a1 : 0 < X * q - Y * r → 0 < (X * q - Y * r) * w := fun h => Int.mul_pos h hnm
 have a2 : X * q - Y * r < 0 → (X * q - Y * r) * w < 0 := fun h => Int.mul_neg_of_neg_of_pos h hnm
 have a3 : X * q - Y * r = 0 → (X * q - Y * r) * w = 0 := fun h => by rw [h, Int.zero_mul]
 have b1 : 0 < x → 0 < D * x := fun h => Int.mul_pos hD h
 have b2 : x < 0 → D * x < 0 := fun h => Int.mul_neg_of_pos_of_neg hD h
 have b3 : x = 0 → D * x = 0 := fun h => by rw [h, Int.mul_zero]
 rw [k] at a1 a2 a3
 generalize D * x = Dx at *
 generalize X * q = g1 at *
 generalize Y * r = g2 at *
 constructor <;> constructor <;> intro <;> omega
theorem div_all : ∀ l : List Int, (∀ x ∈ l, x ≠ 0) → ∃ D, 0 < D ∧ ∀ x ∈ l, x ∣ D
 | [], _ => ⟨1, by omega, fun _ h => by cases h⟩
 | a :: l, h => by
  obtain ⟨D, h1, h2⟩ := div_all l fun x hx => h x (List.mem_cons_of_mem _ hx)
  have ha := h a List.mem_cons_self
  refine ⟨(a.natAbs : Int) * D, Int.mul_pos (by omega) h1, fun x hx => ?_⟩
  rcases List.mem_cons.1 hx with rfl | hx
  · exact Int.dvd_trans (Int.dvd_natAbs_self) (Int.dvd_mul_right _ _)
  · exact Int.dvd_trans (h2 x hx) (Int.dvd_mul_left _ _)
/-- the segments that pass half a height -/
def itemsT (p : Pl) (z : Int → Int) (D τ : Int) : List (Int × Int) := p.arcs.flatMap fun a => (List.range ((pathS p a).length - 1)).map fun k =>
 (xE D ((pathS p a).getD k pt0) ((pathS p a).getD (k + 1) pt0) τ, z a.id * sgH τ ((pathS p a).getD k pt0) ((pathS p a).getD (k + 1) pt0))
theorem items_sum (p : Pl) (z : Int → Int) (D τ : Int) (G : Int → Int → Int) (hG : ∀ x c s, G x (c * s) = c * G x s) :
  ((itemsT p z D τ).map fun u => G u.1 u.2).sum = wnS p z (fun a b => G (xE D a b τ) (sgH τ a b)) := by
 unfold itemsT wnS stp
 rw [List.map_flatMap, sumFl]
 refine sumC _ _ _ fun a _ => ?_
 rw [List.map_map, ← sumM]
 refine sumC _ _ _ fun k _ => ?_
 exact hG _ _ _
section
variable {p : Pl} (h : Valid p)
include h
/-- left and right of each segment of an arc -/
theorem Valid.side_all {z : Int → Int} (hz : ClosedC p z) {a : Ar} (ha : a ∈ p.arcs) {m : Nat} (hm : m + 1 < (pathS p a).length) :
  rtW p z ((pathS p a).getD m pt0) ((pathS p a).getD (m + 1) pt0) = Hz p z (-a.id) ∧ rtW p z ((pathS p a).getD (m + 1) pt0) ((pathS p a).getD m pt0) = Hz p z a.id := by
 have hl := pathS_length p a
 have hid := (h.id_pos ha).1
 have s0 := h.side_seg hz ha hm
 have s1 := h.side_path hz ha m hm
 have s2 := h.side_path hz ha a.via.length (by omega)
 have hp := h.Hz_pos hz ha
 have h2 : (pathS p a).getD (a.via.length + 1) pt0 = nodeAt p a.dst := by
  have := path_end p a
  rwa [hl, show a.via.length + 2 - 1 = a.via.length + 1 by omega] at this
 have hn : Hz p z (-a.id) = ltW p z ((pathS p a).getD (a.via.length + 1) pt0) ((pathS p a).getD a.via.length pt0) := by
  unfold Hz
  rw [h.start_neg ha, h.to_neg ha, h2]
 have j2 : ltW p z ((pathS p a).getD (m + 1) pt0) ((pathS p a).getD m pt0) - rtW p z ((pathS p a).getD (m + 1) pt0) ((pathS p a).getD m pt0) = -z a.id := by
  by_cases h0 : m + 1 = (pathS p a).length - 1
  ·
   obtain ⟨n, hn, e1, e2⟩ := h.sound.at_dst ha
   have := h.jump_node hz hn (d := -a.id) (mem_dartL.2 ⟨a, ha, .inr ⟨rfl, e1.symm⟩⟩)
   rw [h.to_neg ha, show a.via.length = m by omega] at this
   rw [h0, path_end, e2, this]
   unfold zD; rw [if_neg (by omega), Int.neg_neg]
  · exact h.jump_prev z ha (by omega)
 omega
theorem Valid.one_seg {z : Int → Int} {a : Ar} (ha : a ∈ p.arcs) {m : Nat} (hm : m + 1 < (pathS p a).length) {f : Pt → Pt → Int}
  (h0 : ∀ c ∈ p.arcs, z c.id ≠ 0 → ∀ k, k + 1 < (pathS p c).length → ¬ (c = a ∧ k = m) → f ((pathS p c).getD k pt0) ((pathS p c).getD (k + 1) pt0) = 0) :
  wnS p z f = z a.id * f ((pathS p a).getD m pt0) ((pathS p a).getD (m + 1) pt0) := by
 unfold wnS stp
 have := sumH p.arcs (·.id) h.sound.arcs (fun _ => z a.id * f ((pathS p a).getD m pt0) ((pathS p a).getD (m + 1) pt0)) a.id ⟨a, ha, rfl⟩
 rw [← this]
 refine sumC _ _ _ fun c hc => ?_
 by_cases hz0 : z c.id = 0
 ·
  rw [hz0, Int.zero_mul]
  by_cases e : a.id = c.id
  · rw [if_pos e, e, hz0, Int.zero_mul]
  · rw [if_neg e]
 by_cases e : a.id = c.id
 ·
  have := h.arc_eq ha hc e
  subst this
  rw [if_pos rfl, sumOne _ m (fun k => f ((pathS p a).getD k pt0) ((pathS p a).getD (k + 1) pt0)) (fun k hk hne => h0 a ha hz0 k (by omega) (fun e => hne e.2)), if_pos (by omega)]
 · rw [if_neg e, sumZ _ _ (fun k hk => h0 c hc hz0 k (by have := List.mem_range.1 hk; omega) (fun e2 => e (by rw [e2.1]))), Int.mul_zero]
/-- no end of a segment that counts is at a (half) height -/
def FreeT (p : Pl) (z : Int → Int) (τ : Int) : Prop := ∀ a ∈ p.arcs, z a.id ≠ 0 → ∀ k, k < (pathS p a).length → 2 * hY ((pathS p a).getD k pt0) ≠ τ
omit h in
theorem FreeT.odd (z : Int → Int) {τ : Int} (hτ : τ % 2 = 1) : FreeT p z τ := fun a _ _ k _ => by omega
omit h in
theorem wnS_congrZ {z : Int → Int} {f g : Pt → Pt → Int} (h : ∀ a ∈ p.arcs, z a.id ≠ 0 → ∀ k, k + 1 < (pathS p a).length → f ((pathS p a).getD k pt0) ((pathS p a).getD (k + 1) pt0) = g ((pathS p a).getD k pt0) ((pathS p a).getD (k + 1) pt0)) : wnS p z f = wnS p z g := by
 unfold wnS stp
 refine sumC _ _ _ fun a ha => ?_
 by_cases h0 : z a.id = 0
 · rw [h0, Int.zero_mul, Int.zero_mul]
 · rw [sumC _ _ (fun k => g ((pathS p a).getD k pt0) ((pathS p a).getD (k + 1) pt0)) (fun k hk => h a ha h0 k (by have := List.mem_range.1 hk; omega))]
/-- what lies beyond a segment, at half a height -/
theorem Valid.beyond {z : Int → Int} (hz : ClosedC p z) {D : Int} (hD : 0 < D) (hd : ∀ a ∈ p.arcs, ∀ k, k + 1 < (pathS p a).length → hY ((pathS p a).getD (k + 1) pt0) - hY ((pathS p a).getD k pt0) ∣ D)
  {τ : Int} (hτ : FreeT p z τ) {c : Ar} (hc : c ∈ p.arcs) {m : Nat} (hm : m + 1 < (pathS p c).length) {s t : Pt}
  (he : (s = (pathS p c).getD m pt0 ∧ t = (pathS p c).getD (m + 1) pt0) ∨ (t = (pathS p c).getD m pt0 ∧ s = (pathS p c).getD (m + 1) pt0)) (h1 : 2 * hY s < τ) (h2 : τ < 2 * hY t) :
  wnS p z (fun a b => if xE D s t τ < xE D a b τ then sgH τ a b else 0) = rtW p z s t := by
 have ht := h.tele hz (fun v => -wR s t τ v)
 have e : wnS p z (fun a b => if xE D s t τ < xE D a b τ then sgH τ a b else 0) = wnS p z (fun a b => rtF s t a b + (-wR s t τ b - -wR s t τ a)) := by
  refine wnS_congrZ fun a ha hza k hk => ?_
  have na := h.pt_near ha (k := k) (by omega); have nb := h.pt_near ha (k := k + 1) hk
  have n1 := h.pt_near hc (k := m) (by omega); have n2 := h.pt_near hc (k := m + 1) hm
  have hne := (h.distinct ha hk).1
  have NM := fun h1 h2 h3 h4 => h.seg_NM ha hc hk hm h1 h2 h3 h4
  have da := hd a ha k hk
  have fx := hτ a ha hza k (by omega)
  have fy := hτ a ha hza (k + 1) hk
  have dc := hd c hc m hm
  generalize (pathS p a).getD k pt0 = x at *
  generalize (pathS p a).getD (k + 1) pt0 = y at *
  generalize (pathS p c).getD m pt0 = e at *
  generalize (pathS p c).getD (m + 1) pt0 = f at *
  have ns : near1 s = true := by rcases he with ⟨rfl, -⟩ | ⟨-, rfl⟩ <;> assumption
  have nt : near1 t = true := by rcases he with ⟨-, rfl⟩ | ⟨rfl, -⟩ <;> assumption
  have dst : hY t - hY s ∣ D := by
   rcases he with ⟨rfl, rfl⟩ | ⟨rfl, rfl⟩
   · exact dc
   · rw [show hY t - hY s = -(hY s - hY t) by omega]; exact Int.neg_dvd.2 dc
  have NM2 : x ≠ s → x ≠ t → y ≠ s → y ≠ t → NMt x y s t := fun h1 h2 h3 h4 => by
   rcases he with ⟨rfl, rfl⟩ | ⟨rfl, rfl⟩
   · exact NM h1 h2 h3 h4
   · exact (NM h2 h1 h4 h3).comm.flip.comm
  have hst : hY s < hY t := by omega
  have up : ∀ {a b : Pt}, 2 * hY a ≠ τ → 2 * hY b ≠ τ → near1 a = true → near1 b = true → hY a < hY b → hY b - hY a ∣ D → (a ≠ s → a ≠ t → b ≠ s → b ≠ t → NMt a b s t) →
    (if xE D s t τ < xE D a b τ then sgH τ a b else 0) = rtF s t a b + (-wR s t τ b - -wR s t τ a) := by
   intro a b fa fb na nb hab da NM
   have e := edge_mid na nb ns nt hab hst NM fa fb h1 h2
   have k := (xE_cmp (τ := τ) hD hab hst da dst).1
   have e2 : rtF s t a b + (-wR s t τ b - -wR s t τ a) = rtF s t a b + (wR s t τ a - wR s t τ b) := by omega
   rw [e2, ← e]
   unfold sgH
   by_cases g : 0 < dX a b s t τ
   ·
    rw [if_pos (k.2 g)]
    by_cases g1 : 2 * hY a < τ <;> by_cases g2 : τ < 2 * hY b
    · rw [if_pos g2, if_neg (by omega), if_pos ⟨g1, g2, g⟩]; rfl
    · rw [if_neg g2, if_neg (by omega), if_neg (fun e => g2 e.2.1)]; rfl
    · rw [if_pos g2, if_pos (by omega), if_neg (fun e => g1 e.1)]; rfl
    · omega
   · rw [if_neg (fun e => g (k.1 e)), if_neg (fun e => g e.2.2)]
  rcases Int.lt_trichotomy (hY x) (hY y) with c1 | c1 | c1
  · exact up fx fy na nb c1 da NM2
  · exact absurd (hY_inj na nb c1) hne
  ·
   have := up fy fx nb na c1 (by rw [show hY x - hY y = -(hY y - hY x) by omega]; exact Int.neg_dvd.2 da) (fun h1 h2 h3 h4 => (NM2 h3 h4 h1 h2).flip)
   rw [xE_swap D x y τ, rtF_neg s t x y] at this
   have e3 : sgH τ y x = -sgH τ x y := by unfold sgH; omega
   rw [e3] at this
   split at this <;> split <;> first | omega | contradiction
 rw [e, wnS_add p z (rtF s t) (fun a b => -wR s t τ b - -wR s t τ a), ht, Int.add_zero]
 rfl
end
end Go.Proofs.YtoclnkfeblfpbaaGreat
