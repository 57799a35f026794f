/- PLAIN: a chain that winds 0 or 1 times around everything has a positive area. PLAIN: the cycles of a plan as chains; the topmost dart of a part; all areas add up to nothing, and one cycle a part is not positive. -/
import Derived.Test.YtoclnkfeblfpbaaGreatJ24
set_option linter.unusedSimpArgs false
set_option linter.unusedVariables false
namespace Go.Proofs.YtoclnkfeblfpbaaGreat
open Go.RowKit

theorem sg_span {τ : Int} {x y : Pt} (hx : 2 * hY x ≠ τ) (hy : 2 * hY y ≠ τ) (h0 : sgH τ x y ≠ 0) : (2 * hY x < τ ∧ τ < 2 * hY y ∧ sgH τ x y = 1) ∨ (2 * hY y < τ ∧ τ < 2 * hY x ∧ sgH τ x y = -1) := by
 unfold sgH at *
 by_cases c1 : τ < 2 * hY y <;> by_cases c2 : τ < 2 * hY x
 · exact absurd (by rw [if_pos c1, if_pos c2]; rfl) h0
 · exact .inl ⟨by omega, c1, by rw [if_pos c1, if_neg c2]; rfl⟩
 · exact .inr ⟨by omega, c2, by rw [if_neg c1, if_pos c2]; rfl⟩
 · exact absurd (by rw [if_neg c1, if_neg c2]; rfl) h0
section
variable {p : Pl} (h : Valid p)
include h
theorem Valid.xE_ne {D : Int} (hD : 0 < D) (hd : ∀ a ∈ p.arcs, ∀ k, k + 1 < (pathS p a).length → hY ((pathS p a).getD (k + 1) pt0) - hY ((pathS p a).getD k pt0) ∣ D)
  {τ : Int} {z : Int → Int} (hτ : FreeT p z τ) {c d : Ar} (hc : c ∈ p.arcs) (hzc : z c.id ≠ 0) (hd' : d ∈ p.arcs) (hzd : z d.id ≠ 0) {k m : Nat} (hk : k + 1 < (pathS p c).length) (hm : m + 1 < (pathS p d).length) (hne : ¬ (c = d ∧ k = m))
  (h1 : sgH τ ((pathS p c).getD k pt0) ((pathS p c).getD (k + 1) pt0) ≠ 0) (h2 : sgH τ ((pathS p d).getD m pt0) ((pathS p d).getD (m + 1) pt0) ≠ 0) :
  xE D ((pathS p d).getD m pt0) ((pathS p d).getD (m + 1) pt0) τ ≠ xE D ((pathS p c).getD k pt0) ((pathS p c).getD (k + 1) pt0) τ := by
 have dc := hd c hc k hk
 have dd := hd d hd' m hm
 have N := fun a b s t => h.dX_ne (a := a) (b := b) (s := s) (t := t) hc hd' hk hm hne
 have s1 := sg_span (hτ c hc hzc k (by omega)) (hτ c hc hzc (k + 1) hk) h1
 have s2 := sg_span (hτ d hd' hzd m (by omega)) (hτ d hd' hzd (m + 1) hm) h2
 generalize (pathS p c).getD k pt0 = u at *
 generalize (pathS p c).getD (k + 1) pt0 = v at *
 generalize (pathS p d).getD m pt0 = x at *
 generalize (pathS p d).getD (m + 1) pt0 = y at *
 have dc' : hY u - hY v ∣ D := by rw [show hY u - hY v = -(hY v - hY u) by omega]; exact Int.neg_dvd.2 dc
 have dd' : hY x - hY y ∣ D := by rw [show hY x - hY y = -(hY y - hY x) by omega]; exact Int.neg_dvd.2 dd
 intro e
 rcases s1 with ⟨a1, a2, -⟩ | ⟨a1, a2, -⟩ <;> rcases s2 with ⟨b1, b2, -⟩ | ⟨b1, b2, -⟩
 · exact N u v x y (.inl ⟨rfl, rfl⟩) (.inl ⟨rfl, rfl⟩) b1 b2 a1 a2 ((xE_cmp hD (by omega) (by omega) dc dd).2.1 e)
 · exact N u v y x (.inl ⟨rfl, rfl⟩) (.inr ⟨rfl, rfl⟩) b1 b2 a1 a2 ((xE_cmp hD (by omega) (by omega) dc dd').2.1 (by rw [xE_swap]; exact e))
 · exact N v u x y (.inr ⟨rfl, rfl⟩) (.inl ⟨rfl, rfl⟩) b1 b2 a1 a2 ((xE_cmp hD (by omega) (by omega) dc' dd).2.1 (by rw [xE_swap D u v]; exact e))
 · exact N v u y x (.inr ⟨rfl, rfl⟩) (.inr ⟨rfl, rfl⟩) b1 b2 a1 a2 ((xE_cmp hD (by omega) (by omega) dc' dd').2.1 (by rw [xE_swap, xE_swap D u v]; exact e))
/-- what lies beyond a segment that counts, among all that count -/
theorem Valid.bey_seg {z : Int → Int} (hz : ClosedC p z) {D : Int} (hD : 0 < D) (hd : ∀ a ∈ p.arcs, ∀ k, k + 1 < (pathS p a).length → hY ((pathS p a).getD (k + 1) pt0) - hY ((pathS p a).getD k pt0) ∣ D) {τ : Int} (hτ : FreeT p z τ)
  {a : Ar} (ha : a ∈ p.arcs) {k : Nat} (hk : k + 1 < (pathS p a).length) (hs : (2 * hY ((pathS p a).getD k pt0) < τ ∧ τ < 2 * hY ((pathS p a).getD (k + 1) pt0)) ∨ (2 * hY ((pathS p a).getD (k + 1) pt0) < τ ∧ τ < 2 * hY ((pathS p a).getD k pt0))) :
  beyS (itemsT p z D τ) (xE D ((pathS p a).getD k pt0) ((pathS p a).getD (k + 1) pt0) τ) = (if hY ((pathS p a).getD k pt0) < hY ((pathS p a).getD (k + 1) pt0) then Hz p z (-a.id) else Hz p z a.id) ∧
  (z a.id ≠ 0 → beyE (itemsT p z D τ) (xE D ((pathS p a).getD k pt0) ((pathS p a).getD (k + 1) pt0) τ) = (if hY ((pathS p a).getD k pt0) < hY ((pathS p a).getD (k + 1) pt0) then Hz p z a.id else Hz p z (-a.id))) := by
 have hp := h.Hz_pos hz ha
 obtain ⟨r1, r2⟩ := h.side_all hz ha hk
 have own := fun (hz0 : z a.id ≠ 0) (hs0 : sgH τ ((pathS p a).getD k pt0) ((pathS p a).getD (k + 1) pt0) ≠ 0) => h.one_seg (z := z) ha hk (f := fun x y => if xE D ((pathS p a).getD k pt0) ((pathS p a).getD (k + 1) pt0) τ = xE D x y τ then sgH τ x y else 0) (fun c hc hzc m hm hne => by
  by_cases g : sgH τ ((pathS p c).getD m pt0) ((pathS p c).getD (m + 1) pt0) = 0
  · rw [g]; split <;> rfl
  · exact if_neg (h.xE_ne hD hd hτ hc hzc ha hz0 hm hk hne g hs0))
 rw [if_pos rfl] at own
 have by1 := h.beyond hz hD hd hτ ha hk (s := (pathS p a).getD k pt0) (t := (pathS p a).getD (k + 1) pt0) (.inl ⟨rfl, rfl⟩)
 have by2 := h.beyond hz hD hd hτ ha hk (t := (pathS p a).getD k pt0) (s := (pathS p a).getD (k + 1) pt0) (.inr ⟨rfl, rfl⟩)
 rw [xE_swap D ((pathS p a).getD k pt0)] at by2
 rw [r1] at by1
 rw [r2] at by2
 have sg : sgH τ ((pathS p a).getD k pt0) ((pathS p a).getD (k + 1) pt0) = if hY ((pathS p a).getD k pt0) < hY ((pathS p a).getD (k + 1) pt0) then 1 else -1 := by
  unfold sgH
  rcases hs with ⟨g1, g2⟩ | ⟨g1, g2⟩
  · rw [if_pos g2, if_neg (by omega), if_pos (by omega)]; rfl
  · rw [if_neg (by omega), if_pos g2, if_neg (by omega)]; rfl
 generalize xE D ((pathS p a).getD k pt0) ((pathS p a).getD (k + 1) pt0) τ = X at *
 have bS : beyS (itemsT p z D τ) X = wnS p z (fun a b => if X < xE D a b τ then sgH τ a b else 0) :=
  items_sum p z D τ (fun x s => if X < x then s else 0) (fun x c s => by split <;> simp)
 have bE : beyE (itemsT p z D τ) X = wnS p z (fun a b => if X < xE D a b τ then sgH τ a b else 0) + wnS p z (fun a b => if X = xE D a b τ then sgH τ a b else 0) := by
  rw [← wnS_add]
  have := items_sum p z D τ (fun x s => if X ≤ x then s else 0) (fun x c s => by split <;> simp)
  refine this.trans (wnS_congr fun c _ m _ => ?_)
  rcases Int.lt_trichotomy X (xE D ((pathS p c).getD m pt0) ((pathS p c).getD (m + 1) pt0) τ) with g | g | g
  · rw [if_pos (by omega), if_pos g, if_neg (by omega)]; omega
  · rw [if_pos (by omega), if_neg (by omega), if_pos g]; omega
  · rw [if_neg (by omega), if_neg (by omega), if_neg (by omega)]; rfl
 rw [bS]
 have own' := fun hz0 => own hz0 (by rw [sg]; split <;> omega)
 rcases hs with ⟨g1, g2⟩ | ⟨g1, g2⟩
 ·
  rw [if_pos (by omega)] at sg ⊢
  rw [if_pos (by omega)]
  refine ⟨by1 g1 g2, fun hz0 => ?_⟩
  rw [bE, own' hz0, by1 g1 g2, sg]
  omega
 ·
  rw [if_neg (by omega)] at sg ⊢
  rw [if_neg (by omega)]
  refine ⟨by2 g1 g2, fun hz0 => ?_⟩
  rw [bE, own' hz0, by2 g1 g2, sg]
  omega
/-- the sum of all signs at a height is nothing -/
theorem Valid.items_zero {z : Int → Int} (hz : ClosedC p z) (D τ : Int) : ((itemsT p z D τ).map (·.2)).sum = 0 := by
 rw [items_sum p z D τ (fun _ s => s) (fun _ _ _ => rfl)]
 exact h.tele hz (fun v => if τ < 2 * hY v then 1 else 0)
/-- a chain that winds 0 or 1 times: so at each place of a height -/
theorem Valid.items_ok {z : Int → Int} (hz : ClosedC p z) (hw : ∀ a ∈ p.arcs, z a.id ≠ 0 → (Hz p z (-a.id) = 0 ∧ Hz p z a.id = 1) ∨ (Hz p z (-a.id) = 1 ∧ Hz p z a.id = 0))
  {D : Int} (hD : 0 < D) (hd : ∀ a ∈ p.arcs, ∀ k, k + 1 < (pathS p a).length → hY ((pathS p a).getD (k + 1) pt0) - hY ((pathS p a).getD k pt0) ∣ D) {τ : Int} (hτ : FreeT p z τ) :
  ∀ u ∈ itemsT p z D τ, u.2 ≠ 0 → (beyS (itemsT p z D τ) u.1 = 0 ∧ beyE (itemsT p z D τ) u.1 = 1) ∨ (beyS (itemsT p z D τ) u.1 = 1 ∧ beyE (itemsT p z D τ) u.1 = 0) := by
 intro u hu hu0
 obtain ⟨a, ha, hu⟩ := List.mem_flatMap.1 hu
 obtain ⟨k, hk, rfl⟩ := List.mem_map.1 hu
 have hk := List.mem_range.1 hk
 have hk : k + 1 < (pathS p a).length := by omega
 simp only at hu0 ⊢
 have hz0 : z a.id ≠ 0 := fun e => hu0 (by rw [e, Int.zero_mul])
 have hs0 : sgH τ ((pathS p a).getD k pt0) ((pathS p a).getD (k + 1) pt0) ≠ 0 := fun e => hu0 (by rw [e, Int.mul_zero])
 have hW := hw a ha hz0
 have hsp := sg_span (hτ a ha hz0 k (by omega)) (hτ a ha hz0 (k + 1) hk) hs0
 obtain ⟨b1, b2⟩ := h.bey_seg hz hD hd hτ ha hk (by
  rcases hsp with ⟨g1, g2, -⟩ | ⟨g1, g2, -⟩
  · exact .inl ⟨g1, g2⟩
  · exact .inr ⟨g1, g2⟩)
 rw [b1, b2 hz0]
 split <;> omega
theorem Valid.slice_pos {z : Int → Int} (hz : ClosedC p z) (hw : ∀ a ∈ p.arcs, z a.id ≠ 0 → (Hz p z (-a.id) = 0 ∧ Hz p z a.id = 1) ∨ (Hz p z (-a.id) = 1 ∧ Hz p z a.id = 0))
  {D : Int} (hD : 0 < D) (hd : ∀ a ∈ p.arcs, ∀ k, k + 1 < (pathS p a).length → hY ((pathS p a).getD (k + 1) pt0) - hY ((pathS p a).getD k pt0) ∣ D) {τ : Int} (hτ : τ % 2 = 1) :
  0 ≤ wnS p z (fun a b => xE D a b τ * sgH τ a b) ∧ ((∃ a ∈ p.arcs, ∃ k, k + 1 < (pathS p a).length ∧ z a.id ≠ 0 ∧ sgH τ ((pathS p a).getD k pt0) ((pathS p a).getD (k + 1) pt0) ≠ 0) → 0 < wnS p z (fun a b => xE D a b τ * sgH τ a b)) := by
 have e0 := items_sum p z D τ (fun x s => x * s) (fun x c s => by grind)
 have := cake (h.items_ok hz hw hD hd (FreeT.odd z hτ)) (h.items_zero hz D τ)
 rw [e0] at this
 refine ⟨this.1, fun ⟨a, ha, k, hk, h4, h5⟩ => this.2 ⟨(xE D ((pathS p a).getD k pt0) ((pathS p a).getD (k + 1) pt0) τ, z a.id * sgH τ ((pathS p a).getD k pt0) ((pathS p a).getD (k + 1) pt0)), ?_, fun e => ?_⟩⟩
 · exact List.mem_flatMap.2 ⟨a, ha, List.mem_map.2 ⟨k, List.mem_range.2 (by omega), rfl⟩⟩
 ·
  rcases Int.mul_eq_zero.1 e with e | e
  · exact h4 e
  · exact h5 e
/-- the area of a chain as a sum over half heights -/
theorem Valid.area_sum {z : Int → Int} (hz : ClosedC p z) {T : Nat} (hT : ∀ q, near1 q = true → -(T : Int) ≤ hY q ∧ hY q ≤ T)
  {D : Int} (hd : ∀ a ∈ p.arcs, ∀ k, k + 1 < (pathS p a).length → hY ((pathS p a).getD (k + 1) pt0) - hY ((pathS p a).getD k pt0) ∣ D) :
  D * (8388608 * wnS p z crossG) = ((List.range (2 * T)).map fun j => wnS p z (fun a b => xE D a b (tauT T j) * sgH (tauT T j) a b)).sum := by
 rw [← wnS_list p z (fun j a b => xE D a b (tauT T j) * sgH (tauT T j) a b), ← wnS_mul, ← wnS_mul]
 have t := h.tele hz (fun v => D * (v.x * hY v))
 have e : wnS p z (fun a b => ((List.range (2 * T)).map fun j => xE D a b (tauT T j) * sgH (tauT T j) a b).sum) = wnS p z (fun a b => D * (8388608 * crossG a b) + (D * (b.x * hY b) - D * (a.x * hY a))) := by
  refine wnS_congr fun a ha k hk => ?_
  have na := h.pt_near ha (k := k) (by omega); have nb := h.pt_near ha (k := k + 1) hk
  have hne := (h.distinct ha hk).1
  have da := hd a ha k hk
  generalize (pathS p a).getD k pt0 = x at *
  generalize (pathS p a).getD (k + 1) pt0 = y at *
  have hn : hY y - hY x ≠ 0 := fun e => hne (hY_inj na nb (by omega))
  have es := edge_sum (hT x na) (hT y nb)
  obtain ⟨q, hq⟩ := da
  have eq : D / (hY y - hY x) = q := by rw [hq]; exact Int.mul_ediv_cancel_left _ hn
  unfold xE
  rw [eq, sumC _ _ (fun j => q * (sgH (tauT T j) x y * xN x y (tauT T j))) (fun j _ => by grind), sumM, es]
  have hc : 8388608 * crossG x y = x.x * hY y - y.x * hY x := by unfold crossG hY; grind
  rw [hc, hq]
  generalize hY x = A; generalize hY y = B
  grind
 rw [e, wnS_add p z (fun a b => D * (8388608 * crossG a b)) (fun a b => D * (b.x * hY b) - D * (a.x * hY a)), t, Int.add_zero]
theorem Valid.area_pos {z : Int → Int} (hz : ClosedC p z) (hw : ∀ a ∈ p.arcs, z a.id ≠ 0 → (Hz p z (-a.id) = 0 ∧ Hz p z a.id = 1) ∨ (Hz p z (-a.id) = 1 ∧ Hz p z a.id = 0)) :
  0 ≤ wnS p z crossG ∧ ((∃ a ∈ p.arcs, z a.id ≠ 0) → 0 < wnS p z crossG) := by
 obtain ⟨T, hT⟩ : ∃ T : Nat, ∀ q, near1 q = true → -(T : Int) ≤ hY q ∧ hY q ≤ T := ⟨17592188141568, fun q hq => by
  rw [near1_iff] at hq
  unfold hY
  omega⟩
 have hsep : ∀ a ∈ p.arcs, ∀ k, k + 1 < (pathS p a).length → hY ((pathS p a).getD (k + 1) pt0) - hY ((pathS p a).getD k pt0) ≠ 0 := fun a ha k hk e =>
  (h.distinct ha hk).1 (hY_inj (h.pt_near ha (by omega)) (h.pt_near ha hk) (by omega))
 obtain ⟨D, hD, hd⟩ : ∃ D : Int, 0 < D ∧ ∀ a ∈ p.arcs, ∀ k, k + 1 < (pathS p a).length → hY ((pathS p a).getD (k + 1) pt0) - hY ((pathS p a).getD k pt0) ∣ D := by
  obtain ⟨D, h1, h2⟩ := div_all (p.arcs.flatMap fun a => (List.range ((pathS p a).length - 1)).map fun k => hY ((pathS p a).getD (k + 1) pt0) - hY ((pathS p a).getD k pt0)) (fun x hx => by
   obtain ⟨a, ha, hx⟩ := List.mem_flatMap.1 hx
   obtain ⟨k, hk, rfl⟩ := List.mem_map.1 hx
   exact hsep a ha k (by have := List.mem_range.1 hk; omega))
  exact ⟨D, h1, fun a ha k hk => h2 _ (List.mem_flatMap.2 ⟨a, ha, List.mem_map.2 ⟨k, List.mem_range.2 (by omega), rfl⟩⟩)⟩
 have e := h.area_sum hz hT hd
 have odd : ∀ j, tauT T j % 2 = 1 := fun j => by unfold tauT; omega
 have S := fun j => h.slice_pos hz hw hD hd (odd j)
 refine ⟨?_, fun ⟨a, ha, hza⟩ => ?_⟩
 ·
  have h0 := sumNN (List.range (2 * T)) (fun j => wnS p z (fun a b => xE D a b (tauT T j) * sgH (tauT T j) a b)) (fun j _ => (S j).1)
  rw [← e] at h0
  apply Classical.byContradiction
  intro hn
  have := Int.mul_neg_of_pos_of_neg hD (show 8388608 * wnS p z crossG < 0 by omega)
  omega
 ·
  have hl := pathS_length p a
  have hk : 0 + 1 < (pathS p a).length := by omega
  have hs := hsep a ha 0 hk
  have t0 := hT _ (h.pt_near ha (k := 0) (by omega))
  have t1 := hT _ (h.pt_near ha (k := 0 + 1) hk)
  have h0 := sumPP (List.range (2 * T)) (fun j => wnS p z (fun a b => xE D a b (tauT T j) * sgH (tauT T j) a b)) (fun j _ => (S j).1) (by
   refine ⟨(min (hY ((pathS p a).getD 0 pt0)) (hY ((pathS p a).getD (0 + 1) pt0)) + T).toNat, List.mem_range.2 (by omega), ?_⟩
   refine (S _).2 ⟨a, ha, 0, hk, hza, ?_⟩
   unfold sgH tauT
   generalize hY ((pathS p a).getD 0 pt0) = A at *
   generalize hY ((pathS p a).getD (0 + 1) pt0) = B at *
   have hj : (((min A B + T).toNat : Nat) : Int) = min A B + T := by omega
   rw [hj]
   by_cases c : A < B
   · rw [if_pos (by omega), if_neg (by omega)]; omega
   · rw [if_neg (by omega), if_pos (by omega)]; omega)
  rw [← e] at h0
  apply Classical.byContradiction
  intro hn
  have := Int.mul_nonpos_of_nonneg_of_nonpos (show 0 ≤ D by omega) (show 8388608 * wnS p z crossG ≤ 0 by omega)
  omega
end
end Go.Proofs.YtoclnkfeblfpbaaGreat
namespace Go.Proofs.YtoclnkfeblfpbaaGreat
open Go.RowKit
set_option linter.unusedSectionVars false

/-- a cycle as a chain -/
def chX (X : List Int) (i : Int) : Int := (if i ∈ X then 1 else 0) - (if -i ∈ X then 1 else 0)
/-- twice the area of a list of darts -/
def arX (p : Pl) (X : List Int) : Int := (X.map (dartT p)).sum
theorem stp_twice (P : List Pt) : stp crossG P = twiceP P := by
 unfold stp twiceP
 generalize P.length - 1 = n
 induction n with
 | zero => rfl
 | succ n ih => rw [List.range_succ, List.map_append, List.sum_append, ih, twUp]; simp
theorem wnS_negz (p : Pl) (z : Int → Int) (f : Pt → Pt → Int) : wnS p (fun i => -z i) f = -wnS p z f := by
 unfold wnS
 rw [← sumN]
 exact sumC _ _ _ fun a _ => by rw [Int.neg_mul]
theorem wnS_none {p : Pl} {z : Int → Int} {f : Pt → Pt → Int} (h0 : ∀ a ∈ p.arcs, z a.id = 0 ∨ ∀ k, k + 1 < (pathS p a).length → f ((pathS p a).getD k pt0) ((pathS p a).getD (k + 1) pt0) = 0) : wnS p z f = 0 := by
 unfold wnS stp
 refine sumZ _ _ fun a ha => ?_
 rcases h0 a ha with e | e
 · rw [e, Int.zero_mul]
 · rw [sumZ _ _ (fun k hk => e k (by have := List.mem_range.1 hk; omega)), Int.mul_zero]
theorem max_of {α : Type} (f : α → Int) : ∀ l : List α, l ≠ [] → ∃ x ∈ l, ∀ y ∈ l, f y ≤ f x
 | [], h => absurd rfl h
 | [a], _ => ⟨a, by simp, fun y hy => by rw [List.mem_singleton] at hy; subst hy; exact Int.le_refl _⟩
 | a :: b :: l, _ => by
  obtain ⟨x, hx, hm⟩ := max_of f (b :: l) (by simp)
  by_cases c : f a ≤ f x
  ·
   refine ⟨x, List.mem_cons_of_mem _ hx, fun y hy => ?_⟩
   rcases List.mem_cons.1 hy with rfl | hy
   · exact c
   · exact hm y hy
  ·
   refine ⟨a, List.mem_cons_self, fun y hy => ?_⟩
   rcases List.mem_cons.1 hy with rfl | hy
   · exact Int.le_refl _
   · have := hm y hy; omega
theorem twiceUp_sum (p : Pl) (l : List Int) (k : Nat) (hk : k ≤ l.length) : twiceUp p l k = ((l.take k).map (dartT p)).sum := by
 induction k with
 | zero => simp [twiceUp]
 | succ k ih =>
  rw [twiceUp, ih (by omega), List.take_succ_eq_append_getElem (show k < l.length by omega), List.map_append, List.sum_append, List.getD_eq_getElem?_getD, List.getElem?_eq_getElem (show k < l.length by omega)]
  simp
section
variable {p : Pl} (h : Valid p)
include h
theorem Valid.sum_darts (F : Int → Int) : ((dartsD p).map F).sum = (p.arcs.map fun a => F a.id + F (-a.id)).sum := by
 unfold dartsD
 rw [List.map_append, List.sum_append, perm_sum ((List.reverse_perm _).map F), List.map_map, List.map_map, sumA]
 show (p.arcs.map fun a => F (-a.id)).sum + (p.arcs.map fun a => F a.id).sum = _
 omega
theorem Valid.cyc_nodup {X : List Int} (hX : X ∈ cyclesD p) : X.Nodup ∧ (∀ d ∈ X, d ∈ dartsD p) := by
 obtain ⟨x, hx, e, -, -⟩ := h.cyc_form hX
 have hD : ∀ x ∈ dartsD p, nextD p x ∈ dartsD p := fun x hx => (h.next_mem hx).1
 have hf := orb_facts hD (fun x hx y hy => h.next_inj hx hy) hx
 rw [e]
 exact ⟨hf.2.2.2.2.1, fun d hd => orb_mem hD hx hd⟩
theorem Valid.cyc_next {X : List Int} (hX : X ∈ cyclesD p) {d : Int} (hd : d ∈ dartsD p) : nextD p d ∈ X ↔ d ∈ X := by
 obtain ⟨x, hx, e, -, -⟩ := h.cyc_form hX
 rw [e]
 exact orb_closed (fun x hx => (h.next_mem hx).1) (fun x hx y hy => h.next_inj hx hy) hx hd
theorem Valid.sum_cyc {X : List Int} (hX : X ∈ cyclesD p) (F : Int → Int) : (X.map F).sum = (p.arcs.map fun a => (if a.id ∈ X then F a.id else 0) + (if -a.id ∈ X then F (-a.id) else 0)).sum := by
 obtain ⟨h1, h2⟩ := h.cyc_nodup hX
 rw [← h.sum_darts (fun d => if d ∈ X then F d else 0)]
 have hp : ((dartsD p).filter (fun d => decide (d ∈ X))).Perm X := by
  refine (List.perm_ext_iff_of_nodup (h.darts_nodup.filter _) h1).2 fun d => ?_
  rw [List.mem_filter, decide_eq_true_eq]
  exact ⟨fun h => h.2, fun h => ⟨h2 d h, h⟩⟩
 rw [← perm_sum (hp.map F)]
 generalize dartsD p = D
 induction D with
 | nil => rfl
 | cons d D ih =>
  rw [List.map_cons, List.sum_cons, List.filter_cons]
  by_cases c : d ∈ X
  · rw [if_pos (by simpa using c), if_pos c, List.map_cons, List.sum_cons, ih]
  · rw [if_neg (by simpa using c), if_neg c, ih]; omega
theorem Valid.cyc_rot {X : List Int} (hX : X ∈ cyclesD p) : (X.map (nextD p)).Perm X := by
 obtain ⟨h1, h2⟩ := h.cyc_nodup hX
 have hn : (X.map (nextD p)).Nodup := by
  rw [List.nodup_iff_pairwise_ne, List.pairwise_map]
  rw [List.nodup_iff_pairwise_ne] at h1
  refine List.Pairwise.imp_of_mem (fun {a b} ha hb hne e => hne (h.next_inj (h2 a ha) (h2 b hb) e)) h1
 refine (List.perm_ext_iff_of_nodup hn h1).2 fun y => ?_
 rw [List.mem_map]
 constructor
 ·
  rintro ⟨x, hx, rfl⟩
  exact (h.cyc_next hX (h2 x hx)).2 hx
 ·
  intro hy
  obtain ⟨x, hx, e, -, -⟩ := h.cyc_form hX
  have hf := orb_facts (fun x hx => (h.next_mem hx).1) (fun x hx y hy => h.next_inj hx hy) hx
  rw [e] at hy ⊢
  unfold orb at hy ⊢
  obtain ⟨k, hk, rfl⟩ := mem_iter.1 hy
  cases k with
  | zero =>
   refine ⟨pw (nextD p) x (orbN (nextD p) (dartsD p) x - 1), mem_iter.2 ⟨_, by omega, rfl⟩, ?_⟩
   have : pw (nextD p) x (orbN (nextD p) (dartsD p) x - 1 + 1) = x := by rw [Nat.sub_add_cancel hf.1]; exact hf.2.2.1
   rw [pw] at this
   exact this
  | succ k => exact ⟨pw (nextD p) x k, mem_iter.2 ⟨k, by omega, rfl⟩, rfl⟩
theorem Valid.chX_closed {X : List Int} (hX : X ∈ cyclesD p) : ClosedC p (chX X) := by
 intro n _
 obtain ⟨h1, h2⟩ := h.cyc_nodup hX
 have e1 := h.sum_cyc hX (fun d => (if startD p (-d) = n.id then 1 else 0) - (if startD p d = n.id then 1 else 0))
 have e2 : (X.map fun d => ((if startD p (-d) = n.id then 1 else 0) - (if startD p d = n.id then 1 else 0) : Int)).sum = 0 := by
  have e3 := perm_sum ((h.cyc_rot hX).map fun d => if startD p d = n.id then (1 : Int) else 0)
  rw [List.map_map] at e3
  rw [sumC _ _ (fun d => (if startD p (nextD p d) = n.id then (1 : Int) else 0) + -(if startD p d = n.id then 1 else 0)) (fun d hd => by rw [(h.next_mem (h2 d hd)).2]; omega), sumA, sumN]
  have e4 : (X.map fun d => if startD p (nextD p d) = n.id then (1 : Int) else 0).sum = (X.map ((fun d => if startD p d = n.id then (1 : Int) else 0) ∘ nextD p)).sum := rfl
  omega
 rw [e2] at e1
 refine Eq.trans ?_ e1.symm
 refine sumC _ _ _ fun a ha => ?_
 simp only [Int.neg_neg]
 rw [h.start_pos ha, h.start_neg ha]
 unfold chX
 generalize (if a.dst = n.id then (1 : Int) else 0) = u
 generalize (if a.fr = n.id then (1 : Int) else 0) = v
 by_cases c1 : a.id ∈ X <;> by_cases c2 : -a.id ∈ X <;> simp only [c1, c2, if_true, if_false] <;> omega
theorem Valid.dartT_pos {a : Ar} (ha : a ∈ p.arcs) : dartT p a.id = twiceP (pathS p a) ∧ dartT p (-a.id) = -twiceP (pathS p a) := by
 have hid := (h.id_pos ha).1
 unfold dartT
 rw [h.arcD_pos ha, h.arcD_neg ha]
 simp only
 rw [if_pos (by omega), if_neg (by omega)]
 exact ⟨rfl, rfl⟩
theorem Valid.ar_chX {X : List Int} (hX : X ∈ cyclesD p) : arX p X = wnS p (chX X) crossG := by
 unfold arX wnS
 rw [h.sum_cyc hX]
 refine sumC _ _ _ fun a ha => ?_
 obtain ⟨e1, e2⟩ := h.dartT_pos ha
 rw [stp_twice, e1, e2]
 unfold chX
 by_cases c1 : a.id ∈ X <;> by_cases c2 : -a.id ∈ X <;> simp only [c1, c2, if_true, if_false] <;> omega
/-- all areas add up to nothing -/
theorem Valid.areas_zero : ((cyclesD p).map (arX p)).sum = 0 := by
 have e := perm_sum (h.cyc_perm.map (dartT p))
 have e0 : (p.arcs.map fun a => dartT p a.id + dartT p (-a.id)).sum = 0 := sumZ _ _ (fun a ha => by rw [(h.dartT_pos ha).1, (h.dartT_pos ha).2]; omega)
 rw [h.sum_darts, e0] at e
 rw [← e, List.map_flatten]
 unfold arX
 generalize cyclesD p = L
 induction L with
 | nil => rfl
 | cons X L ih => rw [List.map_cons, List.sum_cons, List.map_cons, List.flatten_cons, List.sum_append, ih]
/-- around the darts of a part a cycle winds as it contains them, but for a number -/
theorem Valid.hz_class {X : List Int} (hX : X ∈ cyclesD p) {d e : Int} (hd : d ∈ dartsD p) (he : e ∈ dartsD p) (hs : slE p p.arcs.length d = slE p p.arcs.length e) :
  Hz p (chX X) d - (if d ∈ X then 1 else 0) = Hz p (chX X) e - (if e ∈ X then 1 else 0) := by
 have hz := h.chX_closed hX
 have hc := h.slE_const (fun d => Hz p (chX X) d - (if d ∈ X then 1 else 0)) (fun d hd => by
  show Hz p (chX X) (nextD p d) - (if nextD p d ∈ X then 1 else 0) = _
  rw [h.Hz_next hz hd]
  by_cases c : d ∈ X
  · rw [if_pos c, if_pos ((h.cyc_next hX hd).2 c)]
  · rw [if_neg c, if_neg (fun e => c ((h.cyc_next hX hd).1 e))]) p.arcs.length (Nat.le_refl _) (fun j hj _ _ => by
  have := h.Hz_pos hz (List.getElem_mem hj)
  unfold chX at this ⊢
  show Hz p _ p.arcs[j].id - _ = Hz p _ (-p.arcs[j].id) - _
  omega)
 have h1 : _ = _ := hc d hd
 have h2 : _ = _ := hc e he
 rw [← h1, ← h2, hs]
/-- the topmost dart of a part: nothing of the part winds around what lies beside it -/
theorem Valid.top_dart {r : Int} (hr : r ∈ dartsD p) : ∃ d ∈ dartsD p, slE p p.arcs.length d = slE p p.arcs.length r ∧
  ∀ z, ClosedC p z → (∀ a ∈ p.arcs, z a.id ≠ 0 → slE p p.arcs.length a.id = slE p p.arcs.length r) → Hz p z d = 0 := by
 obtain ⟨q, hq, hmax⟩ := max_of (fun q : Ar × Nat => hY ((pathS p q.1).getD q.2 pt0)) (p.arcs.flatMap fun a => if slE p p.arcs.length a.id = slE p p.arcs.length r then (List.range (pathS p a).length).map fun k => (a, k) else []) (by
  obtain ⟨a, ha, e⟩ := mem_dartsD.1 hr
  have hm : a.id ∈ dartsD p := mem_dartsD.2 ⟨a, ha, .inl rfl⟩
  have hs : slE p p.arcs.length a.id = slE p p.arcs.length r := by
   rcases e with rfl | rfl
   · rfl
   · exact (h.sl_dart hm).symm
  have hl := pathS_length p a
  intro e
  have : (a, 0) ∈ (p.arcs.flatMap fun a => if slE p p.arcs.length a.id = slE p p.arcs.length r then (List.range (pathS p a).length).map fun k => (a, k) else []) :=
   List.mem_flatMap.2 ⟨a, ha, by rw [if_pos hs]; exact List.mem_map.2 ⟨0, List.mem_range.2 (by omega), rfl⟩⟩
  rw [e] at this
  cases this)
 obtain ⟨a, ha, hq⟩ := List.mem_flatMap.1 hq
 split at hq
 case isFalse => cases hq
 rename_i hsa
 obtain ⟨k, hk, rfl⟩ := List.mem_map.1 hq
 have hk := List.mem_range.1 hk
 simp only at hmax
 have hl := pathS_length p a
 have top : ∀ c ∈ p.arcs, slE p p.arcs.length c.id = slE p p.arcs.length r → ∀ m, m < (pathS p c).length → hY ((pathS p c).getD m pt0) ≤ hY ((pathS p a).getD k pt0) := by
  intro c hc hs m hm
  exact hmax (c, m) (List.mem_flatMap.2 ⟨c, hc, by rw [if_pos hs]; exact List.mem_map.2 ⟨m, List.mem_range.2 hm, rfl⟩⟩)
 -- at the topmost point only what ends there counts
 have loc : ∀ z, (∀ a ∈ p.arcs, z a.id ≠ 0 → slE p p.arcs.length a.id = slE p p.arcs.length r) → ∀ u, rtW p z ((pathS p a).getD k pt0) u = wnS p z (atF (fun x => ind (dirLt ((pathS p a).getD k pt0) x u)) ((pathS p a).getD k pt0)) := by
  intro z hz u
  generalize (pathS p a).getD k pt0 = v at *
  have e : rtW p z v u = wnS p z (fun a b => cr1 a b v + atF (fun x => ind (dirLt v x u)) v a b) := by
   unfold rtW
   refine wnS_congr fun c _ m _ => ?_
   generalize (pathS p c).getD m pt0 = x
   generalize (pathS p c).getD (m + 1) pt0 = y
   unfold rtF atF ind
   by_cases h1 : x = v <;> by_cases h2 : y = v <;> simp only [h1, h2, true_and, false_and, if_true, if_false] <;> omega
  rw [e, wnS_add p z (fun a b => cr1 a b v), wnS_none (f := fun a b => cr1 a b v) (fun c hc => ?_), Int.zero_add]
  by_cases h0 : z c.id = 0
  · exact .inl h0
  ·
   right
   intro m hm
   have t1 := top c hc (hz c hc h0) m (by omega)
   have t2 := top c hc (hz c hc h0) (m + 1) hm
   unfold cr1
   rw [if_neg (by omega), if_neg (by omega)]
 have hma : a.id ∈ dartsD p := mem_dartsD.2 ⟨a, ha, .inl rfl⟩
 have hma' : -a.id ∈ dartsD p := mem_dartsD.2 ⟨a, ha, .inr rfl⟩
 -- at a node
 have node : ∀ n ∈ p.nodes, (pathS p a).getD k pt0 = n.pt → (a.id ∈ aroundD p n.id ∨ -a.id ∈ aroundD p n.id) → ∃ d ∈ dartsD p, slE p p.arcs.length d = slE p p.arcs.length r ∧
   ∀ z, ClosedC p z → (∀ a ∈ p.arcs, z a.id ≠ 0 → slE p p.arcs.length a.id = slE p p.arcs.length r) → Hz p z d = 0 := by
  intro n hn ev hor
  rw [ev] at loc
  have hpos : 0 < (aroundD p n.id).length := by
   rcases hor with e | e <;> exact List.length_pos_of_mem e
  have h0m : (aroundD p n.id)[0] ∈ aroundD p n.id := List.getElem_mem hpos
  have h0d := (h.around_perm hn).subset h0m
  obtain ⟨hdd, hst⟩ := h.dartL_start h0d
  refine ⟨-(aroundD p n.id)[0], neg_dart hdd, ?_, fun z hz hzs => ?_⟩
  ·
   rw [h.sl_dart hdd]
   rcases hor with e | e
   · rw [h.sl_node hn h0m e]; exact hsa
   · rw [h.sl_node hn h0m e, h.sl_dart hma]; exact hsa
  ·
   have hr0 : rtW p z n.pt (toD p (aroundD p n.id)[0]) = 0 := by
    rw [loc z hzs, h.at_node z _ hn]
    refine sumZ _ _ fun x hx => ?_
    obtain ⟨j, hj, rfl⟩ := List.mem_iff_getElem.1 ((h.around_perm hn).symm.subset hx)
    have : ind (dirLt n.pt (toD p (aroundD p n.id)[j]) (toD p (aroundD p n.id)[0])) = 0 := by
     by_cases hj0 : j = 0
     · subst hj0; exact ind_self _ _
     · exact if_neg (dirLt_asym (h.around_sorted hn (i := 0) (j := j) (by omega) hj))
    rw [this, Int.mul_zero]
   have j := h.jump_node hz hn h0d
   have j2 := h.Hz_jump hz hdd
   have e : Hz p z (aroundD p n.id)[0] = ltW p z n.pt (toD p (aroundD p n.id)[0]) := by
    unfold Hz
    rw [hst, h.sound.node_eq hn]
   omega
 by_cases h0 : k = 0
 ·
  subst h0
  obtain ⟨n, hn, e1, e2⟩ := h.sound.at_fr ha
  exact node n hn (by rw [path_0, e2]) (.inl ((h.around_perm hn).symm.subset (mem_dartL.2 ⟨a, ha, .inl ⟨rfl, e1.symm⟩⟩)))
 by_cases h1 : k = (pathS p a).length - 1
 ·
  obtain ⟨n, hn, e1, e2⟩ := h.sound.at_dst ha
  exact node n hn (by rw [h1, path_end, e2]) (.inr ((h.around_perm hn).symm.subset (mem_dartL.2 ⟨a, ha, .inr ⟨rfl, e1.symm⟩⟩)))
 ·
  obtain ⟨m, rfl⟩ : ∃ m, k = m + 1 := ⟨k - 1, by omega⟩
  have hin : m + 2 < (pathS p a).length := by omega
  have at_ := fun z φ => h.at_inner z φ ha (j := m + 1) (by omega) hin
  rcases h.inner_dirs ha hin with c | c
  ·
   refine ⟨a.id, hma, hsa, fun z hz hzs => ?_⟩
   rw [← (h.side_all hz ha (m := m) (by omega)).2, loc z hzs, at_ z, show m + 1 - 1 = m by omega, show m + 1 + 1 = m + 2 by omega, ind_self]
   rw [show ind (dirLt ((pathS p a).getD (m + 1) pt0) ((pathS p a).getD (m + 2) pt0) ((pathS p a).getD m pt0)) = 0 from if_neg (dirLt_asym c), Int.sub_self, Int.mul_zero]
  ·
   refine ⟨-a.id, hma', by rw [h.sl_dart hma]; exact hsa, fun z hz hzs => ?_⟩
   rw [← (h.side_all hz ha (m := m + 1) (by omega)).1, loc z hzs, at_ z, show m + 1 - 1 = m by omega, show m + 1 + 1 = m + 2 by omega, ind_self]
   rw [show ind (dirLt ((pathS p a).getD (m + 1) pt0) ((pathS p a).getD m pt0) ((pathS p a).getD (m + 2) pt0)) = 0 from if_neg (dirLt_asym c), Int.sub_self, Int.mul_zero]
theorem Valid.cyc_class {X : List Int} (hX : X ∈ cyclesD p) {d e : Int} (hd : d ∈ X) (he : e ∈ X) : slE p p.arcs.length d = slE p p.arcs.length e := by
 have h2 := (h.cyc_nodup hX).2
 refine h.slE_keep (k := 0) (Nat.zero_le _) (Nat.le_refl _) ?_
 show headOf (cyclesD p) d = headOf (cyclesD p) e
 rw [h.head_eq hX (h2 d hd) hd, h.head_eq hX (h2 e he) he]
/-- a cycle is positive if it does not contain the topmost dart, and not if it does -/
theorem Valid.cyc_sign {X : List Int} (hX : X ∈ cyclesD p) {r d0 : Int} (hr : r ∈ X) (hd : d0 ∈ dartsD p) (hs : slE p p.arcs.length d0 = slE p p.arcs.length r)
  (h0 : ∀ z, ClosedC p z → (∀ a ∈ p.arcs, z a.id ≠ 0 → slE p p.arcs.length a.id = slE p p.arcs.length r) → Hz p z d0 = 0) : 0 < arX p X ↔ d0 ∉ X := by
 have hz := h.chX_closed hX
 have h2 := (h.cyc_nodup hX).2
 have supp : ∀ a ∈ p.arcs, chX X a.id ≠ 0 → slE p p.arcs.length a.id = slE p p.arcs.length r := by
  intro a ha hne
  have hma : a.id ∈ dartsD p := mem_dartsD.2 ⟨a, ha, .inl rfl⟩
  by_cases c1 : a.id ∈ X
  · exact h.cyc_class hX c1 hr
  ·
   by_cases c2 : -a.id ∈ X
   · rw [← h.sl_dart hma]; exact h.cyc_class hX c2 hr
   · exact absurd (by unfold chX; rw [if_neg c1, if_neg c2]; rfl) hne
 have hH := h0 _ hz supp
 have cl : ∀ d ∈ dartsD p, slE p p.arcs.length d = slE p p.arcs.length r → Hz p (chX X) d = (if d ∈ X then 1 else 0) - (if d0 ∈ X then 1 else 0) := by
  intro d hd' hsd
  have := h.hz_class hX hd' hd (by rw [hsd, hs])
  omega
 have two : ∀ a ∈ p.arcs, chX X a.id ≠ 0 → Hz p (chX X) a.id = (if a.id ∈ X then 1 else 0) - (if d0 ∈ X then 1 else 0) ∧ Hz p (chX X) (-a.id) = (if -a.id ∈ X then 1 else 0) - (if d0 ∈ X then 1 else 0) := by
  intro a ha hne
  have hma : a.id ∈ dartsD p := mem_dartsD.2 ⟨a, ha, .inl rfl⟩
  exact ⟨cl _ hma (supp a ha hne), cl _ (neg_dart hma) (by rw [h.sl_dart hma]; exact supp a ha hne)⟩
 rw [h.ar_chX hX]
 by_cases c : d0 ∈ X
 ·
  refine ⟨fun hp => ?_, fun hn => absurd c hn⟩
  exfalso
  have hneg : ClosedC p (fun i => -chX X i) := fun n hn => by
   have := hz n hn
   show (p.arcs.map fun a => -chX X a.id * ((if a.dst = n.id then 1 else 0) - (if a.fr = n.id then 1 else 0))).sum = 0
   refine (sumC _ _ (fun a : Ar => -(chX X a.id * ((if a.dst = n.id then (1 : Int) else 0) - (if a.fr = n.id then 1 else 0)))) (fun a _ => Int.neg_mul _ _)).trans ?_
   rw [sumN, this]; rfl
  have hN : ∀ d, Hz p (fun i => -chX X i) d = -Hz p (chX X) d := fun d => wnS_negz _ _ _
  have := (h.area_pos hneg (fun a ha hne => by
   have hne' : chX X a.id ≠ 0 := fun e => hne (by show -_ = (0 : Int); rw [e]; rfl)
   obtain ⟨t1, t2⟩ := two a ha hne'
   rw [hN, hN, t1, t2, if_pos c]
   unfold chX at hne'
   by_cases c1 : a.id ∈ X <;> by_cases c2 : -a.id ∈ X <;> simp only [c1, c2, if_true, if_false] at hne' ⊢ <;> omega)).1
  rw [wnS_negz] at this
  omega
 ·
  refine ⟨fun _ => c, fun _ => ?_⟩
  refine (h.area_pos hz (fun a ha hne => by
   obtain ⟨t1, t2⟩ := two a ha hne
   rw [t1, t2, if_neg c]
   unfold chX at hne
   by_cases c1 : a.id ∈ X <;> by_cases c2 : -a.id ∈ X <;> simp only [c1, c2, if_true, if_false] at hne ⊢ <;> omega)).2 ?_
  apply Classical.byContradiction
  intro hno
  have h1 := cl r (h2 r hr) rfl
  rw [if_pos hr, if_neg c] at h1
  have : Hz p (chX X) r = 0 := wnS_none fun a ha => .inl (Classical.byContradiction fun e => hno ⟨a, ha, e⟩)
  omega
/-- as many positive cycles as arcs - nodes + parts -/
theorem Valid.areas_pos : (((cyclesD p).filter (fun X => decide (0 < arX p X))).length : Int) = p.arcs.length - p.nodes.length + partsD p := by
 have hlb := h.slE_lab p.arcs.length (Nat.le_refl _)
 have hcnt := h.slE_cnt p.arcs.length (Nat.le_refl _)
 obtain ⟨φ, hφ⟩ : ∃ φ : Int → Int, ∀ r ∈ dartsD p, φ r ∈ dartsD p ∧ slE p p.arcs.length (φ r) = slE p p.arcs.length r ∧
   ∀ z, ClosedC p z → (∀ a ∈ p.arcs, z a.id ≠ 0 → slE p p.arcs.length a.id = slE p p.arcs.length r) → Hz p z (φ r) = 0 := by
  refine ⟨fun r => if hr : r ∈ dartsD p then Classical.choose (h.top_dart hr) else 0, fun r hr => ?_⟩
  simp only [dif_pos hr]
  exact Classical.choose_spec (h.top_dart hr)
 -- the cycles that are not positive
 have sgn : ∀ X ∈ cyclesD p, 0 < arX p X ↔ φ (slE p p.arcs.length (X.headD 0)) ∉ X := by
  intro X hX
  obtain ⟨x, hx, -, e2, e3⟩ := h.cyc_form hX
  rw [e2]
  obtain ⟨g1, g2, g3⟩ := hφ _ (hlb.mem x hx)
  rw [hlb.idem x hx] at g2 g3
  exact h.cyc_sign hX e3 g1 g2 g3
 have hnp : ((cyclesD p).filter (fun X => !decide (0 < arX p X))).length = cntR (dartsD p) (slE p p.arcs.length) := by
  have hnd := h.cyc.nodup
  rw [List.nodup_iff_pairwise_ne, List.pairwise_flatten] at hnd
  have inn : ∀ X ∈ (cyclesD p).filter (fun X => !decide (0 < arX p X)), X ∈ cyclesD p ∧ φ (slE p p.arcs.length (X.headD 0)) ∈ X := by
   intro X hX
   rw [List.mem_filter] at hX
   refine ⟨hX.1, Classical.byContradiction fun hc => ?_⟩
   have := (sgn X hX.1).2 hc
   simp [this] at hX
  apply Nat.le_antisymm
  ·
   have h1 : (((cyclesD p).filter (fun X => !decide (0 < arX p X))).map (fun X => slE p p.arcs.length (X.headD 0))).Nodup := by
    rw [List.nodup_iff_pairwise_ne, List.pairwise_map]
    refine List.Pairwise.imp_of_mem (fun {X Y} hX hY hd e => ?_) (hnd.2.filter _)
    have := (inn Y hY).2
    rw [← e] at this
    exact hd _ (inn X hX).2 _ this rfl
   have := nodup_le h1 (m := (dartsD p).filter (fun x => decide (slE p p.arcs.length x = x))) (fun y hy => by
    obtain ⟨X, hX, rfl⟩ := List.mem_map.1 hy
    obtain ⟨x, hx, -, e2, -⟩ := h.cyc_form (inn X hX).1
    rw [e2, List.mem_filter, decide_eq_true_eq]
    exact ⟨hlb.mem x hx, hlb.idem x hx⟩)
   rw [List.length_map] at this
   exact this
  ·
   have rt : ∀ r ∈ (dartsD p).filter (fun x => decide (slE p p.arcs.length x = x)), r ∈ dartsD p ∧ slE p p.arcs.length r = r := by
    intro r hr
    rw [List.mem_filter, decide_eq_true_eq] at hr
    exact hr
   have h1 : (((dartsD p).filter (fun x => decide (slE p p.arcs.length x = x))).map (fun r => headOf (cyclesD p) (φ r))).Nodup := by
    rw [List.nodup_iff_pairwise_ne, List.pairwise_map]
    refine List.Pairwise.imp_of_mem (fun {r s} hr hs hne e => ?_) (h.darts_nodup.filter _)
    have := h.slE_keep (k := 0) (Nat.zero_le _) (Nat.le_refl p.arcs.length) e
    rw [(hφ r (rt r hr).1).2.1, (hφ s (rt s hs).1).2.1, (rt r hr).2, (rt s hs).2] at this
    exact hne this
   have := nodup_le h1 (m := ((cyclesD p).filter (fun X => !decide (0 < arX p X))).map (fun X => X.headD 0)) (fun y hy => by
    obtain ⟨r, hr, rfl⟩ := List.mem_map.1 hy
    obtain ⟨g1, g2, -⟩ := hφ r (rt r hr).1
    obtain ⟨X, hX, hm, e⟩ := h.head_of g1
    obtain ⟨x, hx, -, e2, e3⟩ := h.cyc_form hX
    refine List.mem_map.2 ⟨X, List.mem_filter.2 ⟨hX, ?_⟩, e.symm⟩
    have : ¬ 0 < arX p X := fun hp => by
     refine (sgn X hX).1 hp ?_
     rw [e2, h.cyc_class hX e3 hm, g2, (rt r hr).2]
     exact hm
    simpa using this)
   rw [List.length_map, List.length_map] at this
   exact this
 have hsum : ((cyclesD p).filter (fun X => decide (0 < arX p X))).length + ((cyclesD p).filter (fun X => !decide (0 < arX p X))).length = (cyclesD p).length := by
  generalize cyclesD p = L
  induction L with
  | nil => rfl
  | cons X L ih =>
   rw [List.filter_cons, List.filter_cons]
   by_cases c : 0 < arX p X
   · simp [c]; omega
   · simp [c]; omega
 unfold partsD
 omega
end
end Go.Proofs.YtoclnkfeblfpbaaGreat
