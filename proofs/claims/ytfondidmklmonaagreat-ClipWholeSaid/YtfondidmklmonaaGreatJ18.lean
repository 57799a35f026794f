/- mapsheetsref01: Make, Valid, Cmp. mapsheetsref01.Cmp; mapsheetsref09: later, sooner. As Reg3.lean, where three operations may come up at once. (printed by gen/reg5.py) mapsheetsref09: later, sooner, between. -/
import Derived.Test.YtfondidmklmonaaGreatJ02
import Derived.Test.YtfondidmklmonaaGreatJ01
import Derived.Test.YtfondidmklmonaaGreatJ03
import Derived.Test.YtfondidmklmonaaGreatGB
import Derived.Test.YtfondidmklmonaaGreatJ05
import Derived.Test.YtfondidmklmonaaGreatGG
set_option linter.unusedSimpArgs false
set_option linter.unusedVariables false
namespace Go.Proofs.YtfondidmklmonaaGreat
open Go.RowKit

/-- numbers of a fraction -/
def bd30 (n : Int) : Prop := -1073741824 ≤ n ∧ n ≤ 1073741824
/-- a fraction in lowest terms with a positive denominator -/
structure FrOk (x : Int × Int) : Prop where
 n : bd30 x.1
 d : bd30 x.2
 pos : 0 < x.2
 co : Nat.gcd x.1.natAbs x.2.natAbs = 1
end Go.Proofs.YtfondidmklmonaaGreat
namespace Go.Proofs.YtfondidmklmonaaGreat
open Go.RowKit

def sgnF (a b : Int) : Int := if a < b then -1 else if a = b then 0 else 1
theorem cmpF_sgn (x y : Int × Int) : cmpF x y = sgnF (x.1 * y.2) (y.1 * x.2) := rfl
theorem sgnF_lt {a b : Int} (h : a < b) : sgnF a b = -1 := if_pos h
theorem sgnF_gt {a b : Int} (h : b < a) : sgnF a b = 1 := by unfold sgnF; rw [if_neg (by omega), if_neg (by omega)]
theorem sgnF_eq {a b : Int} (h : a = b) : sgnF a b = 0 := by unfold sgnF; rw [if_neg (by omega), if_pos h]
theorem sgnF_add (t a b : Int) : sgnF (t + a) (t + b) = sgnF a b := by
 rcases (by omega : a < b ∨ a = b ∨ b < a) with h | h | h
 · rw [sgnF_lt h, sgnF_lt (by omega)]
 · rw [sgnF_eq h, sgnF_eq (by omega)]
 · rw [sgnF_gt h, sgnF_gt (by omega)]
structure CmpSt (an ad bn bd p q r s : Int) : Prop where
 a0 : 0 < ad
 b0 : 0 < bd
 a : an = p * ad + r
 b : bn = q * bd + s
 r0 : 0 ≤ r
 r1 : r < ad
 s0 : 0 ≤ s
 s1 : s < bd
section
variable {an ad bn bd p q r s : Int} (h : CmpSt an ad bn bd p q r s)
include h
theorem CmpSt.prods : an * bd = p * (ad * bd) + r * bd ∧ bn * ad = q * (ad * bd) + s * ad ∧ 0 ≤ r * bd ∧ r * bd < ad * bd ∧ 0 ≤ s * ad ∧ s * ad < ad * bd := by
 obtain ⟨a0, b0, ha, hb, r0, r1, s0, s1⟩ := h
 refine ⟨?_, ?_, Int.mul_nonneg r0 (by omega), Int.mul_lt_mul_of_pos_right r1 b0, Int.mul_nonneg s0 (by omega), ?_⟩
 · rw [ha, Int.add_mul, Int.mul_assoc]
 · rw [hb, Int.add_mul, Int.mul_assoc, Int.mul_comm bd ad]
 · rw [Int.mul_comm ad bd]; exact Int.mul_lt_mul_of_pos_right s1 a0
theorem CmpSt.ne (hpq : p ≠ q) : cmpF (an, ad) (bn, bd) = sgnF p q := by
 obtain ⟨e1, e2, h1, h2, h3, h4⟩ := h.prods
 rw [cmpF_sgn]
 show sgnF (an * bd) (bn * ad) = _
 rw [e1, e2]
 generalize ad * bd = T at *
 have hT : 0 ≤ T := by omega
 rcases (by omega : p < q ∨ q < p) with hl | hl
 ·
  have := Int.mul_le_mul_of_nonneg_right (show p + 1 ≤ q by omega) hT
  rw [Int.add_mul, Int.one_mul] at this
  rw [sgnF_lt hl, sgnF_lt (by omega)]
 ·
  have := Int.mul_le_mul_of_nonneg_right (show q + 1 ≤ p by omega) hT
  rw [Int.add_mul, Int.one_mul] at this
  rw [sgnF_gt hl, sgnF_gt (by omega)]
theorem CmpSt.eq (hpq : p = q) : cmpF (an, ad) (bn, bd) = sgnF (r * bd) (s * ad) := by
 obtain ⟨e1, e2, -⟩ := h.prods
 rw [cmpF_sgn]
 show sgnF (an * bd) (bn * ad) = _
 rw [e1, e2, hpq, sgnF_add]
theorem CmpSt.zero (hpq : p = q) (hz : r = 0 ∨ s = 0) : cmpF (an, ad) (bn, bd) = sgnF r s := by
 rw [h.eq hpq]
 have a0 := h.a0; have b0 := h.b0; have r0 := h.r0; have s0 := h.s0
 rcases hz with rfl | rfl
 ·
  rcases (by omega : s = 0 ∨ 0 < s) with rfl | hs
  · rw [Int.zero_mul, Int.zero_mul]
  · rw [sgnF_lt hs, sgnF_lt (by rw [Int.zero_mul]; exact Int.mul_pos hs a0)]
 ·
  rcases (by omega : r = 0 ∨ 0 < r) with rfl | hr
  · rw [Int.zero_mul, Int.zero_mul]
  · rw [sgnF_gt hr, sgnF_gt (by rw [Int.zero_mul]; exact Int.mul_pos hr b0)]
end
theorem CmpSt.of {an ad bn bd : Int} (a0 : 0 < ad) (b0 : 0 < bd) : CmpSt an ad bn bd (an / ad) (bn / bd) (an - an / ad * ad) (bn - bn / bd * bd) := by
 have e1 := Int.emod_add_mul_ediv an ad
 have e2 := Int.emod_add_mul_ediv bn bd
 have e3 := Int.emod_nonneg an (show ad ≠ 0 by omega)
 have e4 := Int.emod_lt_of_pos an a0
 have e5 := Int.emod_nonneg bn (show bd ≠ 0 by omega)
 have e6 := Int.emod_lt_of_pos bn b0
 rw [Int.mul_comm] at e1 e2
 exact ⟨a0, b0, by omega, by omega, by omega, by omega, by omega, by omega⟩
end Go.Proofs.YtfondidmklmonaaGreat
namespace Go.Proofs.YtfondidmklmonaaGreat
open Go.RowKit

inductive RPlanT where
 | done
 | take (i m : Nat) (r : RPlanT)
 | call (i m : Nat) (r : RPlanT)
 | two (i m : Nat) (r : RPlanT) (j m' : Nat) (s : RPlanT)
 | three (i m : Nat) (r : RPlanT) (j m' : Nat) (s : RPlanT) (k m'' : Nat) (u : RPlanT)
 | four (i m : Nat) (r : RPlanT) (j m' : Nat) (s : RPlanT) (k m'' : Nat) (u : RPlanT) (n m3 : Nat) (v : RPlanT)
/-- n operations taken one after the other, from number i on -/
def RPlanT.run : Nat → Nat → Nat → RPlanT → RPlanT
 | 0, _, _, r => r
 | n + 1, i, m, r => .take i (m ||| (1 <<< i)) (RPlanT.run n (i + 1) (m ||| (1 <<< i)) r)
def RPlanT.depth : RPlanT → Nat
 | .done => 0
 | .take _ _ r => r.depth + 1
 | .call _ _ r => r.depth + 1
 | .two _ _ r _ _ s => Nat.max r.depth s.depth + 1
 | .three _ _ r _ _ s _ _ u => Nat.max r.depth (Nat.max s.depth u.depth) + 1
 | .four _ _ r _ _ s _ _ u _ _ v => Nat.max r.depth (Nat.max s.depth (Nat.max u.depth v.depth)) + 1
def planOkT (ops : Array Oper) : RPlanT → Array Bool → Prop
 | .done, l => Region.ready .any ops l = []
 | .take i _ r, l => Region.free .any ops l i = true ∧ (Region.ready .any ops l).contains i = true ∧ planOkT ops r (l.setIfInBounds i true)
 | .call i _ r, l => Region.ready .any ops l = [i] ∧ planOkT ops r (l.setIfInBounds i true)
 | .two i _ r j _ s, l => Region.ready .any ops l = [i, j] ∧ planOkT ops r (l.setIfInBounds i true) ∧ planOkT ops s (l.setIfInBounds j true)
 | .three i _ r j _ s k _ u, l => Region.ready .any ops l = [i, j, k] ∧ planOkT ops r (l.setIfInBounds i true) ∧ planOkT ops s (l.setIfInBounds j true) ∧ planOkT ops u (l.setIfInBounds k true)
 | .four i _ r j _ s k _ u n _ v, l => Region.ready .any ops l = [i, j, k, n] ∧ planOkT ops r (l.setIfInBounds i true) ∧ planOkT ops s (l.setIfInBounds j true) ∧ planOkT ops u (l.setIfInBounds k true) ∧ planOkT ops v (l.setIfInBounds n true)
def planMT (ops : Array Oper) : RPlanT → Nat → Bool
 | .done, m => (readyM ops m).isEmpty
 | .take i m' r, m => Nat.beq m' (m ||| (1 <<< i)) && (freeM ops m i && (upM ops m i && planMT ops r m'))
 | .call i m' r, m => Nat.beq m' (m ||| (1 <<< i)) && (decide (readyM ops m = [i]) && planMT ops r m')
 | .two i m' r j m'' s, m => Nat.beq m' (m ||| (1 <<< i)) && (Nat.beq m'' (m ||| (1 <<< j)) && (decide (readyM ops m = [i, j]) && (planMT ops r m' && planMT ops s m'')))
 | .three i m' r j m'' s k m3 u, m => Nat.beq m' (m ||| (1 <<< i)) && (Nat.beq m'' (m ||| (1 <<< j)) && (Nat.beq m3 (m ||| (1 <<< k)) && (decide (readyM ops m = [i, j, k]) && (planMT ops r m' && (planMT ops s m'' && planMT ops u m3)))))
 | .four i m' r j m'' s k m3 u n m4 v, m => Nat.beq m' (m ||| (1 <<< i)) && (Nat.beq m'' (m ||| (1 <<< j)) && (Nat.beq m3 (m ||| (1 <<< k)) && (Nat.beq m4 (m ||| (1 <<< n)) && (decide (readyM ops m = [i, j, k, n]) && (planMT ops r m' && (planMT ops s m'' && (planMT ops u m3 && planMT ops v m4)))))))
theorem planMT_ok (ops : Array Oper) : ∀ (p : RPlanT) (m : Nat), m < 2 ^ ops.size → planMT ops p m = true → planOkT ops p (maskArr ops.size m)
 | .done, m, hm, h => by
  simp only [planMT, List.isEmpty_iff] at h
  show Region.ready .any ops _ = []
  rw [ready_mask _ _ hm, h]
 | .take i m' r, m, hm, h => by
  simp only [planMT, Bool.and_eq_true, Nat.beq_eq] at h
  obtain ⟨h1, h2, h3, h4⟩ := h
  have hi := upM_lt h3
  refine ⟨by rw [free_mask]; exact h2, ?_, ?_⟩
  ·
   rw [ready_mask _ _ hm, List.contains_iff_mem]
   exact List.mem_filter.2 ⟨List.mem_range.2 hi, h3⟩
  ·
   rw [maskArr_set _ _ _ hi, ← h1]
   exact planMT_ok ops r m' (by rw [h1]; exact mask_lt hm hi) h4
 | .call i m' r, m, hm, h => by
  simp only [planMT, Bool.and_eq_true, Nat.beq_eq, decide_eq_true_eq] at h
  obtain ⟨h1, h2, h3⟩ := h
  have hi : i < ops.size := readyM_lt (m := m) (by rw [h2]; simp)
  refine ⟨by rw [ready_mask _ _ hm, h2], ?_⟩
  rw [maskArr_set _ _ _ hi, ← h1]
  exact planMT_ok ops r m' (by rw [h1]; exact mask_lt hm hi) h3
 | .two i m' r j m'' s, m, hm, h => by
  simp only [planMT, Bool.and_eq_true, Nat.beq_eq, decide_eq_true_eq] at h
  obtain ⟨h1, h2, h3, h4, h5⟩ := h
  have hi : i < ops.size := readyM_lt (m := m) (by rw [h3]; simp)
  have hj : j < ops.size := readyM_lt (m := m) (by rw [h3]; simp)
  refine ⟨by rw [ready_mask _ _ hm, h3], ?_, ?_⟩
  ·
   rw [maskArr_set _ _ _ hi, ← h1]
   exact planMT_ok ops r m' (by rw [h1]; exact mask_lt hm hi) h4
  ·
   rw [maskArr_set _ _ _ hj, ← h2]
   exact planMT_ok ops s m'' (by rw [h2]; exact mask_lt hm hj) h5
 | .three i m' r j m'' s k m3 u, m, hm, h => by
  simp only [planMT, Bool.and_eq_true, Nat.beq_eq, decide_eq_true_eq] at h
  obtain ⟨h1, h2, h6, h3, h4, h5, h7⟩ := h
  have hi : i < ops.size := readyM_lt (m := m) (by rw [h3]; simp)
  have hj : j < ops.size := readyM_lt (m := m) (by rw [h3]; simp)
  have hk : k < ops.size := readyM_lt (m := m) (by rw [h3]; simp)
  refine ⟨by rw [ready_mask _ _ hm, h3], ?_, ?_, ?_⟩
  ·
   rw [maskArr_set _ _ _ hi, ← h1]
   exact planMT_ok ops r m' (by rw [h1]; exact mask_lt hm hi) h4
  ·
   rw [maskArr_set _ _ _ hj, ← h2]
   exact planMT_ok ops s m'' (by rw [h2]; exact mask_lt hm hj) h5
  ·
   rw [maskArr_set _ _ _ hk, ← h6]
   exact planMT_ok ops u m3 (by rw [h6]; exact mask_lt hm hk) h7
 | .four i m' r j m'' s k m3 u n m4 v, m, hm, h => by
  simp only [planMT, Bool.and_eq_true, Nat.beq_eq, decide_eq_true_eq] at h
  obtain ⟨h1, h2, h6, h8, h3, h4, h5, h7, h9⟩ := h
  have hi : i < ops.size := readyM_lt (m := m) (by rw [h3]; simp)
  have hj : j < ops.size := readyM_lt (m := m) (by rw [h3]; simp)
  have hk : k < ops.size := readyM_lt (m := m) (by rw [h3]; simp)
  have hn : n < ops.size := readyM_lt (m := m) (by rw [h3]; simp)
  refine ⟨by rw [ready_mask _ _ hm, h3], ?_, ?_, ?_, ?_⟩
  ·
   rw [maskArr_set _ _ _ hi, ← h1]
   exact planMT_ok ops r m' (by rw [h1]; exact mask_lt hm hi) h4
  ·
   rw [maskArr_set _ _ _ hj, ← h2]
   exact planMT_ok ops s m'' (by rw [h2]; exact mask_lt hm hj) h5
  ·
   rw [maskArr_set _ _ _ hk, ← h6]
   exact planMT_ok ops u m3 (by rw [h6]; exact mask_lt hm hk) h7
  ·
   rw [maskArr_set _ _ _ hn, ← h8]
   exact planMT_ok ops v m4 (by rw [h8]; exact mask_lt hm hn) h9

section
variable {P : Program} {ops : Array Oper} {Q : Exit → Act → World → Prop} {S : World → Prop}
def PlannedT (P : Program) (ops : Array Oper) (Q : Exit → Act → World → Prop) (S : World → Prop) (p : RPlanT) (a : Act) (w : World) : Prop :=
 ∀ (l : Array Bool) (f : Nat), Region.noSelect ops = true → planOkT ops p l → p.depth ≤ f → wpAnyH P .any ops Q S f l a w

theorem rt_start {id : Nat} {a : Act} {w : World} (S : World → Prop) (p : RPlanT) (hm : P.follows .mixedOrders = true) (hS : S w.drew)
  (hsel : Region.noSelect ops = true) (hp : planMT ops p 0 = true) (hd : p.depth ≤ ops.size)
  (h : ∀ ops' Q', PLift (ops' = ops) → PLift (∀ a w, Q .normal a w → Q' .normal a w) → S w.drew → PlannedT P ops' (NoPanic Q') S p a w.drew) : (Code.region id ops true).wp P Q a w :=
 wp_region_noPanic (wp_region_held_drew hm hS fun hS => h ops Q ⟨rfl⟩ ⟨fun _ _ h => h⟩ hS _ _ hsel (by have := planMT_ok ops p 0 (Nat.pow_pos (by omega)) hp; rwa [maskArr_zero] at this) hd)

theorem rt_take {i m : Nat} {oi : Oper} {r : RPlanT} {a : Act} {w : World} (hi : ops[i]? = some oi) (hS : S w)
  (h : ∃ v : Value, YieldsIf P ops S oi v a ∧ PlannedT P ops (NoPanic Q) S r (a.put oi.dst v) w) : PlannedT P ops (NoPanic Q) S (.take i m r) a w := by
 obtain ⟨v, hy, h⟩ := h
 intro l f hsel hp hd
 simp only [planOkT] at hp
 cases f with
 | zero => simp [RPlanT.depth] at hd
 | succ f => exact wpAnyH_take hi hsel hp.1 hp.2.1 (fun _ _ _ h => h) hy hS (h _ _ hsel hp.2.2 (by simpa [RPlanT.depth] using hd))

theorem rt_call {i m : Nat} {oi : Oper} {r : RPlanT} {a : Act} {w : World} (hi : ops[i]? = some oi)
  (h : ∀ K' : Act → World → Prop, Shut (∀ a w, S w → (S w → PlannedT P ops (NoPanic Q) S r a w) → K' a w) → if Region.wanted oi (yielded ops a.tmps) = true then Oper.wp P oi a w K' (NoPanic Q) else K' (a.put oi.dst undef) w) :
  PlannedT P ops (NoPanic Q) S (.call i m r) a w := by
 intro l f hsel hp hd
 simp only [planOkT] at hp
 cases f with
 | zero => simp [RPlanT.depth] at hd
 | succ f => exact wpAnyH_ready hp.1 (by simp) (AllReadyH.cons hi (fun K' hK => h K' (fun a w hS hW => hK.out a w hS fun hS => hW hS _ _ hsel hp.2 (by simpa [RPlanT.depth] using hd))) AllReadyH.nil)

theorem rt_two {i j m m' : Nat} {oi oj : Oper} {r s : RPlanT} {a : Act} {w : World} (hi : ops[i]? = some oi) (hj : ops[j]? = some oj)
  (h : ∀ K' : Act → World → Prop, Shut (∀ a w, S w → (S w → PlannedT P ops (NoPanic Q) S r a w) → K' a w) → if Region.wanted oi (yielded ops a.tmps) = true then Oper.wp P oi a w K' (NoPanic Q) else K' (a.put oi.dst undef) w)
  (h' : ∀ K' : Act → World → Prop, Shut (∀ a w, S w → (S w → PlannedT P ops (NoPanic Q) S s a w) → K' a w) → if Region.wanted oj (yielded ops a.tmps) = true then Oper.wp P oj a w K' (NoPanic Q) else K' (a.put oj.dst undef) w) :
  PlannedT P ops (NoPanic Q) S (.two i m r j m' s) a w := by
 intro l f hsel hp hd
 simp only [planOkT] at hp
 cases f with
 | zero => simp [RPlanT.depth] at hd
 | succ f =>
  simp only [RPlanT.depth, Nat.add_le_add_iff_right, Nat.max_le] at hd
  exact wpAnyH_ready hp.1 (by simp) (AllReadyH.cons hi (fun K' hK => h K' (fun a w hS hW => hK.out a w hS fun hS => hW hS _ _ hsel hp.2.1 hd.1))
   (AllReadyH.cons hj (fun K' hK => h' K' (fun a w hS hW => hK.out a w hS fun hS => hW hS _ _ hsel hp.2.2 hd.2)) AllReadyH.nil))

theorem rt_three {i j k m m' m'' : Nat} {oi oj ok : Oper} {r s u : RPlanT} {a : Act} {w : World} (hi : ops[i]? = some oi) (hj : ops[j]? = some oj) (hk : ops[k]? = some ok)
  (h : ∀ K' : Act → World → Prop, Shut (∀ a w, S w → (S w → PlannedT P ops (NoPanic Q) S r a w) → K' a w) → if Region.wanted oi (yielded ops a.tmps) = true then Oper.wp P oi a w K' (NoPanic Q) else K' (a.put oi.dst undef) w)
  (h' : ∀ K' : Act → World → Prop, Shut (∀ a w, S w → (S w → PlannedT P ops (NoPanic Q) S s a w) → K' a w) → if Region.wanted oj (yielded ops a.tmps) = true then Oper.wp P oj a w K' (NoPanic Q) else K' (a.put oj.dst undef) w)
  (h'' : ∀ K' : Act → World → Prop, Shut (∀ a w, S w → (S w → PlannedT P ops (NoPanic Q) S u a w) → K' a w) → if Region.wanted ok (yielded ops a.tmps) = true then Oper.wp P ok a w K' (NoPanic Q) else K' (a.put ok.dst undef) w) :
  PlannedT P ops (NoPanic Q) S (.three i m r j m' s k m'' u) a w := by
 intro l f hsel hp hd
 simp only [planOkT] at hp
 cases f with
 | zero => simp [RPlanT.depth] at hd
 | succ f =>
  simp only [RPlanT.depth, Nat.add_le_add_iff_right, Nat.max_le] at hd
  exact wpAnyH_ready hp.1 (by simp) (AllReadyH.cons hi (fun K' hK => h K' (fun a w hS hW => hK.out a w hS fun hS => hW hS _ _ hsel hp.2.1 hd.1))
   (AllReadyH.cons hj (fun K' hK => h' K' (fun a w hS hW => hK.out a w hS fun hS => hW hS _ _ hsel hp.2.2.1 hd.2.1))
   (AllReadyH.cons hk (fun K' hK => h'' K' (fun a w hS hW => hK.out a w hS fun hS => hW hS _ _ hsel hp.2.2.2 hd.2.2)) AllReadyH.nil)))

theorem rt_four {i j k n m m' m'' m3 : Nat} {oi oj ok on : Oper} {r s u v : RPlanT} {a : Act} {w : World} (hi : ops[i]? = some oi) (hj : ops[j]? = some oj) (hk : ops[k]? = some ok) (hn : ops[n]? = some on)
  (h : ∀ K' : Act → World → Prop, Shut (∀ a w, S w → (S w → PlannedT P ops (NoPanic Q) S r a w) → K' a w) → if Region.wanted oi (yielded ops a.tmps) = true then Oper.wp P oi a w K' (NoPanic Q) else K' (a.put oi.dst undef) w)
  (h' : ∀ K' : Act → World → Prop, Shut (∀ a w, S w → (S w → PlannedT P ops (NoPanic Q) S s a w) → K' a w) → if Region.wanted oj (yielded ops a.tmps) = true then Oper.wp P oj a w K' (NoPanic Q) else K' (a.put oj.dst undef) w)
  (h'' : ∀ K' : Act → World → Prop, Shut (∀ a w, S w → (S w → PlannedT P ops (NoPanic Q) S u a w) → K' a w) → if Region.wanted ok (yielded ops a.tmps) = true then Oper.wp P ok a w K' (NoPanic Q) else K' (a.put ok.dst undef) w)
  (h3 : ∀ K' : Act → World → Prop, Shut (∀ a w, S w → (S w → PlannedT P ops (NoPanic Q) S v a w) → K' a w) → if Region.wanted on (yielded ops a.tmps) = true then Oper.wp P on a w K' (NoPanic Q) else K' (a.put on.dst undef) w) :
  PlannedT P ops (NoPanic Q) S (.four i m r j m' s k m'' u n m3 v) a w := by
 intro l f hsel hp hd
 simp only [planOkT] at hp
 cases f with
 | zero => simp [RPlanT.depth] at hd
 | succ f =>
  simp only [RPlanT.depth, Nat.add_le_add_iff_right, Nat.max_le] at hd
  exact wpAnyH_ready hp.1 (by simp) (AllReadyH.cons hi (fun K' hK => h K' (fun a w hS hW => hK.out a w hS fun hS => hW hS _ _ hsel hp.2.1 hd.1))
   (AllReadyH.cons hj (fun K' hK => h' K' (fun a w hS hW => hK.out a w hS fun hS => hW hS _ _ hsel hp.2.2.1 hd.2.1))
   (AllReadyH.cons hk (fun K' hK => h'' K' (fun a w hS hW => hK.out a w hS fun hS => hW hS _ _ hsel hp.2.2.2.1 hd.2.2.1))
   (AllReadyH.cons hn (fun K' hK => h3 K' (fun a w hS hW => hK.out a w hS fun hS => hW hS _ _ hsel hp.2.2.2.2 hd.2.2.2)) AllReadyH.nil))))

theorem rt_done {a : Act} {w : World} (h : Q .normal a w) : PlannedT P ops (NoPanic Q) S .done a w := by
 intro l f _ hp _
 exact wpAnyH_done hp (NoPanic.normal h) f

theorem rt_yp {l : List Oper} {i m : Nat} {oi : Oper} {r : RPlanT} {a : Act} {w : World} {v : Value} (H : PLift (ops = l.toArray)) (hi : l[i]? = some oi) (hS : S w) (hg : oi.guard = none)
  (hy : ∀ wq, S wq → (execOp a.eval oi).run P wq = .ok (.value v) wq) (h : PlannedT P ops (NoPanic Q) S r (a.put oi.dst v) w) : PlannedT P ops (NoPanic Q) S (.take i m r) a w :=
 rt_take (get_of H hi) hS ⟨v, .inl ⟨wanted_plain hg, hy⟩, h⟩
end
section
variable {P : Program} {ops : Array Oper} {Q : Exit → Act → World → Prop}
theorem rt_pX {l : List Oper} {i m : Nat} {oi : Oper} {r : RPlanT} {a : Act} {w W : World} {row : Option Nat} {v : Value} (H : PLift (ops = l.toArray)) (hi : l[i]? = some oi) (hS : SinceX W row w) (hg : oi.guard = none)
  (hy : ∀ wq : World, (∀ b o, b < W.heap.size → some b ≠ row → wq.cell? ⟨b, o, none⟩ = W.cell? ⟨b, o, none⟩) → (execOp a.eval oi).run P wq = .ok (.value v) wq) (h : PlannedT P ops (NoPanic Q) (SinceX W row) r (a.put oi.dst v) w) : PlannedT P ops (NoPanic Q) (SinceX W row) (.take i m r) a w :=
 rt_yp H hi hS hg (fun wq hq => hy wq (xcell hq).1) h
end
end Go.Proofs.YtfondidmklmonaaGreat
namespace Go.Proofs.YtfondidmklmonaaGreat
open Go.RowKit

theorem FrOk.later {x y : Int × Int} (hx : FrOk x) (hy : FrOk y) : FrOk (laterF x y) := by unfold laterF; split <;> assumption
theorem FrOk.sooner {x y : Int × Int} (hx : FrOk x) (hy : FrOk y) : FrOk (soonerF x y) := by unfold soonerF; split <;> assumption
end Go.Proofs.YtfondidmklmonaaGreat
