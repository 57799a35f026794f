/- mapsheetsref01: Make, Valid, Cmp. mapsheetsref01.Cmp; mapsheetsref09: later, sooner. As Reg3.lean, where three operations may come up at once. (printed by gen/reg5.py) mapsheetsref09: later, sooner, between. -/
import Derived.Test.YtfondidmklmonaaGreatJ02
import Derived.Test.YtfondidmklmonaaGreatJ01
import Derived.Test.YtfondidmklmonaaGreatJ03
import Derived.Test.YtfondidmklmonaaGreatGB
import Derived.Test.YtfondidmklmonaaGreatJ05
import Derived.Test.YtfondidmklmonaaGreatGG
set_option linter.unusedSimpArgs false
set_option linter.unusedVariables false
namespace Go.Proofs.YtfondidmklmonaaGreat
open Go.RowKit

/-- numbers of a fraction -/
def bd30 (n : Int) : Prop := -1073741824 ≤ n ∧ n ≤ 1073741824
/-- a fraction in lowest terms with a positive denominator -/
structure FrOk (x : Int × Int) : Prop where
 n : bd30 x.1
 d : bd30 x.2
 pos : 0 < x.2
 co : Nat.gcd x.1.natAbs x.2.natAbs = 1
end Go.Proofs.YtfondidmklmonaaGreat
namespace Go.Proofs.YtfondidmklmonaaGreat
open Go.RowKit

def sgnF (a b : Int) : Int := if a < b then -1 else if a = b then 0 else 1
theorem cmpF_sgn (x y : Int × Int) : cmpF x y = sgnF (x.1 * y.2) (y.1 * x.2) := rfl
theorem sgnF_lt {a b : Int} (h : a < b) : sgnF a b = -1 := if_pos h
theorem sgnF_gt {a b : Int} (h : b < a) : sgnF a b = 1 := by unfold sgnF; rw [if_neg (by omega), if_neg (by omega)]
theorem sgnF_eq {a b : Int} (h : a = b) : sgnF a b = 0 := by unfold sgnF; rw [if_neg (by omega), if_pos h]
theorem sgnF_add (t a b : Int) : sgnF (t + a) (t + b) = sgnF a b := by
 rcases (by omega : a < b ∨ a = b ∨ b < a) with h | h | h
 · rw [sgnF_lt h, sgnF_lt (by omega)]
 · rw [sgnF_eq h, sgnF_eq (by omega)]
 · rw [sgnF_gt h, sgnF_gt (by omega)]
structure CmpSt (an ad bn bd p q r s : Int) : Prop where
 a0 : 0 < ad
 b0 : 0 < bd
 a : an = p * ad + r
 b : bn = q * bd + s
 r0 : 0 ≤ r
 r1 : r < ad
 s0 : 0 ≤ s
 s1 : s < bd
section
variable {an ad bn bd p q r s : Int} (h : CmpSt an ad bn bd p q r s)
include h
theorem CmpSt.prods : an * bd = p * (ad * bd) + r * bd ∧ bn * ad = q * (ad * bd) + s * ad ∧ 0 ≤ r * bd ∧ r * bd < ad * bd ∧ 0 ≤ s * ad ∧ s * ad < ad * bd := by
 obtain ⟨a0, b0, ha, hb, r0, r1, s0, s1⟩ := h
 refine ⟨?_, ?_, Int.mul_nonneg r0 (by omega), Int.mul_lt_mul_of_pos_right r1 b0, Int.mul_nonneg s0 (by omega), ?_⟩
 · rw [ha, Int.add_mul, Int.mul_assoc]
 · rw [hb, Int.add_mul, Int.mul_assoc, Int.mul_comm bd ad]
 · rw [Int.mul_comm ad bd]; exact Int.mul_lt_mul_of_pos_right s1 a0
theorem CmpSt.ne (hpq : p ≠ q) : cmpF (an, ad) (bn, bd) = sgnF p q := by
 obtain ⟨e1, e2, h1, h2, h3, h4⟩ := h.prods
 rw [cmpF_sgn]
 show sgnF (an * bd) (bn * ad) = _
 rw [e1, e2]
 generalize ad * bd = T at *
 have hT : 0 ≤ T := by omega
 rcases (by omega : p < q ∨ q < p) with hl | hl
 ·
  have := Int.mul_le_mul_of_nonneg_right (show p + 1 ≤ q by omega) hT
  rw [Int.add_mul, Int.one_mul] at this
  rw [sgnF_lt hl, sgnF_lt (by omega)]
 ·
  have := Int.mul_le_mul_of_nonneg_right (show q + 1 ≤ p by omega) hT
  rw [Int.add_mul, Int.one_mul] at this
  rw [sgnF_gt hl, sgnF_gt (by omega)]
theorem CmpSt.eq (hpq : p = q) : cmpF (an, ad) (bn, bd) = sgnF (r * bd) (s * ad) := by
 obtain ⟨e1, e2, -⟩ := h.prods
 rw [cmpF_sgn]
 show sgnF (an * bd) (bn * ad) = _
 rw [e1, e2, hpq, sgnF_add]
theorem CmpSt.zero (hpq : p = q) (hz : r = 0 ∨ s = 0) : cmpF (an, ad) (bn, bd) = sgnF r s := by
 rw [h.eq hpq]
 have a0 := h.a0; have b0 := h.b0; have r0 := h.r0; have s0 := h.s0
 rcases hz with rfl | rfl
 ·
  rcases (by omega : s = 0 ∨ 0 < s) with rfl | hs
  · rw [Int.zero_mul, Int.zero_mul]
  · rw [sgnF_lt hs, sgnF_lt (by rw [Int.zero_mul]; exact Int.mul_pos hs a0)]
 ·
  rcases (by omega : r = 0 ∨ 0 < r) with rfl | hr
  · rw [Int.zero_mul, Int.zero_mul]
  · rw [sgnF_gt hr, sgnF_gt (by rw [Int.zero_mul]; exact Int.mul_pos hr b0)]
end
theorem CmpSt.of {an ad bn bd : Int} (a0 : 0 < ad) (b0 : 0 < bd) : CmpSt an ad bn bd (an / ad) (bn / bd) (an - an / ad * ad) (bn - bn / bd * bd) := by
 have e1 := Int.emod_add_mul_ediv an ad
 have e2 := Int.emod_add_mul_ediv bn bd
 have e3 := Int.emod_nonneg an (show ad ≠ 0 by omega)
 have e4 := Int.emod_lt_of_pos an a0
 have e5 := Int.emod_nonneg bn (show bd ≠ 0 by omega)
 have e6 := Int.emod_lt_of_pos bn b0
 rw [Int.mul_comm] at e1 e2
 exact ⟨a0, b0, by omega, by omega, by omega, by omega, by omega, by omega⟩
end Go.Proofs.YtfondidmklmonaaGreat
namespace Go.Proofs.YtfondidmklmonaaGreat
open Go.RowKit

inductive RPlanT where
 | done
 | take (i m : Nat) (r : RPlanT)
 | call (i m : Nat) (r : RPlanT)
 | two (i m : Nat) (r : RPlanT) (j m' : Nat) (s : RPlanT)
 | three (i m : Nat) (r : RPlanT) (j m' : Nat) (s : RPlanT) (k m'' : Nat) (u : RPlanT)
 | four (i m : Nat) (r : RPlanT) (j m' : Nat) (s : RPlanT) (k m'' : Nat) (u : RPlanT) (n m3 : Nat) (v : RPlanT)
/-- n operations taken one after the other, from number i on -/
def RPlanT.run : Nat → Nat → Nat → RPlanT → RPlanT
 | 0, _, _, r => r
 | n + 1, i, m, r => .take i (m ||| (1 <<< i)) (RPlanT.run n (i + 1) (m ||| (1 <<< i)) r)
def RPlanT.depth : RPlanT → Nat
 | .done => 0
 | .take _ _ r => r.depth + 1
 | .call _ _ r => r.depth + 1
 | .two _ _ r _ _ s => Nat.max r.depth s.depth + 1
 | .three _ _ r _ _ s _ _ u => Nat.max r.depth (Nat.max s.depth u.depth) + 1
 | .four _ _ r _ _ s _ _ u _ _ v => Nat.max r.depth (Nat.max s.depth (Nat.max u.depth v.depth)) + 1
section
variable {P : Program} {ops : Array Oper} {Q : Exit → Act → World → Prop} {S : World → Prop}
end
section
variable {P : Program} {ops : Array Oper} {Q : Exit → Act → World → Prop}
end
end Go.Proofs.YtfondidmklmonaaGreat
namespace Go.Proofs.YtfondidmklmonaaGreat
open Go.RowKit

theorem FrOk.later {x y : Int × Int} (hx : FrOk x) (hy : FrOk y) : FrOk (laterF x y) := by unfold laterF; split <;> assumption
theorem FrOk.sooner {x y : Int × Int} (hx : FrOk x) (hy : FrOk y) : FrOk (soonerF x y) := by unfold soonerF; split <;> assumption
end Go.Proofs.YtfondidmklmonaaGreat
