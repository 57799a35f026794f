/- Package geom: near, twice, Twice, Side, On, before, shared, Meet: what each call returns. -/
import Derived.Test.YtibchmofckhofaaGB
import Derived.Test.YtibchmofckhofaaProg
set_option linter.unusedSimpArgs false
set_option linter.unusedVariables false
namespace Go.Proofs.Ytibchmofckhofaa
open Go.RowKit

/-- The coordinates are at most 2^21 in size. -/
def near1 (p : Pt) : Bool := decide (-2097152 ≤ p.x) && decide (p.x ≤ 2097152) && decide (-2097152 ≤ p.y) && decide (p.y ≤ 2097152)
def nears (l : List Pt) : Bool := l.all near1
def tw (a b c : Pt) : Int := (b.x - a.x) * (c.y - a.y) - (b.y - a.y) * (c.x - a.x)

theorem near1_iff (p : Pt) : near1 p = true ↔ -2097152 ≤ p.x ∧ p.x ≤ 2097152 ∧ -2097152 ≤ p.y ∧ p.y ≤ 2097152 := by
  simp [near1, and_assoc]

theorem nears_hit (l : List Pt) (k : Nat) (hk : k < l.length) (h : near1 l[k] = false) : nears l = false := by
  unfold nears
  rw [List.all_eq_false]
  exact ⟨l[k], List.getElem_mem hk, by simp [h]⟩
theorem nears_all (l : List Pt) (h : ∀ j (hj : j < l.length), near1 l[j] = true) : nears l = true := by
  unfold nears
  rw [List.all_eq_true]
  intro x hx
  obtain ⟨i, hi, rfl⟩ := List.mem_iff_getElem.1 hx
  exact h i hi

set_option maxHeartbeats 400000 in
theorem near_spec (v : Value) (l : List Pt) (w : World) (h : Pts w v l) :
    Calls Try.prog 82 #[v] w fun e w' => e = .returned (.bool (nears l)) ∧ Below w.heap.size w w' := by
  obtain ⟨A, c, rfl, hn, hc, hR⟩ := h
  unfold maxLen at hc
  go_enter Try.func82, Try.ntmps82
  go_wp2_with fail
  go_loopw [7] (fun i wr => ∃ k : Nat, k ≤ l.length ∧ i = .int .i64 k ∧ Below w.heap.size w wr ∧ ∀ j (hj : j < l.length), j < k → near1 l[j] = true) (fun i _ => l.length - (intOf i).toNat)
  case atStart => exact ⟨0, Nat.zero_le _, rfl, Below.refl _ _, fun j _ h => by omega⟩
  case round =>
    obtain ⟨k, hk, rfl, hb, hno⟩ := hrel
    have Hb := Lib.hid hb
    have Hno := Lib.hid hno
    have hs := hb.size
    clear hb hno
    by_cases hlt : k < l.length
    · obtain ⟨b, o, rfl, hlb, c0, c1⟩ := (hR.mono Hb.out).pt hlt
      have HR := Lib.hid hR; clear hR
      by_cases hnr : near1 l[k] = true
      · have Hn := Lib.hid hnr
        obtain ⟨n1, n2, n3, n4⟩ := (near1_iff _).1 hnr
        clear hnr
        go_wp2
        go_roundw
        case rel => exact ⟨k + 1, by omega, by go_num, Hb.out.alloc hs _, all_succ (p := fun x => near1 x = true) Hno.out hlt Hn.out⟩
        case measure => simp [intOf]; omega
      · have hn' : near1 l[k] = false := by simpa using hnr
        have Hf := Lib.hid (nears_hit l k hlt hn')
        clear hn'
        have Hnr := Lib.hid hnr; clear hnr
        go_wp2
        all_goals first
          | (go_ret; exact ⟨ret_bool Hf.out.symm, Hb.out.alloc hs _⟩)
          | (exfalso; exact Hnr.out ((near1_iff _).2 ⟨by omega, by omega, by omega, by omega⟩))
    · go_wp2
      go_ret
      exact ⟨ret_bool (nears_all l fun j hj => Hno.out j hj (by omega)).symm, Hb.out⟩

def lim (p : Pt) : Prop := -2097152 ≤ p.x ∧ p.x ≤ 2097152 ∧ -2097152 ≤ p.y ∧ p.y ≤ 2097152

theorem mul_bd (a b m : Int) (h1 : -m ≤ a) (h2 : a ≤ m) (h3 : -m ≤ b) (h4 : b ≤ m) : -(m * m) ≤ a * b ∧ a * b ≤ m * m := by
  have hm : 0 ≤ m := by omega
  rcases Int.le_total 0 a with ha | ha <;> rcases Int.le_total 0 b with hb | hb
  · exact ⟨by have := Int.mul_nonneg ha hb; have := Int.mul_nonneg hm hm; omega, Int.mul_le_mul h2 h4 hb hm⟩
  · have e : a * b = -(a * -b) := by rw [Int.mul_neg]; omega
    have h := Int.mul_le_mul h2 (show -b ≤ m by omega) (by omega) hm
    have h' := Int.mul_nonneg ha (show 0 ≤ -b by omega)
    have := Int.mul_nonneg hm hm
    omega
  · have e : a * b = -(-a * b) := by rw [Int.neg_mul]; omega
    have h := Int.mul_le_mul (show -a ≤ m by omega) h4 hb hm
    have h' := Int.mul_nonneg (show 0 ≤ -a by omega) hb
    have := Int.mul_nonneg hm hm
    omega
  · have e : a * b = -a * -b := by rw [Int.neg_mul_neg]
    have h := Int.mul_le_mul (show -a ≤ m by omega) (show -b ≤ m by omega) (by omega) hm
    have h' := Int.mul_nonneg (show 0 ≤ -a by omega) (show 0 ≤ -b by omega)
    have := Int.mul_nonneg hm hm
    omega

set_option maxHeartbeats 400000 in
theorem twice_spec (a b c : Pt) (w : World) (ha : lim a) (hb : lim b) (hc : lim c) :
    Calls Try.prog 83 #[ptV a, ptV b, ptV c] w fun e w' => e = .returned (.int .i64 (tw a b c)) ∧ Below w.heap.size w w' := by
  obtain ⟨a1, a2, a3, a4⟩ := ha
  obtain ⟨b1, b2, b3, b4⟩ := hb
  obtain ⟨c1, c2, c3, c4⟩ := hc
  obtain ⟨m1, m2⟩ := mul_bd (b.x - a.x) (c.y - a.y) 4194304 (by omega) (by omega) (by omega) (by omega)
  obtain ⟨m3, m4⟩ := mul_bd (b.y - a.y) (c.x - a.x) 4194304 (by omega) (by omega) (by omega) (by omega)
  simp only [Int.reduceMul, Int.reduceNeg] at m1 m2 m3 m4
  unfold ptV
  go_enter Try.func83, Try.ntmps83
  go_wp2
  go_ret
  exact ⟨ret_int rfl, (((Below.refl _ _).alloc (Nat.le_refl _) _).alloc (by simp) _).alloc (by simp; omega) _⟩
end Go.Proofs.Ytibchmofckhofaa
