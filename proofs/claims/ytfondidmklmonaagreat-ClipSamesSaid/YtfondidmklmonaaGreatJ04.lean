/- cmp.Compare at ints. The edge of edgematch: makeEdge, along, off; and of the reference: sided, along, across, on, inner. Package geom: near, twice, Twice, Side, On, before, shared, Meet: what each call returns. Package geom, on: Twice, Side, On, before, shared, Meet. Package mapsheetsref08: Near, cross, dot, On, first. -/
import Derived.Test.YtfondidmklmonaaGreatGB
import Derived.Test.YtfondidmklmonaaGreatJ02
import Derived.Test.YtfondidmklmonaaGreatJ03
import Derived.Test.YtfondidmklmonaaGreatProg
import Derived.Deep.DeepCutAuto
set_option linter.unusedSimpArgs false
set_option linter.unusedVariables false
namespace Go.Proofs.YtfondidmklmonaaGreat
open Go.RowKit

set_option maxHeartbeats 400000 in
theorem isNaN_int_spec (x : Int) (w : World) : Calls Tryz.prog 115 #[.int .i64 x] w fun e w' => e = .returned (.bool false) ∧ w = w' := by
 have hx : (x != x) = false := by simp
 go_enter Tryz.func115, Tryz.ntmps115
 go_wp2_with fail
 go_ret
 exact ⟨by simp, rfl⟩

def cmpI (x y : Int) : Int := if x < y then -1 else if y < x then 1 else 0
set_option maxHeartbeats 400000 in
theorem Compare_int_spec (x y : Int) (w : World) : Calls Tryz.prog 82 #[.int .i64 x, .int .i64 y] w fun e w' => e = .returned (.int .i64 (cmpI x y)) ∧ w = w' := by
 have HN := Lib.hid (fun (z : Int) (W : World) => isNaN_int_spec z W)
 obtain ⟨q, hq⟩ : ∃ q, cmpI x y = q := ⟨_, rfl⟩
 rw [hq]
 have Hq := Lib.hid hq; clear hq
 go_enter Tryz.func82, Tryz.ntmps82
 go_wp2_with fail
 refine (HN.out _ _).mono ?_
 rintro e w' ⟨rfl, rfl⟩
 go_wp2_with fail
 refine (HN.out _ _).mono ?_
 rintro e w' ⟨rfl, rfl⟩
 go_wp2_with fail
 all_goals
  go_ret
  refine ⟨ret_int ?_, rfl⟩
  rw [← Hq.out]
  unfold cmpI
  first | rw [if_pos (by assumption)] | (rw [if_neg (by assumption), if_pos (by assumption)]) | (rw [if_neg (by assumption), if_neg (by assumption)]) | (split <;> (try split) <;> omega)

end Go.Proofs.YtfondidmklmonaaGreat
namespace Go.Proofs.YtfondidmklmonaaGreat
open Go.RowKit

theorem Blk.facts5 {w : World} {g : Nat} {t : TypeId} {v0 v1 v2 v3 v4 : Value} (h : Blk w g t #[v0, v1, v2, v3, v4]) : g < w.heap.size ∧ w.cell? ⟨g, 0, none⟩ = some v0 ∧ w.cell? ⟨g, 1, none⟩ = some v1 ∧ w.cell? ⟨g, 2, none⟩ = some v2 ∧ w.cell? ⟨g, 3, none⟩ = some v3 ∧ w.cell? ⟨g, 4, none⟩ = some v4 ∧ w.frozen? ⟨g, 0, none⟩ = false ∧ w.frozen? ⟨g, 1, none⟩ = false ∧ w.frozen? ⟨g, 2, none⟩ = false ∧ w.frozen? ⟨g, 3, none⟩ = false ∧ w.frozen? ⟨g, 4, none⟩ = false :=
 ⟨h.lt, h.cell 0, h.cell 1, h.cell 2, h.cell 3, h.cell 4, h.frozen 0, h.frozen 1, h.frozen 2, h.frozen 3, h.frozen 4⟩
theorem Blk.put5 {w : World} {g : Nat} {t : TypeId} {v0 v1 v2 v3 v4 x0 x1 x2 x3 x4 : Value} (h : Blk w g t #[v0, v1, v2, v3, v4]) : Blk (((((w.setCell ⟨g, 0, none⟩ x0).setCell ⟨g, 1, none⟩ x1).setCell ⟨g, 2, none⟩ x2).setCell ⟨g, 3, none⟩ x3).setCell ⟨g, 4, none⟩ x4) g t #[x0, x1, x2, x3, x4] := by
 have := (Blk.set_ (Blk.set_ (Blk.set_ (Blk.set_ (Blk.set_ h 0 x0) 1 x1) 2 x2) 3 x3) 4 x4)
 simpa using this

end Go.Proofs.YtfondidmklmonaaGreat
namespace Go.Proofs.YtfondidmklmonaaGreat
open Go.RowKit

/-- The coordinates are at most 2^21 in size. -/
def near1 (p : Pt) : Bool := decide (-2097152 ≤ p.x) && decide (p.x ≤ 2097152) && decide (-2097152 ≤ p.y) && decide (p.y ≤ 2097152)
def nears (l : List Pt) : Bool := l.all near1
def tw (a b c : Pt) : Int := (b.x - a.x) * (c.y - a.y) - (b.y - a.y) * (c.x - a.x)

theorem near1_iff (p : Pt) : near1 p = true ↔ -2097152 ≤ p.x ∧ p.x ≤ 2097152 ∧ -2097152 ≤ p.y ∧ p.y ≤ 2097152 := by
 simp [near1, and_assoc]

theorem nears_hit (l : List Pt) (k : Nat) (hk : k < l.length) (h : near1 l[k] = false) : nears l = false := by
 unfold nears
 rw [List.all_eq_false]
 exact ⟨l[k], List.getElem_mem hk, by simp [h]⟩
theorem nears_all (l : List Pt) (h : ∀ j (hj : j < l.length), near1 l[j] = true) : nears l = true := by
 unfold nears
 rw [List.all_eq_true]
 intro x hx
 obtain ⟨i, hi, rfl⟩ := List.mem_iff_getElem.1 hx
 exact h i hi

set_option maxHeartbeats 400000 in
theorem near_spec (v : Value) (l : List Pt) (w : World) (h : Pts w v l) :
  Calls Tryz.prog 117 #[v] w fun e w' => e = .returned (.bool (nears l)) ∧ Below w.heap.size w w' := by
 obtain ⟨A, c, rfl, hn, hc, hR⟩ := h
 unfold maxLen at hc
 go_enter Tryz.func117, Tryz.ntmps117
 go_wp2_with fail
 go_loopw [7] (fun i wr => ∃ k : Nat, k ≤ l.length ∧ i = .int .i64 k ∧ Below w.heap.size w wr ∧ ∀ j (hj : j < l.length), j < k → near1 l[j] = true) (fun i _ => l.length - (intOf i).toNat)
 case atStart => exact ⟨0, Nat.zero_le _, rfl, Below.refl _ _, fun j _ h => by omega⟩
 case round =>
  obtain ⟨k, hk, rfl, hb, hno⟩ := hrel
  have Hb := Lib.hid hb
  have Hno := Lib.hid hno
  have hs := hb.size
  clear hb hno
  by_cases hlt : k < l.length
  ·
   obtain ⟨b, o, rfl, hlb, c0, c1⟩ := (hR.mono Hb.out).pt hlt
   have HR := Lib.hid hR; clear hR
   by_cases hnr : near1 l[k] = true
   ·
    have Hn := Lib.hid hnr
    obtain ⟨n1, n2, n3, n4⟩ := (near1_iff _).1 hnr
    clear hnr
    go_wp2
    go_roundw
    case rel => exact ⟨k + 1, by omega, by go_num, Hb.out.alloc hs _, all_succ (p := fun x => near1 x = true) Hno.out hlt Hn.out⟩
    case measure => simp [intOf]; omega
   ·
    have hn' : near1 l[k] = false := by simpa using hnr
    have Hf := Lib.hid (nears_hit l k hlt hn')
    clear hn'
    have Hnr := Lib.hid hnr; clear hnr
    go_wp2
    all_goals first
     | (go_ret; exact ⟨ret_bool Hf.out.symm, Hb.out.alloc hs _⟩)
     | (exfalso; exact Hnr.out ((near1_iff _).2 ⟨by omega, by omega, by omega, by omega⟩))
  ·
   go_wp2
   go_ret
   exact ⟨ret_bool (nears_all l fun j hj => Hno.out j hj (by omega)).symm, Hb.out⟩

def lim (p : Pt) : Prop := -2097152 ≤ p.x ∧ p.x ≤ 2097152 ∧ -2097152 ≤ p.y ∧ p.y ≤ 2097152

theorem mul_bd (a b m : Int) (h1 : -m ≤ a) (h2 : a ≤ m) (h3 : -m ≤ b) (h4 : b ≤ m) : -(m * m) ≤ a * b ∧ a * b ≤ m * m := by
 have hm : 0 ≤ m := by omega
 rcases Int.le_total 0 a with ha | ha <;> rcases Int.le_total 0 b with hb | hb
 · exact ⟨by have := Int.mul_nonneg ha hb; have := Int.mul_nonneg hm hm; omega, Int.mul_le_mul h2 h4 hb hm⟩
 ·
  have e : a * b = -(a * -b) := by rw [Int.mul_neg]; omega
  have h := Int.mul_le_mul h2 (show -b ≤ m by omega) (by omega) hm
  have h' := Int.mul_nonneg ha (show 0 ≤ -b by omega)
  have := Int.mul_nonneg hm hm
  omega
 ·
  have e : a * b = -(-a * b) := by rw [Int.neg_mul]; omega
  have h := Int.mul_le_mul (show -a ≤ m by omega) h4 hb hm
  have h' := Int.mul_nonneg (show 0 ≤ -a by omega) hb
  have := Int.mul_nonneg hm hm
  omega
 ·
  have e : a * b = -a * -b := by rw [Int.neg_mul_neg]
  have h := Int.mul_le_mul (show -a ≤ m by omega) (show -b ≤ m by omega) (by omega) hm
  have h' := Int.mul_nonneg (show 0 ≤ -a by omega) (show 0 ≤ -b by omega)
  have := Int.mul_nonneg hm hm
  omega

set_option maxHeartbeats 400000 in
theorem twice_spec (a b c : Pt) (w : World) (ha : lim a) (hb : lim b) (hc : lim c) :
  Calls Tryz.prog 118 #[ptV a, ptV b, ptV c] w fun e w' => e = .returned (.int .i64 (tw a b c)) ∧ Below w.heap.size w w' := by
 obtain ⟨a1, a2, a3, a4⟩ := ha
 obtain ⟨b1, b2, b3, b4⟩ := hb
 obtain ⟨c1, c2, c3, c4⟩ := hc
 obtain ⟨m1, m2⟩ := mul_bd (b.x - a.x) (c.y - a.y) 4194304 (by omega) (by omega) (by omega) (by omega)
 obtain ⟨m3, m4⟩ := mul_bd (b.y - a.y) (c.x - a.x) 4194304 (by omega) (by omega) (by omega) (by omega)
 simp only [Int.reduceMul, Int.reduceNeg] at m1 m2 m3 m4
 unfold ptV
 go_enter Tryz.func118, Tryz.ntmps118
 go_wp2
 go_ret
 exact ⟨ret_int rfl, (((Below.refl _ _).alloc (Nat.le_refl _) _).alloc (by simp) _).alloc (by simp; omega) _⟩
end Go.Proofs.YtfondidmklmonaaGreat
namespace Go.Proofs.YtfondidmklmonaaGreat
open Go.RowKit

theorem lim_of {p : Pt} (h : near1 p = true) : lim p := (near1_iff p).1 h
theorem nears3 {a b c : Pt} (h : nears [a, b, c] = true) : lim a ∧ lim b ∧ lim c := by
 simp only [nears, List.all_cons, List.all_nil, Bool.and_true, Bool.and_eq_true] at h
 exact ⟨lim_of h.1, lim_of h.2.1, lim_of h.2.2⟩
theorem nears4 {a b c d : Pt} (h : nears [a, b, c, d] = true) : lim a ∧ lim b ∧ lim c ∧ lim d := by
 simp only [nears, List.all_cons, List.all_nil, Bool.and_true, Bool.and_eq_true] at h
 exact ⟨lim_of h.1, lim_of h.2.1, lim_of h.2.2.1, lim_of h.2.2.2⟩
def twS (a b c : Pt) : Int := if nears [a, b, c] = true then tw a b c else 0

set_option maxHeartbeats 400000 in
theorem Twice_spec (a b c : Pt) (w : World) :
  Calls Tryz.prog 180 #[ptV a, ptV b, ptV c] w fun e w' => e = .returned (.int .i64 (twS a b c)) ∧ Below w.heap.size w w' := by
 unfold ptV
 by_cases hn : nears [a, b, c] = true
 ·
  obtain ⟨ha, hb, hc⟩ := nears3 hn
  have Ha := Lib.hid ha; have Hb := Lib.hid hb; have Hc := Lib.hid hc; clear ha hb hc
  go_enter Tryz.func180, Tryz.ntmps180
  go_wp2_with fail
  refine (near_spec _ [a, b, c] _ (Pts.lit3 (Blk.made (by simp) _ _))).mono ?_
  rintro e w1 ⟨rfl, hb1⟩
  obtain ⟨hb1c, hb1f⟩ := bcell hb1
  have hb1z := hb1.size
  try simp only [World.size_alloc, World.size_setCell, World.size_drew] at hb1z
  have hb1l0 : w.heap.size < w1.heap.size := by omega
  have hb1l1 : w.heap.size + 1 < w1.heap.size := by omega
  have hb1l2 : w.heap.size + 1 + 1 < w1.heap.size := by omega
  go_wp2_with fail
  refine (twice_spec a b c _ Ha.out Hb.out Hc.out).mono ?_
  rintro e w2 ⟨rfl, hb2⟩
  go_wp2_with fail
  go_ret
  refine ⟨ret_int (by simp [twS, hn]), ?_⟩
  repeat (first | with_reducible exact bR _ | with_reducible assumption | with_reducible refine bA ?_ _ | with_reducible refine bD ?_ | with_reducible refine bN ?_ _ | ((with_reducible refine bS ?_ ?_ _); rotate_left; (simp; try omega)) | ((with_reducible refine bT ?_ ?_); rotate_left; with_reducible assumption) | with_reducible refine bT ?_ (by assumption))
 ·
  have hn' : nears [a, b, c] = false := by simpa using hn
  clear hn
  go_enter Tryz.func180, Tryz.ntmps180
  go_wp2_with fail
  refine (near_spec _ [a, b, c] _ (Pts.lit3 (Blk.made (by simp) _ _))).mono ?_
  rintro e w1 ⟨rfl, hb1⟩
  obtain ⟨hb1c, hb1f⟩ := bcell hb1
  have hb1z := hb1.size
  try simp only [World.size_alloc, World.size_setCell, World.size_drew] at hb1z
  have hb1l0 : w.heap.size < w1.heap.size := by omega
  have hb1l1 : w.heap.size + 1 < w1.heap.size := by omega
  have hb1l2 : w.heap.size + 1 + 1 < w1.heap.size := by omega
  go_wp2_with fail
  go_ret
  refine ⟨ret_int (by simp [twS, hn']), ?_⟩
  repeat (first | with_reducible exact bR _ | with_reducible assumption | with_reducible refine bA ?_ _ | with_reducible refine bD ?_ | with_reducible refine bN ?_ _ | ((with_reducible refine bS ?_ ?_ _); rotate_left; (simp; try omega)) | ((with_reducible refine bT ?_ ?_); rotate_left; with_reducible assumption) | with_reducible refine bT ?_ (by assumption))

def sideS (a b c : Pt) : Int := if 0 < twS a b c then 1 else if twS a b c < 0 then -1 else 0

set_option maxHeartbeats 400000 in
theorem Side_spec (a b c : Pt) (w : World) :
  Calls Tryz.prog 154 #[ptV a, ptV b, ptV c] w fun e w' => e = .returned (.int .i64 (sideS a b c)) ∧ Below w.heap.size w w' := by
 have T : ∀ W, Calls Tryz.prog 180 #[ptV a, ptV b, ptV c] W _ := fun W => Twice_spec a b c W
 unfold ptV at T ⊢
 unfold sideS
 generalize twS a b c = t at *
 have HT := Lib.hid T; clear T
 go_enter Tryz.func154, Tryz.ntmps154
 go_wp2_with fail
 refine (HT.out _).mono ?_
 rintro e w1 ⟨rfl, hb1⟩
 go_wp2_with fail
 all_goals
  go_ret
  refine ⟨ret_int rfl, ?_⟩
  repeat (first | with_reducible exact bR _ | with_reducible assumption | with_reducible refine bA ?_ _ | with_reducible refine bD ?_ | with_reducible refine bN ?_ _ | ((with_reducible refine bS ?_ ?_ _); rotate_left; (simp; try omega)) | ((with_reducible refine bT ?_ ?_); rotate_left; with_reducible assumption) | with_reducible refine bT ?_ (by assumption))

def onS (a b p : Pt) : Bool := nears [a, b, p] && decide (tw a b p = 0) && decide (min a.x b.x ≤ p.x) && decide (p.x ≤ max a.x b.x) && decide (min a.y b.y ≤ p.y) && decide (p.y ≤ max a.y b.y)

set_option maxHeartbeats 1000000 in
theorem On_spec (a b p : Pt) (w : World) :
  Calls Tryz.prog 87 #[ptV a, ptV b, ptV p] w fun e w' => e = .returned (.bool (onS a b p)) ∧ Below w.heap.size w w' := by
 unfold ptV
 by_cases hn : nears [a, b, p] = true
 ·
  obtain ⟨ha, hb, hc⟩ := nears3 hn
  have T : ∀ W, Calls Tryz.prog 118 #[ptV a, ptV b, ptV p] W _ := fun W => twice_spec a b p W ha hb hc
  unfold ptV at T
  have hS : onS a b p = (decide (tw a b p = 0) && decide (min a.x b.x ≤ p.x) && decide (p.x ≤ max a.x b.x) && decide (min a.y b.y ≤ p.y) && decide (p.y ≤ max a.y b.y)) := by simp [onS, hn]
  rw [hS]
  generalize tw a b p = t at *
  have HT := Lib.hid T; clear T ha hb hc hS
  go_enter Tryz.func87, Tryz.ntmps87
  go_wp2_with fail
  refine (near_spec _ [a, b, p] _ (Pts.lit3 (Blk.made (by simp) _ _))).mono ?_
  rintro e w1 ⟨rfl, hb1⟩
  obtain ⟨hb1c, hb1f⟩ := bcell hb1
  have hb1z := hb1.size
  try simp only [World.size_alloc, World.size_setCell, World.size_drew] at hb1z
  have hb1l0 : w.heap.size < w1.heap.size := by omega
  have hb1l1 : w.heap.size + 1 < w1.heap.size := by omega
  have hb1l2 : w.heap.size + 1 + 1 < w1.heap.size := by omega
  go_wp2_with fail
  refine (HT.out _).mono ?_
  rintro e w2 ⟨rfl, hb2⟩
  obtain ⟨hb2c, hb2f⟩ := bcell hb2
  have hb2z := hb2.size
  try simp only [World.size_alloc, World.size_setCell, World.size_drew] at hb2z
  have hb2l0 : w.heap.size < w2.heap.size := by omega
  have hb2l1 : w.heap.size + 1 < w2.heap.size := by omega
  have hb2l2 : w.heap.size + 1 + 1 < w2.heap.size := by omega
  by_cases ht : t = 0
  ·
   subst ht
   go_wp2_with fail
   all_goals
    go_ret
    refine ⟨ret_bool (by rw [Bool.eq_iff_iff]; simp only [Bool.and_eq_true, decide_eq_true_eq, Bool.false_eq_true, false_iff, true_iff]; omega), ?_⟩
    repeat (first | with_reducible exact bR _ | with_reducible assumption | with_reducible refine bA ?_ _ | with_reducible refine bD ?_ | with_reducible refine bN ?_ _ | ((with_reducible refine bS ?_ ?_ _); rotate_left; (simp; try omega)) | ((with_reducible refine bT ?_ ?_); rotate_left; with_reducible assumption) | with_reducible refine bT ?_ (by assumption))
  ·
   have ht' : (t == 0) = false := by simpa using ht
   go_wp2_with fail
   go_ret
   refine ⟨ret_bool (by simp [ht]), ?_⟩
   repeat (first | with_reducible exact bR _ | with_reducible assumption | with_reducible refine bA ?_ _ | with_reducible refine bD ?_ | with_reducible refine bN ?_ _ | ((with_reducible refine bS ?_ ?_ _); rotate_left; (simp; try omega)) | ((with_reducible refine bT ?_ ?_); rotate_left; with_reducible assumption) | with_reducible refine bT ?_ (by assumption))
 ·
  have hn' : nears [a, b, p] = false := by simpa using hn
  clear hn
  go_enter Tryz.func87, Tryz.ntmps87
  go_wp2_with fail
  refine (near_spec _ [a, b, p] _ (Pts.lit3 (Blk.made (by simp) _ _))).mono ?_
  rintro e w1 ⟨rfl, hb1⟩
  obtain ⟨hb1c, hb1f⟩ := bcell hb1
  have hb1z := hb1.size
  try simp only [World.size_alloc, World.size_setCell, World.size_drew] at hb1z
  have hb1l0 : w.heap.size < w1.heap.size := by omega
  have hb1l1 : w.heap.size + 1 < w1.heap.size := by omega
  have hb1l2 : w.heap.size + 1 + 1 < w1.heap.size := by omega
  go_wp2_with fail
  go_ret
  refine ⟨ret_bool (by simp [onS, hn']), ?_⟩
  repeat (first | with_reducible exact bR _ | with_reducible assumption | with_reducible refine bA ?_ _ | with_reducible refine bD ?_ | with_reducible refine bN ?_ _ | ((with_reducible refine bS ?_ ?_ _); rotate_left; (simp; try omega)) | ((with_reducible refine bT ?_ ?_); rotate_left; with_reducible assumption) | with_reducible refine bT ?_ (by assumption))
end Go.Proofs.YtfondidmklmonaaGreat
namespace Go.Proofs.YtfondidmklmonaaGreat
open Go.RowKit

set_option maxHeartbeats 400000 in
theorem RNear_spec (v : Value) (l : List Pt) (w : World) (h : Pts w v l) :
  Calls Tryz.prog 103 #[v] w fun e w' => e = .returned (.bool (nears l)) ∧ Below w.heap.size w w' := by
 obtain ⟨A, c, rfl, hn, hc, hR⟩ := h
 unfold maxLen at hc
 go_enter Tryz.func103, Tryz.ntmps103
 go_wp2_with fail
 go_loopw [3] (fun i wr => ∃ k : Nat, k ≤ l.length ∧ i = .int .i64 k ∧ Below w.heap.size w wr ∧ ∀ j (hj : j < l.length), j < k → near1 l[j] = true) (fun i _ => l.length - (intOf i).toNat)
 case atStart => exact ⟨0, Nat.zero_le _, rfl, Below.refl _ _, fun j _ h => by omega⟩
 case round =>
  obtain ⟨k, hk, rfl, hb, hno⟩ := hrel
  have Hb := Lib.hid hb
  have Hno := Lib.hid hno
  have hs := hb.size
  clear hb hno
  by_cases hlt : k < l.length
  ·
   obtain ⟨b, o, rfl, hlb, c0, c1⟩ := (hR.mono Hb.out).pt hlt
   have HR := Lib.hid hR; clear hR
   by_cases hnr : near1 l[k] = true
   ·
    have Hn := Lib.hid hnr
    obtain ⟨n1, n2, n3, n4⟩ := (near1_iff _).1 hnr
    clear hnr
    go_wp2
    go_roundw
    case rel => exact ⟨k + 1, by omega, by go_num, Hb.out, all_succ (p := fun x => near1 x = true) Hno.out hlt Hn.out⟩
    case measure => simp [intOf]; omega
   ·
    have hn' : near1 l[k] = false := by simpa using hnr
    have Hf := Lib.hid (nears_hit l k hlt hn')
    clear hn'
    have Hnr := Lib.hid hnr; clear hnr
    go_wp2
    all_goals first
     | (go_ret; exact ⟨ret_bool Hf.out.symm, Hb.out⟩)
     | (exfalso; exact Hnr.out ((near1_iff _).2 ⟨by omega, by omega, by omega, by omega⟩))
  ·
   go_wp2
   go_ret
   exact ⟨ret_bool (nears_all l fun j hj => Hno.out j hj (by omega)).symm, Hb.out⟩

def crossS (a b c d : Pt) : Int := (b.x - a.x) * (d.y - c.y) - (b.y - a.y) * (d.x - c.x)
def dotS (a b c d : Pt) : Int := (b.x - a.x) * (d.x - c.x) + (b.y - a.y) * (d.y - c.y)

set_option maxHeartbeats 400000 in
theorem cross_spec (a b c d : Pt) (w : World) (ha : lim a) (hb : lim b) (hc : lim c) (hd : lim d) :
  Calls Tryz.prog 157 #[ptV a, ptV b, ptV c, ptV d] w fun e w' => e = .returned (.int .i64 (crossS a b c d)) ∧ Below w.heap.size w w' := by
 obtain ⟨a1, a2, a3, a4⟩ := ha
 obtain ⟨b1, b2, b3, b4⟩ := hb
 obtain ⟨c1, c2, c3, c4⟩ := hc
 obtain ⟨d1, d2, d3, d4⟩ := hd
 obtain ⟨m1, m2⟩ := mul_bd (b.x - a.x) (d.y - c.y) 4194304 (by omega) (by omega) (by omega) (by omega)
 obtain ⟨m3, m4⟩ := mul_bd (b.y - a.y) (d.x - c.x) 4194304 (by omega) (by omega) (by omega) (by omega)
 simp only [Int.reduceMul, Int.reduceNeg] at m1 m2 m3 m4
 unfold ptV
 go_enter Tryz.func157, Tryz.ntmps157
 go_wp2
 go_ret
 refine ⟨ret_int rfl, ?_⟩
 repeat (first | with_reducible exact bR _ | with_reducible assumption | with_reducible refine bA ?_ _ | with_reducible refine bD ?_ | with_reducible refine bN ?_ _ | ((with_reducible refine bS ?_ ?_ _); rotate_left; (simp; try omega)) | ((with_reducible refine bT ?_ ?_); rotate_left; with_reducible assumption) | with_reducible refine bT ?_ (by assumption))
set_option maxHeartbeats 400000 in
theorem dot_spec (a b c d : Pt) (w : World) (ha : lim a) (hb : lim b) (hc : lim c) (hd : lim d) :
  Calls Tryz.prog 158 #[ptV a, ptV b, ptV c, ptV d] w fun e w' => e = .returned (.int .i64 (dotS a b c d)) ∧ Below w.heap.size w w' := by
 obtain ⟨a1, a2, a3, a4⟩ := ha
 obtain ⟨b1, b2, b3, b4⟩ := hb
 obtain ⟨c1, c2, c3, c4⟩ := hc
 obtain ⟨d1, d2, d3, d4⟩ := hd
 obtain ⟨m1, m2⟩ := mul_bd (b.x - a.x) (d.x - c.x) 4194304 (by omega) (by omega) (by omega) (by omega)
 obtain ⟨m3, m4⟩ := mul_bd (b.y - a.y) (d.y - c.y) 4194304 (by omega) (by omega) (by omega) (by omega)
 simp only [Int.reduceMul, Int.reduceNeg] at m1 m2 m3 m4
 unfold ptV
 go_enter Tryz.func158, Tryz.ntmps158
 go_wp2
 go_ret
 refine ⟨ret_int rfl, ?_⟩
 repeat (first | with_reducible exact bR _ | with_reducible assumption | with_reducible refine bA ?_ _ | with_reducible refine bD ?_ | with_reducible refine bN ?_ _ | ((with_reducible refine bS ?_ ?_ _); rotate_left; (simp; try omega)) | ((with_reducible refine bT ?_ ?_); rotate_left; with_reducible assumption) | with_reducible refine bT ?_ (by assumption))

set_option maxHeartbeats 400000 in
theorem first_spec (a b : Pt) (w : World) :
  Calls Tryz.prog 184 #[ptV a, ptV b] w fun e w' => e = .returned (.bool (bef a b)) ∧ Below w.heap.size w w' := by
 unfold ptV
 by_cases h1 : a.x < b.x
 ·
  go_enter Tryz.func184, Tryz.ntmps184
  go_wp2
  go_ret
  refine ⟨ret_bool (by simp [bef, h1]), ?_⟩
  repeat (first | with_reducible exact bR _ | with_reducible assumption | with_reducible refine bA ?_ _ | with_reducible refine bD ?_ | with_reducible refine bN ?_ _ | ((with_reducible refine bS ?_ ?_ _); rotate_left; (simp; try omega)) | ((with_reducible refine bT ?_ ?_); rotate_left; with_reducible assumption) | with_reducible refine bT ?_ (by assumption))
 ·
  by_cases h2 : (a.x == b.x) = true
  ·
   go_enter Tryz.func184, Tryz.ntmps184
   go_wp2
   go_ret
   refine ⟨ret_bool (by simp only [bef]; simp_all), ?_⟩
   repeat (first | with_reducible exact bR _ | with_reducible assumption | with_reducible refine bA ?_ _ | with_reducible refine bD ?_ | with_reducible refine bN ?_ _ | ((with_reducible refine bS ?_ ?_ _); rotate_left; (simp; try omega)) | ((with_reducible refine bT ?_ ?_); rotate_left; with_reducible assumption) | with_reducible refine bT ?_ (by assumption))
  ·
   have h2' : (a.x == b.x) = false := by simpa using h2
   clear h2
   go_enter Tryz.func184, Tryz.ntmps184
   go_wp2
   go_ret
   refine ⟨ret_bool (by simp only [bef]; simp_all), ?_⟩
   repeat (first | with_reducible exact bR _ | with_reducible assumption | with_reducible refine bA ?_ _ | with_reducible refine bD ?_ | with_reducible refine bN ?_ _ | ((with_reducible refine bS ?_ ?_ _); rotate_left; (simp; try omega)) | ((with_reducible refine bT ?_ ?_); rotate_left; with_reducible assumption) | with_reducible refine bT ?_ (by assumption))

def ronS (a b p : Pt) : Bool := nears [a, b, p] && decide (crossS a b a p = 0) && decide (dotS a p b p ≤ 0)

set_option maxHeartbeats 1000000 in
theorem ROn_spec (a b p : Pt) (w : World) :
  Calls Tryz.prog 131 #[ptV a, ptV b, ptV p] w fun e w' => e = .returned (.bool (ronS a b p)) ∧ Below w.heap.size w w' := by
 have hn0 : ∀ q, nears [a, b, p] = q → ronS a b p = (q && decide (crossS a b a p = 0) && decide (dotS a p b p ≤ 0)) := fun q h => by rw [ronS, h]
 have Hn0 := Lib.hid hn0; clear hn0
 cases hn : nears [a, b, p]
 ·
  have Hs := Lib.hid (Hn0.out _ hn)
  unfold ptV
  go_enter Tryz.func131, Tryz.ntmps131
  go_wp2_with fail
  refine (RNear_spec _ [a, b, p] _ (Pts.lit3 (Blk.made (by simp) _ _))).mono ?_
  rintro e w1 ⟨rfl, hb1⟩
  rw [hn]
  go_wp2_with fail
  go_ret
  refine ⟨ret_bool Hs.out.symm, ?_⟩
  repeat (first | with_reducible exact bR _ | with_reducible assumption | with_reducible refine bA ?_ _ | with_reducible refine bD ?_ | with_reducible refine bN ?_ _ | ((with_reducible refine bS ?_ ?_ _); rotate_left; (simp; try omega)) | ((with_reducible refine bT ?_ ?_); rotate_left; with_reducible assumption) | with_reducible refine bT ?_ (by assumption))
 ·
  obtain ⟨ha, hb, hc⟩ := nears3 hn
  have TC : ∀ W, Calls Tryz.prog 157 #[ptV a, ptV b, ptV a, ptV p] W _ := fun W => cross_spec a b a p W ha hb ha hc
  have TD : ∀ W, Calls Tryz.prog 158 #[ptV a, ptV p, ptV b, ptV p] W _ := fun W => dot_spec a p b p W ha hc hb hc
  have Hs := Lib.hid (Hn0.out _ hn)
  generalize crossS a b a p = cr at *
  generalize dotS a p b p = dt at *
  unfold ptV at TC TD ⊢
  have HC := Lib.hid TC; clear TC
  have HD := Lib.hid TD; clear TD
  clear ha hb hc
  go_enter Tryz.func131, Tryz.ntmps131
  go_wp2_with fail
  refine (RNear_spec _ [a, b, p] _ (Pts.lit3 (Blk.made (by simp) _ _))).mono ?_
  rintro e w1 ⟨rfl, hb1⟩
  rw [hn]
  have Bw : Below w.heap.size w w1 := by
   repeat (first | with_reducible exact bR _ | with_reducible assumption | with_reducible refine bA ?_ _ | with_reducible refine bD ?_ | with_reducible refine bN ?_ _ | ((with_reducible refine bS ?_ ?_ _); rotate_left; (simp; try omega)) | ((with_reducible refine bT ?_ ?_); rotate_left; with_reducible assumption) | with_reducible refine bT ?_ (by assumption))
  have X3 : Blk _ (w.heap.size) 28 #[.int .i64 a.x, .int .i64 a.y] := Blk.keep (by repeat (first | exact Blk.made (by simp) _ _ | refine Blk.alloc ?_ _)) hb1
  have X4 : Blk _ (w.heap.size + 1) 28 #[.int .i64 b.x, .int .i64 b.y] := Blk.keep (by repeat (first | exact Blk.made (by simp) _ _ | refine Blk.alloc ?_ _)) hb1
  have X5 : Blk _ (w.heap.size + 1 + 1) 28 #[.int .i64 p.x, .int .i64 p.y] := Blk.keep (by repeat (first | exact Blk.made (by simp) _ _ | refine Blk.alloc ?_ _)) hb1
  clear hb1
  obtain ⟨X3l, X3a, X3b, -, -⟩ := X3.facts2
  obtain ⟨X4l, X4a, X4b, -, -⟩ := X4.facts2
  obtain ⟨X5l, X5a, X5b, -, -⟩ := X5.facts2
  go_wp2_with fail
  refine (HC.out _).mono ?_
  rintro e w2 ⟨rfl, hb2⟩
  replace Bw := bT Bw hb2
  replace X3 := X3.keep hb2
  replace X4 := X4.keep hb2
  replace X5 := X5.keep hb2
  clear hb2
  try clear X3l
  try clear X3a
  try clear X3b
  try clear X4l
  try clear X4a
  try clear X4b
  try clear X5l
  try clear X5a
  try clear X5b
  try clear X3l
  try clear X3a
  try clear X3b
  obtain ⟨X3l, X3a, X3b, -, -⟩ := X3.facts2
  try clear X4l
  try clear X4a
  try clear X4b
  obtain ⟨X4l, X4a, X4b, -, -⟩ := X4.facts2
  try clear X5l
  try clear X5a
  try clear X5b
  obtain ⟨X5l, X5a, X5b, -, -⟩ := X5.facts2
  by_cases hcr : cr = 0
  ·
   subst hcr
   go_wp2_with fail
   refine (HD.out _).mono ?_
   rintro e w3 ⟨rfl, hb3⟩
   go_wp2_with fail
   go_ret
   refine ⟨ret_bool (by rw [Hs.out]; simp), ?_⟩
   repeat (first | with_reducible exact bR _ | with_reducible assumption | with_reducible refine bA ?_ _ | with_reducible refine bD ?_ | with_reducible refine bN ?_ _ | ((with_reducible refine bS ?_ ?_ _); rotate_left; (simp; try omega)) | ((with_reducible refine bT ?_ ?_); rotate_left; with_reducible assumption) | with_reducible refine bT ?_ (by assumption))
  ·
   have hcr' : (cr == 0) = false := by simpa using hcr
   have Hcr := Lib.hid hcr; clear hcr
   go_wp2_with fail
   go_ret
   refine ⟨ret_bool (by rw [Hs.out]; simp [Hcr.out]), ?_⟩
   repeat (first | with_reducible exact bR _ | with_reducible assumption | with_reducible refine bA ?_ _ | with_reducible refine bD ?_ | with_reducible refine bN ?_ _ | ((with_reducible refine bS ?_ ?_ _); rotate_left; (simp; try omega)) | ((with_reducible refine bT ?_ ?_); rotate_left; with_reducible assumption) | with_reducible refine bT ?_ (by assumption))
end Go.Proofs.YtfondidmklmonaaGreat
