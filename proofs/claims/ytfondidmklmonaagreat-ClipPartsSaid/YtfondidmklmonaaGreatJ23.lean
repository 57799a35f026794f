/- mapsheetsref01: common, Floor, sign, Make, Valid, Cmp. mapsheetsref01: Make, Valid, Cmp. mapsheetsref01.Cmp; mapsheetsref09: later, sooner. As Reg3.lean, where three operations may come up at once. (printed by gen/reg5.py) -/
import Derived.Test.YtfondidmklmonaaGreatJ03
import Derived.Test.YtfondidmklmonaaGreatJ02
import Derived.Test.YtfondidmklmonaaGreatJ04
import Derived.Test.YtfondidmklmonaaGreatGB
set_option linter.unusedSimpArgs false
set_option linter.unusedVariables false
namespace Go.Proofs.YtfondidmklmonaaGreat
open Go.RowKit

set_option maxRecDepth 100000 in
set_option maxHeartbeats 2000000 in
theorem common_spec (a b : Nat) (w : World) (ha : a ≤ 1152921504606846976) (hb : b ≤ 1152921504606846976) : Calls Tryz.prog 160 #[.int .u64 (a : Int), .int .u64 (b : Int)] w fun e w' => e = .returned (.int .u64 ((Nat.gcd a b : Nat) : Int)) ∧ Below w.heap.size w w' := by
 obtain ⟨g, hg⟩ : ∃ g, Nat.gcd a b = g := ⟨_, rfl⟩
 rw [hg]
 go_enter Tryz.func160, Tryz.ntmps160
 have HG := Lib.hid hg
 clear hg
 go_wp2_with fail
 go_loopw [0, 1] (fun u v wr => ∃ x y : Nat, u = .int .u64 (x : Int) ∧ v = .int .u64 (y : Int) ∧ Hid (Nat.gcd x y = g) ∧ x ≤ 1152921504606846976 ∧ y ≤ 1152921504606846976 ∧ Below w.heap.size w wr) (fun _ v _ => (intOf v).toNat)
 case atStart => exact ⟨a, b, rfl, rfl, HG, ha, hb, bR w⟩
 case round =>
  obtain ⟨x, y, rfl, rfl, hxy, hx, hy, hb1⟩ := hrel
  by_cases h0 : 0 < y
  ·
   have c1 : 0 < (y : Int) := by omega
   have c2 : ¬ (y : Int) = 0 := by omega
   have c3 : ¬ y = 0 := by omega
   have hm : (x : Int).tmod (y : Int) = ((x % y : Nat) : Int) := by rw [Int.tmod_eq_emod_of_nonneg (by omega)]; rfl
   have hlt : x % y < y := Nat.mod_lt _ h0
   have k1 : IntKind.u64.wrap ((x : Int).tmod (y : Int)) = (x : Int).tmod (y : Int) := by rw [hm, u64w]; omega
   have HM := Lib.hid hm
   have HXY := Lib.hid (show Nat.gcd y (x % y) = g by rw [← hxy.out, Nat.gcd_comm x y, Nat.gcd_rec y x, Nat.gcd_comm])
   have HB := Lib.hid hb1
   obtain ⟨m, hmm⟩ : ∃ m : Nat, x % y = m := ⟨_, rfl⟩
   rw [hmm] at HXY HM hlt
   clear hm hb1 hxy hmm
   go_upto_region 2 with fail
   refine rg_start (Since wr) (.run 6 0 0 (.done)) (by kernel_rfl) (bD (bR _)) (by kernel_rfl) (by kernel_rfl) (Nat.le_of_ble_eq_true (by kernel_rfl)) ?_
   intro opsR QR Hops HQrg hS
   iterate 6
    apply rg_p; exact Hops; exact rfl; exact hS; exact rfl
    · intro _ hqc; go_simp; try rfl
    try simp only [pu]
   refine rg_done ?_
   refine HQrg.down _ _ ?_
   have hB : Below wr.heap.size wr wr.drew := hS
   clear hS HQrg Hops
   have HB2 := Lib.hid (bT HB.out hB)
   clear hB
   rw [HM.out]
   go_wp2_with fail
   go_roundw
   case rel => exact ⟨y, m, rfl, rfl, HXY, hy, by omega, HB2.out⟩
   case measure => simp [intOf]; omega
  ·
   obtain rfl : y = 0 := by omega
   have HF := Lib.hid (show x = g by rw [← hxy.out, Nat.gcd_zero_right])
   have HB := Lib.hid hb1
   clear hxy hb1
   go_wp2_with fail
   go_ret
   exact ⟨by rw [HF.out]; rfl, HB.out⟩
set_option maxHeartbeats 1000000 in
theorem sign_spec (a b : Int) (w : World) : Calls Tryz.prog 139 #[.int .i64 a, .int .i64 b] w fun e w' => e = .returned (.int .i64 (if a < b then -1 else if a = b then 0 else 1)) ∧ Below w.heap.size w w' := by
 by_cases h1 : a < b
 ·
  rw [if_pos h1]
  go_enter Tryz.func139, Tryz.ntmps139
  go_wp2_with fail
  go_ret
  exact ⟨rfl, bR w⟩
 ·
  rw [if_neg h1]
  by_cases h2 : b < a
  ·
   rw [if_neg (by omega)]
   go_enter Tryz.func139, Tryz.ntmps139
   go_wp2_with fail
   go_ret
   exact ⟨rfl, bR w⟩
  ·
   rw [if_pos (by omega)]
   go_enter Tryz.func139, Tryz.ntmps139
   go_wp2_with fail
   go_ret
   exact ⟨rfl, bR w⟩
theorem fdiv_abs {x y : Int} (hy : 0 < y) : x / y = if minusS x y = true then (if 0 < absS x % y then -(absS x / y + 1) else -(absS x / y)) else absS x / y := by
 unfold minusS absS
 by_cases h : x < 0
 ·
  have e1 : (decide (x < 0) && decide (0 < y) || decide (0 < x) && decide (y < 0)) = true := by simp [h, hy]
  rw [e1]
  simp only [if_true, h]
  have e3 := Int.emod_add_mul_ediv (-x) y
  have h1 := Int.emod_nonneg (-x) (show y ≠ 0 by omega)
  have h2 := Int.emod_lt_of_pos (-x) hy
  by_cases h0 : 0 < -x % y
  ·
   rw [if_pos h0]
   refine (Int.ediv_emod_unique hy (r := y - (-x) % y) (q := -((-x) / y + 1))).2 ⟨?_, by omega, by omega⟩ |>.1
   rw [Int.mul_neg, Int.mul_add]
   omega
  ·
   rw [if_neg h0]
   refine (Int.ediv_emod_unique hy (r := 0) (q := -((-x) / y))).2 ⟨?_, by omega, by omega⟩ |>.1
   rw [Int.mul_neg]
   omega
 ·
  have e1 : (decide (x < 0) && decide (0 < y) || decide (0 < x) && decide (y < 0)) = false := by
   simp [h]; omega
  rw [e1, if_neg (by simp), if_neg h]
set_option maxRecDepth 100000 in
set_option maxHeartbeats 2000000 in
theorem rFloor_spec (x y : Int) (w : World) (h : bd60 x) (hy : 0 < y) (hy' : bd60 y) : Calls Tryz.prog 138 #[.int .i64 x, .int .i64 y] w fun e w' => e = .returned (.tuple #[.int .i64 (x / y), .int .i64 0]) ∧ Below w.heap.size w w' := by
 rw [fdiv_abs hy]
 have HP := Lib.hid (fun w => parts_spec x y w h (by omega) hy')
 have HSg := Lib.hid (fun (m : Bool) (n : Int) (w : World) h => signed_spec m n w h)
 have ay : absS y = y := by unfold absS; rw [if_neg (by omega)]
 rw [ay] at HP
 have a1 := absS_bd h
 obtain ⟨d1, d2, d3, d4⟩ := quo_bd a1 hy
 have k0 : (y == 0) = false := by rw [beq_eq_false_iff_ne]; omega
 generalize absS x / y = q at *
 generalize absS x % y = r at *
 generalize minusS x y = m at *
 have k3 : IntKind.u64.wrap (q + 1) = q + 1 := by rw [u64w]; omega
 have k4 : (q + 1) % 18446744073709551616 = q + 1 := by omega
 have hq0 := Lib.hid (show 0 ≤ q ∧ q ≤ 2305843009213693952 by omega)
 have hq1 := Lib.hid (show 0 ≤ q + 1 ∧ q + 1 ≤ 2305843009213693952 by omega)
 clear a1 d1 d2 d3 d4 h hy' ay
 cases m
 ·
  simp only [Bool.false_eq_true, if_false]
  go_enter Tryz.func138, Tryz.ntmps138
  go_wp2_with fail
  refine (HP.out _).mono ?_
  rintro e w1 ⟨rfl, hb1⟩
  go_wp2_with fail
  refine (HSg.out _ _ _ hq0.out).mono ?_
  rintro e w3 ⟨rfl, rfl⟩
  go_wp2_with fail
  go_ret2
  exact ⟨rfl, hb1⟩
 ·
  simp only [if_true]
  by_cases hr : 0 < r
  ·
   rw [if_pos hr]
   go_enter Tryz.func138, Tryz.ntmps138
   go_wp2_with fail
   refine (HP.out _).mono ?_
   rintro e w1 ⟨rfl, hb1⟩
   go_wp2_with fail
   refine (HSg.out _ _ _ hq1.out).mono ?_
   rintro e w3 ⟨rfl, rfl⟩
   go_wp2_with fail
   go_ret2
   exact ⟨rfl, hb1⟩
  ·
   rw [if_neg hr]
   go_enter Tryz.func138, Tryz.ntmps138
   go_wp2_with fail
   refine (HP.out _).mono ?_
   rintro e w1 ⟨rfl, hb1⟩
   go_wp2_with fail
   refine (HSg.out _ _ _ hq0.out).mono ?_
   rintro e w3 ⟨rfl, rfl⟩
   go_wp2_with fail
   go_ret2
   exact ⟨rfl, hb1⟩
end Go.Proofs.YtfondidmklmonaaGreat
namespace Go.Proofs.YtfondidmklmonaaGreat
open Go.RowKit

def frV (x : Int × Int) : Value := .agg #[.int .i64 x.1, .int .i64 x.2]
theorem struct_fr : StructOf Tryz.prog 139 2 := .mk_ Tryz.underlying139 (by kernel_rfl)
theorem absS_nat (n : Int) : absS n = (n.natAbs : Int) := by unfold absS; split <;> omega
/-- numbers of a fraction -/
def bd30 (n : Int) : Prop := -1073741824 ≤ n ∧ n ≤ 1073741824
theorem bd30_60 {n : Int} (h : bd30 n) : bd60 n := by unfold bd30 bd60 at *; omega
theorem mkF_sign {n d : Int} {u v : Nat} (hu : n.natAbs / Nat.gcd n.natAbs d.natAbs = u) (hv : d.natAbs / Nat.gcd n.natAbs d.natAbs = v) (m : Bool) (hm : m = true ↔ (decide (n < 0) ≠ decide (d < 0) ∧ n ≠ 0)) : mkF n d = ((if m = true then -(u : Int) else (u : Int)), (v : Int)) := by
 unfold mkF
 rw [hu, hv]
 congr 1
 cases m
 ·
  by_cases h : decide (n < 0) ≠ decide (d < 0)
  ·
   have hn : n = 0 := Classical.byContradiction fun e => by have := hm.2 ⟨h, e⟩; cases this
   subst hn
   have : u = 0 := by rw [← hu]; simp
   subst this
   simp
  · rw [if_neg h]; rfl
 · rw [if_pos (hm.1 rfl).1]; rfl
set_option maxRecDepth 100000 in
set_option maxHeartbeats 4000000 in
theorem FrMake_spec (n d : Int) (w : World) (hn : bd30 n) (hd : bd30 d) (hd0 : d ≠ 0) : Calls Tryz.prog 134 #[.int .i64 n, .int .i64 d] w fun e w' => e = .returned (.tuple #[frV (mkF n d), .int .i64 0]) ∧ Below w.heap.size w w' := by
 obtain ⟨u, hu⟩ : ∃ u, n.natAbs / Nat.gcd n.natAbs d.natAbs = u := ⟨_, rfl⟩
 obtain ⟨v, hv⟩ : ∃ v, d.natAbs / Nat.gcd n.natAbs d.natAbs = v := ⟨_, rfl⟩
 have HMk := Lib.hid (mkF_sign hu hv)
 have hS1 := fun W => rsize_spec' n W (bd30_60 hn)
 have hS2 := fun W => rsize_spec' d W (bd30_60 hd)
 rw [absS_nat] at hS1 hS2
 have hgp : 0 < Nat.gcd n.natAbs d.natAbs := Nat.gcd_pos_of_pos_right _ (by omega)
 have hC := fun W => common_spec n.natAbs d.natAbs W (by unfold bd30 at hn; omega) (by unfold bd30 at hd; omega)
 obtain ⟨N, hN⟩ : ∃ N, n.natAbs = N := ⟨_, rfl⟩
 obtain ⟨D, hD⟩ : ∃ D, d.natAbs = D := ⟨_, rfl⟩
 have hNb : N ≤ 1073741824 := by unfold bd30 at hn; omega
 have hDb : D ≤ 1073741824 := by unfold bd30 at hd; omega
 rw [hN] at hS1 hC hu hv hgp
 rw [hD] at hS2 hC hu hv hgp
 generalize Nat.gcd N D = g at *
 have hub : u ≤ N := by rw [← hu]; exact Nat.div_le_self _ _
 have hvb : v ≤ D := by rw [← hv]; exact Nat.div_le_self _ _
 have k1 : (N : Int).tdiv (g : Int) = (u : Int) := by rw [Int.tdiv_eq_ediv_of_nonneg (by omega), ← hu]; rfl
 have k2 : (D : Int).tdiv (g : Int) = (v : Int) := by rw [Int.tdiv_eq_ediv_of_nonneg (by omega), ← hv]; rfl
 have k3 : IntKind.u64.wrap (u : Int) = (u : Int) := by rw [u64w]; omega
 have k4 : IntKind.u64.wrap (v : Int) = (v : Int) := by rw [u64w]; omega
 have k5 : ¬ g = 0 := by omega
 have HSg := Lib.hid (fun (m : Bool) (W : World) => signed_spec m (u : Int) W (by omega))
 have HSv := Lib.hid (fun (W : World) => signed_spec false (v : Int) W (by omega))
 have e0 : (d == 0) = false := by simpa using hd0
 have HS1 := Lib.hid hS1; have HS2 := Lib.hid hS2; have HC := Lib.hid hC
 clear hS1 hS2 hC hN hD hu hv hgp hub hvb hNb hDb hn hd
 have key : ∀ m : Bool, (m = true ↔ (decide (n < 0) ≠ decide (d < 0) ∧ n ≠ 0)) → Calls Tryz.prog 134 #[.int .i64 n, .int .i64 d] w fun e w' => e = .returned (.tuple #[frV (mkF n d), .int .i64 0]) ∧ Below w.heap.size w w' := by
  intro m hm
  rw [HMk.out m hm]
  unfold frV
  have HSm := Lib.hid (HSg.out m)
  clear HSg HMk
  obtain ⟨r, hr⟩ : ∃ r, (if m = true then -(u : Int) else (u : Int)) = r := ⟨_, rfl⟩
  rw [hr] at HSm
  simp only [hr]
  clear hr
  go_enter Tryz.func134, Tryz.ntmps134
  go_upto_region 3 with fail
  obtain ⟨W, hW⟩ : ∃ W : World, W = w.alloc (.cells #[.int .i64 0, .int .i64 0] 139) := ⟨_, rfl⟩
  have HBw := Lib.hid (show Below w.heap.size w W by rw [hW]; exact bA (bR w) _)
  have HX4 := Lib.hid (show Blk W w.heap.size 139 #[.int .i64 0, .int .i64 0] by rw [hW]; exact Blk.made rfl _ _)
  rw [← hW]
  clear hW
  go_wp2_with fail
  refine (HS1.out _).mono ?_
  rintro e w1 ⟨rfl, hb1⟩
  have HB1 := Lib.hid (bT HBw.out hb1); have HX41 := Lib.hid (HX4.out.keep hb1)
  clear hb1 HBw HX4
  go_wp2_with fail
  refine (HS2.out _).mono ?_
  rintro e w2 ⟨rfl, hb2⟩
  have HB2 := Lib.hid (bT HB1.out hb2); have HX42 := Lib.hid (HX41.out.keep hb2)
  clear hb2 HB1 HX41
  go_wp2_with fail
  refine (HC.out _).mono ?_
  rintro e w3 ⟨rfl, hb3⟩
  have HB3 := Lib.hid (bT HB2.out hb3); have HX43 := Lib.hid (HX42.out.keep hb3)
  clear hb3 HB2 HX42
  go_upto_region 4 with fail
  go_cut [7, 8] (fun x y wx => x = .int .i64 r ∧ y = .int .i64 0 ∧ Below w.heap.size w wx ∧ Blk wx w.heap.size 139 #[.int .i64 0, .int .i64 0])
  case first =>
   have hcase : (n < 0 ∧ d < 0 ∧ m = false) ∨ (n < 0 ∧ ¬ d < 0 ∧ m = true) ∨ (¬ n < 0 ∧ d < 0 ∧ n = 0 ∧ m = false) ∨ (¬ n < 0 ∧ d < 0 ∧ n ≠ 0 ∧ m = true) ∨ (¬ n < 0 ∧ ¬ d < 0 ∧ m = false) := by
    by_cases h1 : n < 0
    ·
     by_cases h2 : d < 0
     · exact .inl ⟨h1, h2, by rw [Bool.eq_false_iff]; intro e; have := (hm.1 e).1; simp [h1, h2] at this⟩
     · exact .inr (.inl ⟨h1, h2, hm.2 ⟨by simp [h1, h2], by omega⟩⟩)
    ·
     by_cases h2 : d < 0
     ·
      by_cases h3 : n = 0
      · exact .inr (.inr (.inl ⟨h1, h2, h3, by rw [Bool.eq_false_iff]; intro e; exact (hm.1 e).2 h3⟩))
      · exact .inr (.inr (.inr (.inl ⟨h1, h2, h3, hm.2 ⟨by simp [h1, h2], h3⟩⟩)))
     · exact .inr (.inr (.inr (.inr ⟨h1, h2, by rw [Bool.eq_false_iff]; intro e; have := (hm.1 e).1; simp [h1, h2] at this⟩)))
   clear hm
   rcases hcase with ⟨h1, h2, rfl⟩ | ⟨h1, h2, rfl⟩ | ⟨h1, h2, rfl, rfl⟩ | ⟨h1, h2, h3, rfl⟩ | ⟨h1, h2, rfl⟩
   ·
    go_wp2_with fail
    refine (HS1.out _).mono ?_
    rintro e w4 ⟨rfl, hb4⟩
    go_wp2_with fail
    refine (HSm.out _).mono ?_
    rintro e w5 ⟨rfl, rfl⟩
    go_wp2_with fail
    go_meet
    case rel => exact ⟨rfl, rfl, bT HB3.out hb4, HX43.out.keep hb4⟩
   ·
    have h3 : (n != 0) = true := by simp; omega
    have h4 : (n == 0) = false := by simp; omega
    go_wp2_with fail
    refine (HS1.out _).mono ?_
    rintro e w4 ⟨rfl, hb4⟩
    go_wp2_with fail
    refine (HSm.out _).mono ?_
    rintro e w5 ⟨rfl, rfl⟩
    go_wp2_with fail
    go_meet
    case rel => exact ⟨rfl, rfl, bT HB3.out hb4, HX43.out.keep hb4⟩
   ·
    go_wp2_with fail
    refine (HS1.out _).mono ?_
    rintro e w4 ⟨rfl, hb4⟩
    go_wp2_with fail
    refine (HSm.out _).mono ?_
    rintro e w5 ⟨rfl, rfl⟩
    go_wp2_with fail
    go_meet
    case rel => exact ⟨rfl, rfl, bT HB3.out hb4, HX43.out.keep hb4⟩
   ·
    have h5 : (n != 0) = true := by simpa using h3
    have h4 : (n == 0) = false := by simpa using h3
    clear h3
    go_wp2_with fail
    refine (HS1.out _).mono ?_
    rintro e w4 ⟨rfl, hb4⟩
    go_wp2_with fail
    refine (HSm.out _).mono ?_
    rintro e w5 ⟨rfl, rfl⟩
    go_wp2_with fail
    go_meet
    case rel => exact ⟨rfl, rfl, bT HB3.out hb4, HX43.out.keep hb4⟩
   ·
    go_wp2_with fail
    refine (HS1.out _).mono ?_
    rintro e w4 ⟨rfl, hb4⟩
    go_wp2_with fail
    refine (HSm.out _).mono ?_
    rintro e w5 ⟨rfl, rfl⟩
    go_wp2_with fail
    go_meet
    case rel => exact ⟨rfl, rfl, bT HB3.out hb4, HX43.out.keep hb4⟩
  case rest =>
  obtain ⟨rfl, rfl, hb, hx⟩ := hcut
  have HBc := Lib.hid hb; have HXc := Lib.hid hx
  clear hb hx HB3 HX43
  go_wp2_with fail
  refine (HS2.out _).mono ?_
  rintro e w4 ⟨rfl, hb4⟩
  have HB4 := Lib.hid (bT HBc.out hb4)
  have X4 := HXc.out.keep hb4
  have HX4 := Lib.hid X4
  clear hb4 HBc HXc
  obtain ⟨X4l, X4a, X4b, X4fa, X4fb⟩ := X4.facts2
  go_wp2_with fail
  refine (HSv.out _).mono ?_
  rintro e w5 ⟨rfl, rfl⟩
  go_wp2_with fail
  refine res_cell_tmp (g := w.heap.size) (cs := #[.int .i64 r, .int .i64 (v : Int)]) rfl struct_fr rfl rfl (Blk.put2 HX4.out) ⟨rfl, ?_⟩
  exact bS (bS HB4.out (Nat.le_refl _) _) (Nat.le_refl _) _
 by_cases hb : decide (n < 0) ≠ decide (d < 0) ∧ n ≠ 0
 · exact key true ⟨fun _ => hb, fun _ => rfl⟩
 · exact key false ⟨fun h => (by cases h), fun h => absurd h hb⟩
/-- a fraction in lowest terms with a positive denominator -/
structure FrOk (x : Int × Int) : Prop where
 n : bd30 x.1
 d : bd30 x.2
 pos : 0 < x.2
 co : Nat.gcd x.1.natAbs x.2.natAbs = 1
set_option maxRecDepth 100000 in
set_option maxHeartbeats 4000000 in
theorem FrValid_spec (x : Int × Int) (w : World) (h : FrOk x) : Calls Tryz.prog 137 #[frV x] w fun e w' => e = .returned (.bool true) ∧ Below w.heap.size w w' := by
 have hS1 := fun W => rsize_spec' x.1 W (bd30_60 h.n)
 have hS2 := fun W => rsize_spec' x.2 W (bd30_60 h.d)
 rw [absS_nat] at hS1 hS2
 have hn := h.n; have hd := h.d
 have hC := fun W => common_spec x.1.natAbs x.2.natAbs W (by unfold bd30 at hn; omega) (by unfold bd30 at hd; omega)
 rw [h.co] at hC
 rw [show (((1 : Nat) : Int)) = 1 from rfl] at hC
 have hp := h.pos
 generalize (x.1.natAbs : Int) = N at *
 generalize (x.2.natAbs : Int) = D at *
 have HS1 := Lib.hid hS1; have HS2 := Lib.hid hS2; have HC := Lib.hid hC
 clear hS1 hS2 hC h hn hd
 unfold frV
 generalize x.1 = n at *
 generalize x.2 = d at *
 go_enter Tryz.func137, Tryz.ntmps137
 go_upto_region 1 with fail
 obtain ⟨W, hW⟩ : ∃ W : World, W = w.alloc (.cells #[.int .i64 n, .int .i64 d] 139) := ⟨_, rfl⟩
 have HBw := Lib.hid (show Below w.heap.size w W by rw [hW]; exact bA (bR w) _)
 have X1 : Blk W w.heap.size 139 #[.int .i64 n, .int .i64 d] := by rw [hW]; exact Blk.made rfl _ _
 rw [← hW]
 clear hW
 obtain ⟨g1, hg1⟩ : ∃ g1, w.heap.size = g1 := ⟨_, rfl⟩
 rw [hg1] at X1
 try simp only [hg1]
 have HG := Lib.hid hg1
 clear hg1
 obtain ⟨X1l, X1a, X1b, -, -⟩ := X1.facts2
 refine rg_start (Since W) (.run 6 0 0 (.take 7 191 (.take 8 447 (.call 6 511 (.call 9 1023 (.call 10 2047 (.run 3 11 2047 (.done)))))))) (by kernel_rfl) (bD (bR _)) (by kernel_rfl) (by kernel_rfl) (Nat.le_of_ble_eq_true (by kernel_rfl)) ?_
 intro opsR QR Hops HQrg hS
 iterate 4
  apply rg_p; exact Hops; exact rfl; exact hS; exact rfl
  · intro _ hqc; go_simp; try rfl
  try simp only [pu]
 iterate 4
  apply rg_g; exact Hops; exact rfl; exact hS; iterate 4 exact rfl
  · intro _ hqc; go_simp; try rfl
  try simp only [pu]
 refine rg_call (i := 6) (get_of Hops rfl) (fun K hK => ?_)
 have HSrg := Lib.hid hS; clear hS
 refine rg_run (wanted_yes rfl (get_of Hops rfl) rfl rfl) ?_
 go_simp
 refine (HS1.out _).mono ?_
 rintro e wr1 ⟨rfl, hbr1⟩
 have hS : Since W wr1 := bT (w := W) HSrg.out hbr1
 clear HSrg
 refine hK.out _ _ hS (fun _ => ?_)
 clear hK K
 try simp only [pu]
 refine rg_call (i := 9) (get_of Hops rfl) (fun K hK => ?_)
 have HSrg := Lib.hid hS; clear hS
 refine rg_run (wanted_yes rfl (get_of Hops rfl) rfl rfl) ?_
 go_simp
 refine (HS2.out _).mono ?_
 rintro e wr2 ⟨rfl, hbr2⟩
 have hS : Since W wr2 := bT (w := W) HSrg.out hbr2
 clear HSrg
 refine hK.out _ _ hS (fun _ => ?_)
 clear hK K
 try simp only [pu]
 refine rg_call (i := 10) (get_of Hops rfl) (fun K hK => ?_)
 have HSrg := Lib.hid hS; clear hS
 refine rg_run (wanted_yes rfl (get_of Hops rfl) rfl rfl) ?_
 go_simp
 refine (HC.out _).mono ?_
 rintro e wr3 ⟨rfl, hbr3⟩
 have hS : Since W wr3 := bT (w := W) HSrg.out hbr3
 clear HSrg
 refine hK.out _ _ hS (fun _ => ?_)
 clear hK K
 try simp only [pu]
 apply rg_g; exact Hops; exact rfl; exact hS; iterate 4 exact rfl
 · intro _ hqc; go_simp; try rfl
 try simp only [pu]
 iterate 2
  apply rg_p; exact Hops; exact rfl; exact hS; exact rfl
  · intro _ hqc; go_simp; try rfl
  try simp only [pu]
 refine rg_done ?_
 refine HQrg.down _ _ ?_
 have hB : Below W.heap.size W wr3 := hS
 clear hS HQrg Hops
 go_wp2_with fail
 go_ret
 exact ⟨rfl, bT HBw.out hB⟩
end Go.Proofs.YtfondidmklmonaaGreat
namespace Go.Proofs.YtfondidmklmonaaGreat
open Go.RowKit

def sgnF (a b : Int) : Int := if a < b then -1 else if a = b then 0 else 1
theorem cmpF_sgn (x y : Int × Int) : cmpF x y = sgnF (x.1 * y.2) (y.1 * x.2) := rfl
theorem sgnF_lt {a b : Int} (h : a < b) : sgnF a b = -1 := if_pos h
theorem sgnF_gt {a b : Int} (h : b < a) : sgnF a b = 1 := by unfold sgnF; rw [if_neg (by omega), if_neg (by omega)]
theorem sgnF_eq {a b : Int} (h : a = b) : sgnF a b = 0 := by unfold sgnF; rw [if_neg (by omega), if_pos h]
theorem sgnF_add (t a b : Int) : sgnF (t + a) (t + b) = sgnF a b := by
 rcases (by omega : a < b ∨ a = b ∨ b < a) with h | h | h
 · rw [sgnF_lt h, sgnF_lt (by omega)]
 · rw [sgnF_eq h, sgnF_eq (by omega)]
 · rw [sgnF_gt h, sgnF_gt (by omega)]
structure CmpSt (an ad bn bd p q r s : Int) : Prop where
 a0 : 0 < ad
 b0 : 0 < bd
 a : an = p * ad + r
 b : bn = q * bd + s
 r0 : 0 ≤ r
 r1 : r < ad
 s0 : 0 ≤ s
 s1 : s < bd
section
variable {an ad bn bd p q r s : Int} (h : CmpSt an ad bn bd p q r s)
include h
theorem CmpSt.prods : an * bd = p * (ad * bd) + r * bd ∧ bn * ad = q * (ad * bd) + s * ad ∧ 0 ≤ r * bd ∧ r * bd < ad * bd ∧ 0 ≤ s * ad ∧ s * ad < ad * bd := by
 obtain ⟨a0, b0, ha, hb, r0, r1, s0, s1⟩ := h
 refine ⟨?_, ?_, Int.mul_nonneg r0 (by omega), Int.mul_lt_mul_of_pos_right r1 b0, Int.mul_nonneg s0 (by omega), ?_⟩
 · rw [ha, Int.add_mul, Int.mul_assoc]
 · rw [hb, Int.add_mul, Int.mul_assoc, Int.mul_comm bd ad]
 · rw [Int.mul_comm ad bd]; exact Int.mul_lt_mul_of_pos_right s1 a0
theorem CmpSt.ne (hpq : p ≠ q) : cmpF (an, ad) (bn, bd) = sgnF p q := by
 obtain ⟨e1, e2, h1, h2, h3, h4⟩ := h.prods
 rw [cmpF_sgn]
 show sgnF (an * bd) (bn * ad) = _
 rw [e1, e2]
 generalize ad * bd = T at *
 have hT : 0 ≤ T := by omega
 rcases (by omega : p < q ∨ q < p) with hl | hl
 ·
  have := Int.mul_le_mul_of_nonneg_right (show p + 1 ≤ q by omega) hT
  rw [Int.add_mul, Int.one_mul] at this
  rw [sgnF_lt hl, sgnF_lt (by omega)]
 ·
  have := Int.mul_le_mul_of_nonneg_right (show q + 1 ≤ p by omega) hT
  rw [Int.add_mul, Int.one_mul] at this
  rw [sgnF_gt hl, sgnF_gt (by omega)]
theorem CmpSt.eq (hpq : p = q) : cmpF (an, ad) (bn, bd) = sgnF (r * bd) (s * ad) := by
 obtain ⟨e1, e2, -⟩ := h.prods
 rw [cmpF_sgn]
 show sgnF (an * bd) (bn * ad) = _
 rw [e1, e2, hpq, sgnF_add]
theorem CmpSt.zero (hpq : p = q) (hz : r = 0 ∨ s = 0) : cmpF (an, ad) (bn, bd) = sgnF r s := by
 rw [h.eq hpq]
 have a0 := h.a0; have b0 := h.b0; have r0 := h.r0; have s0 := h.s0
 rcases hz with rfl | rfl
 ·
  rcases (by omega : s = 0 ∨ 0 < s) with rfl | hs
  · rw [Int.zero_mul, Int.zero_mul]
  · rw [sgnF_lt hs, sgnF_lt (by rw [Int.zero_mul]; exact Int.mul_pos hs a0)]
 ·
  rcases (by omega : r = 0 ∨ 0 < r) with rfl | hr
  · rw [Int.zero_mul, Int.zero_mul]
  · rw [sgnF_gt hr, sgnF_gt (by rw [Int.zero_mul]; exact Int.mul_pos hr b0)]
theorem CmpSt.next (hpq : p = q) : cmpF (an, ad) (bn, bd) = cmpF (bd, s) (ad, r) := by
 rw [h.eq hpq, cmpF_sgn]
 show _ = sgnF (bd * r) (ad * s)
 rw [Int.mul_comm r, Int.mul_comm s]
end
theorem CmpSt.of {an ad bn bd : Int} (a0 : 0 < ad) (b0 : 0 < bd) : CmpSt an ad bn bd (an / ad) (bn / bd) (an - an / ad * ad) (bn - bn / bd * bd) := by
 have e1 := Int.emod_add_mul_ediv an ad
 have e2 := Int.emod_add_mul_ediv bn bd
 have e3 := Int.emod_nonneg an (show ad ≠ 0 by omega)
 have e4 := Int.emod_lt_of_pos an a0
 have e5 := Int.emod_nonneg bn (show bd ≠ 0 by omega)
 have e6 := Int.emod_lt_of_pos bn b0
 rw [Int.mul_comm] at e1 e2
 exact ⟨a0, b0, by omega, by omega, by omega, by omega, by omega, by omega⟩
theorem sign_spec' (a b : Int) (w : World) : Calls Tryz.prog 139 #[.int .i64 a, .int .i64 b] w fun e w' => e = .returned (.int .i64 (sgnF a b)) ∧ Below w.heap.size w w' := sign_spec a b w
/-- the measure of Cmp's loop -/
def mCell (w : World) (g : Nat) : Nat := match w.cell? ⟨g, 1, none⟩ with | some v => (intOf v).toNat | none => 0
theorem mCell_of {w : World} {g : Nat} {t : TypeId} {n d : Int} (h : Blk w g t #[.int .i64 n, .int .i64 d]) : mCell w g = d.toNat := by
 unfold mCell
 rw [h.cell 1]
 rfl
theorem div_bd30 {a b : Int} (h : bd30 a) (hb : 0 < b) : bd30 (a / b) := by
 unfold bd30 at *
 have e1 := Int.emod_add_mul_ediv a b
 have e2 := Int.emod_nonneg a (show b ≠ 0 by omega)
 have e3 := Int.emod_lt_of_pos a hb
 constructor
 · exact Int.le_ediv_of_mul_le hb (by
   have := Int.mul_le_mul_of_nonneg_left (show (1 : Int) ≤ b by omega) (show (0 : Int) ≤ 1073741824 by omega)
   omega)
 ·
  rcases Int.lt_or_le a 0 with hn | hn
  ·
   have := Int.ediv_neg_of_neg_of_pos hn hb
   omega
  ·
   have := Int.ediv_le_self b hn
   omega
set_option maxRecDepth 100000 in
set_option maxHeartbeats 8000000 in
theorem FrCmp_spec (x y : Int × Int) (w : World) (hx : FrOk x) (hy : FrOk y) : Calls Tryz.prog 105 #[frV x, frV y] w fun e w' => e = .returned (.int .i64 (cmpF x y)) ∧ Below w.heap.size w w' := by
 obtain ⟨r0, hr0⟩ : ∃ r0, cmpF x y = r0 := ⟨_, rfl⟩
 rw [hr0]
 have HR0 := Lib.hid hr0
 have hVx := fun W => FrValid_spec x W hx
 have hVy := fun W => FrValid_spec y W hy
 have HSt0 := Lib.hid (show bd30 x.1 ∧ bd30 x.2 ∧ bd30 y.1 ∧ bd30 y.2 ∧ 0 < x.2 ∧ 0 < y.2 from ⟨hx.n, hx.d, hy.n, hy.d, hx.pos, hy.pos⟩)
 unfold frV at hVx hVy ⊢
 have HVx := Lib.hid hVx; have HVy := Lib.hid hVy
 have HFl := Lib.hid (fun (a b : Int) (W : World) h h1 h2 => rFloor_spec a b W h h1 h2)
 have HSg := Lib.hid (fun (a b : Int) (W : World) => sign_spec' a b W)
 clear hr0 hVx hVy hx hy
 obtain ⟨g2, hg2⟩ : ∃ g, w.heap.size = g := ⟨_, rfl⟩
 obtain ⟨g3, hg3⟩ : ∃ g, g2 + 1 = g := ⟨_, rfl⟩
 obtain ⟨W, hW⟩ : ∃ W : World, W = (w.alloc (.cells #[.int .i64 x.1, .int .i64 x.2] 139)).alloc (.cells #[.int .i64 y.1, .int .i64 y.2] 139) := ⟨_, rfl⟩
 have HBw := Lib.hid (show Below w.heap.size w W by rw [hW]; exact bA (bA (bR w) _) _)
 have X2 : Blk W g2 139 #[.int .i64 x.1, .int .i64 x.2] := by rw [hW]; exact (Blk.made hg2.symm _ _).alloc _
 have X3 : Blk W g3 139 #[.int .i64 y.1, .int .i64 y.2] := by rw [hW]; exact Blk.made (by simp; omega) _ _
 go_enter Tryz.func105, Tryz.ntmps105
 go_upto_region 1 with fail
 try rw [← hW]
 have HG := Lib.hid (show w.heap.size = g2 ∧ g2 + 1 = g3 from ⟨hg2, hg3⟩)
 clear hW hg2 hg3
 have HX2 := Lib.hid X2; have HX3 := Lib.hid X3
 obtain ⟨X2l, X2a, X2b, -, -⟩ := X2.facts2
 obtain ⟨X3l, X3a, X3b, -, -⟩ := X3.facts2
 go_wp2_with fail
 refine (HVx.out _).mono ?_
 rintro e w1 ⟨rfl, hb1⟩
 replace X2 := X2.keep hb1
 replace X3 := X3.keep hb1
 have HB1 := Lib.hid (bT HBw.out hb1)
 clear hb1
 try clear X2l
 try clear X2a
 try clear X2b
 obtain ⟨X2l, X2a, X2b, -, -⟩ := X2.facts2
 try clear X3l
 try clear X3a
 try clear X3b
 obtain ⟨X3l, X3a, X3b, -, -⟩ := X3.facts2
 go_wp2_with fail
 refine (HVy.out _).mono ?_
 rintro e w2 ⟨rfl, hb2⟩
 replace X2 := X2.keep hb2
 replace X3 := X3.keep hb2
 have HB2 := Lib.hid (bT HB1.out hb2)
 have HX22 := Lib.hid X2; have HX32 := Lib.hid X3
 clear hb2 HB1 HBw HX2 HX3 X2 X3 X2l X2a X2b X3l X3a X3b
 go_wp2_with fail
 have hq0 : w.heap.size ≤ g2 := by have := HG.out; omega
 have hq3 : w.heap.size ≤ g3 := by have := HG.out; omega
 have hne : g2 ≠ g3 := by have := HG.out; omega
 go_loopw [] (fun wr => ∃ an ad bn bd : Int, Blk wr g2 139 #[.int .i64 an, .int .i64 ad] ∧ Blk wr g3 139 #[.int .i64 bn, .int .i64 bd] ∧ Hid (bd30 an ∧ bd30 ad ∧ bd30 bn ∧ bd30 bd ∧ 0 < ad ∧ 0 < bd) ∧ Hid (cmpF (an, ad) (bn, bd) = r0) ∧ Below w.heap.size w wr) (fun wr => mCell wr g2 + mCell wr g3)
 case atStart => exact ⟨x.1, x.2, y.1, y.2, HX22.out, HX32.out, HSt0, HR0, HB2.out⟩
 case round =>
  obtain ⟨an, ad, bn, bd, X2, X3, hst, hcm, hb⟩ := hrel
  clear HX22 HX32 HSt0 HR0 HB2
  have HX2 := Lib.hid X2; have HX3 := Lib.hid X3; have HB := Lib.hid hb
  have HM0 := Lib.hid (show mCell wr g2 + mCell wr g3 = ad.toNat + bd.toNat by rw [mCell_of X2, mCell_of X3])
  clear hb
  obtain ⟨b1, b2, b3, b4, p1, p2⟩ := hst.out
  have hcs := CmpSt.of (an := an) (bn := bn) p1 p2
  have hF1 := fun W => HFl.out an ad W (bd30_60 b1) p1 (bd30_60 b2)
  have hF2 := fun W => HFl.out bn bd W (bd30_60 b3) p2 (bd30_60 b4)
  have hp := div_bd30 b1 p1
  have hq := div_bd30 b3 p2
  obtain ⟨p, hpe⟩ : ∃ p, an / ad = p := ⟨_, rfl⟩
  obtain ⟨q, hqe⟩ : ∃ q, bn / bd = q := ⟨_, rfl⟩
  rw [hpe] at hF1 hp hcs
  rw [hqe] at hF2 hq hcs
  clear hpe hqe
  have hr1 := hcs.r0; have hr2 := hcs.r1; have hs1 := hcs.s0; have hs2 := hcs.s1
  have w1 : IntKind.i64.wrap (p * ad) = p * ad := IntWalk.i64_in _ (by unfold bd30 at *; omega)
  have w2 : IntKind.i64.wrap (q * bd) = q * bd := IntWalk.i64_in _ (by unfold bd30 at *; omega)
  have w3 : IntKind.i64.wrap (an - p * ad) = an - p * ad := IntWalk.i64_in _ (by unfold bd30 at *; omega)
  have w4 : IntKind.i64.wrap (bn - q * bd) = bn - q * bd := IntWalk.i64_in _ (by unfold bd30 at *; omega)
  have HF1 := Lib.hid hF1; have HF2 := Lib.hid hF2; have HCs := Lib.hid hcs
  obtain ⟨r, hre⟩ : ∃ r, an - p * ad = r := ⟨_, rfl⟩
  obtain ⟨s, hse⟩ : ∃ s, bn - q * bd = s := ⟨_, rfl⟩
  rw [hre] at hr1 hr2 HCs w3
  rw [hse] at hs1 hs2 HCs w4
  have HN := Lib.hid (show bd30 r ∧ bd30 s by unfold bd30 at *; omega)
  have HW := Lib.hid (show IntKind.i64.wrap (p * ad) = p * ad ∧ IntKind.i64.wrap (q * bd) = q * bd ∧ IntKind.i64.wrap r = r ∧ IntKind.i64.wrap s = s ∧ an - p * ad = r ∧ bn - q * bd = s from ⟨w1, w2, w3, w4, hre, hse⟩)
  have HPQ := Lib.hid (show bd30 an ∧ bd30 ad ∧ bd30 bn ∧ bd30 bd ∧ 0 < ad ∧ 0 < bd ∧ 0 ≤ r ∧ r < ad ∧ 0 ≤ s ∧ s < bd from ⟨b1, b2, b3, b4, p1, p2, hr1, hr2, hs1, hs2⟩)
  clear hcs hF1 hF2 hp hq b1 b2 b3 b4 p1 p2 hst w1 w2 w3 w4 hre hse hr1 hr2 hs1 hs2
  try clear X2l
  try clear X2a
  try clear X2b
  obtain ⟨X2l, X2a, X2b, -, -⟩ := X2.facts2
  try clear X3l
  try clear X3a
  try clear X3b
  obtain ⟨X3l, X3a, X3b, -, -⟩ := X3.facts2
  go_wp2_with fail
  refine (HF1.out _).mono ?_
  rintro e wa ⟨rfl, hba⟩
  replace X2 := X2.keep hba
  replace X3 := X3.keep hba
  have HBa := Lib.hid (bT HB.out hba)
  clear hba
  try clear X2l
  try clear X2a
  try clear X2b
  obtain ⟨X2l, X2a, X2b, -, -⟩ := X2.facts2
  try clear X3l
  try clear X3a
  try clear X3b
  obtain ⟨X3l, X3a, X3b, -, -⟩ := X3.facts2
  go_wp2_with fail
  refine (HF2.out _).mono ?_
  rintro e wb ⟨rfl, hbb⟩
  replace X2 := X2.keep hbb
  replace X3 := X3.keep hbb
  have HBb := Lib.hid (bT HBa.out hbb)
  clear hbb HBa HB HX2 HX3
  obtain ⟨w1, w2, w3, w4, e1, e2⟩ := HW.out
  try clear X2l
  try clear X2a
  try clear X2b
  obtain ⟨X2l, X2a, X2b, -, -⟩ := X2.facts2
  try clear X3l
  try clear X3a
  try clear X3b
  obtain ⟨X3l, X3a, X3b, -, -⟩ := X3.facts2
  go_upto_region 5 with fail
  refine rg_start (Since wb) (.run 16 0 0 (.done)) (by kernel_rfl) (bD (bR _)) (by kernel_rfl) (by kernel_rfl) (Nat.le_of_ble_eq_true (by kernel_rfl)) ?_
  intro opsR QR Hops HQrg hS
  iterate 16
   apply rg_p; exact Hops; exact rfl; exact hS; exact rfl
   · intro _ hqc; go_simp; try rfl
   try simp only [pu]
  refine rg_done ?_
  refine HQrg.down _ _ ?_
  have hB : Below wb.heap.size wb wb.drew := hS
  clear hS HQrg Hops
  replace X2 := X2.keep hB
  replace X3 := X3.keep hB
  have HBc := Lib.hid (bT HBb.out hB)
  obtain ⟨wd, hwd⟩ : ∃ wd, wd = wb.drew := ⟨_, rfl⟩
  rw [← hwd] at X2 X3 HBc ⊢
  clear hwd
  have HX2 := Lib.hid X2; have HX3 := Lib.hid X3
  clear hB w1 w2 w3 w4 e1 e2
  by_cases hpq : p = q
  ·
   have hpq' : (p == q) = true := by simpa using hpq
   have hpn : (p != q) = false := by simpa using hpq
   by_cases hz : r = 0 ∨ s = 0
   ·
    have HFin := Lib.hid (show sgnF r s = r0 by rw [← HCs.out.zero hpq hz]; exact hcm.out)
    by_cases h1 : r = 0
    ·
     have e1 : (r == 0) = true := by simpa using h1
     clear hpq hz h1
     go_wp2_with fail
     refine (HSg.out _ _ _).mono ?_
     rintro e wz ⟨rfl, hbz⟩
     go_wp2_with fail
     go_ret
     exact ⟨by rw [← HFin.out]; rfl, bT HBc.out hbz⟩
    ·
     have e1 : (r == 0) = false := by simpa using h1
     have e2 : (s == 0) = true := by simpa using hz.resolve_left h1
     clear hpq hz h1
     go_wp2_with fail
     refine (HSg.out _ _ _).mono ?_
     rintro e wz ⟨rfl, hbz⟩
     go_wp2_with fail
     go_ret
     exact ⟨by rw [← HFin.out]; rfl, bT HBc.out hbz⟩
   ·
    have HNx := Lib.hid (show cmpF (bd, s) (ad, r) = r0 by rw [← HCs.out.next hpq]; exact hcm.out)
    have e1 : (r == 0) = false := by simp; exact fun e => hz (.inl e)
    have e2 : (s == 0) = false := by simp; exact fun e => hz (.inr e)
    have HPos := Lib.hid (show 0 < r ∧ 0 < s by have := HPQ.out; omega)
    have HNew := Lib.hid (show bd30 bd ∧ bd30 s ∧ bd30 ad ∧ bd30 r ∧ 0 < s ∧ 0 < r from ⟨HPQ.out.2.2.2.1, HN.out.2, HPQ.out.2.1, HN.out.1, HPos.out.2, HPos.out.1⟩)
    clear hpq hz
    try clear X2l
    try clear X2a
    try clear X2b
    obtain ⟨X2l, X2a, X2b, X2fa, X2fb⟩ := X2.facts2
    try clear X3l
    try clear X3a
    try clear X3b
    obtain ⟨X3l, X3a, X3b, X3fa, X3fb⟩ := X3.facts2
    go_wp2_with fail
    go_roundw
    case rel => exact ⟨bd, s, ad, r, (HX2.out.put2.far (by first | omega | (simp; done) | (simp; omega)) _).far (by first | omega | (simp; done) | (simp; omega)) _, ((HX3.out.far (by first | omega | (simp; done) | (simp; omega)) _).far (by first | omega | (simp; done) | (simp; omega)) _).put2, HNew, HNx, bS (bS (bS (bS HBc.out hq0 _) hq0 _) hq3 _) hq3 _⟩
    case measure =>
     rw [mCell_of ((HX2.out.put2.far (by first | omega | (simp; done) | (simp; omega)) _).far (by first | omega | (simp; done) | (simp; omega)) _), mCell_of ((HX3.out.far (by first | omega | (simp; done) | (simp; omega)) _).far (by first | omega | (simp; done) | (simp; omega)) _).put2, HM0.out]
     have := HPQ.out
     omega
  ·
   have HFin := Lib.hid (show sgnF p q = r0 by rw [← HCs.out.ne hpq]; exact hcm.out)
   have hpq' : (p == q) = false := by simpa using hpq
   have hpn : (p != q) = true := by simpa using hpq
   clear hpq
   go_wp2_with fail
   refine (HSg.out _ _ _).mono ?_
   rintro e wz ⟨rfl, hbz⟩
   go_wp2_with fail
   go_ret
   exact ⟨by rw [← HFin.out]; rfl, bT HBc.out hbz⟩
end Go.Proofs.YtfondidmklmonaaGreat
namespace Go.Proofs.YtfondidmklmonaaGreat
open Go.RowKit

inductive RPlanT where
 | done
 | take (i m : Nat) (r : RPlanT)
 | call (i m : Nat) (r : RPlanT)
 | two (i m : Nat) (r : RPlanT) (j m' : Nat) (s : RPlanT)
 | three (i m : Nat) (r : RPlanT) (j m' : Nat) (s : RPlanT) (k m'' : Nat) (u : RPlanT)
/-- n operations taken one after the other, from number i on -/
def RPlanT.run : Nat → Nat → Nat → RPlanT → RPlanT
 | 0, _, _, r => r
 | n + 1, i, m, r => .take i (m ||| (1 <<< i)) (RPlanT.run n (i + 1) (m ||| (1 <<< i)) r)
def RPlanT.depth : RPlanT → Nat
 | .done => 0
 | .take _ _ r => r.depth + 1
 | .call _ _ r => r.depth + 1
 | .two _ _ r _ _ s => Nat.max r.depth s.depth + 1
 | .three _ _ r _ _ s _ _ u => Nat.max r.depth (Nat.max s.depth u.depth) + 1
def planOkT (ops : Array Oper) : RPlanT → Array Bool → Prop
 | .done, l => Region.ready .any ops l = []
 | .take i _ r, l => Region.free .any ops l i = true ∧ (Region.ready .any ops l).contains i = true ∧ planOkT ops r (l.setIfInBounds i true)
 | .call i _ r, l => Region.ready .any ops l = [i] ∧ planOkT ops r (l.setIfInBounds i true)
 | .two i _ r j _ s, l => Region.ready .any ops l = [i, j] ∧ planOkT ops r (l.setIfInBounds i true) ∧ planOkT ops s (l.setIfInBounds j true)
 | .three i _ r j _ s k _ u, l => Region.ready .any ops l = [i, j, k] ∧ planOkT ops r (l.setIfInBounds i true) ∧ planOkT ops s (l.setIfInBounds j true) ∧ planOkT ops u (l.setIfInBounds k true)
def planMT (ops : Array Oper) : RPlanT → Nat → Bool
 | .done, m => (readyM ops m).isEmpty
 | .take i m' r, m => Nat.beq m' (m ||| (1 <<< i)) && (freeM ops m i && (upM ops m i && planMT ops r m'))
 | .call i m' r, m => Nat.beq m' (m ||| (1 <<< i)) && (decide (readyM ops m = [i]) && planMT ops r m')
 | .two i m' r j m'' s, m => Nat.beq m' (m ||| (1 <<< i)) && (Nat.beq m'' (m ||| (1 <<< j)) && (decide (readyM ops m = [i, j]) && (planMT ops r m' && planMT ops s m'')))
 | .three i m' r j m'' s k m3 u, m => Nat.beq m' (m ||| (1 <<< i)) && (Nat.beq m'' (m ||| (1 <<< j)) && (Nat.beq m3 (m ||| (1 <<< k)) && (decide (readyM ops m = [i, j, k]) && (planMT ops r m' && (planMT ops s m'' && planMT ops u m3)))))
theorem planMT_ok (ops : Array Oper) : ∀ (p : RPlanT) (m : Nat), m < 2 ^ ops.size → planMT ops p m = true → planOkT ops p (maskArr ops.size m)
 | .done, m, hm, h => by
  simp only [planMT, List.isEmpty_iff] at h
  show Region.ready .any ops _ = []
  rw [ready_mask _ _ hm, h]
 | .take i m' r, m, hm, h => by
  simp only [planMT, Bool.and_eq_true, Nat.beq_eq] at h
  obtain ⟨h1, h2, h3, h4⟩ := h
  have hi := upM_lt h3
  refine ⟨by rw [free_mask]; exact h2, ?_, ?_⟩
  ·
   rw [ready_mask _ _ hm, List.contains_iff_mem]
   exact List.mem_filter.2 ⟨List.mem_range.2 hi, h3⟩
  ·
   rw [maskArr_set _ _ _ hi, ← h1]
   exact planMT_ok ops r m' (by rw [h1]; exact mask_lt hm hi) h4
 | .call i m' r, m, hm, h => by
  simp only [planMT, Bool.and_eq_true, Nat.beq_eq, decide_eq_true_eq] at h
  obtain ⟨h1, h2, h3⟩ := h
  have hi : i < ops.size := readyM_lt (m := m) (by rw [h2]; simp)
  refine ⟨by rw [ready_mask _ _ hm, h2], ?_⟩
  rw [maskArr_set _ _ _ hi, ← h1]
  exact planMT_ok ops r m' (by rw [h1]; exact mask_lt hm hi) h3
 | .two i m' r j m'' s, m, hm, h => by
  simp only [planMT, Bool.and_eq_true, Nat.beq_eq, decide_eq_true_eq] at h
  obtain ⟨h1, h2, h3, h4, h5⟩ := h
  have hi : i < ops.size := readyM_lt (m := m) (by rw [h3]; simp)
  have hj : j < ops.size := readyM_lt (m := m) (by rw [h3]; simp)
  refine ⟨by rw [ready_mask _ _ hm, h3], ?_, ?_⟩
  ·
   rw [maskArr_set _ _ _ hi, ← h1]
   exact planMT_ok ops r m' (by rw [h1]; exact mask_lt hm hi) h4
  ·
   rw [maskArr_set _ _ _ hj, ← h2]
   exact planMT_ok ops s m'' (by rw [h2]; exact mask_lt hm hj) h5
 | .three i m' r j m'' s k m3 u, m, hm, h => by
  simp only [planMT, Bool.and_eq_true, Nat.beq_eq, decide_eq_true_eq] at h
  obtain ⟨h1, h2, h6, h3, h4, h5, h7⟩ := h
  have hi : i < ops.size := readyM_lt (m := m) (by rw [h3]; simp)
  have hj : j < ops.size := readyM_lt (m := m) (by rw [h3]; simp)
  have hk : k < ops.size := readyM_lt (m := m) (by rw [h3]; simp)
  refine ⟨by rw [ready_mask _ _ hm, h3], ?_, ?_, ?_⟩
  ·
   rw [maskArr_set _ _ _ hi, ← h1]
   exact planMT_ok ops r m' (by rw [h1]; exact mask_lt hm hi) h4
  ·
   rw [maskArr_set _ _ _ hj, ← h2]
   exact planMT_ok ops s m'' (by rw [h2]; exact mask_lt hm hj) h5
  ·
   rw [maskArr_set _ _ _ hk, ← h6]
   exact planMT_ok ops u m3 (by rw [h6]; exact mask_lt hm hk) h7

section
variable {P : Program} {ops : Array Oper} {Q : Exit → Act → World → Prop} {S : World → Prop}
def PlannedT (P : Program) (ops : Array Oper) (Q : Exit → Act → World → Prop) (S : World → Prop) (p : RPlanT) (a : Act) (w : World) : Prop :=
 ∀ (l : Array Bool) (f : Nat), Region.noSelect ops = true → planOkT ops p l → p.depth ≤ f → wpAnyH P .any ops Q S f l a w

theorem rt_start {id : Nat} {a : Act} {w : World} (S : World → Prop) (p : RPlanT) (hm : P.follows .mixedOrders = true) (hS : S w.drew)
  (hsel : Region.noSelect ops = true) (hp : planMT ops p 0 = true) (hd : p.depth ≤ ops.size)
  (h : ∀ ops' Q', PLift (ops' = ops) → PLift (∀ a w, Q .normal a w → Q' .normal a w) → S w.drew → PlannedT P ops' (NoPanic Q') S p a w.drew) : (Code.region id ops true).wp P Q a w :=
 wp_region_noPanic (wp_region_held_drew hm hS fun hS => h ops Q ⟨rfl⟩ ⟨fun _ _ h => h⟩ hS _ _ hsel (by have := planMT_ok ops p 0 (Nat.pow_pos (by omega)) hp; rwa [maskArr_zero] at this) hd)

theorem rt_take {i m : Nat} {oi : Oper} {r : RPlanT} {a : Act} {w : World} (hi : ops[i]? = some oi) (hS : S w)
  (h : ∃ v : Value, YieldsIf P ops S oi v a ∧ PlannedT P ops (NoPanic Q) S r (a.put oi.dst v) w) : PlannedT P ops (NoPanic Q) S (.take i m r) a w := by
 obtain ⟨v, hy, h⟩ := h
 intro l f hsel hp hd
 simp only [planOkT] at hp
 cases f with
 | zero => simp [RPlanT.depth] at hd
 | succ f => exact wpAnyH_take hi hsel hp.1 hp.2.1 (fun _ _ _ h => h) hy hS (h _ _ hsel hp.2.2 (by simpa [RPlanT.depth] using hd))

theorem rt_call {i m : Nat} {oi : Oper} {r : RPlanT} {a : Act} {w : World} (hi : ops[i]? = some oi)
  (h : ∀ K' : Act → World → Prop, Shut (∀ a w, S w → (S w → PlannedT P ops (NoPanic Q) S r a w) → K' a w) → if Region.wanted oi (yielded ops a.tmps) = true then Oper.wp P oi a w K' (NoPanic Q) else K' (a.put oi.dst undef) w) :
  PlannedT P ops (NoPanic Q) S (.call i m r) a w := by
 intro l f hsel hp hd
 simp only [planOkT] at hp
 cases f with
 | zero => simp [RPlanT.depth] at hd
 | succ f => exact wpAnyH_ready hp.1 (by simp) (AllReadyH.cons hi (fun K' hK => h K' (fun a w hS hW => hK.out a w hS fun hS => hW hS _ _ hsel hp.2 (by simpa [RPlanT.depth] using hd))) AllReadyH.nil)

theorem rt_two {i j m m' : Nat} {oi oj : Oper} {r s : RPlanT} {a : Act} {w : World} (hi : ops[i]? = some oi) (hj : ops[j]? = some oj)
  (h : ∀ K' : Act → World → Prop, Shut (∀ a w, S w → (S w → PlannedT P ops (NoPanic Q) S r a w) → K' a w) → if Region.wanted oi (yielded ops a.tmps) = true then Oper.wp P oi a w K' (NoPanic Q) else K' (a.put oi.dst undef) w)
  (h' : ∀ K' : Act → World → Prop, Shut (∀ a w, S w → (S w → PlannedT P ops (NoPanic Q) S s a w) → K' a w) → if Region.wanted oj (yielded ops a.tmps) = true then Oper.wp P oj a w K' (NoPanic Q) else K' (a.put oj.dst undef) w) :
  PlannedT P ops (NoPanic Q) S (.two i m r j m' s) a w := by
 intro l f hsel hp hd
 simp only [planOkT] at hp
 cases f with
 | zero => simp [RPlanT.depth] at hd
 | succ f =>
  simp only [RPlanT.depth, Nat.add_le_add_iff_right, Nat.max_le] at hd
  exact wpAnyH_ready hp.1 (by simp) (AllReadyH.cons hi (fun K' hK => h K' (fun a w hS hW => hK.out a w hS fun hS => hW hS _ _ hsel hp.2.1 hd.1))
   (AllReadyH.cons hj (fun K' hK => h' K' (fun a w hS hW => hK.out a w hS fun hS => hW hS _ _ hsel hp.2.2 hd.2)) AllReadyH.nil))

theorem rt_three {i j k m m' m'' : Nat} {oi oj ok : Oper} {r s u : RPlanT} {a : Act} {w : World} (hi : ops[i]? = some oi) (hj : ops[j]? = some oj) (hk : ops[k]? = some ok)
  (h : ∀ K' : Act → World → Prop, Shut (∀ a w, S w → (S w → PlannedT P ops (NoPanic Q) S r a w) → K' a w) → if Region.wanted oi (yielded ops a.tmps) = true then Oper.wp P oi a w K' (NoPanic Q) else K' (a.put oi.dst undef) w)
  (h' : ∀ K' : Act → World → Prop, Shut (∀ a w, S w → (S w → PlannedT P ops (NoPanic Q) S s a w) → K' a w) → if Region.wanted oj (yielded ops a.tmps) = true then Oper.wp P oj a w K' (NoPanic Q) else K' (a.put oj.dst undef) w)
  (h'' : ∀ K' : Act → World → Prop, Shut (∀ a w, S w → (S w → PlannedT P ops (NoPanic Q) S u a w) → K' a w) → if Region.wanted ok (yielded ops a.tmps) = true then Oper.wp P ok a w K' (NoPanic Q) else K' (a.put ok.dst undef) w) :
  PlannedT P ops (NoPanic Q) S (.three i m r j m' s k m'' u) a w := by
 intro l f hsel hp hd
 simp only [planOkT] at hp
 cases f with
 | zero => simp [RPlanT.depth] at hd
 | succ f =>
  simp only [RPlanT.depth, Nat.add_le_add_iff_right, Nat.max_le] at hd
  exact wpAnyH_ready hp.1 (by simp) (AllReadyH.cons hi (fun K' hK => h K' (fun a w hS hW => hK.out a w hS fun hS => hW hS _ _ hsel hp.2.1 hd.1))
   (AllReadyH.cons hj (fun K' hK => h' K' (fun a w hS hW => hK.out a w hS fun hS => hW hS _ _ hsel hp.2.2.1 hd.2.1))
   (AllReadyH.cons hk (fun K' hK => h'' K' (fun a w hS hW => hK.out a w hS fun hS => hW hS _ _ hsel hp.2.2.2 hd.2.2)) AllReadyH.nil)))

theorem rt_done {a : Act} {w : World} (h : Q .normal a w) : PlannedT P ops (NoPanic Q) S .done a w := by
 intro l f _ hp _
 exact wpAnyH_done hp (NoPanic.normal h) f

theorem rt_yp {l : List Oper} {i m : Nat} {oi : Oper} {r : RPlanT} {a : Act} {w : World} {v : Value} (H : PLift (ops = l.toArray)) (hi : l[i]? = some oi) (hS : S w) (hg : oi.guard = none)
  (hy : ∀ wq, S wq → (execOp a.eval oi).run P wq = .ok (.value v) wq) (h : PlannedT P ops (NoPanic Q) S r (a.put oi.dst v) w) : PlannedT P ops (NoPanic Q) S (.take i m r) a w :=
 rt_take (get_of H hi) hS ⟨v, .inl ⟨wanted_plain hg, hy⟩, h⟩
end
section
variable {P : Program} {ops : Array Oper} {Q : Exit → Act → World → Prop}
theorem rt_pX {l : List Oper} {i m : Nat} {oi : Oper} {r : RPlanT} {a : Act} {w W : World} {row : Option Nat} {v : Value} (H : PLift (ops = l.toArray)) (hi : l[i]? = some oi) (hS : SinceX W row w) (hg : oi.guard = none)
  (hy : ∀ wq : World, (∀ b o, b < W.heap.size → some b ≠ row → wq.cell? ⟨b, o, none⟩ = W.cell? ⟨b, o, none⟩) → (execOp a.eval oi).run P wq = .ok (.value v) wq) (h : PlannedT P ops (NoPanic Q) (SinceX W row) r (a.put oi.dst v) w) : PlannedT P ops (NoPanic Q) (SinceX W row) (.take i m r) a w :=
 rt_yp H hi hS hg (fun wq hq => hy wq (xcell hq).1) h
end
end Go.Proofs.YtfondidmklmonaaGreat
