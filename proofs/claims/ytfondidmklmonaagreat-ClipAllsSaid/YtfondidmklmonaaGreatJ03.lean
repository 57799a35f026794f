/- num: size, check, Floor, Round. mapsheetsref01: size, parts, signed, Round. (printed by gen/rounda.py) mapsheetsref01: parts, signed, Round. Finding elements: plan.Node, mapsheetsref14.Node, slices.Clone (points), plan.Degree, mapsheetsref14.Degree. Finding arcs: plan.Arc, mapsheetsref14.Arc. -/
import Derived.Test.YtfondidmklmonaaGreatJ01
import Derived.Test.YtfondidmklmonaaGreatGB
set_option linter.unusedSimpArgs false
set_option linter.unusedVariables false
namespace Go.Proofs.YtfondidmklmonaaGreat
open Go.RowKit

theorem u64w (n : Int) : IntKind.u64.wrap n = n % 18446744073709551616 := by
 unfold IntKind.wrap
 simp [IntKind.signed, IntKind.bits]
/-- of absolute value at most 2^60 -/
def bd60 (n : Int) : Prop := -1152921504606846976 ≤ n ∧ n ≤ 1152921504606846976
theorem abs_wraps {n : Int} (h : bd60 n) (hn : n < 0) : IntKind.u64.wrap n = n + 18446744073709551616 ∧ n % 18446744073709551616 = n + 18446744073709551616 ∧ IntKind.u64.wrap (-(n + 18446744073709551616)) = -n ∧ (-(n + 18446744073709551616)) % 18446744073709551616 = -n := by
 unfold bd60 at h
 rw [u64w, u64w]
 omega
theorem pos_wraps {n : Int} (h : bd60 n) (hn : ¬ n < 0) : IntKind.u64.wrap n = n ∧ n % 18446744073709551616 = n := by
 unfold bd60 at h
 rw [u64w]
 omega
theorem absS_bd {n : Int} (h : bd60 n) : 0 ≤ absS n ∧ absS n ≤ 1152921504606846976 := by
 unfold bd60 at h
 unfold absS
 split <;> omega

set_option maxHeartbeats 1000000 in
theorem size_spec (n : Int) (w : World) (h : bd60 n) : Calls Tryz.prog 183 #[.int .i64 n] w fun e w' => e = .returned (.int .u64 (absS n)) ∧ w = w' := by
 unfold absS
 by_cases hn : n < 0
 ·
  obtain ⟨k1, k2, k3, k4⟩ := abs_wraps h hn
  rw [if_pos hn]
  clear h
  go_enter Tryz.func183, Tryz.ntmps183
  go_wp2_with fail
  go_ret
  exact ⟨by first | rfl | (congr 1; done) | (congr 2; omega), rfl⟩
 ·
  obtain ⟨k1, k2⟩ := pos_wraps h hn
  rw [if_neg hn]
  clear h
  go_enter Tryz.func183, Tryz.ntmps183
  go_wp2_with fail
  go_ret
  exact ⟨by first | rfl | (congr 1; done) | (congr 2; omega), rfl⟩

set_option maxHeartbeats 1000000 in
theorem rsize_spec (n : Int) (w : World) (h : bd60 n) : Calls Tryz.prog 161 #[.int .i64 n] w fun e w' => e = .returned (.int .u64 (absS n)) ∧ w = w' := by
 unfold absS
 by_cases hn : n < 0
 ·
  obtain ⟨k1, k2, k3, k4⟩ := abs_wraps h hn
  rw [if_pos hn]
  clear h
  go_enter Tryz.func161, Tryz.ntmps161
  go_wp2_with fail
  go_ret
  exact ⟨by first | rfl | (congr 1; done) | (congr 2; omega), rfl⟩
 ·
  obtain ⟨k1, k2⟩ := pos_wraps h hn
  rw [if_neg hn]
  clear h
  go_enter Tryz.func161, Tryz.ntmps161
  go_wp2_with fail
  go_ret
  exact ⟨by first | rfl | (congr 1; done) | (congr 2; omega), rfl⟩

set_option maxHeartbeats 1000000 in
theorem ncheck_spec (x y : Int) (w : World) (h : bd60 x) (hy : y ≠ 0) : Calls Tryz.prog 189 #[.int .i64 x, .int .i64 y] w fun e w' => e = .returned (.int .i64 0) ∧ w = w' := by
 have k1 : (y == 0) = false := by simpa using hy
 have k2 : (x == -9223372036854775808) = false := by rw [beq_eq_false_iff_ne]; unfold bd60 at h; omega
 clear h hy
 go_enter Tryz.func189, Tryz.ntmps189
 go_wp2_with fail
 go_ret
 exact ⟨rfl, rfl⟩

theorem tdiv_bd {a b : Int} (h : bd60 a) (hb : b ≠ 0) : bd60 (a.tdiv b) ∧ bd60 (a.tmod b) := by
 have h1 : (a.tdiv b).natAbs ≤ a.natAbs := by rw [Int.natAbs_tdiv]; exact Nat.div_le_self _ _
 have h2 : (a.tmod b).natAbs ≤ a.natAbs := by rw [Int.natAbs_tmod]; exact Nat.mod_le _ _
 unfold bd60 at *
 omega
set_option maxRecDepth 100000 in
set_option maxHeartbeats 1000000 in
theorem Floor_spec (x y : Int) (w : World) (h : bd60 x) (hy : y ≠ 0) : Calls Tryz.prog 182 #[.int .i64 x, .int .i64 y] w fun e w' => e = .returned (.tuple #[.int .i64 (floorS x y), .int .i64 0]) ∧ w = w' := by
 have HC := Lib.hid (fun w => ncheck_spec x y w h hy)
 have hbd := tdiv_bd h hy
 obtain ⟨⟨b1, b2⟩, b3, b4⟩ := hbd
 have k1 : IntKind.i64.wrap (x.tdiv y) = x.tdiv y := IntWalk.i64_in _ (by omega)
 have k2 : IntKind.i64.wrap (x.tmod y) = x.tmod y := IntWalk.i64_in _ (by omega)
 have k3 : ¬ y = 0 := hy
 have k4 : IntKind.i64.wrap (x.tdiv y - 1) = x.tdiv y - 1 := IntWalk.i64_in _ (by omega)
 obtain ⟨r, hr⟩ : ∃ r, floorS x y = r := ⟨_, rfl⟩
 rw [hr]
 unfold floorS at hr
 have Hr := Lib.hid hr
 clear hr hy h b1 b2 b3 b4
 by_cases h0 : x.tmod y = 0
 ·
  have e0 : (x.tmod y != 0) = false := by simp [h0]
  have hf := Hr.out
  rw [if_neg (fun e => e.1 h0)] at hf
  have HF := Lib.hid hf
  clear hf h0
  go_enter Tryz.func182, Tryz.ntmps182
  go_wp2_with fail
  refine (HC.out _).mono ?_
  rintro e w1 ⟨rfl, rfl⟩
  go_wp2_with fail
  go_ret2
  exact ⟨by rw [← HF.out]; rfl, rfl⟩
 ·
  have e0 : (x.tmod y != 0) = true := by simp [h0]
  by_cases h1 : decide (x.tmod y < 0) = decide (y < 0)
  ·
   have hf := Hr.out
   rw [if_neg (fun e => e.2 h1)] at hf
   have HF := Lib.hid hf
   have H1 := Lib.hid h1
   clear hf h0 h1
   have e1 : (decide (x.tmod y < 0) == decide (y < 0)) = true := by rw [H1.out]; simp
   go_enter Tryz.func182, Tryz.ntmps182
   go_wp2_with fail
   refine (HC.out _).mono ?_
   rintro e w1 ⟨rfl, rfl⟩
   go_wp2_with fail
   go_ret2
   exact ⟨by rw [← HF.out]; rfl, rfl⟩
  ·
   have hf := Hr.out
   rw [if_pos ⟨h0, h1⟩] at hf
   have HF := Lib.hid hf
   have e1 : (decide (x.tmod y < 0) == decide (y < 0)) = false := by simpa using h1
   clear hf h0 h1
   go_enter Tryz.func182, Tryz.ntmps182
   go_wp2_with fail
   refine (HC.out _).mono ?_
   rintro e w1 ⟨rfl, rfl⟩
   go_wp2_with fail
   go_ret2
   exact ⟨by rw [← HF.out]; rfl, rfl⟩

theorem floor_rest {a b : Int} (h : bd60 a) (hb : b ≠ 0) (hb' : bd60 b) : bd60 (a - floorS a b * b) ∧ absS (a - floorS a b * b) ≤ absS b ∧ -2305843009213693952 ≤ floorS a b * b ∧ floorS a b * b ≤ 2305843009213693952 ∧ -1152921504606846977 ≤ floorS a b ∧ floorS a b ≤ 1152921504606846976 := by
 obtain ⟨f1, f2⟩ := floorS_spec (a := a) hb
 have hq : -1152921504606846977 ≤ floorS a b ∧ floorS a b ≤ 1152921504606846976 := by
  have h1 := (tdiv_bd h hb).1
  unfold bd60 at h1
  unfold floorS
  split <;> omega
 unfold bd60 at *
 unfold absS
 generalize floorS a b = q at *
 generalize q * b = t at *
 rcases Int.lt_or_gt_of_ne hb with h1 | h1
 ·
  have := f2 h1
  refine ⟨by omega, ?_, by omega, by omega, hq.1, hq.2⟩
  rw [if_pos h1]
  split <;> omega
 ·
  have := f1 h1
  refine ⟨by omega, ?_, by omega, by omega, hq.1, hq.2⟩
  rw [if_neg (by omega)]
  split <;> omega

set_option maxRecDepth 100000 in
set_option maxHeartbeats 1000000 in
theorem Round_spec (x y : Int) (w : World) (h : bd60 x) (hy : y ≠ 0) (hy' : bd60 y) : Calls Tryz.prog 156 #[.int .i64 x, .int .i64 y] w fun e w' => e = .returned (.tuple #[.int .i64 (roundS x y), .int .i64 0]) ∧ w = w' := by
 have HFl := Lib.hid (fun w => Floor_spec x y w h hy)
 obtain ⟨r1, r2, r3, r4, r5, r6⟩ := floor_rest h hy hy'
 have HS1 := Lib.hid (fun w => size_spec _ w r1)
 have HS2 := Lib.hid (fun w => size_spec _ w hy')
 have a1 := absS_bd r1
 have a2 := absS_bd hy'
 have k1 : IntKind.i64.wrap (floorS x y * y) = floorS x y * y := IntWalk.i64_in _ (by omega)
 have k2 : IntKind.i64.wrap (x - floorS x y * y) = x - floorS x y * y := IntWalk.i64_in _ (by unfold bd60 at r1; omega)
 have k3 : IntKind.i64.wrap (floorS x y + 1) = floorS x y + 1 := IntWalk.i64_in _ (by omega)
 obtain ⟨r, hr⟩ : ∃ r, roundS x y = r := ⟨_, rfl⟩
 rw [hr]
 unfold roundS at hr
 have Hr := Lib.hid hr
 clear hr r1 r3 r4 r5 r6 h hy hy'
 generalize floorS x y = q at *
 generalize absS (x - q * y) = u at *
 generalize absS y = v at *
 have k4 : IntKind.u64.wrap (v - u) = v - u := by rw [u64w]; omega
 have k5 : (v - u) % 18446744073709551616 = v - u := by omega
 by_cases hc : v - u ≤ u
 ·
  have hf := Hr.out
  rw [if_pos hc] at hf
  have HF := Lib.hid hf
  clear hf a1 a2 r2
  go_enter Tryz.func156, Tryz.ntmps156
  go_wp2_with fail
  refine (HFl.out _).mono ?_
  rintro e w1 ⟨rfl, rfl⟩
  go_wp2_with fail
  refine (HS1.out _).mono ?_
  rintro e w1 ⟨rfl, rfl⟩
  go_wp2_with fail
  refine (HS2.out _).mono ?_
  rintro e w1 ⟨rfl, rfl⟩
  go_wp2_with fail
  go_ret2
  exact ⟨by rw [← HF.out]; rfl, rfl⟩
 ·
  have hf := Hr.out
  rw [if_neg hc] at hf
  have HF := Lib.hid hf
  clear hf a1 a2 r2
  go_enter Tryz.func156, Tryz.ntmps156
  go_wp2_with fail
  refine (HFl.out _).mono ?_
  rintro e w1 ⟨rfl, rfl⟩
  go_wp2_with fail
  refine (HS1.out _).mono ?_
  rintro e w1 ⟨rfl, rfl⟩
  go_wp2_with fail
  refine (HS2.out _).mono ?_
  rintro e w1 ⟨rfl, rfl⟩
  go_wp2_with fail
  go_ret2
  exact ⟨by rw [← HF.out]; rfl, rfl⟩
end Go.Proofs.YtfondidmklmonaaGreat
namespace Go.Proofs.YtfondidmklmonaaGreat
open Go.RowKit

theorem results_tmp3' {fn : Func} {t u v : Tmp} (h : fn.results = #[.tmp t, .tmp u, .tmp v]) (tmps : Array Value) (P : Program) (w : World) : (results fn tmps).run P w = .ok (.tuple #[tmps.getD t undef, tmps.getD u undef, tmps.getD v undef]) w := by
 simp [results, h]
theorem rsize_spec' (n : Int) (w : World) (h : bd60 n) : Calls Tryz.prog 161 #[.int .i64 n] w fun e w' => e = .returned (.int .u64 (absS n)) ∧ Below w.heap.size w w' :=
 (rsize_spec n w h).mono fun e w' h => ⟨h.1, by rw [← h.2]; exact bR w⟩
theorem quo_bd {a b : Int} (ha : 0 ≤ a ∧ a ≤ 1152921504606846976) (hb : 0 < b) : 0 ≤ a / b ∧ a / b ≤ a ∧ 0 ≤ a % b ∧ a % b < b :=
 ⟨Int.ediv_nonneg ha.1 (Int.le_of_lt hb), Int.ediv_le_self _ ha.1, Int.emod_nonneg _ (by omega), Int.emod_lt_of_pos _ hb⟩

set_option maxRecDepth 100000 in
set_option maxHeartbeats 2000000 in
theorem parts_spec (x y : Int) (w : World) (h : bd60 x) (hy : y ≠ 0) (hy' : bd60 y) : Calls Tryz.prog 163 #[.int .i64 x, .int .i64 y] w fun e w' => e = .returned (.tuple #[.int .u64 (absS x / absS y), .int .u64 (absS x % absS y), .bool (minusS x y)]) ∧ Below w.heap.size w w' := by
 have HX := Lib.hid (fun w => rsize_spec' x w h)
 have HY := Lib.hid (fun w => rsize_spec' y w hy')
 have a1 := absS_bd h
 have a2 := absS_bd hy'
 have hpos : 0 < absS y := by unfold absS; split <;> omega
 obtain ⟨d1, d2, d3, d4⟩ := quo_bd a1 hpos
 have e1 : (absS x).tdiv (absS y) = absS x / absS y := Int.tdiv_eq_ediv_of_nonneg a1.1
 have e2 : (absS x).tmod (absS y) = absS x % absS y := Int.tmod_eq_emod_of_nonneg a1.1
 obtain ⟨m, hm⟩ : ∃ m, minusS x y = m := ⟨_, rfl⟩
 rw [hm]
 unfold minusS at hm
 have Hm := Lib.hid hm
 clear hm
 generalize absS x = u at *
 generalize absS y = v at *
 rw [← e1] at d1 d2
 rw [← e2] at d3 d4
 rw [← e1, ← e2]
 have k1 : IntKind.u64.wrap (u.tdiv v) = u.tdiv v := by rw [u64w]; omega
 have k2 : IntKind.u64.wrap (u.tmod v) = u.tmod v := by rw [u64w]; omega
 have k3 : ¬ v = 0 := by omega
 clear e1 e2 a1 a2 d1 d2 d3 d4 hpos h hy hy'
 by_cases h1 : x < 0
 ·
  go_enter Tryz.func163, Tryz.ntmps163
  go_upto_region 1 with fail
  by_cases h2 : 0 < y
  ·
   have HF := Lib.hid (show m = true by rw [← Hm.out, decide_eq_true h1, decide_eq_true h2]; rfl)
   refine rg_start (Since w) (.take 0 1 (.take 2 5 (.take 5 37 (.take 7 165 (.take 10 1189 (.take 11 3237 (.call 1 3239 (.call 3 3247 (.take 4 3263 (.call 6 3327 (.call 8 3583 (.take 9 4095 (.run 15 12 4095 (.done)))))))))))))) (by kernel_rfl) (bD (bR _)) (by kernel_rfl) (by kernel_rfl) (Nat.le_of_ble_eq_true (by kernel_rfl)) ?_
   intro opsR QR Hops HQrg hS
   iterate 6
    apply rg_p; exact Hops; exact rfl; exact hS; exact rfl
    · intro _ hqc; go_simp; try rfl
    try simp only [pu]
   refine rg_call (i := 1) (get_of Hops rfl) (fun K hK => ?_)
   have HSrg := Lib.hid hS; clear hS
   refine rg_run (wanted_plain rfl) ?_
   go_simp
   refine (HX.out _).mono ?_
   rintro e wr1 ⟨rfl, hbr1⟩
   have hS : Since w wr1 := bT (w := w) HSrg.out hbr1
   clear HSrg
   refine hK.out _ _ hS (fun _ => ?_)
   clear hK K
   try simp only [pu]
   refine rg_call (i := 3) (get_of Hops rfl) (fun K hK => ?_)
   have HSrg := Lib.hid hS; clear hS
   refine rg_run (wanted_plain rfl) ?_
   go_simp
   refine (HY.out _).mono ?_
   rintro e wr2 ⟨rfl, hbr2⟩
   have hS : Since w wr2 := bT (w := w) HSrg.out hbr2
   clear HSrg
   refine hK.out _ _ hS (fun _ => ?_)
   clear hK K
   try simp only [pu]
   apply rg_p; exact Hops; exact rfl; exact hS; exact rfl
   · intro _ hqc; go_simp; try rfl
   try simp only [pu]
   refine rg_call (i := 6) (get_of Hops rfl) (fun K hK => ?_)
   have HSrg := Lib.hid hS; clear hS
   refine rg_run (wanted_plain rfl) ?_
   go_simp
   refine (HX.out _).mono ?_
   rintro e wr3 ⟨rfl, hbr3⟩
   have hS : Since w wr3 := bT (w := w) HSrg.out hbr3
   clear HSrg
   refine hK.out _ _ hS (fun _ => ?_)
   clear hK K
   try simp only [pu]
   refine rg_call (i := 8) (get_of Hops rfl) (fun K hK => ?_)
   have HSrg := Lib.hid hS; clear hS
   refine rg_run (wanted_plain rfl) ?_
   go_simp
   refine (HY.out _).mono ?_
   rintro e wr4 ⟨rfl, hbr4⟩
   have hS : Since w wr4 := bT (w := w) HSrg.out hbr4
   clear HSrg
   refine hK.out _ _ hS (fun _ => ?_)
   clear hK K
   try simp only [pu]
   iterate 2
    apply rg_p; exact Hops; exact rfl; exact hS; exact rfl
    · intro _ hqc; go_simp; try rfl
    try simp only [pu]
   iterate 2
    apply rg_g; exact Hops; exact rfl; exact hS; iterate 4 exact rfl
    · intro _ hqc; go_simp; try rfl
    try simp only [pu]
   iterate 2
    apply rg_p; exact Hops; exact rfl; exact hS; exact rfl
    · intro _ hqc; go_simp; try rfl
    try simp only [pu]
   iterate 6
    refine rg_yn Hops rfl hS rfl rfl rfl rfl rfl ?_
    try simp only [pu]
   iterate 4
    apply rg_p; exact Hops; exact rfl; exact hS; exact rfl
    · intro _ hqc; go_simp; try rfl
    try simp only [pu]
   refine rg_done ?_
   refine HQrg.down _ _ ?_
   have hB : Below w.heap.size w wr4 := hS
   clear hS HQrg Hops
   go_wp2_with fail
   exact bodyPost_ret (results_tmp3' rfl _ _ _) rfl ⟨by rw [HF.out]; rfl, hB⟩
  ·
   have h3 : ¬ 0 < x := by omega
   have HF := Lib.hid (show m = false by rw [← Hm.out, decide_eq_false h2, decide_eq_false h3, Bool.and_false]; rfl)
   refine rg_start (Since w) (.take 0 1 (.take 2 5 (.take 5 37 (.take 7 165 (.take 10 1189 (.take 11 3237 (.call 1 3239 (.call 3 3247 (.take 4 3263 (.call 6 3327 (.call 8 3583 (.take 9 4095 (.run 15 12 4095 (.done)))))))))))))) (by kernel_rfl) (bD (bR _)) (by kernel_rfl) (by kernel_rfl) (Nat.le_of_ble_eq_true (by kernel_rfl)) ?_
   intro opsR QR Hops HQrg hS
   iterate 6
    apply rg_p; exact Hops; exact rfl; exact hS; exact rfl
    · intro _ hqc; go_simp; try rfl
    try simp only [pu]
   refine rg_call (i := 1) (get_of Hops rfl) (fun K hK => ?_)
   have HSrg := Lib.hid hS; clear hS
   refine rg_run (wanted_plain rfl) ?_
   go_simp
   refine (HX.out _).mono ?_
   rintro e wr1 ⟨rfl, hbr1⟩
   have hS : Since w wr1 := bT (w := w) HSrg.out hbr1
   clear HSrg
   refine hK.out _ _ hS (fun _ => ?_)
   clear hK K
   try simp only [pu]
   refine rg_call (i := 3) (get_of Hops rfl) (fun K hK => ?_)
   have HSrg := Lib.hid hS; clear hS
   refine rg_run (wanted_plain rfl) ?_
   go_simp
   refine (HY.out _).mono ?_
   rintro e wr2 ⟨rfl, hbr2⟩
   have hS : Since w wr2 := bT (w := w) HSrg.out hbr2
   clear HSrg
   refine hK.out _ _ hS (fun _ => ?_)
   clear hK K
   try simp only [pu]
   apply rg_p; exact Hops; exact rfl; exact hS; exact rfl
   · intro _ hqc; go_simp; try rfl
   try simp only [pu]
   refine rg_call (i := 6) (get_of Hops rfl) (fun K hK => ?_)
   have HSrg := Lib.hid hS; clear hS
   refine rg_run (wanted_plain rfl) ?_
   go_simp
   refine (HX.out _).mono ?_
   rintro e wr3 ⟨rfl, hbr3⟩
   have hS : Since w wr3 := bT (w := w) HSrg.out hbr3
   clear HSrg
   refine hK.out _ _ hS (fun _ => ?_)
   clear hK K
   try simp only [pu]
   refine rg_call (i := 8) (get_of Hops rfl) (fun K hK => ?_)
   have HSrg := Lib.hid hS; clear hS
   refine rg_run (wanted_plain rfl) ?_
   go_simp
   refine (HY.out _).mono ?_
   rintro e wr4 ⟨rfl, hbr4⟩
   have hS : Since w wr4 := bT (w := w) HSrg.out hbr4
   clear HSrg
   refine hK.out _ _ hS (fun _ => ?_)
   clear hK K
   try simp only [pu]
   iterate 2
    apply rg_p; exact Hops; exact rfl; exact hS; exact rfl
    · intro _ hqc; go_simp; try rfl
    try simp only [pu]
   iterate 2
    apply rg_g; exact Hops; exact rfl; exact hS; iterate 4 exact rfl
    · intro _ hqc; go_simp; try rfl
    try simp only [pu]
   iterate 2
    apply rg_p; exact Hops; exact rfl; exact hS; exact rfl
    · intro _ hqc; go_simp; try rfl
    try simp only [pu]
   iterate 3
    apply rg_g; exact Hops; exact rfl; exact hS; iterate 4 exact rfl
    · intro _ hqc; go_simp; try rfl
    try simp only [pu]
   iterate 2
    refine rg_yn Hops rfl hS rfl rfl rfl rfl rfl ?_
    try simp only [pu]
   apply rg_g; exact Hops; exact rfl; exact hS; iterate 4 exact rfl
   · intro _ hqc; go_simp; try rfl
   try simp only [pu]
   iterate 4
    apply rg_p; exact Hops; exact rfl; exact hS; exact rfl
    · intro _ hqc; go_simp; try rfl
    try simp only [pu]
   refine rg_done ?_
   refine HQrg.down _ _ ?_
   have hB : Below w.heap.size w wr4 := hS
   clear hS HQrg Hops
   go_wp2_with fail
   exact bodyPost_ret (results_tmp3' rfl _ _ _) rfl ⟨by rw [HF.out]; rfl, hB⟩
 ·
  go_enter Tryz.func163, Tryz.ntmps163
  go_upto_region 1 with fail
  by_cases h2 : 0 < x
  ·
   have HF := Lib.hid (show m = decide (y < 0) by rw [← Hm.out, decide_eq_false h1, decide_eq_true h2]; rfl)
   refine rg_start (Since w) (.take 0 1 (.take 2 5 (.take 5 37 (.take 7 165 (.take 10 1189 (.take 11 3237 (.call 1 3239 (.call 3 3247 (.take 4 3263 (.call 6 3327 (.call 8 3583 (.take 9 4095 (.run 15 12 4095 (.done)))))))))))))) (by kernel_rfl) (bD (bR _)) (by kernel_rfl) (by kernel_rfl) (Nat.le_of_ble_eq_true (by kernel_rfl)) ?_
   intro opsR QR Hops HQrg hS
   iterate 6
    apply rg_p; exact Hops; exact rfl; exact hS; exact rfl
    · intro _ hqc; go_simp; try rfl
    try simp only [pu]
   refine rg_call (i := 1) (get_of Hops rfl) (fun K hK => ?_)
   have HSrg := Lib.hid hS; clear hS
   refine rg_run (wanted_plain rfl) ?_
   go_simp
   refine (HX.out _).mono ?_
   rintro e wr1 ⟨rfl, hbr1⟩
   have hS : Since w wr1 := bT (w := w) HSrg.out hbr1
   clear HSrg
   refine hK.out _ _ hS (fun _ => ?_)
   clear hK K
   try simp only [pu]
   refine rg_call (i := 3) (get_of Hops rfl) (fun K hK => ?_)
   have HSrg := Lib.hid hS; clear hS
   refine rg_run (wanted_plain rfl) ?_
   go_simp
   refine (HY.out _).mono ?_
   rintro e wr2 ⟨rfl, hbr2⟩
   have hS : Since w wr2 := bT (w := w) HSrg.out hbr2
   clear HSrg
   refine hK.out _ _ hS (fun _ => ?_)
   clear hK K
   try simp only [pu]
   apply rg_p; exact Hops; exact rfl; exact hS; exact rfl
   · intro _ hqc; go_simp; try rfl
   try simp only [pu]
   refine rg_call (i := 6) (get_of Hops rfl) (fun K hK => ?_)
   have HSrg := Lib.hid hS; clear hS
   refine rg_run (wanted_plain rfl) ?_
   go_simp
   refine (HX.out _).mono ?_
   rintro e wr3 ⟨rfl, hbr3⟩
   have hS : Since w wr3 := bT (w := w) HSrg.out hbr3
   clear HSrg
   refine hK.out _ _ hS (fun _ => ?_)
   clear hK K
   try simp only [pu]
   refine rg_call (i := 8) (get_of Hops rfl) (fun K hK => ?_)
   have HSrg := Lib.hid hS; clear hS
   refine rg_run (wanted_plain rfl) ?_
   go_simp
   refine (HY.out _).mono ?_
   rintro e wr4 ⟨rfl, hbr4⟩
   have hS : Since w wr4 := bT (w := w) HSrg.out hbr4
   clear HSrg
   refine hK.out _ _ hS (fun _ => ?_)
   clear hK K
   try simp only [pu]
   iterate 2
    apply rg_p; exact Hops; exact rfl; exact hS; exact rfl
    · intro _ hqc; go_simp; try rfl
    try simp only [pu]
   iterate 2
    refine rg_yn Hops rfl hS rfl rfl rfl rfl rfl ?_
    try simp only [pu]
   iterate 2
    apply rg_p; exact Hops; exact rfl; exact hS; exact rfl
    · intro _ hqc; go_simp; try rfl
    try simp only [pu]
   iterate 6
    apply rg_g; exact Hops; exact rfl; exact hS; iterate 4 exact rfl
    · intro _ hqc; go_simp; try rfl
    try simp only [pu]
   iterate 4
    apply rg_p; exact Hops; exact rfl; exact hS; exact rfl
    · intro _ hqc; go_simp; try rfl
    try simp only [pu]
   refine rg_done ?_
   refine HQrg.down _ _ ?_
   have hB : Below w.heap.size w wr4 := hS
   clear hS HQrg Hops
   go_wp2_with fail
   exact bodyPost_ret (results_tmp3' rfl _ _ _) rfl ⟨by rw [HF.out]; rfl, hB⟩
  ·
   have HF := Lib.hid (show m = false by rw [← Hm.out, decide_eq_false h1, decide_eq_false h2]; rfl)
   refine rg_start (Since w) (.take 0 1 (.take 2 5 (.take 5 37 (.take 7 165 (.take 10 1189 (.take 11 3237 (.call 1 3239 (.call 3 3247 (.take 4 3263 (.call 6 3327 (.call 8 3583 (.take 9 4095 (.run 15 12 4095 (.done)))))))))))))) (by kernel_rfl) (bD (bR _)) (by kernel_rfl) (by kernel_rfl) (Nat.le_of_ble_eq_true (by kernel_rfl)) ?_
   intro opsR QR Hops HQrg hS
   iterate 6
    apply rg_p; exact Hops; exact rfl; exact hS; exact rfl
    · intro _ hqc; go_simp; try rfl
    try simp only [pu]
   refine rg_call (i := 1) (get_of Hops rfl) (fun K hK => ?_)
   have HSrg := Lib.hid hS; clear hS
   refine rg_run (wanted_plain rfl) ?_
   go_simp
   refine (HX.out _).mono ?_
   rintro e wr1 ⟨rfl, hbr1⟩
   have hS : Since w wr1 := bT (w := w) HSrg.out hbr1
   clear HSrg
   refine hK.out _ _ hS (fun _ => ?_)
   clear hK K
   try simp only [pu]
   refine rg_call (i := 3) (get_of Hops rfl) (fun K hK => ?_)
   have HSrg := Lib.hid hS; clear hS
   refine rg_run (wanted_plain rfl) ?_
   go_simp
   refine (HY.out _).mono ?_
   rintro e wr2 ⟨rfl, hbr2⟩
   have hS : Since w wr2 := bT (w := w) HSrg.out hbr2
   clear HSrg
   refine hK.out _ _ hS (fun _ => ?_)
   clear hK K
   try simp only [pu]
   apply rg_p; exact Hops; exact rfl; exact hS; exact rfl
   · intro _ hqc; go_simp; try rfl
   try simp only [pu]
   refine rg_call (i := 6) (get_of Hops rfl) (fun K hK => ?_)
   have HSrg := Lib.hid hS; clear hS
   refine rg_run (wanted_plain rfl) ?_
   go_simp
   refine (HX.out _).mono ?_
   rintro e wr3 ⟨rfl, hbr3⟩
   have hS : Since w wr3 := bT (w := w) HSrg.out hbr3
   clear HSrg
   refine hK.out _ _ hS (fun _ => ?_)
   clear hK K
   try simp only [pu]
   refine rg_call (i := 8) (get_of Hops rfl) (fun K hK => ?_)
   have HSrg := Lib.hid hS; clear hS
   refine rg_run (wanted_plain rfl) ?_
   go_simp
   refine (HY.out _).mono ?_
   rintro e wr4 ⟨rfl, hbr4⟩
   have hS : Since w wr4 := bT (w := w) HSrg.out hbr4
   clear HSrg
   refine hK.out _ _ hS (fun _ => ?_)
   clear hK K
   try simp only [pu]
   iterate 2
    apply rg_p; exact Hops; exact rfl; exact hS; exact rfl
    · intro _ hqc; go_simp; try rfl
    try simp only [pu]
   iterate 2
    refine rg_yn Hops rfl hS rfl rfl rfl rfl rfl ?_
    try simp only [pu]
   iterate 2
    apply rg_p; exact Hops; exact rfl; exact hS; exact rfl
    · intro _ hqc; go_simp; try rfl
    try simp only [pu]
   iterate 3
    apply rg_g; exact Hops; exact rfl; exact hS; iterate 4 exact rfl
    · intro _ hqc; go_simp; try rfl
    try simp only [pu]
   iterate 2
    refine rg_yn Hops rfl hS rfl rfl rfl rfl rfl ?_
    try simp only [pu]
   apply rg_g; exact Hops; exact rfl; exact hS; iterate 4 exact rfl
   · intro _ hqc; go_simp; try rfl
   try simp only [pu]
   iterate 4
    apply rg_p; exact Hops; exact rfl; exact hS; exact rfl
    · intro _ hqc; go_simp; try rfl
    try simp only [pu]
   refine rg_done ?_
   refine HQrg.down _ _ ?_
   have hB : Below w.heap.size w wr4 := hS
   clear hS HQrg Hops
   go_wp2_with fail
   exact bodyPost_ret (results_tmp3' rfl _ _ _) rfl ⟨by rw [HF.out]; rfl, hB⟩

theorem i64_of {n : Int} (h : 0 ≤ n ∧ n ≤ 2305843009213693952) : IntKind.i64.wrap n = n := IntWalk.i64_in _ (by omega)
theorem i64_neg {n : Int} (h : 0 < n ∧ n ≤ 2305843009213693952) : IntKind.i64.wrap (-n + 18446744073709551616) = -n := by
 unfold IntKind.wrap
 simp [IntKind.signed, IntKind.bits]
 omega
set_option maxHeartbeats 1000000 in
theorem signed_spec (m : Bool) (n : Int) (w : World) (h : 0 ≤ n ∧ n ≤ 2305843009213693952) : Calls Tryz.prog 162 #[.bool m, .int .u64 n] w fun e w' => e = .returned (.tuple #[.int .i64 (if m then -n else n), .int .i64 0]) ∧ w = w' := by
 have k0 : ¬ 9223372036854775808 < n := by omega
 have k1 : (n == 9223372036854775808) = false := by rw [beq_eq_false_iff_ne]; omega
 have k2 := i64_of h
 cases m
 ·
  clear h
  go_enter Tryz.func162, Tryz.ntmps162
  go_wp2_with fail
  go_ret2
  exact ⟨rfl, rfl⟩
 ·
  by_cases h0 : n = 0
  ·
   subst h0
   clear h k0 k1 k2
   go_enter Tryz.func162, Tryz.ntmps162
   go_wp2_with fail
   go_ret2
   exact ⟨rfl, rfl⟩
  ·
   have k3 : IntKind.u64.wrap (-n) = -n + 18446744073709551616 := by rw [u64w]; omega
   have k4 : (-n) % 18446744073709551616 = -n + 18446744073709551616 := by omega
   have k5 := i64_neg (n := n) (by omega)
   clear h h0 k2
   go_enter Tryz.func162, Tryz.ntmps162
   go_wp2_with fail
   go_ret2
   exact ⟨rfl, rfl⟩

set_option maxRecDepth 100000 in
set_option maxHeartbeats 2000000 in
theorem rRound_spec (x y : Int) (w : World) (h : bd60 x) (hy : y ≠ 0) (hy' : bd60 y) : Calls Tryz.prog 164 #[.int .i64 x, .int .i64 y] w fun e w' => e = .returned (.tuple #[.int .i64 (roundS x y), .int .i64 0]) ∧ Below w.heap.size w w' := by
 rw [round_eq hy]
 unfold rroundS
 have HP := Lib.hid (fun w => parts_spec x y w h hy hy')
 have HY := Lib.hid (fun w => rsize_spec y w hy')
 have HSg := Lib.hid (fun (m : Bool) (n : Int) (w : World) h => signed_spec m n w h)
 have a1 := absS_bd h
 have a2 := absS_bd hy'
 have hpos : 0 < absS y := by unfold absS; split <;> omega
 obtain ⟨d1, d2, d3, d4⟩ := quo_bd a1 hpos
 have k0 : (y == 0) = false := by simpa using hy
 simp only
 generalize absS x / absS y = q at *
 generalize absS x % absS y = r at *
 generalize absS y = v at *
 generalize minusS x y = m at *
 have k1 : IntKind.u64.wrap (v - r) = v - r := by rw [u64w]; omega
 have k2 : (v - r) % 18446744073709551616 = v - r := by omega
 have k3 : IntKind.u64.wrap (q + 1) = q + 1 := by rw [u64w]; omega
 have k4 : (q + 1) % 18446744073709551616 = q + 1 := by omega
 have hq0 := Lib.hid (show 0 ≤ q ∧ q ≤ 2305843009213693952 by omega)
 have hq1 := Lib.hid (show 0 ≤ q + 1 ∧ q + 1 ≤ 2305843009213693952 by omega)
 generalize absS x = u at *
 clear a1 a2 hpos d1 d2 d3 d4 h hy hy'
 by_cases hc : v - r < r ∨ (r = v - r ∧ m = false)
 ·
  rw [if_pos hc]
  have hc' : (v - r < r) ∨ (¬ v - r < r ∧ (r == v - r) = true ∧ m = false) := by
   rcases hc with h | ⟨h1, h2⟩
   · exact .inl h
   ·
    by_cases h3 : v - r < r
    · exact .inl h3
    · exact .inr ⟨h3, by rw [beq_iff_eq]; exact h1, h2⟩
  clear hc
  rcases hc' with h1 | ⟨h1, h2, rfl⟩
  all_goals
   go_enter Tryz.func164, Tryz.ntmps164
   go_wp2_with fail
   refine (HP.out _).mono ?_
   rintro e w1 ⟨rfl, hb1⟩
   go_wp2_with fail
   refine (HY.out _).mono ?_
   rintro e w2 ⟨rfl, rfl⟩
   go_wp2_with fail
   refine (HSg.out _ _ _ hq1.out).mono ?_
   rintro e w3 ⟨rfl, rfl⟩
   go_wp2_with fail
   all_goals
    go_ret2
    exact ⟨rfl, hb1⟩
 ·
  rw [if_neg hc]
  have h1 : ¬ v - r < r := fun e => hc (.inl e)
  have hc' : (r == v - r) = false ∨ ((r == v - r) = true ∧ m = true) := by
   by_cases h2 : r = v - r
   ·
    right
    refine ⟨by rw [beq_iff_eq]; exact h2, ?_⟩
    cases m
    · exact absurd (.inr ⟨h2, rfl⟩) hc
    · rfl
   · left; rw [beq_eq_false_iff_ne]; exact h2
  clear hc
  rcases hc' with h2 | ⟨h2, rfl⟩
  all_goals
   go_enter Tryz.func164, Tryz.ntmps164
   go_wp2_with fail
   refine (HP.out _).mono ?_
   rintro e w1 ⟨rfl, hb1⟩
   go_wp2_with fail
   refine (HY.out _).mono ?_
   rintro e w2 ⟨rfl, rfl⟩
   go_wp2_with fail
   refine (HSg.out _ _ _ hq0.out).mono ?_
   rintro e w3 ⟨rfl, rfl⟩
   go_wp2_with fail
   all_goals
    go_ret2
    exact ⟨rfl, hb1⟩
end Go.Proofs.YtfondidmklmonaaGreat
namespace Go.Proofs.YtfondidmklmonaaGreat
open Go.RowKit

def findNd (l : List Nd) (id : Int) : Option Nd := l.find? (fun n => n.id == id)
def nd0 : Nd := ⟨0, ⟨0, 0⟩⟩
def ndRes (r : Option Nd) : Value := .tuple #[ndV (r.getD nd0), .bool r.isSome]

theorem PlV.nodes {w : World} {vn va vf : Value} {p : Pl} (h : PlV w (.agg #[vn, va, vf]) p) : Nds w vn p.nodes := by
 obtain ⟨_, _, _, _, e, _, h1, _, _⟩ := h
 simp only [Value.agg.injEq, Array.mk.injEq, List.cons.injEq, and_true] at e
 obtain ⟨rfl, rfl, rfl⟩ := e
 exact h1

set_option maxHeartbeats 400000 in
theorem Node_spec (v : Value) (p : Pl) (id : Int) (w : World) (h : PlV w v p) :
  Calls Tryz.prog 91 #[v, .int .i64 id] w fun e w' => e = .returned (ndRes (findNd p.nodes id)) ∧ Below w.heap.size w w' := by
 obtain ⟨_, va, vf, al, rfl, hpa, ⟨An, cn, rfl, hn1, hn2, hR⟩, -, -⟩ := h
 unfold maxLen at hn2
 generalize p.nodes = l at *
 clear hpa
 go_enter Tryz.func91, Tryz.ntmps91
 go_wp2_with fail
 go_loopw [11] (fun i wr => ∃ k : Nat, k ≤ l.length ∧ i = .int .i64 k ∧ Below w.heap.size w wr ∧ Blk wr (w.heap.size + 1) 59 #[.int .i64 0, .int .i64 0, .int .i64 0] ∧ ∀ j (hj : j < l.length), j < k → (l[j].id == id) = false) (fun i _ => l.length - (intOf i).toNat)
 case atStart => exact ⟨0, Nat.zero_le _, rfl, bA (bA (bR w) _) _, Blk.made (by simp) _ _, fun j _ h => by omega⟩
 case round =>
  obtain ⟨k, hk, rfl, hb, X4, hno⟩ := hrel
  have Hb := Lib.hid hb
  have Hno := Lib.hid hno
  clear hb hno
  obtain ⟨X4l, X4a, X4b, X4c, X4fa, X4fb, X4fc⟩ := X4.facts3
  by_cases hlt : k < l.length
  ·
   obtain ⟨b, o, rfl, hlb, c0, c1, c2⟩ := (hR.mono Hb.out).nd hlt
   have HR := Lib.hid hR; clear hR
   cases he : (l[k].id == id)
   ·
    go_wp2
    go_roundw
    case rel => exact ⟨k + 1, by omega, by go_num, bA Hb.out _, X4.alloc _, all_succ (p := fun x => (x.id == id) = false) Hno.out hlt he⟩
    case measure => simp [intOf]; omega
   ·
    have hf := find_hit l (fun n => n.id == id) k hlt Hno.out he
    have Hf := Lib.hid hf; clear hf
    go_wp2
    have Bw := Hb.out
    refine res_cell_tmp (g := w.heap.size + 1) (cs := #[.int .i64 l[k].id, .int .i64 l[k].pt.x, .int .i64 l[k].pt.y]) rfl struct_nd rfl rfl (Blk.put3 X4 |>.alloc _) ⟨by rw [findNd, Hf.out]; rfl, ?_⟩
    repeat (first | with_reducible exact bR _ | with_reducible assumption | with_reducible refine bA ?_ _ | with_reducible refine bD ?_ | with_reducible refine bN ?_ _ | ((with_reducible refine bS ?_ ?_ _); rotate_left; (simp; try omega)) | ((with_reducible refine bT ?_ ?_); rotate_left; with_reducible assumption) | with_reducible refine bT ?_ (by assumption))
  ·
   have hf := find_miss l (fun n => n.id == id) (fun j hj => Hno.out j hj (by omega))
   have Hf := Lib.hid hf; clear hf
   go_wp2
   have Bw := Hb.out
   refine res_cell_tmp (g := w.heap.size + 1) (cs := #[.int .i64 0, .int .i64 0, .int .i64 0]) rfl struct_nd rfl rfl (Blk.put3 X4) ⟨by rw [findNd, Hf.out]; rfl, ?_⟩
   repeat (first | with_reducible exact bR _ | with_reducible assumption | with_reducible refine bA ?_ _ | with_reducible refine bD ?_ | with_reducible refine bN ?_ _ | ((with_reducible refine bS ?_ ?_ _); rotate_left; (simp; try omega)) | ((with_reducible refine bT ?_ ?_); rotate_left; with_reducible assumption) | with_reducible refine bT ?_ (by assumption))

set_option maxHeartbeats 400000 in
theorem RNode_spec (v : Value) (p : Pl) (id : Int) (w : World) (h : PlV w v p) :
  Calls Tryz.prog 73 #[v, .int .i64 id] w fun e w' => e = .returned (ndRes (findNd p.nodes id)) ∧ Below w.heap.size w w' := by
 obtain ⟨_, va, vf, al, rfl, hpa, ⟨An, cn, rfl, hn1, hn2, hR⟩, -, -⟩ := h
 unfold maxLen at hn2
 generalize p.nodes = l at *
 clear hpa
 go_enter Tryz.func73, Tryz.ntmps73
 go_wp2_with fail
 go_loopw [6] (fun i wr => ∃ k : Nat, k ≤ l.length ∧ i = .int .i64 k ∧ Below w.heap.size w wr ∧ Blk wr w.heap.size 26 #[.slice An l.length cn, va, vf] ∧ Blk wr (w.heap.size + 1) 59 #[.int .i64 0, .int .i64 0, .int .i64 0] ∧ ∀ j (hj : j < l.length), j < k → (l[j].id == id) = false) (fun i _ => l.length - (intOf i).toNat)
 case atStart => exact ⟨0, Nat.zero_le _, rfl, bA (bA (bR w) _) _, (Blk.made rfl _ _).alloc _, Blk.made (by simp) _ _, fun j _ h => by omega⟩
 case round =>
  obtain ⟨k, hk, rfl, hb, X2, X4, hno⟩ := hrel
  have Hb := Lib.hid hb
  have Hno := Lib.hid hno
  clear hb hno
  obtain ⟨X2l, X2a, X2b, X2c, -, -, -⟩ := X2.facts3
  obtain ⟨X4l, X4a, X4b, X4c, X4fa, X4fb, X4fc⟩ := X4.facts3
  by_cases hlt : k < l.length
  ·
   obtain ⟨b, o, rfl, hlb, c0, c1, c2⟩ := (hR.mono Hb.out).nd hlt
   have HR := Lib.hid hR; clear hR
   cases he : (l[k].id == id)
   ·
    go_wp2
    go_roundw
    case rel => exact ⟨k + 1, by omega, by go_num, Hb.out, X2, X4, all_succ (p := fun x => (x.id == id) = false) Hno.out hlt he⟩
    case measure => simp [intOf]; omega
   ·
    have hf := find_hit l (fun n => n.id == id) k hlt Hno.out he
    have Hf := Lib.hid hf; clear hf
    go_wp2
    have Bw := Hb.out
    refine res_cell_tmp (g := w.heap.size + 1) (cs := #[.int .i64 l[k].id, .int .i64 l[k].pt.x, .int .i64 l[k].pt.y]) rfl struct_nd rfl rfl (Blk.put3 X4) ⟨by rw [findNd, Hf.out]; rfl, ?_⟩
    repeat (first | with_reducible exact bR _ | with_reducible assumption | with_reducible refine bA ?_ _ | with_reducible refine bD ?_ | with_reducible refine bN ?_ _ | ((with_reducible refine bS ?_ ?_ _); rotate_left; (simp; try omega)) | ((with_reducible refine bT ?_ ?_); rotate_left; with_reducible assumption) | with_reducible refine bT ?_ (by assumption))
  ·
   have hf := find_miss l (fun n => n.id == id) (fun j hj => Hno.out j hj (by omega))
   have Hf := Lib.hid hf; clear hf
   go_wp2
   have Bw := Hb.out
   refine res_cell_tmp (g := w.heap.size + 1) (cs := #[.int .i64 0, .int .i64 0, .int .i64 0]) rfl struct_nd rfl rfl (Blk.put3 X4) ⟨by rw [findNd, Hf.out]; rfl, ?_⟩
   repeat (first | with_reducible exact bR _ | with_reducible assumption | with_reducible refine bA ?_ _ | with_reducible refine bD ?_ | with_reducible refine bN ?_ _ | ((with_reducible refine bS ?_ ?_ _); rotate_left; (simp; try omega)) | ((with_reducible refine bT ?_ ?_); rotate_left; with_reducible assumption) | with_reducible refine bT ?_ (by assumption))

/-- A slice of points of the call's own. -/
def RetPts (w : World) (l : List Pt) (e : Ending) (w' : World) : Prop :=
 ∃ A c, e = .returned (.slice A l.length c) ∧ Below w.heap.size w w' ∧ Own w' w.heap.size 28 2 ptC (.slice A l.length c) l

set_option maxHeartbeats 400000 in
theorem Clone_pt_spec (v : Value) (l : List Pt) (w : World) (h : Pts w v l) (hl : l.length ≤ 1048576) :
  Calls Tryz.prog 119 #[v] w (RetPts w l) := by
 have H := h
 obtain ⟨A, c, rfl, hn, hc, hR⟩ := h
 have hE := Lib.run_eql_slice_nil (P := Tryz.prog) (t := 53) (e := 28)
 rcases A with _ | ad
 ·
  have hl0 : l = [] := by
   rcases l with _ | ⟨a, l⟩
   · rfl
   ·
    obtain ⟨b, o, e, _⟩ := hR (by simp [ptC])
    cases e
  subst hl0
  clear hR H
  simp only [List.length_nil] at hn ⊢
  have hE1 : ∀ W : World, (binOp .eql 53 (.slice none 0 c) (.slice none 0 0)).run Tryz.prog W = .ok (.bool true) W := fun W => Lib.run_eql_slice_nil W _ 28 none _ c 0 0 Tryz.underlying53
  clear hE
  go_enter Tryz.func119, Tryz.ntmps119
  go_wp2
  go_ret
  exact ⟨_, _, rfl, bR w, Own.nil _ _ _ _ _⟩
 ·
  have hE1 : ∀ W : World, (binOp .eql 53 (.slice (some ad) l.length c) (.slice none 0 0)).run Tryz.prog W = .ok (.bool false) W := fun W => Lib.run_eql_slice_nil W _ 28 (some ad) _ c 0 0 Tryz.underlying53
  clear hE hR
  have HH := Lib.hid H; clear H
  go_enter Tryz.func119, Tryz.ntmps119
  go_wp2_with
   (at_builtin
    refine wpList_appl _ rfl (.tmp 5) (.tmp 6) _ rfl (base := w.heap.size) elem_pt ptC_len ptC_one rfl (Own.lit _ _ _ _ ptC [] _ 0 _ rfl rfl (Nat.le_refl _) (le_maxLen (by omega)) rfl rfl) rfl (HH.out.mono (bA (bR w) _)) (by simp only [List.length_nil]; omega) (by simp only [List.length_nil]; omega) (by simp) ?_
    intro v1 w1 hown hg hat)
  go_ret
  obtain ⟨A1, c1, rfl, -⟩ := Own.sl hown
  simp only [List.nil_append] at hown ⊢
  exact ⟨A1, c1, rfl, bG (bA (bR w) _) hg (fun k hk => by have : w.heap.size = k := Option.some.inj hk; omega), hown⟩
end Go.Proofs.YtfondidmklmonaaGreat
namespace Go.Proofs.YtfondidmklmonaaGreat
open Go.RowKit

def findAr (l : List Ar) (id : Int) : Option Ar := l.find? (fun a => a.id == id)
def ar0 : Ar := ⟨0, 0, 0, [], 0, 0⟩
def ArRes (w : World) (r : Option Ar) (e : Ending) (w' : World) : Prop :=
 ∃ v', e = .returned (.tuple #[arV (r.getD ar0) v', .bool r.isSome]) ∧ Below w.heap.size w w' ∧ Pts w' v' (r.getD ar0).via
/-- No Via is very long. -/
def Short (p : Pl) : Prop := ∀ a ∈ p.arcs, a.via.length ≤ 1048576

theorem Sl.nil (w : World) : Sl w (.slice none 0 0) 0 [] := ⟨none, 0, rfl, Nat.le_refl _, le_maxLen (by omega), Row.nil⟩

theorem findAr_hit (al : List (Ar × Value)) (id : Int) (k : Nat) (hk : k < al.length) (h : ∀ j (hj : j < al.length), j < k → (al[j].1.id == id) = false) (he : (al[k].1.id == id) = true) :
  findAr (al.map (·.1)) id = some al[k].1 := by
 have := find_hit al (fun a => a.1.id == id) k hk h he
 rw [findAr, List.find?_map]
 show (al.find? (fun a => a.1.id == id)).map _ = _
 rw [this]
 rfl
theorem findAr_miss (al : List (Ar × Value)) (id : Int) (h : ∀ j (hj : j < al.length), (al[j].1.id == id) = false) : findAr (al.map (·.1)) id = none := by
 have := find_miss al (fun a => a.1.id == id) h
 rw [findAr, List.find?_map]
 show (al.find? (fun a => a.1.id == id)).map _ = _
 rw [this]
 rfl

set_option maxHeartbeats 4000000 in
theorem Arc_spec (v : Value) (p : Pl) (id : Int) (w : World) (h : PlV w v p) (hsh : Short p) :
  Calls Tryz.prog 90 #[v, .int .i64 id] w (ArRes w (findAr p.arcs id)) := by
 obtain ⟨vn, _, vf, al, rfl, hpa, -, ⟨⟨An, cn, rfl, hn1, hn2, hR⟩, hV⟩, -⟩ := h
 unfold maxLen at hn2
 unfold Short at hsh
 rw [hpa] at hsh ⊢
 clear hpa
 have hsh' : ∀ k (hk : k < al.length), al[k].1.via.length ≤ 1048576 := fun k hk => hsh _ (List.mem_map_of_mem (List.getElem_mem hk))
 have HV := Lib.hid hV; clear hV hsh
 have HSh := Lib.hid hsh'; clear hsh'
 go_enter Tryz.func90, Tryz.ntmps90
 go_wp2_with fail
 go_loopw [11] (fun i wr => ∃ k : Nat, k ≤ al.length ∧ i = .int .i64 k ∧ Below w.heap.size w wr ∧ Blk wr (w.heap.size + 1) 63 #[.int .i64 0, .int .i64 0, .int .i64 0, .slice none 0 0, .int .i64 0, .int .i64 0] ∧ ∀ j (hj : j < al.length), j < k → (al[j].1.id == id) = false) (fun i _ => al.length - (intOf i).toNat)
 case atStart => exact ⟨0, Nat.zero_le _, rfl, bA (bA (bR w) _) _, Blk.made (by simp) _ _, fun j _ h => by omega⟩
 case round =>
  obtain ⟨k, hk, rfl, hb, X4, hno⟩ := hrel
  have Hb := Lib.hid hb
  have Hno := Lib.hid hno
  clear hb hno
  obtain ⟨X4l, X4a, X4b, X4c, X4d, X4e, X4f, X4fa, X4fb, X4fc, X4fd, X4fe, X4ff⟩ := X4.facts6
  by_cases hlt : k < al.length
  ·
   obtain ⟨b, o, rfl, hlb, c0, c1, c2, c3, c4, c5⟩ := (hR.mono Hb.out).ar hlt
   have HR := Lib.hid hR; clear hR
   have hvk := (HV.out k hlt)
   obtain ⟨Av, cv, hv, -⟩ := hvk
   have hvk := (HV.out k hlt)
   rw [hv] at c3 hvk
   generalize hvl : al[k].1.via.length = vl at *
   have Hvl := Lib.hid hvl
   have Hvk := Lib.hid hvk; clear hvk hv hvl
   cases he : (al[k].1.id == id)
   ·
    go_wp2
    go_roundw
    case rel => exact ⟨k + 1, by omega, by go_num, bA Hb.out _, X4.alloc _, all_succ (p := fun x => (x.1.id == id) = false) Hno.out hlt he⟩
    case measure => simp [intOf]; omega
   ·
    have hf := findAr_hit al id k hlt Hno.out he
    have Hf := Lib.hid hf; clear hf
    go_wp2_with fail
    refine (Clone_pt_spec _ _ _ (Hvk.out.mono (bA Hb.out _)) (HSh.out k hlt)).mono ?_
    rintro e w1 ⟨A1, cc1, rfl, hb1, hown⟩
    have Bw : Below w.heap.size w w1 := bT (bA Hb.out _) hb1
    have X7 : Blk w1 wr.heap.size 63 #[.int .i64 al[k].1.id, .int .i64 al[k].1.fr,   .int .i64 al[k].1.dst, .slice Av vl cv, .int .i64 al[k].1.left, .int .i64 al[k].1.right] := (Blk.made rfl _ _).keep hb1
    have hw8 : w.heap.size + 1 < wr.heap.size := by omega
    have hw7 : w.heap.size + 1 ≠ wr.heap.size := by omega
    replace X4 := (X4.alloc _).keep hb1
    have hown' := hown.mono_base (b' := wr.heap.size + 1) (by simp)
    have hP := Own.sl hown
    have Hown := Lib.hid hown'
    clear hb1 c0 c1 c2 c3 c4 c5 hlb hown hown' hP
    try clear X4l
    try clear X4a
    try clear X4b
    try clear X4c
    try clear X4d
    try clear X4e
    try clear X4f
    try clear X4fa
    try clear X4fb
    try clear X4fc
    try clear X4fd
    try clear X4fe
    try clear X4ff
    obtain ⟨X4l, X4a, X4b, X4c, X4d, X4e, X4f, X4fa, X4fb, X4fc, X4fd, X4fe, X4ff⟩ := X4.facts6
    obtain ⟨X7l, X7a, X7b, X7c, X7d, X7e, X7f, X7fa, X7fb, X7fc, X7fd, X7fe, X7ff⟩ := X7.facts6
    go_wp2_with fail
    have hszr := Hb.out.size
    have ne7 : (Value.slice A1 al[k].1.via.length cc1).ownBlock ≠ some wr.heap.size := fun e => by have := (Hown.out.lt _ e).1; omega
    have ne4 : (Value.slice A1 al[k].1.via.length cc1).ownBlock ≠ some (w.heap.size + 1) := fun e => by have := (Hown.out.lt _ e).1; omega
    have HP := Own.sl (((((((Hown.out.far (p := ⟨wr.heap.size, 3, none⟩) ne7 (.slice A1 al[k].1.via.length cc1)).far (p := ⟨w.heap.size + 1, 0, none⟩) ne4 (.int .i64 al[k].1.id)).far (p := ⟨w.heap.size + 1, 1, none⟩) ne4 (.int .i64 al[k].1.fr)).far (p := ⟨w.heap.size + 1, 2, none⟩) ne4 (.int .i64 al[k].1.dst)).far (p := ⟨w.heap.size + 1, 3, none⟩) ne4 (.slice A1 al[k].1.via.length cc1)).far (p := ⟨w.heap.size + 1, 4, none⟩) ne4 (.int .i64 al[k].1.left)).far (p := ⟨w.heap.size + 1, 5, none⟩) ne4 (.int .i64 al[k].1.right))
    refine res_cell_tmp (g := w.heap.size + 1) (cs := #[.int .i64 al[k].1.id, .int .i64 al[k].1.fr, .int .i64 al[k].1.dst, .slice A1 al[k].1.via.length cc1, .int .i64 al[k].1.left, .int .i64 al[k].1.right]) rfl struct_ar rfl rfl (Blk.put6 (X4.far (p := ⟨wr.heap.size, 3, none⟩) hw7 _)) ⟨.slice A1 al[k].1.via.length cc1, by rw [Hf.out]; rfl, ?_, by rw [Hf.out]; exact HP⟩
    repeat (first | with_reducible exact bR _ | with_reducible assumption | with_reducible refine bA ?_ _ | with_reducible refine bD ?_ | with_reducible refine bN ?_ _ | ((with_reducible refine bS ?_ ?_ _); rotate_left; (simp; try omega)) | ((with_reducible refine bT ?_ ?_); rotate_left; with_reducible assumption) | with_reducible refine bT ?_ (by assumption))
  ·
   have hf := findAr_miss al id (fun j hj => Hno.out j hj (by omega))
   have Hf := Lib.hid hf; clear hf
   go_wp2
   have Bw := Hb.out
   refine res_cell_tmp (g := w.heap.size + 1) (cs := #[.int .i64 0, .int .i64 0, .int .i64 0, .slice none 0 0, .int .i64 0, .int .i64 0]) rfl struct_ar rfl rfl (Blk.put6 X4) ⟨.slice none 0 0, by rw [Hf.out]; rfl, ?_, by rw [Hf.out]; exact Sl.nil _⟩
   repeat (first | with_reducible exact bR _ | with_reducible assumption | with_reducible refine bA ?_ _ | with_reducible refine bD ?_ | with_reducible refine bN ?_ _ | ((with_reducible refine bS ?_ ?_ _); rotate_left; (simp; try omega)) | ((with_reducible refine bT ?_ ?_); rotate_left; with_reducible assumption) | with_reducible refine bT ?_ (by assumption))
end Go.Proofs.YtfondidmklmonaaGreat
