/- mapsheetsref01: parts, signed, Round. -/
import Derived.Test.YtbjlnnfmcjbnhaaGreatDoorJ14
set_option linter.unusedSimpArgs false
set_option linter.unusedVariables false
namespace Go.Proofs.YtbjlnnfmcjbnhaaGreatDoor
open Go.RowKit

theorem results_tmp3' {fn : Func} {t u v : Tmp} (h : fn.results = #[.tmp t, .tmp u, .tmp v]) (tmps : Array Value) (P : Program) (w : World) : (results fn tmps).run P w = .ok (.tuple #[tmps.getD t undef, tmps.getD u undef, tmps.getD v undef]) w := by
  simp [results, h]
theorem rsize_spec' (n : Int) (w : World) (h : bd60 n) : Calls Tryz.prog 151 #[.int .i64 n] w fun e w' => e = .returned (.int .u64 (absS n)) ∧ Below w.heap.size w w' :=
  (rsize_spec n w h).mono fun e w' h => ⟨h.1, by rw [← h.2]; exact bR w⟩
theorem quo_bd {a b : Int} (ha : 0 ≤ a ∧ a ≤ 1152921504606846976) (hb : 0 < b) : 0 ≤ a / b ∧ a / b ≤ a ∧ 0 ≤ a % b ∧ a % b < b :=
  ⟨Int.ediv_nonneg ha.1 (Int.le_of_lt hb), Int.ediv_le_self _ ha.1, Int.emod_nonneg _ (by omega), Int.emod_lt_of_pos _ hb⟩

set_option maxRecDepth 100000 in
set_option maxHeartbeats 2000000 in
theorem parts_spec (x y : Int) (w : World) (h : bd60 x) (hy : y ≠ 0) (hy' : bd60 y) : Calls Tryz.prog 150 #[.int .i64 x, .int .i64 y] w fun e w' => e = .returned (.tuple #[.int .u64 (absS x / absS y), .int .u64 (absS x % absS y), .bool (minusS x y)]) ∧ Below w.heap.size w w' := by
  have HX := Lib.hid (fun w => rsize_spec' x w h)
  have HY := Lib.hid (fun w => rsize_spec' y w hy')
  have a1 := absS_bd h
  have a2 := absS_bd hy'
  have hpos : 0 < absS y := by unfold absS; split <;> omega
  obtain ⟨d1, d2, d3, d4⟩ := quo_bd a1 hpos
  have e1 : (absS x).tdiv (absS y) = absS x / absS y := Int.tdiv_eq_ediv_of_nonneg a1.1
  have e2 : (absS x).tmod (absS y) = absS x % absS y := Int.tmod_eq_emod_of_nonneg a1.1
  obtain ⟨m, hm⟩ : ∃ m, minusS x y = m := ⟨_, rfl⟩
  rw [hm]
  unfold minusS at hm
  have Hm := Lib.hid hm
  clear hm
  generalize absS x = u at *
  generalize absS y = v at *
  rw [← e1] at d1 d2
  rw [← e2] at d3 d4
  rw [← e1, ← e2]
  have k1 : IntKind.u64.wrap (u.tdiv v) = u.tdiv v := by rw [u64w]; omega
  have k2 : IntKind.u64.wrap (u.tmod v) = u.tmod v := by rw [u64w]; omega
  have k3 : ¬ v = 0 := by omega
  clear e1 e2 a1 a2 d1 d2 d3 d4 hpos h hy hy'
  by_cases h1 : x < 0
  · go_enter Tryz.func150, Tryz.ntmps150
    go_upto_region 1 with fail
    by_cases h2 : 0 < y
    · have HF := Lib.hid (show m = true by rw [← Hm.out, decide_eq_true h1, decide_eq_true h2]; rfl)
      refine rg_start (Since w) (.take 0 1 (.take 2 5 (.take 5 37 (.take 7 165 (.take 10 1189 (.take 11 3237 (.call 1 3239 (.call 3 3247 (.take 4 3263 (.call 6 3327 (.call 8 3583 (.take 9 4095 (.take 12 8191 (.take 13 16383 (.take 14 32767 (.take 15 65535 (.take 16 131071 (.take 17 262143 (.take 18 524287 (.take 19 1048575 (.take 20 2097151 (.take 21 4194303 (.take 22 8388607 (.take 23 16777215 (.take 24 33554431 (.take 25 67108863 (.take 26 134217727 (.done)))))))))))))))))))))))))))) (by kernel_rfl) (bD (bR _)) (by kernel_rfl) (by kernel_rfl) (Nat.le_of_ble_eq_true (by kernel_rfl)) ?_
      intro opsR QR Hops HQrg hS
      apply rg_yp (i := 0) Hops rfl hS rfl
      · intro _ hq; clear hq; go_simp; try rfl
      try simp only [Act.put, pu1, pu2, pu3]
      apply rg_yp (i := 2) Hops rfl hS rfl
      · intro _ hq; clear hq; go_simp; try rfl
      try simp only [Act.put, pu1, pu2, pu3]
      apply rg_yp (i := 5) Hops rfl hS rfl
      · intro _ hq; clear hq; go_simp; try rfl
      try simp only [Act.put, pu1, pu2, pu3]
      apply rg_yp (i := 7) Hops rfl hS rfl
      · intro _ hq; clear hq; go_simp; try rfl
      try simp only [Act.put, pu1, pu2, pu3]
      apply rg_yp (i := 10) Hops rfl hS rfl
      · intro _ hq; clear hq; go_simp; try rfl
      try simp only [Act.put, pu1, pu2, pu3]
      apply rg_yp (i := 11) Hops rfl hS rfl
      · intro _ hq; clear hq; go_simp; try rfl
      try simp only [Act.put, pu1, pu2, pu3]
      refine rg_call (i := 1) (get_of Hops rfl) (fun K hK => ?_)
      have HSrg := Lib.hid hS; clear hS
      refine rg_run (wanted_plain rfl) ?_
      go_simp
      refine (HX.out _).mono ?_
      rintro e wr1 ⟨rfl, hbr1⟩
      have hS : Since w wr1 := bT (w := w) HSrg.out hbr1
      clear HSrg
      refine hK.out _ _ hS (fun _ => ?_)
      clear hK K
      try simp only [Act.put, pu1, pu2, pu3]
      refine rg_call (i := 3) (get_of Hops rfl) (fun K hK => ?_)
      have HSrg := Lib.hid hS; clear hS
      refine rg_run (wanted_plain rfl) ?_
      go_simp
      refine (HY.out _).mono ?_
      rintro e wr2 ⟨rfl, hbr2⟩
      have hS : Since w wr2 := bT (w := w) HSrg.out hbr2
      clear HSrg
      refine hK.out _ _ hS (fun _ => ?_)
      clear hK K
      try simp only [Act.put, pu1, pu2, pu3]
      apply rg_yp (i := 4) Hops rfl hS rfl
      · intro _ hq; clear hq; go_simp; try rfl
      try simp only [Act.put, pu1, pu2, pu3]
      refine rg_call (i := 6) (get_of Hops rfl) (fun K hK => ?_)
      have HSrg := Lib.hid hS; clear hS
      refine rg_run (wanted_plain rfl) ?_
      go_simp
      refine (HX.out _).mono ?_
      rintro e wr3 ⟨rfl, hbr3⟩
      have hS : Since w wr3 := bT (w := w) HSrg.out hbr3
      clear HSrg
      refine hK.out _ _ hS (fun _ => ?_)
      clear hK K
      try simp only [Act.put, pu1, pu2, pu3]
      refine rg_call (i := 8) (get_of Hops rfl) (fun K hK => ?_)
      have HSrg := Lib.hid hS; clear hS
      refine rg_run (wanted_plain rfl) ?_
      go_simp
      refine (HY.out _).mono ?_
      rintro e wr4 ⟨rfl, hbr4⟩
      have hS : Since w wr4 := bT (w := w) HSrg.out hbr4
      clear HSrg
      refine hK.out _ _ hS (fun _ => ?_)
      clear hK K
      try simp only [Act.put, pu1, pu2, pu3]
      apply rg_yp (i := 9) Hops rfl hS rfl
      · intro _ hq; clear hq; go_simp; try rfl
      try simp only [Act.put, pu1, pu2, pu3]
      apply rg_yp (i := 12) Hops rfl hS rfl
      · intro _ hq; clear hq; go_simp; try rfl
      try simp only [Act.put, pu1, pu2, pu3]
      apply rg_yg (i := 13) Hops rfl hS rfl rfl rfl rfl
      · intro _ hq; clear hq; go_simp; try rfl
      try simp only [Act.put, pu1, pu2, pu3]
      apply rg_yg (i := 14) Hops rfl hS rfl rfl rfl rfl
      · intro _ hq; clear hq; go_simp; try rfl
      try simp only [Act.put, pu1, pu2, pu3]
      apply rg_yp (i := 15) Hops rfl hS rfl
      · intro _ hq; clear hq; go_simp; try rfl
      try simp only [Act.put, pu1, pu2, pu3]
      apply rg_yp (i := 16) Hops rfl hS rfl
      · intro _ hq; clear hq; go_simp; try rfl
      try simp only [Act.put, pu1, pu2, pu3]
      refine rg_yn (i := 17) Hops rfl hS rfl rfl rfl rfl rfl ?_
      try simp only [Act.put, pu1, pu2, pu3]
      refine rg_yn (i := 18) Hops rfl hS rfl rfl rfl rfl rfl ?_
      try simp only [Act.put, pu1, pu2, pu3]
      refine rg_yn (i := 19) Hops rfl hS rfl rfl rfl rfl rfl ?_
      try simp only [Act.put, pu1, pu2, pu3]
      refine rg_yn (i := 20) Hops rfl hS rfl rfl rfl rfl rfl ?_
      try simp only [Act.put, pu1, pu2, pu3]
      refine rg_yn (i := 21) Hops rfl hS rfl rfl rfl rfl rfl ?_
      try simp only [Act.put, pu1, pu2, pu3]
      refine rg_yn (i := 22) Hops rfl hS rfl rfl rfl rfl rfl ?_
      try simp only [Act.put, pu1, pu2, pu3]
      apply rg_yp (i := 23) Hops rfl hS rfl
      · intro _ hq; clear hq; go_simp; try rfl
      try simp only [Act.put, pu1, pu2, pu3]
      apply rg_yp (i := 24) Hops rfl hS rfl
      · intro _ hq; clear hq; go_simp; try rfl
      try simp only [Act.put, pu1, pu2, pu3]
      apply rg_yp (i := 25) Hops rfl hS rfl
      · intro _ hq; clear hq; go_simp; try rfl
      try simp only [Act.put, pu1, pu2, pu3]
      apply rg_yp (i := 26) Hops rfl hS rfl
      · intro _ hq; clear hq; go_simp; try rfl
      try simp only [Act.put, pu1, pu2, pu3]
      refine rg_done ?_
      refine HQrg.down _ _ ?_
      have hB : Below w.heap.size w wr4 := hS
      clear hS HQrg Hops
      go_wp2_with fail
      exact bodyPost_ret (results_tmp3' rfl _ _ _) rfl ⟨by rw [HF.out]; rfl, hB⟩
    · have h3 : ¬ 0 < x := by omega
      have HF := Lib.hid (show m = false by rw [← Hm.out, decide_eq_false h2, decide_eq_false h3, Bool.and_false]; rfl)
      refine rg_start (Since w) (.take 0 1 (.take 2 5 (.take 5 37 (.take 7 165 (.take 10 1189 (.take 11 3237 (.call 1 3239 (.call 3 3247 (.take 4 3263 (.call 6 3327 (.call 8 3583 (.take 9 4095 (.take 12 8191 (.take 13 16383 (.take 14 32767 (.take 15 65535 (.take 16 131071 (.take 17 262143 (.take 18 524287 (.take 19 1048575 (.take 20 2097151 (.take 21 4194303 (.take 22 8388607 (.take 23 16777215 (.take 24 33554431 (.take 25 67108863 (.take 26 134217727 (.done)))))))))))))))))))))))))))) (by kernel_rfl) (bD (bR _)) (by kernel_rfl) (by kernel_rfl) (Nat.le_of_ble_eq_true (by kernel_rfl)) ?_
      intro opsR QR Hops HQrg hS
      apply rg_yp (i := 0) Hops rfl hS rfl
      · intro _ hq; clear hq; go_simp; try rfl
      try simp only [Act.put, pu1, pu2, pu3]
      apply rg_yp (i := 2) Hops rfl hS rfl
      · intro _ hq; clear hq; go_simp; try rfl
      try simp only [Act.put, pu1, pu2, pu3]
      apply rg_yp (i := 5) Hops rfl hS rfl
      · intro _ hq; clear hq; go_simp; try rfl
      try simp only [Act.put, pu1, pu2, pu3]
      apply rg_yp (i := 7) Hops rfl hS rfl
      · intro _ hq; clear hq; go_simp; try rfl
      try simp only [Act.put, pu1, pu2, pu3]
      apply rg_yp (i := 10) Hops rfl hS rfl
      · intro _ hq; clear hq; go_simp; try rfl
      try simp only [Act.put, pu1, pu2, pu3]
      apply rg_yp (i := 11) Hops rfl hS rfl
      · intro _ hq; clear hq; go_simp; try rfl
      try simp only [Act.put, pu1, pu2, pu3]
      refine rg_call (i := 1) (get_of Hops rfl) (fun K hK => ?_)
      have HSrg := Lib.hid hS; clear hS
      refine rg_run (wanted_plain rfl) ?_
      go_simp
      refine (HX.out _).mono ?_
      rintro e wr1 ⟨rfl, hbr1⟩
      have hS : Since w wr1 := bT (w := w) HSrg.out hbr1
      clear HSrg
      refine hK.out _ _ hS (fun _ => ?_)
      clear hK K
      try simp only [Act.put, pu1, pu2, pu3]
      refine rg_call (i := 3) (get_of Hops rfl) (fun K hK => ?_)
      have HSrg := Lib.hid hS; clear hS
      refine rg_run (wanted_plain rfl) ?_
      go_simp
      refine (HY.out _).mono ?_
      rintro e wr2 ⟨rfl, hbr2⟩
      have hS : Since w wr2 := bT (w := w) HSrg.out hbr2
      clear HSrg
      refine hK.out _ _ hS (fun _ => ?_)
      clear hK K
      try simp only [Act.put, pu1, pu2, pu3]
      apply rg_yp (i := 4) Hops rfl hS rfl
      · intro _ hq; clear hq; go_simp; try rfl
      try simp only [Act.put, pu1, pu2, pu3]
      refine rg_call (i := 6) (get_of Hops rfl) (fun K hK => ?_)
      have HSrg := Lib.hid hS; clear hS
      refine rg_run (wanted_plain rfl) ?_
      go_simp
      refine (HX.out _).mono ?_
      rintro e wr3 ⟨rfl, hbr3⟩
      have hS : Since w wr3 := bT (w := w) HSrg.out hbr3
      clear HSrg
      refine hK.out _ _ hS (fun _ => ?_)
      clear hK K
      try simp only [Act.put, pu1, pu2, pu3]
      refine rg_call (i := 8) (get_of Hops rfl) (fun K hK => ?_)
      have HSrg := Lib.hid hS; clear hS
      refine rg_run (wanted_plain rfl) ?_
      go_simp
      refine (HY.out _).mono ?_
      rintro e wr4 ⟨rfl, hbr4⟩
      have hS : Since w wr4 := bT (w := w) HSrg.out hbr4
      clear HSrg
      refine hK.out _ _ hS (fun _ => ?_)
      clear hK K
      try simp only [Act.put, pu1, pu2, pu3]
      apply rg_yp (i := 9) Hops rfl hS rfl
      · intro _ hq; clear hq; go_simp; try rfl
      try simp only [Act.put, pu1, pu2, pu3]
      apply rg_yp (i := 12) Hops rfl hS rfl
      · intro _ hq; clear hq; go_simp; try rfl
      try simp only [Act.put, pu1, pu2, pu3]
      apply rg_yg (i := 13) Hops rfl hS rfl rfl rfl rfl
      · intro _ hq; clear hq; go_simp; try rfl
      try simp only [Act.put, pu1, pu2, pu3]
      apply rg_yg (i := 14) Hops rfl hS rfl rfl rfl rfl
      · intro _ hq; clear hq; go_simp; try rfl
      try simp only [Act.put, pu1, pu2, pu3]
      apply rg_yp (i := 15) Hops rfl hS rfl
      · intro _ hq; clear hq; go_simp; try rfl
      try simp only [Act.put, pu1, pu2, pu3]
      apply rg_yp (i := 16) Hops rfl hS rfl
      · intro _ hq; clear hq; go_simp; try rfl
      try simp only [Act.put, pu1, pu2, pu3]
      apply rg_yg (i := 17) Hops rfl hS rfl rfl rfl rfl
      · intro _ hq; clear hq; go_simp; try rfl
      try simp only [Act.put, pu1, pu2, pu3]
      apply rg_yg (i := 18) Hops rfl hS rfl rfl rfl rfl
      · intro _ hq; clear hq; go_simp; try rfl
      try simp only [Act.put, pu1, pu2, pu3]
      apply rg_yg (i := 19) Hops rfl hS rfl rfl rfl rfl
      · intro _ hq; clear hq; go_simp; try rfl
      try simp only [Act.put, pu1, pu2, pu3]
      refine rg_yn (i := 20) Hops rfl hS rfl rfl rfl rfl rfl ?_
      try simp only [Act.put, pu1, pu2, pu3]
      refine rg_yn (i := 21) Hops rfl hS rfl rfl rfl rfl rfl ?_
      try simp only [Act.put, pu1, pu2, pu3]
      apply rg_yg (i := 22) Hops rfl hS rfl rfl rfl rfl
      · intro _ hq; clear hq; go_simp; try rfl
      try simp only [Act.put, pu1, pu2, pu3]
      apply rg_yp (i := 23) Hops rfl hS rfl
      · intro _ hq; clear hq; go_simp; try rfl
      try simp only [Act.put, pu1, pu2, pu3]
      apply rg_yp (i := 24) Hops rfl hS rfl
      · intro _ hq; clear hq; go_simp; try rfl
      try simp only [Act.put, pu1, pu2, pu3]
      apply rg_yp (i := 25) Hops rfl hS rfl
      · intro _ hq; clear hq; go_simp; try rfl
      try simp only [Act.put, pu1, pu2, pu3]
      apply rg_yp (i := 26) Hops rfl hS rfl
      · intro _ hq; clear hq; go_simp; try rfl
      try simp only [Act.put, pu1, pu2, pu3]
      refine rg_done ?_
      refine HQrg.down _ _ ?_
      have hB : Below w.heap.size w wr4 := hS
      clear hS HQrg Hops
      go_wp2_with fail
      exact bodyPost_ret (results_tmp3' rfl _ _ _) rfl ⟨by rw [HF.out]; rfl, hB⟩
  · go_enter Tryz.func150, Tryz.ntmps150
    go_upto_region 1 with fail
    by_cases h2 : 0 < x
    · have HF := Lib.hid (show m = decide (y < 0) by rw [← Hm.out, decide_eq_false h1, decide_eq_true h2]; rfl)
      refine rg_start (Since w) (.take 0 1 (.take 2 5 (.take 5 37 (.take 7 165 (.take 10 1189 (.take 11 3237 (.call 1 3239 (.call 3 3247 (.take 4 3263 (.call 6 3327 (.call 8 3583 (.take 9 4095 (.take 12 8191 (.take 13 16383 (.take 14 32767 (.take 15 65535 (.take 16 131071 (.take 17 262143 (.take 18 524287 (.take 19 1048575 (.take 20 2097151 (.take 21 4194303 (.take 22 8388607 (.take 23 16777215 (.take 24 33554431 (.take 25 67108863 (.take 26 134217727 (.done)))))))))))))))))))))))))))) (by kernel_rfl) (bD (bR _)) (by kernel_rfl) (by kernel_rfl) (Nat.le_of_ble_eq_true (by kernel_rfl)) ?_
      intro opsR QR Hops HQrg hS
      apply rg_yp (i := 0) Hops rfl hS rfl
      · intro _ hq; clear hq; go_simp; try rfl
      try simp only [Act.put, pu1, pu2, pu3]
      apply rg_yp (i := 2) Hops rfl hS rfl
      · intro _ hq; clear hq; go_simp; try rfl
      try simp only [Act.put, pu1, pu2, pu3]
      apply rg_yp (i := 5) Hops rfl hS rfl
      · intro _ hq; clear hq; go_simp; try rfl
      try simp only [Act.put, pu1, pu2, pu3]
      apply rg_yp (i := 7) Hops rfl hS rfl
      · intro _ hq; clear hq; go_simp; try rfl
      try simp only [Act.put, pu1, pu2, pu3]
      apply rg_yp (i := 10) Hops rfl hS rfl
      · intro _ hq; clear hq; go_simp; try rfl
      try simp only [Act.put, pu1, pu2, pu3]
      apply rg_yp (i := 11) Hops rfl hS rfl
      · intro _ hq; clear hq; go_simp; try rfl
      try simp only [Act.put, pu1, pu2, pu3]
      refine rg_call (i := 1) (get_of Hops rfl) (fun K hK => ?_)
      have HSrg := Lib.hid hS; clear hS
      refine rg_run (wanted_plain rfl) ?_
      go_simp
      refine (HX.out _).mono ?_
      rintro e wr1 ⟨rfl, hbr1⟩
      have hS : Since w wr1 := bT (w := w) HSrg.out hbr1
      clear HSrg
      refine hK.out _ _ hS (fun _ => ?_)
      clear hK K
      try simp only [Act.put, pu1, pu2, pu3]
      refine rg_call (i := 3) (get_of Hops rfl) (fun K hK => ?_)
      have HSrg := Lib.hid hS; clear hS
      refine rg_run (wanted_plain rfl) ?_
      go_simp
      refine (HY.out _).mono ?_
      rintro e wr2 ⟨rfl, hbr2⟩
      have hS : Since w wr2 := bT (w := w) HSrg.out hbr2
      clear HSrg
      refine hK.out _ _ hS (fun _ => ?_)
      clear hK K
      try simp only [Act.put, pu1, pu2, pu3]
      apply rg_yp (i := 4) Hops rfl hS rfl
      · intro _ hq; clear hq; go_simp; try rfl
      try simp only [Act.put, pu1, pu2, pu3]
      refine rg_call (i := 6) (get_of Hops rfl) (fun K hK => ?_)
      have HSrg := Lib.hid hS; clear hS
      refine rg_run (wanted_plain rfl) ?_
      go_simp
      refine (HX.out _).mono ?_
      rintro e wr3 ⟨rfl, hbr3⟩
      have hS : Since w wr3 := bT (w := w) HSrg.out hbr3
      clear HSrg
      refine hK.out _ _ hS (fun _ => ?_)
      clear hK K
      try simp only [Act.put, pu1, pu2, pu3]
      refine rg_call (i := 8) (get_of Hops rfl) (fun K hK => ?_)
      have HSrg := Lib.hid hS; clear hS
      refine rg_run (wanted_plain rfl) ?_
      go_simp
      refine (HY.out _).mono ?_
      rintro e wr4 ⟨rfl, hbr4⟩
      have hS : Since w wr4 := bT (w := w) HSrg.out hbr4
      clear HSrg
      refine hK.out _ _ hS (fun _ => ?_)
      clear hK K
      try simp only [Act.put, pu1, pu2, pu3]
      apply rg_yp (i := 9) Hops rfl hS rfl
      · intro _ hq; clear hq; go_simp; try rfl
      try simp only [Act.put, pu1, pu2, pu3]
      apply rg_yp (i := 12) Hops rfl hS rfl
      · intro _ hq; clear hq; go_simp; try rfl
      try simp only [Act.put, pu1, pu2, pu3]
      refine rg_yn (i := 13) Hops rfl hS rfl rfl rfl rfl rfl ?_
      try simp only [Act.put, pu1, pu2, pu3]
      refine rg_yn (i := 14) Hops rfl hS rfl rfl rfl rfl rfl ?_
      try simp only [Act.put, pu1, pu2, pu3]
      apply rg_yp (i := 15) Hops rfl hS rfl
      · intro _ hq; clear hq; go_simp; try rfl
      try simp only [Act.put, pu1, pu2, pu3]
      apply rg_yp (i := 16) Hops rfl hS rfl
      · intro _ hq; clear hq; go_simp; try rfl
      try simp only [Act.put, pu1, pu2, pu3]
      apply rg_yg (i := 17) Hops rfl hS rfl rfl rfl rfl
      · intro _ hq; clear hq; go_simp; try rfl
      try simp only [Act.put, pu1, pu2, pu3]
      apply rg_yg (i := 18) Hops rfl hS rfl rfl rfl rfl
      · intro _ hq; clear hq; go_simp; try rfl
      try simp only [Act.put, pu1, pu2, pu3]
      apply rg_yg (i := 19) Hops rfl hS rfl rfl rfl rfl
      · intro _ hq; clear hq; go_simp; try rfl
      try simp only [Act.put, pu1, pu2, pu3]
      apply rg_yg (i := 20) Hops rfl hS rfl rfl rfl rfl
      · intro _ hq; clear hq; go_simp; try rfl
      try simp only [Act.put, pu1, pu2, pu3]
      apply rg_yg (i := 21) Hops rfl hS rfl rfl rfl rfl
      · intro _ hq; clear hq; go_simp; try rfl
      try simp only [Act.put, pu1, pu2, pu3]
      apply rg_yg (i := 22) Hops rfl hS rfl rfl rfl rfl
      · intro _ hq; clear hq; go_simp; try rfl
      try simp only [Act.put, pu1, pu2, pu3]
      apply rg_yp (i := 23) Hops rfl hS rfl
      · intro _ hq; clear hq; go_simp; try rfl
      try simp only [Act.put, pu1, pu2, pu3]
      apply rg_yp (i := 24) Hops rfl hS rfl
      · intro _ hq; clear hq; go_simp; try rfl
      try simp only [Act.put, pu1, pu2, pu3]
      apply rg_yp (i := 25) Hops rfl hS rfl
      · intro _ hq; clear hq; go_simp; try rfl
      try simp only [Act.put, pu1, pu2, pu3]
      apply rg_yp (i := 26) Hops rfl hS rfl
      · intro _ hq; clear hq; go_simp; try rfl
      try simp only [Act.put, pu1, pu2, pu3]
      refine rg_done ?_
      refine HQrg.down _ _ ?_
      have hB : Below w.heap.size w wr4 := hS
      clear hS HQrg Hops
      go_wp2_with fail
      exact bodyPost_ret (results_tmp3' rfl _ _ _) rfl ⟨by rw [HF.out]; rfl, hB⟩
    · have HF := Lib.hid (show m = false by rw [← Hm.out, decide_eq_false h1, decide_eq_false h2]; rfl)
      refine rg_start (Since w) (.take 0 1 (.take 2 5 (.take 5 37 (.take 7 165 (.take 10 1189 (.take 11 3237 (.call 1 3239 (.call 3 3247 (.take 4 3263 (.call 6 3327 (.call 8 3583 (.take 9 4095 (.take 12 8191 (.take 13 16383 (.take 14 32767 (.take 15 65535 (.take 16 131071 (.take 17 262143 (.take 18 524287 (.take 19 1048575 (.take 20 2097151 (.take 21 4194303 (.take 22 8388607 (.take 23 16777215 (.take 24 33554431 (.take 25 67108863 (.take 26 134217727 (.done)))))))))))))))))))))))))))) (by kernel_rfl) (bD (bR _)) (by kernel_rfl) (by kernel_rfl) (Nat.le_of_ble_eq_true (by kernel_rfl)) ?_
      intro opsR QR Hops HQrg hS
      apply rg_yp (i := 0) Hops rfl hS rfl
      · intro _ hq; clear hq; go_simp; try rfl
      try simp only [Act.put, pu1, pu2, pu3]
      apply rg_yp (i := 2) Hops rfl hS rfl
      · intro _ hq; clear hq; go_simp; try rfl
      try simp only [Act.put, pu1, pu2, pu3]
      apply rg_yp (i := 5) Hops rfl hS rfl
      · intro _ hq; clear hq; go_simp; try rfl
      try simp only [Act.put, pu1, pu2, pu3]
      apply rg_yp (i := 7) Hops rfl hS rfl
      · intro _ hq; clear hq; go_simp; try rfl
      try simp only [Act.put, pu1, pu2, pu3]
      apply rg_yp (i := 10) Hops rfl hS rfl
      · intro _ hq; clear hq; go_simp; try rfl
      try simp only [Act.put, pu1, pu2, pu3]
      apply rg_yp (i := 11) Hops rfl hS rfl
      · intro _ hq; clear hq; go_simp; try rfl
      try simp only [Act.put, pu1, pu2, pu3]
      refine rg_call (i := 1) (get_of Hops rfl) (fun K hK => ?_)
      have HSrg := Lib.hid hS; clear hS
      refine rg_run (wanted_plain rfl) ?_
      go_simp
      refine (HX.out _).mono ?_
      rintro e wr1 ⟨rfl, hbr1⟩
      have hS : Since w wr1 := bT (w := w) HSrg.out hbr1
      clear HSrg
      refine hK.out _ _ hS (fun _ => ?_)
      clear hK K
      try simp only [Act.put, pu1, pu2, pu3]
      refine rg_call (i := 3) (get_of Hops rfl) (fun K hK => ?_)
      have HSrg := Lib.hid hS; clear hS
      refine rg_run (wanted_plain rfl) ?_
      go_simp
      refine (HY.out _).mono ?_
      rintro e wr2 ⟨rfl, hbr2⟩
      have hS : Since w wr2 := bT (w := w) HSrg.out hbr2
      clear HSrg
      refine hK.out _ _ hS (fun _ => ?_)
      clear hK K
      try simp only [Act.put, pu1, pu2, pu3]
      apply rg_yp (i := 4) Hops rfl hS rfl
      · intro _ hq; clear hq; go_simp; try rfl
      try simp only [Act.put, pu1, pu2, pu3]
      refine rg_call (i := 6) (get_of Hops rfl) (fun K hK => ?_)
      have HSrg := Lib.hid hS; clear hS
      refine rg_run (wanted_plain rfl) ?_
      go_simp
      refine (HX.out _).mono ?_
      rintro e wr3 ⟨rfl, hbr3⟩
      have hS : Since w wr3 := bT (w := w) HSrg.out hbr3
      clear HSrg
      refine hK.out _ _ hS (fun _ => ?_)
      clear hK K
      try simp only [Act.put, pu1, pu2, pu3]
      refine rg_call (i := 8) (get_of Hops rfl) (fun K hK => ?_)
      have HSrg := Lib.hid hS; clear hS
      refine rg_run (wanted_plain rfl) ?_
      go_simp
      refine (HY.out _).mono ?_
      rintro e wr4 ⟨rfl, hbr4⟩
      have hS : Since w wr4 := bT (w := w) HSrg.out hbr4
      clear HSrg
      refine hK.out _ _ hS (fun _ => ?_)
      clear hK K
      try simp only [Act.put, pu1, pu2, pu3]
      apply rg_yp (i := 9) Hops rfl hS rfl
      · intro _ hq; clear hq; go_simp; try rfl
      try simp only [Act.put, pu1, pu2, pu3]
      apply rg_yp (i := 12) Hops rfl hS rfl
      · intro _ hq; clear hq; go_simp; try rfl
      try simp only [Act.put, pu1, pu2, pu3]
      refine rg_yn (i := 13) Hops rfl hS rfl rfl rfl rfl rfl ?_
      try simp only [Act.put, pu1, pu2, pu3]
      refine rg_yn (i := 14) Hops rfl hS rfl rfl rfl rfl rfl ?_
      try simp only [Act.put, pu1, pu2, pu3]
      apply rg_yp (i := 15) Hops rfl hS rfl
      · intro _ hq; clear hq; go_simp; try rfl
      try simp only [Act.put, pu1, pu2, pu3]
      apply rg_yp (i := 16) Hops rfl hS rfl
      · intro _ hq; clear hq; go_simp; try rfl
      try simp only [Act.put, pu1, pu2, pu3]
      apply rg_yg (i := 17) Hops rfl hS rfl rfl rfl rfl
      · intro _ hq; clear hq; go_simp; try rfl
      try simp only [Act.put, pu1, pu2, pu3]
      apply rg_yg (i := 18) Hops rfl hS rfl rfl rfl rfl
      · intro _ hq; clear hq; go_simp; try rfl
      try simp only [Act.put, pu1, pu2, pu3]
      apply rg_yg (i := 19) Hops rfl hS rfl rfl rfl rfl
      · intro _ hq; clear hq; go_simp; try rfl
      try simp only [Act.put, pu1, pu2, pu3]
      refine rg_yn (i := 20) Hops rfl hS rfl rfl rfl rfl rfl ?_
      try simp only [Act.put, pu1, pu2, pu3]
      refine rg_yn (i := 21) Hops rfl hS rfl rfl rfl rfl rfl ?_
      try simp only [Act.put, pu1, pu2, pu3]
      apply rg_yg (i := 22) Hops rfl hS rfl rfl rfl rfl
      · intro _ hq; clear hq; go_simp; try rfl
      try simp only [Act.put, pu1, pu2, pu3]
      apply rg_yp (i := 23) Hops rfl hS rfl
      · intro _ hq; clear hq; go_simp; try rfl
      try simp only [Act.put, pu1, pu2, pu3]
      apply rg_yp (i := 24) Hops rfl hS rfl
      · intro _ hq; clear hq; go_simp; try rfl
      try simp only [Act.put, pu1, pu2, pu3]
      apply rg_yp (i := 25) Hops rfl hS rfl
      · intro _ hq; clear hq; go_simp; try rfl
      try simp only [Act.put, pu1, pu2, pu3]
      apply rg_yp (i := 26) Hops rfl hS rfl
      · intro _ hq; clear hq; go_simp; try rfl
      try simp only [Act.put, pu1, pu2, pu3]
      refine rg_done ?_
      refine HQrg.down _ _ ?_
      have hB : Below w.heap.size w wr4 := hS
      clear hS HQrg Hops
      go_wp2_with fail
      exact bodyPost_ret (results_tmp3' rfl _ _ _) rfl ⟨by rw [HF.out]; rfl, hB⟩

theorem i64_of {n : Int} (h : 0 ≤ n ∧ n ≤ 2305843009213693952) : IntKind.i64.wrap n = n := IntWalk.i64_in _ (by omega)
theorem i64_neg {n : Int} (h : 0 < n ∧ n ≤ 2305843009213693952) : IntKind.i64.wrap (-n + 18446744073709551616) = -n := by
  unfold IntKind.wrap
  simp [IntKind.signed, IntKind.bits]
  omega
set_option maxHeartbeats 1000000 in
theorem signed_spec (m : Bool) (n : Int) (w : World) (h : 0 ≤ n ∧ n ≤ 2305843009213693952) : Calls Tryz.prog 152 #[.bool m, .int .u64 n] w fun e w' => e = .returned (.tuple #[.int .i64 (if m then -n else n), .int .i64 0]) ∧ w = w' := by
  have k0 : ¬ 9223372036854775808 < n := by omega
  have k1 : (n == 9223372036854775808) = false := by rw [beq_eq_false_iff_ne]; omega
  have k2 := i64_of h
  cases m
  · clear h
    go_enter Tryz.func152, Tryz.ntmps152
    go_wp2_with fail
    go_ret2
    exact ⟨rfl, rfl⟩
  · by_cases h0 : n = 0
    · subst h0
      clear h k0 k1 k2
      go_enter Tryz.func152, Tryz.ntmps152
      go_wp2_with fail
      go_ret2
      exact ⟨rfl, rfl⟩
    · have k3 : IntKind.u64.wrap (-n) = -n + 18446744073709551616 := by rw [u64w]; omega
      have k4 : (-n) % 18446744073709551616 = -n + 18446744073709551616 := by omega
      have k5 := i64_neg (n := n) (by omega)
      clear h h0 k2
      go_enter Tryz.func152, Tryz.ntmps152
      go_wp2_with fail
      go_ret2
      exact ⟨rfl, rfl⟩

set_option maxRecDepth 100000 in
set_option maxHeartbeats 2000000 in
theorem rRound_spec (x y : Int) (w : World) (h : bd60 x) (hy : y ≠ 0) (hy' : bd60 y) : Calls Tryz.prog 125 #[.int .i64 x, .int .i64 y] w fun e w' => e = .returned (.tuple #[.int .i64 (roundS x y), .int .i64 0]) ∧ Below w.heap.size w w' := by
  rw [round_eq hy]
  unfold rroundS
  have HP := Lib.hid (fun w => parts_spec x y w h hy hy')
  have HY := Lib.hid (fun w => rsize_spec y w hy')
  have HSg := Lib.hid (fun (m : Bool) (n : Int) (w : World) h => signed_spec m n w h)
  have a1 := absS_bd h
  have a2 := absS_bd hy'
  have hpos : 0 < absS y := by unfold absS; split <;> omega
  obtain ⟨d1, d2, d3, d4⟩ := quo_bd a1 hpos
  have k0 : (y == 0) = false := by simpa using hy
  simp only
  generalize absS x / absS y = q at *
  generalize absS x % absS y = r at *
  generalize absS y = v at *
  generalize minusS x y = m at *
  have k1 : IntKind.u64.wrap (v - r) = v - r := by rw [u64w]; omega
  have k2 : (v - r) % 18446744073709551616 = v - r := by omega
  have k3 : IntKind.u64.wrap (q + 1) = q + 1 := by rw [u64w]; omega
  have k4 : (q + 1) % 18446744073709551616 = q + 1 := by omega
  have hq0 := Lib.hid (show 0 ≤ q ∧ q ≤ 2305843009213693952 by omega)
  have hq1 := Lib.hid (show 0 ≤ q + 1 ∧ q + 1 ≤ 2305843009213693952 by omega)
  generalize absS x = u at *
  clear a1 a2 hpos d1 d2 d3 d4 h hy hy'
  by_cases hc : v - r < r ∨ (r = v - r ∧ m = false)
  · rw [if_pos hc]
    have hc' : (v - r < r) ∨ (¬ v - r < r ∧ (r == v - r) = true ∧ m = false) := by
      rcases hc with h | ⟨h1, h2⟩
      · exact .inl h
      · by_cases h3 : v - r < r
        · exact .inl h3
        · exact .inr ⟨h3, by rw [beq_iff_eq]; exact h1, h2⟩
    clear hc
    rcases hc' with h1 | ⟨h1, h2, rfl⟩
    all_goals
      go_enter Tryz.func125, Tryz.ntmps125
      go_wp2_with fail
      refine (HP.out _).mono ?_
      rintro e w1 ⟨rfl, hb1⟩
      go_wp2_with fail
      refine (HY.out _).mono ?_
      rintro e w2 ⟨rfl, rfl⟩
      go_wp2_with fail
      refine (HSg.out _ _ _ hq1.out).mono ?_
      rintro e w3 ⟨rfl, rfl⟩
      go_wp2_with fail
      all_goals
        go_ret2
        exact ⟨rfl, hb1⟩
  · rw [if_neg hc]
    have h1 : ¬ v - r < r := fun e => hc (.inl e)
    have hc' : (r == v - r) = false ∨ ((r == v - r) = true ∧ m = true) := by
      by_cases h2 : r = v - r
      · right
        refine ⟨by rw [beq_iff_eq]; exact h2, ?_⟩
        cases m
        · exact absurd (.inr ⟨h2, rfl⟩) hc
        · rfl
      · left; rw [beq_eq_false_iff_ne]; exact h2
    clear hc
    rcases hc' with h2 | ⟨h2, rfl⟩
    all_goals
      go_enter Tryz.func125, Tryz.ntmps125
      go_wp2_with fail
      refine (HP.out _).mono ?_
      rintro e w1 ⟨rfl, hb1⟩
      go_wp2_with fail
      refine (HY.out _).mono ?_
      rintro e w2 ⟨rfl, rfl⟩
      go_wp2_with fail
      refine (HSg.out _ _ _ hq0.out).mono ?_
      rintro e w3 ⟨rfl, rfl⟩
      go_wp2_with fail
      all_goals
        go_ret2
        exact ⟨rfl, hb1⟩
end Go.Proofs.YtbjlnnfmcjbnhaaGreatDoor
