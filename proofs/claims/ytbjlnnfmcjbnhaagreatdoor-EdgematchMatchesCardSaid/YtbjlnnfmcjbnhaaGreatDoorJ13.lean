/- mapsheetsref40: Check, there, place. sheetgrid.find. sheetgrid.Box, Neighbor; mapsheetsref40.Box, Neighbor. (printed by gen/gridd.py) -/
import Derived.Test.YtbjlnnfmcjbnhaaGreatDoorJ12
set_option linter.unusedSimpArgs false
set_option linter.unusedVariables false
namespace Go.Proofs.YtbjlnnfmcjbnhaaGreatDoor
open Go.RowKit

theorem seIn_no {s : Se} (h1 : gridPt s.at_ = true) (h : seIn s = false) : s.width < 1 ∨ (¬ s.width < 1 ∧ 65536 < s.width) ∨ (¬ s.width < 1 ∧ ¬ 65536 < s.width ∧ s.height < 1) ∨ (¬ s.width < 1 ∧ ¬ 65536 < s.width ∧ ¬ s.height < 1 ∧ 65536 < s.height) ∨ (¬ s.width < 1 ∧ ¬ 65536 < s.width ∧ ¬ s.height < 1 ∧ ¬ 65536 < s.height ∧ s.cols < 1) ∨ (¬ s.width < 1 ∧ ¬ 65536 < s.width ∧ ¬ s.height < 1 ∧ ¬ 65536 < s.height ∧ ¬ s.cols < 1 ∧ 16 < s.cols) ∨ (¬ s.width < 1 ∧ ¬ 65536 < s.width ∧ ¬ s.height < 1 ∧ ¬ 65536 < s.height ∧ ¬ s.cols < 1 ∧ ¬ 16 < s.cols ∧ s.rows < 1) ∨ (¬ s.width < 1 ∧ ¬ 65536 < s.width ∧ ¬ s.height < 1 ∧ ¬ 65536 < s.height ∧ ¬ s.cols < 1 ∧ ¬ 16 < s.cols ∧ ¬ s.rows < 1 ∧ 16 < s.rows) := by
  unfold seIn at h
  rw [h1, Bool.true_and] at h
  simp only [Bool.and_eq_false_iff, rngI, decide_eq_false_iff_not] at h
  omega

set_option maxRecDepth 100000 in
set_option maxHeartbeats 8000000 in
theorem rCheck_spec (s : Se) (w : World) : Calls Tryz.prog 49 #[seV s] w fun e w' => e = .returned (.int .i64 (seCheck s)) ∧ Below w.heap.size w w' := by
  have TP : ∀ (p : Pt) (w : World), Calls Tryz.prog 93 #[ptV p] w _ := fun p w => Point_spec p w
  unfold ptV at TP
  have HP := Lib.hid TP
  have HP1 := Lib.hid (TP s.at_)
  have HP2 := Lib.hid (TP (seFar s))
  clear TP
  unfold seV
  obtain ⟨q, hq⟩ : ∃ q, seCheck s = q := ⟨_, rfl⟩
  rw [hq]
  have Hq := Lib.hid hq
  clear hq
  obtain ⟨z1, hz1⟩ : ∃ z, gridPt s.at_ = z := ⟨_, rfl⟩
  have Z1 := Lib.hid hz1
  clear hz1
  go_enter Tryz.func49, Tryz.ntmps49
  go_wp2_with fail
  refine (HP1.out _).mono ?_
  rintro e w1 ⟨rfl, hb1⟩
  rw [Z1.out]
  have X1 : Blk w1 w.heap.size 44 #[.int .i64 s.at_.x, .int .i64 s.at_.y, .int .i64 s.width, .int .i64 s.height, .int .i64 s.cols, .int .i64 s.rows] := (Blk.made rfl _ _).keep hb1
  have B1 := Lib.hid (bT (bA (bR w) _) hb1)
  clear hb1
  try clear X1l
  try clear X1a
  try clear X1b
  try clear X1c
  try clear X1d
  try clear X1e
  try clear X1f
  try clear X1fa
  try clear X1fb
  try clear X1fc
  try clear X1fd
  try clear X1fe
  try clear X1ff
  obtain ⟨X1l, X1a, X1b, X1c, X1d, X1e, X1f, -, -, -, -, -, -⟩ := X1.facts6
  cases z1
  case false =>
    have hf := Lib.hid (check_no (s := s) (by rw [seIn, Z1.out]; rfl))
    go_wp2_with fail
    go_ret
    exact ⟨ret_int (by rw [← Hq.out, hf.out]), B1.out⟩
  cases hin : seIn s
  case false =>
    have hf := Lib.hid (check_no hin)
    have hno := seIn_no Z1.out hin
    clear hin
    rcases hno with h1 | ⟨h1, h2⟩ | ⟨h1, h2, h3⟩ | ⟨h1, h2, h3, h4⟩ | ⟨h1, h2, h3, h4, h5⟩ | ⟨h1, h2, h3, h4, h5, h6⟩ | ⟨h1, h2, h3, h4, h5, h6, h7⟩ | ⟨h1, h2, h3, h4, h5, h6, h7, h8⟩
    all_goals
      go_wp2_with fail
      go_ret
      exact ⟨ret_int (by rw [← Hq.out, hf.out]), B1.out⟩
  have hbd := seIn_bd hin
  obtain ⟨k1, k2, k3, k4⟩ := wrap_far hbd
  have h1 : ¬ s.width < 1 := by have := hbd.w; omega
  have h2 : ¬ 65536 < s.width := by have := hbd.w; omega
  have h3 : ¬ s.height < 1 := by have := hbd.h; omega
  have h4 : ¬ 65536 < s.height := by have := hbd.h; omega
  have h5 : ¬ s.cols < 1 := by have := hbd.c; omega
  have h6 : ¬ 16 < s.cols := by have := hbd.c; omega
  have h7 : ¬ s.rows < 1 := by have := hbd.r; omega
  have h8 : ¬ 16 < s.rows := by have := hbd.r; omega
  have Hin := Lib.hid hin
  clear hin hbd
  go_wp2_with fail
  have HP2' := HP2.out
  unfold seFar at HP2'
  refine (HP2' _).mono ?_
  rintro e w2 ⟨rfl, hb2⟩
  have B2 := Lib.hid (bT B1.out hb2)
  clear hb2 k1 k2 k3 k4 X1 X1l X1a X1b X1c X1d X1e X1f h1 h2 h3 h4 h5 h6 h7 h8 HP2'
  obtain ⟨z6, hz6⟩ : ∃ z, gridPt ⟨s.at_.x + s.cols * s.width, s.at_.y + s.rows * s.height⟩ = z := ⟨_, rfl⟩
  rw [hz6]
  have hf : q = if z6 = true then 0 else 2 := by
    rw [← Hq.out, seCheck, seOk, Hin.out, seFar, hz6, Bool.true_and]
  have HF6 := Lib.hid hf
  clear hf hz6
  cases z6
  · go_wp2_with fail
    go_ret
    exact ⟨ret_int (by rw [HF6.out]; rfl), B2.out⟩
  · go_wp2_with fail
    go_ret
    exact ⟨ret_int (by rw [HF6.out]; rfl), B2.out⟩

theorem wrap_cr {s : Se} (h : SeBd s) : IntKind.i64.wrap (s.cols * s.rows) = s.cols * s.rows ∧ s.cols * s.rows ≤ 256 := by
  have h1 := mul_bds (a := s.cols) (b := s.rows) (m := 16) (n := 16) (by have := h.c; omega) h.c.2 (by have := h.r; omega) h.r.2
  exact ⟨IntWalk.i64_in _ (by omega), by omega⟩

set_option maxRecDepth 100000 in
set_option maxHeartbeats 2000000 in
theorem there_spec (s : Se) (n : Int) (w : World) (h : seOk s = true) : Calls Tryz.prog 60 #[seV s, .int .i64 n] w fun e w' => e = .returned (.bool (thereS s n)) ∧ Below w.heap.size w w' := by
  unfold seV thereS
  obtain ⟨k1, -⟩ := wrap_cr (seOk_bd h)
  clear h
  by_cases h1 : 1 ≤ n
  · go_enter Tryz.func60, Tryz.ntmps60
    go_wp2_with fail
    go_ret
    exact ⟨ret_bool (by first | rfl | (simp; done) | (rw [decide_eq_true (show 1 ≤ n by omega)]; rfl)), bA (bR w) _⟩
  · go_enter Tryz.func60, Tryz.ntmps60
    go_wp2_with fail
    go_ret
    exact ⟨ret_bool (by rw [decide_eq_false (show ¬ 1 ≤ n by omega)]; rfl), bA (bR w) _⟩

structure InS (s : Se) (n : Int) : Prop where
  ok : seOk s = true
  lo : 1 ≤ n
  hi : n ≤ s.cols * s.rows
theorem InS.of {s : Se} {n : Int} (h1 : seOk s = true) (h2 : thereS s n = true) : InS s n := by
  unfold thereS at h2
  simp only [Bool.and_eq_true, decide_eq_true_eq] at h2
  exact ⟨h1, h2.1, h2.2⟩
theorem InS.bd {s : Se} {n : Int} (h : InS s n) : 0 ≤ colS s n ∧ colS s n < s.cols ∧ 0 ≤ rowS s n ∧ rowS s n < s.rows ∧ n = rowS s n * s.cols + colS s n + 1 := by
  have hb := seOk_bd h.ok
  have h1 := h.lo; have h2 := h.hi
  have hc := hb.c
  unfold colS rowS
  rw [Int.tmod_eq_emod_of_nonneg (by omega), Int.tdiv_eq_ediv_of_nonneg (by omega)]
  have e1 := Int.emod_nonneg (n - 1) (show s.cols ≠ 0 by omega)
  have e2 := Int.emod_lt_of_pos (n - 1) (show 0 < s.cols by omega)
  have e3 := Int.mul_ediv_add_emod (n - 1) s.cols
  have e4 : 0 ≤ (n - 1) / s.cols := Int.ediv_nonneg (by omega) (by omega)
  refine ⟨e1, e2, e4, ?_, ?_⟩
  · rcases Int.lt_or_le ((n - 1) / s.cols) s.rows with h3 | h3
    · exact h3
    · have := Int.mul_le_mul_of_nonneg_left h3 (show 0 ≤ s.cols by omega)
      omega
  · rw [Int.mul_comm]; omega

set_option maxRecDepth 100000 in
set_option maxHeartbeats 2000000 in
theorem place_spec (s : Se) (n : Int) (w : World) (h : InS s n) : Calls Tryz.prog 61 #[seV s, .int .i64 n] w fun e w' => e = .returned (.tuple #[.int .i64 (colS s n), .int .i64 (rowS s n)]) ∧ Below w.heap.size w w' := by
  unfold seV
  have hb := seOk_bd h.ok
  have hc := hb.c
  have h1 := h.lo; have h2 := h.hi
  have hi := (wrap_cr hb).2
  have hbd := h.bd
  have k1 : IntKind.i64.wrap (n - 1) = n - 1 := IntWalk.i64_in _ (by omega)
  have k2 : ¬ s.cols = 0 := by omega
  have hbr := hb.r
  have k3 : IntKind.i64.wrap ((n - 1).tmod s.cols) = (n - 1).tmod s.cols := IntWalk.i64_in _ (by unfold colS at hbd; omega)
  have k4 : IntKind.i64.wrap ((n - 1).tdiv s.cols) = (n - 1).tdiv s.cols := IntWalk.i64_in _ (by unfold rowS at hbd; omega)
  unfold colS rowS
  clear h hb hc h1 h2 hi hbd hbr
  go_enter Tryz.func61, Tryz.ntmps61
  go_upto_region 1 with fail
  obtain ⟨W, hW⟩ : ∃ W : World, W = w.alloc (.cells #[.int .i64 s.at_.x, .int .i64 s.at_.y, .int .i64 s.width, .int .i64 s.height, .int .i64 s.cols, .int .i64 s.rows] 44) := ⟨_, rfl⟩
  have Bw : Below w.heap.size w W := by rw [hW]; exact bA (bR w) _
  have X1 : Blk W w.heap.size 44 #[.int .i64 s.at_.x, .int .i64 s.at_.y, .int .i64 s.width, .int .i64 s.height, .int .i64 s.cols, .int .i64 s.rows] := by rw [hW]; exact Blk.made rfl _ _
  rw [← hW]
  clear hW
  try clear X1l
  try clear X1a
  try clear X1b
  try clear X1c
  try clear X1d
  try clear X1e
  try clear X1f
  try clear X1fa
  try clear X1fb
  try clear X1fc
  try clear X1fd
  try clear X1fe
  try clear X1ff
  obtain ⟨X1l, X1a, X1b, X1c, X1d, X1e, X1f, -, -, -, -, -, -⟩ := X1.facts6
  refine rg_start (Since W) (.take 0 1 (.take 1 3 (.take 2 7 (.take 3 15 (.take 4 31 (.take 5 63 (.take 6 127 (.take 7 255 (.take 8 511 (.take 9 1023 (.take 10 2047 (.take 11 4095 (.done))))))))))))) (by kernel_rfl) (bD (bR _)) (by kernel_rfl) (by kernel_rfl) (Nat.le_of_ble_eq_true (by kernel_rfl)) ?_
  intro opsR QR Hops HQrg hS
  apply rg_yp (i := 0) Hops rfl hS rfl
  · intro _ hq; clear hq; go_simp; try rfl
  try simp only [Act.put, pu1, pu2, pu3]
  apply rg_yp (i := 1) Hops rfl hS rfl
  · intro _ hq; clear hq; go_simp; try rfl
  try simp only [Act.put, pu1, pu2, pu3]
  apply rg_yp (i := 2) Hops rfl hS rfl
  · intro _ hq; clear hq; go_simp; try rfl
  try simp only [Act.put, pu1, pu2, pu3]
  apply rg_yp (i := 3) Hops rfl hS rfl
  · intro wq hq; obtain ⟨hqc, -⟩ := bcell (show Below W.heap.size W wq from hq); clear hq; go_simp; try rfl
  try simp only [Act.put, pu1, pu2, pu3]
  apply rg_yp (i := 4) Hops rfl hS rfl
  · intro _ hq; clear hq; go_simp; try rfl
  try simp only [Act.put, pu1, pu2, pu3]
  apply rg_yp (i := 5) Hops rfl hS rfl
  · intro _ hq; clear hq; go_simp; try rfl
  try simp only [Act.put, pu1, pu2, pu3]
  apply rg_yp (i := 6) Hops rfl hS rfl
  · intro _ hq; clear hq; go_simp; try rfl
  try simp only [Act.put, pu1, pu2, pu3]
  apply rg_yp (i := 7) Hops rfl hS rfl
  · intro _ hq; clear hq; go_simp; try rfl
  try simp only [Act.put, pu1, pu2, pu3]
  apply rg_yp (i := 8) Hops rfl hS rfl
  · intro wq hq; obtain ⟨hqc, -⟩ := bcell (show Below W.heap.size W wq from hq); clear hq; go_simp; try rfl
  try simp only [Act.put, pu1, pu2, pu3]
  apply rg_yp (i := 9) Hops rfl hS rfl
  · intro _ hq; clear hq; go_simp; try rfl
  try simp only [Act.put, pu1, pu2, pu3]
  apply rg_yp (i := 10) Hops rfl hS rfl
  · intro _ hq; clear hq; go_simp; try rfl
  try simp only [Act.put, pu1, pu2, pu3]
  apply rg_yp (i := 11) Hops rfl hS rfl
  · intro _ hq; clear hq; go_simp; try rfl
  try simp only [Act.put, pu1, pu2, pu3]
  refine rg_done ?_
  refine HQrg.down _ _ ?_
  have hB : Below W.heap.size W W.drew := hS
  clear hS HQrg Hops
  go_wp2_with fail
  go_ret2
  exact ⟨rfl, bT Bw hB⟩
theorem results_tmp3 {fn : Func} {t u v : Tmp} (h : fn.results = #[.tmp t, .tmp u, .tmp v]) (tmps : Array Value) (P : Program) (w : World) : (results fn tmps).run P w = .ok (.tuple #[tmps.getD t undef, tmps.getD u undef, tmps.getD v undef]) w := by
  simp [results, h]
/-- what 'find' gives back -/
def findRes (s : Se) (n : Int) : Value := if findE s n = 0 then .tuple #[.int .i64 (colS s n), .int .i64 (rowS s n), .int .i64 0] else .tuple #[.int .i64 0, .int .i64 0, .int .i64 (findE s n)]
theorem findE_zero {s : Se} {n : Int} : findE s n = 0 ↔ InS s n := by
  unfold findE
  constructor
  · intro h
    by_cases h1 : seOk s = true
    · rw [if_pos h1] at h
      by_cases h2 : thereS s n = true
      · exact InS.of h1 h2
      · rw [if_neg h2] at h; omega
    · rw [if_neg h1] at h; omega
  · intro h
    rw [if_pos h.ok, if_pos]
    unfold thereS
    simp [h.lo, h.hi]

set_option maxRecDepth 100000 in
set_option maxHeartbeats 4000000 in
theorem find_spec (s : Se) (n : Int) (w : World) : Calls Tryz.prog 77 #[seV s, .int .i64 n] w fun e w' => e = .returned (findRes s n) ∧ Below w.heap.size w w' := by
  have TC : ∀ w, Calls Tryz.prog 47 #[seV s] w _ := fun w => sCheck_spec s w
  unfold seV at TC
  unfold seV
  have HC := Lib.hid TC
  clear TC
  obtain ⟨r, hr⟩ : ∃ r, findRes s n = r := ⟨_, rfl⟩
  rw [hr]
  have Hr := Lib.hid hr
  clear hr
  go_enter Tryz.func77, Tryz.ntmps77
  go_wp2_with fail
  refine (HC.out _).mono ?_
  rintro e w1 ⟨rfl, hb1⟩
  have X1 : Blk w1 w.heap.size 44 #[.int .i64 s.at_.x, .int .i64 s.at_.y, .int .i64 s.width, .int .i64 s.height, .int .i64 s.cols, .int .i64 s.rows] := (Blk.made rfl _ _).keep hb1
  have B1 := Lib.hid (bT (bA (bR w) _) hb1)
  clear hb1
  try clear X1l
  try clear X1a
  try clear X1b
  try clear X1c
  try clear X1d
  try clear X1e
  try clear X1f
  try clear X1fa
  try clear X1fb
  try clear X1fc
  try clear X1fd
  try clear X1fe
  try clear X1ff
  obtain ⟨X1l, X1a, X1b, X1c, X1d, X1e, X1f, -, -, -, -, -, -⟩ := X1.facts6
  by_cases hok : seOk s = true
  case neg =>
    have hf : seCheck s = 2 := by unfold seCheck; rw [if_neg hok]
    have hE : r = .tuple #[.int .i64 0, .int .i64 0, .int .i64 2] := by
      rw [← Hr.out]
      have : findE s n = 2 := by unfold findE; rw [if_neg hok]
      unfold findRes
      rw [this]; rfl
    have HE := Lib.hid hE
    rw [hf]
    clear hf hok hE
    go_wp2_with fail
    have h := HE.out
    subst h
    exact bodyPost_ret (results_tmp3 rfl _ _ _) rfl ⟨rfl, B1.out⟩
  have hf : seCheck s = 0 := by unfold seCheck; rw [if_pos hok]
  have hb := seOk_bd hok
  obtain ⟨k1, k2⟩ := wrap_cr hb
  have hc := hb.c
  rw [hf]
  by_cases h1 : n < 1
  · have hE : r = .tuple #[.int .i64 0, .int .i64 0, .int .i64 7] := by
      rw [← Hr.out]
      have : findE s n = 7 := by
        unfold findE; rw [if_pos hok, if_neg]
        unfold thereS; simp; omega
      unfold findRes
      rw [this]; rfl
    have HE := Lib.hid hE
    clear hf hok hE hb k1 k2 hc
    go_wp2_with fail
    have h := HE.out
    subst h
    exact bodyPost_ret (results_tmp3 rfl _ _ _) rfl ⟨rfl, B1.out⟩
  by_cases h2 : s.cols * s.rows < n
  · have hE : r = .tuple #[.int .i64 0, .int .i64 0, .int .i64 7] := by
      rw [← Hr.out]
      have : findE s n = 7 := by
        unfold findE; rw [if_pos hok, if_neg]
        unfold thereS; simp; omega
      unfold findRes
      rw [this]; rfl
    have HE := Lib.hid hE
    clear hf hok hE hb k2 hc
    go_wp2_with fail
    have h := HE.out
    subst h
    exact bodyPost_ret (results_tmp3 rfl _ _ _) rfl ⟨rfl, B1.out⟩
  have hin : InS s n := ⟨hok, by omega, by omega⟩
  have hE : r = .tuple #[.int .i64 (colS s n), .int .i64 (rowS s n), .int .i64 0] := by
    rw [← Hr.out]
    unfold findRes
    rw [if_pos (findE_zero.2 hin)]
  have HE := Lib.hid hE
  have hbd := hin.bd
  have hbr := hb.r
  have k5 : IntKind.i64.wrap (n - 1) = n - 1 := IntWalk.i64_in _ (by omega)
  have k6 : ¬ s.cols = 0 := by omega
  have k3 : IntKind.i64.wrap ((n - 1).tmod s.cols) = (n - 1).tmod s.cols := IntWalk.i64_in _ (by unfold colS at hbd; omega)
  have k4 : IntKind.i64.wrap ((n - 1).tdiv s.cols) = (n - 1).tdiv s.cols := IntWalk.i64_in _ (by unfold rowS at hbd; omega)
  clear hf hok hE hb k2 hc hin hbd hbr
  go_upto_region 6 with fail
  refine rg_start (Since w1) (.take 0 1 (.take 1 3 (.take 2 7 (.take 3 15 (.take 4 31 (.take 5 63 (.take 6 127 (.take 7 255 (.take 8 511 (.take 9 1023 (.take 10 2047 (.take 11 4095 (.take 12 8191 (.done)))))))))))))) (by kernel_rfl) (bD (bR _)) (by kernel_rfl) (by kernel_rfl) (Nat.le_of_ble_eq_true (by kernel_rfl)) ?_
  intro opsR QR Hops HQrg hS
  apply rg_yp (i := 0) Hops rfl hS rfl
  · intro _ hq; clear hq; go_simp; try rfl
  try simp only [Act.put, pu1, pu2, pu3]
  apply rg_yp (i := 1) Hops rfl hS rfl
  · intro _ hq; clear hq; go_simp; try rfl
  try simp only [Act.put, pu1, pu2, pu3]
  apply rg_yp (i := 2) Hops rfl hS rfl
  · intro _ hq; clear hq; go_simp; try rfl
  try simp only [Act.put, pu1, pu2, pu3]
  apply rg_yp (i := 3) Hops rfl hS rfl
  · intro wq hq; obtain ⟨hqc, -⟩ := bcell (show Below w1.heap.size w1 wq from hq); clear hq; go_simp; try rfl
  try simp only [Act.put, pu1, pu2, pu3]
  apply rg_yp (i := 4) Hops rfl hS rfl
  · intro _ hq; clear hq; go_simp; try rfl
  try simp only [Act.put, pu1, pu2, pu3]
  apply rg_yp (i := 5) Hops rfl hS rfl
  · intro _ hq; clear hq; go_simp; try rfl
  try simp only [Act.put, pu1, pu2, pu3]
  apply rg_yp (i := 6) Hops rfl hS rfl
  · intro _ hq; clear hq; go_simp; try rfl
  try simp only [Act.put, pu1, pu2, pu3]
  apply rg_yp (i := 7) Hops rfl hS rfl
  · intro _ hq; clear hq; go_simp; try rfl
  try simp only [Act.put, pu1, pu2, pu3]
  apply rg_yp (i := 8) Hops rfl hS rfl
  · intro wq hq; obtain ⟨hqc, -⟩ := bcell (show Below w1.heap.size w1 wq from hq); clear hq; go_simp; try rfl
  try simp only [Act.put, pu1, pu2, pu3]
  apply rg_yp (i := 9) Hops rfl hS rfl
  · intro _ hq; clear hq; go_simp; try rfl
  try simp only [Act.put, pu1, pu2, pu3]
  apply rg_yp (i := 10) Hops rfl hS rfl
  · intro _ hq; clear hq; go_simp; try rfl
  try simp only [Act.put, pu1, pu2, pu3]
  apply rg_yp (i := 11) Hops rfl hS rfl
  · intro _ hq; clear hq; go_simp; try rfl
  try simp only [Act.put, pu1, pu2, pu3]
  apply rg_yp (i := 12) Hops rfl hS rfl
  · intro _ hq; clear hq; go_simp; try rfl
  try simp only [Act.put, pu1, pu2, pu3]
  refine rg_done ?_
  refine HQrg.down _ _ ?_
  have hB : Below w1.heap.size w1 w1.drew := hS
  clear hS HQrg Hops
  have HB := Lib.hid (bT B1.out hB)
  go_wp2_with fail
  have h := HE.out
  unfold colS rowS at h
  subst h
  exact bodyPost_ret (results_tmp3 rfl _ _ _) rfl ⟨rfl, HB.out⟩
end Go.Proofs.YtbjlnnfmcjbnhaaGreatDoor
namespace Go.Proofs.YtbjlnnfmcjbnhaaGreatDoor
open Go.RowKit

theorem box_wraps {s : Se} {n : Int} (h : InS s n) : IntKind.i64.wrap (colS s n * s.width) = colS s n * s.width ∧ IntKind.i64.wrap (s.at_.x + colS s n * s.width) = s.at_.x + colS s n * s.width ∧ IntKind.i64.wrap (rowS s n * s.height) = rowS s n * s.height ∧ IntKind.i64.wrap (s.at_.y + rowS s n * s.height) = s.at_.y + rowS s n * s.height ∧ IntKind.i64.wrap (s.at_.x + colS s n * s.width + s.width) = s.at_.x + colS s n * s.width + s.width ∧ IntKind.i64.wrap (s.at_.y + rowS s n * s.height + s.height) = s.at_.y + rowS s n * s.height + s.height := by
  have hb := seOk_bd h.ok
  have hi := h.bd
  have hx := hb.x; have hy := hb.y; have hw := hb.w; have hh := hb.h; have hc := hb.c; have hr := hb.r
  have h1 := mul_bds (a := colS s n) (b := s.width) (m := 16) (n := 65536) hi.1 (by omega) (by omega) hw.2
  have h2 := mul_bds (a := rowS s n) (b := s.height) (m := 16) (n := 65536) hi.2.2.1 (by omega) (by omega) hh.2
  exact ⟨IntWalk.i64_in _ (by omega), IntWalk.i64_in _ (by omega), IntWalk.i64_in _ (by omega), IntWalk.i64_in _ (by omega), IntWalk.i64_in _ (by omega), IntWalk.i64_in _ (by omega)⟩
def boxV (r : Bx × Int) : Value := .tuple #[bxV r.1, .int .i64 r.2]
theorem boxRes_in {s : Se} {n : Int} (h : InS s n) : boxRes s n = (boxOf s n, 0) := by
  unfold boxRes; rw [if_pos (findE_zero.2 h)]
theorem boxRes_out {s : Se} {n : Int} (h : ¬ InS s n) : boxRes s n = (bx0, findE s n) ∧ findE s n ≠ 0 := by
  have h' : findE s n ≠ 0 := fun e => h (findE_zero.1 e)
  unfold boxRes; rw [if_neg h']; exact ⟨rfl, h'⟩

set_option maxRecDepth 100000 in
set_option maxHeartbeats 4000000 in
theorem sBox_spec (s : Se) (n : Int) (w : World) : Calls Tryz.prog 38 #[seV s, .int .i64 n] w fun e w' => e = .returned (boxV (boxRes s n)) ∧ Below w.heap.size w w' := by
  have TF : ∀ w, Calls Tryz.prog 77 #[seV s, .int .i64 n] w _ := fun w => find_spec s n w
  unfold seV at TF
  unfold seV
  by_cases hin : InS s n
  case neg =>
    obtain ⟨h1, h2⟩ := boxRes_out hin
    have hfr : findRes s n = .tuple #[.int .i64 0, .int .i64 0, .int .i64 (findE s n)] := by unfold findRes; rw [if_neg h2]
    rw [hfr] at TF
    rw [h1]
    have HF := Lib.hid TF
    have h2' : (findE s n != 0) = true := by simp [h2]
    clear TF h1 hfr h2
    generalize findE s n = z at *
    unfold boxV bxV bx0
    go_enter Tryz.func38, Tryz.ntmps38
    go_wp2_with fail
    refine (HF.out _).mono ?_
    rintro e w1 ⟨rfl, hb1⟩
    have B1 := Lib.hid (bT (bA (bA (bR w) _) _) hb1)
    have X4 : Blk w1 (w.heap.size + 1) 27 #[.int .i64 0, .int .i64 0, .int .i64 0, .int .i64 0] := (Blk.made (by simp) _ _).keep hb1
    clear hb1
    have HX4 := Lib.hid X4
    try clear X4l
    try clear X4a
    try clear X4b
    try clear X4c
    try clear X4d
    try clear X4fa
    try clear X4fb
    try clear X4fc
    try clear X4fd
    obtain ⟨X4l, X4a, X4b, X4c, X4d, X4fa, X4fb, X4fc, X4fd⟩ := X4.facts4
    go_wp2_with fail
    refine res_cell_tmp (t := 27) (g := w.heap.size + 1) (cs := #[.int .i64 0, .int .i64 0, .int .i64 0, .int .i64 0]) rfl struct_bx rfl rfl ?_ ⟨rfl, ?_⟩
    · exact Blk.put4 HX4.out
    · exact bS (bS (bS (bS B1.out (by simp) _) (by simp) _) (by simp) _) (by simp) _
  have hfr : findRes s n = .tuple #[.int .i64 (colS s n), .int .i64 (rowS s n), .int .i64 0] := by unfold findRes; rw [if_pos (findE_zero.2 hin)]
  rw [hfr] at TF
  rw [boxRes_in hin]
  obtain ⟨k1, k2, k3, k4, k5, k6⟩ := box_wraps hin
  have HF := Lib.hid TF
  clear TF hfr hin
  unfold boxV bxV boxOf
  generalize colS s n = c at *
  generalize rowS s n = r at *
  go_enter Tryz.func38, Tryz.ntmps38
  go_wp2_with fail
  refine (HF.out _).mono ?_
  rintro e w1 ⟨rfl, hb1⟩
  have B1 := Lib.hid (bT (bA (bA (bR w) _) _) hb1)
  have X1 : Blk w1 w.heap.size 44 #[.int .i64 s.at_.x, .int .i64 s.at_.y, .int .i64 s.width, .int .i64 s.height, .int .i64 s.cols, .int .i64 s.rows] := ((Blk.made rfl _ _).alloc _).keep hb1
  have X4 : Blk w1 (w.heap.size + 1) 27 #[.int .i64 0, .int .i64 0, .int .i64 0, .int .i64 0] := (Blk.made (by simp) _ _).keep hb1
  clear hb1
  have HX4 := Lib.hid X4
  try clear X1l
  try clear X1a
  try clear X1b
  try clear X1c
  try clear X1d
  try clear X1e
  try clear X1f
  try clear X1fa
  try clear X1fb
  try clear X1fc
  try clear X1fd
  try clear X1fe
  try clear X1ff
  obtain ⟨X1l, X1a, X1b, X1c, X1d, X1e, X1f, -, -, -, -, -, -⟩ := X1.facts6
  try clear X4l
  try clear X4a
  try clear X4b
  try clear X4c
  try clear X4d
  try clear X4fa
  try clear X4fb
  try clear X4fc
  try clear X4fd
  obtain ⟨X4l, X4a, X4b, X4c, X4d, X4fa, X4fb, X4fc, X4fd⟩ := X4.facts4
  go_wp2_with fail
  refine res_cell_tmp (t := 27) (g := w.heap.size + 1) (cs := #[.int .i64 (s.at_.x + c * s.width), .int .i64 (s.at_.y + r * s.height), .int .i64 (s.at_.x + c * s.width + s.width), .int .i64 (s.at_.y + r * s.height + s.height)]) rfl struct_bx rfl rfl ?_ ⟨rfl, ?_⟩
  · have h := Blk.put4 (x0 := .int .i64 (s.at_.x + c * s.width)) (x1 := .int .i64 (s.at_.y + r * s.height)) (x2 := .int .i64 (s.at_.x + c * s.width + s.width)) (x3 := .int .i64 (s.at_.y + r * s.height + s.height)) (Blk.put4 (x0 := .int .i64 (s.at_.x + c * s.width)) (x1 := .int .i64 (s.at_.y + r * s.height)) (x2 := .int .i64 (s.at_.x + c * s.width + s.width)) (x3 := .int .i64 (s.at_.y + r * s.height + s.height)) HX4.out)
    first | exact h | exact Blk.put4 HX4.out
  · first | exact bS (bS (bS (bS (bS (bS (bS (bS B1.out (by simp) _) (by simp) _) (by simp) _) (by simp) _) (by simp) _) (by simp) _) (by simp) _) (by simp) _ | exact bS (bS (bS (bS B1.out (by simp) _) (by simp) _) (by simp) _) (by simp) _

set_option maxRecDepth 100000 in
set_option maxHeartbeats 4000000 in
theorem rBox_spec (s : Se) (n : Int) (w : World) : Calls Tryz.prog 42 #[seV s, .int .i64 n] w fun e w' => e = .returned (boxV (boxRes s n)) ∧ Below w.heap.size w w' := by
  have TC : ∀ w, Calls Tryz.prog 49 #[seV s] w _ := fun w => rCheck_spec s w
  unfold seV at TC
  have HC := Lib.hid TC
  have HT := Lib.hid (fun (w : World) (h : seOk s = true) => there_spec s n w h)
  have HPl := Lib.hid (fun (w : World) (h : InS s n) => place_spec s n w h)
  clear TC
  unfold seV at HT HPl
  unfold seV
  have B0 : Below w.heap.size w ((w.alloc (.cells #[.int .i64 s.at_.x, .int .i64 s.at_.y, .int .i64 s.width, .int .i64 s.height, .int .i64 s.cols, .int .i64 s.rows] 44)).alloc (.cells #[.int .i64 0, .int .i64 0, .int .i64 0, .int .i64 0] 27)) := bA (bA (bR w) _) _
  have HB0 := Lib.hid B0
  clear B0
  obtain ⟨r, hr⟩ : ∃ r, boxRes s n = r := ⟨_, rfl⟩
  rw [hr]
  have Hr := Lib.hid hr
  clear hr
  unfold boxV bxV
  go_enter Tryz.func42, Tryz.ntmps42
  go_wp2_with fail
  refine (HC.out _).mono ?_
  rintro e w1 ⟨rfl, hb1⟩
  have HX1 : Hid (Blk w1 w.heap.size 44 #[.int .i64 s.at_.x, .int .i64 s.at_.y, .int .i64 s.width, .int .i64 s.height, .int .i64 s.cols, .int .i64 s.rows]) := Lib.hid (((Blk.made rfl _ _).alloc _).keep hb1)
  have HX4 : Hid (Blk w1 (w.heap.size + 1) 27 #[.int .i64 0, .int .i64 0, .int .i64 0, .int .i64 0]) := Lib.hid ((Blk.made (by simp) _ _).keep hb1)
  have B1 := Lib.hid (bT HB0.out hb1)
  clear hb1
  have X1 := HX1.out
  have X4 := HX4.out
  try clear X1l
  try clear X1a
  try clear X1b
  try clear X1c
  try clear X1d
  try clear X1e
  try clear X1f
  try clear X1fa
  try clear X1fb
  try clear X1fc
  try clear X1fd
  try clear X1fe
  try clear X1ff
  obtain ⟨X1l, X1a, X1b, X1c, X1d, X1e, X1f, -, -, -, -, -, -⟩ := X1.facts6
  try clear X4l
  try clear X4a
  try clear X4b
  try clear X4c
  try clear X4d
  try clear X4fa
  try clear X4fb
  try clear X4fc
  try clear X4fd
  obtain ⟨X4l, X4a, X4b, X4c, X4d, X4fa, X4fb, X4fc, X4fd⟩ := X4.facts4
  by_cases hok : seOk s = true
  case neg =>
    have hs : seCheck s = 2 := by unfold seCheck; rw [if_neg hok]
    have hrr := (boxRes_out (s := s) (n := n) (fun h => hok h.ok)).1
    have hfe : findE s n = 2 := by unfold findE; rw [if_neg hok]
    rw [Hr.out, hfe] at hrr
    rw [hs]
    clear hs hok hfe
    have HRr := Lib.hid hrr
    clear hrr
    go_wp2_with fail
    have h := HRr.out
    subst h
    refine res_cell_tmp (t := 27) (g := w.heap.size + 1) (cs := #[.int .i64 0, .int .i64 0, .int .i64 0, .int .i64 0]) rfl struct_bx rfl rfl ?_ ⟨rfl, ?_⟩
    · exact Blk.put4 HX4.out
    · exact bS (bS (bS (bS B1.out (by simp) _) (by simp) _) (by simp) _) (by simp) _
  have hs : seCheck s = 0 := by unfold seCheck; rw [if_pos hok]
  rw [hs]
  clear hs
  have Hok := Lib.hid hok
  clear hok
  go_wp2_with fail
  refine (HT.out _ Hok.out).mono ?_
  rintro e w2 ⟨rfl, hb2⟩
  have B2 := Lib.hid (bT B1.out hb2)
  replace HX1 := Lib.hid (HX1.out.keep hb2)
  replace HX4 := Lib.hid (HX4.out.keep hb2)
  clear hb2 X1 X4 X1l X1a X1b X1c X1d X1e X1f X4l X4a X4b X4c X4d X4fa X4fb X4fc X4fd
  have X1 := HX1.out
  have X4 := HX4.out
  try clear X1l
  try clear X1a
  try clear X1b
  try clear X1c
  try clear X1d
  try clear X1e
  try clear X1f
  try clear X1fa
  try clear X1fb
  try clear X1fc
  try clear X1fd
  try clear X1fe
  try clear X1ff
  obtain ⟨X1l, X1a, X1b, X1c, X1d, X1e, X1f, -, -, -, -, -, -⟩ := X1.facts6
  try clear X4l
  try clear X4a
  try clear X4b
  try clear X4c
  try clear X4d
  try clear X4fa
  try clear X4fb
  try clear X4fc
  try clear X4fd
  obtain ⟨X4l, X4a, X4b, X4c, X4d, X4fa, X4fb, X4fc, X4fd⟩ := X4.facts4
  cases hth : thereS s n
  case false =>
    have hrr := (boxRes_out (s := s) (n := n) (fun h => by
      have h1 : thereS s n = true := by unfold thereS; simp [h.lo, h.hi]
      rw [hth] at h1; cases h1)).1
    have hfe : findE s n = 7 := by unfold findE; rw [if_pos Hok.out, hth]; rfl
    rw [Hr.out, hfe] at hrr
    have HRr := Lib.hid hrr
    clear hrr hth hfe
    go_wp2_with fail
    have h := HRr.out
    subst h
    refine res_cell_tmp (t := 27) (g := w.heap.size + 1) (cs := #[.int .i64 0, .int .i64 0, .int .i64 0, .int .i64 0]) rfl struct_bx rfl rfl ?_ ⟨rfl, ?_⟩
    · exact Blk.put4 HX4.out
    · exact bS (bS (bS (bS B2.out (by simp) _) (by simp) _) (by simp) _) (by simp) _
  have hin := InS.of Hok.out hth
  have hrr := boxRes_in hin
  rw [Hr.out] at hrr
  have HRr := Lib.hid hrr
  have Hin := Lib.hid hin
  clear hrr hth hin
  go_wp2_with fail
  refine (HPl.out _ Hin.out).mono ?_
  rintro e w3 ⟨rfl, hb3⟩
  have B3 := Lib.hid (bT B2.out hb3)
  replace HX1 := Lib.hid (HX1.out.keep hb3)
  replace HX4 := Lib.hid (HX4.out.keep hb3)
  clear hb3 X1 X4 X1l X1a X1b X1c X1d X1e X1f X4l X4a X4b X4c X4d X4fa X4fb X4fc X4fd
  have X1 := HX1.out
  have X4 := HX4.out
  try clear X1l
  try clear X1a
  try clear X1b
  try clear X1c
  try clear X1d
  try clear X1e
  try clear X1f
  try clear X1fa
  try clear X1fb
  try clear X1fc
  try clear X1fd
  try clear X1fe
  try clear X1ff
  obtain ⟨X1l, X1a, X1b, X1c, X1d, X1e, X1f, -, -, -, -, -, -⟩ := X1.facts6
  try clear X4l
  try clear X4a
  try clear X4b
  try clear X4c
  try clear X4d
  try clear X4fa
  try clear X4fb
  try clear X4fc
  try clear X4fd
  obtain ⟨X4l, X4a, X4b, X4c, X4d, X4fa, X4fb, X4fc, X4fd⟩ := X4.facts4
  obtain ⟨k1, k2, k3, k4, k5, k6⟩ := box_wraps Hin.out
  have hrr := HRr.out
  unfold boxOf at hrr
  generalize colS s n = c at *
  generalize rowS s n = rr at *
  have HRr2 := Lib.hid hrr
  clear hrr
  go_upto_region 7 with fail
  refine rg_start (Since w3) (.take 0 1 (.take 1 3 (.take 2 7 (.take 3 15 (.take 4 31 (.take 5 63 (.take 6 127 (.take 7 255 (.take 8 511 (.take 9 1023 (.take 10 2047 (.take 11 4095 (.take 12 8191 (.take 13 16383 (.take 14 32767 (.take 15 65535 (.take 16 131071 (.take 17 262143 (.done))))))))))))))))))) (by kernel_rfl) (bD (bR _)) (by kernel_rfl) (by kernel_rfl) (Nat.le_of_ble_eq_true (by kernel_rfl)) ?_
  intro opsR QR Hops HQrg hS
  apply rg_yp (i := 0) Hops rfl hS rfl
  · intro _ hq; clear hq; go_simp; try rfl
  try simp only [Act.put, pu1, pu2, pu3]
  apply rg_yp (i := 1) Hops rfl hS rfl
  · intro _ hq; clear hq; go_simp; try rfl
  try simp only [Act.put, pu1, pu2, pu3]
  apply rg_yp (i := 2) Hops rfl hS rfl
  · intro wq hq; obtain ⟨hqc, -⟩ := bcell (show Below w3.heap.size w3 wq from hq); clear hq; go_simp; try rfl
  try simp only [Act.put, pu1, pu2, pu3]
  apply rg_yp (i := 3) Hops rfl hS rfl
  · intro _ hq; clear hq; go_simp; try rfl
  try simp only [Act.put, pu1, pu2, pu3]
  apply rg_yp (i := 4) Hops rfl hS rfl
  · intro _ hq; clear hq; go_simp; try rfl
  try simp only [Act.put, pu1, pu2, pu3]
  apply rg_yp (i := 5) Hops rfl hS rfl
  · intro wq hq; obtain ⟨hqc, -⟩ := bcell (show Below w3.heap.size w3 wq from hq); clear hq; go_simp; try rfl
  try simp only [Act.put, pu1, pu2, pu3]
  apply rg_yp (i := 6) Hops rfl hS rfl
  · intro _ hq; clear hq; go_simp; try rfl
  try simp only [Act.put, pu1, pu2, pu3]
  apply rg_yp (i := 7) Hops rfl hS rfl
  · intro _ hq; clear hq; go_simp; try rfl
  try simp only [Act.put, pu1, pu2, pu3]
  apply rg_yp (i := 8) Hops rfl hS rfl
  · intro _ hq; clear hq; go_simp; try rfl
  try simp only [Act.put, pu1, pu2, pu3]
  apply rg_yp (i := 9) Hops rfl hS rfl
  · intro _ hq; clear hq; go_simp; try rfl
  try simp only [Act.put, pu1, pu2, pu3]
  apply rg_yp (i := 10) Hops rfl hS rfl
  · intro wq hq; obtain ⟨hqc, -⟩ := bcell (show Below w3.heap.size w3 wq from hq); clear hq; go_simp; try rfl
  try simp only [Act.put, pu1, pu2, pu3]
  apply rg_yp (i := 11) Hops rfl hS rfl
  · intro _ hq; clear hq; go_simp; try rfl
  try simp only [Act.put, pu1, pu2, pu3]
  apply rg_yp (i := 12) Hops rfl hS rfl
  · intro _ hq; clear hq; go_simp; try rfl
  try simp only [Act.put, pu1, pu2, pu3]
  apply rg_yp (i := 13) Hops rfl hS rfl
  · intro wq hq; obtain ⟨hqc, -⟩ := bcell (show Below w3.heap.size w3 wq from hq); clear hq; go_simp; try rfl
  try simp only [Act.put, pu1, pu2, pu3]
  apply rg_yp (i := 14) Hops rfl hS rfl
  · intro _ hq; clear hq; go_simp; try rfl
  try simp only [Act.put, pu1, pu2, pu3]
  apply rg_yp (i := 15) Hops rfl hS rfl
  · intro _ hq; clear hq; go_simp; try rfl
  try simp only [Act.put, pu1, pu2, pu3]
  apply rg_yp (i := 16) Hops rfl hS rfl
  · intro _ hq; clear hq; go_simp; try rfl
  try simp only [Act.put, pu1, pu2, pu3]
  apply rg_yp (i := 17) Hops rfl hS rfl
  · intro _ hq; clear hq; go_simp; try rfl
  try simp only [Act.put, pu1, pu2, pu3]
  refine rg_done ?_
  refine HQrg.down _ _ ?_
  have hB : Below w3.heap.size w3 w3.drew := hS
  clear hS HQrg Hops
  have B4 := Lib.hid (bT B3.out hB)
  clear hB
  have Y4 : Blk w3.drew (w.heap.size + 1) 27 #[.int .i64 0, .int .i64 0, .int .i64 0, .int .i64 0] := HX4.out.drew
  have Y1 : Blk w3.drew w.heap.size 44 #[.int .i64 s.at_.x, .int .i64 s.at_.y, .int .i64 s.width, .int .i64 s.height, .int .i64 s.cols, .int .i64 s.rows] := HX1.out.drew
  try clear Y1l
  try clear Y1a
  try clear Y1b
  try clear Y1c
  try clear Y1d
  try clear Y1e
  try clear Y1f
  try clear Y1fa
  try clear Y1fb
  try clear Y1fc
  try clear Y1fd
  try clear Y1fe
  try clear Y1ff
  obtain ⟨Y1l, Y1a, Y1b, Y1c, Y1d, Y1e, Y1f, -, -, -, -, -, -⟩ := Y1.facts6
  try clear Y4l
  try clear Y4a
  try clear Y4b
  try clear Y4c
  try clear Y4d
  try clear Y4fa
  try clear Y4fb
  try clear Y4fc
  try clear Y4fd
  obtain ⟨Y4l, Y4a, Y4b, Y4c, Y4d, Y4fa, Y4fb, Y4fc, Y4fd⟩ := Y4.facts4
  go_wp2_with fail
  have h := HRr2.out
  subst h
  refine res_cell_tmp (t := 27) (g := w.heap.size + 1) (cs := #[.int .i64 (s.at_.x + c * s.width), .int .i64 (s.at_.y + rr * s.height), .int .i64 (s.at_.x + c * s.width + s.width), .int .i64 (s.at_.y + rr * s.height + s.height)]) rfl struct_bx rfl rfl ?_ ⟨rfl, ?_⟩
  · exact Blk.put4 HX4.out
  · exact bS (bS (bS (bS B4.out (by simp) _) (by simp) _) (by simp) _) (by simp) _
end Go.Proofs.YtbjlnnfmcjbnhaaGreatDoor
