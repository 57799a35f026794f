/- mapsheetsref40: Check, there, place. sheetgrid.find. sheetgrid.Box, Neighbor; mapsheetsref40.Box, Neighbor. (printed by gen/gridd.py) sheetgrid.Neighbor, mapsheetsref40.Neighbor. (printed by gen/gride.py) Plain law: the two ways to round a quotient give the same. No walk here. -/
import Derived.Test.YtfdbidagdjnipaaGreatDoorJ11
import Derived.Deep.CutBlock
import Derived.Test.YtfdbidagdjnipaaGreatDoorGB
set_option linter.unusedSimpArgs false
set_option linter.unusedVariables false
namespace Go.Proofs.YtfdbidagdjnipaaGreatDoor
open Go.RowKit

theorem seIn_no {s : Se} (h1 : gridPt s.at_ = true) (h : seIn s = false) : s.width < 1 ∨ (¬ s.width < 1 ∧ 65536 < s.width) ∨ (¬ s.width < 1 ∧ ¬ 65536 < s.width ∧ s.height < 1) ∨ (¬ s.width < 1 ∧ ¬ 65536 < s.width ∧ ¬ s.height < 1 ∧ 65536 < s.height) ∨ (¬ s.width < 1 ∧ ¬ 65536 < s.width ∧ ¬ s.height < 1 ∧ ¬ 65536 < s.height ∧ s.cols < 1) ∨ (¬ s.width < 1 ∧ ¬ 65536 < s.width ∧ ¬ s.height < 1 ∧ ¬ 65536 < s.height ∧ ¬ s.cols < 1 ∧ 16 < s.cols) ∨ (¬ s.width < 1 ∧ ¬ 65536 < s.width ∧ ¬ s.height < 1 ∧ ¬ 65536 < s.height ∧ ¬ s.cols < 1 ∧ ¬ 16 < s.cols ∧ s.rows < 1) ∨ (¬ s.width < 1 ∧ ¬ 65536 < s.width ∧ ¬ s.height < 1 ∧ ¬ 65536 < s.height ∧ ¬ s.cols < 1 ∧ ¬ 16 < s.cols ∧ ¬ s.rows < 1 ∧ 16 < s.rows) := by
 unfold seIn at h
 rw [h1, Bool.true_and] at h
 simp only [Bool.and_eq_false_iff, rngI, decide_eq_false_iff_not] at h
 omega

set_option maxRecDepth 100000 in
set_option maxHeartbeats 8000000 in
theorem rCheck_spec (s : Se) (w : World) : Calls Tryz.prog 23 #[seV s] w fun e w' => e = .returned (.int .i64 (seCheck s)) ∧ Below w.heap.size w w' := by
 have TP : ∀ (p : Pt) (w : World), Calls Tryz.prog 52 #[ptV p] w _ := fun p w => Point_spec p w
 unfold ptV at TP
 have HP := Lib.hid TP
 have HP1 := Lib.hid (TP s.at_)
 have HP2 := Lib.hid (TP (seFar s))
 clear TP
 unfold seV
 obtain ⟨q, hq⟩ : ∃ q, seCheck s = q := ⟨_, rfl⟩
 rw [hq]
 have Hq := Lib.hid hq
 clear hq
 obtain ⟨z1, hz1⟩ : ∃ z, gridPt s.at_ = z := ⟨_, rfl⟩
 have Z1 := Lib.hid hz1
 clear hz1
 go_enter Tryz.func23, Tryz.ntmps23
 go_wp2_with fail
 refine (HP1.out _).mono ?_
 rintro e w1 ⟨rfl, hb1⟩
 rw [Z1.out]
 have X1 : Blk w1 w.heap.size 30 #[.int .i64 s.at_.x, .int .i64 s.at_.y, .int .i64 s.width, .int .i64 s.height, .int .i64 s.cols, .int .i64 s.rows] := (Blk.made rfl _ _).keep hb1
 have B1 := Lib.hid (bT (bA (bR w) _) hb1)
 clear hb1
 obtain ⟨X1l, X1a, X1b, X1c, X1d, X1e, X1f, -, -, -, -, -, -⟩ := X1.facts6
 cases z1
 case false =>
  have hf := Lib.hid (check_no (s := s) (by rw [seIn, Z1.out]; rfl))
  go_wp2_with fail
  go_ret
  exact ⟨ret_int (by rw [← Hq.out, hf.out]), B1.out⟩
 cases hin : seIn s
 case false =>
  have hf := Lib.hid (check_no hin)
  have hno := seIn_no Z1.out hin
  clear hin
  rcases hno with h1 | ⟨h1, h2⟩ | ⟨h1, h2, h3⟩ | ⟨h1, h2, h3, h4⟩ | ⟨h1, h2, h3, h4, h5⟩ | ⟨h1, h2, h3, h4, h5, h6⟩ | ⟨h1, h2, h3, h4, h5, h6, h7⟩ | ⟨h1, h2, h3, h4, h5, h6, h7, h8⟩
  all_goals
   go_wp2_with fail
   go_ret
   exact ⟨ret_int (by rw [← Hq.out, hf.out]), B1.out⟩
 have hbd := seIn_bd hin
 obtain ⟨k1, k2, k3, k4⟩ := wrap_far hbd
 have h1 : ¬ s.width < 1 := by have := hbd.w; omega
 have h2 : ¬ 65536 < s.width := by have := hbd.w; omega
 have h3 : ¬ s.height < 1 := by have := hbd.h; omega
 have h4 : ¬ 65536 < s.height := by have := hbd.h; omega
 have h5 : ¬ s.cols < 1 := by have := hbd.c; omega
 have h6 : ¬ 16 < s.cols := by have := hbd.c; omega
 have h7 : ¬ s.rows < 1 := by have := hbd.r; omega
 have h8 : ¬ 16 < s.rows := by have := hbd.r; omega
 have Hin := Lib.hid hin
 clear hin hbd
 go_wp2_with fail
 have HP2' := HP2.out
 unfold seFar at HP2'
 refine (HP2' _).mono ?_
 rintro e w2 ⟨rfl, hb2⟩
 have B2 := Lib.hid (bT B1.out hb2)
 clear hb2 k1 k2 k3 k4 X1 X1l X1a X1b X1c X1d X1e X1f h1 h2 h3 h4 h5 h6 h7 h8 HP2'
 obtain ⟨z6, hz6⟩ : ∃ z, gridPt ⟨s.at_.x + s.cols * s.width, s.at_.y + s.rows * s.height⟩ = z := ⟨_, rfl⟩
 rw [hz6]
 have hf : q = if z6 = true then 0 else 2 := by
  rw [← Hq.out, seCheck, seOk, Hin.out, seFar, hz6, Bool.true_and]
 have HF6 := Lib.hid hf
 clear hf hz6
 cases z6
 ·
  go_wp2_with fail
  go_ret
  exact ⟨ret_int (by rw [HF6.out]; rfl), B2.out⟩
 ·
  go_wp2_with fail
  go_ret
  exact ⟨ret_int (by rw [HF6.out]; rfl), B2.out⟩

theorem wrap_cr {s : Se} (h : SeBd s) : IntKind.i64.wrap (s.cols * s.rows) = s.cols * s.rows ∧ s.cols * s.rows ≤ 256 := by
 have h1 := mul_bds (a := s.cols) (b := s.rows) (m := 16) (n := 16) (by have := h.c; omega) h.c.2 (by have := h.r; omega) h.r.2
 exact ⟨IntWalk.i64_in _ (by omega), by omega⟩

set_option maxRecDepth 100000 in
set_option maxHeartbeats 2000000 in
theorem there_spec (s : Se) (n : Int) (w : World) (h : seOk s = true) : Calls Tryz.prog 32 #[seV s, .int .i64 n] w fun e w' => e = .returned (.bool (thereS s n)) ∧ Below w.heap.size w w' := by
 unfold seV thereS
 obtain ⟨k1, -⟩ := wrap_cr (seOk_bd h)
 clear h
 by_cases h1 : 1 ≤ n
 ·
  go_enter Tryz.func32, Tryz.ntmps32
  go_wp2_with fail
  go_ret
  exact ⟨ret_bool (by first | rfl | (simp; done) | (rw [decide_eq_true (show 1 ≤ n by omega)]; rfl)), bA (bR w) _⟩
 ·
  go_enter Tryz.func32, Tryz.ntmps32
  go_wp2_with fail
  go_ret
  exact ⟨ret_bool (by rw [decide_eq_false (show ¬ 1 ≤ n by omega)]; rfl), bA (bR w) _⟩

structure InS (s : Se) (n : Int) : Prop where
 ok : seOk s = true
 lo : 1 ≤ n
 hi : n ≤ s.cols * s.rows
theorem InS.of {s : Se} {n : Int} (h1 : seOk s = true) (h2 : thereS s n = true) : InS s n := by
 unfold thereS at h2
 simp only [Bool.and_eq_true, decide_eq_true_eq] at h2
 exact ⟨h1, h2.1, h2.2⟩
theorem InS.bd {s : Se} {n : Int} (h : InS s n) : 0 ≤ colS s n ∧ colS s n < s.cols ∧ 0 ≤ rowS s n ∧ rowS s n < s.rows ∧ n = rowS s n * s.cols + colS s n + 1 := by
 have hb := seOk_bd h.ok
 have h1 := h.lo; have h2 := h.hi
 have hc := hb.c
 unfold colS rowS
 rw [Int.tmod_eq_emod_of_nonneg (by omega), Int.tdiv_eq_ediv_of_nonneg (by omega)]
 have e1 := Int.emod_nonneg (n - 1) (show s.cols ≠ 0 by omega)
 have e2 := Int.emod_lt_of_pos (n - 1) (show 0 < s.cols by omega)
 have e3 := Int.mul_ediv_add_emod (n - 1) s.cols
 have e4 : 0 ≤ (n - 1) / s.cols := Int.ediv_nonneg (by omega) (by omega)
 refine ⟨e1, e2, e4, ?_, ?_⟩
 ·
  rcases Int.lt_or_le ((n - 1) / s.cols) s.rows with h3 | h3
  · exact h3
  ·
   have := Int.mul_le_mul_of_nonneg_left h3 (show 0 ≤ s.cols by omega)
   omega
 · rw [Int.mul_comm]; omega

set_option maxRecDepth 100000 in
set_option maxHeartbeats 2000000 in
theorem place_spec (s : Se) (n : Int) (w : World) (h : InS s n) : Calls Tryz.prog 33 #[seV s, .int .i64 n] w fun e w' => e = .returned (.tuple #[.int .i64 (colS s n), .int .i64 (rowS s n)]) ∧ Below w.heap.size w w' := by
 unfold seV
 have hb := seOk_bd h.ok
 have hc := hb.c
 have h1 := h.lo; have h2 := h.hi
 have hi := (wrap_cr hb).2
 have hbd := h.bd
 have k1 : IntKind.i64.wrap (n - 1) = n - 1 := IntWalk.i64_in _ (by omega)
 have k2 : ¬ s.cols = 0 := by omega
 have hbr := hb.r
 have k3 : IntKind.i64.wrap ((n - 1).tmod s.cols) = (n - 1).tmod s.cols := IntWalk.i64_in _ (by unfold colS at hbd; omega)
 have k4 : IntKind.i64.wrap ((n - 1).tdiv s.cols) = (n - 1).tdiv s.cols := IntWalk.i64_in _ (by unfold rowS at hbd; omega)
 unfold colS rowS
 clear h hb hc h1 h2 hi hbd hbr
 go_enter Tryz.func33, Tryz.ntmps33
 go_upto_region 1 with fail
 obtain ⟨W, hW⟩ : ∃ W : World, W = w.alloc (.cells #[.int .i64 s.at_.x, .int .i64 s.at_.y, .int .i64 s.width, .int .i64 s.height, .int .i64 s.cols, .int .i64 s.rows] 30) := ⟨_, rfl⟩
 have Bw : Below w.heap.size w W := by rw [hW]; exact bA (bR w) _
 have X1 : Blk W w.heap.size 30 #[.int .i64 s.at_.x, .int .i64 s.at_.y, .int .i64 s.width, .int .i64 s.height, .int .i64 s.cols, .int .i64 s.rows] := by rw [hW]; exact Blk.made rfl _ _
 rw [← hW]
 clear hW
 obtain ⟨X1l, X1a, X1b, X1c, X1d, X1e, X1f, -, -, -, -, -, -⟩ := X1.facts6
 refine rg_start (Since W) (.run 12 0 0 (.done)) (by kernel_rfl) (bD (bR _)) (by kernel_rfl) (by kernel_rfl) (Nat.le_of_ble_eq_true (by kernel_rfl)) ?_
 intro opsR QR Hops HQrg hS
 iterate 12
  apply rg_p; exact Hops; exact rfl; exact hS; exact rfl
  · intro _ hqc; go_simp; try rfl
  try simp only [pu]
 refine rg_done ?_
 refine HQrg.down _ _ ?_
 have hB : Below W.heap.size W W.drew := hS
 clear hS HQrg Hops
 go_wp2_with fail
 go_ret2
 exact ⟨rfl, bT Bw hB⟩
theorem results_tmp3 {fn : Func} {t u v : Tmp} (h : fn.results = #[.tmp t, .tmp u, .tmp v]) (tmps : Array Value) (P : Program) (w : World) : (results fn tmps).run P w = .ok (.tuple #[tmps.getD t undef, tmps.getD u undef, tmps.getD v undef]) w := by
 simp [results, h]
/-- what 'find' gives back -/
def findRes (s : Se) (n : Int) : Value := if findE s n = 0 then .tuple #[.int .i64 (colS s n), .int .i64 (rowS s n), .int .i64 0] else .tuple #[.int .i64 0, .int .i64 0, .int .i64 (findE s n)]
theorem findE_zero {s : Se} {n : Int} : findE s n = 0 ↔ InS s n := by
 unfold findE
 constructor
 ·
  intro h
  by_cases h1 : seOk s = true
  ·
   rw [if_pos h1] at h
   by_cases h2 : thereS s n = true
   · exact InS.of h1 h2
   · rw [if_neg h2] at h; omega
  · rw [if_neg h1] at h; omega
 ·
  intro h
  rw [if_pos h.ok, if_pos]
  unfold thereS
  simp [h.lo, h.hi]

set_option maxRecDepth 100000 in
set_option maxHeartbeats 4000000 in
theorem find_spec (s : Se) (n : Int) (w : World) : Calls Tryz.prog 61 #[seV s, .int .i64 n] w fun e w' => e = .returned (findRes s n) ∧ Below w.heap.size w w' := by
 have TC : ∀ w, Calls Tryz.prog 29 #[seV s] w _ := fun w => sCheck_spec s w
 unfold seV at TC
 unfold seV
 have HC := Lib.hid TC
 clear TC
 obtain ⟨r, hr⟩ : ∃ r, findRes s n = r := ⟨_, rfl⟩
 rw [hr]
 have Hr := Lib.hid hr
 clear hr
 go_enter Tryz.func61, Tryz.ntmps61
 go_wp2_with fail
 refine (HC.out _).mono ?_
 rintro e w1 ⟨rfl, hb1⟩
 have X1 : Blk w1 w.heap.size 30 #[.int .i64 s.at_.x, .int .i64 s.at_.y, .int .i64 s.width, .int .i64 s.height, .int .i64 s.cols, .int .i64 s.rows] := (Blk.made rfl _ _).keep hb1
 have B1 := Lib.hid (bT (bA (bR w) _) hb1)
 clear hb1
 obtain ⟨X1l, X1a, X1b, X1c, X1d, X1e, X1f, -, -, -, -, -, -⟩ := X1.facts6
 by_cases hok : seOk s = true
 case neg =>
  have hf : seCheck s = 2 := by unfold seCheck; rw [if_neg hok]
  have hE : r = .tuple #[.int .i64 0, .int .i64 0, .int .i64 2] := by
   rw [← Hr.out]
   have : findE s n = 2 := by unfold findE; rw [if_neg hok]
   unfold findRes
   rw [this]; rfl
  have HE := Lib.hid hE
  rw [hf]
  clear hf hok hE
  go_wp2_with fail
  have h := HE.out
  subst h
  exact bodyPost_ret (results_tmp3 rfl _ _ _) rfl ⟨rfl, B1.out⟩
 have hf : seCheck s = 0 := by unfold seCheck; rw [if_pos hok]
 have hb := seOk_bd hok
 obtain ⟨k1, k2⟩ := wrap_cr hb
 have hc := hb.c
 rw [hf]
 by_cases h1 : n < 1
 ·
  have hE : r = .tuple #[.int .i64 0, .int .i64 0, .int .i64 7] := by
   rw [← Hr.out]
   have : findE s n = 7 := by
    unfold findE; rw [if_pos hok, if_neg]
    unfold thereS; simp; omega
   unfold findRes
   rw [this]; rfl
  have HE := Lib.hid hE
  clear hf hok hE hb k1 k2 hc
  go_wp2_with fail
  have h := HE.out
  subst h
  exact bodyPost_ret (results_tmp3 rfl _ _ _) rfl ⟨rfl, B1.out⟩
 by_cases h2 : s.cols * s.rows < n
 ·
  have hE : r = .tuple #[.int .i64 0, .int .i64 0, .int .i64 7] := by
   rw [← Hr.out]
   have : findE s n = 7 := by
    unfold findE; rw [if_pos hok, if_neg]
    unfold thereS; simp; omega
   unfold findRes
   rw [this]; rfl
  have HE := Lib.hid hE
  clear hf hok hE hb k2 hc
  go_wp2_with fail
  have h := HE.out
  subst h
  exact bodyPost_ret (results_tmp3 rfl _ _ _) rfl ⟨rfl, B1.out⟩
 have hin : InS s n := ⟨hok, by omega, by omega⟩
 have hE : r = .tuple #[.int .i64 (colS s n), .int .i64 (rowS s n), .int .i64 0] := by
  rw [← Hr.out]
  unfold findRes
  rw [if_pos (findE_zero.2 hin)]
 have HE := Lib.hid hE
 have hbd := hin.bd
 have hbr := hb.r
 have k5 : IntKind.i64.wrap (n - 1) = n - 1 := IntWalk.i64_in _ (by omega)
 have k6 : ¬ s.cols = 0 := by omega
 have k3 : IntKind.i64.wrap ((n - 1).tmod s.cols) = (n - 1).tmod s.cols := IntWalk.i64_in _ (by unfold colS at hbd; omega)
 have k4 : IntKind.i64.wrap ((n - 1).tdiv s.cols) = (n - 1).tdiv s.cols := IntWalk.i64_in _ (by unfold rowS at hbd; omega)
 clear hf hok hE hb k2 hc hin hbd hbr
 go_upto_region 6 with fail
 refine rg_start (Since w1) (.run 13 0 0 (.done)) (by kernel_rfl) (bD (bR _)) (by kernel_rfl) (by kernel_rfl) (Nat.le_of_ble_eq_true (by kernel_rfl)) ?_
 intro opsR QR Hops HQrg hS
 iterate 13
  apply rg_p; exact Hops; exact rfl; exact hS; exact rfl
  · intro _ hqc; go_simp; try rfl
  try simp only [pu]
 refine rg_done ?_
 refine HQrg.down _ _ ?_
 have hB : Below w1.heap.size w1 w1.drew := hS
 clear hS HQrg Hops
 have HB := Lib.hid (bT B1.out hB)
 go_wp2_with fail
 have h := HE.out
 unfold colS rowS at h
 subst h
 exact bodyPost_ret (results_tmp3 rfl _ _ _) rfl ⟨rfl, HB.out⟩
end Go.Proofs.YtfdbidagdjnipaaGreatDoor
namespace Go.Proofs.YtfdbidagdjnipaaGreatDoor
open Go.RowKit

theorem box_wraps {s : Se} {n : Int} (h : InS s n) : IntKind.i64.wrap (colS s n * s.width) = colS s n * s.width ∧ IntKind.i64.wrap (s.at_.x + colS s n * s.width) = s.at_.x + colS s n * s.width ∧ IntKind.i64.wrap (rowS s n * s.height) = rowS s n * s.height ∧ IntKind.i64.wrap (s.at_.y + rowS s n * s.height) = s.at_.y + rowS s n * s.height ∧ IntKind.i64.wrap (s.at_.x + colS s n * s.width + s.width) = s.at_.x + colS s n * s.width + s.width ∧ IntKind.i64.wrap (s.at_.y + rowS s n * s.height + s.height) = s.at_.y + rowS s n * s.height + s.height := by
 have hb := seOk_bd h.ok
 have hi := h.bd
 have hx := hb.x; have hy := hb.y; have hw := hb.w; have hh := hb.h; have hc := hb.c; have hr := hb.r
 have h1 := mul_bds (a := colS s n) (b := s.width) (m := 16) (n := 65536) hi.1 (by omega) (by omega) hw.2
 have h2 := mul_bds (a := rowS s n) (b := s.height) (m := 16) (n := 65536) hi.2.2.1 (by omega) (by omega) hh.2
 exact ⟨IntWalk.i64_in _ (by omega), IntWalk.i64_in _ (by omega), IntWalk.i64_in _ (by omega), IntWalk.i64_in _ (by omega), IntWalk.i64_in _ (by omega), IntWalk.i64_in _ (by omega)⟩
def boxV (r : Bx × Int) : Value := .tuple #[bxV r.1, .int .i64 r.2]
theorem boxRes_in {s : Se} {n : Int} (h : InS s n) : boxRes s n = (boxOf s n, 0) := by
 unfold boxRes; rw [if_pos (findE_zero.2 h)]
theorem boxRes_out {s : Se} {n : Int} (h : ¬ InS s n) : boxRes s n = (bx0, findE s n) ∧ findE s n ≠ 0 := by
 have h' : findE s n ≠ 0 := fun e => h (findE_zero.1 e)
 unfold boxRes; rw [if_neg h']; exact ⟨rfl, h'⟩

set_option maxRecDepth 100000 in
set_option maxHeartbeats 4000000 in
theorem sBox_spec (s : Se) (n : Int) (w : World) : Calls Tryz.prog 30 #[seV s, .int .i64 n] w fun e w' => e = .returned (boxV (boxRes s n)) ∧ Below w.heap.size w w' := by
 have TF : ∀ w, Calls Tryz.prog 61 #[seV s, .int .i64 n] w _ := fun w => find_spec s n w
 unfold seV at TF
 unfold seV
 by_cases hin : InS s n
 case neg =>
  obtain ⟨h1, h2⟩ := boxRes_out hin
  have hfr : findRes s n = .tuple #[.int .i64 0, .int .i64 0, .int .i64 (findE s n)] := by unfold findRes; rw [if_neg h2]
  rw [hfr] at TF
  rw [h1]
  have HF := Lib.hid TF
  have h2' : (findE s n != 0) = true := by simp [h2]
  clear TF h1 hfr h2
  generalize findE s n = z at *
  unfold boxV bxV bx0
  go_enter Tryz.func30, Tryz.ntmps30
  go_wp2_with fail
  refine (HF.out _).mono ?_
  rintro e w1 ⟨rfl, hb1⟩
  have B1 := Lib.hid (bT (bA (bA (bR w) _) _) hb1)
  have X4 : Blk w1 (w.heap.size + 1) 40 #[.int .i64 0, .int .i64 0, .int .i64 0, .int .i64 0] := (Blk.made (by simp) _ _).keep hb1
  clear hb1
  have HX4 := Lib.hid X4
  obtain ⟨X4l, X4a, X4b, X4c, X4d, X4fa, X4fb, X4fc, X4fd⟩ := X4.facts4
  go_wp2_with fail
  refine res_cell_tmp (t := 40) (g := w.heap.size + 1) (cs := #[.int .i64 0, .int .i64 0, .int .i64 0, .int .i64 0]) rfl struct_bx rfl rfl ?_ ⟨rfl, ?_⟩
  · exact Blk.put4 HX4.out
  · exact bS (bS (bS (bS B1.out (by simp) _) (by simp) _) (by simp) _) (by simp) _
 have hfr : findRes s n = .tuple #[.int .i64 (colS s n), .int .i64 (rowS s n), .int .i64 0] := by unfold findRes; rw [if_pos (findE_zero.2 hin)]
 rw [hfr] at TF
 rw [boxRes_in hin]
 obtain ⟨k1, k2, k3, k4, k5, k6⟩ := box_wraps hin
 have HF := Lib.hid TF
 clear TF hfr hin
 unfold boxV bxV boxOf
 generalize colS s n = c at *
 generalize rowS s n = r at *
 go_enter Tryz.func30, Tryz.ntmps30
 go_wp2_with fail
 refine (HF.out _).mono ?_
 rintro e w1 ⟨rfl, hb1⟩
 have B1 := Lib.hid (bT (bA (bA (bR w) _) _) hb1)
 have X1 : Blk w1 w.heap.size 30 #[.int .i64 s.at_.x, .int .i64 s.at_.y, .int .i64 s.width, .int .i64 s.height, .int .i64 s.cols, .int .i64 s.rows] := ((Blk.made rfl _ _).alloc _).keep hb1
 have X4 : Blk w1 (w.heap.size + 1) 40 #[.int .i64 0, .int .i64 0, .int .i64 0, .int .i64 0] := (Blk.made (by simp) _ _).keep hb1
 clear hb1
 have HX4 := Lib.hid X4
 obtain ⟨X1l, X1a, X1b, X1c, X1d, X1e, X1f, -, -, -, -, -, -⟩ := X1.facts6
 try clear X4l
 try clear X4a
 try clear X4b
 try clear X4c
 try clear X4d
 try clear X4fa
 try clear X4fb
 try clear X4fc
 try clear X4fd
 obtain ⟨X4l, X4a, X4b, X4c, X4d, X4fa, X4fb, X4fc, X4fd⟩ := X4.facts4
 go_wp2_with fail
 refine res_cell_tmp (t := 40) (g := w.heap.size + 1) (cs := #[.int .i64 (s.at_.x + c * s.width), .int .i64 (s.at_.y + r * s.height), .int .i64 (s.at_.x + c * s.width + s.width), .int .i64 (s.at_.y + r * s.height + s.height)]) rfl struct_bx rfl rfl ?_ ⟨rfl, ?_⟩
 ·
  have h := Blk.put4 (x0 := .int .i64 (s.at_.x + c * s.width)) (x1 := .int .i64 (s.at_.y + r * s.height)) (x2 := .int .i64 (s.at_.x + c * s.width + s.width)) (x3 := .int .i64 (s.at_.y + r * s.height + s.height)) (Blk.put4 (x0 := .int .i64 (s.at_.x + c * s.width)) (x1 := .int .i64 (s.at_.y + r * s.height)) (x2 := .int .i64 (s.at_.x + c * s.width + s.width)) (x3 := .int .i64 (s.at_.y + r * s.height + s.height)) HX4.out)
  first | exact h | exact Blk.put4 HX4.out
 · first | exact bS (bS (bS (bS (bS (bS (bS (bS B1.out (by simp) _) (by simp) _) (by simp) _) (by simp) _) (by simp) _) (by simp) _) (by simp) _) (by simp) _ | exact bS (bS (bS (bS B1.out (by simp) _) (by simp) _) (by simp) _) (by simp) _

set_option maxRecDepth 100000 in
set_option maxHeartbeats 4000000 in
theorem rBox_spec (s : Se) (n : Int) (w : World) : Calls Tryz.prog 9 #[seV s, .int .i64 n] w fun e w' => e = .returned (boxV (boxRes s n)) ∧ Below w.heap.size w w' := by
 have TC : ∀ w, Calls Tryz.prog 23 #[seV s] w _ := fun w => rCheck_spec s w
 unfold seV at TC
 have HC := Lib.hid TC
 have HT := Lib.hid (fun (w : World) (h : seOk s = true) => there_spec s n w h)
 have HPl := Lib.hid (fun (w : World) (h : InS s n) => place_spec s n w h)
 clear TC
 unfold seV at HT HPl
 unfold seV
 have B0 : Below w.heap.size w ((w.alloc (.cells #[.int .i64 s.at_.x, .int .i64 s.at_.y, .int .i64 s.width, .int .i64 s.height, .int .i64 s.cols, .int .i64 s.rows] 30)).alloc (.cells #[.int .i64 0, .int .i64 0, .int .i64 0, .int .i64 0] 40)) := bA (bA (bR w) _) _
 have HB0 := Lib.hid B0
 clear B0
 obtain ⟨r, hr⟩ : ∃ r, boxRes s n = r := ⟨_, rfl⟩
 rw [hr]
 have Hr := Lib.hid hr
 clear hr
 unfold boxV bxV
 go_enter Tryz.func9, Tryz.ntmps9
 go_wp2_with fail
 refine (HC.out _).mono ?_
 rintro e w1 ⟨rfl, hb1⟩
 have HX1 : Hid (Blk w1 w.heap.size 30 #[.int .i64 s.at_.x, .int .i64 s.at_.y, .int .i64 s.width, .int .i64 s.height, .int .i64 s.cols, .int .i64 s.rows]) := Lib.hid (((Blk.made rfl _ _).alloc _).keep hb1)
 have HX4 : Hid (Blk w1 (w.heap.size + 1) 40 #[.int .i64 0, .int .i64 0, .int .i64 0, .int .i64 0]) := Lib.hid ((Blk.made (by simp) _ _).keep hb1)
 have B1 := Lib.hid (bT HB0.out hb1)
 clear hb1
 have X1 := HX1.out
 have X4 := HX4.out
 obtain ⟨X1l, X1a, X1b, X1c, X1d, X1e, X1f, -, -, -, -, -, -⟩ := X1.facts6
 obtain ⟨X4l, X4a, X4b, X4c, X4d, X4fa, X4fb, X4fc, X4fd⟩ := X4.facts4
 by_cases hok : seOk s = true
 case neg =>
  have hs : seCheck s = 2 := by unfold seCheck; rw [if_neg hok]
  have hrr := (boxRes_out (s := s) (n := n) (fun h => hok h.ok)).1
  have hfe : findE s n = 2 := by unfold findE; rw [if_neg hok]
  rw [Hr.out, hfe] at hrr
  rw [hs]
  clear hs hok hfe
  have HRr := Lib.hid hrr
  clear hrr
  go_wp2_with fail
  have h := HRr.out
  subst h
  refine res_cell_tmp (t := 40) (g := w.heap.size + 1) (cs := #[.int .i64 0, .int .i64 0, .int .i64 0, .int .i64 0]) rfl struct_bx rfl rfl ?_ ⟨rfl, ?_⟩
  · exact Blk.put4 HX4.out
  · exact bS (bS (bS (bS B1.out (by simp) _) (by simp) _) (by simp) _) (by simp) _
 have hs : seCheck s = 0 := by unfold seCheck; rw [if_pos hok]
 rw [hs]
 clear hs
 have Hok := Lib.hid hok
 clear hok
 go_wp2_with fail
 refine (HT.out _ Hok.out).mono ?_
 rintro e w2 ⟨rfl, hb2⟩
 have B2 := Lib.hid (bT B1.out hb2)
 replace HX1 := Lib.hid (HX1.out.keep hb2)
 replace HX4 := Lib.hid (HX4.out.keep hb2)
 clear hb2 X1 X4 X1l X1a X1b X1c X1d X1e X1f X4l X4a X4b X4c X4d X4fa X4fb X4fc X4fd
 have X1 := HX1.out
 have X4 := HX4.out
 try clear X1l
 try clear X1a
 try clear X1b
 try clear X1c
 try clear X1d
 try clear X1e
 try clear X1f
 obtain ⟨X1l, X1a, X1b, X1c, X1d, X1e, X1f, -, -, -, -, -, -⟩ := X1.facts6
 try clear X4l
 try clear X4a
 try clear X4b
 try clear X4c
 try clear X4d
 try clear X4fa
 try clear X4fb
 try clear X4fc
 try clear X4fd
 obtain ⟨X4l, X4a, X4b, X4c, X4d, X4fa, X4fb, X4fc, X4fd⟩ := X4.facts4
 cases hth : thereS s n
 case false =>
  have hrr := (boxRes_out (s := s) (n := n) (fun h => by
   have h1 : thereS s n = true := by unfold thereS; simp [h.lo, h.hi]
   rw [hth] at h1; cases h1)).1
  have hfe : findE s n = 7 := by unfold findE; rw [if_pos Hok.out, hth]; rfl
  rw [Hr.out, hfe] at hrr
  have HRr := Lib.hid hrr
  clear hrr hth hfe
  go_wp2_with fail
  have h := HRr.out
  subst h
  refine res_cell_tmp (t := 40) (g := w.heap.size + 1) (cs := #[.int .i64 0, .int .i64 0, .int .i64 0, .int .i64 0]) rfl struct_bx rfl rfl ?_ ⟨rfl, ?_⟩
  · exact Blk.put4 HX4.out
  · exact bS (bS (bS (bS B2.out (by simp) _) (by simp) _) (by simp) _) (by simp) _
 have hin := InS.of Hok.out hth
 have hrr := boxRes_in hin
 rw [Hr.out] at hrr
 have HRr := Lib.hid hrr
 have Hin := Lib.hid hin
 clear hrr hth hin
 go_wp2_with fail
 refine (HPl.out _ Hin.out).mono ?_
 rintro e w3 ⟨rfl, hb3⟩
 have B3 := Lib.hid (bT B2.out hb3)
 replace HX1 := Lib.hid (HX1.out.keep hb3)
 replace HX4 := Lib.hid (HX4.out.keep hb3)
 clear hb3 X1 X4 X1l X1a X1b X1c X1d X1e X1f X4l X4a X4b X4c X4d X4fa X4fb X4fc X4fd
 have X1 := HX1.out
 have X4 := HX4.out
 try clear X1l
 try clear X1a
 try clear X1b
 try clear X1c
 try clear X1d
 try clear X1e
 try clear X1f
 obtain ⟨X1l, X1a, X1b, X1c, X1d, X1e, X1f, -, -, -, -, -, -⟩ := X1.facts6
 try clear X4l
 try clear X4a
 try clear X4b
 try clear X4c
 try clear X4d
 try clear X4fa
 try clear X4fb
 try clear X4fc
 try clear X4fd
 obtain ⟨X4l, X4a, X4b, X4c, X4d, X4fa, X4fb, X4fc, X4fd⟩ := X4.facts4
 obtain ⟨k1, k2, k3, k4, k5, k6⟩ := box_wraps Hin.out
 have hrr := HRr.out
 unfold boxOf at hrr
 generalize colS s n = c at *
 generalize rowS s n = rr at *
 have HRr2 := Lib.hid hrr
 clear hrr
 go_upto_region 7 with fail
 refine rg_start (Since w3) (.run 18 0 0 (.done)) (by kernel_rfl) (bD (bR _)) (by kernel_rfl) (by kernel_rfl) (Nat.le_of_ble_eq_true (by kernel_rfl)) ?_
 intro opsR QR Hops HQrg hS
 iterate 18
  apply rg_p; exact Hops; exact rfl; exact hS; exact rfl
  · intro _ hqc; go_simp; try rfl
  try simp only [pu]
 refine rg_done ?_
 refine HQrg.down _ _ ?_
 have hB : Below w3.heap.size w3 w3.drew := hS
 clear hS HQrg Hops
 have B4 := Lib.hid (bT B3.out hB)
 clear hB
 have Y4 : Blk w3.drew (w.heap.size + 1) 40 #[.int .i64 0, .int .i64 0, .int .i64 0, .int .i64 0] := HX4.out.drew
 have Y1 : Blk w3.drew w.heap.size 30 #[.int .i64 s.at_.x, .int .i64 s.at_.y, .int .i64 s.width, .int .i64 s.height, .int .i64 s.cols, .int .i64 s.rows] := HX1.out.drew
 obtain ⟨Y1l, Y1a, Y1b, Y1c, Y1d, Y1e, Y1f, -, -, -, -, -, -⟩ := Y1.facts6
 obtain ⟨Y4l, Y4a, Y4b, Y4c, Y4d, Y4fa, Y4fb, Y4fc, Y4fd⟩ := Y4.facts4
 go_wp2_with fail
 have h := HRr2.out
 subst h
 refine res_cell_tmp (t := 40) (g := w.heap.size + 1) (cs := #[.int .i64 (s.at_.x + c * s.width), .int .i64 (s.at_.y + rr * s.height), .int .i64 (s.at_.x + c * s.width + s.width), .int .i64 (s.at_.y + rr * s.height + s.height)]) rfl struct_bx rfl rfl ?_ ⟨rfl, ?_⟩
 · exact Blk.put4 HX4.out
 · exact bS (bS (bS (bS B4.out (by simp) _) (by simp) _) (by simp) _) (by simp) _
end Go.Proofs.YtfdbidagdjnipaaGreatDoor
namespace Go.Proofs.YtfdbidagdjnipaaGreatDoor
open Go.RowKit

/-- a block's cells that are read -/
def Rd (w : World) (g : Nat) (cs : Array Value) : Prop := g < w.heap.size ∧ ∀ i, w.cell? ⟨g, i, none⟩ = cs[i]?
theorem Rd.keep {w w' : World} {g : Nat} {cs : Array Value} (h : Rd w g cs) (hb : Below w.heap.size w w') : Rd w' g cs := ⟨Nat.lt_of_lt_of_le h.1 hb.size, fun i => by rw [hb.cell (p := ⟨g, i, none⟩) h.1]; exact h.2 i⟩
/-- the variable 'moves' -/
def Mv (w : World) : Prop := Rd w 0 #[.int .i64 (-1), .int .i64 0, .int .i64 0, .int .i64 (-1), .int .i64 1, .int .i64 0, .int .i64 0, .int .i64 1]
theorem Mv.keep {w w' : World} (h : Mv w) (hb : Below w.heap.size w w') : Mv w' := Rd.keep h hb
theorem Rd.facts8 {w : World} {g : Nat} {v0 v1 v2 v3 v4 v5 v6 v7 : Value} (h : Rd w g #[v0, v1, v2, v3, v4, v5, v6, v7]) : g < w.heap.size ∧ w.cell? ⟨g, 0, none⟩ = some v0 ∧ w.cell? ⟨g, 1, none⟩ = some v1 ∧ w.cell? ⟨g, 2, none⟩ = some v2 ∧ w.cell? ⟨g, 3, none⟩ = some v3 ∧ w.cell? ⟨g, 4, none⟩ = some v4 ∧ w.cell? ⟨g, 5, none⟩ = some v5 ∧ w.cell? ⟨g, 6, none⟩ = some v6 ∧ w.cell? ⟨g, 7, none⟩ = some v7 ∧ True ∧ True ∧ True ∧ True ∧ True ∧ True ∧ True ∧ True :=
 ⟨h.1, h.2 0, h.2 1, h.2 2, h.2 3, h.2 4, h.2 5, h.2 6, h.2 7, trivial, trivial, trivial, trivial, trivial, trivial, trivial, trivial⟩
def dxS (side : Int) : Int := if side = 1 then -1 else if side = 3 then 1 else 0
def dyS (side : Int) : Int := if side = 2 then -1 else if side = 4 then 1 else 0
def sideOk (side : Int) : Bool := decide (1 ≤ side) && decide (side ≤ 4)
def inGrid (s : Se) (c r : Int) : Bool := (decide (0 ≤ c) && decide (c < s.cols)) && (decide (0 ≤ r) && decide (r < s.rows))
/-- the sheet on the other side, if there is one -/
def nbS (s : Se) (n side : Int) : Option Int :=
 if findE s n = 0 ∧ sideOk side = true ∧ inGrid s (colS s n + dxS side) (rowS s n + dyS side) = true then some ((rowS s n + dyS side) * s.cols + (colS s n + dxS side) + 1) else none
def nbRes (s : Se) (n side : Int) : Value := .tuple #[.int .i64 ((nbS s n side).getD 0), .bool (nbS s n side).isSome]
theorem nb_no1 {s : Se} {n side : Int} (h : ¬ InS s n) : nbRes s n side = .tuple #[.int .i64 0, .bool false] := by
 unfold nbRes nbS; rw [if_neg (fun e => h (findE_zero.1 e.1))]; rfl
theorem nb_no2 {s : Se} {n side : Int} (h : side < 1 ∨ 4 < side) : nbRes s n side = .tuple #[.int .i64 0, .bool false] := by
 unfold nbRes nbS; rw [if_neg]; rfl
 rintro ⟨-, h2, -⟩
 unfold sideOk at h2
 simp only [Bool.and_eq_true, decide_eq_true_eq] at h2
 omega
theorem nb_in {s : Se} {n side c r : Int} (h : InS s n) (h1 : 1 ≤ side) (h2 : side ≤ 4) (hc : colS s n + dxS side = c) (hr : rowS s n + dyS side = r) (hg : 0 ≤ c ∧ c < s.cols ∧ 0 ≤ r ∧ r < s.rows) : nbRes s n side = .tuple #[.int .i64 (r * s.cols + c + 1), .bool true] := by
 unfold nbRes nbS
 rw [hc, hr, if_pos ⟨findE_zero.2 h, by unfold sideOk; simp [h1, h2], by unfold inGrid; simp [hg.1, hg.2.1, hg.2.2.1, hg.2.2.2]⟩]
 rfl
theorem nb_out {s : Se} {n side c r : Int} (hc : colS s n + dxS side = c) (hr : rowS s n + dyS side = r) (hg : ¬ (0 ≤ c ∧ c < s.cols ∧ 0 ≤ r ∧ r < s.rows)) : nbRes s n side = .tuple #[.int .i64 0, .bool false] := by
 unfold nbRes nbS
 rw [hc, hr, if_neg]; rfl
 rintro ⟨-, -, h3⟩
 unfold inGrid at h3
 simp only [Bool.and_eq_true, decide_eq_true_eq] at h3
 exact hg ⟨h3.1.1, h3.1.2, h3.2.1, h3.2.2⟩
theorem nb_wraps {s : Se} {c r : Int} (hb : SeBd s) (hg : 0 ≤ c ∧ c < s.cols ∧ 0 ≤ r ∧ r < s.rows) : IntKind.i64.wrap (r * s.cols) = r * s.cols ∧ IntKind.i64.wrap (r * s.cols + c) = r * s.cols + c ∧ IntKind.i64.wrap (r * s.cols + c + 1) = r * s.cols + c + 1 := by
 have hc := hb.c; have hr := hb.r
 have h1 := mul_bds (a := r) (b := s.cols) (m := 16) (n := 16) hg.2.2.1 (by omega) (by omega) hc.2
 exact ⟨IntWalk.i64_in _ (by omega), IntWalk.i64_in _ (by omega), IntWalk.i64_in _ (by omega)⟩

set_option maxRecDepth 100000 in
set_option maxHeartbeats 8000000 in
theorem sNeighbor_spec (s : Se) (n side : Int) (w : World) (hm : Mv w) : Calls Tryz.prog 74 #[seV s, .int .i64 n, .int .i64 side] w fun e w' => e = .returned (nbRes s n side) ∧ Below w.heap.size w w' := by
 have TF : ∀ w, Calls Tryz.prog 61 #[seV s, .int .i64 n] w _ := fun w => find_spec s n w
 unfold seV at TF
 unfold seV
 obtain ⟨r, hr⟩ : ∃ r, nbRes s n side = r := ⟨_, rfl⟩
 rw [hr]
 have Hr := Lib.hid hr
 clear hr
 have HMv := Lib.hid hm
 clear hm
 by_cases hin : InS s n
 case neg =>
  have h2 := (boxRes_out hin).2
  have hfr : findRes s n = .tuple #[.int .i64 0, .int .i64 0, .int .i64 (findE s n)] := by unfold findRes; rw [if_neg h2]
  rw [hfr] at TF
  have HF := Lib.hid TF
  have h2' : (findE s n != 0) = true := by simp [h2]
  have hrr := nb_no1 (side := side) hin
  rw [Hr.out] at hrr
  have HRr := Lib.hid hrr
  clear TF hfr h2 hin hrr
  generalize findE s n = z at *
  go_enter Tryz.func74, Tryz.ntmps74
  go_wp2_with fail
  refine (HF.out _).mono ?_
  rintro e w1 ⟨rfl, hb1⟩
  have B1 := Lib.hid (bT (bA (bR w) _) hb1)
  clear hb1
  go_wp2_with fail
  go_ret2
  exact ⟨by rw [HRr.out]; rfl, B1.out⟩
 have hfr : findRes s n = .tuple #[.int .i64 (colS s n), .int .i64 (rowS s n), .int .i64 0] := by unfold findRes; rw [if_pos (findE_zero.2 hin)]
 rw [hfr] at TF
 have HF := Lib.hid TF
 have Hin := Lib.hid hin
 obtain ⟨b1, b2, b3, b4, -⟩ := hin.bd
 have hcb := (seOk_bd hin.ok).c
 have hrb := (seOk_bd hin.ok).r
 clear TF hfr hin
 obtain ⟨c, hc⟩ : ∃ c, colS s n = c := ⟨_, rfl⟩
 obtain ⟨rr, hrr⟩ : ∃ rr, rowS s n = rr := ⟨_, rfl⟩
 rw [hc] at b1 b2
 rw [hrr] at b3 b4
 have HF2 := HF.out
 rw [hc, hrr] at HF2
 replace HF := Lib.hid HF2
 have HC0 := Lib.hid hc; have HR0 := Lib.hid hrr
 clear HF2 hc hrr
 go_enter Tryz.func74, Tryz.ntmps74
 go_wp2_with fail
 refine (HF.out _).mono ?_
 rintro e w1 ⟨rfl, hb1⟩
 have X1 : Blk w1 w.heap.size 30 #[.int .i64 s.at_.x, .int .i64 s.at_.y, .int .i64 s.width, .int .i64 s.height, .int .i64 s.cols, .int .i64 s.rows] := (Blk.made rfl _ _).keep hb1
 have B1 := Lib.hid (bT (bA (bR w) _) hb1)
 clear hb1
 have X9 := HMv.out.keep B1.out
 unfold Mv at X9
 obtain ⟨X1l, X1a, X1b, X1c, X1d, X1e, X1f, -, -, -, -, -, -⟩ := X1.facts6
 obtain ⟨X9l, X9a, X9b, X9c, X9d, X9e, X9f, X9g, X9h, -, -, -, -, -, -, -, -⟩ := X9.facts8
 by_cases s1 : side < 1
 case pos =>
  have hf := nb_no2 (s := s) (n := n) (side := side) (.inl s1)
  rw [Hr.out] at hf
  have HFi := Lib.hid hf
  clear hf
  go_wp2_with fail
  go_ret2
  exact ⟨by rw [HFi.out]; rfl, B1.out⟩
 by_cases s4 : 4 < side
 case pos =>
  have hf := nb_no2 (s := s) (n := n) (side := side) (.inr s4)
  rw [Hr.out] at hf
  have HFi := Lib.hid hf
  clear hf
  go_wp2_with fail
  go_ret2
  exact ⟨by rw [HFi.out]; rfl, B1.out⟩
 have hs : side = 1 ∨ side = 2 ∨ side = 3 ∨ side = 4 := by omega
 have HSd := Lib.hid hs
 clear s1 s4
 obtain ⟨c1, hc1⟩ : ∃ c1, c + dxS side = c1 := ⟨_, rfl⟩
 obtain ⟨r1, hr1⟩ : ∃ r1, rr + dyS side = r1 := ⟨_, rfl⟩
 have Hc1 := Lib.hid hc1; have Hr1' := Lib.hid hr1
 have Hc : Hid (colS s n + dxS side = c1) := Lib.hid (by rw [HC0.out]; exact hc1)
 have Hr1 : Hid (rowS s n + dyS side = r1) := Lib.hid (by rw [HR0.out]; exact hr1)
 clear hc1 hr1
 go_upto_region 4 with fail
 go_cut [8] (fun u wx => u = .int .i64 c1 ∧ wx = w1)
 case first =>
  rcases hs with rfl | rfl | rfl | rfl
  all_goals
   have hc1 := Hc1.out
   unfold dxS at hc1
   simp at hc1
   have wa : IntKind.i64.wrap (c + -1) = c + -1 := IntWalk.i64_in _ (by omega)
   have wb : IntKind.i64.wrap (c + 1) = c + 1 := IntWalk.i64_in _ (by omega)
   have wc' : IntKind.i64.wrap c = c := IntWalk.i64_in _ (by omega)
   have wd : IntKind.i64.wrap (c - 1) = c - 1 := IntWalk.i64_in _ (by omega)
   replace hc1 := Lib.hid hc1
   clear b1 b2 b3 b4 hcb hrb
   go_wp2_with fail
   go_meet
   case rel => exact ⟨by rw [← hc1.out] <;> first | rfl | (congr 1; done) | (congr 1; first | rfl | omega | (simp; omega)), rfl⟩
 case rest =>
 obtain ⟨rfl, rfl⟩ := hcut
 go_upto_region 5 with fail
 go_cut [9] (fun u wx => u = .int .i64 r1 ∧ wx = wc)
 case first =>
  rcases hs with rfl | rfl | rfl | rfl
  all_goals
   have hc1 := Hr1'.out
   unfold dyS at hc1
   simp at hc1
   have wa : IntKind.i64.wrap (rr + -1) = rr + -1 := IntWalk.i64_in _ (by omega)
   have wb : IntKind.i64.wrap (rr + 1) = rr + 1 := IntWalk.i64_in _ (by omega)
   have wc' : IntKind.i64.wrap rr = rr := IntWalk.i64_in _ (by omega)
   have wd : IntKind.i64.wrap (rr - 1) = rr - 1 := IntWalk.i64_in _ (by omega)
   replace hc1 := Lib.hid hc1
   clear b1 b2 b3 b4 hcb hrb
   go_wp2_with fail
   go_meet
   case rel => exact ⟨by rw [← hc1.out] <;> first | rfl | (congr 1; done) | (congr 1; first | rfl | omega | (simp; omega)), rfl⟩
 case rest =>
 obtain ⟨rfl, rfl⟩ := hcut
 have hs1 : 1 ≤ side ∧ side ≤ 4 := by omega
 clear hs
 by_cases g0 : c1 < 0
 case pos =>
  have hf := nb_out Hc.out Hr1.out (fun e => by omega)
  rw [Hr.out] at hf
  have HF := Lib.hid hf
  clear hf
  go_wp2_with fail
  go_ret2
  exact ⟨by rw [HF.out]; rfl, B1.out⟩
 by_cases g1 : s.cols ≤ c1
 case pos =>
  have hf := nb_out Hc.out Hr1.out (fun e => by omega)
  rw [Hr.out] at hf
  have HF := Lib.hid hf
  clear hf
  go_wp2_with fail
  go_ret2
  exact ⟨by rw [HF.out]; rfl, B1.out⟩
 by_cases g2 : r1 < 0
 case pos =>
  have hf := nb_out Hc.out Hr1.out (fun e => by omega)
  rw [Hr.out] at hf
  have HF := Lib.hid hf
  clear hf
  go_wp2_with fail
  go_ret2
  exact ⟨by rw [HF.out]; rfl, B1.out⟩
 by_cases g3 : s.rows ≤ r1
 case pos =>
  have hf := nb_out Hc.out Hr1.out (fun e => by omega)
  rw [Hr.out] at hf
  have HF := Lib.hid hf
  clear hf
  go_wp2_with fail
  go_ret2
  exact ⟨by rw [HF.out]; rfl, B1.out⟩
 have hg : 0 ≤ c1 ∧ c1 < s.cols ∧ 0 ≤ r1 ∧ r1 < s.rows := by omega
 obtain ⟨m1, m2, m3⟩ := nb_wraps (seOk_bd Hin.out.ok) hg
 have hf := nb_in Hin.out hs1.1 hs1.2 Hc.out Hr1.out hg
 rw [Hr.out] at hf
 have HF := Lib.hid hf
 clear hf hg
 go_wp2_with fail
 go_ret2
 exact ⟨by rw [HF.out]; rfl, B1.out⟩

end Go.Proofs.YtfdbidagdjnipaaGreatDoor
namespace Go.Proofs.YtfdbidagdjnipaaGreatDoor

/-- a / b towards zero, then one less where the rest has the other sign. -/
def floorS (a b : Int) : Int := if a.tmod b ≠ 0 ∧ decide (a.tmod b < 0) ≠ decide (b < 0) then a.tdiv b - 1 else a.tdiv b
def absS (a : Int) : Int := if a < 0 then -a else a
def roundS (a b : Int) : Int := if absS b - absS (a - floorS a b * b) ≤ absS (a - floorS a b * b) then floorS a b + 1 else floorS a b
theorem mul_lt_le {q r b : Int} (h : q < r) (hb : 0 < b) : q * b + b ≤ r * b := by
 have := Int.mul_le_mul_of_nonneg_right (show q + 1 ≤ r by omega) (Int.le_of_lt hb)
 rw [Int.add_mul, Int.one_mul] at this
 exact this
theorem near_unique {a b x y : Int} (hb : 0 < b) (h1 : 2 * (x * b) ≤ 2 * a + b) (h2 : 2 * a + b < 2 * (x * b) + 2 * b) (h3 : 2 * (y * b) ≤ 2 * a + b) (h4 : 2 * a + b < 2 * (y * b) + 2 * b) : x = y := by
 rcases Int.lt_trichotomy x y with h | h | h
 · have := mul_lt_le h hb; omega
 · exact h
 · have := mul_lt_le h hb; omega
theorem floorS_spec {a b : Int} (hb : b ≠ 0) : (0 < b → floorS a b * b ≤ a ∧ a < floorS a b * b + b) ∧ (b < 0 → a ≤ floorS a b * b ∧ floorS a b * b + b < a) := by
 have h1 := Int.tdiv_mul_add_tmod a b
 have h2 : (a.tmod b).natAbs < b.natAbs := by
  have : ((a.tmod b).natAbs : Int) < b.natAbs := by
   rw [Int.natAbs_tmod]
   exact_mod_cast Nat.mod_lt _ (by omega)
  exact_mod_cast this
 unfold floorS
 generalize a.tmod b = r at *
 generalize a.tdiv b = q at *
 constructor
 ·
  intro hp
  split
  ·
   rename_i h
   have e : ¬ (b < 0) := by omega
   simp only [e, decide_false, ne_eq, decide_eq_false_iff_not, Decidable.not_not] at h
   rw [Int.sub_mul, Int.one_mul]
   omega
  ·
   rename_i h
   have e : ¬ (b < 0) := by omega
   simp only [e, decide_false, ne_eq, decide_eq_false_iff_not, Decidable.not_not, not_and] at h
   by_cases h0 : r = 0
   · omega
   · have := h h0; omega
 ·
  intro hn
  split
  ·
   rename_i h
   simp only [hn, decide_true, ne_eq, decide_eq_true_eq] at h
   rw [Int.sub_mul, Int.one_mul]
   omega
  ·
   rename_i h
   simp only [hn, decide_true, ne_eq, decide_eq_true_eq, not_and, Decidable.not_not] at h
   by_cases h0 : r = 0
   · omega
   · have := h h0; omega
theorem roundS_near {a b : Int} (hb : b ≠ 0) : (0 < b → 2 * (roundS a b * b) ≤ 2 * a + b ∧ 2 * a + b < 2 * (roundS a b * b) + 2 * b) ∧ (b < 0 → 2 * (roundS a b * (-b)) ≤ 2 * (-a) + (-b) ∧ 2 * (-a) + (-b) < 2 * (roundS a b * (-b)) + 2 * (-b)) := by
 obtain ⟨f1, f2⟩ := floorS_spec (a := a) hb
 unfold roundS absS
 generalize floorS a b = q at *
 constructor
 ·
  intro hp
  obtain ⟨g1, g2⟩ := f1 hp
  rw [if_neg (show ¬ b < 0 by omega), if_neg (show ¬ a - q * b < 0 by omega)]
  split
  · rw [Int.add_mul, Int.one_mul]; omega
  · omega
 ·
  intro hn
  obtain ⟨g1, g2⟩ := f2 hn
  rw [if_pos hn]
  have e : (if a - q * b < 0 then -(a - q * b) else a - q * b) = q * b - a := by split <;> omega
  rw [e]
  split
  · rw [Int.add_mul, Int.one_mul, Int.mul_neg]; omega
  · rw [Int.mul_neg]; omega
end Go.Proofs.YtfdbidagdjnipaaGreatDoor
