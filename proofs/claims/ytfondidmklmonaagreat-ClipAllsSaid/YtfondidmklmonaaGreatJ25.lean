/- mapsheetsref41.side. (printed by gen/cliprg.py) mapsheetsref41.pieces: its memory. -/
import Derived.Test.YtfondidmklmonaaGreatClipRF
import Derived.Test.YtfondidmklmonaaGreatClipWG
import Derived.Test.YtfondidmklmonaaGreatClipWI
set_option linter.unusedSimpArgs false
set_option linter.unusedVariables false
namespace Go.Proofs.YtfondidmklmonaaGreat
open Go.RowKit

set_option maxRecDepth 100000 in
set_option maxHeartbeats 8000000 in
theorem side_spec (p q : Pt) (b : Bx) (w : World) (hp : bdP p) (hq : bdP q) (hx : smB b) : Calls Tryz.prog 68 #[ptV p, ptV q, bxV b] w fun e w' => e = .returned (.int .i64 (clSide p q b)) ∧ Below w.heap.size w w' := by
 obtain ⟨r, hr⟩ : ∃ r, clSide p q b = r := ⟨_, rfl⟩
 rw [hr]
 have HR0 := Lib.hid hr
 obtain ⟨⟨p1, p2⟩, p3, p4⟩ := hp
 obtain ⟨⟨q1, q2⟩, q3, q4⟩ := hq
 obtain ⟨⟨⟨x1, x2⟩, x3, x4⟩, ⟨x5, x6⟩, x7, x8⟩ := hx
 have hbX : sm23 (clSideX p q b).2.1 ∧ sm23 (clSideX p q b).2.2 := by unfold clSideX sm23; (repeat' split) <;> simp only <;> omega
 have hbY : sm23 (clSideY p q b).2.1 ∧ sm23 (clSideY p q b).2.2 := by unfold clSideY sm23; (repeat' split) <;> simp only <;> omega
 have HWX := Lib.hid (show IntKind.i64.wrap (b.x0 - p.x) = b.x0 - p.x ∧ IntKind.i64.wrap (q.x - p.x) = q.x - p.x ∧ IntKind.i64.wrap (p.x - b.x1) = p.x - b.x1 ∧ IntKind.i64.wrap (p.x - q.x) = p.x - q.x from ⟨IntWalk.i64_in _ (by omega), IntWalk.i64_in _ (by omega), IntWalk.i64_in _ (by omega), IntWalk.i64_in _ (by omega)⟩)
 have HWY := Lib.hid (show IntKind.i64.wrap (b.y0 - p.y) = b.y0 - p.y ∧ IntKind.i64.wrap (q.y - p.y) = q.y - p.y ∧ IntKind.i64.wrap (p.y - b.y1) = p.y - b.y1 ∧ IntKind.i64.wrap (p.y - q.y) = p.y - q.y from ⟨IntWalk.i64_in _ (by omega), IntWalk.i64_in _ (by omega), IntWalk.i64_in _ (by omega), IntWalk.i64_in _ (by omega)⟩)
 have HW1 := Lib.hid (show IntKind.i64.wrap (b.x1 - p.x) = b.x1 - p.x ∧ IntKind.i64.wrap (b.y1 - p.y) = b.y1 - p.y from ⟨IntWalk.i64_in _ (by omega), IntWalk.i64_in _ (by omega)⟩)
 have HSm := Lib.hid (show sm23 (b.x0 - p.x) ∧ sm23 (b.x1 - p.x) ∧ sm23 (b.y0 - p.y) ∧ sm23 (b.y1 - p.y) ∧ sm23 (q.x - p.x) ∧ sm23 (q.y - p.y) by unfold sm23; omega)
 have HbX := Lib.hid hbX; have HbY := Lib.hid hbY
 clear hr p1 p2 p3 p4 q1 q2 q3 q4 x1 x2 x3 x4 x5 x6 x7 x8 hbX hbY
 unfold ptV bxV at *
 obtain ⟨g3, hg3⟩ : ∃ g, w.heap.size = g := ⟨_, rfl⟩
 obtain ⟨g4, hg4⟩ : ∃ g, g3 + 1 = g := ⟨_, rfl⟩
 obtain ⟨g5, hg5⟩ : ∃ g, g4 + 1 = g := ⟨_, rfl⟩
 obtain ⟨W0, hW0⟩ : ∃ W0 : World, W0 = ((w.alloc (.cells #[.int .i64 p.x, .int .i64 p.y] 28)).alloc (.cells #[.int .i64 q.x, .int .i64 q.y] 28)).alloc (.cells #[.int .i64 b.x0, .int .i64 b.y0, .int .i64 b.x1, .int .i64 b.y1] 50) := ⟨_, rfl⟩
 have HB0 := Lib.hid (show Below w.heap.size w W0 by rw [hW0]; exact bA (bA (bA (bR w) _) _) _)
 have X3 : Blk W0 g3 28 #[.int .i64 p.x, .int .i64 p.y] := by rw [hW0]; exact ((Blk.made hg3.symm _ _).alloc _).alloc _
 have X4 : Blk W0 g4 28 #[.int .i64 q.x, .int .i64 q.y] := by rw [hW0]; exact (Blk.made (by simp; omega) _ _).alloc _
 have X5 : Blk W0 g5 50 #[.int .i64 b.x0, .int .i64 b.y0, .int .i64 b.x1, .int .i64 b.y1] := by rw [hW0]; exact Blk.made (by simp; omega) _ _
 go_enter Tryz.func68, Tryz.ntmps68
 go_upto_region 2 with fail
 try rw [← hW0]
 clear hW0 hg3 hg4 hg5
 obtain ⟨X3l, X3a, X3b, -, -⟩ := X3.facts2
 obtain ⟨X4l, X4a, X4b, -, -⟩ := X4.facts2
 obtain ⟨X5l, X5a, X5b, X5c, X5d, -, -, -, -⟩ := X5.facts4
 go_upto_if 17 with fail
 obtain ⟨⟨Xa1, Xa2, Xa3⟩, hCX⟩ : ∃ CC, clSideX p q b = CC := ⟨_, rfl⟩
 have HCX := Lib.hid hCX
 clear hCX
 go_cut [7, 8, 9] (fun u v z wx => u = .int .i64 Xa1 ∧ v = .int .i64 Xa2 ∧ z = .int .i64 Xa3 ∧ Blk wx g3 28 #[.int .i64 p.x, .int .i64 p.y] ∧ Blk wx g4 28 #[.int .i64 q.x, .int .i64 q.y] ∧ Blk wx g5 50 #[.int .i64 b.x0, .int .i64 b.y0, .int .i64 b.x1, .int .i64 b.y1] ∧ Below w.heap.size w wx)
 case first =>
  obtain ⟨k1, k2, k3, k4⟩ := HWX.out
  by_cases h1 : p.x < b.x0
  ·
   have he : Hid ((1 : Int) = 1 ∧ 1 = Xa1 ∧ b.x0 - p.x = Xa2 ∧ q.x - p.x = Xa3) := Lib.hid (by
    have h := HCX.out
    unfold clSideX at h
    rw [if_pos h1] at h
    injection h with e1 h
    injection h with e2 e3
    exact ⟨rfl, e1, e2, e3⟩)
   go_upto_region 3 with fail
   refine rg_start (Since W0) (.run 13 0 0 (.done)) (by kernel_rfl) (bD (bR _)) (by kernel_rfl) (by kernel_rfl) (Nat.le_of_ble_eq_true (by kernel_rfl)) ?_
   intro opsR QR Hops HQrg hS
   iterate 13
    apply rg_p; exact Hops; exact rfl; exact hS; exact rfl
    · intro _ hqc; go_simp; try rfl
    try simp only [pu]
   refine rg_done ?_
   refine HQrg.down _ _ ?_
   have hB : Below W0.heap.size W0 W0.drew := hS
   clear hS HQrg Hops
   go_wp2_with fail
   go_meet
   case rel => exact ⟨by rw [← he.out.2.1], by rw [← he.out.2.2.1], by rw [← he.out.2.2.2], X3.keep hB, X4.keep hB, X5.keep hB, bT HB0.out hB⟩
  ·
   by_cases h2 : b.x1 < p.x
   ·
    have he : Hid ((1 : Int) = 1 ∧ 3 = Xa1 ∧ p.x - b.x1 = Xa2 ∧ p.x - q.x = Xa3) := Lib.hid (by
     have h := HCX.out
     unfold clSideX at h
     rw [if_neg h1, if_pos h2] at h
     injection h with e1 h
     injection h with e2 e3
     exact ⟨rfl, e1, e2, e3⟩)
    go_upto_region 5 with fail
    refine rg_start (Since W0) (.run 13 0 0 (.done)) (by kernel_rfl) (bD (bR _)) (by kernel_rfl) (by kernel_rfl) (Nat.le_of_ble_eq_true (by kernel_rfl)) ?_
    intro opsR QR Hops HQrg hS
    iterate 13
     apply rg_p; exact Hops; exact rfl; exact hS; exact rfl
     · intro _ hqc; go_simp; try rfl
     try simp only [pu]
    refine rg_done ?_
    refine HQrg.down _ _ ?_
    have hB : Below W0.heap.size W0 W0.drew := hS
    clear hS HQrg Hops
    go_wp2_with fail
    go_meet
    case rel => exact ⟨by rw [← he.out.2.1], by rw [← he.out.2.2.1], by rw [← he.out.2.2.2], X3.keep hB, X4.keep hB, X5.keep hB, bT HB0.out hB⟩
   ·
    have he : Hid ((1 : Int) = 1 ∧ (0 : Int) = Xa1 ∧ (0 : Int) = Xa2 ∧ (1 : Int) = Xa3) := Lib.hid (by
     have h := HCX.out
     unfold clSideX at h
     rw [if_neg h1, if_neg h2] at h
     injection h with e1 h
     injection h with e2 e3
     exact ⟨rfl, e1, e2, e3⟩)
    go_wp2_with fail
    go_meet
    case rel => exact ⟨by rw [← he.out.2.1], by rw [← he.out.2.2.1], by rw [← he.out.2.2.2], X3, X4, X5, HB0.out⟩
 case rest =>
 clear X3 X4 X5 HB0
 try clear X3l X3a X3b
 try clear X4l X4a X4b
 try clear X5l X5a X5b X5c X5d
 obtain ⟨rfl, rfl, rfl, X3, X4, X5, hbn⟩ := hcut
 have HB1 := Lib.hid hbn
 clear hbn
 obtain ⟨W1, hwn⟩ : ∃ W1, W1 = wc := ⟨_, rfl⟩
 rw [← hwn] at X3 X4 X5 HB1 ⊢
 clear hwn
 try clear X3l
 try clear X3a
 try clear X3b
 obtain ⟨X3l, X3a, X3b, -, -⟩ := X3.facts2
 try clear X4l
 try clear X4a
 try clear X4b
 obtain ⟨X4l, X4a, X4b, -, -⟩ := X4.facts2
 try clear X5l
 try clear X5a
 try clear X5b
 try clear X5c
 try clear X5d
 obtain ⟨X5l, X5a, X5b, X5c, X5d, -, -, -, -⟩ := X5.facts4
 go_upto_if 47 with fail
 obtain ⟨⟨Ya1, Ya2, Ya3⟩, hCY⟩ : ∃ CC, clSideY p q b = CC := ⟨_, rfl⟩
 have HCY := Lib.hid hCY
 clear hCY
 go_cut [10, 11, 12] (fun u v z wx => u = .int .i64 Ya1 ∧ v = .int .i64 Ya2 ∧ z = .int .i64 Ya3 ∧ Blk wx g3 28 #[.int .i64 p.x, .int .i64 p.y] ∧ Blk wx g4 28 #[.int .i64 q.x, .int .i64 q.y] ∧ Blk wx g5 50 #[.int .i64 b.x0, .int .i64 b.y0, .int .i64 b.x1, .int .i64 b.y1] ∧ Below w.heap.size w wx)
 case first =>
  obtain ⟨k1, k2, k3, k4⟩ := HWY.out
  by_cases h1 : p.y < b.y0
  ·
   have he : Hid ((1 : Int) = 1 ∧ 2 = Ya1 ∧ b.y0 - p.y = Ya2 ∧ q.y - p.y = Ya3) := Lib.hid (by
    have h := HCY.out
    unfold clSideY at h
    rw [if_pos h1] at h
    injection h with e1 h
    injection h with e2 e3
    exact ⟨rfl, e1, e2, e3⟩)
   go_upto_region 8 with fail
   refine rg_start (Since W1) (.run 13 0 0 (.done)) (by kernel_rfl) (bD (bR _)) (by kernel_rfl) (by kernel_rfl) (Nat.le_of_ble_eq_true (by kernel_rfl)) ?_
   intro opsR QR Hops HQrg hS
   iterate 13
    apply rg_p; exact Hops; exact rfl; exact hS; exact rfl
    · intro _ hqc; go_simp; try rfl
    try simp only [pu]
   refine rg_done ?_
   refine HQrg.down _ _ ?_
   have hB : Below W1.heap.size W1 W1.drew := hS
   clear hS HQrg Hops
   go_wp2_with fail
   go_meet
   case rel => exact ⟨by rw [← he.out.2.1], by rw [← he.out.2.2.1], by rw [← he.out.2.2.2], X3.keep hB, X4.keep hB, X5.keep hB, bT HB1.out hB⟩
  ·
   by_cases h2 : b.y1 < p.y
   ·
    have he : Hid ((1 : Int) = 1 ∧ 4 = Ya1 ∧ p.y - b.y1 = Ya2 ∧ p.y - q.y = Ya3) := Lib.hid (by
     have h := HCY.out
     unfold clSideY at h
     rw [if_neg h1, if_pos h2] at h
     injection h with e1 h
     injection h with e2 e3
     exact ⟨rfl, e1, e2, e3⟩)
    go_upto_region 10 with fail
    refine rg_start (Since W1) (.run 13 0 0 (.done)) (by kernel_rfl) (bD (bR _)) (by kernel_rfl) (by kernel_rfl) (Nat.le_of_ble_eq_true (by kernel_rfl)) ?_
    intro opsR QR Hops HQrg hS
    iterate 13
     apply rg_p; exact Hops; exact rfl; exact hS; exact rfl
     · intro _ hqc; go_simp; try rfl
     try simp only [pu]
    refine rg_done ?_
    refine HQrg.down _ _ ?_
    have hB : Below W1.heap.size W1 W1.drew := hS
    clear hS HQrg Hops
    go_wp2_with fail
    go_meet
    case rel => exact ⟨by rw [← he.out.2.1], by rw [← he.out.2.2.1], by rw [← he.out.2.2.2], X3.keep hB, X4.keep hB, X5.keep hB, bT HB1.out hB⟩
   ·
    have he : Hid ((1 : Int) = 1 ∧ (0 : Int) = Ya1 ∧ (0 : Int) = Ya2 ∧ (1 : Int) = Ya3) := Lib.hid (by
     have h := HCY.out
     unfold clSideY at h
     rw [if_neg h1, if_neg h2] at h
     injection h with e1 h
     injection h with e2 e3
     exact ⟨rfl, e1, e2, e3⟩)
    go_wp2_with fail
    go_meet
    case rel => exact ⟨by rw [← he.out.2.1], by rw [← he.out.2.2.1], by rw [← he.out.2.2.2], X3, X4, X5, HB1.out⟩
 case rest =>
 clear X3 X4 X5 HB1
 try clear X3l X3a X3b
 try clear X4l X4a X4b
 try clear X5l X5a X5b X5c X5d
 obtain ⟨rfl, rfl, rfl, X3, X4, X5, hbn⟩ := hcut
 have HB2 := Lib.hid hbn
 clear hbn
 obtain ⟨W2, hwn⟩ : ∃ W2, W2 = wc := ⟨_, rfl⟩
 rw [← hwn] at X3 X4 X5 HB2 ⊢
 clear hwn
 try clear X3l
 try clear X3a
 try clear X3b
 obtain ⟨X3l, X3a, X3b, -, -⟩ := X3.facts2
 try clear X4l
 try clear X4a
 try clear X4b
 obtain ⟨X4l, X4a, X4b, -, -⟩ := X4.facts2
 try clear X5l
 try clear X5a
 try clear X5b
 try clear X5c
 try clear X5d
 obtain ⟨X5l, X5a, X5b, X5c, X5d, -, -, -, -⟩ := X5.facts4
 have hr := HR0.out
 unfold clSide at hr
 rw [HCX.out, HCY.out] at hr
 dsimp only at hr
 have hbx := HbX.out
 have hby := HbY.out
 rw [HCX.out] at hbx
 rw [HCY.out] at hby
 dsimp only at hbx hby
 obtain ⟨s1, s2, s3, s4, s5, s6⟩ := HSm.out
 obtain ⟨w1, w2, -, -⟩ := HWX.out
 obtain ⟨w3, w4, -, -⟩ := HWY.out
 obtain ⟨w5, w6⟩ := HW1.out
 have v1 : IntKind.i64.wrap (Xa2 * Ya3) = Xa2 * Ya3 := IntWalk.i64_in _ (by have := sm_mul hbx.1 hby.2; omega)
 have v2 : IntKind.i64.wrap (Ya2 * Xa3) = Ya2 * Xa3 := IntWalk.i64_in _ (by have := sm_mul hby.1 hbx.2; omega)
 have v3 : IntKind.i64.wrap ((b.y0 - p.y) * Xa3) = (b.y0 - p.y) * Xa3 := IntWalk.i64_in _ (by have := sm_mul s3 hbx.2; omega)
 have v4 : IntKind.i64.wrap ((q.y - p.y) * Xa2) = (q.y - p.y) * Xa2 := IntWalk.i64_in _ (by have := sm_mul s6 hbx.1; omega)
 have v5 : IntKind.i64.wrap ((b.y1 - p.y) * Xa3) = (b.y1 - p.y) * Xa3 := IntWalk.i64_in _ (by have := sm_mul s4 hbx.2; omega)
 have v6 : IntKind.i64.wrap ((b.x0 - p.x) * Ya3) = (b.x0 - p.x) * Ya3 := IntWalk.i64_in _ (by have := sm_mul s1 hby.2; omega)
 have v7 : IntKind.i64.wrap ((q.x - p.x) * Ya2) = (q.x - p.x) * Ya2 := IntWalk.i64_in _ (by have := sm_mul s5 hby.1; omega)
 have v8 : IntKind.i64.wrap ((b.x1 - p.x) * Ya3) = (b.x1 - p.x) * Ya3 := IntWalk.i64_in _ (by have := sm_mul s2 hby.2; omega)
 have HR := Lib.hid hr
 clear hr hbx hby s1 s2 s3 s4 s5 s6
 by_cases hx0 : Xa1 = 0
 ·
  have a1 : (Xa1 == 0) = true := by simpa using hx0
  have a2 : (Xa1 != 0) = false := by simpa using hx0
  by_cases f1 : (b.x0 - p.x) * Ya3 = (q.x - p.x) * Ya2
  ·
   have f1b : ((b.x0 - p.x) * Ya3 == (q.x - p.x) * Ya2) = true := by simpa using f1
   have HF := Lib.hid (show (0 : Int) = r from by
    rw [← HR.out]
    rw [if_neg (fun e => e.1 hx0), if_pos (.inr (.inl f1))])
   go_wp2_with fail
   go_ret
   exact ⟨by rw [← HF.out]; rfl, HB2.out⟩
  ·
   have f1b : ((b.x0 - p.x) * Ya3 == (q.x - p.x) * Ya2) = false := by simpa using f1
   by_cases f2 : (b.x1 - p.x) * Ya3 = (q.x - p.x) * Ya2
   ·
    have f2b : ((b.x1 - p.x) * Ya3 == (q.x - p.x) * Ya2) = true := by simpa using f2
    have HF := Lib.hid (show (0 : Int) = r from by
     rw [← HR.out]
     rw [if_neg (fun e => e.1 hx0), if_pos (.inr (.inr f2))])
    go_wp2_with fail
    go_ret
    exact ⟨by rw [← HF.out]; rfl, HB2.out⟩
   ·
    have f2b : ((b.x1 - p.x) * Ya3 == (q.x - p.x) * Ya2) = false := by simpa using f2
    have HF := Lib.hid (show Ya1 = r from by
     rw [← HR.out]
     rw [if_neg (fun e => e.1 hx0), if_neg (fun e => e.elim (fun e => e.1 hx0) (fun e => e.elim f1 f2))])
    go_wp2_with fail
    go_ret
    exact ⟨by rw [← HF.out]; rfl, HB2.out⟩
 ·
  have a1 : (Xa1 == 0) = false := by simpa using hx0
  have a2 : (Xa1 != 0) = true := by simpa using hx0
  by_cases hy0 : Ya1 = 0
  ·
   have a3 : (Ya1 == 0) = true := by simpa using hy0
   by_cases e1 : (b.y0 - p.y) * Xa3 = (q.y - p.y) * Xa2
   ·
    have e1b : ((b.y0 - p.y) * Xa3 == (q.y - p.y) * Xa2) = true := by simpa using e1
    have HF := Lib.hid (show (0 : Int) = r from by
     rw [← HR.out]
     rw [if_pos ⟨hx0, .inl hy0⟩, if_pos (.inl e1)])
    go_wp2_with fail
    go_ret
    exact ⟨by rw [← HF.out]; rfl, HB2.out⟩
   ·
    have e1b : ((b.y0 - p.y) * Xa3 == (q.y - p.y) * Xa2) = false := by simpa using e1
    by_cases e2 : (b.y1 - p.y) * Xa3 = (q.y - p.y) * Xa2
    ·
     have e2b : ((b.y1 - p.y) * Xa3 == (q.y - p.y) * Xa2) = true := by simpa using e2
     have HF := Lib.hid (show (0 : Int) = r from by
      rw [← HR.out]
      rw [if_pos ⟨hx0, .inl hy0⟩, if_pos (.inr e2)])
     go_wp2_with fail
     go_ret
     exact ⟨by rw [← HF.out]; rfl, HB2.out⟩
    ·
     have e2b : ((b.y1 - p.y) * Xa3 == (q.y - p.y) * Xa2) = false := by simpa using e2
     have HF := Lib.hid (show Xa1 = r from by
      rw [← HR.out]
      rw [if_pos ⟨hx0, .inl hy0⟩, if_neg (fun e => e.elim e1 e2)])
     go_wp2_with fail
     go_ret
     exact ⟨by rw [← HF.out]; rfl, HB2.out⟩
  ·
   have a3 : (Ya1 == 0) = false := by simpa using hy0
   by_cases hlt : Ya2 * Xa3 < Xa2 * Ya3
   ·
    by_cases e1 : (b.y0 - p.y) * Xa3 = (q.y - p.y) * Xa2
    ·
     have e1b : ((b.y0 - p.y) * Xa3 == (q.y - p.y) * Xa2) = true := by simpa using e1
     have HF := Lib.hid (show (0 : Int) = r from by
      rw [← HR.out]
      rw [if_pos ⟨hx0, .inr hlt⟩, if_pos (.inl e1)])
     go_wp2_with fail
     go_ret
     exact ⟨by rw [← HF.out]; rfl, HB2.out⟩
    ·
     have e1b : ((b.y0 - p.y) * Xa3 == (q.y - p.y) * Xa2) = false := by simpa using e1
     by_cases e2 : (b.y1 - p.y) * Xa3 = (q.y - p.y) * Xa2
     ·
      have e2b : ((b.y1 - p.y) * Xa3 == (q.y - p.y) * Xa2) = true := by simpa using e2
      have HF := Lib.hid (show (0 : Int) = r from by
       rw [← HR.out]
       rw [if_pos ⟨hx0, .inr hlt⟩, if_pos (.inr e2)])
      go_wp2_with fail
      go_ret
      exact ⟨by rw [← HF.out]; rfl, HB2.out⟩
     ·
      have e2b : ((b.y1 - p.y) * Xa3 == (q.y - p.y) * Xa2) = false := by simpa using e2
      have HF := Lib.hid (show Xa1 = r from by
       rw [← HR.out]
       rw [if_pos ⟨hx0, .inr hlt⟩, if_neg (fun e => e.elim e1 e2)])
      go_wp2_with fail
      go_ret
      exact ⟨by rw [← HF.out]; rfl, HB2.out⟩
   ·
    by_cases f0 : Xa2 * Ya3 = Ya2 * Xa3
    ·
     have f0b : (Xa2 * Ya3 == Ya2 * Xa3) = true := by simpa using f0
     have HF := Lib.hid (show (0 : Int) = r from by
      rw [← HR.out]
      rw [if_neg (fun e => e.2.elim hy0 hlt), if_pos (.inl ⟨hx0, f0⟩)])
     go_wp2_with fail
     go_ret
     exact ⟨by rw [← HF.out]; rfl, HB2.out⟩
    ·
     have f0b : (Xa2 * Ya3 == Ya2 * Xa3) = false := by simpa using f0
     by_cases f1 : (b.x0 - p.x) * Ya3 = (q.x - p.x) * Ya2
     ·
      have f1b : ((b.x0 - p.x) * Ya3 == (q.x - p.x) * Ya2) = true := by simpa using f1
      have HF := Lib.hid (show (0 : Int) = r from by
       rw [← HR.out]
       rw [if_neg (fun e => e.2.elim hy0 hlt), if_pos (.inr (.inl f1))])
      go_wp2_with fail
      go_ret
      exact ⟨by rw [← HF.out]; rfl, HB2.out⟩
     ·
      have f1b : ((b.x0 - p.x) * Ya3 == (q.x - p.x) * Ya2) = false := by simpa using f1
      by_cases f2 : (b.x1 - p.x) * Ya3 = (q.x - p.x) * Ya2
      ·
       have f2b : ((b.x1 - p.x) * Ya3 == (q.x - p.x) * Ya2) = true := by simpa using f2
       have HF := Lib.hid (show (0 : Int) = r from by
        rw [← HR.out]
        rw [if_neg (fun e => e.2.elim hy0 hlt), if_pos (.inr (.inr f2))])
       go_wp2_with fail
       go_ret
       exact ⟨by rw [← HF.out]; rfl, HB2.out⟩
      ·
       have f2b : ((b.x1 - p.x) * Ya3 == (q.x - p.x) * Ya2) = false := by simpa using f2
       have HF := Lib.hid (show Ya1 = r from by
        rw [← HR.out]
        rw [if_neg (fun e => e.2.elim hy0 hlt), if_neg (fun e => e.elim (fun e => f0 e.2) (fun e => e.elim f1 f2))])
       go_wp2_with fail
       go_ret
       exact ⟨by rw [← HF.out]; rfl, HB2.out⟩
end Go.Proofs.YtfondidmklmonaaGreat
namespace Go.Proofs.YtfondidmklmonaaGreat
open Go.RowKit

/-- the memory of the reference's 'pieces': the box of the open piece (g8) and the list -/
structure RcM (w : World) (B g8 : Nat) (z : Pc) (L : List (Pc × SV)) (vl vp : Value) (opn : Prop) : Prop where
 x : Blk w g8 55 #[.int .i64 z.arc, vp, .int .i64 z.enter, .int .i64 z.leave]
 pcs : PcsO w B vl L
 n8 : vl.ownBlock ≠ some g8
 path : opn → Own w B 28 2 ptC vp z.path ∧ z.path ≠ [] ∧ ∀ y ∈ L, ∀ k, (Value.slice y.2.a y.2.n y.2.c).ownBlock = some k → some k ≠ vp.ownBlock
section
variable {W : World} {B g8 : Nat} {x : Pc} {L : List (Pc × SV)} {vl vp : Value} {opn : Prop}
theorem RcM.keep {w' : World} (h : RcM W B g8 x L vl vp opn) (hb : Below W.heap.size W w') : RcM w' B g8 x L vl vp opn :=
 ⟨h.x.keep hb, h.pcs.keep hb, h.n8, fun e => ⟨(h.path e).1.keep hb, (h.path e).2⟩⟩
theorem RcM.weaken {o' : Prop} (h : RcM W B g8 x L vl vp opn) (ho : o' → opn) : RcM W B g8 x L vl vp o' := ⟨h.x, h.pcs, h.n8, fun e => h.path (ho e)⟩
theorem PcsO.far8 {v : Value} (h : PcsO W B v L) (hn : v.ownBlock ≠ some g8) {cs : Array Value} (hg : Blk W g8 55 cs) (i : Nat) (u : Value) : PcsO (W.setCell ⟨g8, i, none⟩ u) B v L :=
 ⟨h.own.far (p := ⟨g8, i, none⟩) hn u, fun y hy => (h.path y hy).far (p := ⟨g8, i, none⟩) (Own.ne_blk (h.path y hy) hg (by decide)) u⟩
theorem RcM.enter_ (h : RcM W B g8 x L vl vp opn) (v : Int) : RcM (W.setCell ⟨g8, 2, none⟩ (.int .i64 v)) B g8 ⟨x.arc, x.path, v, x.leave⟩ L vl vp opn := by
 refine ⟨by have := h.x.set_ 2 (.int .i64 v); simpa using this, h.pcs.far8 h.n8 h.x _ _, h.n8, fun e => ?_⟩
 obtain ⟨p1, p2, p3⟩ := h.path e
 exact ⟨p1.far (p := ⟨g8, 2, none⟩) (Own.ne_blk p1 h.x (by decide)) _, p2, p3⟩
theorem RcM.leave_ (h : RcM W B g8 x L vl vp opn) (v : Int) : RcM (W.setCell ⟨g8, 3, none⟩ (.int .i64 v)) B g8 ⟨x.arc, x.path, x.enter, v⟩ L vl vp opn := by
 refine ⟨by have := h.x.set_ 3 (.int .i64 v); simpa using this, h.pcs.far8 h.n8 h.x _ _, h.n8, fun e => ?_⟩
 obtain ⟨p1, p2, p3⟩ := h.path e
 exact ⟨p1.far (p := ⟨g8, 3, none⟩) (Own.ne_blk p1 h.x (by decide)) _, p2, p3⟩
theorem RcM.opened (h : RcM W B g8 x L vl vp opn) (hB : B ≤ W.heap.size) (arc : Int) (c : Pt) :
  RcM (((((W.alloc (.cells #[.int .i64 c.x, .int .i64 c.y] 28)).setCell ⟨g8, 0, none⟩ (.int .i64 arc)).setCell ⟨g8, 1, none⟩ (.slice (some ⟨W.heap.size, 0, none⟩) 1 1)).setCell ⟨g8, 2, none⟩ (.int .i64 0)).setCell ⟨g8, 3, none⟩ (.int .i64 0)) B g8 ⟨arc, [c], 0, 0⟩ L vl (.slice (some ⟨W.heap.size, 0, none⟩) 1 1) True := by
 have l8 := h.x.lt
 have h1 := h.keep (bA (bR W) (.cells #[.int .i64 c.x, .int .i64 c.y] 28))
 have b1 : Blk (W.alloc (.cells #[.int .i64 c.x, .int .i64 c.y] 28)) W.heap.size 28 #[.int .i64 c.x, .int .i64 c.y] := Blk.made rfl _ _
 have s0 := h1.x.set_ 0 (.int .i64 arc)
 have s1 := s0.set_ 1 (.slice (some ⟨W.heap.size, 0, none⟩) 1 1)
 have s2 := s1.set_ 2 (.int .i64 0)
 have ne : W.heap.size ≠ g8 := by omega
 refine ⟨Blk.put4 h1.x, (((h1.pcs.far8 h.n8 h1.x _ _).far8 h.n8 s0 _ _).far8 h.n8 s1 _ _).far8 h.n8 s2 _ _, h.n8, fun _ => ⟨?_, by simp, fun y hy k hk e => ?_⟩⟩
 · exact ⟨rfl, .inr ⟨W.heap.size, 1, _, rfl, hB, ((((b1.far (p := ⟨g8, 0, none⟩) ne _).far (p := ⟨g8, 1, none⟩) ne _).far (p := ⟨g8, 2, none⟩) ne _).far (p := ⟨g8, 3, none⟩) ne _), Nat.le_refl _, by simp [maxLen], rfl, rfl⟩⟩
 ·
  have := ((h.pcs.path y hy).lt k hk).2
  have h2 : k = W.heap.size := by simpa [Value.ownBlock] using e
  omega
theorem RcM.added {w5 : World} {v5 : Value} {d : Pt} (h : RcM W B g8 x L vl vp opn) (ho : opn) (h5 : Own w5 B 28 2 ptC v5 (x.path ++ [d])) {o : Obj} (hg : (W.alloc o).grownBy w5 vp.ownBlock) (hat : v5.ownBlock = vp.ownBlock ∨ v5.ownBlock = some (W.alloc o).heap.size) :
  RcM (w5.setCell ⟨g8, 1, none⟩ v5) B g8 ⟨x.arc, x.path ++ [d], x.enter, x.leave⟩ L vl v5 opn := by
 obtain ⟨p1, p2, p3⟩ := h.path ho
 have e7 := Own.ne_blk p1 h.x (by decide)
 have x7 := Blk.grown (h.x.alloc o) hg (fun e => e7 e.symm)
 have hpc : PcsO w5 B vl L := ⟨Own.grown (Own.alloc h.pcs.own o) hg (fun k hk => Own.apart h.pcs.own p1 (by decide) k hk), fun y hy => Own.grown (Own.alloc (h.pcs.path y hy) o) hg (fun k hk => p3 y hy k hk)⟩
 refine ⟨by have := x7.set_ 1 v5; simpa using this, hpc.far8 h.n8 x7 _ _, h.n8, fun _ => ⟨h5.far (p := ⟨g8, 1, none⟩) (Own.ne_blk h5 x7 (by decide)) _, by simp, fun y hy k hk => ?_⟩⟩
 rcases hat with e | e
 · rw [e]; exact p3 y hy k hk
 ·
  rw [e]
  intro h2
  have := ((h.pcs.path y hy).lt k hk).2
  have h3 := Option.some.inj h2
  simp only [World.size_alloc] at h3
  omega
end
/-- behind the opening of a piece (reference) -/
def rOpen (arc : Int) (b : Bx) (s : PSt) (p q c : Pt) : Pc := if s.open_ = true then s.x else ⟨arc, [c], if inB b p = true then 0 else clSide p q b, 0⟩
theorem rclAdd_eq (arc : Int) (b : Bx) (s : PSt) (p q c d : Pt) : rclAdd arc b s p q c d = ⟨(rOpen arc b s p q c).arc, if (rOpen arc b s p q c).path.getLast? = some d then (rOpen arc b s p q c).path else (rOpen arc b s p q c).path ++ [d], (rOpen arc b s p q c).enter, if inB b q = true then (rOpen arc b s p q c).leave else clSide q p b⟩ := by
 unfold rclAdd rOpen
 cases s.open_ <;> rfl
theorem rst_l (arc : Int) (b : Bx) (l : List Pt) : ∀ i, (rstAt arc b l i).l.length ≤ i ∧ (rstAt arc b l i).x.path.length ≤ 2 * i
 | 0 => ⟨Nat.le_refl _, Nat.le_refl _⟩
 | i + 1 => by
  have h := rst_l arc b l i
  have key : ∀ (s : PSt) (p q : Pt) (last : Bool), (rstepS arc b s p q last).l.length ≤ s.l.length + 1 ∧ (rstepS arc b s p q last).x.path.length ≤ s.x.path.length + 2 := by
   intro s p q last
   unfold rstepS
   split
   · exact ⟨by omega, by omega⟩
   ·
    rename_i c d _
    constructor
    ·
     simp only
     split
     · simp
     · omega
    ·
     simp only
     have ho : (rOpen arc b s p q c).path.length ≤ s.x.path.length + 1 := by
      unfold rOpen
      split
      · omega
      · simp
     rw [rclAdd_eq]
     simp only
     split
     · omega
     · rw [List.length_append, List.length_singleton]; omega
  have h2 := key (rstAt arc b l i) (l.getD i ptz) (l.getD (i + 1) ptz) (decide (i + 2 = l.length))
  exact ⟨by show (rstepS _ _ _ _ _ _).l.length ≤ _; omega, by show (rstepS _ _ _ _ _ _).x.path.length ≤ _; omega⟩
end Go.Proofs.YtfondidmklmonaaGreat
