/- cut: accepted, AtX, AtY. mapsheetsref09: AtX, turn, AtY. geom.In, ref08.In; cut: reach, place.less. cut.reach. cut.Clip: its closures. -/
import Derived.Test.YtfondidmklmonaaGreatJ03
import Derived.Test.YtfondidmklmonaaGreatJ01
import Derived.Test.YtfondidmklmonaaGreatJ04
import Derived.Test.YtfondidmklmonaaGreatJ02
set_option linter.unusedSimpArgs false
set_option linter.unusedVariables false
namespace Go.Proofs.YtfondidmklmonaaGreat
open Go.RowKit

theorem AtX.facts {a b : Pt} {x : Int} (h : AtX a b x) : bd60 ((b.y - a.y) * (x - a.x)) ∧ b.x - a.x ≠ 0 ∧ bd60 (b.x - a.x) ∧
  (IntKind.i64.wrap (b.y - a.y) = b.y - a.y ∧ IntKind.i64.wrap (x - a.x) = x - a.x ∧ IntKind.i64.wrap ((b.y - a.y) * (x - a.x)) = (b.y - a.y) * (x - a.x) ∧ IntKind.i64.wrap (b.x - a.x) = b.x - a.x) := by
 obtain ⟨⟨a1, a2⟩, ⟨b1, b2⟩, h1, h2⟩ := h
 unfold btwX at h2
 have hm := mul_abs (u := b.y - a.y) (v := x - a.x) (m := 2097152) (n := 2097152) (by omega) (by omega)
 refine ⟨⟨by omega, by omega⟩, by omega, ⟨by omega, by omega⟩, IntWalk.i64_in _ (by omega), IntWalk.i64_in _ (by omega), IntWalk.i64_in _ (by omega), IntWalk.i64_in _ (by omega)⟩
theorem AtX.sum {a b : Pt} {x : Int} (h : AtX a b x) : IntKind.i64.wrap (atxS a b x) = atxS a b x := by
 obtain ⟨h1, h2, h3, -⟩ := h.facts
 obtain ⟨r1, r2, r3, r4, r5, r6⟩ := floor_rest h1 h2 h3
 refine IntWalk.i64_in _ ?_
 unfold atxS roundS
 have := h.pa.2
 split <;> omega

set_option maxRecDepth 100000 in
set_option maxHeartbeats 2000000 in
theorem accepted_spec (v : Value) (a b : Pt) (w : World) (h : Pts w v [a, b]) (ha : bdP a) (hb : bdP b) : Calls Tryz.prog 121 #[v] w fun e w' => e = .returned (.bool true) ∧ Below w.heap.size w w' := by
 obtain ⟨A, c, rfl, hn, hc, hR⟩ := h
 unfold maxLen at hc
 have HR := Lib.hid hR; clear hR
 have hal : ∀ k (hk : k < [a, b].length), bdP [a, b][k] := fun k hk => by
  have : k = 0 ∨ k = 1 := by simp at hk; omega
  rcases this with rfl | rfl
  · exact ha
  · exact hb
 have hln : [a, b].length = 2 := rfl
 have HL := Lib.hid hln
 have HAl := Lib.hid hal
 clear hal ha hb
 generalize [a, b] = l at *
 rw [hln] at hn ⊢
 clear hln
 go_enter Tryz.func121, Tryz.ntmps121
 go_wp2_with fail
 go_loopw [7] (fun u wr => ∃ k : Nat, k ≤ 2 ∧ u = .int .i64 k ∧ Below w.heap.size w wr) (fun u _ => 2 - (intOf u).toNat)
 case atStart => exact ⟨0, Nat.zero_le _, rfl, bR w⟩
 case round =>
  obtain ⟨k, hk, rfl, hb⟩ := hrel
  have Hb := Lib.hid hb
  clear hb
  by_cases hlt : k < 2
  ·
   have hlt' : k < l.length := by rw [HL.out]; exact hlt
   obtain ⟨b, o, rfl, hlb, c0, c1⟩ := (HR.out.mono Hb.out).pt hlt'
   obtain ⟨⟨p1, p2⟩, p3, p4⟩ := HAl.out k hlt'
   have n1 : ¬ l[k].x < -2097152 := by omega
   have n2 : ¬ 2097152 < l[k].x := by omega
   have n3 : ¬ l[k].y < -2097152 := by omega
   have n4 : ¬ 2097152 < l[k].y := by omega
   have q1 : 0 ≤ (k : Int) := by omega
   have q2 : (k : Int) < 2 := by omega
   clear p1 p2 p3 p4
   go_wp2_with fail
   go_roundw
   case rel => exact ⟨k + 1, by omega, by go_num, bA Hb.out _⟩
   case measure => simp [intOf]; omega
  ·
   have q2 : ¬ (k : Int) < 2 := by omega
   go_wp2_with fail
   go_ret
   exact ⟨rfl, Hb.out⟩

set_option maxRecDepth 100000 in
set_option maxHeartbeats 2000000 in
theorem sAtX_spec (a b : Pt) (x : Int) (w : World) (h : AtX a b x) : Calls Tryz.prog 126 #[ptV a, ptV b, .int .i64 x] w fun e w' => e = .returned (.tuple #[.int .i64 (atxS a b x), .int .i64 0]) ∧ Below w.heap.size w w' := by
 obtain ⟨f1, f2, f3, k1, k2, k3, k4⟩ := h.facts
 have k5 := h.sum
 have HRo := Lib.hid (fun w => Round_spec ((b.y - a.y) * (x - a.x)) (b.x - a.x) w f1 f2 f3)
 have HAc := Lib.hid (fun (v : Value) (w : World) hp => accepted_spec v a b w hp h.pa h.pb)
 have n1 : (a.x == b.x) = false := by rw [beq_eq_false_iff_ne]; exact h.ne
 have n2 : ¬ x < min a.x b.x := by have := h.lo; unfold btwX at this; omega
 have n3 : ¬ max a.x b.x < x := by have := h.lo; unfold btwX at this; omega
 have Hsum := Lib.hid k5
 clear h f1 f2 f3 k5
 unfold atxS at Hsum ⊢
 unfold ptV
 generalize roundS ((b.y - a.y) * (x - a.x)) (b.x - a.x) = q at *
 have k5 := Hsum.out
 obtain ⟨W1, hW1⟩ : ∃ W1 : World, W1 = ((w.alloc (.cells #[.int .i64 a.x, .int .i64 a.y] 28)).alloc (.cells #[.int .i64 b.x, .int .i64 b.y] 28)).alloc (.cells #[.int .i64 a.x, .int .i64 a.y, .int .i64 b.x, .int .i64 b.y] 28) := ⟨_, rfl⟩
 have B1 := Lib.hid (show Below w.heap.size w W1 by rw [hW1]; exact bA (bA (bA (bR w) _) _) _)
 have HX3 : Hid (Blk W1 w.heap.size 28 #[.int .i64 a.x, .int .i64 a.y]) := Lib.hid (by rw [hW1]; exact ((Blk.made rfl _ _).alloc _).alloc _)
 have HX4 : Hid (Blk W1 (w.heap.size + 1) 28 #[.int .i64 b.x, .int .i64 b.y]) := Lib.hid (by rw [hW1]; exact (Blk.made (by simp) _ _).alloc _)
 have HSl : Hid (Pts W1 (.slice (some ⟨w.heap.size + 1 + 1, 0, none⟩) 2 2) [a, b]) := Lib.hid (Sl.lit (n := 2) (g := w.heap.size + 1 + 1) (t := 28) (cs := #[.int .i64 a.x, .int .i64 a.y, .int .i64 b.x, .int .i64 b.y]) (by rw [hW1]; exact Blk.made (by simp) _ _) rfl (le_maxLen (by omega)))
 have HW1 := Lib.hid hW1
 clear hW1
 go_enter Tryz.func126, Tryz.ntmps126
 go_wp2_with fail
 rw [← HW1.out]
 refine (HAc.out _ _ HSl.out).mono ?_
 rintro e w1 ⟨rfl, hb1⟩
 have B2 := Lib.hid (bT B1.out hb1)
 have X3 := HX3.out.keep hb1
 have X4 := HX4.out.keep hb1
 clear hb1
 obtain ⟨X3l, X3a, X3b, -, -⟩ := X3.facts2
 obtain ⟨X4l, X4a, X4b, -, -⟩ := X4.facts2
 go_wp2_with fail
 all_goals
  refine (HRo.out _).mono ?_
  rintro e w2 ⟨rfl, rfl⟩
  go_wp2_with fail
  go_ret2
  exact ⟨rfl, B2.out⟩

theorem nears_two {a b : Pt} (ha : bdP a) (hb : bdP b) : nears [a, b] = true := by
 obtain ⟨a1, a2⟩ := ha
 obtain ⟨b1, b2⟩ := hb
 simp [nears, near1]
 omega
set_option maxRecDepth 100000 in
set_option maxHeartbeats 2000000 in
theorem rAtX_spec (a b : Pt) (x : Int) (w : World) (h : AtX a b x) : Calls Tryz.prog 140 #[ptV a, ptV b, .int .i64 x] w fun e w' => e = .returned (.tuple #[.int .i64 (atxS a b x), .int .i64 0]) ∧ Below w.heap.size w w' := by
 obtain ⟨f1, f2, f3, k1, k2, k3, k4⟩ := h.facts
 have k5 := h.sum
 have HRo := Lib.hid (fun w => rRound_spec ((b.y - a.y) * (x - a.x)) (b.x - a.x) w f1 f2 f3)
 have hnr := nears_two h.pa h.pb
 have HAc : Hid (∀ (v : Value) (w : World), Pts w v [a, b] → Calls Tryz.prog 103 #[v] w fun e w' => e = .returned (.bool true) ∧ Below w.heap.size w w') := Lib.hid fun v w hp => by
  have := RNear_spec v [a, b] w hp
  rw [hnr] at this
  exact this
 have n1 : (a.x == b.x) = false := by rw [beq_eq_false_iff_ne]; exact h.ne
 have hlo := h.lo
 have Hsum := Lib.hid k5
 clear h f1 f2 f3 k5 hnr
 unfold atxS at Hsum ⊢
 unfold ptV
 generalize roundS ((b.y - a.y) * (x - a.x)) (b.x - a.x) = q at *
 have k5 := Hsum.out
 obtain ⟨W1, hW1⟩ : ∃ W1 : World, W1 = ((w.alloc (.cells #[.int .i64 a.x, .int .i64 a.y] 28)).alloc (.cells #[.int .i64 b.x, .int .i64 b.y] 28)).alloc (.cells #[.int .i64 a.x, .int .i64 a.y, .int .i64 b.x, .int .i64 b.y] 28) := ⟨_, rfl⟩
 have B1 := Lib.hid (show Below w.heap.size w W1 by rw [hW1]; exact bA (bA (bA (bR w) _) _) _)
 have HX3 : Hid (Blk W1 w.heap.size 28 #[.int .i64 a.x, .int .i64 a.y]) := Lib.hid (by rw [hW1]; exact ((Blk.made rfl _ _).alloc _).alloc _)
 have HX4 : Hid (Blk W1 (w.heap.size + 1) 28 #[.int .i64 b.x, .int .i64 b.y]) := Lib.hid (by rw [hW1]; exact (Blk.made (by simp) _ _).alloc _)
 have HSl : Hid (Pts W1 (.slice (some ⟨w.heap.size + 1 + 1, 0, none⟩) 2 2) [a, b]) := Lib.hid (Sl.lit (n := 2) (g := w.heap.size + 1 + 1) (t := 28) (cs := #[.int .i64 a.x, .int .i64 a.y, .int .i64 b.x, .int .i64 b.y]) (by rw [hW1]; exact Blk.made (by simp) _ _) rfl (le_maxLen (by omega)))
 have HW1 := Lib.hid hW1
 clear hW1
 unfold btwX at hlo
 rcases hlo with ⟨h1, h2⟩ | ⟨h1, h2⟩
 all_goals
  go_enter Tryz.func140, Tryz.ntmps140
  go_wp2_with fail
  rw [← HW1.out]
  refine (HAc.out _ _ HSl.out).mono ?_
  rintro e w1 ⟨rfl, hb1⟩
  have B2 := Lib.hid (bT B1.out hb1)
  have X3 := HX3.out.keep hb1
  have X4 := HX4.out.keep hb1
  clear hb1
  obtain ⟨X3l, X3a, X3b, -, -⟩ := X3.facts2
  obtain ⟨X4l, X4a, X4b, -, -⟩ := X4.facts2
  go_wp2_with fail
  all_goals
   refine (HRo.out _).mono ?_
   rintro e w2 ⟨rfl, hb2⟩
   have Y3 := X3.keep hb2
   obtain ⟨Y3l, Y3a, Y3b, -, -⟩ := Y3.facts2
   go_wp2_with fail
   go_ret2
   exact ⟨rfl, bT B2.out hb2⟩

set_option maxRecDepth 100000 in
set_option maxHeartbeats 2000000 in
theorem sAtY_spec (a b : Pt) (y : Int) (w : World) (h : AtX (turnP a) (turnP b) y) : Calls Tryz.prog 128 #[ptV a, ptV b, .int .i64 y] w fun e w' => e = .returned (.tuple #[.int .i64 (atxS (turnP a) (turnP b) y), .int .i64 0]) ∧ Below w.heap.size w w' := by
 have TA := fun w => sAtX_spec (turnP a) (turnP b) y w h
 unfold ptV at TA
 unfold ptV
 generalize atxS (turnP a) (turnP b) y = q at *
 unfold turnP at TA
 have HA := Lib.hid TA
 clear TA h
 go_enter Tryz.func128, Tryz.ntmps128
 go_wp2_with fail
 refine (HA.out _).mono ?_
 rintro e w1 ⟨rfl, hb1⟩
 go_wp2_with fail
 go_ret2
 exact ⟨rfl, bT (bA (bA (bR w) _) _) hb1⟩

set_option maxHeartbeats 1000000 in
theorem turn_spec (p : Pt) (w : World) : Calls Tryz.prog 165 #[ptV p] w fun e w' => e = .returned (ptV (turnP p)) ∧ Below w.heap.size w w' := by
 unfold ptV turnP
 go_enter Tryz.func165, Tryz.ntmps165
 go_wp2_with fail
 refine res_cell (t := 28) (g := w.heap.size + 1) (cs := #[.int .i64 p.y, .int .i64 p.x]) rfl struct_pt rfl rfl ?_ ⟨rfl, ?_⟩
 · exact Blk.made (by simp) _ _
 · exact bA (bA (bR w) _) _

set_option maxRecDepth 100000 in
set_option maxHeartbeats 2000000 in
theorem rAtY_spec (a b : Pt) (y : Int) (w : World) (h : AtX (turnP a) (turnP b) y) : Calls Tryz.prog 141 #[ptV a, ptV b, .int .i64 y] w fun e w' => e = .returned (.tuple #[.int .i64 (atxS (turnP a) (turnP b) y), .int .i64 0]) ∧ Below w.heap.size w w' := by
 have TA := fun w => rAtX_spec (turnP a) (turnP b) y w h
 have T1 := fun w => turn_spec a w
 have T2 := fun w => turn_spec b w
 unfold ptV at TA T1 T2
 unfold ptV
 generalize atxS (turnP a) (turnP b) y = q at *
 unfold turnP at TA T1 T2
 have HA := Lib.hid TA
 have H1 := Lib.hid T1
 have H2 := Lib.hid T2
 clear TA T1 T2 h
 go_enter Tryz.func141, Tryz.ntmps141
 go_upto_region 1 with fail
 obtain ⟨W, hW⟩ : ∃ W : World, W = (w.alloc (.cells #[.int .i64 a.x, .int .i64 a.y] 28)).alloc (.cells #[.int .i64 b.x, .int .i64 b.y] 28) := ⟨_, rfl⟩
 have Bw : Below w.heap.size w W := by rw [hW]; exact bA (bA (bR w) _) _
 have X3 : Blk W w.heap.size 28 #[.int .i64 a.x, .int .i64 a.y] := by rw [hW]; exact (Blk.made rfl _ _).alloc _
 have X4 : Blk W (w.heap.size + 1) 28 #[.int .i64 b.x, .int .i64 b.y] := by rw [hW]; exact Blk.made (by simp) _ _
 rw [← hW]
 clear hW
 obtain ⟨X3l, X3a, X3b, -, -⟩ := X3.facts2
 obtain ⟨X4l, X4a, X4b, -, -⟩ := X4.facts2
 refine rg_start (Since W) (.take 0 1 (.take 2 5 (.take 4 21 (.call 1 23 (.call 3 31 (.call 5 63 (.run 4 6 63 (.done)))))))) (by kernel_rfl) (bD (bR _)) (by kernel_rfl) (by kernel_rfl) (Nat.le_of_ble_eq_true (by kernel_rfl)) ?_
 intro opsR QR Hops HQrg hS
 iterate 3
  apply rg_p; exact Hops; exact rfl; exact hS; exact rfl
  · intro _ hqc; go_simp; try rfl
  try simp only [pu]
 refine rg_call (i := 1) (get_of Hops rfl) (fun K hK => ?_)
 have HSrg := Lib.hid hS; clear hS
 refine rg_run (wanted_plain rfl) ?_
 go_simp
 refine (H1.out _).mono ?_
 rintro e wr1 ⟨rfl, hbr1⟩
 have hS : Since W wr1 := bT (w := W) HSrg.out hbr1
 clear HSrg
 refine hK.out _ _ hS (fun _ => ?_)
 clear hK K
 try simp only [pu]
 refine rg_call (i := 3) (get_of Hops rfl) (fun K hK => ?_)
 have HSrg := Lib.hid hS; clear hS
 refine rg_run (wanted_plain rfl) ?_
 go_simp
 refine (H2.out _).mono ?_
 rintro e wr2 ⟨rfl, hbr2⟩
 have hS : Since W wr2 := bT (w := W) HSrg.out hbr2
 clear HSrg
 refine hK.out _ _ hS (fun _ => ?_)
 clear hK K
 try simp only [pu]
 refine rg_call (i := 5) (get_of Hops rfl) (fun K hK => ?_)
 have HSrg := Lib.hid hS; clear hS
 refine rg_run (wanted_plain rfl) ?_
 go_simp
 refine (HA.out _).mono ?_
 rintro e wr3 ⟨rfl, hbr3⟩
 have hS : Since W wr3 := bT (w := W) HSrg.out hbr3
 clear HSrg
 refine hK.out _ _ hS (fun _ => ?_)
 clear hK K
 try simp only [pu]
 iterate 4
  apply rg_p; exact Hops; exact rfl; exact hS; exact rfl
  · intro _ hqc; go_simp; try rfl
  try simp only [pu]
 refine rg_done ?_
 refine HQrg.down _ _ ?_
 have hB : Below W.heap.size W wr3 := hS
 clear hS HQrg Hops
 go_wp2_with fail
 go_ret2
 exact ⟨rfl, bT Bw hB⟩

end Go.Proofs.YtfondidmklmonaaGreat
namespace Go.Proofs.YtfondidmklmonaaGreat
open Go.RowKit

set_option maxRecDepth 100000 in
set_option maxHeartbeats 2000000 in
theorem gIn_spec (b : Bx) (p : Pt) (w : World) : Calls Tryz.prog 59 #[bxV b, ptV p] w fun e w' => e = .returned (.bool (inB b p)) ∧ Below w.heap.size w w' := by
 unfold bxV ptV
 obtain ⟨q, hq⟩ : ∃ q, inB b p = q := ⟨_, rfl⟩
 rw [hq]
 unfold inB at hq
 have Hq := Lib.hid hq
 clear hq
 go_enter Tryz.func59, Tryz.ntmps59
 by_cases h1 : b.x0 ≤ p.x
 case neg =>
  go_wp2_with fail
  go_ret
  exact ⟨ret_bool (by rw [← Hq.out]; exact (decide_eq_false (by omega)).symm), bA (bA (bR w) _) _⟩
 by_cases h2 : p.x ≤ b.x1
 case neg =>
  go_wp2_with fail
  go_ret
  exact ⟨ret_bool (by rw [← Hq.out]; exact (decide_eq_false (by omega)).symm), bA (bA (bR w) _) _⟩
 by_cases h3 : b.y0 ≤ p.y
 case neg =>
  go_wp2_with fail
  go_ret
  exact ⟨ret_bool (by rw [← Hq.out]; exact (decide_eq_false (by omega)).symm), bA (bA (bR w) _) _⟩
 by_cases h4 : p.y ≤ b.y1
 case neg =>
  go_wp2_with fail
  go_ret
  exact ⟨ret_bool (by rw [← Hq.out]; exact (decide_eq_false (by omega)).symm), bA (bA (bR w) _) _⟩
 go_wp2_with fail
 go_ret
 exact ⟨ret_bool (by rw [← Hq.out]; exact (decide_eq_true (by omega)).symm), bA (bA (bR w) _) _⟩
set_option maxRecDepth 100000 in
set_option maxHeartbeats 2000000 in
theorem rIn_spec (b : Bx) (p : Pt) (w : World) : Calls Tryz.prog 25 #[bxV b, ptV p] w fun e w' => e = .returned (.bool (inB b p)) ∧ Below w.heap.size w w' := by
 unfold bxV ptV
 obtain ⟨q, hq⟩ : ∃ q, inB b p = q := ⟨_, rfl⟩
 rw [hq]
 unfold inB at hq
 have Hq := Lib.hid hq
 clear hq
 go_enter Tryz.func25, Tryz.ntmps25
 by_cases h1 : b.x0 ≤ p.x
 case neg =>
  go_wp2_with fail
  go_ret
  exact ⟨ret_bool (by rw [← Hq.out]; exact (decide_eq_false (by omega)).symm), bA (bA (bR w) _) _⟩
 by_cases h2 : p.x ≤ b.x1
 case neg =>
  go_wp2_with fail
  go_ret
  exact ⟨ret_bool (by rw [← Hq.out]; exact (decide_eq_false (by omega)).symm), bA (bA (bR w) _) _⟩
 by_cases h3 : b.y0 ≤ p.y
 case neg =>
  go_wp2_with fail
  go_ret
  exact ⟨ret_bool (by rw [← Hq.out]; exact (decide_eq_false (by omega)).symm), bA (bA (bR w) _) _⟩
 by_cases h4 : p.y ≤ b.y1
 case neg =>
  go_wp2_with fail
  go_ret
  exact ⟨ret_bool (by rw [← Hq.out]; exact (decide_eq_false (by omega)).symm), bA (bA (bR w) _) _⟩
 go_wp2_with fail
 go_ret
 exact ⟨ret_bool (by rw [← Hq.out]; exact (decide_eq_true (by omega)).symm), bA (bA (bR w) _) _⟩

def plV (p : Plc) : Value := .agg #[.int .i64 p.n, .int .i64 p.d, .int .i64 p.at_.x, .int .i64 p.at_.y]
def plB (p : Plc) : Array Value := #[.int .i64 p.n, .int .i64 p.d, .int .i64 p.at_.x, .int .i64 p.at_.y]
/-- numbers whose products fit -/
def sm23 (n : Int) : Prop := -8388608 ≤ n ∧ n ≤ 8388608
theorem sm_mul {m n : Int} (hm : sm23 m) (hn : sm23 n) : -70368744177664 ≤ m * n ∧ m * n ≤ 70368744177664 := by
 have := mul_abs (u := m) (v := n) (m := 8388608) (n := 8388608) hm hn
 omega
set_option maxRecDepth 100000 in
set_option maxHeartbeats 2000000 in
theorem less_spec (p q : Plc) (w : World) (h1 : sm23 p.n) (h2 : sm23 p.d) (h3 : sm23 q.n) (h4 : sm23 q.d) : Calls Tryz.prog 124 #[plV p, plV q] w fun e w' => e = .returned (.bool (decide (p.n * q.d < q.n * p.d))) ∧ Below w.heap.size w w' := by
 unfold plV
 have a1 := sm_mul h1 h4
 have a2 := sm_mul h3 h2
 clear h1 h2 h3 h4
 go_enter Tryz.func124, Tryz.ntmps124
 go_wp2_with fail
 go_ret
 exact ⟨rfl, bA (bA (bR w) _) _⟩
end Go.Proofs.YtfondidmklmonaaGreat
namespace Go.Proofs.YtfondidmklmonaaGreat
open Go.RowKit

theorem struct_place : StructOf Tryz.prog 159 4 := .mk_ Tryz.underlying159 (by kernel_rfl)
def RetReach (w : World) (r : (Int × Int) × Bool) (e : Ending) (w' : World) : Prop :=
 e = .returned (.tuple #[.agg #[.int .i64 r.1.1, .int .i64 r.1.2, .int .i64 0, .int .i64 0], .bool r.2]) ∧ Below w.heap.size w w'
set_option maxRecDepth 100000 in
set_option maxHeartbeats 4000000 in
theorem reach_spec (s u v : Int) (w : World) (h1 : sm23 s) (h2 : sm23 u) (h3 : sm23 v) : Calls Tryz.prog 123 #[.int .i64 s, .int .i64 u, .int .i64 v] w (RetReach w (reachS s u v)) := by
 unfold sm23 at h1 h2 h3
 obtain ⟨r, hr⟩ : ∃ r, reachS s u v = r := ⟨_, rfl⟩
 rw [hr]
 unfold reachS at hr
 have Hr := Lib.hid hr
 clear hr
 go_enter Tryz.func123, Tryz.ntmps123
 go_upto_region 1 with fail
 obtain ⟨W, hW⟩ : ∃ W : World, W = w.alloc (.cells #[.int .i64 0, .int .i64 0, .int .i64 0, .int .i64 0] 159) := ⟨_, rfl⟩
 have B1 := Lib.hid (show Below w.heap.size w W by rw [hW]; exact bA (bR w) _)
 have X6 : Blk W w.heap.size 159 #[.int .i64 0, .int .i64 0, .int .i64 0, .int .i64 0] := by rw [hW]; exact Blk.made rfl _ _
 rw [← hW]
 clear hW
 obtain ⟨X6l, X6a, X6b, X6c, X6d, X6fa, X6fb, X6fc, X6fd⟩ := X6.facts4
 by_cases hin : min s (s + u) ≤ v ∧ v ≤ max s (s + u)
 ·
  by_cases hu : u < 0
  ·
   have a1 : s + u ≤ v := by omega
   have a2 : v ≤ s := by omega
   have a3 : s + u < s := by omega
   have hv := Lib.hid (show r = ((s - v, -u), true) by rw [← Hr.out, if_pos hin, if_pos hu])
   clear hin
   go_wp2_with fail
   all_goals
    refine res_cell_tmp (g := w.heap.size) (cs := #[.int .i64 (s - v), .int .i64 (-u), .int .i64 0, .int .i64 0]) rfl struct_place rfl rfl (Blk.put4 X6) ⟨?_, ?_⟩
    · rw [hv.out]; rfl
    · exact bS (bS (bS (bS B1.out (Nat.le_refl _) _) (Nat.le_refl _) _) (Nat.le_refl _) _) (Nat.le_refl _) _
  ·
   have a1 : s ≤ v := by omega
   have a2 : v ≤ s + u := by omega
   have a3 : s ≤ s + u := by omega
   have hv := Lib.hid (show r = ((v - s, u), true) by rw [← Hr.out, if_pos hin, if_neg hu])
   clear hin
   go_wp2_with fail
   all_goals
    refine res_cell_tmp (g := w.heap.size) (cs := #[.int .i64 (v - s), .int .i64 (u), .int .i64 0, .int .i64 0]) rfl struct_place rfl rfl (Blk.put4 X6) ⟨?_, ?_⟩
    · rw [hv.out]; rfl
    · exact bS (bS (bS (bS B1.out (Nat.le_refl _) _) (Nat.le_refl _) _) (Nat.le_refl _) _) (Nat.le_refl _) _
 ·
  have hin' : v < min s (s + u) ∨ max s (s + u) < v := by omega
  rcases hin' with h | h
  ·
   have a1 : v < s := by omega
   have a2 : v < s + u := by omega
   clear h
   by_cases hu : 0 < u
   ·
    have hv := Lib.hid (show r = ((-1, 1), false) by rw [← Hr.out, if_neg hin, if_pos (by simp [a1, hu])])
    clear hin
    go_wp2_with fail
    all_goals
     refine res_cell_tmp (g := w.heap.size) (cs := #[.int .i64 (-1), .int .i64 (1), .int .i64 0, .int .i64 0]) rfl struct_place rfl rfl (Blk.put4 X6) ⟨?_, ?_⟩
     · rw [hv.out]; rfl
     · exact bS (bS (bS (bS B1.out (Nat.le_refl _) _) (Nat.le_refl _) _) (Nat.le_refl _) _) (Nat.le_refl _) _
   ·
    have hv := Lib.hid (show r = ((1, 1), false) by rw [← Hr.out, if_neg hin, if_neg (by simp [a1, hu])])
    clear hin
    go_wp2_with fail
    all_goals
     refine res_cell_tmp (g := w.heap.size) (cs := #[.int .i64 (1), .int .i64 (1), .int .i64 0, .int .i64 0]) rfl struct_place rfl rfl (Blk.put4 X6) ⟨?_, ?_⟩
     · rw [hv.out]; rfl
     · exact bS (bS (bS (bS B1.out (Nat.le_refl _) _) (Nat.le_refl _) _) (Nat.le_refl _) _) (Nat.le_refl _) _
  ·
   have a1 : s < v := by omega
   have a2 : s + u < v := by omega
   have a4 : ¬ v < s := by omega
   clear h
   by_cases hu : 0 < u
   ·
    have hv := Lib.hid (show r = ((1, 1), false) by rw [← Hr.out, if_neg hin, if_neg (by simp [a4, hu])])
    clear hin
    go_wp2_with fail
    all_goals
     refine res_cell_tmp (g := w.heap.size) (cs := #[.int .i64 (1), .int .i64 (1), .int .i64 0, .int .i64 0]) rfl struct_place rfl rfl (Blk.put4 X6) ⟨?_, ?_⟩
     · rw [hv.out]; rfl
     · exact bS (bS (bS (bS B1.out (Nat.le_refl _) _) (Nat.le_refl _) _) (Nat.le_refl _) _) (Nat.le_refl _) _
   ·
    have hv := Lib.hid (show r = ((-1, 1), false) by rw [← Hr.out, if_neg hin, if_pos (by simp [a4, hu])])
    clear hin
    go_wp2_with fail
    all_goals
     refine res_cell_tmp (g := w.heap.size) (cs := #[.int .i64 (-1), .int .i64 (1), .int .i64 0, .int .i64 0]) rfl struct_place rfl rfl (Blk.put4 X6) ⟨?_, ?_⟩
     · rw [hv.out]; rfl
     · exact bS (bS (bS (bS B1.out (Nat.le_refl _) _) (Nat.le_refl _) _) (Nat.le_refl _) _) (Nat.le_refl _) _
end Go.Proofs.YtfondidmklmonaaGreat
namespace Go.Proofs.YtfondidmklmonaaGreat
open Go.RowKit

set_option maxRecDepth 100000 in
set_option maxHeartbeats 2000000 in
theorem at2_spec (a b : Pt) (v : Int) (g3 g4 : Nat) (w : World) (h3 : Blk w g3 28 #[.int .i64 a.x, .int .i64 a.y]) (h4 : Blk w g4 28 #[.int .i64 b.x, .int .i64 b.y]) (h : AtX a b v) :
  Calls Tryz.prog 125 #[.int .i64 v, .pointer (some ⟨g3, 0, none⟩), .pointer (some ⟨g4, 0, none⟩)] w fun e w' => e = .returned (ptV (atX a b v)) ∧ Below w.heap.size w w' := by
 have HT := Lib.hid (fun W => sAtX_spec a b v W h)
 unfold ptV atX at *
 clear h
 generalize atxS a b v = q at *
 have X3 := h3; have X4 := h4
 clear h3 h4
 go_enter Tryz.func125, Tryz.ntmps125
 go_upto_region 1 with fail
 obtain ⟨W, hW⟩ : ∃ W : World, W = w.alloc (.cells #[.int .i64 0, .int .i64 0] 28) := ⟨_, rfl⟩
 have hA : Below w.heap.size w W := by rw [hW]; exact bA (bR w) _
 have X5 : Blk W w.heap.size 28 #[.int .i64 0, .int .i64 0] := by rw [hW]; exact Blk.made rfl _ _
 rw [← hW]
 replace X3 := X3.keep hA
 replace X4 := X4.keep hA
 clear hW
 obtain ⟨X3l, X3a, X3b, -, -⟩ := X3.facts2
 obtain ⟨X4l, X4a, X4b, -, -⟩ := X4.facts2
 go_wp2_with fail
 refine (HT.out _).mono ?_
 rintro e w1 ⟨rfl, hb1⟩
 have B1 := Lib.hid (bT hA hb1)
 replace X5 := X5.keep hb1
 clear hb1 X3 X4 X3l X3a X3b X4l X4a X4b HT hA
 obtain ⟨X5l, X5a, X5b, X5fa, X5fb⟩ := X5.facts2
 go_wp2_with fail
 refine res_cell (g := w.heap.size) (cs := #[.int .i64 v, .int .i64 q]) rfl struct_pt rfl rfl (Blk.put2 X5) ⟨rfl, ?_⟩
 exact bS (bS B1.out (Nat.le_refl _) _) (Nat.le_refl _) _
set_option maxRecDepth 100000 in
set_option maxHeartbeats 2000000 in
theorem at3_spec (a b : Pt) (v : Int) (g3 g4 : Nat) (w : World) (h3 : Blk w g3 28 #[.int .i64 a.x, .int .i64 a.y]) (h4 : Blk w g4 28 #[.int .i64 b.x, .int .i64 b.y]) (h : AtX (turnP a) (turnP b) v) :
  Calls Tryz.prog 127 #[.int .i64 v, .pointer (some ⟨g3, 0, none⟩), .pointer (some ⟨g4, 0, none⟩)] w fun e w' => e = .returned (ptV (atY a b v)) ∧ Below w.heap.size w w' := by
 have HT := Lib.hid (fun W => sAtY_spec a b v W h)
 unfold ptV atY at *
 clear h
 generalize atxS (turnP a) (turnP b) v = q at *
 have X3 := h3; have X4 := h4
 clear h3 h4
 go_enter Tryz.func127, Tryz.ntmps127
 go_upto_region 1 with fail
 obtain ⟨W, hW⟩ : ∃ W : World, W = w.alloc (.cells #[.int .i64 0, .int .i64 0] 28) := ⟨_, rfl⟩
 have hA : Below w.heap.size w W := by rw [hW]; exact bA (bR w) _
 have X5 : Blk W w.heap.size 28 #[.int .i64 0, .int .i64 0] := by rw [hW]; exact Blk.made rfl _ _
 rw [← hW]
 replace X3 := X3.keep hA
 replace X4 := X4.keep hA
 clear hW
 obtain ⟨X3l, X3a, X3b, -, -⟩ := X3.facts2
 obtain ⟨X4l, X4a, X4b, -, -⟩ := X4.facts2
 go_wp2_with fail
 refine (HT.out _).mono ?_
 rintro e w1 ⟨rfl, hb1⟩
 have B1 := Lib.hid (bT hA hb1)
 replace X5 := X5.keep hb1
 clear hb1 X3 X4 X3l X3a X3b X4l X4a X4b HT hA
 obtain ⟨X5l, X5a, X5b, X5fa, X5fb⟩ := X5.facts2
 go_wp2_with fail
 refine res_cell (g := w.heap.size) (cs := #[.int .i64 q, .int .i64 v]) rfl struct_pt rfl rfl (Blk.put2 X5) ⟨rfl, ?_⟩
 exact bS (bS B1.out (Nat.le_refl _) _) (Nat.le_refl _) _
end Go.Proofs.YtfondidmklmonaaGreat
