/- clip.through and its closures. -/
import Derived.Test.YtfdbidagdjnipaaGreatDoorClipWF
set_option linter.unusedSimpArgs false
set_option linter.unusedVariables false
namespace Go.Proofs.YtfdbidagdjnipaaGreatDoor
open Go.RowKit

theorem later_eq (nd : Int × Int) (m c : Int) : laterT nd m c = if 0 < (if c < 0 then -c else c) ∧ nd.1 * (if c < 0 then -c else c) < (if c < 0 then -m else m) * nd.2 then ((if c < 0 then -m else m), (if c < 0 then -c else c)) else nd := by
 unfold laterT
 by_cases h : c < 0
 ·
  simp only [h, if_true]
  by_cases h2 : nd.1 * -c < -m * nd.2
  · rw [if_pos h2, if_pos ⟨by omega, h2⟩]
  · rw [if_neg h2, if_neg (fun x => h2 x.2)]
 · simp only [h, if_false]
/-- what a call of 'later' leaves -/
structure LatB (w : World) (gn gd : Nat) (nd : Int × Int) : Prop where
 n : Blk w gn 3 #[.int .i64 nd.1]
 d : Blk w gd 3 #[.int .i64 nd.2]
def RetLat (w : World) (B gn gd : Nat) (nd : Int × Int) (e : Ending) (w' : World) : Prop :=
 e = .returned (.tuple #[]) ∧ LatB w' gn gd nd ∧ Below B w w' ∧ ∀ g t cs, Blk w g t cs → g ≠ gn → g ≠ gd → Blk w' g t cs
set_option maxRecDepth 100000 in
set_option maxHeartbeats 4000000 in
theorem later_spec (m c : Int) (nd : Int × Int) (B gn gd : Nat) (w : World) (h : LatB w gn gd nd) (hm : sm23 m) (hc : sm23 c) (h1 : sm23 nd.1) (h2 : sm23 nd.2) (bn : B ≤ gn) (bd : B ≤ gd) (hne : gn ≠ gd) :
  Calls Tryz.prog 123 #[.int .i64 m, .int .i64 c, .pointer (some ⟨gd, 0, none⟩), .pointer (some ⟨gn, 0, none⟩)] w (RetLat w B gn gd (laterT nd m c)) := by
 rw [later_eq]
 obtain ⟨m', hm'⟩ : ∃ m', (if c < 0 then -m else m) = m' := ⟨_, rfl⟩
 obtain ⟨c', hc'⟩ : ∃ c', (if c < 0 then -c else c) = c' := ⟨_, rfl⟩
 rw [hm', hc']
 have sm : sm23 m' := by rw [← hm']; unfold sm23 at *; split <;> omega
 have sc : sm23 c' := by rw [← hc']; unfold sm23 at *; split <;> omega
 have p1 := sm_mul h1 sc
 have p2 := sm_mul sm h2
 have wa : IntKind.i64.wrap (-m) = -m := IntWalk.i64_in _ (by unfold sm23 at hm; omega)
 have wb : IntKind.i64.wrap (-c) = -c := IntWalk.i64_in _ (by unfold sm23 at hc; omega)
 have wc1 : IntKind.i64.wrap (nd.1 * c') = nd.1 * c' := IntWalk.i64_in _ (by omega)
 have wd1 : IntKind.i64.wrap (m' * nd.2) = m' * nd.2 := IntWalk.i64_in _ (by omega)
 obtain ⟨X1, X2⟩ := h
 have HX1 := Lib.hid X1; have HX2 := Lib.hid X2
 have HM := Lib.hid hm'; have HC := Lib.hid hc'
 obtain ⟨lb, hlb⟩ : ∃ lb, lb = decide (nd.1 * c' < m' * nd.2) := ⟨_, rfl⟩
 obtain ⟨r, hr⟩ : ∃ r, r = (if 0 < c' ∧ nd.1 * c' < m' * nd.2 then (m', c') else nd) := ⟨_, rfl⟩
 rw [← hr]
 have HR := Lib.hid hr
 have HLb := Lib.hid hlb
 clear hm' hc' hr hlb hm hc h1 h2 sm sc p1 p2
 go_enter Tryz.func123, Tryz.ntmps123
 go_upto_if 7 with fail
 go_cut [0, 1] (fun x y wx => x = .int .i64 m' ∧ y = .int .i64 c' ∧ wx = w)
 case first =>
  by_cases hu0 : c < 0
  ·
   have e1 := Lib.hid (show -m = m' by rw [← HM.out, if_pos hu0])
   have e2 := Lib.hid (show -c = c' by rw [← HC.out, if_pos hu0])
   go_wp2_with fail
   go_meet
   case rel => exact ⟨by rw [e1.out], by rw [e2.out], rfl⟩
  ·
   have e1 := Lib.hid (show m = m' by rw [← HM.out, if_neg hu0])
   have e2 := Lib.hid (show c = c' by rw [← HC.out, if_neg hu0])
   go_wp2_with fail
   go_meet
   case rel => exact ⟨by rw [e1.out], by rw [e2.out], rfl⟩
 case rest =>
 obtain ⟨rfl, rfl, hw⟩ := hcut
 obtain rfl := hw.symm
 obtain ⟨X1l, X1a, X1fa⟩ := X1.facts1
 obtain ⟨X2l, X2a, X2fa⟩ := X2.facts1
 by_cases h0 : 0 < c'
 ·
  by_cases h1 : nd.1 * c' < m' * nd.2
  ·
   go_wp2_with fail
   refine bodyPost_end (v := .tuple #[]) (results_none rfl _ _ _) rfl ?_
   rw [HR.out, if_pos ⟨h0, h1⟩]
   exact ⟨rfl, ⟨HX1.out.put1.far (by first | omega | (simp; done) | (simp; omega)) _, (HX2.out.far (by first | omega | (simp; done) | (simp; omega)) _).put1⟩, ((Below.refl _ _ |>.mono (Nat.le_refl _)).setCell bn _).setCell bd _, fun g ty cs h k1 k2 => (h.far k1 _).far k2 _⟩
  ·
   go_wp2_with fail
   refine bodyPost_end (v := .tuple #[]) (results_none rfl _ _ _) rfl ?_
   rw [HR.out, if_neg (fun h => by have := h.2; omega)]
   exact ⟨rfl, ⟨HX1.out, HX2.out⟩, Below.refl _ _, fun g ty cs h k1 k2 => h⟩
 ·
  go_wp2_with fail
  refine bodyPost_end (v := .tuple #[]) (results_none rfl _ _ _) rfl ?_
  rw [HR.out, if_neg (fun h => by have := h.1; omega)]
  exact ⟨rfl, ⟨HX1.out, HX2.out⟩, Below.refl _ _, fun g ty cs h k1 k2 => h⟩
set_option maxRecDepth 100000 in
set_option maxHeartbeats 4000000 in
theorem on_spec (s u v : Int) (nd : Int × Int) (gn gd : Nat) (w : World) (h : LatB w gn gd nd) (hs : sm23 s) (hu : sm23 u) (hv : sm23 v) (h1 : sm23 nd.1) (h2 : sm23 nd.2) :
  Calls Tryz.prog 124 #[.int .i64 s, .int .i64 u, .int .i64 v, .pointer (some ⟨gd, 0, none⟩), .pointer (some ⟨gn, 0, none⟩)] w fun e w' => e = .returned (.bool (onT nd s u v)) ∧ Below w.heap.size w w' := by
 have p1 := sm_mul hs h2
 have p2 := sm_mul hu h1
 have p3 := sm_mul hv h2
 have wa : IntKind.i64.wrap (s * nd.2) = s * nd.2 := IntWalk.i64_in _ (by omega)
 have wb : IntKind.i64.wrap (u * nd.1) = u * nd.1 := IntWalk.i64_in _ (by omega)
 have wc1 : IntKind.i64.wrap (v * nd.2) = v * nd.2 := IntWalk.i64_in _ (by omega)
 have wd1 : IntKind.i64.wrap (s * nd.2 + u * nd.1) = s * nd.2 + u * nd.1 := IntWalk.i64_in _ (by omega)
 unfold onT
 obtain ⟨X1, X2⟩ := h
 clear hs hu hv h1 h2 p1 p2 p3
 obtain ⟨X1l, X1a, -⟩ := X1.facts1
 obtain ⟨X2l, X2a, -⟩ := X2.facts1
 go_enter Tryz.func124, Tryz.ntmps124
 go_wp2_with fail
 go_ret
 exact ⟨rfl, bR w⟩
theorem later_sm {nd : Int × Int} {m c : Int} (hm : sm23 m) (hc : sm23 c) (h : sm23 nd.1 ∧ sm23 nd.2) : sm23 (laterT nd m c).1 ∧ sm23 (laterT nd m c).2 := by
 rw [later_eq]
 obtain ⟨m', hm'⟩ : ∃ m', (if c < 0 then -m else m) = m' := ⟨_, rfl⟩
 obtain ⟨c', hc'⟩ : ∃ c', (if c < 0 then -c else c) = c' := ⟨_, rfl⟩
 rw [hm', hc']
 have sm : sm23 m' := by rw [← hm']; unfold sm23 at *; split <;> omega
 have sc : sm23 c' := by rw [← hc']; unfold sm23 at *; split <;> omega
 split
 · exact ⟨sm, sc⟩
 · exact h
theorem run_ix4 (y0 y1 y2 y3 : Bool) (W : World) : (Instr.index 176 (.agg #[.bool y0, .bool y1, .bool y2, .bool y3]) (.int .i64 0)).run Tryz.prog W = .ok (.bool y0) W ∧ (Instr.index 176 (.agg #[.bool y0, .bool y1, .bool y2, .bool y3]) (.int .i64 1)).run Tryz.prog W = .ok (.bool y1) W ∧
  (Instr.index 176 (.agg #[.bool y0, .bool y1, .bool y2, .bool y3]) (.int .i64 2)).run Tryz.prog W = .ok (.bool y2) W ∧ (Instr.index 176 (.agg #[.bool y0, .bool y1, .bool y2, .bool y3]) (.int .i64 3)).run Tryz.prog W = .ok (.bool y3) W := ⟨by kernel_rfl, by kernel_rfl, by kernel_rfl, by kernel_rfl⟩
/-- the sides that are hit, from the k-th on -/
def outF : Int → Nat → List Bool → Int
 | o, _, [] => o
 | o, k, true :: l => if o = 0 then outF (k + 1) (k + 1) l else 0
 | o, k, false :: l => outF o (k + 1) l
theorem out_F (a b c d : Bool) : outT a b c d = outF 0 0 [a, b, c, d] := by cases a <;> cases b <;> cases c <;> cases d <;> rfl

set_option maxRecDepth 100000 in
set_option maxHeartbeats 8000000 in
theorem through_spec (p q : Pt) (b : Bx) (w : World) (hp : bdP p) (hq : bdP q) (hx : smB b) : Calls Tryz.prog 99 #[ptV p, ptV q, bxV b] w fun e w' => e = .returned (.int .i64 (throughS p q b)) ∧ Below w.heap.size w w' := by
 obtain ⟨r, hr⟩ : ∃ r, throughS p q b = r := ⟨_, rfl⟩
 rw [hr]
 unfold throughS at hr
 have Hr := Lib.hid hr
 obtain ⟨⟨p1, p2⟩, p3, p4⟩ := hp
 obtain ⟨⟨q1, q2⟩, q3, q4⟩ := hq
 obtain ⟨⟨⟨x1, x2⟩, x3, x4⟩, ⟨x5, x6⟩, x7, x8⟩ := hx
 have HIn := Lib.hid (fun W => gIn_spec b p W)
 obtain ⟨z, hz⟩ : ∃ z, inB b p = z := ⟨_, rfl⟩
 rw [hz] at HIn
 have Hz := Lib.hid hz
 have HB := Lib.hid (show sm23 (q.x - p.x) ∧ sm23 (q.y - p.y) ∧ sm23 (b.x0 - p.x) ∧ sm23 (b.x1 - p.x) ∧ sm23 (b.y0 - p.y) ∧ sm23 (b.y1 - p.y) by unfold sm23; omega)
 have HP := Lib.hid (show sm23 p.x ∧ sm23 p.y ∧ sm23 b.x0 ∧ sm23 b.x1 ∧ sm23 b.y0 ∧ sm23 b.y1 by unfold sm23; omega)
 have k1 : IntKind.i64.wrap (q.x - p.x) = q.x - p.x := IntWalk.i64_in _ (by omega)
 have k2 : IntKind.i64.wrap (q.y - p.y) = q.y - p.y := IntWalk.i64_in _ (by omega)
 have HK := Lib.hid (show IntKind.i64.wrap (b.x0 - p.x) = b.x0 - p.x ∧ IntKind.i64.wrap (b.x1 - p.x) = b.x1 - p.x ∧ IntKind.i64.wrap (b.y0 - p.y) = b.y0 - p.y ∧ IntKind.i64.wrap (b.y1 - p.y) = b.y1 - p.y from ⟨IntWalk.i64_in _ (by omega), IntWalk.i64_in _ (by omega), IntWalk.i64_in _ (by omega), IntWalk.i64_in _ (by omega)⟩)
 clear hr hz p1 p2 p3 p4 q1 q2 q3 q4 x1 x2 x3 x4 x5 x6 x7 x8
 unfold ptV bxV at *
 obtain ⟨W0, hW0⟩ : ∃ W0 : World, W0 = ((w.alloc (.cells #[.int .i64 p.x, .int .i64 p.y] 28)).alloc (.cells #[.int .i64 q.x, .int .i64 q.y] 28)).alloc (.cells #[.int .i64 b.x0, .int .i64 b.y0, .int .i64 b.x1, .int .i64 b.y1] 40) := ⟨_, rfl⟩
 have B0 : Below w.heap.size w W0 := by rw [hW0]; exact bA (bA (bA (bR w) _) _) _
 have X3 : Blk W0 w.heap.size 28 #[.int .i64 p.x, .int .i64 p.y] := by rw [hW0]; exact ((Blk.made rfl _ _).alloc _).alloc _
 have X4 : Blk W0 (w.heap.size + 1) 28 #[.int .i64 q.x, .int .i64 q.y] := by rw [hW0]; exact (Blk.made (by simp) _ _).alloc _
 have X5 : Blk W0 (w.heap.size + 1 + 1) 40 #[.int .i64 b.x0, .int .i64 b.y0, .int .i64 b.x1, .int .i64 b.y1] := by rw [hW0]; exact Blk.made (by simp) _ _
 go_enter Tryz.func99, Tryz.ntmps99
 go_wp2_with fail
 rw [← hW0]
 clear hW0
 refine (HIn.out _).mono ?_
 rintro e w1 ⟨rfl, hb1⟩
 replace B0 := bT B0 hb1
 replace X3 := X3.keep hb1
 replace X4 := X4.keep hb1
 replace X5 := X5.keep hb1
 clear hb1
 cases z
 case true =>
  go_wp2_with fail
  go_ret
  exact ⟨by rw [← Hr.out, if_pos Hz.out]; rfl, B0⟩
 have hr := Hr.out
 rw [if_neg (by rw [Hz.out]; simp)] at hr
 replace Hr := Lib.hid hr
 clear hr Hz
 obtain ⟨g3, hg3⟩ : ∃ g, w.heap.size = g := ⟨_, rfl⟩
 obtain ⟨g4, hg4⟩ : ∃ g, g3 + 1 = g := ⟨_, rfl⟩
 obtain ⟨g5, hg5⟩ : ∃ g, g4 + 1 = g := ⟨_, rfl⟩
 rw [hg3] at X3 X4 X5
 rw [hg4] at X4 X5
 rw [hg5] at X5
 obtain ⟨X3l, X3a, X3b, -, -⟩ := X3.facts2
 obtain ⟨X4l, X4a, X4b, -, -⟩ := X4.facts2
 obtain ⟨X5l, X5a, X5b, X5c, X5d, -, -, -, -⟩ := X5.facts4
 go_upto_region 3 with fail
 have HG := Lib.hid (show w.heap.size = g3 ∧ g3 + 1 = g4 ∧ g4 + 1 = g5 from ⟨hg3, hg4, hg5⟩)
 clear hg3 hg4 hg5
 refine rg_start (Since w1) (.run 12 0 0 (.done)) (by kernel_rfl) (bD (bR _)) (by kernel_rfl) (by kernel_rfl) (Nat.le_of_ble_eq_true (by kernel_rfl)) ?_
 intro opsR QR Hops HQrg hS
 iterate 12
  apply rg_p; exact Hops; exact rfl; exact hS; exact rfl
  · intro _ hqc; go_simp; try rfl
  try simp only [pu]
 refine rg_done ?_
 refine HQrg.down _ _ ?_
 have hB : Below w1.heap.size w1 w1.drew := hS
 clear hS HQrg Hops
 have B1 : Below w.heap.size w w1.drew := bT B0 hB
 replace X3 := X3.keep hB
 replace X4 := X4.keep hB
 replace X5 := X5.keep hB
 obtain ⟨w2, hw2⟩ : ∃ w2, w2 = w1.drew := ⟨_, rfl⟩
 rw [← hw2] at X3 X4 X5 B1 ⊢
 clear hw2 hB B0
 try clear X3l
 try clear X3a
 try clear X3b
 obtain ⟨X3l, X3a, X3b, -, -⟩ := X3.facts2
 try clear X4l
 try clear X4a
 try clear X4b
 obtain ⟨X4l, X4a, X4b, -, -⟩ := X4.facts2
 try clear X5l
 try clear X5a
 try clear X5b
 try clear X5c
 try clear X5d
 obtain ⟨X5l, X5a, X5b, X5c, X5d, -, -, -, -⟩ := X5.facts4
 go_upto_if 35 with fail
 obtain ⟨W3, hW3⟩ : ∃ W3 : World, W3 = (w2.alloc (.cells #[.int .i64 0] 3)).alloc (.cells #[.int .i64 1] 3) := ⟨_, rfl⟩
 rw [← hW3]
 have hA : Below w2.heap.size w2 W3 := by rw [hW3]; exact bA (bA (bR w2) _) _
 have hL : LatB W3 w2.heap.size (w2.heap.size + 1) (0, 1) := by rw [hW3]; exact ⟨(Blk.made rfl _ _).alloc _, Blk.made (by simp) _ _⟩
 replace B1 := bT B1 hA
 replace X3 := X3.keep hA
 replace X4 := X4.keep hA
 replace X5 := X5.keep hA
 have hgn : w.heap.size ≤ w2.heap.size := by have := HG.out; have := X5l; omega
 have l5 := X5l
 have l3 : g3 < g5 ∧ g4 < g5 := by have := HG.out; omega
 clear hA hW3 HG
 obtain ⟨gn, hgn'⟩ : ∃ gn, w2.heap.size = gn := ⟨_, rfl⟩
 obtain ⟨gd, hgd'⟩ : ∃ gd, gn + 1 = gd := ⟨_, rfl⟩
 have hne : gn < gd := by omega
 have n3 : g3 < gn ∧ g4 < gn ∧ g5 < gn := by omega
 rw [hgn', hgd'] at hL
 rw [hgn'] at hgn
 obtain ⟨nd, hnd⟩ : ∃ nd : Int × Int, nd = (0, 1) := ⟨_, rfl⟩
 rw [← hnd] at hL
 have hsm : sm23 nd.1 ∧ sm23 nd.2 := by rw [hnd]; unfold sm23; simp
 have HND0 := Lib.hid hnd
 obtain ⟨wa, hwa⟩ : ∃ wa, wa = W3 := ⟨_, rfl⟩
 rw [← hwa] at X3 X4 X5 hL B1 ⊢
 clear hwa hnd l5 l3
 have HGn := Lib.hid (show w2.heap.size = gn ∧ gn + 1 = gd from ⟨hgn', hgd'⟩)
 try simp only [hgn', hgd']
 clear hgn' hgd'
 obtain ⟨nd1, hnx⟩ : ∃ nd1, nd1 = (if p.x < b.x0 then laterT nd (b.x0 - p.x) (q.x - p.x) else nd) := ⟨_, rfl⟩
 have Hnd1 := Lib.hid hnx
 have hsmnd1 : sm23 nd1.1 ∧ sm23 nd1.2 := by
  rw [hnx]; split
  · exact later_sm HB.out.2.2.1 HB.out.1 hsm
  · exact hsm
 clear hnx
 have HSm := Lib.hid hsm
 clear hsm
 go_cut [] (fun wx => LatB wx gn gd nd1 ∧ Blk wx g3 28 #[.int .i64 p.x, .int .i64 p.y] ∧ Blk wx g4 28 #[.int .i64 q.x, .int .i64 q.y] ∧ Blk wx g5 40 #[.int .i64 b.x0, .int .i64 b.y0, .int .i64 b.x1, .int .i64 b.y1] ∧ Below w.heap.size w wx)
 case first =>
  try clear X3l
  try clear X3a
  try clear X3b
  obtain ⟨X3l, X3a, X3b, -, -⟩ := X3.facts2
  try clear X4l
  try clear X4a
  try clear X4b
  obtain ⟨X4l, X4a, X4b, -, -⟩ := X4.facts2
  try clear X5l
  try clear X5a
  try clear X5b
  try clear X5c
  try clear X5d
  obtain ⟨X5l, X5a, X5b, X5c, X5d, -, -, -, -⟩ := X5.facts4
  by_cases hc0 : p.x < b.x0
  ·
   have HL := Lib.hid (fun (W : World) h => later_spec (b.x0 - p.x) (q.x - p.x) nd gn gn gd W h HB.out.2.2.1 HB.out.1 HSm.out.1 HSm.out.2 (Nat.le_refl _) (by omega) (by omega))
   have hk := HK.out.1
   have HXX := Lib.hid (show Blk wa g3 28 #[.int .i64 p.x, .int .i64 p.y] ∧ Blk wa g4 28 #[.int .i64 q.x, .int .i64 q.y] ∧ Blk wa g5 40 #[.int .i64 b.x0, .int .i64 b.y0, .int .i64 b.x1, .int .i64 b.y1] from ⟨X3, X4, X5⟩)
   have Hnd1' := Lib.hid (show nd1 = laterT nd (b.x0 - p.x) (q.x - p.x) by rw [Hnd1.out, if_pos hc0])
   go_wp2_with fail
   refine (HL.out _ hL).mono ?_
   rintro e wr ⟨rfl, hl', hb', hk'⟩
   go_wp2_with fail
   go_meet
   case rel =>
    rw [Hnd1'.out]
    exact ⟨hl', hk' _ _ _ HXX.out.1 (by omega) (by omega), hk' _ _ _ HXX.out.2.1 (by omega) (by omega), hk' _ _ _ HXX.out.2.2 (by omega) (by omega), B1.trans (hb'.mono hgn)⟩
  ·
   have Hnd1' := Lib.hid (show nd1 = nd by rw [Hnd1.out, if_neg hc0])
   go_wp2_with fail
   go_meet
   case rel =>
    rw [Hnd1'.out]
    exact ⟨hL, X3, X4, X5, B1⟩
 case rest =>
 clear X3 X4 X5 B1 hL
 try clear X3l X3a X3b
 try clear X4l X4a X4b
 try clear X5l X5a X5b X5c X5d
 obtain ⟨hL, X3, X4, X5, B1⟩ := hcut
 have hsm := hsmnd1
 clear hsmnd1 HSm
 obtain ⟨wb, hwn⟩ : ∃ wb, wb = wc := ⟨_, rfl⟩
 rw [← hwn] at hL X3 X4 X5 B1 ⊢
 clear hwn
 try clear X3l
 try clear X3a
 try clear X3b
 obtain ⟨X3l, X3a, X3b, -, -⟩ := X3.facts2
 try clear X4l
 try clear X4a
 try clear X4b
 obtain ⟨X4l, X4a, X4b, -, -⟩ := X4.facts2
 try clear X5l
 try clear X5a
 try clear X5b
 try clear X5c
 try clear X5d
 obtain ⟨X5l, X5a, X5b, X5c, X5d, -, -, -, -⟩ := X5.facts4
 go_upto_if 48 with fail

 obtain ⟨nd2, hnx⟩ : ∃ nd2, nd2 = (if b.x1 < p.x then laterT nd1 (b.x1 - p.x) (q.x - p.x) else nd1) := ⟨_, rfl⟩
 have Hnd2 := Lib.hid hnx
 have hsmnd2 : sm23 nd2.1 ∧ sm23 nd2.2 := by
  rw [hnx]; split
  · exact later_sm HB.out.2.2.2.1 HB.out.1 hsm
  · exact hsm
 clear hnx
 have HSm := Lib.hid hsm
 clear hsm
 go_cut [] (fun wx => LatB wx gn gd nd2 ∧ Blk wx g3 28 #[.int .i64 p.x, .int .i64 p.y] ∧ Blk wx g4 28 #[.int .i64 q.x, .int .i64 q.y] ∧ Blk wx g5 40 #[.int .i64 b.x0, .int .i64 b.y0, .int .i64 b.x1, .int .i64 b.y1] ∧ Below w.heap.size w wx)
 case first =>
  try clear X3l
  try clear X3a
  try clear X3b
  obtain ⟨X3l, X3a, X3b, -, -⟩ := X3.facts2
  try clear X4l
  try clear X4a
  try clear X4b
  obtain ⟨X4l, X4a, X4b, -, -⟩ := X4.facts2
  try clear X5l
  try clear X5a
  try clear X5b
  try clear X5c
  try clear X5d
  obtain ⟨X5l, X5a, X5b, X5c, X5d, -, -, -, -⟩ := X5.facts4
  by_cases hc0 : b.x1 < p.x
  ·
   have HL := Lib.hid (fun (W : World) h => later_spec (b.x1 - p.x) (q.x - p.x) nd1 gn gn gd W h HB.out.2.2.2.1 HB.out.1 HSm.out.1 HSm.out.2 (Nat.le_refl _) (by omega) (by omega))
   have hk := HK.out.2.1
   have HXX := Lib.hid (show Blk wb g3 28 #[.int .i64 p.x, .int .i64 p.y] ∧ Blk wb g4 28 #[.int .i64 q.x, .int .i64 q.y] ∧ Blk wb g5 40 #[.int .i64 b.x0, .int .i64 b.y0, .int .i64 b.x1, .int .i64 b.y1] from ⟨X3, X4, X5⟩)
   have Hnd2' := Lib.hid (show nd2 = laterT nd1 (b.x1 - p.x) (q.x - p.x) by rw [Hnd2.out, if_pos hc0])
   go_wp2_with fail
   refine (HL.out _ hL).mono ?_
   rintro e wr ⟨rfl, hl', hb', hk'⟩
   go_wp2_with fail
   go_meet
   case rel =>
    rw [Hnd2'.out]
    exact ⟨hl', hk' _ _ _ HXX.out.1 (by omega) (by omega), hk' _ _ _ HXX.out.2.1 (by omega) (by omega), hk' _ _ _ HXX.out.2.2 (by omega) (by omega), B1.trans (hb'.mono hgn)⟩
  ·
   have Hnd2' := Lib.hid (show nd2 = nd1 by rw [Hnd2.out, if_neg hc0])
   go_wp2_with fail
   go_meet
   case rel =>
    rw [Hnd2'.out]
    exact ⟨hL, X3, X4, X5, B1⟩
 case rest =>
 clear X3 X4 X5 B1 hL
 try clear X3l X3a X3b
 try clear X4l X4a X4b
 try clear X5l X5a X5b X5c X5d
 obtain ⟨hL, X3, X4, X5, B1⟩ := hcut
 have hsm := hsmnd2
 clear hsmnd2 HSm
 obtain ⟨wx3, hwn⟩ : ∃ wx3, wx3 = wc := ⟨_, rfl⟩
 rw [← hwn] at hL X3 X4 X5 B1 ⊢
 clear hwn
 try clear X3l
 try clear X3a
 try clear X3b
 obtain ⟨X3l, X3a, X3b, -, -⟩ := X3.facts2
 try clear X4l
 try clear X4a
 try clear X4b
 obtain ⟨X4l, X4a, X4b, -, -⟩ := X4.facts2
 try clear X5l
 try clear X5a
 try clear X5b
 try clear X5c
 try clear X5d
 obtain ⟨X5l, X5a, X5b, X5c, X5d, -, -, -, -⟩ := X5.facts4
 go_upto_if 61 with fail

 obtain ⟨nd3, hnx⟩ : ∃ nd3, nd3 = (if p.y < b.y0 then laterT nd2 (b.y0 - p.y) (q.y - p.y) else nd2) := ⟨_, rfl⟩
 have Hnd3 := Lib.hid hnx
 have hsmnd3 : sm23 nd3.1 ∧ sm23 nd3.2 := by
  rw [hnx]; split
  · exact later_sm HB.out.2.2.2.2.1 HB.out.2.1 hsm
  · exact hsm
 clear hnx
 have HSm := Lib.hid hsm
 clear hsm
 go_cut [] (fun wx => LatB wx gn gd nd3 ∧ Blk wx g3 28 #[.int .i64 p.x, .int .i64 p.y] ∧ Blk wx g4 28 #[.int .i64 q.x, .int .i64 q.y] ∧ Blk wx g5 40 #[.int .i64 b.x0, .int .i64 b.y0, .int .i64 b.x1, .int .i64 b.y1] ∧ Below w.heap.size w wx)
 case first =>
  try clear X3l
  try clear X3a
  try clear X3b
  obtain ⟨X3l, X3a, X3b, -, -⟩ := X3.facts2
  try clear X4l
  try clear X4a
  try clear X4b
  obtain ⟨X4l, X4a, X4b, -, -⟩ := X4.facts2
  try clear X5l
  try clear X5a
  try clear X5b
  try clear X5c
  try clear X5d
  obtain ⟨X5l, X5a, X5b, X5c, X5d, -, -, -, -⟩ := X5.facts4
  by_cases hc0 : p.y < b.y0
  ·
   have HL := Lib.hid (fun (W : World) h => later_spec (b.y0 - p.y) (q.y - p.y) nd2 gn gn gd W h HB.out.2.2.2.2.1 HB.out.2.1 HSm.out.1 HSm.out.2 (Nat.le_refl _) (by omega) (by omega))
   have hk := HK.out.2.2.1
   have HXX := Lib.hid (show Blk wx3 g3 28 #[.int .i64 p.x, .int .i64 p.y] ∧ Blk wx3 g4 28 #[.int .i64 q.x, .int .i64 q.y] ∧ Blk wx3 g5 40 #[.int .i64 b.x0, .int .i64 b.y0, .int .i64 b.x1, .int .i64 b.y1] from ⟨X3, X4, X5⟩)
   have Hnd3' := Lib.hid (show nd3 = laterT nd2 (b.y0 - p.y) (q.y - p.y) by rw [Hnd3.out, if_pos hc0])
   go_wp2_with fail
   refine (HL.out _ hL).mono ?_
   rintro e wr ⟨rfl, hl', hb', hk'⟩
   go_wp2_with fail
   go_meet
   case rel =>
    rw [Hnd3'.out]
    exact ⟨hl', hk' _ _ _ HXX.out.1 (by omega) (by omega), hk' _ _ _ HXX.out.2.1 (by omega) (by omega), hk' _ _ _ HXX.out.2.2 (by omega) (by omega), B1.trans (hb'.mono hgn)⟩
  ·
   have Hnd3' := Lib.hid (show nd3 = nd2 by rw [Hnd3.out, if_neg hc0])
   go_wp2_with fail
   go_meet
   case rel =>
    rw [Hnd3'.out]
    exact ⟨hL, X3, X4, X5, B1⟩
 case rest =>
 clear X3 X4 X5 B1 hL
 try clear X3l X3a X3b
 try clear X4l X4a X4b
 try clear X5l X5a X5b X5c X5d
 obtain ⟨hL, X3, X4, X5, B1⟩ := hcut
 have hsm := hsmnd3
 clear hsmnd3 HSm
 obtain ⟨wd, hwn⟩ : ∃ wd, wd = wc := ⟨_, rfl⟩
 rw [← hwn] at hL X3 X4 X5 B1 ⊢
 clear hwn
 try clear X3l
 try clear X3a
 try clear X3b
 obtain ⟨X3l, X3a, X3b, -, -⟩ := X3.facts2
 try clear X4l
 try clear X4a
 try clear X4b
 obtain ⟨X4l, X4a, X4b, -, -⟩ := X4.facts2
 try clear X5l
 try clear X5a
 try clear X5b
 try clear X5c
 try clear X5d
 obtain ⟨X5l, X5a, X5b, X5c, X5d, -, -, -, -⟩ := X5.facts4
 go_upto_if 74 with fail

 obtain ⟨nd4, hnx⟩ : ∃ nd4, nd4 = (if b.y1 < p.y then laterT nd3 (b.y1 - p.y) (q.y - p.y) else nd3) := ⟨_, rfl⟩
 have Hnd4 := Lib.hid hnx
 have hsmnd4 : sm23 nd4.1 ∧ sm23 nd4.2 := by
  rw [hnx]; split
  · exact later_sm HB.out.2.2.2.2.2 HB.out.2.1 hsm
  · exact hsm
 clear hnx
 have HSm := Lib.hid hsm
 clear hsm
 go_cut [] (fun wx => LatB wx gn gd nd4 ∧ Blk wx g3 28 #[.int .i64 p.x, .int .i64 p.y] ∧ Blk wx g4 28 #[.int .i64 q.x, .int .i64 q.y] ∧ Blk wx g5 40 #[.int .i64 b.x0, .int .i64 b.y0, .int .i64 b.x1, .int .i64 b.y1] ∧ Below w.heap.size w wx)
 case first =>
  try clear X3l
  try clear X3a
  try clear X3b
  obtain ⟨X3l, X3a, X3b, -, -⟩ := X3.facts2
  try clear X4l
  try clear X4a
  try clear X4b
  obtain ⟨X4l, X4a, X4b, -, -⟩ := X4.facts2
  try clear X5l
  try clear X5a
  try clear X5b
  try clear X5c
  try clear X5d
  obtain ⟨X5l, X5a, X5b, X5c, X5d, -, -, -, -⟩ := X5.facts4
  by_cases hc0 : b.y1 < p.y
  ·
   have HL := Lib.hid (fun (W : World) h => later_spec (b.y1 - p.y) (q.y - p.y) nd3 gn gn gd W h HB.out.2.2.2.2.2 HB.out.2.1 HSm.out.1 HSm.out.2 (Nat.le_refl _) (by omega) (by omega))
   have hk := HK.out.2.2.2
   have HXX := Lib.hid (show Blk wd g3 28 #[.int .i64 p.x, .int .i64 p.y] ∧ Blk wd g4 28 #[.int .i64 q.x, .int .i64 q.y] ∧ Blk wd g5 40 #[.int .i64 b.x0, .int .i64 b.y0, .int .i64 b.x1, .int .i64 b.y1] from ⟨X3, X4, X5⟩)
   have Hnd4' := Lib.hid (show nd4 = laterT nd3 (b.y1 - p.y) (q.y - p.y) by rw [Hnd4.out, if_pos hc0])
   go_wp2_with fail
   refine (HL.out _ hL).mono ?_
   rintro e wr ⟨rfl, hl', hb', hk'⟩
   go_wp2_with fail
   go_meet
   case rel =>
    rw [Hnd4'.out]
    exact ⟨hl', hk' _ _ _ HXX.out.1 (by omega) (by omega), hk' _ _ _ HXX.out.2.1 (by omega) (by omega), hk' _ _ _ HXX.out.2.2 (by omega) (by omega), B1.trans (hb'.mono hgn)⟩
  ·
   have Hnd4' := Lib.hid (show nd4 = nd3 by rw [Hnd4.out, if_neg hc0])
   go_wp2_with fail
   go_meet
   case rel =>
    rw [Hnd4'.out]
    exact ⟨hL, X3, X4, X5, B1⟩
 case rest =>
 clear X3 X4 X5 B1 hL
 try clear X3l X3a X3b
 try clear X4l X4a X4b
 try clear X5l X5a X5b X5c X5d
 obtain ⟨hL, X3, X4, X5, B1⟩ := hcut
 have hsm := hsmnd4
 clear hsmnd4 HSm
 obtain ⟨we, hwn⟩ : ∃ we, we = wc := ⟨_, rfl⟩
 rw [← hwn] at hL X3 X4 X5 B1 ⊢
 clear hwn
 have hpl : placeT p q b = nd4 := by
  unfold placeT
  rw [Hnd4.out, Hnd3.out, Hnd2.out, Hnd1.out, HND0.out]
 have hr := Hr.out
 simp only [hpl] at hr
 rw [out_F] at hr
 have hon : ∀ (s u v : Int) (W : World), Below we.heap.size we W → sm23 s → sm23 u → sm23 v → Calls Tryz.prog 124 #[.int .i64 s, .int .i64 u, .int .i64 v, .pointer (some ⟨gd, 0, none⟩), .pointer (some ⟨gn, 0, none⟩)] W fun e w' => e = .returned (.bool (onT nd4 s u v)) ∧ Below W.heap.size W w' :=
  fun s u v W h hs hu hv => on_spec s u v nd4 gn gd W ⟨hL.n.keep h, hL.d.keep h⟩ hs hu hv hsm.1 hsm.2
 have HO1 := Lib.hid (fun W h => hon p.x (q.x - p.x) b.x0 W h HP.out.1 HB.out.1 HP.out.2.2.1)
 have HO2 := Lib.hid (fun W h => hon p.y (q.y - p.y) b.y0 W h HP.out.2.1 HB.out.2.1 HP.out.2.2.2.2.1)
 have HO3 := Lib.hid (fun W h => hon p.x (q.x - p.x) b.x1 W h HP.out.1 HB.out.1 HP.out.2.2.2.1)
 have HO4 := Lib.hid (fun W h => hon p.y (q.y - p.y) b.y1 W h HP.out.2.1 HB.out.2.1 HP.out.2.2.2.2.2)
 generalize onT nd4 p.x (q.x - p.x) b.x0 = y0 at *
 generalize onT nd4 p.y (q.y - p.y) b.y0 = y1 at *
 generalize onT nd4 p.x (q.x - p.x) b.x1 = y2 at *
 generalize onT nd4 p.y (q.y - p.y) b.y1 = y3 at *
 replace Hr := Lib.hid hr
 have HB1 := Lib.hid B1
 clear hr hpl hon hL hsm B1
 try clear X3l
 try clear X3a
 try clear X3b
 obtain ⟨X3l, X3a, X3b, -, -⟩ := X3.facts2
 try clear X5l
 try clear X5a
 try clear X5b
 try clear X5c
 try clear X5d
 obtain ⟨X5l, X5a, X5b, X5c, X5d, -, -, -, -⟩ := X5.facts4
 try clear X4l X4a X4b
 go_upto_region 15 with fail
 go_cut [13] (fun u wx => ∃ g, u = .pointer (some ⟨g, 0, none⟩) ∧ Blk wx g 176 #[.bool y0, .bool y1, .bool y2, .bool y3] ∧ Below we.heap.size we wx)
 case first =>
  refine rg_start (SinceB (we.heap.size) we) (.run 6 0 0 (.run 6 7 63 (.run 6 14 8127 (.run 6 21 1040319 (.two 6 133160959 (.two 13 133169151 (.two 20 134217727 (.two 27 268435455 (.take 28 536870911 (.call 29 1073741823 (.call 30 2147483647 (.done)))) 29 671088639 (.call 27 805306367 (.take 28 1073741823 (.call 30 2147483647 (.done))))) 29 670040063 (.call 20 671088639 (.call 27 805306367 (.take 28 1073741823 (.call 30 2147483647 (.done)))))) 29 670031871 (.call 13 670040063 (.call 20 671088639 (.call 27 805306367 (.take 28 1073741823 (.call 30 2147483647 (.done))))))) 29 670031807 (.call 6 670031871 (.call 13 670040063 (.call 20 671088639 (.call 27 805306367 (.take 28 1073741823 (.call 30 2147483647 (.done)))))))))))) (by kernel_rfl) (Below.drew (Below.refl _ _)) (by kernel_rfl) (by kernel_rfl) (Nat.le_of_ble_eq_true (by kernel_rfl)) ?_
  intro opsR QR Hops HQrg hS
  iterate 24
   apply rg_pB; exact Hops; exact rfl; exact hS; exact rfl
   · intro _ hqc; go_simp; try rfl
   try simp only [pu]
  refine rg_two (i := 6) (j := 29) (get_of Hops rfl) (get_of Hops rfl) (fun K hK => ?_) (fun K hK => ?_)
  -- operation 6 first
  ·
   have HSrg := Lib.hid hS; clear hS
   refine rg_run (wanted_plain rfl) ?_
   go_simp
   refine (HO1.out _ HSrg.out).mono ?_
   rintro e wr1 ⟨rfl, hbr1⟩
   have hS : SinceB (we.heap.size) we wr1 := bT (w := we) HSrg.out hbr1
   clear HSrg
   try replace XQ := XQ.keep hbr1
   refine hK.out _ _ hS (fun _ => ?_)
   clear hK K
   try simp only [pu]
   refine rg_two (i := 13) (j := 29) (get_of Hops rfl) (get_of Hops rfl) (fun K hK => ?_) (fun K hK => ?_)
   -- operation 13 first
   ·
    have HSrg := Lib.hid hS; clear hS
    refine rg_run (wanted_plain rfl) ?_
    go_simp
    refine (HO2.out _ HSrg.out).mono ?_
    rintro e wr2 ⟨rfl, hbr2⟩
    have hS : SinceB (we.heap.size) we wr2 := bT (w := we) HSrg.out hbr2
    clear HSrg
    try replace XQ := XQ.keep hbr2
    refine hK.out _ _ hS (fun _ => ?_)
    clear hK K
    try simp only [pu]
    refine rg_two (i := 20) (j := 29) (get_of Hops rfl) (get_of Hops rfl) (fun K hK => ?_) (fun K hK => ?_)
    -- operation 20 first
    ·
     have HSrg := Lib.hid hS; clear hS
     refine rg_run (wanted_plain rfl) ?_
     go_simp
     refine (HO3.out _ HSrg.out).mono ?_
     rintro e wr3 ⟨rfl, hbr3⟩
     have hS : SinceB (we.heap.size) we wr3 := bT (w := we) HSrg.out hbr3
     clear HSrg
     try replace XQ := XQ.keep hbr3
     refine hK.out _ _ hS (fun _ => ?_)
     clear hK K
     try simp only [pu]
     refine rg_two (i := 27) (j := 29) (get_of Hops rfl) (get_of Hops rfl) (fun K hK => ?_) (fun K hK => ?_)
     -- operation 27 first
     ·
      have HSrg := Lib.hid hS; clear hS
      refine rg_run (wanted_plain rfl) ?_
      go_simp
      refine (HO4.out _ HSrg.out).mono ?_
      rintro e wr4 ⟨rfl, hbr4⟩
      have hS : SinceB (we.heap.size) we wr4 := bT (w := we) HSrg.out hbr4
      clear HSrg
      try replace XQ := XQ.keep hbr4
      refine hK.out _ _ hS (fun _ => ?_)
      clear hK K
      try simp only [pu]
      apply rg_pB; exact Hops; exact rfl; exact hS; exact rfl
      · intro _ hqc; go_simp; try rfl
      try simp only [pu]
      refine rg_call (i := 29) (get_of Hops rfl) (fun K hK => ?_)
      have HSrg := Lib.hid hS; clear hS
      refine rg_run (wanted_plain rfl) ?_
      go_simp
      have XQy : Below (we.heap.size) we (wr4) := HSrg.out
      have XQz : we.heap.size ≤ (wr4).heap.size := Nat.le_trans (by omega) (show Below (we.heap.size) we (wr4) from HSrg.out).size
      refine hK.out _ _ (bAB (by omega) HSrg.out _) (fun hS => ?_)
      clear hK K HSrg
      try replace XQ := XQ.alloc (.cells #[.bool false, .bool false, .bool false, .bool false] 176)
      have XQ := Blk.new (wr4) 176 #[.bool false, .bool false, .bool false, .bool false]
      try simp only [World.size_drew] at XQ XQz
      try simp only [pu]
      refine rg_call (i := 30) (get_of Hops rfl) (fun K hK => ?_)
      have HSrg := Lib.hid hS; clear hS
      refine rg_run (wanted_plain rfl) ?_
      obtain ⟨XQl, XQa, XQb, XQc, XQd, XQe, XQf, XQg, XQh⟩ := XQ.facts4
      go_simp
      refine hK.out _ _ (by unfold SinceB; have h : Below _ _ _ := HSrg.out; repeat (first | with_reducible assumption | with_reducible exact Below.refl _ _ | with_reducible refine bSB ?_ (by first | omega | (simp; omega)) _ | with_reducible refine Below.drew ?_ | with_reducible refine bAB (by omega) ?_ _ | exact h)) ?_
      intro hS
      clear hK K HSrg
      try simp only [pu]
      refine rg_done ?_
      refine HQrg.down _ _ ?_
      have hB : Below (we.heap.size) we _ := hS
      clear hS HQrg Hops
      go_wp2_with fail
      go_meet
      case rel => exact ⟨_, rfl, (by first | with_reducible exact Blk.put4 XQ | with_reducible exact Blk.made rfl _ _ | with_reducible exact Blk.drew (Blk.made rfl _ _)), hB⟩
     -- operation 29 first
     ·
      have HSrg := Lib.hid hS; clear hS
      refine rg_run (wanted_plain rfl) ?_
      go_simp
      have XQy : Below (we.heap.size) we (wr3) := HSrg.out
      have XQz : we.heap.size ≤ (wr3).heap.size := Nat.le_trans (by omega) (show Below (we.heap.size) we (wr3) from HSrg.out).size
      refine hK.out _ _ (bAB (by omega) HSrg.out _) (fun hS => ?_)
      clear hK K HSrg
      try replace XQ := XQ.alloc (.cells #[.bool false, .bool false, .bool false, .bool false] 176)
      have XQ := Blk.new (wr3) 176 #[.bool false, .bool false, .bool false, .bool false]
      try simp only [World.size_drew] at XQ XQz
      try simp only [pu]
      refine rg_call (i := 27) (get_of Hops rfl) (fun K hK => ?_)
      have HSrg := Lib.hid hS; clear hS
      refine rg_run (wanted_plain rfl) ?_
      go_simp
      refine (HO4.out _ HSrg.out).mono ?_
      rintro e wr4 ⟨rfl, hbr4⟩
      have hS : SinceB (we.heap.size) we wr4 := bT (w := we) HSrg.out hbr4
      clear HSrg
      try replace XQ := XQ.keep hbr4
      refine hK.out _ _ hS (fun _ => ?_)
      clear hK K
      try simp only [pu]
      apply rg_pB; exact Hops; exact rfl; exact hS; exact rfl
      · intro _ hqc; go_simp; try rfl
      try simp only [pu]
      refine rg_call (i := 30) (get_of Hops rfl) (fun K hK => ?_)
      have HSrg := Lib.hid hS; clear hS
      refine rg_run (wanted_plain rfl) ?_
      obtain ⟨XQl, XQa, XQb, XQc, XQd, XQe, XQf, XQg, XQh⟩ := XQ.facts4
      go_simp
      refine hK.out _ _ (by unfold SinceB; have h : Below _ _ _ := HSrg.out; repeat (first | with_reducible assumption | with_reducible exact Below.refl _ _ | with_reducible refine bSB ?_ (by first | omega | (simp; omega)) _ | with_reducible refine Below.drew ?_ | with_reducible refine bAB (by omega) ?_ _ | exact h)) ?_
      intro hS
      clear hK K HSrg
      try simp only [pu]
      refine rg_done ?_
      refine HQrg.down _ _ ?_
      have hB : Below (we.heap.size) we _ := hS
      clear hS HQrg Hops
      go_wp2_with fail
      go_meet
      case rel => exact ⟨_, rfl, (by first | with_reducible exact Blk.put4 XQ | with_reducible exact Blk.made rfl _ _ | with_reducible exact Blk.drew (Blk.made rfl _ _)), hB⟩
    -- operation 29 first
    ·
     have HSrg := Lib.hid hS; clear hS
     refine rg_run (wanted_plain rfl) ?_
     go_simp
     have XQy : Below (we.heap.size) we (wr2) := HSrg.out
     have XQz : we.heap.size ≤ (wr2).heap.size := Nat.le_trans (by omega) (show Below (we.heap.size) we (wr2) from HSrg.out).size
     refine hK.out _ _ (bAB (by omega) HSrg.out _) (fun hS => ?_)
     clear hK K HSrg
     try replace XQ := XQ.alloc (.cells #[.bool false, .bool false, .bool false, .bool false] 176)
     have XQ := Blk.new (wr2) 176 #[.bool false, .bool false, .bool false, .bool false]
     try simp only [World.size_drew] at XQ XQz
     try simp only [pu]
     refine rg_call (i := 20) (get_of Hops rfl) (fun K hK => ?_)
     have HSrg := Lib.hid hS; clear hS
     refine rg_run (wanted_plain rfl) ?_
     go_simp
     refine (HO3.out _ HSrg.out).mono ?_
     rintro e wr3 ⟨rfl, hbr3⟩
     have hS : SinceB (we.heap.size) we wr3 := bT (w := we) HSrg.out hbr3
     clear HSrg
     try replace XQ := XQ.keep hbr3
     refine hK.out _ _ hS (fun _ => ?_)
     clear hK K
     try simp only [pu]
     refine rg_call (i := 27) (get_of Hops rfl) (fun K hK => ?_)
     have HSrg := Lib.hid hS; clear hS
     refine rg_run (wanted_plain rfl) ?_
     go_simp
     refine (HO4.out _ HSrg.out).mono ?_
     rintro e wr4 ⟨rfl, hbr4⟩
     have hS : SinceB (we.heap.size) we wr4 := bT (w := we) HSrg.out hbr4
     clear HSrg
     try replace XQ := XQ.keep hbr4
     refine hK.out _ _ hS (fun _ => ?_)
     clear hK K
     try simp only [pu]
     apply rg_pB; exact Hops; exact rfl; exact hS; exact rfl
     · intro _ hqc; go_simp; try rfl
     try simp only [pu]
     refine rg_call (i := 30) (get_of Hops rfl) (fun K hK => ?_)
     have HSrg := Lib.hid hS; clear hS
     refine rg_run (wanted_plain rfl) ?_
     obtain ⟨XQl, XQa, XQb, XQc, XQd, XQe, XQf, XQg, XQh⟩ := XQ.facts4
     go_simp
     refine hK.out _ _ (by unfold SinceB; have h : Below _ _ _ := HSrg.out; repeat (first | with_reducible assumption | with_reducible exact Below.refl _ _ | with_reducible refine bSB ?_ (by first | omega | (simp; omega)) _ | with_reducible refine Below.drew ?_ | with_reducible refine bAB (by omega) ?_ _ | exact h)) ?_
     intro hS
     clear hK K HSrg
     try simp only [pu]
     refine rg_done ?_
     refine HQrg.down _ _ ?_
     have hB : Below (we.heap.size) we _ := hS
     clear hS HQrg Hops
     go_wp2_with fail
     go_meet
     case rel => exact ⟨_, rfl, (by first | with_reducible exact Blk.put4 XQ | with_reducible exact Blk.made rfl _ _ | with_reducible exact Blk.drew (Blk.made rfl _ _)), hB⟩
   -- operation 29 first
   ·
    have HSrg := Lib.hid hS; clear hS
    refine rg_run (wanted_plain rfl) ?_
    go_simp
    have XQy : Below (we.heap.size) we (wr1) := HSrg.out
    have XQz : we.heap.size ≤ (wr1).heap.size := Nat.le_trans (by omega) (show Below (we.heap.size) we (wr1) from HSrg.out).size
    refine hK.out _ _ (bAB (by omega) HSrg.out _) (fun hS => ?_)
    clear hK K HSrg
    try replace XQ := XQ.alloc (.cells #[.bool false, .bool false, .bool false, .bool false] 176)
    have XQ := Blk.new (wr1) 176 #[.bool false, .bool false, .bool false, .bool false]
    try simp only [World.size_drew] at XQ XQz
    try simp only [pu]
    refine rg_call (i := 13) (get_of Hops rfl) (fun K hK => ?_)
    have HSrg := Lib.hid hS; clear hS
    refine rg_run (wanted_plain rfl) ?_
    go_simp
    refine (HO2.out _ HSrg.out).mono ?_
    rintro e wr2 ⟨rfl, hbr2⟩
    have hS : SinceB (we.heap.size) we wr2 := bT (w := we) HSrg.out hbr2
    clear HSrg
    try replace XQ := XQ.keep hbr2
    refine hK.out _ _ hS (fun _ => ?_)
    clear hK K
    try simp only [pu]
    refine rg_call (i := 20) (get_of Hops rfl) (fun K hK => ?_)
    have HSrg := Lib.hid hS; clear hS
    refine rg_run (wanted_plain rfl) ?_
    go_simp
    refine (HO3.out _ HSrg.out).mono ?_
    rintro e wr3 ⟨rfl, hbr3⟩
    have hS : SinceB (we.heap.size) we wr3 := bT (w := we) HSrg.out hbr3
    clear HSrg
    try replace XQ := XQ.keep hbr3
    refine hK.out _ _ hS (fun _ => ?_)
    clear hK K
    try simp only [pu]
    refine rg_call (i := 27) (get_of Hops rfl) (fun K hK => ?_)
    have HSrg := Lib.hid hS; clear hS
    refine rg_run (wanted_plain rfl) ?_
    go_simp
    refine (HO4.out _ HSrg.out).mono ?_
    rintro e wr4 ⟨rfl, hbr4⟩
    have hS : SinceB (we.heap.size) we wr4 := bT (w := we) HSrg.out hbr4
    clear HSrg
    try replace XQ := XQ.keep hbr4
    refine hK.out _ _ hS (fun _ => ?_)
    clear hK K
    try simp only [pu]
    apply rg_pB; exact Hops; exact rfl; exact hS; exact rfl
    · intro _ hqc; go_simp; try rfl
    try simp only [pu]
    refine rg_call (i := 30) (get_of Hops rfl) (fun K hK => ?_)
    have HSrg := Lib.hid hS; clear hS
    refine rg_run (wanted_plain rfl) ?_
    obtain ⟨XQl, XQa, XQb, XQc, XQd, XQe, XQf, XQg, XQh⟩ := XQ.facts4
    go_simp
    refine hK.out _ _ (by unfold SinceB; have h : Below _ _ _ := HSrg.out; repeat (first | with_reducible assumption | with_reducible exact Below.refl _ _ | with_reducible refine bSB ?_ (by first | omega | (simp; omega)) _ | with_reducible refine Below.drew ?_ | with_reducible refine bAB (by omega) ?_ _ | exact h)) ?_
    intro hS
    clear hK K HSrg
    try simp only [pu]
    refine rg_done ?_
    refine HQrg.down _ _ ?_
    have hB : Below (we.heap.size) we _ := hS
    clear hS HQrg Hops
    go_wp2_with fail
    go_meet
    case rel => exact ⟨_, rfl, (by first | with_reducible exact Blk.put4 XQ | with_reducible exact Blk.made rfl _ _ | with_reducible exact Blk.drew (Blk.made rfl _ _)), hB⟩
  -- operation 29 first
  ·
   have HSrg := Lib.hid hS; clear hS
   refine rg_run (wanted_plain rfl) ?_
   go_simp
   have XQy : Below (we.heap.size) we (we.drew) := HSrg.out
   have XQz : we.heap.size ≤ (we.drew).heap.size := Nat.le_trans (by omega) (show Below (we.heap.size) we (we.drew) from HSrg.out).size
   refine hK.out _ _ (bAB (by omega) HSrg.out _) (fun hS => ?_)
   clear hK K HSrg
   try replace XQ := XQ.alloc (.cells #[.bool false, .bool false, .bool false, .bool false] 176)
   have XQ := Blk.new (we.drew) 176 #[.bool false, .bool false, .bool false, .bool false]
   try simp only [World.size_drew] at XQ XQz
   try simp only [pu]
   refine rg_call (i := 6) (get_of Hops rfl) (fun K hK => ?_)
   have HSrg := Lib.hid hS; clear hS
   refine rg_run (wanted_plain rfl) ?_
   go_simp
   refine (HO1.out _ HSrg.out).mono ?_
   rintro e wr1 ⟨rfl, hbr1⟩
   have hS : SinceB (we.heap.size) we wr1 := bT (w := we) HSrg.out hbr1
   clear HSrg
   try replace XQ := XQ.keep hbr1
   refine hK.out _ _ hS (fun _ => ?_)
   clear hK K
   try simp only [pu]
   refine rg_call (i := 13) (get_of Hops rfl) (fun K hK => ?_)
   have HSrg := Lib.hid hS; clear hS
   refine rg_run (wanted_plain rfl) ?_
   go_simp
   refine (HO2.out _ HSrg.out).mono ?_
   rintro e wr2 ⟨rfl, hbr2⟩
   have hS : SinceB (we.heap.size) we wr2 := bT (w := we) HSrg.out hbr2
   clear HSrg
   try replace XQ := XQ.keep hbr2
   refine hK.out _ _ hS (fun _ => ?_)
   clear hK K
   try simp only [pu]
   refine rg_call (i := 20) (get_of Hops rfl) (fun K hK => ?_)
   have HSrg := Lib.hid hS; clear hS
   refine rg_run (wanted_plain rfl) ?_
   go_simp
   refine (HO3.out _ HSrg.out).mono ?_
   rintro e wr3 ⟨rfl, hbr3⟩
   have hS : SinceB (we.heap.size) we wr3 := bT (w := we) HSrg.out hbr3
   clear HSrg
   try replace XQ := XQ.keep hbr3
   refine hK.out _ _ hS (fun _ => ?_)
   clear hK K
   try simp only [pu]
   refine rg_call (i := 27) (get_of Hops rfl) (fun K hK => ?_)
   have HSrg := Lib.hid hS; clear hS
   refine rg_run (wanted_plain rfl) ?_
   go_simp
   refine (HO4.out _ HSrg.out).mono ?_
   rintro e wr4 ⟨rfl, hbr4⟩
   have hS : SinceB (we.heap.size) we wr4 := bT (w := we) HSrg.out hbr4
   clear HSrg
   try replace XQ := XQ.keep hbr4
   refine hK.out _ _ hS (fun _ => ?_)
   clear hK K
   try simp only [pu]
   apply rg_pB; exact Hops; exact rfl; exact hS; exact rfl
   · intro _ hqc; go_simp; try rfl
   try simp only [pu]
   refine rg_call (i := 30) (get_of Hops rfl) (fun K hK => ?_)
   have HSrg := Lib.hid hS; clear hS
   refine rg_run (wanted_plain rfl) ?_
   obtain ⟨XQl, XQa, XQb, XQc, XQd, XQe, XQf, XQg, XQh⟩ := XQ.facts4
   go_simp
   refine hK.out _ _ (by unfold SinceB; have h : Below _ _ _ := HSrg.out; repeat (first | with_reducible assumption | with_reducible exact Below.refl _ _ | with_reducible refine bSB ?_ (by first | omega | (simp; omega)) _ | with_reducible refine Below.drew ?_ | with_reducible refine bAB (by omega) ?_ _ | exact h)) ?_
   intro hS
   clear hK K HSrg
   try simp only [pu]
   refine rg_done ?_
   refine HQrg.down _ _ ?_
   have hB : Below (we.heap.size) we _ := hS
   clear hS HQrg Hops
   go_wp2_with fail
   go_meet
   case rel => exact ⟨_, rfl, (by first | with_reducible exact Blk.put4 XQ | with_reducible exact Blk.made rfl _ _ | with_reducible exact Blk.drew (Blk.made rfl _ _)), hB⟩
 case rest =>
 obtain ⟨g13, rfl, X13, hb13⟩ := hcut
 have HB2 := Lib.hid (bT HB1.out hb13)
 clear hb13 X3 X4 X5 X3l X3a X3b X5l X5a X5b X5c X5d
 obtain ⟨X13l, X13a, X13b, X13c, X13d, -, -, -, -⟩ := X13.facts4
 go_wp2_with fail
 go_loopw [14, 114] (fun o k wx => ∃ (j : Nat) (o' : Int), j ≤ 4 ∧ 0 ≤ o' ∧ o' ≤ 4 ∧ o = .int .i64 o' ∧ k = .int .i64 j ∧ wx = wc ∧ Hid (outF o' j (List.drop j [y0, y1, y2, y3]) = r)) (fun _ k _ => 4 - (intOf k).toNat)
 case atStart => exact ⟨0, 0, by omega, by omega, by omega, rfl, rfl, rfl, Lib.hid Hr.out⟩
 case round =>
  obtain ⟨j, o', hj, o1, o2, rfl, rfl, rfl, hF⟩ := hrel
  clear Hr
  by_cases h4 : j < 4
  ·
   rcases (by omega : j = 0 ∨ j = 1 ∨ j = 2 ∨ j = 3) with rfl | rfl | rfl | rfl
   ·
    clear h4 hj
    have hf := hF.out
    clear hF
    simp only [List.drop] at hf
    have hI := fun W => (run_ix4 y0 y1 y2 y3 W).1
    cases y0
    ·
     have HF' := Lib.hid (show outF o' 1 [y1, y2, y3] = r from hf)
     clear hf
     go_wp2_with fail
     go_roundw
     case rel => exact ⟨1, o', by omega, o1, o2, (by first | trivial | rfl), (by first | trivial | go_num), (by first | trivial | rfl), HF'⟩
     case measure => simp [intOf]
    ·
     by_cases ho : o' = 0
     ·
      subst ho
      have HF' := Lib.hid (show outF 1 1 [y1, y2, y3] = r from hf)
      clear hf
      go_wp2_with fail
      go_roundw
      case rel => exact ⟨1, 1, by omega, by omega, by omega, (by first | trivial | go_num), (by first | trivial | go_num), (by first | trivial | rfl), HF'⟩
      case measure => simp [intOf]
     ·
      have hne : (o' == 0) = false := by simpa using ho
      have hne' : (o' != 0) = true := by simpa using ho
      have HF' := Lib.hid (show 0 = r from by rw [← hf]; unfold outF; rw [if_neg ho])
      clear hf ho
      go_wp2_with fail
      go_ret
      exact ⟨by rw [← HF'.out]; rfl, HB2.out⟩
   ·
    clear h4 hj
    have hf := hF.out
    clear hF
    simp only [List.drop] at hf
    have hI := fun W => (run_ix4 y0 y1 y2 y3 W).2.1
    cases y1
    ·
     have HF' := Lib.hid (show outF o' 2 [y2, y3] = r from hf)
     clear hf
     go_wp2_with fail
     go_roundw
     case rel => exact ⟨2, o', by omega, o1, o2, (by first | trivial | rfl), (by first | trivial | go_num), (by first | trivial | rfl), HF'⟩
     case measure => simp [intOf]
    ·
     by_cases ho : o' = 0
     ·
      subst ho
      have HF' := Lib.hid (show outF 2 2 [y2, y3] = r from hf)
      clear hf
      go_wp2_with fail
      go_roundw
      case rel => exact ⟨2, 2, by omega, by omega, by omega, (by first | trivial | go_num), (by first | trivial | go_num), (by first | trivial | rfl), HF'⟩
      case measure => simp [intOf]
     ·
      have hne : (o' == 0) = false := by simpa using ho
      have hne' : (o' != 0) = true := by simpa using ho
      have HF' := Lib.hid (show 0 = r from by rw [← hf]; unfold outF; rw [if_neg ho])
      clear hf ho
      go_wp2_with fail
      go_ret
      exact ⟨by rw [← HF'.out]; rfl, HB2.out⟩
   ·
    clear h4 hj
    have hf := hF.out
    clear hF
    simp only [List.drop] at hf
    have hI := fun W => (run_ix4 y0 y1 y2 y3 W).2.2.1
    cases y2
    ·
     have HF' := Lib.hid (show outF o' 3 [y3] = r from hf)
     clear hf
     go_wp2_with fail
     go_roundw
     case rel => exact ⟨3, o', by omega, o1, o2, (by first | trivial | rfl), (by first | trivial | go_num), (by first | trivial | rfl), HF'⟩
     case measure => simp [intOf]
    ·
     by_cases ho : o' = 0
     ·
      subst ho
      have HF' := Lib.hid (show outF 3 3 [y3] = r from hf)
      clear hf
      go_wp2_with fail
      go_roundw
      case rel => exact ⟨3, 3, by omega, by omega, by omega, (by first | trivial | go_num), (by first | trivial | go_num), (by first | trivial | rfl), HF'⟩
      case measure => simp [intOf]
     ·
      have hne : (o' == 0) = false := by simpa using ho
      have hne' : (o' != 0) = true := by simpa using ho
      have HF' := Lib.hid (show 0 = r from by rw [← hf]; unfold outF; rw [if_neg ho])
      clear hf ho
      go_wp2_with fail
      go_ret
      exact ⟨by rw [← HF'.out]; rfl, HB2.out⟩
   ·
    clear h4 hj
    have hf := hF.out
    clear hF
    simp only [List.drop] at hf
    have hI := fun W => (run_ix4 y0 y1 y2 y3 W).2.2.2
    cases y3
    ·
     have HF' := Lib.hid (show outF o' 4 [] = r from hf)
     clear hf
     go_wp2_with fail
     go_roundw
     case rel => exact ⟨4, o', by omega, o1, o2, (by first | trivial | rfl), (by first | trivial | go_num), (by first | trivial | rfl), HF'⟩
     case measure => simp [intOf]
    ·
     by_cases ho : o' = 0
     ·
      subst ho
      have HF' := Lib.hid (show outF 4 4 [] = r from hf)
      clear hf
      go_wp2_with fail
      go_roundw
      case rel => exact ⟨4, 4, by omega, by omega, by omega, (by first | trivial | go_num), (by first | trivial | go_num), (by first | trivial | rfl), HF'⟩
      case measure => simp [intOf]
     ·
      have hne : (o' == 0) = false := by simpa using ho
      have hne' : (o' != 0) = true := by simpa using ho
      have HF' := Lib.hid (show 0 = r from by rw [← hf]; unfold outF; rw [if_neg ho])
      clear hf ho
      go_wp2_with fail
      go_ret
      exact ⟨by rw [← HF'.out]; rfl, HB2.out⟩
  ·
   obtain rfl : j = 4 := by omega
   have HF' := Lib.hid (show o' = r from hF.out)
   clear hF
   go_wp2_with fail
   go_ret
   exact ⟨by rw [← HF'.out]; rfl, HB2.out⟩
end Go.Proofs.YtfdbidagdjnipaaGreatDoor
