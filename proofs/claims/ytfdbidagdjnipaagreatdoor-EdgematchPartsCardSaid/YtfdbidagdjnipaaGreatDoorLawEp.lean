/- mapsheetslaw42.EdgematchParts: true. -/
import Derived.Test.YtfdbidagdjnipaaGreatDoorJ18
import Derived.Test.YtfdbidagdjnipaaGreatDoorJ17
import Derived.Test.YtfdbidagdjnipaaGreatDoorJ16
import Derived.Test.YtfdbidagdjnipaaGreatDoorJ28
import Derived.Test.YtfdbidagdjnipaaGreatDoorLawU
set_option linter.unusedSimpArgs false
set_option linter.unusedVariables false
namespace Go.Proofs.YtfdbidagdjnipaaGreatDoor
open Go.RowKit

set_option maxRecDepth 100000 in
set_option maxHeartbeats 4000000 in
theorem few42_spec (s : Se) (w : World) : Calls Tryz.prog 6 #[seV s] w fun e w' => e = .returned (.bool (seOk s && decide (s.cols * s.rows ≤ 12))) ∧ Below w.heap.size w w' := by
 have TC := fun W => rCheck_spec s W
 unfold seV at TC ⊢
 unfold seCheck at TC
 obtain ⟨W, hW⟩ : ∃ W : World, W = w.alloc (.cells #[.int .i64 s.at_.x, .int .i64 s.at_.y, .int .i64 s.width, .int .i64 s.height, .int .i64 s.cols, .int .i64 s.rows] 30) := ⟨_, rfl⟩
 have HB0 := Lib.hid (show Below w.heap.size w W by rw [hW]; exact bA (bR w) _)
 have X1 : Blk W w.heap.size 30 #[.int .i64 s.at_.x, .int .i64 s.at_.y, .int .i64 s.width, .int .i64 s.height, .int .i64 s.cols, .int .i64 s.rows] := by rw [hW]; exact Blk.made rfl _ _
 cases ho : seOk s
 ·
  rw [ho] at TC
  simp only [Bool.false_eq_true, if_false] at TC
  have HC := Lib.hid TC
  clear TC ho
  go_enter Tryz.func6, Tryz.ntmps6
  go_upto_region 1 with fail
  try rw [← hW]
  clear hW
  obtain ⟨X1l, X1a, X1b, X1c, X1d, X1e, X1f, -, -, -, -, -, -⟩ := X1.facts6
  go_wp2_with fail
  refine (HC.out _).mono ?_
  rintro e w1 ⟨rfl, hb1⟩
  go_wp2_with fail
  go_ret
  exact ⟨rfl, bT HB0.out hb1⟩
 ·
  have hg := seOk_grid ho
  rw [ho] at TC
  simp only [if_true] at TC
  have HC := Lib.hid TC
  obtain ⟨M, hM⟩ : ∃ M, s.cols * s.rows = M := ⟨_, rfl⟩
  rw [hM] at hg ⊢
  have hmul : IntKind.i64.wrap (s.cols * s.rows) = M := by rw [hM]; exact IntWalk.i64_in _ (by omega)
  clear TC ho hM
  by_cases h12 : M ≤ 12
  all_goals
   go_enter Tryz.func6, Tryz.ntmps6
   go_upto_region 1 with fail
   try rw [← hW]
   clear hW
   try clear X1l
   try clear X1a
   try clear X1b
   try clear X1c
   try clear X1d
   try clear X1e
   try clear X1f
   obtain ⟨X1l, X1a, X1b, X1c, X1d, X1e, X1f, -, -, -, -, -, -⟩ := X1.facts6
   go_wp2_with fail
   refine (HC.out _).mono ?_
   rintro e w1 ⟨rfl, hb1⟩
   have B1 := Lib.hid (bT HB0.out hb1)
   replace X1 := X1.keep hb1
   clear hb1
   try clear X1l
   try clear X1a
   try clear X1b
   try clear X1c
   try clear X1d
   try clear X1e
   try clear X1f
   obtain ⟨X1l, X1a, X1b, X1c, X1d, X1e, X1f, -, -, -, -, -, -⟩ := X1.facts6
   go_wp2_with fail
   go_ret
   exact ⟨by simp [h12], B1.out⟩

theorem small_smP {p : Pl} (h : small15 p = true) : SmP p := by
 obtain ⟨h1, h2, h3⟩ := small15_facts h
 exact ⟨by omega, by omega, fun a ha => by have := via_le' h3 a ha; omega⟩
set_option maxRecDepth 100000 in
set_option maxHeartbeats 16000000 in
theorem EdgematchParts_spec (v : Value) (p : Pl) (s : Se) (w : World) (h : PlV w v p) (hwf : wfPl p) (hm : Mv w) :
  Calls Tryz.prog 3 #[v, seV s] w fun e w' => e = .returned (.bool true) ∧ Below w.heap.size w w' := by
 have HSm := Lib.hid (fun W (hW : Below w.heap.size w W) => Small15_spec v p W (h.mono hW))
 have HCk := Lib.hid (fun W (hW : Below w.heap.size w W) => RCheck_spec v p W (h.mono hW))
 have TF := fun W => few42_spec s W
 have TA := fun (hs : SmP p) W (hW : Below w.heap.size w W) => (All_spec v p s W (h.mono hW) hs).mono (fun _ _ h => h.rd)
 have TP := fun (hs : SmP p) (n : Int) W (hW : Below w.heap.size w W) => (Part_spec v p s n W (h.mono hW) hs).mono (fun _ _ h => h.rd)
 have TB := fun (n : Int) W => rBox_spec s n W
 have TX := fun (hs : small15 p = true) (n side : Int) W (hW : Below w.heap.size w W) => Expected_spec v p s n side W (h.mono hW) hwf (by have := small15_facts hs; omega)
 have TM := fun (l : List (Prt × Value × Value)) (u : Value) W (hW : Below w.heap.size w W) (hl : Prts W u l) (h1 : ∀ x ∈ l, wfPrt x.1) (h2 : ∀ x ∈ l, x.1.pieces.length ≤ 60000 ∧ x.1.nodes.length ≤ 60000) (h3 : l.length ≤ 60000) => Match_spec u l s W hl (hm.keep hW) h1 h2 h3
 have HAw := Lib.hid (fun W (hW : Below w.heap.size w W) => awake42_spec W (hm.keep hW))
 have HWf := Lib.hid hwf
 obtain ⟨vn, va, vf, al, rfl, -⟩ := h
 unfold seV at TF TA TP TB TX TM ⊢
 unfold RetCrs at TX
 unfold RetInsE at TM
 have HFe := Lib.hid TF; have HAl := Lib.hid TA; have HPt := Lib.hid TP; have HBx := Lib.hid TB; have HEx := Lib.hid TX; have HMt := Lib.hid TM
 clear TF TA TP TB TX TM hwf hm
 obtain ⟨s0, hs0⟩ : ∃ s0, w.heap.size = s0 := ⟨_, rfl⟩
 obtain ⟨g3, h3⟩ : ∃ g, s0 + 1 = g := ⟨_, rfl⟩
 obtain ⟨W, hW⟩ : ∃ W : World, W = (w.alloc (.cells #[vn, va, vf] 26)).alloc (.cells #[.int .i64 s.at_.x, .int .i64 s.at_.y, .int .i64 s.width, .int .i64 s.height, .int .i64 s.cols, .int .i64 s.rows] 30) := ⟨_, rfl⟩
 have HB0 := Lib.hid (show Below w.heap.size w W by rw [hW]; exact bA (bA (bR w) _) _)
 have X2 : Blk W s0 26 #[vn, va, vf] := by rw [hW]; exact (Blk.made hs0.symm _ _).alloc _
 have X3 : Blk W g3 30 #[.int .i64 s.at_.x, .int .i64 s.at_.y, .int .i64 s.width, .int .i64 s.height, .int .i64 s.cols, .int .i64 s.rows] := by rw [hW]; exact Blk.made (by simp; omega) _ _
 go_enter Tryz.func3, Tryz.ntmps3
 go_upto_region 1 with fail
 try rw [← hW]
 clear hW hs0 h3
 obtain ⟨X2l, X2a, X2b, X2c, -, -, -⟩ := X2.facts3
 go_wp2_with fail
 refine (HSm.out _ HB0.out).mono ?_
 rintro e w1 ⟨rfl, hb1⟩
 have HB1 := Lib.hid (bT HB0.out hb1)
 have HX2 := Lib.hid (X2.keep hb1); have HX3 := Lib.hid (X3.keep hb1)
 clear hb1 HB0 X2 X2l X2a X2b X2c X3
 cases hs : small15 p
 case false =>
  clear hs
  go_wp2_with fail
  refine (HAw.out _ HB1.out).mono ?_
  rintro e w2 ⟨rfl, hb2⟩
  go_wp2_with fail
  go_ret
  exact ⟨rfl, bT HB1.out hb2⟩
 have HS := Lib.hid hs
 clear hs
 have X2 := HX2.out
 try clear X2l
 try clear X2a
 try clear X2b
 try clear X2c
 obtain ⟨X2l, X2a, X2b, X2c, -, -, -⟩ := X2.facts3
 go_wp2_with fail
 refine (HCk.out _ HB1.out).mono ?_
 rintro e w2 ⟨rfl, hb2⟩
 have HB2 := Lib.hid (bT HB1.out hb2)
 replace HX2 := Lib.hid (HX2.out.keep hb2); replace HX3 := Lib.hid (HX3.out.keep hb2)
 clear hb2 HB1 X2 X2l X2a X2b X2c
 by_cases hck : checkS p = 0
 case neg =>
  have hck' : (checkS p != 0) = true := by simp [hck]
  clear hck
  generalize checkS p = z at *
  go_wp2_with fail
  refine (HAw.out _ HB2.out).mono ?_
  rintro e w3 ⟨rfl, hb3⟩
  go_wp2_with fail
  go_ret
  exact ⟨rfl, bT HB2.out hb3⟩
 have HC0 := Lib.hid hck
 rw [hck]
 clear hck
 have X3 := HX3.out
 obtain ⟨X3l, X3a, X3b, X3c, X3d, X3e, X3f, -, -, -, -, -, -⟩ := X3.facts6
 go_wp2_with fail
 refine (HFe.out _).mono ?_
 rintro e w3 ⟨rfl, hb3⟩
 have HB3 := Lib.hid (bT HB2.out hb3)
 replace HX2 := Lib.hid (HX2.out.keep hb3); replace HX3 := Lib.hid (HX3.out.keep hb3)
 clear hb3 HB2 X3 X3l X3a X3b X3c X3d X3e X3f
 obtain ⟨fe, hfe⟩ : ∃ fe, (seOk s && decide (s.cols * s.rows ≤ 12)) = fe := ⟨_, rfl⟩
 rw [hfe]
 cases fe
 case false =>
  clear hfe
  go_wp2_with fail
  refine (HAw.out _ HB3.out).mono ?_
  rintro e w4 ⟨rfl, hb4⟩
  go_wp2_with fail
  go_ret
  exact ⟨rfl, bT HB3.out hb4⟩
 rw [Bool.and_eq_true, decide_eq_true_eq] at hfe
 obtain ⟨hok, h12⟩ := hfe
 have hV : Valid p := (check_zero p).1 HC0.out
 have hgr := seOk_grid hok
 have hall : allRes p s = (allS p s, 0) := by
  unfold allRes seCheck
  rw [if_neg (fun h => h HC0.out), if_neg (by rw [if_pos hok]; simp)]
 have hlen := all_len p s
 have HOk := Lib.hid hok; have HVd := Lib.hid hV
 replace HAl := HAl.out (small_smP HS.out)
 rw [hall] at HAl
 dsimp only at HAl
 unfold RetPrtsR at HAl
 obtain ⟨M, hM⟩ : ∃ M, (allS p s).length = M := ⟨_, rfl⟩
 rw [hM] at hlen HAl
 have HMc := Lib.hid (show (M : Int) = s.cols * s.rows by omega)
 have hM12 : M ≤ 12 := by omega
 have hmul : IntKind.i64.wrap (s.cols * s.rows) = (M : Int) := by rw [HMc.out]; exact IntWalk.i64_in _ (by omega)
 replace HAl := Lib.hid HAl
 replace HEx := Lib.hid (HEx.out HS.out)
 replace HPt := Lib.hid (HPt.out (small_smP HS.out))
 have HM := Lib.hid hM
 clear hok h12 hV hgr hall hlen hM
 have X2 := HX2.out; have X3 := HX3.out
 try clear X2l
 try clear X2a
 try clear X2b
 try clear X2c
 obtain ⟨X2l, X2a, X2b, X2c, -, -, -⟩ := X2.facts3
 try clear X3l
 try clear X3a
 try clear X3b
 try clear X3c
 try clear X3d
 try clear X3e
 try clear X3f
 obtain ⟨X3l, X3a, X3b, X3c, X3d, X3e, X3f, -, -, -, -, -, -⟩ := X3.facts6
 go_wp2_with fail
 refine (HAl.out _ HB3.out).mono ?_
 rintro e w4 ⟨A, c, L, rfl, hb4, hl4, hp4⟩
 have HB4 := Lib.hid (bT HB3.out hb4)
 replace HX2 := Lib.hid (HX2.out.keep hb4); replace HX3 := Lib.hid (HX3.out.keep hb4)
 have HL := Lib.hid hl4; have HPs := Lib.hid hp4
 clear hb4 HB3 hl4 hp4 X2 X2l X2a X2b X2c X3 X3l X3a X3b X3c X3d X3e X3f
 have X3 := HX3.out
 try clear X3l
 try clear X3a
 try clear X3b
 try clear X3c
 try clear X3d
 try clear X3e
 try clear X3f
 obtain ⟨X3l, X3a, X3b, X3c, X3d, X3e, X3f, -, -, -, -, -, -⟩ := X3.facts6
 go_wp2_with fail
 clear X3 X3l X3a X3b X3c X3d X3e X3f
 go_loopw [7] (fun u wr => ∃ k : Nat, k ≤ M ∧ u = .int .i64 k ∧ Below w4.heap.size w4 wr) (fun u _ => M - (intOf u).toNat)
 case atStart => exact ⟨0, Nat.zero_le _, rfl, bR w4⟩
 case round =>
  obtain ⟨k, hk, rfl, hb⟩ := hrel
  have HBw := Lib.hid (bT HB4.out hb)
  have Hb := Lib.hid hb
  have HX2r := Lib.hid (HX2.out.keep hb); have HX3r := Lib.hid (HX3.out.keep hb)
  clear hb
  by_cases hlt : k < M
  ·
   have hin : InS s ((k : Int) + 1) := ⟨HOk.out, by omega, by have := HMc.out; omega⟩
   have TB := HBx.out ((k : Int) + 1)
   rw [boxRes_in hin] at TB
   have TP := HPt.out ((k : Int) + 1)
   rw [show partRes p s ((k : Int) + 1) = (partS p ((k : Int) + 1) (boxOf s ((k : Int) + 1)), 0) by
    unfold partRes
    rw [if_neg (fun h => h HC0.out), if_neg (fun h => h (findE_zero.2 hin))]] at TP
   dsimp only at TP
   have hwx := part_wf HVd.out HWf.out hin
   have hfx := part_few (small15_facts HS.out) ((k : Int) + 1) (boxOf s ((k : Int) + 1))
   have HCE := Lib.hid (fun (side : Int) (hsd : 1 ≤ side ∧ side ≤ 4) => cross_exp HVd.out hin hsd)
   have hsh : (partS p ((k : Int) + 1) (boxOf s ((k : Int) + 1))).sheet = (k : Int) + 1 := rfl
   obtain ⟨x, hx⟩ : ∃ x, partS p ((k : Int) + 1) (boxOf s ((k : Int) + 1)) = x := ⟨_, rfl⟩
   rw [hx] at TP hwx hfx HCE hsh
   obtain ⟨bx, hbx⟩ : ∃ bx, boxOf s ((k : Int) + 1) = bx := ⟨_, rfl⟩
   rw [hbx] at TB HCE
   unfold RetPrtR at TP
   rw [hsh] at TP
   unfold boxV bxV at TB
   have HTB := Lib.hid TB; have HTP := Lib.hid TP; have HWx := Lib.hid hwx; have HFx := Lib.hid hfx; have HSh := Lib.hid hsh
   have hk1 : IntKind.i64.wrap ((k : Int) + 1) = (k : Int) + 1 := IntWalk.i64_in _ (by omega)
   have hkM : (k : Int) < M := by omega
   clear TB TP hwx hfx hsh hx hbx hin
   have X3 := HX3r.out
   try clear X3l
   try clear X3a
   try clear X3b
   try clear X3c
   try clear X3d
   try clear X3e
   try clear X3f
   obtain ⟨X3l, X3a, X3b, X3c, X3d, X3e, X3f, -, -, -, -, -, -⟩ := X3.facts6
   go_wp2_with fail
   refine (HTB.out _).mono ?_
   rintro e w5 ⟨rfl, hb5⟩
   obtain ⟨g8, h8⟩ : ∃ g, w5.heap.size = g := ⟨_, rfl⟩
   obtain ⟨W6, hW6⟩ : ∃ W : World, W = w5.alloc (.cells #[.int .i64 bx.x0, .int .i64 bx.y0, .int .i64 bx.x1, .int .i64 bx.y1] 40) := ⟨_, rfl⟩
   have hA6 : Below wr.heap.size wr W6 := by rw [hW6]; exact bA hb5 _
   have HX8 := Lib.hid (show Blk W6 g8 40 #[.int .i64 bx.x0, .int .i64 bx.y0, .int .i64 bx.x1, .int .i64 bx.y1] by rw [hW6]; exact Blk.made h8.symm _ _)
   have HB6 := Lib.hid (bT HBw.out hA6)
   have Hb6 := Lib.hid (bT Hb.out hA6)
   have HX26 := Lib.hid (HX2r.out.keep hA6); have HX36 := Lib.hid (HX3r.out.keep hA6)
   clear hb5 hA6 X3 X3l X3a X3b X3c X3d X3e X3f HX2r HX3r HBw Hb
   go_upto_region 10 with fail
   try rw [← hW6]
   try rw [h8]
   clear hW6 h8
   have X2 := HX26.out; have X3 := HX36.out
   try clear X2l
   try clear X2a
   try clear X2b
   try clear X2c
   obtain ⟨X2l, X2a, X2b, X2c, -, -, -⟩ := X2.facts3
   try clear X3l
   try clear X3a
   try clear X3b
   try clear X3c
   try clear X3d
   try clear X3e
   try clear X3f
   obtain ⟨X3l, X3a, X3b, X3c, X3d, X3e, X3f, -, -, -, -, -, -⟩ := X3.facts6
   go_wp2_with fail
   refine (HTP.out _ HB6.out).mono ?_
   rintro e w7 ⟨A1, m1, c1, A2, m2, c2, rfl, hb7, hx7⟩
   obtain ⟨g10, h10⟩ : ∃ g, w7.heap.size = g := ⟨_, rfl⟩
   obtain ⟨W8, hW8⟩ : ∃ W : World, W = w7.alloc (.cells #[.int .i64 ((k : Int) + 1), .slice A1 m1 c1, .slice A2 m2 c2] 45) := ⟨_, rfl⟩
   have hA8 : Below W6.heap.size W6 W8 := by rw [hW8]; exact bA hb7 _
   have HX10 := Lib.hid (show Blk W8 g10 45 #[.int .i64 ((k : Int) + 1), .slice A1 m1 c1, .slice A2 m2 c2] by rw [hW8]; exact Blk.made h10.symm _ _)
   have HB8 := Lib.hid (bT HB6.out hA8)
   have Hb8 := Lib.hid (bT Hb6.out hA8)
   have HXv := Lib.hid (show PrtV W8 (.agg #[.int .i64 ((k : Int) + 1), .slice A1 m1 c1, .slice A2 m2 c2]) x by rw [hW8]; exact hx7.mono (bA (bR w7) _))
   have HX28 := Lib.hid (HX26.out.keep hA8); have HX38 := Lib.hid (HX36.out.keep hA8); have HX88 := Lib.hid (HX8.out.keep hA8)
   clear hb7 hx7 hA8 X2 X2l X2a X2b X2c X3 X3l X3a X3b X3c X3d X3e X3f HX26 HX36 HX8 HB6 Hb6
   go_upto_region 11 with fail
   try rw [← hW8]
   try rw [h10]
   clear hW8 h10
   go_wp2_with fail
   go_loopw [12] (fun u wx => ∃ t : Nat, (1 ≤ t ∧ t ≤ 5) ∧ u = .int .i64 t ∧ Below W8.heap.size W8 wx) (fun u _ => 5 - (intOf u).toNat)
   case atStart => exact ⟨1, by omega, rfl, bR W8⟩
   case round =>
    rename_i wr0
    obtain ⟨t, ht, rfl, hb9⟩ := hrel
    have HB9 := Lib.hid (bT HB8.out hb9)
    have Hb9 := Lib.hid hb9
    have HX29 := Lib.hid (HX28.out.keep hb9); have HX39 := Lib.hid (HX38.out.keep hb9); have HX89 := Lib.hid (HX88.out.keep hb9); have HX109 := Lib.hid (HX10.out.keep hb9)
    have HXv9 := Lib.hid (HXv.out.mono hb9)
    clear hb9
    by_cases ht4 : t ≤ 4
    ·
     have ht4' : (t : Int) ≤ 4 := by omega
     obtain ⟨hce, hce2⟩ := HCE.out (t : Int) (by omega)
     have TC := fun W (hv : PrtV W (.agg #[.int .i64 ((k : Int) + 1), .slice A1 m1 c1, .slice A2 m2 c2]) x) => Crossings_spec (.agg #[.int .i64 ((k : Int) + 1), .slice A1 m1 c1, .slice A2 m2 c2]) x bx (t : Int) W hv HWx.out HFx.out.1 HFx.out.2
     have TE := HEx.out ((k : Int) + 1) (t : Int)
     rw [hce] at TC
     obtain ⟨Q, z, hQ⟩ : ∃ Q z, expectedS p s ((k : Int) + 1) (t : Int) = (Q, z) := ⟨_, _, rfl⟩
     rw [hQ] at TC TE hce2
     dsimp only at hce2
     subst hce2
     unfold RetCrs at TC
     unfold bxV at TC
     have HTC := Lib.hid TC; have HTE := Lib.hid TE
     clear TC TE hce hQ
     have X10 := HX109.out; have X8 := HX89.out
     obtain ⟨X10l, X10a, X10b, X10c, -, -, -⟩ := X10.facts3
     obtain ⟨X8l, X8a, X8b, X8c, X8d, -, -, -, -⟩ := X8.facts4
     go_wp2_with fail
     refine (HTC.out _ HXv9.out).mono ?_
     rintro e w10 ⟨A3, c3, rfl, hb10, ho3⟩
     have HO3 := Lib.hid ho3.sl
     have HB10 := Lib.hid (bT HB9.out hb10)
     have Hb10 := Lib.hid (bT Hb9.out hb10)
     have HX210 := Lib.hid (HX29.out.keep hb10); have HX310 := Lib.hid (HX39.out.keep hb10)
     clear hb10 ho3 X10 X10l X10a X10b X10c X8 X8l X8a X8b X8c X8d HX29 HX39 HX89 HX109 HXv9
     have X2 := HX210.out; have X3 := HX310.out
     try clear X2l
     try clear X2a
     try clear X2b
     try clear X2c
     obtain ⟨X2l, X2a, X2b, X2c, -, -, -⟩ := X2.facts3
     try clear X3l
     try clear X3a
     try clear X3b
     try clear X3c
     try clear X3d
     try clear X3e
     try clear X3f
     obtain ⟨X3l, X3a, X3b, X3c, X3d, X3e, X3f, -, -, -, -, -, -⟩ := X3.facts6
     go_wp2_with fail
     refine (HTE.out _ HB10.out).mono ?_
     rintro e w11 ⟨A4, c4, rfl, hb11, ho4⟩
     have HO4 := Lib.hid ho4.sl
     have Hb11 := Lib.hid (bT Hb10.out hb11)
     replace HO3 := Lib.hid (HO3.out.mono hb11)
     clear hb11 ho4 X2 X2l X2a X2b X2c X3 X3l X3a X3b X3c X3d X3e X3f
     go_wp2_with fail
     refine (same_true HO3.out HO4.out).mono ?_
     rintro e w12 ⟨rfl, hb12⟩
     have Hb12 := Lib.hid (bT Hb11.out hb12)
     clear hb12
     go_wp2_with fail
     go_roundw
     case rel => exact ⟨t + 1, by omega, by go_num, Hb12.out⟩
     case measure => simp [intOf]; omega
    ·
     have ht4' : ¬ (t : Int) ≤ 4 := by omega
     have HbN := Lib.hid (bT Hb8.out Hb9.out)
     go_wp2_with fail
     go_roundw
     case rel => exact ⟨k + 1, by omega, by go_num, HbN.out⟩
     case measure => simp [intOf]; omega
  ·
   have hkM : ¬ (k : Int) < M := by omega
   have HMt1 := Lib.hid (HMt.out L (.slice A M c) wr HBw.out (HPs.out.mono Hb.out) (fun y hy => by
     have hy' : y.1 ∈ allS p s := by rw [← HL.out]; exact List.mem_map_of_mem hy
     obtain ⟨i, hi, e⟩ := List.mem_iff_getElem.1 hy'
     rw [all_get] at e
     rw [← e]
     exact part_wf HVd.out HWf.out ⟨HOk.out, by omega, by rw [HM.out] at hi; have := HMc.out; omega⟩) (fun y hy => by
     have hy' : y.1 ∈ allS p s := by rw [← HL.out]; exact List.mem_map_of_mem hy
     obtain ⟨i, hi, e⟩ := List.mem_iff_getElem.1 hy'
     rw [all_get] at e
     rw [← e]
     exact part_few (small15_facts HS.out) _ _) (by
     have := congrArg List.length HL.out
     rw [List.length_map, HM.out] at this
     omega))
   have TM := HMt1.out
   rw [HL.out, match_all HVd.out HOk.out] at TM
   dsimp only [List.length_nil] at TM
   have HTM := Lib.hid TM
   clear TM HMt1
   have X3 := HX3r.out
   try clear X3l
   try clear X3a
   try clear X3b
   try clear X3c
   try clear X3d
   try clear X3e
   try clear X3f
   obtain ⟨X3l, X3a, X3b, X3c, X3d, X3e, X3f, -, -, -, -, -, -⟩ := X3.facts6
   go_wp2_with fail
   refine HTM.out.mono ?_
   rintro e w13 ⟨A5, c5, rfl, hb13, -⟩
   have HB13 := Lib.hid (bT HBw.out hb13)
   clear hb13 X3 X3l X3a X3b X3c X3d X3e X3f
   go_wp2_with fail
   refine (HAw.out _ HB13.out).mono ?_
   rintro e w14 ⟨rfl, hb14⟩
   have HB14 := Lib.hid (bT HB13.out hb14)
   clear hb14
   go_wp2_with fail
   go_ret
   exact ⟨rfl, HB14.out⟩
end Go.Proofs.YtfdbidagdjnipaaGreatDoor
