/- mapsheetslaw41.ClipTurns: true. -/
import Derived.Deep.CutBlock
import Derived.Test.YtfondidmklmonaaGreatLawCp
import Derived.Test.YtfondidmklmonaaGreatJ21
import Derived.Test.YtfondidmklmonaaGreatJ23
set_option linter.unusedSimpArgs false
set_option linter.unusedVariables false
namespace Go.Proofs.YtfondidmklmonaaGreat
open Go.RowKit

theorem u8_bd41 {a : Int} (h : (Lit.int .u8 a).wf = true) : 0 ≤ a ∧ a ≤ 255 := by
 simp [Lit.wf, IntKind.min, IntKind.max, IntKind.signed, IntKind.bits] at h
 omega
theorem rem_fact41 (a : Int) (n : Nat) (ha : 0 ≤ a ∧ a ≤ 255) (hn : 0 < n) : ∃ i : Nat, i < n ∧ IntKind.i64.wrap a = a ∧ a.tmod (n : Int) = (i : Int) := by
 obtain ⟨m, rfl⟩ : ∃ m : Nat, a = m := ⟨a.toNat, by omega⟩
 exact ⟨m % n, Nat.mod_lt _ hn, IntWalk.i64_in _ (by omega), by rw [Int.tmod_eq_emod_of_nonneg (by omega)]; rfl⟩
theorem PrtO.put3 {w : World} {B g : Nat} {x : Prt} {vp vn : Value} {cs : Array Value} (h : PrtO w B x vp vn) (hg : Blk w g 35 cs) (u0 u1 u2 : Value) : PrtO (((w.setCell ⟨g, 0, none⟩ u0).setCell ⟨g, 1, none⟩ u1).setCell ⟨g, 2, none⟩ u2) B x vp vn :=
 ((h.far hg (by decide) (by decide) (by decide) 0 u0).far (hg.set_ 0 u0) (by decide) (by decide) (by decide) 1 u1).far ((hg.set_ 0 u0).set_ 1 u1) (by decide) (by decide) (by decide) 2 u2
set_option maxRecDepth 100000 in
set_option maxHeartbeats 32000000 in
theorem ClipTurns_spec (v : Value) (p : Pl) (s : Se) (a b : Int) (w : World) (h : PlV w v p) (hua : (Lit.int .u8 a).wf = true) (hub : (Lit.int .u8 b).wf = true) :
  Calls Tryz.prog 9 #[v, seV s, .agg #[.int .u8 a, .int .u8 b]] w fun e w' => e = .returned (.bool true) ∧ Below w.heap.size w w' := by
 have hab := u8_bd41 hua
 have hbb := u8_bd41 hub
 clear hua hub
 have HFew := Lib.hid (fun W (hW : Below w.heap.size w W) => Few_spec v p 100 W (h.mono hW) (by omega))
 have HAw := Lib.hid awake41_spec
 have HP1 := Lib.hid (fun (hs : SmP p) (n : Int) W (hW : Below w.heap.size w W) => (Part_spec v p s n W (h.mono hW) hs).mono (fun _ _ h => h.rd))
 have HRv := Lib.hid (fun (hs : SmP p) (i : Nat) (hi : i < p.arcs.length) W (hW : Below w.heap.size w W) => Reversed_spec v p i W (h.mono hW) hi hs.arcs hs.via)
 have HPq := Lib.hid (fun (hs : SmP p) (i : Nat) (hi : i < p.arcs.length) (n : Int) v' W (hv : PlV W v' (revP p i hi)) => Part_spec v' (revP p i hi) s n W hv ⟨by rw [revP_len]; exact hs.arcs, hs.nodes, revP_via hs.via⟩)
 have HP := Lib.hid h
 obtain ⟨vn, _, vf, al, rfl, hpa, -, ⟨⟨Aa, ca, rfl, ha1, ha2, hRa⟩, -⟩, -⟩ := h
 have Hpa := Lib.hid hpa
 have HRa := Lib.hid hRa
 have hpl : p.arcs.length = al.length := by rw [hpa, List.length_map]
 unfold maxLen at ha2
 obtain ⟨la, hla⟩ : ∃ la, al.length = la := ⟨_, rfl⟩
 rw [hla] at ha1 HP HP1 HFew HRv hpl ⊢
 have HLa := Lib.hid hla
 have Hpl := Lib.hid hpl
 unfold seV at HP1 HPq ⊢
 obtain ⟨f1, hf1⟩ : ∃ z, fewS p 100 = z := ⟨_, rfl⟩
 rw [hf1] at HFew
 have HFw := Lib.hid hf1
 clear hf1 hRa hpa hpl hla
 obtain ⟨s0, hs0⟩ : ∃ s0, w.heap.size = s0 := ⟨_, rfl⟩
 obtain ⟨g4, h4⟩ : ∃ g, s0 + 1 = g := ⟨_, rfl⟩
 obtain ⟨g5, h5⟩ : ∃ g, g4 + 1 = g := ⟨_, rfl⟩
 obtain ⟨W, hW⟩ : ∃ W : World, W = ((w.alloc (.cells #[vn, .slice Aa la ca, vf] 26)).alloc (.cells #[.int .i64 s.at_.x, .int .i64 s.at_.y, .int .i64 s.width, .int .i64 s.height, .int .i64 s.cols, .int .i64 s.rows] 30)).alloc (.cells #[.int .u8 a, .int .u8 b] 66) := ⟨_, rfl⟩
 have HB0 := Lib.hid (show Below w.heap.size w W by rw [hW]; exact bA (bA (bA (bR w) _) _) _)
 have X3 : Blk W s0 26 #[vn, .slice Aa la ca, vf] := by rw [hW]; exact ((Blk.made hs0.symm _ _).alloc _).alloc _
 have X4 : Blk W g4 30 #[.int .i64 s.at_.x, .int .i64 s.at_.y, .int .i64 s.width, .int .i64 s.height, .int .i64 s.cols, .int .i64 s.rows] := by rw [hW]; exact (Blk.made (by simp; omega) _ _).alloc _
 have X5 : Blk W g5 66 #[.int .u8 a, .int .u8 b] := by rw [hW]; exact Blk.made (by simp; omega) _ _
 go_enter Tryz.func9, Tryz.ntmps9
 go_upto_region 1 with fail
 try rw [← hW]
 clear hW hs0 h4 h5
 obtain ⟨X3l, X3a, X3b, X3c, -, -, -⟩ := X3.facts3
 go_wp2_with fail
 refine (HFew.out _ HB0.out).mono ?_
 rintro e w1 ⟨rfl, hb1⟩
 have HB1 := Lib.hid (bT HB0.out hb1)
 replace X3 := X3.keep hb1
 replace X4 := X4.keep hb1
 replace X5 := X5.keep hb1
 clear hb1
 cases f1
 ·
  go_wp2_with fail
  refine (HAw.out _).mono ?_
  rintro e w2 ⟨rfl, hb2⟩
  go_wp2_with fail
  go_ret
  exact ⟨rfl, bT HB1.out hb2⟩
 have hsm := few_smP HFw.out (by omega)
 have hla2 : la ≤ 100 := by have := (few_short HFw.out).2.1; have := Hpl.out; omega
 have HSm := Lib.hid hsm
 have HVia := Lib.hid (via_le (few_short HFw.out).2.2.2)
 replace HP1 := Lib.hid (HP1.out hsm)
 replace HRv := Lib.hid (HRv.out hsm)
 replace HPq := Lib.hid (HPq.out hsm)
 clear hsm
 try clear X3l
 try clear X3a
 try clear X3b
 try clear X3c
 obtain ⟨X3l, X3a, X3b, X3c, -, -, -⟩ := X3.facts3
 by_cases hz : la = 0
 ·
  have hz' : ((la : Int) == 0) = true := beq_iff_eq.2 (by omega)
  clear hz
  go_wp2_with fail
  refine (HAw.out _).mono ?_
  rintro e w2 ⟨rfl, hb2⟩
  go_wp2_with fail
  go_ret
  exact ⟨rfl, bT HB1.out hb2⟩
 have hz' : ((la : Int) == 0) = false := beq_eq_false_iff_ne.2 (by omega)
 obtain ⟨i, hi0, hwra, hmoda⟩ := rem_fact41 a la hab (by omega)
 obtain ⟨j, hj0, hwrb, hmodb⟩ := rem_fact41 b 20 hbb (by omega)
 have hi : i < p.arcs.length := by rw [Hpl.out]; exact hi0
 obtain ⟨n, hn⟩ : ∃ n : Int, (j : Int) + 1 = n := ⟨_, rfl⟩
 have Hn := Lib.hid hn
 have hwn : IntKind.i64.wrap ((j : Int) + 1) = n := by rw [IntWalk.i64_in _ (by omega)]; exact hn
 have Hwra := Lib.hid hwra; have Hmoda := Lib.hid hmoda; have Hwrb := Lib.hid hwrb; have Hmodb := Lib.hid hmodb; have Hwn := Lib.hid hwn
 clear hwra hmoda hwrb hmodb hn hwn
 have HX3 := Lib.hid X3; have HX4 := Lib.hid X4
 replace HP1 := Lib.hid (HP1.out n)
 replace HRv := Lib.hid (HRv.out i hi)
 replace HPq := Lib.hid (HPq.out i hi n)
 have HRz := Lib.hid (partRes_rev p i hi s n)
 have HOk1 := Lib.hid (fun (x : Prt) => partRes_ok (p := p) (s := s) (n := n) (x := x))
 have HOk2 := Lib.hid (fun (x : Prt) => partRes_ok (p := revP p i hi) (s := s) (n := n) (x := x))
 obtain ⟨r, hr⟩ : ∃ r, partRes p s n = r := ⟨_, rfl⟩
 obtain ⟨r2, hr2⟩ : ∃ r, partRes (revP p i hi) s n = r := ⟨_, rfl⟩
 rw [hr] at HP1
 rw [hr2] at HPq
 rw [hr, hr2] at HRz
 obtain ⟨x, z⟩ := r
 obtain ⟨x2, z2⟩ := r2
 dsimp only at HP1 HPq HRz
 have hzz := HRz.out
 subst hzz
 replace HOk1 := Lib.hid (fun (e : z2 = 0) => HOk1.out x (by rw [hr, e]))
 replace HOk2 := Lib.hid (fun (e : z2 = 0) => HOk2.out x2 (by rw [hr2, e]))
 clear hr hr2 HRz
 go_upto_region 3 with fail
 have hwra := Hwra.out; have hmoda := Hmoda.out; have hwrb := Hwrb.out; have hmodb := Hmodb.out; have hwn := Hwn.out
 have hmodb' : b.tmod 20 = (j : Int) := hmodb
 clear hmodb
 try clear X3l
 try clear X3a
 try clear X3b
 try clear X3c
 obtain ⟨X3l, X3a, X3b, X3c, -, -, -⟩ := X3.facts3
 obtain ⟨X5l, X5a, X5b, -, -⟩ := X5.facts2
 refine rg_start (Since w1) (.run 14 0 0 (.done)) (by kernel_rfl) (bD (bR _)) (by kernel_rfl) (by kernel_rfl) (Nat.le_of_ble_eq_true (by kernel_rfl)) ?_
 intro opsR QR Hops HQrg hS
 iterate 14
  apply rg_p; exact Hops; exact rfl; exact hS; exact rfl
  · intro _ hqc; go_simp; try rfl
  try simp only [pu]
 refine rg_done ?_
 refine HQrg.down _ _ ?_
 have hB : Below w1.heap.size w1 w1.drew := hS
 clear hS HQrg Hops
 obtain ⟨wD, hwD⟩ : ∃ wD : World, wD = w1.drew := ⟨_, rfl⟩
 rw [← hwD] at hB ⊢
 have HBD := Lib.hid (bT HB1.out hB)
 have HX3D := Lib.hid (HX3.out.keep hB); have HX4D := Lib.hid (HX4.out.keep hB)
 clear hwD hB hwra hmoda hwrb hmodb' hwn X3 X3l X3a X3b X3c X4 X5 X5l X5a X5b HX3 HX4 hz hz'
 have X3 := HX3D.out; have X4 := HX4D.out
 try clear X3l
 try clear X3a
 try clear X3b
 try clear X3c
 obtain ⟨X3l, X3a, X3b, X3c, -, -, -⟩ := X3.facts3
 obtain ⟨X4l, X4a, X4b, X4c, X4d, X4e, X4f, -, -, -, -, -, -⟩ := X4.facts6
 go_wp2_with fail
 refine (HP1.out _ HBD.out).mono ?_
 rintro e w2 ⟨A, m, c, A', m', c', rfl, hb2, hx1⟩
 have HB2 := Lib.hid (bT HBD.out hb2)
 have HX32 := Lib.hid (HX3D.out.keep hb2); have HX42 := Lib.hid (HX4D.out.keep hb2)
 have HV1 := Lib.hid hx1
 clear hb2 hx1 X3 X3l X3a X3b X3c X4 X4l X4a X4b X4c X4d X4e X4f
 go_upto_region 5 with fail
 obtain ⟨g9, h9⟩ : ∃ g, w2.heap.size = g := ⟨_, rfl⟩
 obtain ⟨W3, hW3⟩ : ∃ W : World, W = w2.alloc (.cells #[.int .i64 x.sheet, .slice A m c, .slice A' m' c'] 35) := ⟨_, rfl⟩
 have X9 : Blk W3 g9 35 #[.int .i64 x.sheet, .slice A m c, .slice A' m' c'] := by rw [hW3]; exact Blk.made h9.symm _ _
 have hA3 : Below w2.heap.size w2 W3 := by rw [hW3]; exact bA (bR w2) _
 have HB3 := Lib.hid (bT HB2.out hA3)
 have HX93 := Lib.hid X9; have HV13 := Lib.hid (HV1.out.mono hA3)
 have HX33 := Lib.hid (HX32.out.keep hA3); have HX43 := Lib.hid (HX42.out.keep hA3)
 rw [← hW3]
 try rw [h9]
 clear hW3 h9 hA3 X9 HV1 HX32 HX42
 have X3 := HX33.out; have X4 := HX43.out
 try clear X3l
 try clear X3a
 try clear X3b
 try clear X3c
 obtain ⟨X3l, X3a, X3b, X3c, -, -, -⟩ := X3.facts3
 try clear X4l
 try clear X4a
 try clear X4b
 try clear X4c
 try clear X4d
 try clear X4e
 try clear X4f
 obtain ⟨X4l, X4a, X4b, X4c, X4d, X4e, X4f, -, -, -, -, -, -⟩ := X4.facts6
 go_cut [11, 12] (fun u e wx => ∃ g11 B k d B' k' d', u = .pointer (some ⟨g11, 0, none⟩) ∧ Blk wx g11 35 #[.int .i64 x2.sheet, .slice B k d, .slice B' k' d'] ∧ e = .int .i64 z2 ∧ PrtV wx (.agg #[.int .i64 x2.sheet, .slice B k d, .slice B' k' d']) x2 ∧ Below W3.heap.size W3 wx)
 case first =>
  refine rg_start (SinceB (W3.heap.size) W3) (.take 0 1 (.take 1 3 (.take 3 11 (.take 4 27 (.two 2 31 (.two 5 63 (.run 3 6 63 (.call 9 1023 (.call 10 2047 (.take 11 4095 (.done))))) 9 543 (.call 5 575 (.run 3 6 575 (.call 10 2047 (.take 11 4095 (.done)))))) 9 539 (.call 2 543 (.call 5 575 (.run 3 6 575 (.call 10 2047 (.take 11 4095 (.done))))))))))) (by kernel_rfl) (Below.drew (Below.refl _ _)) (by kernel_rfl) (by kernel_rfl) (Nat.le_of_ble_eq_true (by kernel_rfl)) ?_
  intro opsR QR Hops HQrg hS
  iterate 4
   apply rg_pB; exact Hops; exact rfl; exact hS; exact rfl
   · intro _ hqc; go_simp; try rfl
   try simp only [pu]
  refine rg_two (i := 2) (j := 9) (get_of Hops rfl) (get_of Hops rfl) (fun K hK => ?_) (fun K hK => ?_)
  -- operation 2 first
  ·
   have HSrg := Lib.hid hS; clear hS
   refine rg_run (wanted_plain rfl) ?_
   go_simp
   refine (HRv.out _ (bT HB3.out HSrg.out)).mono ?_
   rintro e wr1 ⟨v2, rfl, hbr1, hv2⟩
   have hS : SinceB (W3.heap.size) W3 wr1 := bT (w := W3) HSrg.out hbr1
   clear HSrg
   try replace XQ := XQ.keep hbr1
   refine hK.out _ _ hS (fun _ => ?_)
   clear hK K
   try simp only [pu]
   refine rg_two (i := 5) (j := 9) (get_of Hops rfl) (get_of Hops rfl) (fun K hK => ?_) (fun K hK => ?_)
   -- operation 5 first
   ·
    have HSrg := Lib.hid hS; clear hS
    refine rg_run (wanted_plain rfl) ?_
    go_simp
    refine (HPq.out _ _ (hv2.mono (by first | exact bR _ | exact bA (bR _) _))).mono ?_
    rintro e wr2 ⟨B, k, d, B', k', d', rfl, hbr2, hx2⟩
    have hS : SinceB (W3.heap.size) W3 wr2 := bT (w := W3) HSrg.out hbr2
    clear HSrg
    try replace XQ := XQ.keep hbr2
    refine hK.out _ _ hS (fun _ => ?_)
    clear hK K
    try simp only [pu]
    iterate 3
     apply rg_pB; exact Hops; exact rfl; exact hS; exact rfl
     · intro _ hqc; go_simp; try rfl
     try simp only [pu]
    refine rg_call (i := 9) (get_of Hops rfl) (fun K hK => ?_)
    have HSrg := Lib.hid hS; clear hS
    refine rg_run (wanted_plain rfl) ?_
    go_simp
    have XQy : Below (W3.heap.size) W3 (wr2) := HSrg.out
    have XQz : W3.heap.size ≤ (wr2).heap.size := Nat.le_trans (by omega) (show Below (W3.heap.size) W3 (wr2) from HSrg.out).size
    refine hK.out _ _ (bAB (by omega) HSrg.out _) (fun hS => ?_)
    clear hK K HSrg
    try replace XQ := XQ.alloc (.cells #[.int .i64 0, .slice none 0 0, .slice none 0 0] 35)
    have XQ := Blk.new (wr2) 35 #[.int .i64 0, .slice none 0 0, .slice none 0 0]
    try simp only [World.size_drew] at XQ XQz
    try simp only [pu]
    refine rg_call (i := 10) (get_of Hops rfl) (fun K hK => ?_)
    have HSrg := Lib.hid hS; clear hS
    refine rg_run (wanted_plain rfl) ?_
    obtain ⟨XQl, XQa, XQb, XQc, XQd, XQe, XQf⟩ := XQ.facts3
    go_simp
    refine hK.out _ _ (by unfold SinceB; have h : Below _ _ _ := HSrg.out; repeat (first | with_reducible assumption | with_reducible exact Below.refl _ _ | with_reducible refine bSB ?_ (by first | omega | (simp; omega)) _ | with_reducible refine Below.drew ?_ | with_reducible refine bAB (by omega) ?_ _ | exact h)) ?_
    intro hS
    clear hK K HSrg
    try simp only [pu]
    apply rg_pB; exact Hops; exact rfl; exact hS; exact rfl
    · intro _ hqc; go_simp; try rfl
    try simp only [pu]
    refine rg_done ?_
    refine HQrg.down _ _ ?_
    have hB : Below (W3.heap.size) W3 _ := hS
    clear hS HQrg Hops
    go_wp2_with fail
    go_meet
    case rel => exact ⟨_, _, _, _, _, _, _, rfl, (by first | with_reducible exact Blk.put3 XQ | with_reducible exact Blk.made rfl _ _ | with_reducible exact Blk.drew (Blk.made rfl _ _)), rfl, (by first | exact PrtO.read (PrtO.put3 hx2 XQ _ _ _) | exact PrtO.read (hx2.keep (bA (bR _) _))), hB⟩
   -- operation 9 first
   ·
    have HSrg := Lib.hid hS; clear hS
    refine rg_run (wanted_plain rfl) ?_
    go_simp
    have XQy : Below (W3.heap.size) W3 (wr1) := HSrg.out
    have XQz : W3.heap.size ≤ (wr1).heap.size := Nat.le_trans (by omega) (show Below (W3.heap.size) W3 (wr1) from HSrg.out).size
    refine hK.out _ _ (bAB (by omega) HSrg.out _) (fun hS => ?_)
    clear hK K HSrg
    try replace XQ := XQ.alloc (.cells #[.int .i64 0, .slice none 0 0, .slice none 0 0] 35)
    have XQ := Blk.new (wr1) 35 #[.int .i64 0, .slice none 0 0, .slice none 0 0]
    try simp only [World.size_drew] at XQ XQz
    try simp only [pu]
    refine rg_call (i := 5) (get_of Hops rfl) (fun K hK => ?_)
    have HSrg := Lib.hid hS; clear hS
    refine rg_run (wanted_plain rfl) ?_
    go_simp
    refine (HPq.out _ _ (hv2.mono (by first | exact bR _ | exact bA (bR _) _))).mono ?_
    rintro e wr2 ⟨B, k, d, B', k', d', rfl, hbr2, hx2⟩
    have hS : SinceB (W3.heap.size) W3 wr2 := bT (w := W3) HSrg.out hbr2
    clear HSrg
    try replace XQ := XQ.keep hbr2
    refine hK.out _ _ hS (fun _ => ?_)
    clear hK K
    try simp only [pu]
    iterate 3
     apply rg_pB; exact Hops; exact rfl; exact hS; exact rfl
     · intro _ hqc; go_simp; try rfl
     try simp only [pu]
    refine rg_call (i := 10) (get_of Hops rfl) (fun K hK => ?_)
    have HSrg := Lib.hid hS; clear hS
    refine rg_run (wanted_plain rfl) ?_
    obtain ⟨XQl, XQa, XQb, XQc, XQd, XQe, XQf⟩ := XQ.facts3
    go_simp
    refine hK.out _ _ (by unfold SinceB; have h : Below _ _ _ := HSrg.out; repeat (first | with_reducible assumption | with_reducible exact Below.refl _ _ | with_reducible refine bSB ?_ (by first | omega | (simp; omega)) _ | with_reducible refine Below.drew ?_ | with_reducible refine bAB (by omega) ?_ _ | exact h)) ?_
    intro hS
    clear hK K HSrg
    try simp only [pu]
    apply rg_pB; exact Hops; exact rfl; exact hS; exact rfl
    · intro _ hqc; go_simp; try rfl
    try simp only [pu]
    refine rg_done ?_
    refine HQrg.down _ _ ?_
    have hB : Below (W3.heap.size) W3 _ := hS
    clear hS HQrg Hops
    go_wp2_with fail
    go_meet
    case rel => exact ⟨_, _, _, _, _, _, _, rfl, (by first | with_reducible exact Blk.put3 XQ | with_reducible exact Blk.made rfl _ _ | with_reducible exact Blk.drew (Blk.made rfl _ _)), rfl, (by first | exact PrtO.read (PrtO.put3 hx2 XQ _ _ _) | exact PrtO.read (hx2.keep (bA (bR _) _))), hB⟩
  -- operation 9 first
  ·
   have HSrg := Lib.hid hS; clear hS
   refine rg_run (wanted_plain rfl) ?_
   go_simp
   have XQy : Below (W3.heap.size) W3 (W3.drew) := HSrg.out
   have XQz : W3.heap.size ≤ (W3.drew).heap.size := Nat.le_trans (by omega) (show Below (W3.heap.size) W3 (W3.drew) from HSrg.out).size
   refine hK.out _ _ (bAB (by omega) HSrg.out _) (fun hS => ?_)
   clear hK K HSrg
   try replace XQ := XQ.alloc (.cells #[.int .i64 0, .slice none 0 0, .slice none 0 0] 35)
   have XQ := Blk.new (W3.drew) 35 #[.int .i64 0, .slice none 0 0, .slice none 0 0]
   try simp only [World.size_drew] at XQ XQz
   try simp only [pu]
   refine rg_call (i := 2) (get_of Hops rfl) (fun K hK => ?_)
   have HSrg := Lib.hid hS; clear hS
   refine rg_run (wanted_plain rfl) ?_
   go_simp
   refine (HRv.out _ (bT HB3.out HSrg.out)).mono ?_
   rintro e wr1 ⟨v2, rfl, hbr1, hv2⟩
   have hS : SinceB (W3.heap.size) W3 wr1 := bT (w := W3) HSrg.out hbr1
   clear HSrg
   try replace XQ := XQ.keep hbr1
   refine hK.out _ _ hS (fun _ => ?_)
   clear hK K
   try simp only [pu]
   refine rg_call (i := 5) (get_of Hops rfl) (fun K hK => ?_)
   have HSrg := Lib.hid hS; clear hS
   refine rg_run (wanted_plain rfl) ?_
   go_simp
   refine (HPq.out _ _ (hv2.mono (by first | exact bR _ | exact bA (bR _) _))).mono ?_
   rintro e wr2 ⟨B, k, d, B', k', d', rfl, hbr2, hx2⟩
   have hS : SinceB (W3.heap.size) W3 wr2 := bT (w := W3) HSrg.out hbr2
   clear HSrg
   try replace XQ := XQ.keep hbr2
   refine hK.out _ _ hS (fun _ => ?_)
   clear hK K
   try simp only [pu]
   iterate 3
    apply rg_pB; exact Hops; exact rfl; exact hS; exact rfl
    · intro _ hqc; go_simp; try rfl
    try simp only [pu]
   refine rg_call (i := 10) (get_of Hops rfl) (fun K hK => ?_)
   have HSrg := Lib.hid hS; clear hS
   refine rg_run (wanted_plain rfl) ?_
   obtain ⟨XQl, XQa, XQb, XQc, XQd, XQe, XQf⟩ := XQ.facts3
   go_simp
   refine hK.out _ _ (by unfold SinceB; have h : Below _ _ _ := HSrg.out; repeat (first | with_reducible assumption | with_reducible exact Below.refl _ _ | with_reducible refine bSB ?_ (by first | omega | (simp; omega)) _ | with_reducible refine Below.drew ?_ | with_reducible refine bAB (by omega) ?_ _ | exact h)) ?_
   intro hS
   clear hK K HSrg
   try simp only [pu]
   apply rg_pB; exact Hops; exact rfl; exact hS; exact rfl
   · intro _ hqc; go_simp; try rfl
   try simp only [pu]
   refine rg_done ?_
   refine HQrg.down _ _ ?_
   have hB : Below (W3.heap.size) W3 _ := hS
   clear hS HQrg Hops
   go_wp2_with fail
   go_meet
   case rel => exact ⟨_, _, _, _, _, _, _, rfl, (by first | with_reducible exact Blk.put3 XQ | with_reducible exact Blk.made rfl _ _ | with_reducible exact Blk.drew (Blk.made rfl _ _)), rfl, (by first | exact PrtO.read (PrtO.put3 hx2 XQ _ _ _) | exact PrtO.read (hx2.keep (bA (bR _) _))), hB⟩
 case rest =>
 obtain ⟨g11, B, k0, d, B', k', d', rfl, x11, rfl, hv2, hbc⟩ := hcut
 obtain ⟨wq, hwq⟩ : ∃ wq : World, wq = wc := ⟨_, rfl⟩
 rw [← hwq] at x11 hv2 hbc ⊢
 have HBq := Lib.hid (bT HB3.out hbc)
 have HX3q := Lib.hid (HX33.out.keep hbc); have HX9q := Lib.hid (HX93.out.keep hbc); have HX11q := Lib.hid x11
 have HV1q := Lib.hid (HV13.out.mono hbc); have HV2q := Lib.hid hv2
 clear hwq hbc hv2 x11 X3 X3l X3a X3b X3c X4 X4l X4a X4b X4c X4d X4e X4f HX33 HX43 HX93 HV13 HB3
 by_cases hz : z2 = 0
 case neg =>
  have hne : (z2 != 0) = true := by simpa using hz
  clear hz
  go_wp2_with fail
  refine (HAw.out _).mono ?_
  rintro e w6 ⟨rfl, hb6⟩
  have HB6 := Lib.hid (bT HBq.out hb6)
  clear hb6
  go_wp2_with fail
  go_ret
  exact ⟨rfl, HB6.out⟩
 subst hz
 obtain ⟨hVd, hIn, -, hxs⟩ := HOk1.out rfl
 obtain ⟨-, -, -, hxs2⟩ := HOk2.out rfl
 have hlt := hIn.smB.2
 have HCmp := Lib.hid (show ∀ k (hk : k < p.arcs.length), x2.pieces.filter (fun y => decide (y.arc = p.arcs[k].id)) = if k = i then turnedS (x.pieces.filter (fun y => decide (y.arc = p.arcs[k].id))) else x.pieces.filter (fun y => decide (y.arc = p.arcs[k].id)) from fun k hk => by rw [hxs, hxs2]; exact rev_pieces hVd hlt.1 hlt.2 n hk)
 have hln1 : x.pieces.length ≤ 1000000 := by
  have h1 := part_len HVia.out n (boxOf s n)
  rw [← hxs, Hpl.out] at h1
  omega
 have hln2 : x2.pieces.length ≤ 1000000 := by
  have h1 := part_len (p := revP p i hi) (revP_via HVia.out) n (boxOf s n)
  rw [← hxs2, revP_len, Hpl.out] at h1
  omega
 have HPth := Lib.hid (show ∀ y ∈ x2.pieces, y.path.length ≤ 1000000 from fun y hy => by
  rw [hxs2] at hy
  obtain ⟨a, ha, hy⟩ := List.mem_flatMap.1 hy
  have h1 := pieces_pl _ _ _ y hy
  have h2 := revP_via HVia.out a ha
  rw [pathS_length] at h1
  omega)
 obtain ⟨vp, vm, pl, he, hpl, hPc, -⟩ := HV1q.out
 obtain ⟨f1, f2⟩ : Value.slice A m c = vp ∧ Value.slice A' m' c' = vm := by simpa using he
 subst f1
 clear he f2
 obtain ⟨vp, vm, pl2, he, hpl2, hPc2, -⟩ := HV2q.out
 obtain ⟨f1, f2⟩ : Value.slice B k0 d = vp ∧ Value.slice B' k' d' = vm := by simpa using he
 subst f1
 clear he f2
 have HO1 := Lib.hid (fun (id : Int) W (hW : Below wq.heap.size wq W) => (by
  have h := of41_spec _ pl id W (hPc.mono hW) (by rw [hpl, List.length_map] at hln1; exact hln1)
  rw [← hpl] at h
  exact h : Calls Tryz.prog 30 #[.slice A m c, .int .i64 id] W (RetPcF W (x.pieces.filter (fun y => decide (y.arc = id))))))
 have HO2 := Lib.hid (fun (id : Int) W (hW : Below wq.heap.size wq W) => (by
  have h := of41_spec _ pl2 id W (hPc2.mono hW) (by rw [hpl2, List.length_map] at hln2; exact hln2)
  rw [← hpl2] at h
  exact h : Calls Tryz.prog 30 #[.slice B k0 d, .int .i64 id] W (RetPcF W (x2.pieces.filter (fun y => decide (y.arc = id))))))
 have HLn2 := Lib.hid hln2
 clear hVd hIn hxs hxs2 hlt hln1 hln2 hpl hPc hpl2 hPc2 HV1q HV2q HOk1 HOk2
 go_wp2_with fail
 go_loopw [13] (fun u wr => ∃ k : Nat, k ≤ la ∧ u = .int .i64 k ∧ Below wq.heap.size wq wr) (fun u _ => la - (intOf u).toNat)
 case atStart => exact ⟨0, Nat.zero_le _, rfl, bR wq⟩
 case round =>
  obtain ⟨k, hk, rfl, hb⟩ := hrel
  have Hb := Lib.hid hb
  have X3 := HX3q.out.keep hb
  have HBw := Lib.hid (bT HBq.out hb)
  by_cases hkl : k < la
  case neg =>
   have r2 : ¬ (k : Int) < la := by omega
   clear hb
   try clear X3l
   try clear X3a
   try clear X3b
   try clear X3c
   obtain ⟨X3l, X3a, X3b, X3c, -, -, -⟩ := X3.facts3
   go_wp2_with fail
   refine (HAw.out _).mono ?_
   rintro e w6 ⟨rfl, hb6⟩
   have HB6 := Lib.hid (bT HBw.out hb6)
   clear hb6
   go_wp2_with fail
   go_ret
   exact ⟨rfl, HB6.out⟩
  have X9 := HX9q.out.keep hb
  have X11 := HX11q.out.keep hb
  have hka : k < al.length := by rw [HLa.out]; exact hkl
  have hkp : k < p.arcs.length := by rw [Hpl.out]; exact hkl
  obtain ⟨bz, oz, rfl, hlz, c0, -⟩ := (HRa.out.mono HBw.out).ar hka
  have hai : p.arcs[k] = al[k].1 := by simp only [Hpa.out, List.getElem_map]
  have HCk := Lib.hid (HCmp.out k hkp)
  rw [← hai] at c0
  obtain ⟨id, hid⟩ : ∃ d, p.arcs[k].id = d := ⟨_, rfl⟩
  rw [hid] at c0 HCk
  have H1 := Lib.hid (HO1.out id)
  have H2 := Lib.hid (HO2.out id)
  have HPt := Lib.hid (fun y (hy : y ∈ x2.pieces.filter (fun y => decide (y.arc = id))) => HPth.out y ((List.mem_filter.1 hy).1))
  have HLn := Lib.hid (Nat.le_trans (List.length_filter_le (fun y => decide (y.arc = id)) x2.pieces) HLn2.out)
  obtain ⟨F1, hF1⟩ : ∃ F, x.pieces.filter (fun y => decide (y.arc = id)) = F := ⟨_, rfl⟩
  obtain ⟨F2, hF2⟩ : ∃ F, x2.pieces.filter (fun y => decide (y.arc = id)) = F := ⟨_, rfl⟩
  rw [hF1] at HCk H1
  rw [hF2] at HCk H2 HPt HLn
  have r1 : 0 ≤ (k : Int) := by omega
  have r2 : (k : Int) < la := by omega
  clear hb hai hid hF1 hF2
  try clear X3l
  try clear X3a
  try clear X3b
  try clear X3c
  obtain ⟨X3l, X3a, X3b, X3c, -, -, -⟩ := X3.facts3
  obtain ⟨X9l, X9a, X9b, X9c, -, -, -⟩ := X9.facts3
  obtain ⟨X11l, X11a, X11b, X11c, -, -, -⟩ := X11.facts3
  go_upto_region 11 with fail
  refine rg_start (Since wr) (.run 8 0 0 (.run 8 9 255 (.call 8 131071 (.call 17 262143 (.take 18 524287 (.take 19 1048575 (.done))))))) (by kernel_rfl) (bD (bR _)) (by kernel_rfl) (by kernel_rfl) (Nat.le_of_ble_eq_true (by kernel_rfl)) ?_
  intro opsR QR Hops HQrg hS
  iterate 16
   apply rg_p; exact Hops; exact rfl; exact hS; exact rfl
   · intro _ hqc; go_simp; try rfl
   try simp only [pu]
  refine rg_call (i := 8) (get_of Hops rfl) (fun K hK => ?_)
  have HSrg := Lib.hid hS; clear hS
  refine rg_run (wanted_plain rfl) ?_
  go_simp
  refine (H1.out _ (bT Hb.out HSrg.out)).mono ?_
  rintro e wr1 ⟨A1, c1, L1, rfl, hbr1, hL1, hP1⟩
  have hS : Since wr wr1 := bT (w := wr) HSrg.out hbr1
  clear HSrg
  refine hK.out _ _ hS (fun _ => ?_)
  clear hK K
  try simp only [pu]
  refine rg_call (i := 17) (get_of Hops rfl) (fun K hK => ?_)
  have HSrg := Lib.hid hS; clear hS
  refine rg_run (wanted_plain rfl) ?_
  go_simp
  refine (H2.out _ (bT Hb.out HSrg.out)).mono ?_
  rintro e wr2 ⟨A2, c2, L2, rfl, hbr2, hL2, hP2⟩
  have hS : Since wr wr2 := bT (w := wr) HSrg.out hbr2
  clear HSrg
  refine hK.out _ _ hS (fun _ => ?_)
  clear hK K
  try simp only [pu]
  iterate 2
   apply rg_p; exact Hops; exact rfl; exact hS; exact rfl
   · intro _ hqc; go_simp; try rfl
   try simp only [pu]
  refine rg_done ?_
  refine HQrg.down _ _ ?_
  have hB : Below wr.heap.size wr wr2 := hS
  clear hS HQrg Hops
  obtain ⟨wZ, hwZ⟩ : ∃ wZ : World, wZ = wr2 := ⟨_, rfl⟩
  rw [← hwZ] at hB hP2 hbr2 ⊢
  have HP1z := Lib.hid (hP1.mono hbr2)
  have HP2z := Lib.hid hP2
  have HL1 := Lib.hid hL1; have HL2 := Lib.hid hL2
  have HbZ := Lib.hid (bT Hb.out hB)
  obtain ⟨n1, hn1⟩ : ∃ n, F1.length = n := ⟨_, rfl⟩
  obtain ⟨n2, hn2⟩ : ∃ n, F2.length = n := ⟨_, rfl⟩
  rw [hn1] at HP1z ⊢
  rw [hn2] at HP2z ⊢
  clear hwZ hB hP1 hP2 hL1 hL2 hbr1 hbr2 X3 X3l X3a X3b X3c X9 X9l X9a X9b X9c X11 X11l X11a X11b X11c c0 hlz hn1 hn2
  by_cases e : k = i
  ·
   have hki : ((k : Int) == (i : Int)) = true := beq_iff_eq.2 (by omega)
   have HE := Lib.hid e
   clear e
   go_wp2_with fail
   refine (turned41_spec _ L2 wZ HP2z.out (by have h := HLn.out; rw [← HL2.out, List.length_map] at h; exact h) (fun y hy => HPt.out y.1 (by rw [← HL2.out]; exact List.mem_map_of_mem hy))).mono ?_
   rintro e w5 ⟨A3, c3, L3, rfl, hb5, hL3, hP3⟩
   have HL3 := Lib.hid hL3
   have hT := SamePieces_spec _ _ L1 L3 w5 (HP1z.out.mono hb5) hP3
   rw [show decide (L1.map (·.1) = L3.map (·.1)) = true by rw [decide_eq_true_iff, HL3.out, HL1.out, HL2.out, HCk.out, if_pos HE.out, turned_turned]] at hT
   have HT := Lib.hid hT
   have Hb5 := Lib.hid (bT HbZ.out hb5)
   obtain ⟨n3, hn3⟩ : ∃ n, (turnedS (L2.map (·.1))).length = n := ⟨_, rfl⟩
   rw [hn3] at HT ⊢
   clear hb5 hP3 hT hL3 hn3
   go_wp2_with fail
   refine HT.out.mono ?_
   rintro e w6 ⟨rfl, hb6⟩
   have Hb6 := Lib.hid (bT Hb5.out hb6)
   clear hb6
   go_wp2_with fail
   go_roundw
   case rel => exact ⟨k + 1, by omega, by go_num, Hb6.out⟩
   case measure => simp [intOf]; omega
  ·
   have hki : ((k : Int) == (i : Int)) = false := beq_eq_false_iff_ne.2 (by omega)
   have hT := SamePieces_spec _ _ L1 L2 wZ HP1z.out HP2z.out
   rw [show decide (L1.map (·.1) = L2.map (·.1)) = true by rw [decide_eq_true_iff, HL1.out, HL2.out, HCk.out, if_neg e]] at hT
   have HT := Lib.hid hT
   clear hT e
   go_wp2_with fail
   refine HT.out.mono ?_
   rintro e w6 ⟨rfl, hb6⟩
   have Hb6 := Lib.hid (bT HbZ.out hb6)
   clear hb6
   go_wp2_with fail
   go_roundw
   case rel => exact ⟨k + 1, by omega, by go_num, Hb6.out⟩
   case measure => simp [intOf]; omega
end Go.Proofs.YtfondidmklmonaaGreat
