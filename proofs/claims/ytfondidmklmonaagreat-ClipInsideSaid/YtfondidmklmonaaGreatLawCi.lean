/- mapsheetslaw41.ClipInside: true. -/
import Derived.Test.YtfondidmklmonaaGreatLawCp
import Derived.Test.YtfondidmklmonaaGreatJ21
set_option linter.unusedSimpArgs false
set_option linter.unusedVariables false
namespace Go.Proofs.YtfondidmklmonaaGreat
open Go.RowKit

set_option maxRecDepth 100000 in
set_option maxHeartbeats 4000000 in
theorem on41_spec (b : Bx) (side : Int) (p : Pt) (w : World) (h : onSd b side p) : Calls Tryz.prog 24 #[.agg #[.int .i64 b.x0, .int .i64 b.y0, .int .i64 b.x1, .int .i64 b.y1], .int .i64 side, .agg #[.int .i64 p.x, .int .i64 p.y]] w fun e w' => e = .returned (.bool true) ∧ Below w.heap.size w w' := by
 rcases h with ⟨rfl, h⟩ | ⟨rfl, h⟩ | ⟨rfl, h⟩ | ⟨rfl, h⟩ | rfl
 ·
  have hb : (p.x == b.x0) = true := by simpa using h
  clear h
  go_enter Tryz.func24, Tryz.ntmps24
  go_wp2_with fail
  go_ret
  refine ⟨rfl, ?_⟩
  repeat (first | with_reducible exact bR _ | with_reducible assumption | with_reducible refine bA ?_ _ | with_reducible refine bD ?_ | with_reducible refine bN ?_ _ | ((with_reducible refine bS ?_ ?_ _); rotate_left; (simp; try omega)) | ((with_reducible refine bT ?_ ?_); rotate_left; with_reducible assumption) | with_reducible refine bT ?_ (by assumption))
 ·
  have hb : (p.y == b.y0) = true := by simpa using h
  clear h
  go_enter Tryz.func24, Tryz.ntmps24
  go_wp2_with fail
  go_ret
  refine ⟨rfl, ?_⟩
  repeat (first | with_reducible exact bR _ | with_reducible assumption | with_reducible refine bA ?_ _ | with_reducible refine bD ?_ | with_reducible refine bN ?_ _ | ((with_reducible refine bS ?_ ?_ _); rotate_left; (simp; try omega)) | ((with_reducible refine bT ?_ ?_); rotate_left; with_reducible assumption) | with_reducible refine bT ?_ (by assumption))
 ·
  have hb : (p.x == b.x1) = true := by simpa using h
  clear h
  go_enter Tryz.func24, Tryz.ntmps24
  go_wp2_with fail
  go_ret
  refine ⟨rfl, ?_⟩
  repeat (first | with_reducible exact bR _ | with_reducible assumption | with_reducible refine bA ?_ _ | with_reducible refine bD ?_ | with_reducible refine bN ?_ _ | ((with_reducible refine bS ?_ ?_ _); rotate_left; (simp; try omega)) | ((with_reducible refine bT ?_ ?_); rotate_left; with_reducible assumption) | with_reducible refine bT ?_ (by assumption))
 ·
  have hb : (p.y == b.y1) = true := by simpa using h
  clear h
  go_enter Tryz.func24, Tryz.ntmps24
  go_wp2_with fail
  go_ret
  refine ⟨rfl, ?_⟩
  repeat (first | with_reducible exact bR _ | with_reducible assumption | with_reducible refine bA ?_ _ | with_reducible refine bD ?_ | with_reducible refine bN ?_ _ | ((with_reducible refine bS ?_ ?_ _); rotate_left; (simp; try omega)) | ((with_reducible refine bT ?_ ?_); rotate_left; with_reducible assumption) | with_reducible refine bT ?_ (by assumption))
 ·
  go_enter Tryz.func24, Tryz.ntmps24
  go_wp2_with fail
  go_ret
  refine ⟨rfl, ?_⟩
  repeat (first | with_reducible exact bR _ | with_reducible assumption | with_reducible refine bA ?_ _ | with_reducible refine bD ?_ | with_reducible refine bN ?_ _ | ((with_reducible refine bS ?_ ?_ _); rotate_left; (simp; try omega)) | ((with_reducible refine bT ?_ ?_); rotate_left; with_reducible assumption) | with_reducible refine bT ?_ (by assumption))

set_option maxRecDepth 100000 in
set_option maxHeartbeats 16000000 in
theorem ClipInside_spec (v : Value) (p : Pl) (s : Se) (n : Int) (w : World) (h : PlV w v p) :
  Calls Tryz.prog 6 #[v, seV s, .int .i64 n] w fun e w' => e = .returned (.bool true) ∧ Below w.heap.size w w' := by
 have HFew := Lib.hid (fun W (hW : Below w.heap.size w W) => Few_spec v p 150 W (h.mono hW) (by omega))
 have HAw := Lib.hid awake41_spec
 have HP1 := Lib.hid (fun (hs : SmP p) W (hW : Below w.heap.size w W) => (Part_spec v p s n W (h.mono hW) hs).mono (fun _ _ h => h.rd))
 have HBx := Lib.hid (fun W => rBox_spec s n W)
 obtain ⟨r, hr⟩ : ∃ r, partRes p s n = r := ⟨_, rfl⟩
 rw [hr] at HP1
 obtain ⟨x, z⟩ := r
 dsimp only at HP1
 have HR := Lib.hid hr
 clear hr
 obtain ⟨vn, va, vf, al, rfl, -, ⟨An, cn, rfl, hn1, hn2, hRn⟩, -⟩ := h
 have HRn := Lib.hid hRn
 unfold maxLen at hn2
 obtain ⟨nn, hnn⟩ : ∃ nn, p.nodes.length = nn := ⟨_, rfl⟩
 rw [hnn] at hn1
 have HNn := Lib.hid hnn
 rw [hnn] at HP1 HFew ⊢
 unfold seV at HP1 HBx ⊢
 obtain ⟨f1, hf1⟩ : ∃ z, fewS p 150 = z := ⟨_, rfl⟩
 rw [hf1] at HFew
 have HFw := Lib.hid hf1
 clear hf1 hRn hnn
 obtain ⟨s0, hs0⟩ : ∃ s0, w.heap.size = s0 := ⟨_, rfl⟩
 obtain ⟨g4, h4⟩ : ∃ g, s0 + 1 = g := ⟨_, rfl⟩
 obtain ⟨W, hW⟩ : ∃ W : World, W = (w.alloc (.cells #[.slice An nn cn, va, vf] 26)).alloc (.cells #[.int .i64 s.at_.x, .int .i64 s.at_.y, .int .i64 s.width, .int .i64 s.height, .int .i64 s.cols, .int .i64 s.rows] 30) := ⟨_, rfl⟩
 have HB0 := Lib.hid (show Below w.heap.size w W by rw [hW]; exact bA (bA (bR w) _) _)
 have X3 : Blk W s0 26 #[.slice An nn cn, va, vf] := by rw [hW]; exact (Blk.made hs0.symm _ _).alloc _
 have X4 : Blk W g4 30 #[.int .i64 s.at_.x, .int .i64 s.at_.y, .int .i64 s.width, .int .i64 s.height, .int .i64 s.cols, .int .i64 s.rows] := by rw [hW]; exact Blk.made (by simp; omega) _ _
 go_enter Tryz.func6, Tryz.ntmps6
 go_upto_region 1 with fail
 try rw [← hW]
 clear hW hs0 h4
 obtain ⟨X3l, X3a, X3b, X3c, -, -, -⟩ := X3.facts3
 go_wp2_with fail
 refine (HFew.out _ HB0.out).mono ?_
 rintro e w1 ⟨rfl, hb1⟩
 have HB1 := Lib.hid (bT HB0.out hb1)
 replace X3 := X3.keep hb1
 replace X4 := X4.keep hb1
 clear hb1
 cases f1
 ·
  go_wp2_with fail
  refine (HAw.out _).mono ?_
  rintro e w2 ⟨rfl, hb2⟩
  go_wp2_with fail
  go_ret
  exact ⟨rfl, bT HB1.out hb2⟩
 have hsm := few_smP HFw.out (by omega)
 replace HP1 := Lib.hid (HP1.out hsm)
 have hnl : nn ≤ 1000 := by have := hsm.nodes; have := HNn.out; omega
 clear hsm
 try clear X3l
 try clear X3a
 try clear X3b
 try clear X3c
 have HX3 := Lib.hid X3; have HX4 := Lib.hid X4
 try clear X3l
 try clear X3a
 try clear X3b
 try clear X3c
 obtain ⟨X3l, X3a, X3b, X3c, -, -, -⟩ := X3.facts3
 obtain ⟨X4l, X4a, X4b, X4c, X4d, X4e, X4f, -, -, -, -, -, -⟩ := X4.facts6
 go_wp2_with fail
 refine (HP1.out _ HB1.out).mono ?_
 rintro e w2 ⟨A, m, c, A', m', c', rfl, hb2, hx1⟩
 have HB2 := Lib.hid (bT HB1.out hb2)
 have HX32 := Lib.hid (HX3.out.keep hb2); have HX42 := Lib.hid (HX4.out.keep hb2)
 have HV1 := Lib.hid hx1
 clear hb2 HB1 hx1 X3 X3l X3a X3b X3c X4 X4l X4a X4b X4c X4d X4e X4f HX3 HX4
 go_upto_region 4 with fail
 obtain ⟨g7, h7⟩ : ∃ g, w2.heap.size = g := ⟨_, rfl⟩
 obtain ⟨W3, hW3⟩ : ∃ W : World, W = w2.alloc (.cells #[.int .i64 x.sheet, .slice A m c, .slice A' m' c'] 35) := ⟨_, rfl⟩
 have X7 : Blk W3 g7 35 #[.int .i64 x.sheet, .slice A m c, .slice A' m' c'] := by rw [hW3]; exact Blk.made h7.symm _ _
 have hA3 : Below w2.heap.size w2 W3 := by rw [hW3]; exact bA (bR w2) _
 have HB3 := Lib.hid (bT HB2.out hA3)
 have HX73 := Lib.hid X7; have HV13 := Lib.hid (HV1.out.mono hA3)
 have HX33 := Lib.hid (HX32.out.keep hA3); have HX43 := Lib.hid (HX42.out.keep hA3)
 rw [← hW3]
 try rw [h7]
 clear hW3 h7 hA3 HV1 HB2 HX32 HX42
 obtain ⟨X7l, X7a, X7b, X7c, -, -, -⟩ := X7.facts3
 by_cases hz : z = 0
 case neg =>
  have HX0 := Lib.hid (partRes_bad HR.out hz)
  have hne : (z != 0) = true := by simpa using hz
  have HZV := Lib.hid (fun (W : World) => (PrtO.zero W 0).read)
  clear hz
  go_wp2_with fail
  have hT := rSame41_spec (.agg #[.int .i64 x.sheet, .slice A m c, .slice A' m' c']) (.agg #[.int .i64 0, .slice none 0 0, .slice none 0 0]) x x W3 HV13.out (by rw [HX0.out]; exact HZV.out W3)
  rw [decide_self_] at hT
  refine hT.mono ?_
  clear hT
  rintro e w5 ⟨rfl, hb5⟩
  have HB5 := Lib.hid (bT HB3.out hb5)
  clear hb5
  go_wp2_with fail
  refine (HAw.out _).mono ?_
  rintro e w6 ⟨rfl, hb6⟩
  go_wp2_with fail
  go_ret
  exact ⟨rfl, bT HB5.out hb6⟩
 subst hz
 obtain ⟨hVd, hIn, hFe, hxs⟩ := partRes_ok HR.out
 have hbr : boxRes s n = (boxOf s n, 0) := by unfold boxRes; rw [if_pos hFe]
 have hlt := hIn.smB.2
 obtain ⟨bx, hbx⟩ : ∃ bx, boxOf s n = bx := ⟨_, rfl⟩
 rw [hbx] at hbr hlt hxs
 rw [hbr] at HBx
 unfold boxV bxV at HBx
 obtain ⟨hg, ho⟩ := part_pieces hVd hlt.1 hlt.2 n
 have HG := Lib.hid (show ∀ y ∈ x.pieces, ∃ arc, GoodPc bx arc y by rw [hxs]; exact hg)
 have HO := Lib.hid (show x.pieces.Pairwise (fun y z => y.arc ≤ z.arc) by rw [hxs]; exact ho)
 have HNx := Lib.hid (show x.nodes = p.nodes.filter (fun t => inB bx t.pt) by rw [hxs]; rfl)
 have hsh : x.sheet = n := by rw [hxs]; rfl
 rw [hsh] at X7 X7a HX73 HV13 ⊢
 clear hVd hIn hFe hxs hbr hlt hbx hg ho hsh HR
 obtain ⟨vp, vm, pl, he, hpl, ⟨⟨Ap, cp, hv, hp1, hp2, hRp⟩, hVp⟩, ⟨Bn, dn, hvn, hm1, hm2, hRx⟩⟩ := HV13.out
 obtain ⟨-, f1, f2⟩ : n = x.sheet ∧ Value.slice A m c = vp ∧ Value.slice A' m' c' = vm := by simpa using he
 rw [hv] at f1
 rw [hvn] at f2
 injection f1 with k1 k2 k3
 injection f2 with k4 k5 k6
 subst k1 k2 k3 k4 k5 k6
 unfold maxLen at hp2 hm2
 have HPl := Lib.hid hpl
 have HRp := Lib.hid hRp; have HVp := Lib.hid hVp; have HRx := Lib.hid hRx
 obtain ⟨M, hM⟩ : ∃ M, pl.length = M := ⟨_, rfl⟩
 obtain ⟨Mx, hMx⟩ : ∃ M, x.nodes.length = M := ⟨_, rfl⟩
 have HM := Lib.hid hM; have HMx := Lib.hid hMx
 rw [hM] at hp1 X7 X7b HX73 HV13 ⊢
 rw [hMx] at hm1 X7 X7c HX73 HV13 ⊢
 clear he hv hvn hpl hRp hVp hRx hM hMx
 have X4 := HX43.out
 try clear X4l
 try clear X4a
 try clear X4b
 try clear X4c
 try clear X4d
 try clear X4e
 try clear X4f
 obtain ⟨X4l, X4a, X4b, X4c, X4d, X4e, X4f, -, -, -, -, -, -⟩ := X4.facts6
 go_wp2_with fail
 refine (HBx.out _).mono ?_
 rintro e w4 ⟨rfl, hb4⟩
 obtain ⟨g9, h9⟩ : ∃ g, w4.heap.size = g := ⟨_, rfl⟩
 obtain ⟨W5, hW5⟩ : ∃ W : World, W = w4.alloc (.cells #[.int .i64 bx.x0, .int .i64 bx.y0, .int .i64 bx.x1, .int .i64 bx.y1] 50) := ⟨_, rfl⟩
 have hA5 : Below W3.heap.size W3 W5 := by rw [hW5]; exact bA hb4 _
 have HX95 := Lib.hid (show Blk W5 g9 50 #[.int .i64 bx.x0, .int .i64 bx.y0, .int .i64 bx.x1, .int .i64 bx.y1] by rw [hW5]; exact Blk.made h9.symm _ _)
 have HB5 := Lib.hid (bT HB3.out hA5)
 have HX75 := Lib.hid (HX73.out.keep hA5); have HX35 := Lib.hid (HX33.out.keep hA5)
 have HRp5 := Lib.hid (HRp.out.mono hA5); have HRx5 := Lib.hid (HRx.out.mono hA5)
 have HVp5 := Lib.hid (fun k (hk : k < pl.length) => (HVp.out k hk).mono hA5)
 clear hb4 X4 X4l X4a X4b X4c X4d X4e X4f X7 X7l X7a X7b X7c hA5 HB3 HX73 HX33 HX43 HV13 HRp HRx HVp HBx
 go_upto_region 7 with fail
 try rw [← hW5]
 try rw [h9]
 clear hW5 h9
 go_wp2_with fail
 go_loopw [11] (fun u wr => ∃ k : Nat, k ≤ M ∧ u = .int .i64 k ∧ Below W5.heap.size W5 wr) (fun u _ => M - (intOf u).toNat)
 case atStart => exact ⟨0, Nat.zero_le _, rfl, bR W5⟩
 case round =>
  obtain ⟨k, hk, rfl, hb⟩ := hrel
  have Hb := Lib.hid hb
  have X7 := HX75.out.keep hb
  have HBw := Lib.hid (bT HB5.out hb)
  clear hb
  by_cases hlt : k < M
  ·
   have hkl : k < pl.length := by rw [HM.out]; exact hlt
   obtain ⟨bp, op, rfl, hlb, hcell⟩ := (HRp5.out.mono Hb.out).pcsAll (by omega)
   obtain ⟨c0, c1, c2, c3⟩ := hcell k hkl
   have hmem : pl[k].1 ∈ x.pieces := by rw [HPl.out]; exact List.mem_map_of_mem (List.getElem_mem hkl)
   obtain ⟨arc, hgd⟩ := HG.out _ hmem
   have HPrev := Lib.hid (show ∀ j, j + 1 = k → ∃ aj : Int, wr.cell? ⟨bp, op + j * 4, none⟩ = some (.int .i64 aj) ∧ ¬ pl[k].1.arc < aj by
    intro j hj
    have hjl : j < pl.length := by omega
    refine ⟨_, (hcell j hjl).1, ?_⟩
    have h1 : j < x.pieces.length := by rw [HPl.out, List.length_map]; exact hjl
    have h2 : k < x.pieces.length := by rw [HPl.out, List.length_map]; exact hkl
    have h3 := List.pairwise_iff_getElem.1 HO.out j k h1 h2 (by omega)
    have e1 : x.pieces[j] = pl[j].1 := by simp [HPl.out]
    have e2 : x.pieces[k] = pl[k].1 := by simp [HPl.out]
    rw [e1, e2] at h3
    omega)
   obtain ⟨Py, cy, hvy, hy1, hy2, hRy⟩ := (HVp5.out k hkl).mono Hb.out
   rw [hvy] at c1
   unfold maxLen at hy2
   clear hcell hmem hvy
   obtain ⟨y, hy⟩ : ∃ y, pl[k].1 = y := ⟨_, rfl⟩
   rw [hy] at c0 c1 c2 c3 hgd hy1 hRy HPrev
   clear hy
   obtain ⟨bq, oq, rfl, hlq, hpt⟩ := hRy.ptsAll (by have := hgd.two; omega)
   obtain ⟨L1, hL1⟩ : ∃ L1, L1 + 1 = y.path.length := ⟨y.path.length - 1, by have := hgd.two; omega⟩
   have h0l : 0 < y.path.length := by omega
   have hLl : L1 < y.path.length := by omega
   have HOn1 := Lib.hid (fun W => on41_spec bx y.enter y.path[0] W (by have := hgd.enter; rw [List.getD_eq_getElem?_getD, List.getElem?_eq_getElem h0l] at this; exact this))
   have HOn2 := Lib.hid (fun W => on41_spec bx y.leave y.path[L1] W (by have := hgd.leave; rw [show y.path.length - 1 = L1 by omega, List.getD_eq_getElem?_getD, List.getElem?_eq_getElem hLl] at this; exact this))
   have HPt := Lib.hid hpt
   have HGd := Lib.hid hgd
   obtain ⟨u0, u1⟩ := hpt 0 h0l
   obtain ⟨l0, l1⟩ := hpt L1 hLl
   simp only [Nat.zero_mul, Nat.add_zero] at u0 u1
   have h2l := hgd.two
   obtain ⟨ly, hly⟩ : ∃ l, y.path.length = l := ⟨_, rfl⟩
   have HLy := Lib.hid hly
   rw [hly] at c1 hy1 h2l hL1
   have hwl : IntKind.i64.wrap ((ly : Int) - 1) = (L1 : Int) := by rw [IntWalk.i64_in _ (by omega)]; omega
   have v1 : ¬ (ly : Int) < 2 := by omega
   have v2 : 0 ≤ (L1 : Int) := by omega
   have v3 : (L1 : Int) < ly := by omega
   have v4 : (0 : Int) < ly := by omega
   have v4n : 0 < ly := by omega
   have r1 : 0 ≤ (k : Int) := by omega
   have r2 : (k : Int) < M := by omega
   have HC := Lib.hid (⟨c0, c1⟩ : _ ∧ _)
   generalize y.path[0] = P0 at *
   generalize y.path[L1] = PL at *
   clear hpt hgd hRy hly hL1 h0l hLl
   have X9 := HX95.out.keep Hb.out
   try clear X7l
   try clear X7a
   try clear X7b
   try clear X7c
   obtain ⟨X7l, X7a, X7b, X7c, -, -, -⟩ := X7.facts3
   obtain ⟨X9l, X9a, X9b, X9c, X9d, -, -, -, -⟩ := X9.facts4
   go_upto_region 11 with fail
   go_cut [107] (fun u wx => u = .bool false ∧ Below wr.heap.size wr wx)
   case first =>
    by_cases hk0 : k = 0
    ·
     have q1 : ¬ (0 : Int) < k := by omega
     have q1n : ¬ 0 < k := by omega
     clear hk0
     refine rg_start (Since wr) (.run 34 0 0 (.call 34 34359738367 (.run 16 35 34359738367 (.call 51 4503599627370495 (.take 52 9007199254740991 (.take 53 18014398509481983 (.done))))))) (by kernel_rfl) (bD (bR _)) (by kernel_rfl) (by kernel_rfl) (Nat.le_of_ble_eq_true (by kernel_rfl)) ?_
     intro opsR QR Hops HQrg hS
     iterate 4
      apply rg_p; exact Hops; exact rfl; exact hS; exact rfl
      · intro _ hqc; go_simp; try rfl
      try simp only [pu]
     iterate 3
      apply rg_g; exact Hops; exact rfl; exact hS; iterate 4 exact rfl
      · intro _ hqc; go_simp; try rfl
      try simp only [pu]
     iterate 14
      refine rg_yn Hops rfl hS rfl rfl rfl rfl rfl ?_
      try simp only [pu]
     apply rg_g; exact Hops; exact rfl; exact hS; iterate 4 exact rfl
     · intro _ hqc; go_simp; try rfl
     try simp only [pu]
     iterate 2
      apply rg_p; exact Hops; exact rfl; exact hS; exact rfl
      · intro _ hqc; go_simp; try rfl
      try simp only [pu]
     iterate 10
      apply rg_g; exact Hops; exact rfl; exact hS; iterate 4 exact rfl
      · intro _ hqc; go_simp; try rfl
      try simp only [pu]
     refine rg_call (i := 34) (get_of Hops rfl) (fun K hK => ?_)
     have HSrg := Lib.hid hS; clear hS
     refine rg_run (wanted_yes rfl (get_of Hops rfl) rfl rfl) ?_
     go_simp
     refine (HOn1.out _).mono ?_
     rintro e wr1 ⟨rfl, hbr1⟩
     have hS : Since wr wr1 := bT (w := wr) HSrg.out hbr1
     clear HSrg
     refine hK.out _ _ hS (fun _ => ?_)
     clear hK K
     try simp only [pu]
     apply rg_g; exact Hops; exact rfl; exact hS; iterate 4 exact rfl
     · intro _ hqc; go_simp; try rfl
     try simp only [pu]
     iterate 2
      apply rg_p; exact Hops; exact rfl; exact hS; exact rfl
      · intro _ hqc; go_simp; try rfl
      try simp only [pu]
     iterate 13
      apply rg_g; exact Hops; exact rfl; exact hS; iterate 4 exact rfl
      · intro _ hqc; go_simp; try rfl
      try simp only [pu]
     refine rg_call (i := 51) (get_of Hops rfl) (fun K hK => ?_)
     have HSrg := Lib.hid hS; clear hS
     refine rg_run (wanted_yes rfl (get_of Hops rfl) rfl rfl) ?_
     go_simp
     refine (HOn2.out _).mono ?_
     rintro e wr2 ⟨rfl, hbr2⟩
     have hS : Since wr wr2 := bT (w := wr) HSrg.out hbr2
     clear HSrg
     refine hK.out _ _ hS (fun _ => ?_)
     clear hK K
     try simp only [pu]
     apply rg_g; exact Hops; exact rfl; exact hS; iterate 4 exact rfl
     · intro _ hqc; go_simp; try rfl
     try simp only [pu]
     apply rg_p; exact Hops; exact rfl; exact hS; exact rfl
     · intro _ hqc; go_simp; try rfl
     try simp only [pu]
     refine rg_done ?_
     refine HQrg.down _ _ ?_
     have hB : Below wr.heap.size wr wr2 := hS
     clear hS HQrg Hops
     go_wp2_with fail
     go_meet
     case rel => exact ⟨rfl, hB⟩
    ·
     obtain ⟨j, hj⟩ : ∃ j, j + 1 = k := ⟨k - 1, by omega⟩
     obtain ⟨aj, cj, hle⟩ := HPrev.out j hj
     have q1 : (0 : Int) < k := by omega
     have q1n : 0 < k := by omega
     have hwk : IntKind.i64.wrap ((k : Int) - 1) = (j : Int) := by rw [IntWalk.i64_in _ (by omega)]; omega
     have q2 : 0 ≤ (j : Int) := by omega
     have q3 : (j : Int) < M := by omega
     clear hk0 hj
     refine rg_start (Since wr) (.run 34 0 0 (.call 34 34359738367 (.run 16 35 34359738367 (.call 51 4503599627370495 (.take 52 9007199254740991 (.take 53 18014398509481983 (.done))))))) (by kernel_rfl) (bD (bR _)) (by kernel_rfl) (by kernel_rfl) (Nat.le_of_ble_eq_true (by kernel_rfl)) ?_
     intro opsR QR Hops HQrg hS
     iterate 4
      apply rg_p; exact Hops; exact rfl; exact hS; exact rfl
      · intro _ hqc; go_simp; try rfl
      try simp only [pu]
     iterate 18
      apply rg_g; exact Hops; exact rfl; exact hS; iterate 4 exact rfl
      · intro _ hqc; go_simp; try rfl
      try simp only [pu]
     iterate 2
      apply rg_p; exact Hops; exact rfl; exact hS; exact rfl
      · intro _ hqc; go_simp; try rfl
      try simp only [pu]
     iterate 10
      apply rg_g; exact Hops; exact rfl; exact hS; iterate 4 exact rfl
      · intro _ hqc; go_simp; try rfl
      try simp only [pu]
     refine rg_call (i := 34) (get_of Hops rfl) (fun K hK => ?_)
     have HSrg := Lib.hid hS; clear hS
     refine rg_run (wanted_yes rfl (get_of Hops rfl) rfl rfl) ?_
     go_simp
     refine (HOn1.out _).mono ?_
     rintro e wr1 ⟨rfl, hbr1⟩
     have hS : Since wr wr1 := bT (w := wr) HSrg.out hbr1
     clear HSrg
     refine hK.out _ _ hS (fun _ => ?_)
     clear hK K
     try simp only [pu]
     apply rg_g; exact Hops; exact rfl; exact hS; iterate 4 exact rfl
     · intro _ hqc; go_simp; try rfl
     try simp only [pu]
     iterate 2
      apply rg_p; exact Hops; exact rfl; exact hS; exact rfl
      · intro _ hqc; go_simp; try rfl
      try simp only [pu]
     iterate 13
      apply rg_g; exact Hops; exact rfl; exact hS; iterate 4 exact rfl
      · intro _ hqc; go_simp; try rfl
      try simp only [pu]
     refine rg_call (i := 51) (get_of Hops rfl) (fun K hK => ?_)
     have HSrg := Lib.hid hS; clear hS
     refine rg_run (wanted_yes rfl (get_of Hops rfl) rfl rfl) ?_
     go_simp
     refine (HOn2.out _).mono ?_
     rintro e wr2 ⟨rfl, hbr2⟩
     have hS : Since wr wr2 := bT (w := wr) HSrg.out hbr2
     clear HSrg
     refine hK.out _ _ hS (fun _ => ?_)
     clear hK K
     try simp only [pu]
     apply rg_g; exact Hops; exact rfl; exact hS; iterate 4 exact rfl
     · intro _ hqc; go_simp; try rfl
     try simp only [pu]
     apply rg_p; exact Hops; exact rfl; exact hS; exact rfl
     · intro _ hqc; go_simp; try rfl
     try simp only [pu]
     refine rg_done ?_
     refine HQrg.down _ _ ?_
     have hB : Below wr.heap.size wr wr2 := hS
     clear hS HQrg Hops
     go_wp2_with fail
     go_meet
     case rel => exact ⟨rfl, hB⟩
   case rest =>
   obtain ⟨rfl, hbc⟩ := hcut
   obtain ⟨wC, hwC⟩ : ∃ wC : World, wC = wc := ⟨_, rfl⟩
   rw [← hwC] at hbc ⊢
   have HbC := Lib.hid (bT Hb.out hbc)
   have HPtC := Lib.hid (fun j (hj : j < y.path.length) => (⟨keepc hbc (HPt.out j hj).1, keepc hbc (HPt.out j hj).2⟩ : _ ∧ _))
   have hlqC : bq < wC.heap.size := Nat.lt_of_lt_of_le hlq hbc.size
   clear hwC hbc X7 X7l X7a X7b X7c X9 X9l X9a X9b X9c X9d c0 c1 c2 c3 u0 u1 l0 l1 HOn1 HOn2 HPrev HPt hwl v1 v2 v3 v4 v4n hlb hlq HC
   go_wp2_with fail
   go_loopw [13] (fun u wx => ∃ m : Nat, m ≤ ly ∧ u = .int .i64 m ∧ Below wC.heap.size wC wx) (fun u _ => ly - (intOf u).toNat)
   case atStart => exact ⟨0, Nat.zero_le _, rfl, bR wC⟩
   case round =>
    rename_i wr0
    obtain ⟨m, hm, rfl, hb2⟩ := hrel
    have Hb2 := Lib.hid hb2
    have X9 := HX95.out.keep (bT HbC.out hb2)
    by_cases hml : m < ly
    ·
     have hmp : m < y.path.length := by rw [HLy.out]; exact hml
     obtain ⟨u0, u1⟩ := HPtC.out m hmp
     replace u0 := keepc hb2 u0
     replace u1 := keepc hb2 u1
     have hlq2 : bq < wr.heap.size := Nat.lt_of_lt_of_le hlqC hb2.size
     have hin : inB bx y.path[m] = true := HGd.out.inb _ (List.getElem_mem hmp)
     have TI := fun W => rIn_spec bx y.path[m] W
     rw [hin] at TI
     unfold bxV ptV at TI
     have HI := Lib.hid TI
     have HPv := Lib.hid (show ∀ j, j + 1 = m → ∃ q : Pt, wr.cell? ⟨bq, oq + j * 2, none⟩ = some (.int .i64 q.x) ∧ wr.cell? ⟨bq, oq + j * 2 + 1, none⟩ = some (.int .i64 q.y) ∧ decide (q = y.path[m]) = false by
      intro j hj
      have hjp : j < y.path.length := by omega
      refine ⟨y.path[j], keepc hb2 (HPtC.out j hjp).1, keepc hb2 (HPtC.out j hjp).2, ?_⟩
      subst hj
      rw [decide_eq_false_iff_not]
      exact HGd.out.ne j hmp)
     obtain ⟨P, hP⟩ : ∃ P, y.path[m] = P := ⟨_, rfl⟩
     rw [hP] at u0 u1 HI HPv
     clear hP hin TI hmp hb2
     have v2 : 0 ≤ (m : Int) := by omega
     have v3 : (m : Int) < ly := by omega
     try clear X9l
     try clear X9a
     try clear X9b
     try clear X9c
     try clear X9d
     obtain ⟨X9l, X9a, X9b, X9c, X9d, -, -, -, -⟩ := X9.facts4
     go_upto_region 16 with fail
     go_cut [136] (fun u wx => u = .bool false ∧ Below wr.heap.size wr wx)
     case first =>
      by_cases hm0 : m = 0
      ·
       have q1 : ¬ (0 : Int) < m := by omega
       have q1n : ¬ 0 < m := by omega
       clear hm0
       refine rg_start (Since wr) (.run 5 0 0 (.call 5 63 (.run 17 6 63 (.done)))) (by kernel_rfl) (bD (bR _)) (by kernel_rfl) (by kernel_rfl) (Nat.le_of_ble_eq_true (by kernel_rfl)) ?_
       intro opsR QR Hops HQrg hS
       iterate 5
        apply rg_p; exact Hops; exact rfl; exact hS; exact rfl
        · intro _ hqc; go_simp; try rfl
        try simp only [pu]
       refine rg_call (i := 5) (get_of Hops rfl) (fun K hK => ?_)
       have HSrg := Lib.hid hS; clear hS
       refine rg_run (wanted_plain rfl) ?_
       go_simp
       refine (HI.out _).mono ?_
       rintro e wr1 ⟨rfl, hbr1⟩
       have hS : Since wr wr1 := bT (w := wr) HSrg.out hbr1
       clear HSrg
       refine hK.out _ _ hS (fun _ => ?_)
       clear hK K
       try simp only [pu]
       iterate 2
        apply rg_p; exact Hops; exact rfl; exact hS; exact rfl
        · intro _ hqc; go_simp; try rfl
        try simp only [pu]
       iterate 3
        apply rg_g; exact Hops; exact rfl; exact hS; iterate 4 exact rfl
        · intro _ hqc; go_simp; try rfl
        try simp only [pu]
       iterate 10
        refine rg_yn Hops rfl hS rfl rfl rfl rfl rfl ?_
        try simp only [pu]
       apply rg_g; exact Hops; exact rfl; exact hS; iterate 4 exact rfl
       · intro _ hqc; go_simp; try rfl
       try simp only [pu]
       apply rg_p; exact Hops; exact rfl; exact hS; exact rfl
       · intro _ hqc; go_simp; try rfl
       try simp only [pu]
       refine rg_done ?_
       refine HQrg.down _ _ ?_
       have hB : Below wr.heap.size wr wr1 := hS
       clear hS HQrg Hops
       go_wp2_with fail
       go_meet
       case rel => exact ⟨rfl, hB⟩
      ·
       obtain ⟨j, hj⟩ : ∃ j, j + 1 = m := ⟨m - 1, by omega⟩
       obtain ⟨q, d0, d1, hne⟩ := HPv.out j hj
       have hE := run_eql_pt q P
       rw [hne] at hE
       have q1 : (0 : Int) < m := by omega
       have q1n : 0 < m := by omega
       have hwk : IntKind.i64.wrap ((m : Int) - 1) = (j : Int) := by rw [IntWalk.i64_in _ (by omega)]; omega
       have q2 : 0 ≤ (j : Int) := by omega
       have q3 : (j : Int) < ly := by omega
       clear hm0 hj hne
       refine rg_start (Since wr) (.run 5 0 0 (.call 5 63 (.run 17 6 63 (.done)))) (by kernel_rfl) (bD (bR _)) (by kernel_rfl) (by kernel_rfl) (Nat.le_of_ble_eq_true (by kernel_rfl)) ?_
       intro opsR QR Hops HQrg hS
       iterate 5
        apply rg_p; exact Hops; exact rfl; exact hS; exact rfl
        · intro _ hqc; go_simp; try rfl
        try simp only [pu]
       refine rg_call (i := 5) (get_of Hops rfl) (fun K hK => ?_)
       have HSrg := Lib.hid hS; clear hS
       refine rg_run (wanted_plain rfl) ?_
       go_simp
       refine (HI.out _).mono ?_
       rintro e wr1 ⟨rfl, hbr1⟩
       have hS : Since wr wr1 := bT (w := wr) HSrg.out hbr1
       clear HSrg
       refine hK.out _ _ hS (fun _ => ?_)
       clear hK K
       try simp only [pu]
       iterate 2
        apply rg_p; exact Hops; exact rfl; exact hS; exact rfl
        · intro _ hqc; go_simp; try rfl
        try simp only [pu]
       iterate 14
        apply rg_g; exact Hops; exact rfl; exact hS; iterate 4 exact rfl
        · intro _ hqc; go_simp; try rfl
        try simp only [pu]
       apply rg_p; exact Hops; exact rfl; exact hS; exact rfl
       · intro _ hqc; go_simp; try rfl
       try simp only [pu]
       refine rg_done ?_
       refine HQrg.down _ _ ?_
       have hB : Below wr.heap.size wr wr1 := hS
       clear hS HQrg Hops
       go_wp2_with fail
       go_meet
       case rel => exact ⟨rfl, hB⟩
     case rest =>
     obtain ⟨rfl, hbc⟩ := hcut
     have HbN := Lib.hid (bT Hb2.out hbc)
     clear hbc X9 X9l X9a X9b X9c X9d u0 u1
     go_wp2_with fail
     go_roundw
     case rel => exact ⟨m + 1, by omega, by go_num, HbN.out⟩
     case measure => simp [intOf]; omega
    ·
     have HbN := Lib.hid (bT HbC.out hb2)
     clear hb2 X9
     go_wp2_with fail
     go_roundw
     case rel => exact ⟨k + 1, by omega, by go_num, HbN.out⟩
     case measure => simp [intOf]; omega
  ·
   have hkk : ¬ (k : Int) < M := by omega
   try clear X7l
   try clear X7a
   try clear X7b
   try clear X7c
   obtain ⟨X7l, X7a, X7b, X7c, -, -, -⟩ := X7.facts3
   go_upto_block 4 with fail
   go_wp2_with fail
   go_loopw [14, 15] (fun a u wx => ∃ (i T : Nat), i ≤ nn ∧ u = .int .i64 i ∧ a = .int .i64 T ∧ T = ((p.nodes.take i).filter (fun t => inB bx t.pt)).length ∧ T ≤ i ∧ Below W5.heap.size W5 wx) (fun _ u _ => nn - (intOf u).toNat)
   case atStart => exact ⟨0, 0, Nat.zero_le _, rfl, rfl, rfl, Nat.le_refl _, Hb.out⟩
   case round =>
    rename_i wr0
    obtain ⟨i, T, hi, rfl, rfl, hT, hTi, hb2⟩ := hrel
    have Hb2 := Lib.hid hb2; have HT := Lib.hid hT
    have HBw2 := Lib.hid (bT HB5.out hb2)
    clear X7 X7l X7a X7b X7c
    have X7 := HX75.out.keep hb2
    have X3 := HX35.out.keep hb2
    have X9 := HX95.out.keep hb2
    clear hb2 hT
    by_cases hil : i < nn
    ·
     have hin : i < p.nodes.length := by rw [HNn.out]; exact hil
     obtain ⟨bb, oo, rfl, hlb, c0, d1, d2⟩ := (HRn.out.mono HBw2.out).nd hin
     have HI0 := Lib.hid (fun W => rIn_spec bx p.nodes[i].pt W)
     unfold bxV ptV at HI0
     have HSt := Lib.hid (show ((p.nodes.take (i + 1)).filter (fun t => inB bx t.pt)).length = T + (if inB bx p.nodes[i].pt = true then 1 else 0) by
      rw [List.take_succ_eq_append_getElem hin, List.filter_append, List.length_append, ← HT.out]
      congr 1
      by_cases hz : inB bx p.nodes[i].pt = true
      · rw [if_pos hz]; simp [hz]
      · rw [if_neg hz]; simp [hz])
     have HAt := Lib.hid (fun (hz : inB bx p.nodes[i].pt = true) => by
      have := filter_at (fun t : Nd => inB bx t.pt) p.nodes i hin hz
      rw [← HT.out, ← HNx.out] at this
      exact this)
     obtain ⟨nd, hnd⟩ : ∃ nd, p.nodes[i] = nd := ⟨_, rfl⟩
     rw [hnd] at c0 d1 d2 HI0 HSt HAt
     obtain ⟨zz, hzz⟩ : ∃ z, inB bx nd.pt = z := ⟨_, rfl⟩
     rw [hzz] at HI0 HSt HAt
     clear hnd hzz
     have v2 : 0 ≤ (i : Int) := by omega
     have v3 : (i : Int) < nn := by omega
     have Hc := Lib.hid (⟨c0, d1, d2⟩ : _ ∧ _ ∧ _)
     try clear X3l
     try clear X3a
     try clear X3b
     try clear X3c
     obtain ⟨X3l, X3a, X3b, X3c, -, -, -⟩ := X3.facts3
     try clear X9l
     try clear X9a
     try clear X9b
     try clear X9c
     try clear X9d
     obtain ⟨X9l, X9a, X9b, X9c, X9d, -, -, -, -⟩ := X9.facts4
     go_upto_region 22 with fail
     refine rg_start (Since wr) (.run 7 0 0 (.call 7 255 (.done))) (by kernel_rfl) (bD (bR _)) (by kernel_rfl) (by kernel_rfl) (Nat.le_of_ble_eq_true (by kernel_rfl)) ?_
     intro opsR QR Hops HQrg hS
     iterate 7
      apply rg_p; exact Hops; exact rfl; exact hS; exact rfl
      · intro _ hqc; go_simp; try rfl
      try simp only [pu]
     refine rg_call (i := 7) (get_of Hops rfl) (fun K hK => ?_)
     have HSrg := Lib.hid hS; clear hS
     refine rg_run (wanted_plain rfl) ?_
     go_simp
     refine (HI0.out _).mono ?_
     rintro e wr1 ⟨rfl, hbr1⟩
     have hS : Since wr wr1 := bT (w := wr) HSrg.out hbr1
     clear HSrg
     refine hK.out _ _ hS (fun _ => ?_)
     clear hK K
     try simp only [pu]
     refine rg_done ?_
     refine HQrg.down _ _ ?_
     have hB : Below wr.heap.size wr wr1 := hS
     clear hS HQrg Hops
     obtain ⟨wP, hwP⟩ : ∃ wP : World, wP = wr1 := ⟨_, rfl⟩
     rw [← hwP] at hB ⊢
     have Hb3 := Lib.hid (bT Hb2.out hB)
     have hlP : bb < wP.heap.size := Nat.lt_of_lt_of_le hlb hB.size
     have HcP := Lib.hid (⟨keepc hB Hc.out.1, keepc hB Hc.out.2.1, keepc hB Hc.out.2.2⟩ : _ ∧ _ ∧ _)
     clear hB hwP hbr1 X3 X3l X3a X3b X3c X9 X9l X9a X9b X9c X9d c0 d1 d2 hlb X7
     cases zz
     ·
      have HSt2 := Lib.hid (show T = ((p.nodes.take (i + 1)).filter (fun t => inB bx t.pt)).length by rw [HSt.out]; simp)
      go_wp2_with fail
      go_roundw
      case rel => exact ⟨i + 1, T, by omega, by go_num, rfl, HSt2.out, by omega, Hb3.out⟩
      case measure => simp [intOf]; omega
     ·
      have HSt2 := Lib.hid (show T + 1 = ((p.nodes.take (i + 1)).filter (fun t => inB bx t.pt)).length by rw [HSt.out]; simp)
      have hat := HAt.out rfl
      obtain ⟨hTl, hTe⟩ := List.getElem?_eq_some_iff.1 hat
      obtain ⟨bz, oz, rfl, hlz, e0, e1, e2⟩ := (HRx5.out.mono Hb3.out).nd hTl
      rw [hTe] at e0 e1 e2
      have hTm : T < Mx := by rw [← HMx.out]; exact hTl
      have hE := run_neq_nd nd nd
      rw [show (!decide (nd = nd)) = false by simp] at hE
      have X7 := HX75.out.keep Hb3.out
      have X3 := HX35.out.keep Hb3.out
      obtain ⟨c0, d1, d2⟩ := HcP.out
      have v4 : 0 ≤ (T : Int) := by omega
      have v5 : (T : Int) < Mx := by omega
      have v6 : ¬ (Mx : Int) ≤ T := by omega
      clear hat hTl hTe
      try clear X3l
      try clear X3a
      try clear X3b
      try clear X3c
      obtain ⟨X3l, X3a, X3b, X3c, -, -, -⟩ := X3.facts3
      try clear X7l
      try clear X7a
      try clear X7b
      try clear X7c
      obtain ⟨X7l, X7a, X7b, X7c, -, -, -⟩ := X7.facts3
      go_upto_region 23 with fail
      refine rg_start (Since wP) (.run 18 0 0 (.done)) (by kernel_rfl) (bD (bR _)) (by kernel_rfl) (by kernel_rfl) (Nat.le_of_ble_eq_true (by kernel_rfl)) ?_
      intro opsR QR Hops HQrg hS
      iterate 6
       apply rg_p; exact Hops; exact rfl; exact hS; exact rfl
       · intro _ hqc; go_simp; try rfl
       try simp only [pu]
      iterate 11
       apply rg_g; exact Hops; exact rfl; exact hS; iterate 4 exact rfl
       · intro _ hqc; go_simp; try rfl
       try simp only [pu]
      apply rg_p; exact Hops; exact rfl; exact hS; exact rfl
      · intro _ hqc; go_simp; try rfl
      try simp only [pu]
      refine rg_done ?_
      refine HQrg.down _ _ ?_
      have hB : Below wP.heap.size wP wP.drew := hS
      clear hS HQrg Hops
      have Hb4 := Lib.hid (bT Hb3.out hB)
      clear hB X3 X3l X3a X3b X3c X7 X7l X7a X7b X7c c0 d1 d2 e0 e1 e2 hE
      go_wp2_with fail
      go_roundw
      case rel => exact ⟨i + 1, T + 1, by omega, by go_num, by go_num, HSt2.out, by omega, Hb4.out⟩
      case measure => simp [intOf]; omega
    ·
     have hTM : T = Mx := by rw [HT.out, ← HMx.out, HNx.out, List.take_of_length_le (by have := HNn.out; omega)]
     have hin : ¬ (i : Int) < nn := by omega
     have hT2 : ((T : Int) == (Mx : Int)) = true := by rw [hTM]; simp
     have hn2 : (n == n) = true := by simp
     clear hTM
     try clear X3l
     try clear X3a
     try clear X3b
     try clear X3c
     obtain ⟨X3l, X3a, X3b, X3c, -, -, -⟩ := X3.facts3
     try clear X7l
     try clear X7a
     try clear X7b
     try clear X7c
     obtain ⟨X7l, X7a, X7b, X7c, -, -, -⟩ := X7.facts3
     go_wp2_with fail
     refine (HAw.out _).mono ?_
     rintro e w6 ⟨rfl, hb6⟩
     have HB6 := Lib.hid (bT HBw2.out hb6)
     clear hb6
     go_wp2_with fail
     go_ret
     exact ⟨rfl, HB6.out⟩
end Go.Proofs.YtfondidmklmonaaGreat
