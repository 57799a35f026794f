/- mapsheetsref41.Part. -/
import Derived.Test.YtfondidmklmonaaGreatClipRI
import Derived.Test.YtfondidmklmonaaGreatJ19
import Derived.Test.YtfondidmklmonaaGreatJ13
set_option linter.unusedSimpArgs false
set_option linter.unusedVariables false
namespace Go.Proofs.YtfondidmklmonaaGreat
open Go.RowKit

set_option maxRecDepth 100000 in
set_option maxHeartbeats 16000000 in
theorem rPart_spec (v : Value) (p : Pl) (s : Se) (n : Int) (w : World) (h : PlV w v p) (hs : SmP p) : Calls Tryz.prog 13 #[v, seV s, .int .i64 n] w (RetPrtE w (partRes p s n)) := by
 have HP := Lib.hid h; have HSm := Lib.hid hs
 have hsm0 := hs
 have TC := fun (W : World) hW => RCheck_spec v p W (h.mono hW)
 have HCk := Lib.hid TC
 have HBx := Lib.hid (fun W => rBox_spec s n W)
 obtain ⟨q, hq⟩ : ∃ q, partRes p s n = q := ⟨_, rfl⟩
 rw [hq]
 unfold partRes at hq
 have HQ := Lib.hid hq
 obtain ⟨vn, va, vf, al, rfl, -⟩ := h
 unfold seV at HBx ⊢
 clear hq hs TC
 obtain ⟨s0, hs0⟩ : ∃ s0, w.heap.size = s0 := ⟨_, rfl⟩
 obtain ⟨g4, h4⟩ : ∃ g, s0 + 1 = g := ⟨_, rfl⟩
 obtain ⟨g6, h6⟩ : ∃ g, g4 + 1 = g := ⟨_, rfl⟩
 obtain ⟨W, hW⟩ : ∃ W : World, W = ((w.alloc (.cells #[vn, va, vf] 26)).alloc (.cells #[.int .i64 s.at_.x, .int .i64 s.at_.y, .int .i64 s.width, .int .i64 s.height, .int .i64 s.cols, .int .i64 s.rows] 30)).alloc (.cells #[.int .i64 0, .slice none 0 0, .slice none 0 0] 35) := ⟨_, rfl⟩
 have HB0 := Lib.hid (show Below w.heap.size w W by rw [hW]; exact bA (bA (bA (bR w) _) _) _)
 have X3 : Blk W s0 26 #[vn, va, vf] := by rw [hW]; exact ((Blk.made hs0.symm _ _).alloc _).alloc _
 have X4 : Blk W g4 30 #[.int .i64 s.at_.x, .int .i64 s.at_.y, .int .i64 s.width, .int .i64 s.height, .int .i64 s.cols, .int .i64 s.rows] := by rw [hW]; exact (Blk.made (by simp; omega) _ _).alloc _
 have X6 : Blk W g6 35 #[.int .i64 0, .slice none 0 0, .slice none 0 0] := by rw [hW]; exact Blk.made (by simp; omega) _ _
 go_enter Tryz.func13, Tryz.ntmps13
 go_upto_region 1 with fail
 try rw [← hW]
 have HG := Lib.hid (show w.heap.size = s0 ∧ s0 + 1 = g4 ∧ g4 + 1 = g6 from ⟨hs0, h4, h6⟩)
 clear hW hs0 h4 h6
 have hq0 : w.heap.size ≤ g6 := by have := HG.out; omega
 obtain ⟨X3l, X3a, X3b, X3c, -, -, -⟩ := X3.facts3
 go_wp2_with fail
 refine (HCk.out _ HB0.out).mono ?_
 rintro e w1 ⟨rfl, hb1⟩
 have HB1 := Lib.hid (bT HB0.out hb1)
 replace X3 := X3.keep hb1
 replace X4 := X4.keep hb1
 replace X6 := X6.keep hb1
 have HX6 := Lib.hid X6
 clear hb1 HCk HB0
 by_cases hck : checkS p = 0
 case neg =>
  have hne : (checkS p != 0) = true := by simp [hck]
  have hq := HQ.out
  rw [if_pos hck] at hq
  have HF := Lib.hid hq
  clear hq hck
  generalize checkS p = z at *
  obtain ⟨X6l, X6a, X6b, X6c, X6fa, X6fb, X6fc⟩ := X6.facts3
  go_wp2_with fail
  refine res_cell_tmp (g := g6) (cs := #[.int .i64 0, .slice none 0 0, .slice none 0 0]) rfl struct_prt rfl rfl (Blk.put3 HX6.out) ⟨none, 0, 0, none, 0, 0, ?_, ?_, ?_⟩
  · rw [← HF.out]; rfl
  · exact ((HB1.out.setCell (p := ⟨g6, 0, none⟩) hq0 _).setCell (p := ⟨g6, 1, none⟩) hq0 _).setCell (p := ⟨g6, 2, none⟩) hq0 _
  · rw [← HF.out]; exact PrtO.zero _ _
 have hq := HQ.out
 rw [if_neg (fun h => h hck)] at hq
 have HQ1 := Lib.hid hq
 have HVd := Lib.hid ((check_zero p).1 hck)
 rw [hck]
 clear hq hck HQ
 try clear X3l X3a X3b X3c
 obtain ⟨X4l, X4a, X4b, X4c, X4d, X4e, X4f, -, -, -, -, -, -⟩ := X4.facts6
 go_wp2_with fail
 refine (HBx.out _).mono ?_
 rintro e w2 ⟨rfl, hb2⟩
 have HB2 := Lib.hid (bT HB1.out hb2)
 replace X3 := X3.keep hb2
 replace X6 := X6.keep hb2
 replace HX6 := Lib.hid X6
 clear hb2 HB1 HBx X4 X4l X4a X4b X4c X4d X4e X4f
 by_cases hfe : findE s n = 0
 case neg =>
  have hne : (findE s n != 0) = true := by simp [hfe]
  have hq := HQ1.out
  rw [if_pos hfe] at hq
  have HF := Lib.hid hq
  have hbr : boxRes s n = (bx0, findE s n) := by unfold boxRes; rw [if_neg hfe]
  rw [hbr]
  clear hq hfe hbr
  generalize findE s n = z at *
  unfold boxV bxV bx0
  try clear X6l
  try clear X6a
  try clear X6b
  try clear X6c
  try clear X6fa
  try clear X6fb
  try clear X6fc
  obtain ⟨X6l, X6a, X6b, X6c, X6fa, X6fb, X6fc⟩ := X6.facts3
  go_wp2_with fail
  refine res_cell_tmp (g := g6) (cs := #[.int .i64 0, .slice none 0 0, .slice none 0 0]) rfl struct_prt rfl rfl ((Blk.put3 HX6.out).alloc _) ⟨none, 0, 0, none, 0, 0, ?_, ?_, ?_⟩
  · rw [← HF.out]; rfl
  · exact bA (((HB2.out.setCell (p := ⟨g6, 0, none⟩) hq0 _).setCell (p := ⟨g6, 1, none⟩) hq0 _).setCell (p := ⟨g6, 2, none⟩) hq0 _) _
  · rw [← HF.out]; exact PrtO.zero _ _
 have hq := HQ1.out
 rw [if_neg (fun h => h hfe)] at hq
 have hbr : boxRes s n = (boxOf s n, 0) := by unfold boxRes; rw [if_pos hfe]
 have hin := (findE_zero.1 hfe).smB.1
 obtain ⟨bx, hbx⟩ : ∃ bx, boxOf s n = bx := ⟨_, rfl⟩
 have hlt := (findE_zero.1 hfe).smB.2
 rw [hbx] at hq hbr hin hlt
 rw [hbr]
 have HFq := Lib.hid hq
 have HIn := Lib.hid hin; have HLt := Lib.hid hlt
 clear hq hbr hfe hin HQ1 hbx hlt HSm
 have HSm := Lib.hid hsm0
 obtain ⟨vn', va', vf', al', he, hpa, hN, ⟨⟨Aa, ca, hva, ha1, ha2, hRa⟩, hVi⟩, -⟩ := HP.out
 obtain ⟨f1, f2, f3⟩ : vn = vn' ∧ va = va' ∧ vf = vf' := by simpa using he
 subst f1 f2 f3
 obtain ⟨An, cn, hvn, hn1, hn2, hRn⟩ := hN
 subst hva hvn
 unfold maxLen at ha2 hn2
 have hal : al'.length ≤ 1000 := by have := HSm.out.arcs; rw [hpa, List.length_map] at this; exact this
 have hnl := HSm.out.nodes
 obtain ⟨nn, hnn⟩ : ∃ nn, p.nodes.length = nn := ⟨_, rfl⟩
 rw [hnn] at hn1 hnl HP X3 ⊢
 have HNn := Lib.hid hnn
 have HRa := Lib.hid hRa; have HRn := Lib.hid hRn; have HVi := Lib.hid hVi; have HPa := Lib.hid hpa
 clear hRa hRn hVi hpa hnn he
 unfold boxV
 unfold bxV at *
 obtain ⟨g9, h9⟩ : ∃ g, w2.heap.size = g := ⟨_, rfl⟩
 obtain ⟨g11, h11⟩ : ∃ g, g9 + 1 = g := ⟨_, rfl⟩
 obtain ⟨W, hW⟩ : ∃ W : World, W = (w2.alloc (.cells #[.int .i64 bx.x0, .int .i64 bx.y0, .int .i64 bx.x1, .int .i64 bx.y1] 50)).alloc (.cells #[.int .i64 n, .slice none 0 0, .slice none 0 0] 35) := ⟨_, rfl⟩
 have HB0 := Lib.hid (show Below w.heap.size w W by rw [hW]; exact bA (bA HB2.out _) _)
 have l3 : s0 < g9 := by have := X3.lt; omega
 have l6 : g6 < g9 := by have := HX6.out.lt; omega
 have HX3 := Lib.hid (show Blk W s0 26 #[.slice An nn cn, .slice Aa al'.length ca, vf] by rw [hW]; exact (X3.alloc _).alloc _)
 have HX6W := Lib.hid (show Blk W g6 35 #[.int .i64 0, .slice none 0 0, .slice none 0 0] by rw [hW]; exact (HX6.out.alloc _).alloc _)
 have HX9 := Lib.hid (show Blk W g9 50 #[.int .i64 bx.x0, .int .i64 bx.y0, .int .i64 bx.x1, .int .i64 bx.y1] by rw [hW]; exact (Blk.made h9.symm _ _).alloc _)
 have HX11 := Lib.hid (show Blk W g11 35 #[.int .i64 n, .slice none 0 0, .slice none 0 0] by rw [hW]; exact Blk.made (by simp; omega) _ _)
 have hW11 : g11 < W.heap.size := HX11.out.lt
 have hwB : w.heap.size ≤ g11 := by have := HB2.out.size; omega
 go_upto_region 8 with fail
 try rw [← hW]
 have HG2 := Lib.hid (show w2.heap.size = g9 ∧ g9 + 1 = g11 from ⟨h9, h11⟩)
 have q3 : s0 < g11 := by omega
 have q6 : g6 < g11 := by omega
 have q9 : g9 < g11 := by omega
 clear hW h9 h11 X3 X6 HX6
 go_wp2_with fail
 go_loopw [12] (fun u wr => ∃ (k : Nat) (L : List (Pc × SV)) (A : Option Addr) (c : Nat), k ≤ al'.length ∧ u = .int .i64 k ∧ Blk wr g11 35 #[.int .i64 n, .slice A L.length c, .slice none 0 0] ∧ PcsO wr g11 (.slice A L.length c) L ∧ L.map (·.1) = (p.arcs.take k).flatMap (fun a => piecesS a.id (pathS p a) bx) ∧ L.length ≤ 2000 * k ∧ Below g11 W wr) (fun u _ => al'.length - (intOf u).toNat)
 case atStart => exact ⟨0, [], none, 0, Nat.zero_le _, rfl, HX11.out, ⟨Own.nil _ _ _ _ _, fun x hx => by cases hx⟩, rfl, Nat.le_refl _, Below.refl _ _⟩
 case round =>
  obtain ⟨k, L, A, c, hk, rfl, x11, hpo, hmap, hlen, hb⟩ := hrel
  have Hb := Lib.hid hb
  have HPO := Lib.hid hpo; have HX11r := Lib.hid x11; have HMap := Lib.hid hmap
  have X3 := HX3.out.below hb q3
  have h11r : g11 < wr.heap.size := x11.lt
  have HBw := Lib.hid (show Below w.heap.size w wr from HB0.out.trans (hb.mono hwB))
  clear x11 hpo hmap hb
  by_cases hlt : k < al'.length
  ·
   obtain ⟨bb, oo, rfl, hlb, c0, -, -, -, -, -⟩ := HRa.out.ar hlt
   have hkp : k < p.arcs.length := by rw [HPa.out, List.length_map]; exact hlt
   have hpk : p.arcs[k] = al'[k].1 := by simp [HPa.out]
   have hmem : al'[k].1 ∈ p.arcs := by rw [← hpk]; exact List.getElem_mem hkp
   have hst : (p.arcs.take (k + 1)).flatMap (fun a => piecesS a.id (pathS p a) bx) = (p.arcs.take k).flatMap (fun a => piecesS a.id (pathS p a) bx) ++ piecesS al'[k].1.id (pathS p al'[k].1) bx := by
    rw [List.take_succ_eq_append_getElem hkp, List.flatMap_append, hpk]; simp
   have hvia := HSm.out.via _ hmem
   have HSt := Lib.hid hst; have HMem := Lib.hid hmem
   clear hst hmem hpk hkp
   generalize al'[k] = ya at *
   obtain ⟨a, va⟩ := ya
   dsimp only at HSt HMem c0 hvia
   have TP : ∀ W, Below w.heap.size w W → Calls Tryz.prog 26 #[.agg #[.slice An nn cn, .slice (some ⟨bb, oo, none⟩) al'.length ca, vf], .int .i64 a.id] W (RetPathE W (some (pathS p a))) := fun W hW => by
    have := RPath_spec _ p a.id W (HP.out.mono hW) HSm.out.short
    rw [HVd.out.sound.path HMem.out] at this
    exact this
   have HPt := Lib.hid TP
   have hpl : (pathS p a).length ≤ 1002 := by rw [pathS_length]; omega
   have hp2 : 2 ≤ (pathS p a).length := by rw [pathS_length]; omega
   have TC : ∀ (W : World) v, Pts W v (pathS p a) → Calls Tryz.prog 38 #[.int .i64 a.id, v, .agg #[.int .i64 bx.x0, .int .i64 bx.y0, .int .i64 bx.x1, .int .i64 bx.y1]] W (RetPcs W (piecesS a.id (pathS p a) bx)) := fun W v hv => by
    have := rpieces_spec a.id (pathS p a) bx v W hv (fun q hq => HVd.out.bdP_path HMem.out hq) HIn.out (by have := HLt.out.1; omega) (by have := HLt.out.2; omega) (by omega) (by omega)
    rw [pieces_eq _ _ HLt.out.1 HLt.out.2] at this
    exact this
   have HTC := Lib.hid TC
   have hpcl := pcs_len a.id (pathS p a) bx
   clear TP TC
   generalize piecesS a.id (pathS p a) bx = pcs at *
   generalize pathS p a = path at *
   have Hc0 := Lib.hid c0
   replace c0 := keepc HBw.out c0
   have hlb2 : bb < g11 := by omega
   have hlr : bb < wr.heap.size := by omega
   have r1 : 0 ≤ (k : Int) := by omega
   have r2 : (k : Int) < al'.length := by omega
   try clear X3l
   try clear X3a
   try clear X3b
   try clear X3c
   obtain ⟨X3l, X3a, X3b, X3c, -, -, -⟩ := X3.facts3
   go_upto_region 11 with fail
   refine rg_start (Since wr) (.run 7 0 0 (.call 7 255 (.run 5 8 255 (.done)))) (by kernel_rfl) (bD (bR _)) (by kernel_rfl) (by kernel_rfl) (Nat.le_of_ble_eq_true (by kernel_rfl)) ?_
   intro opsR QR Hops HQrg hS
   iterate 7
    apply rg_p; exact Hops; exact rfl; exact hS; exact rfl
    · intro _ hqc; go_simp; try rfl
    try simp only [pu]
   refine rg_call (i := 7) (get_of Hops rfl) (fun K hK => ?_)
   have HSrg := Lib.hid hS; clear hS
   refine rg_run (wanted_plain rfl) ?_
   go_simp
   refine (HPt.out _ (bT HBw.out HSrg.out)).mono ?_
   rintro e wr1 ⟨A1, cp, rfl, hbr1, hop⟩
   have hS : Since wr wr1 := bT (w := wr) HSrg.out hbr1
   clear HSrg
   refine hK.out _ _ hS (fun _ => ?_)
   clear hK K
   try simp only [pu]
   iterate 5
    apply rg_p; exact Hops; exact rfl; exact hS; exact rfl
    · intro _ hqc; go_simp; try rfl
    try simp only [pu]
   refine rg_done ?_
   refine HQrg.down _ _ ?_
   have hB : Below wr.heap.size wr wr1 := hS
   clear hS HQrg Hops
   simp only [Option.getD_some, Option.isSome_some, if_true]
   simp only [Option.getD_some] at hop
   obtain ⟨wP, hwP⟩ : ∃ wP : World, wP = wr1 := ⟨_, rfl⟩
   rw [← hwP] at hB hop ⊢
   have PO := HPO.out.keep hB; have X11 := HX11r.out.keep hB
   have HBP := Lib.hid (Hb.out.trans (hB.mono (by omega)))
   have PW : Own wP g11 28 2 ptC (.slice A1 path.length cp) path := Own.mono_base hop (show g11 ≤ wr.drew.heap.size from (by omega : g11 ≤ wr.heap.size))
   have HBwP := Lib.hid (bT HBw.out hB)
   clear hop hB hwP hbr1 X3 X3l X3a X3b X3c c0 hlr
   have X3 := HX3.out.below HBP.out q3
   have X9 := HX9.out.below HBP.out q9
   have c0 := keepc HBwP.out Hc0.out
   have l11P : g11 < wP.heap.size := X11.lt
   try clear X3l
   try clear X3a
   try clear X3b
   try clear X3c
   obtain ⟨X3l, X3a, X3b, X3c, -, -, -⟩ := X3.facts3
   obtain ⟨X9l, X9a, X9b, X9c, X9d, -, -, -, -⟩ := X9.facts4
   go_upto_region 12 with fail
   refine rg_start (SinceB (g11) wP) (.take 0 1 (.run 8 2 1 (.two 1 1023 (.call 10 2047 (.call 11 4095 (.take 12 8191 (.call 13 16383 (.done))))) 10 2045 (.call 1 2047 (.call 11 4095 (.take 12 8191 (.call 13 16383 (.done)))))))) (by kernel_rfl) (Below.drew (Below.refl _ _)) (by kernel_rfl) (by kernel_rfl) (Nat.le_of_ble_eq_true (by kernel_rfl)) ?_
   intro opsR QR Hops HQrg hS
   replace PO := PO.drew
   replace X11 := X11.drew
   replace PW := PW.drew
   iterate 9
    apply rg_pB; exact Hops; exact rfl; exact hS; exact rfl
    · intro _ hqc; go_simp; try rfl
    try simp only [pu]
   refine rg_two (i := 1) (j := 10) (get_of Hops rfl) (get_of Hops rfl) (fun K hK => ?_) (fun K hK => ?_)
   -- operation 1 first
   ·
    have HSrg := Lib.hid hS; clear hS
    refine rg_run (wanted_plain rfl) ?_
    obtain ⟨X11l, X11a, X11b, X11c, X11fa, X11fb, X11fc⟩ := X11.facts3
    go_simp
    refine hK.out _ _ HSrg.out (fun hS => ?_)
    clear hK K HSrg
    try simp only [pu]
    refine rg_call (i := 10) (get_of Hops rfl) (fun K hK => ?_)
    have HSrg := Lib.hid hS; clear hS
    refine rg_run (wanted_plain rfl) ?_
    go_simp
    refine (HTC.out _ _ PW.sl).mono ?_
    rintro e wr1 ⟨A2, c2, L2, rfl, hbr1, hm2, hp2⟩
    have hS : SinceB (g11) wP wr1 := (show Below (g11) wP _ from HSrg.out).trans (hbr1.mono (Nat.le_trans (by omega) (show Below (g11) wP _ from HSrg.out).size))
    clear HSrg
    try replace PO := PO.keep hbr1
    try replace X11 := X11.keep hbr1
    try replace PW := PW.keep hbr1
    refine hK.out _ _ hS (fun _ => ?_)
    clear hK K
    try simp only [pu]
    refine rg_call (i := 11) (get_of Hops rfl) (fun K hK => ?_)
    have HSrg := Lib.hid hS; clear hS
    refine rg_run (wanted_plain rfl) ?_
    have hl2 : L2.length ≤ 1003 := (by have := congrArg List.length hm2; rw [List.length_map] at this; omega)
    have hz1 : g11 ≤ _ := Nat.le_trans (Nat.le_of_lt l11P) (show Below g11 wP _ from HSrg.out).size
    refine wp_appl (.tmp 53) (.tmp 62) _ rfl (base := g11) (l2 := L2) elem_pc pcS_len pcS_one rfl PO.own rfl hp2.own.sl (by omega) (by omega) hz1 ?_
    intro v9 wn hon9 hgn hatn
    obtain ⟨A9, c9, hv9, -⟩ := Own.shape_ hon9
    rw [List.length_append] at hv9
    subst hv9
    have X11n := X11.grown hgn (fun e => Own.ne_blk PO.own X11 (by decide) e.symm)
    have HPn := Lib.hid (show PcsO wn g11 (.slice A9 (L.length + L2.length) c9) (L ++ L2) from ⟨hon9, fun x hx => (List.mem_append.1 hx).elim (fun hx => Own.grown (PO.path x hx) hgn (fun j hj => Own.apart (PO.path x hx) PO.own (by decide) j hj)) (fun hx => Own.mono_base (Own.grown (hp2.path x hx) hgn (fun j hj => Own.apart (hp2.path x hx) PO.own (by decide) j hj)) (by first | omega | (simp; omega)))⟩)
    have hS : SinceB g11 wP wn := Below.grown (show Below g11 wP _ from HSrg.out) hgn hz1 (fun j hj => (PO.own.lt j hj).1)
    obtain ⟨X11l, X11a, X11b, X11c, X11fa, X11fb, X11fc⟩ := X11n.facts3
    clear hon9 hgn hatn
    clear HSrg
    refine hK.out _ _ hS (fun _ => ?_)
    clear hK K
    try simp only [pu]
    apply rg_pB; exact Hops; exact rfl; exact hS; exact rfl
    · intro _ hqc; go_simp; try rfl
    try simp only [pu]
    refine rg_call (i := 13) (get_of Hops rfl) (fun K hK => ?_)
    have HSrg := Lib.hid hS; clear hS
    refine rg_run (wanted_plain rfl) ?_
    go_simp
    refine hK.out _ _ (by unfold SinceB; have h : Below _ _ _ := HSrg.out; repeat (first | with_reducible assumption | with_reducible exact Below.refl _ _ | with_reducible refine bSB ?_ (by first | omega | (simp; omega)) _ | with_reducible refine Below.drew ?_ | with_reducible refine bAB (by omega) ?_ _ | exact h)) ?_
    intro hS
    clear hK K HSrg
    try simp only [pu]
    refine rg_done ?_
    refine HQrg.down _ _ ?_
    have hB : Below (g11) wP _ := hS
    clear hS HQrg Hops
    go_wp2_with fail
    go_roundw
    case rel => (rw [show (L.length + L2.length) = (L ++ L2).length by simp] at *; exact ⟨k + 1, L ++ L2, A9, c9, by omega, by go_num, by have := X11n.set_ 1 (.slice A9 (L ++ L2).length c9); simpa using this, HPn.out.far X11n (by decide) (by decide) _ _, by rw [List.map_append, HMap.out, hm2, HSt.out], by rw [List.length_append]; omega, HBP.out.trans hB⟩)
    case measure => simp [intOf]; omega
   -- operation 10 first
   ·
    have HSrg := Lib.hid hS; clear hS
    refine rg_run (wanted_plain rfl) ?_
    go_simp
    refine (HTC.out _ _ PW.sl).mono ?_
    rintro e wr1 ⟨A2, c2, L2, rfl, hbr1, hm2, hp2⟩
    have hS : SinceB (g11) wP wr1 := (show Below (g11) wP _ from HSrg.out).trans (hbr1.mono (Nat.le_trans (by omega) (show Below (g11) wP _ from HSrg.out).size))
    clear HSrg
    try replace PO := PO.keep hbr1
    try replace X11 := X11.keep hbr1
    try replace PW := PW.keep hbr1
    refine hK.out _ _ hS (fun _ => ?_)
    clear hK K
    try simp only [pu]
    refine rg_call (i := 1) (get_of Hops rfl) (fun K hK => ?_)
    have HSrg := Lib.hid hS; clear hS
    refine rg_run (wanted_plain rfl) ?_
    obtain ⟨X11l, X11a, X11b, X11c, X11fa, X11fb, X11fc⟩ := X11.facts3
    go_simp
    refine hK.out _ _ HSrg.out (fun hS => ?_)
    clear hK K HSrg
    try simp only [pu]
    refine rg_call (i := 11) (get_of Hops rfl) (fun K hK => ?_)
    have HSrg := Lib.hid hS; clear hS
    refine rg_run (wanted_plain rfl) ?_
    have hl2 : L2.length ≤ 1003 := (by have := congrArg List.length hm2; rw [List.length_map] at this; omega)
    have hz1 : g11 ≤ _ := Nat.le_trans (Nat.le_of_lt l11P) (show Below g11 wP _ from HSrg.out).size
    refine wp_appl (.tmp 53) (.tmp 62) _ rfl (base := g11) (l2 := L2) elem_pc pcS_len pcS_one rfl PO.own rfl hp2.own.sl (by omega) (by omega) hz1 ?_
    intro v9 wn hon9 hgn hatn
    obtain ⟨A9, c9, hv9, -⟩ := Own.shape_ hon9
    rw [List.length_append] at hv9
    subst hv9
    have X11n := X11.grown hgn (fun e => Own.ne_blk PO.own X11 (by decide) e.symm)
    have HPn := Lib.hid (show PcsO wn g11 (.slice A9 (L.length + L2.length) c9) (L ++ L2) from ⟨hon9, fun x hx => (List.mem_append.1 hx).elim (fun hx => Own.grown (PO.path x hx) hgn (fun j hj => Own.apart (PO.path x hx) PO.own (by decide) j hj)) (fun hx => Own.mono_base (Own.grown (hp2.path x hx) hgn (fun j hj => Own.apart (hp2.path x hx) PO.own (by decide) j hj)) (by first | omega | (simp; omega)))⟩)
    have hS : SinceB g11 wP wn := Below.grown (show Below g11 wP _ from HSrg.out) hgn hz1 (fun j hj => (PO.own.lt j hj).1)
    obtain ⟨X11l, X11a, X11b, X11c, X11fa, X11fb, X11fc⟩ := X11n.facts3
    clear hon9 hgn hatn
    clear HSrg
    refine hK.out _ _ hS (fun _ => ?_)
    clear hK K
    try simp only [pu]
    apply rg_pB; exact Hops; exact rfl; exact hS; exact rfl
    · intro _ hqc; go_simp; try rfl
    try simp only [pu]
    refine rg_call (i := 13) (get_of Hops rfl) (fun K hK => ?_)
    have HSrg := Lib.hid hS; clear hS
    refine rg_run (wanted_plain rfl) ?_
    go_simp
    refine hK.out _ _ (by unfold SinceB; have h : Below _ _ _ := HSrg.out; repeat (first | with_reducible assumption | with_reducible exact Below.refl _ _ | with_reducible refine bSB ?_ (by first | omega | (simp; omega)) _ | with_reducible refine Below.drew ?_ | with_reducible refine bAB (by omega) ?_ _ | exact h)) ?_
    intro hS
    clear hK K HSrg
    try simp only [pu]
    refine rg_done ?_
    refine HQrg.down _ _ ?_
    have hB : Below (g11) wP _ := hS
    clear hS HQrg Hops
    go_wp2_with fail
    go_roundw
    case rel => (rw [show (L.length + L2.length) = (L ++ L2).length by simp] at *; exact ⟨k + 1, L ++ L2, A9, c9, by omega, by go_num, by have := X11n.set_ 1 (.slice A9 (L ++ L2).length c9); simpa using this, HPn.out.far X11n (by decide) (by decide) _ _, by rw [List.map_append, HMap.out, hm2, HSt.out], by rw [List.length_append]; omega, HBP.out.trans hB⟩)
    case measure => simp [intOf]; omega
  ·
   have hkk : k = al'.length := by omega
   have hall : L.map (·.1) = (partS p n bx).pieces := by
    have h1 := HMap.out
    rw [hkk, show al'.length = p.arcs.length by rw [HPa.out, List.length_map], List.take_length] at h1
    rw [h1]; rfl
   have HAll := Lib.hid hall
   have HQn := Lib.hid (show (partS p n bx).nodes = p.nodes.filter (fun z => inB bx z.pt) from rfl)
   have c1 : ¬ (k : Int) < al'.length := by omega
   have hLl : L.length ≤ 2000000 := by omega
   clear hall hkk hlen HMap HPa HVi HRa
   try clear X3l
   try clear X3a
   try clear X3b
   try clear X3c
   obtain ⟨X3l, X3a, X3b, X3c, -, -, -⟩ := X3.facts3
   go_upto_block 2 with fail
   go_wp2_with fail
   go_loopw [15] (fun u wx => ∃ (j : Nat) (N : List Nd) (A2 : Option Addr) (c2 : Nat), j ≤ nn ∧ u = .int .i64 j ∧ Blk wx g11 35 #[.int .i64 n, .slice A L.length c, .slice A2 N.length c2] ∧ PcsO wx g11 (.slice A L.length c) L ∧ Own wx g11 59 3 ndC (.slice A2 N.length c2) N ∧ N = (p.nodes.take j).filter (fun z => inB bx z.pt) ∧ N.length ≤ j ∧ Below g11 W wx) (fun u _ => nn - (intOf u).toNat)
   case atStart => exact ⟨0, [], none, 0, Nat.zero_le _, rfl, HX11r.out, HPO.out, Own.nil _ _ _ _ _, rfl, Nat.le_refl _, Hb.out⟩
   case round =>
    rename_i wr0
    obtain ⟨j, N, A2, c2, hj, rfl, x11, hpo, hon, hN, hNl, hb2⟩ := hrel
    have HPO2 := Lib.hid hpo; have HX2 := Lib.hid x11; have HON := Lib.hid hon; have HN2 := Lib.hid hN; have Hb2 := Lib.hid hb2
    have h11r2 : g11 < wr.heap.size := x11.lt
    have HBw2 := Lib.hid (show Below w.heap.size w wr from HB0.out.trans (hb2.mono hwB))
    clear X3 X3l X3a X3b X3c
    have X3 := HX3.out.below hb2 q3
    clear x11 hpo hon hN hb2
    by_cases hlt2 : j < nn
    ·
     have hjn : j < p.nodes.length := by rw [HNn.out]; exact hlt2
     obtain ⟨bb, oo, hA, hlb, c0, d1, d2⟩ := HRn.out.nd hjn
     subst hA
     have hst : (p.nodes.take (j + 1)).filter (fun z => inB bx z.pt) = N ++ (if inB bx p.nodes[j].pt = true then [p.nodes[j]] else []) := by
      rw [List.take_succ_eq_append_getElem hjn, List.filter_append, ← HN2.out]
      congr 1
      by_cases hz : inB bx p.nodes[j].pt = true
      · rw [if_pos hz]; simp [hz]
      · rw [if_neg hz]; simp [hz]
     have HSt := Lib.hid hst
     have HI := Lib.hid (fun W => rIn_spec bx p.nodes[j].pt W)
     unfold bxV ptV at HI
     clear hst
     generalize p.nodes[j] = nd at *
     obtain ⟨z, hz⟩ : ∃ z, inB bx nd.pt = z := ⟨_, rfl⟩
     rw [hz] at HI HSt
     clear hz
     have Hc := Lib.hid (⟨c0, d1, d2⟩ : _ ∧ _ ∧ _)
     replace c0 := keepc HBw2.out c0
     replace d1 := keepc HBw2.out d1
     replace d2 := keepc HBw2.out d2
     have X9 := HX9.out.below Hb2.out q9
     have hlb2 : bb < g11 := by omega
     have hlr : bb < wr.heap.size := by omega
     have r1 : 0 ≤ (j : Int) := by omega
     have r2 : (j : Int) < nn := by omega
     try clear X3l
     try clear X3a
     try clear X3b
     try clear X3c
     obtain ⟨X3l, X3a, X3b, X3c, -, -, -⟩ := X3.facts3
     try clear X9l
     try clear X9a
     try clear X9b
     try clear X9c
     try clear X9d
     obtain ⟨X9l, X9a, X9b, X9c, X9d, -, -, -, -⟩ := X9.facts4
     go_upto_region 16 with fail
     refine rg_start (Since wr) (.run 7 0 0 (.call 7 255 (.done))) (by kernel_rfl) (bD (bR _)) (by kernel_rfl) (by kernel_rfl) (Nat.le_of_ble_eq_true (by kernel_rfl)) ?_
     intro opsR QR Hops HQrg hS
     iterate 7
      apply rg_p; exact Hops; exact rfl; exact hS; exact rfl
      · intro _ hqc; go_simp; try rfl
      try simp only [pu]
     refine rg_call (i := 7) (get_of Hops rfl) (fun K hK => ?_)
     have HSrg := Lib.hid hS; clear hS
     refine rg_run (wanted_plain rfl) ?_
     go_simp
     refine (HI.out _).mono ?_
     rintro e wr1 ⟨rfl, hbr1⟩
     have hS : Since wr wr1 := bT (w := wr) HSrg.out hbr1
     clear HSrg
     refine hK.out _ _ hS (fun _ => ?_)
     clear hK K
     try simp only [pu]
     refine rg_done ?_
     refine HQrg.down _ _ ?_
     have hB : Below wr.heap.size wr wr1 := hS
     clear hS HQrg Hops
     obtain ⟨wP, hwP⟩ : ∃ wP : World, wP = wr1 := ⟨_, rfl⟩
     rw [← hwP] at hB ⊢
     have PO := HPO2.out.keep hB; have X11 := HX2.out.keep hB; have PN := HON.out.keep hB
     have HBP := Lib.hid (Hb2.out.trans (hB.mono (by omega)))
     have HBwP := Lib.hid (bT HBw2.out hB)
     clear hB hwP hbr1 X3 X3l X3a X3b X3c X9 X9l X9a X9b X9c X9d c0 d1 d2 hlr HPO2 HX2 HON
     cases z
     ·
      have HSt2 := Lib.hid (show N = (p.nodes.take (j + 1)).filter (fun z => inB bx z.pt) by rw [HSt.out]; simp)
      have HZ := Lib.hid (⟨X11, PO, PN⟩ : _ ∧ _ ∧ _)
      clear X11 PO PN
      go_wp2_with fail
      go_roundw
      case rel => exact ⟨j + 1, N, A2, c2, by omega, by go_num, HZ.out.1, HZ.out.2.1, HZ.out.2.2, HSt2.out, by omega, HBP.out⟩
      case measure => simp [intOf]; omega
     ·
      have HSt2 := Lib.hid (show N ++ [nd] = (p.nodes.take (j + 1)).filter (fun z => inB bx z.pt) by rw [HSt.out]; simp)
      have c0 := keepc HBwP.out Hc.out.1
      have d1 := keepc HBwP.out Hc.out.2.1
      have d2 := keepc HBwP.out Hc.out.2.2
      have X3 := HX3.out.below HBP.out q3
      have l11P : g11 < wP.heap.size := X11.lt
      try clear X3l
      try clear X3a
      try clear X3b
      try clear X3c
      obtain ⟨X3l, X3a, X3b, X3c, -, -, -⟩ := X3.facts3
      go_upto_region 17 with fail
      refine rg_start (SinceB (g11) wP) (.take 0 1 (.run 5 2 1 (.two 1 127 (.call 7 255 (.call 8 511 (.take 9 1023 (.call 10 2047 (.done))))) 7 253 (.call 1 255 (.call 8 511 (.take 9 1023 (.call 10 2047 (.done)))))))) (by kernel_rfl) (Below.drew (Below.refl _ _)) (by kernel_rfl) (by kernel_rfl) (Nat.le_of_ble_eq_true (by kernel_rfl)) ?_
      intro opsR QR Hops HQrg hS
      replace PO := PO.drew
      replace X11 := X11.drew
      replace PN := PN.drew
      iterate 6
       apply rg_pB; exact Hops; exact rfl; exact hS; exact rfl
       · intro _ hqc; go_simp; try rfl
       try simp only [pu]
      refine rg_two (i := 1) (j := 7) (get_of Hops rfl) (get_of Hops rfl) (fun K hK => ?_) (fun K hK => ?_)
      -- operation 1 first
      ·
       have HSrg := Lib.hid hS; clear hS
       refine rg_run (wanted_plain rfl) ?_
       obtain ⟨X11l, X11a, X11b, X11c, X11fa, X11fb, X11fc⟩ := X11.facts3
       go_simp
       refine hK.out _ _ HSrg.out (fun hS => ?_)
       clear hK K HSrg
       try simp only [pu]
       refine rg_call (i := 7) (get_of Hops rfl) (fun K hK => ?_)
       have HSrg := Lib.hid hS; clear hS
       refine rg_run (wanted_plain rfl) ?_
       go_simp
       have XNy : Below (g11) wP (wP.drew) := HSrg.out
       have XNz : g11 ≤ (wP.drew).heap.size := Nat.le_trans (by omega) (show Below (g11) wP (wP.drew) from HSrg.out).size
       refine hK.out _ _ (bAB (by omega) HSrg.out _) (fun hS => ?_)
       clear hK K HSrg
       try replace PO := PO.alloc (.cells #[.int .i64 nd.id, .int .i64 nd.pt.x, .int .i64 nd.pt.y] 59)
       try replace X11 := X11.alloc (.cells #[.int .i64 nd.id, .int .i64 nd.pt.x, .int .i64 nd.pt.y] 59)
       try replace PN := PN.alloc (.cells #[.int .i64 nd.id, .int .i64 nd.pt.x, .int .i64 nd.pt.y] 59)
       try replace XN := XN.alloc (.cells #[.int .i64 nd.id, .int .i64 nd.pt.x, .int .i64 nd.pt.y] 59)
       have XN := Blk.new (wP.drew) 59 #[.int .i64 nd.id, .int .i64 nd.pt.x, .int .i64 nd.pt.y]
       try simp only [World.size_drew] at XN XNz
       try simp only [World.alloc_drew] at PO
       try simp only [World.alloc_drew] at X11
       try simp only [World.alloc_drew] at PN
       try simp only [World.alloc_drew] at XN
       try simp only [pu]
       refine rg_call (i := 8) (get_of Hops rfl) (fun K hK => ?_)
       have HSrg := Lib.hid hS; clear hS
       refine rg_run (wanted_plain rfl) ?_
       have hz1 : g11 ≤ _ := Nat.le_trans (Nat.le_of_lt l11P) (show Below g11 wP _ from HSrg.out).size
       refine wp_appl (.tmp 81) (.tmp 87) _ rfl (base := g11) (l2 := [nd]) elem_nd ndC_len ndC_one rfl PN rfl (Sl.lit (n := 1) XN rfl (le_maxLen (by omega))) (by simp only [List.length_cons, List.length_nil]; omega) (by simp only [List.length_cons, List.length_nil]; omega) hz1 ?_
       intro v9 wn hon9 hgn hatn
       obtain ⟨A9, c9, hv9, -⟩ := Own.shape_ hon9
       rw [show (N ++ [nd]).length = N.length + 1 by simp] at hv9
       subst hv9
       have X11n := X11.grown hgn (fun e => Own.ne_blk PN X11 (by decide) e.symm)
       have HPn := Lib.hid (show PcsO wn g11 (.slice A L.length c) L from ⟨Own.grown PO.own hgn (fun i hi => Own.apart PO.own PN (by decide) i hi), fun x hx => Own.grown (PO.path x hx) hgn (fun i hi => Own.apart (PO.path x hx) PN (by decide) i hi)⟩)
       have HNn9 := Lib.hid hon9
       have hS : SinceB g11 wP wn := Below.grown (show Below g11 wP _ from HSrg.out) hgn hz1 (fun j hj => (PN.lt j hj).1)
       obtain ⟨X11l, X11a, X11b, X11c, X11fa, X11fb, X11fc⟩ := X11n.facts3
       clear hon9 hgn hatn
       clear HSrg
       refine hK.out _ _ hS (fun _ => ?_)
       clear hK K
       try simp only [pu]
       apply rg_pB; exact Hops; exact rfl; exact hS; exact rfl
       · intro _ hqc; go_simp; try rfl
       try simp only [pu]
       refine rg_call (i := 10) (get_of Hops rfl) (fun K hK => ?_)
       have HSrg := Lib.hid hS; clear hS
       refine rg_run (wanted_plain rfl) ?_
       go_simp
       refine hK.out _ _ (by unfold SinceB; have h : Below _ _ _ := HSrg.out; repeat (first | with_reducible assumption | with_reducible exact Below.refl _ _ | with_reducible refine bSB ?_ (by first | omega | (simp; omega)) _ | with_reducible refine Below.drew ?_ | with_reducible refine bAB (by omega) ?_ _ | exact h)) ?_
       intro hS
       clear hK K HSrg
       try simp only [pu]
       refine rg_done ?_
       refine HQrg.down _ _ ?_
       have hB : Below (g11) wP _ := hS
       clear hS HQrg Hops
       go_wp2_with fail
       go_roundw
       case rel => (rw [show (N.length + 1) = (N ++ [nd]).length by simp] at *; exact ⟨j + 1, N ++ [nd], A9, c9, by omega, by go_num, by have := X11n.set_ 2 (.slice A9 (N ++ [nd]).length c9); simpa using this, HPn.out.far X11n (by decide) (by decide) _ _, HNn9.out.far (Own.ne_blk HNn9.out X11n (by decide)) _, HSt2.out, by rw [List.length_append, List.length_singleton]; omega, HBP.out.trans hB⟩)
       case measure => simp [intOf]; omega
      -- operation 7 first
      ·
       have HSrg := Lib.hid hS; clear hS
       refine rg_run (wanted_plain rfl) ?_
       go_simp
       have XNy : Below (g11) wP (wP.drew) := HSrg.out
       have XNz : g11 ≤ (wP.drew).heap.size := Nat.le_trans (by omega) (show Below (g11) wP (wP.drew) from HSrg.out).size
       refine hK.out _ _ (bAB (by omega) HSrg.out _) (fun hS => ?_)
       clear hK K HSrg
       try replace PO := PO.alloc (.cells #[.int .i64 nd.id, .int .i64 nd.pt.x, .int .i64 nd.pt.y] 59)
       try replace X11 := X11.alloc (.cells #[.int .i64 nd.id, .int .i64 nd.pt.x, .int .i64 nd.pt.y] 59)
       try replace PN := PN.alloc (.cells #[.int .i64 nd.id, .int .i64 nd.pt.x, .int .i64 nd.pt.y] 59)
       try replace XN := XN.alloc (.cells #[.int .i64 nd.id, .int .i64 nd.pt.x, .int .i64 nd.pt.y] 59)
       have XN := Blk.new (wP.drew) 59 #[.int .i64 nd.id, .int .i64 nd.pt.x, .int .i64 nd.pt.y]
       try simp only [World.size_drew] at XN XNz
       try simp only [World.alloc_drew] at PO
       try simp only [World.alloc_drew] at X11
       try simp only [World.alloc_drew] at PN
       try simp only [World.alloc_drew] at XN
       try simp only [pu]
       refine rg_call (i := 1) (get_of Hops rfl) (fun K hK => ?_)
       have HSrg := Lib.hid hS; clear hS
       refine rg_run (wanted_plain rfl) ?_
       obtain ⟨X11l, X11a, X11b, X11c, X11fa, X11fb, X11fc⟩ := X11.facts3
       go_simp
       refine hK.out _ _ HSrg.out (fun hS => ?_)
       clear hK K HSrg
       try simp only [pu]
       refine rg_call (i := 8) (get_of Hops rfl) (fun K hK => ?_)
       have HSrg := Lib.hid hS; clear hS
       refine rg_run (wanted_plain rfl) ?_
       have hz1 : g11 ≤ _ := Nat.le_trans (Nat.le_of_lt l11P) (show Below g11 wP _ from HSrg.out).size
       refine wp_appl (.tmp 81) (.tmp 87) _ rfl (base := g11) (l2 := [nd]) elem_nd ndC_len ndC_one rfl PN rfl (Sl.lit (n := 1) XN rfl (le_maxLen (by omega))) (by simp only [List.length_cons, List.length_nil]; omega) (by simp only [List.length_cons, List.length_nil]; omega) hz1 ?_
       intro v9 wn hon9 hgn hatn
       obtain ⟨A9, c9, hv9, -⟩ := Own.shape_ hon9
       rw [show (N ++ [nd]).length = N.length + 1 by simp] at hv9
       subst hv9
       have X11n := X11.grown hgn (fun e => Own.ne_blk PN X11 (by decide) e.symm)
       have HPn := Lib.hid (show PcsO wn g11 (.slice A L.length c) L from ⟨Own.grown PO.own hgn (fun i hi => Own.apart PO.own PN (by decide) i hi), fun x hx => Own.grown (PO.path x hx) hgn (fun i hi => Own.apart (PO.path x hx) PN (by decide) i hi)⟩)
       have HNn9 := Lib.hid hon9
       have hS : SinceB g11 wP wn := Below.grown (show Below g11 wP _ from HSrg.out) hgn hz1 (fun j hj => (PN.lt j hj).1)
       obtain ⟨X11l, X11a, X11b, X11c, X11fa, X11fb, X11fc⟩ := X11n.facts3
       clear hon9 hgn hatn
       clear HSrg
       refine hK.out _ _ hS (fun _ => ?_)
       clear hK K
       try simp only [pu]
       apply rg_pB; exact Hops; exact rfl; exact hS; exact rfl
       · intro _ hqc; go_simp; try rfl
       try simp only [pu]
       refine rg_call (i := 10) (get_of Hops rfl) (fun K hK => ?_)
       have HSrg := Lib.hid hS; clear hS
       refine rg_run (wanted_plain rfl) ?_
       go_simp
       refine hK.out _ _ (by unfold SinceB; have h : Below _ _ _ := HSrg.out; repeat (first | with_reducible assumption | with_reducible exact Below.refl _ _ | with_reducible refine bSB ?_ (by first | omega | (simp; omega)) _ | with_reducible refine Below.drew ?_ | with_reducible refine bAB (by omega) ?_ _ | exact h)) ?_
       intro hS
       clear hK K HSrg
       try simp only [pu]
       refine rg_done ?_
       refine HQrg.down _ _ ?_
       have hB : Below (g11) wP _ := hS
       clear hS HQrg Hops
       go_wp2_with fail
       go_roundw
       case rel => (rw [show (N.length + 1) = (N ++ [nd]).length by simp] at *; exact ⟨j + 1, N ++ [nd], A9, c9, by omega, by go_num, by have := X11n.set_ 2 (.slice A9 (N ++ [nd]).length c9); simpa using this, HPn.out.far X11n (by decide) (by decide) _ _, HNn9.out.far (Own.ne_blk HNn9.out X11n (by decide)) _, HSt2.out, by rw [List.length_append, List.length_singleton]; omega, HBP.out.trans hB⟩)
       case measure => simp [intOf]; omega
    ·
     have hjj : j = nn := by omega
     have hNf : N = (partS p n bx).nodes := by rw [HN2.out, hjj, ← HNn.out, List.take_length, HQn.out]
     have HNf := Lib.hid hNf
     have d1 : ¬ (j : Int) < nn := by omega
     clear hjj hNf
     have X11 := HX2.out
     have X6 := HX6W.out.below Hb2.out q6
     have HX6r := Lib.hid X6
     try clear X3l
     try clear X3a
     try clear X3b
     try clear X3c
     obtain ⟨X3l, X3a, X3b, X3c, -, -, -⟩ := X3.facts3
     try clear X11l
     try clear X11a
     try clear X11b
     try clear X11c
     try clear X11fa
     try clear X11fb
     try clear X11fc
     obtain ⟨X11l, X11a, X11b, X11c, -, -, -⟩ := X11.facts3
     try clear X6l
     try clear X6a
     try clear X6b
     try clear X6c
     try clear X6fa
     try clear X6fb
     try clear X6fc
     obtain ⟨X6l, X6a, X6b, X6c, X6fa, X6fb, X6fc⟩ := X6.facts3
     go_wp2_with fail
     refine res_cell_tmp (g := g6) (cs := #[.int .i64 n, .slice A L.length c, .slice A2 N.length c2]) rfl struct_prt rfl rfl (Blk.put3 HX6r.out) ⟨A, L.length, c, A2, N.length, c2, ?_, ?_, ?_⟩
     · rw [← HFq.out]; rfl
     · exact ((HBw2.out.setCell (p := ⟨g6, 0, none⟩) hq0 _).setCell (p := ⟨g6, 1, none⟩) hq0 _).setCell (p := ⟨g6, 2, none⟩) hq0 _
     ·
      rw [← HFq.out]
      have x0 := HX6r.out.set_ 0 (.int .i64 n)
      have x1 := x0.set_ 1 (.slice A L.length c)
      have hp := (show PrtO wr w.heap.size (partS p n bx) (.slice A L.length c) (.slice A2 N.length c2) from ⟨L, ⟨HPO2.out.own.mono_base hwB, fun x hx => (HPO2.out.path x hx).mono_base hwB⟩, HAll.out, by rw [← HNf.out]; exact HON.out.mono_base hwB⟩)
      exact ((hp.far HX6r.out (by decide) (by decide) (by decide) 0 _).far x0 (by decide) (by decide) (by decide) 1 _).far x1 (by decide) (by decide) (by decide) 2 _
end Go.Proofs.YtfondidmklmonaaGreat
