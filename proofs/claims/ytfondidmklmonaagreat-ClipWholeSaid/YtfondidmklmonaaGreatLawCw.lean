/- mapsheetslaw41.ClipWhole: true. -/
import Derived.Test.YtfondidmklmonaaGreatLawCp
import Derived.Test.YtfondidmklmonaaGreatClipBd
import Derived.Test.YtfondidmklmonaaGreatJ22
import Derived.Test.YtfondidmklmonaaGreatJ23
set_option linter.unusedSimpArgs false
set_option linter.unusedVariables false
namespace Go.Proofs.YtfondidmklmonaaGreat
open Go.RowKit

def sameOf (l : List Pt) (F : List Pc) : Bool := match F.getLast? with
 | none => false
 | some y => decide (y.path = l) && ((y.enter == 0) && (y.leave == 0))
theorem sameOf_snoc (l : List Pt) (F : List Pc) (y : Pc) : sameOf l (F ++ [y]) = (decide (y.path = l) && ((y.enter == 0) && (y.leave == 0))) := by
 unfold sameOf
 rw [List.getLast?_append]
 simp
theorem path_noRep {p : Pl} (hV : Valid p) {a : Ar} (ha : a ∈ p.arcs) : NoRep (pathS p a) := by
 intro k hk
 have h := (hV.distinct ha hk).1
 rw [List.getD_eq_getElem?_getD, List.getD_eq_getElem?_getD, List.getElem?_eq_getElem (by omega), List.getElem?_eq_getElem hk] at h
 exact h
/-- an arc whose path lies in the box has one piece -/
theorem whole_one {p : Pl} (hV : Valid p) {b : Bx} {a : Ar} (ha : a ∈ p.arcs) (h : b.x0 ≤ (bdBox (pathS p a)).x0 ∧ (bdBox (pathS p a)).x1 ≤ b.x1 ∧ b.y0 ≤ (bdBox (pathS p a)).y0 ∧ (bdBox (pathS p a)).y1 ≤ b.y1) : piecesS a.id (pathS p a) b = [⟨a.id, pathS p a, 0, 0⟩] := by
 refine pieces_whole (fun q hq => ?_) (by rw [pathS_length]; omega) (path_noRep hV ha)
 have := bdBox_in hq
 unfold inB
 rw [decide_eq_true_iff]
 omega
/-- an arc beside the box can be left out -/
theorem part_del {p : Pl} {b : Bx} (n : Int) {i : Nat} (hi : i < p.arcs.length) (h : piecesS p.arcs[i].id (pathS p p.arcs[i]) b = []) : partS ⟨p.nodes, del p.arcs i, p.faces⟩ n b = partS p n b := by
 unfold partS
 congr 1
 have hp : ∀ a, pathS ⟨p.nodes, del p.arcs i, p.faces⟩ a = pathS p a := fun a => rfl
 simp only [hp]
 conv => rhs; rw [del_split p.arcs i hi]
 unfold del
 rw [List.flatMap_append, List.flatMap_append, List.flatMap_cons, h, List.nil_append]
theorem partRes_del {p : Pl} {s : Se} {n : Int} {i : Nat} (hV : Valid p) (hf : findE s n = 0) (hi : i < p.arcs.length) (h : piecesS p.arcs[i].id (pathS p p.arcs[i]) (boxOf s n) = []) : partRes ⟨p.nodes, del p.arcs i, p.faces⟩ s n = (partS p n (boxOf s n), 0) := by
 unfold partRes
 rw [if_neg (fun h => h ((check_zero _).2 (hV.sub_arcs (del_sub p.arcs i)))), if_neg (fun h => h hf), part_del n hi h]
theorem sm_del {p : Pl} (h : SmP p) (i : Nat) : SmP ⟨p.nodes, del p.arcs i, p.faces⟩ :=
 ⟨Nat.le_trans (del_sub p.arcs i).length_le h.arcs, h.nodes, fun a ha => h.via a ((del_sub p.arcs i).subset ha)⟩
theorem sizeOf_ar41 : ∀ w, (Go.sizeOf 63).run Tryz.prog w = .ok 6 w := fun _ => by kernel_rfl
set_option maxRecDepth 100000 in
set_option maxHeartbeats 32000000 in
theorem ClipWhole_spec (v : Value) (p : Pl) (s : Se) (n : Int) (w : World) (h : PlV w v p) :
  Calls Tryz.prog 7 #[v, seV s, .int .i64 n] w fun e w' => e = .returned (.bool true) ∧ Below w.heap.size w w' := by
 have HFew := Lib.hid (fun W (hW : Below w.heap.size w W) => Few_spec v p 100 W (h.mono hW) (by omega))
 have HAw := Lib.hid awake41_spec
 have HP1 := Lib.hid (fun (hs : SmP p) W (hW : Below w.heap.size w W) => (Part_spec v p s n W (h.mono hW) hs).mono (fun _ _ h => h.rd))
 have HBx := Lib.hid (fun W => rBox_spec s n W)
 obtain ⟨r, hr⟩ : ∃ r, partRes p s n = r := ⟨_, rfl⟩
 rw [hr] at HP1
 obtain ⟨x, z⟩ := r
 dsimp only at HP1
 have HR := Lib.hid hr
 have HP := Lib.hid h
 clear hr
 obtain ⟨_, _, vf, al, rfl, hpa, hN, ⟨⟨Aa, ca, rfl, ha1, ha2, hRa⟩, hV⟩, hF⟩ := h
 obtain ⟨bl, rfl⟩ := hV.sv
 have HN := Lib.hid hN; have HF := Lib.hid hF
 obtain ⟨An, cn, rfl, hn1, hn2, -⟩ := hN
 obtain ⟨Af, cf, rfl, -⟩ := hF
 have hpl : p.arcs.length = bl.length := by rw [hpa, List.length_map, List.length_map]
 rw [List.length_map] at ha1
 rw [arS_flat] at hRa
 have hres : p.arcs = bl.map (·.1) := by rw [hpa, List.map_map]; rfl
 have HVk : Hid (∀ k (hk : k < bl.length), Pts w (.slice bl[k].2.a bl[k].2.n bl[k].2.c) bl[k].1.via) := Lib.hid fun k hk => by
  have := hV k (by simpa using hk)
  simpa [svA] using this
 have Hres := Lib.hid hres
 have HRa : Hid (Sl w (.slice Aa bl.length ca) bl.length (bl.flatMap arS)) := Lib.hid ⟨_, _, rfl, ha1, ha2, hRa⟩
 have Hpl := Lib.hid hpl
 rw [List.length_map] at *
 unfold maxLen at ha2 hn2
 generalize hnn : p.nodes.length = nn at *
 generalize hff : p.faces.length = nf at *
 have HNn := Lib.hid hnn; have HNf := Lib.hid hff
 obtain ⟨la, hla⟩ : ∃ la, bl.length = la := ⟨_, rfl⟩
 have HLa := Lib.hid hla
 rw [hla] at ha1 HRa HP HP1 HFew ⊢
 unfold seV at HP1 HBx ⊢
 obtain ⟨f1, hf1⟩ : ∃ z, fewS p 100 = z := ⟨_, rfl⟩
 rw [hf1] at HFew
 have HFw := Lib.hid hf1
 clear hf1 hV hres hRa hpa hpl hnn hff hla
 obtain ⟨s0, hs0⟩ : ∃ s0, w.heap.size = s0 := ⟨_, rfl⟩
 obtain ⟨g4, h4⟩ : ∃ g, s0 + 1 = g := ⟨_, rfl⟩
 obtain ⟨W, hW⟩ : ∃ W : World, W = (w.alloc (.cells #[.slice An nn cn, .slice Aa la ca, .slice Af nf cf] 26)).alloc (.cells #[.int .i64 s.at_.x, .int .i64 s.at_.y, .int .i64 s.width, .int .i64 s.height, .int .i64 s.cols, .int .i64 s.rows] 30) := ⟨_, rfl⟩
 have HB0 := Lib.hid (show Below w.heap.size w W by rw [hW]; exact bA (bA (bR w) _) _)
 have X3 : Blk W s0 26 #[.slice An nn cn, .slice Aa la ca, .slice Af nf cf] := by rw [hW]; exact (Blk.made hs0.symm _ _).alloc _
 have X4 : Blk W g4 30 #[.int .i64 s.at_.x, .int .i64 s.at_.y, .int .i64 s.width, .int .i64 s.height, .int .i64 s.cols, .int .i64 s.rows] := by rw [hW]; exact Blk.made (by simp; omega) _ _
 go_enter Tryz.func7, Tryz.ntmps7
 go_upto_region 1 with fail
 try rw [← hW]
 clear hW hs0 h4
 obtain ⟨X3l, X3a, X3b, X3c, -, -, -⟩ := X3.facts3
 go_wp2_with fail
 refine (HFew.out _ HB0.out).mono ?_
 rintro e w1 ⟨rfl, hb1⟩
 have HB1 := Lib.hid (bT HB0.out hb1)
 replace X3 := X3.keep hb1
 replace X4 := X4.keep hb1
 clear hb1
 cases f1
 ·
  go_wp2_with fail
  refine (HAw.out _).mono ?_
  rintro e w2 ⟨rfl, hb2⟩
  go_wp2_with fail
  go_ret
  exact ⟨rfl, bT HB1.out hb2⟩
 have hsm := few_smP HFw.out (by omega)
 replace HP1 := Lib.hid (HP1.out hsm)
 have hla2 : la ≤ 1000 := by have := hsm.arcs; have := Hpl.out; have := HLa.out; omega
 have HSm := Lib.hid hsm
 clear hsm
 try clear X3l
 try clear X3a
 try clear X3b
 try clear X3c
 have HX3 := Lib.hid X3; have HX4 := Lib.hid X4
 try clear X3l
 try clear X3a
 try clear X3b
 try clear X3c
 obtain ⟨X3l, X3a, X3b, X3c, -, -, -⟩ := X3.facts3
 obtain ⟨X4l, X4a, X4b, X4c, X4d, X4e, X4f, -, -, -, -, -, -⟩ := X4.facts6
 go_wp2_with fail
 refine (HP1.out _ HB1.out).mono ?_
 rintro e w2 ⟨A, m, c, A', m', c', rfl, hb2, hx1⟩
 have HB2 := Lib.hid (bT HB1.out hb2)
 have HX32 := Lib.hid (HX3.out.keep hb2); have HX42 := Lib.hid (HX4.out.keep hb2)
 have HV1 := Lib.hid hx1
 clear hb2 HB1 hx1 X3 X3l X3a X3b X3c X4 X4l X4a X4b X4c X4d X4e X4f HX3 HX4
 go_upto_region 4 with fail
 obtain ⟨g7, h7⟩ : ∃ g, w2.heap.size = g := ⟨_, rfl⟩
 obtain ⟨W3, hW3⟩ : ∃ W : World, W = w2.alloc (.cells #[.int .i64 x.sheet, .slice A m c, .slice A' m' c'] 35) := ⟨_, rfl⟩
 have X7 : Blk W3 g7 35 #[.int .i64 x.sheet, .slice A m c, .slice A' m' c'] := by rw [hW3]; exact Blk.made h7.symm _ _
 have hA3 : Below w2.heap.size w2 W3 := by rw [hW3]; exact bA (bR w2) _
 have HB3 := Lib.hid (bT HB2.out hA3)
 have HX73 := Lib.hid X7; have HV13 := Lib.hid (HV1.out.mono hA3)
 have HX33 := Lib.hid (HX32.out.keep hA3); have HX43 := Lib.hid (HX42.out.keep hA3)
 rw [← hW3]
 try rw [h7]
 clear hW3 h7 hA3 HV1 HB2 HX32 HX42
 obtain ⟨X7l, X7a, X7b, X7c, -, -, -⟩ := X7.facts3
 by_cases hz : z = 0
 case neg =>
  have hne : (z != 0) = true := by simpa using hz
  clear hz
  go_wp2_with fail
  refine (HAw.out _).mono ?_
  rintro e w6 ⟨rfl, hb6⟩
  have HB6 := Lib.hid (bT HB3.out hb6)
  clear hb6
  go_wp2_with fail
  go_ret
  exact ⟨rfl, HB6.out⟩
 subst hz
 obtain ⟨hVd, hIn, hFe, hxs⟩ := partRes_ok HR.out
 have hbr : boxRes s n = (boxOf s n, 0) := by unfold boxRes; rw [if_pos hFe]
 have hlt := hIn.smB.2
 have HFe := Lib.hid hFe
 have HVd := Lib.hid hVd
 have HDl := Lib.hid (show ∀ i (hi : i < p.arcs.length), piecesS p.arcs[i].id (pathS p p.arcs[i]) (boxOf s n) = [] → partRes ⟨p.nodes, del p.arcs i, p.faces⟩ s n = (x, 0) from fun i hi h => by rw [partRes_del hVd hFe hi h, hxs])
 obtain ⟨bx, hbx⟩ : ∃ bx, boxOf s n = bx := ⟨_, rfl⟩
 rw [hbx] at hbr hlt hxs HDl
 rw [hbr] at HBx
 unfold boxV bxV at HBx
 have HPa := Lib.hid (show ∀ a ∈ p.arcs, x.pieces.filter (fun y => decide (y.arc = a.id)) = piecesS a.id (pathS p a) bx from fun a ha => by rw [hxs]; exact pieces_arc hVd hlt.1 hlt.2 n ha)
 clear hVd hIn hFe hxs hbr hlt hbx HR
 obtain ⟨vp, vm, pl, he, hpl, ⟨⟨Ap, cp, hv, hp1, hp2, hRp⟩, hVp⟩, -⟩ := HV13.out
 obtain ⟨f1, f2⟩ : Value.slice A m c = vp ∧ Value.slice A' m' c' = vm := by simpa using he
 rw [hv] at f1
 injection f1 with k1 k2 k3
 subst k1 k2 k3
 unfold maxLen at hp2
 have HPl := Lib.hid hpl
 have HRp := Lib.hid hRp; have HVp := Lib.hid hVp
 obtain ⟨M, hM⟩ : ∃ M, pl.length = M := ⟨_, rfl⟩
 have HM := Lib.hid hM
 rw [hM] at hp1 X7 X7b HX73 HV13 ⊢
 clear he hv hpl hRp hVp hM f2
 have X4 := HX43.out
 try clear X4l
 try clear X4a
 try clear X4b
 try clear X4c
 try clear X4d
 try clear X4e
 try clear X4f
 obtain ⟨X4l, X4a, X4b, X4c, X4d, X4e, X4f, -, -, -, -, -, -⟩ := X4.facts6
 go_wp2_with fail
 refine (HBx.out _).mono ?_
 rintro e w4 ⟨rfl, hb4⟩
 obtain ⟨g9, h9⟩ : ∃ g, w4.heap.size = g := ⟨_, rfl⟩
 obtain ⟨W5, hW5⟩ : ∃ W : World, W = w4.alloc (.cells #[.int .i64 bx.x0, .int .i64 bx.y0, .int .i64 bx.x1, .int .i64 bx.y1] 50) := ⟨_, rfl⟩
 have hA5 : Below W3.heap.size W3 W5 := by rw [hW5]; exact bA hb4 _
 have HX95 := Lib.hid (show Blk W5 g9 50 #[.int .i64 bx.x0, .int .i64 bx.y0, .int .i64 bx.x1, .int .i64 bx.y1] by rw [hW5]; exact Blk.made h9.symm _ _)
 have HB5 := Lib.hid (bT HB3.out hA5)
 have HX75 := Lib.hid (HX73.out.keep hA5); have HX35 := Lib.hid (HX33.out.keep hA5); have HX45 := Lib.hid (HX43.out.keep hA5)
 have HRp5 := Lib.hid (HRp.out.mono hA5); have HV15 := Lib.hid (HV13.out.mono hA5)
 have HVp5 := Lib.hid (fun k (hk : k < pl.length) => (HVp.out k hk).mono hA5)
 clear hb4 X4 X4l X4a X4b X4c X4d X4e X4f X7 X7l X7a X7b X7c hA5 HB3 HX73 HX33 HX43 HV13 HRp HVp HBx
 go_upto_region 7 with fail
 try rw [← hW5]
 try rw [h9]
 clear hW5 h9
 go_wp2_with fail
 go_loopw [11] (fun u wr => ∃ k : Nat, k ≤ la ∧ u = .int .i64 k ∧ Below W5.heap.size W5 wr) (fun u _ => la - (intOf u).toNat)
 case atStart => exact ⟨0, Nat.zero_le _, rfl, bR W5⟩
 case round =>
  obtain ⟨i, hi, rfl, hb⟩ := hrel
  have Hb := Lib.hid hb
  have X3 := HX35.out.keep hb
  have HBw := Lib.hid (bT HB5.out hb)
  clear hb
  by_cases hil : i < la
  case neg =>
   have r2 : ¬ (i : Int) < la := by omega
   try clear X3l
   try clear X3a
   try clear X3b
   try clear X3c
   obtain ⟨X3l, X3a, X3b, X3c, -, -, -⟩ := X3.facts3
   go_wp2_with fail
   refine (HAw.out _).mono ?_
   rintro e w6 ⟨rfl, hb6⟩
   have HB6 := Lib.hid (bT HBw.out hb6)
   clear hb6
   go_wp2_with fail
   go_ret
   exact ⟨rfl, HB6.out⟩
  have hib : i < bl.length := by rw [HLa.out]; exact hil
  have hip : i < p.arcs.length := by rw [Hpl.out]; exact hib
  obtain ⟨Az, cz, hez, -, -, hRz⟩ := HRa.out
  injection hez with e1 e2 e3
  subst e1 e3
  clear e2
  obtain ⟨bz, oz, rfl, hlz, z0, -, -, -, -, -⟩ := hRz.as_ hib
  have hai : p.arcs[i] = bl[i].1 := by simp only [Hres.out, List.getElem_map]
  have hmem : p.arcs[i] ∈ p.arcs := List.getElem_mem hip
  have HDi := Lib.hid (HDl.out i hip)
  have HPi := Lib.hid (HPa.out _ hmem)
  have HWh := Lib.hid (fun (b : Bx) hb => whole_one (b := b) HVd.out hmem hb)
  have TP : ∀ W, Below w.heap.size w W → Calls Tryz.prog 26 #[.agg #[.slice An nn cn, .slice (some ⟨bz, oz, none⟩) la ca, .slice Af nf cf], .int .i64 p.arcs[i].id] W (RetPathE W (some (pathS p p.arcs[i]))) := fun W hW => by
   have := RPath_spec _ p p.arcs[i].id W (HP.out.mono hW) HSm.out.short
   rw [HVd.out.sound.path hmem] at this
   exact this
  have HPt := Lib.hid TP
  have hvia := HSm.out.via _ hmem
  have hpl2 : (pathS p p.arcs[i]).length ≤ 1002 := by rw [pathS_length]; omega
  have hpl1 : 2 ≤ (pathS p p.arcs[i]).length := by rw [pathS_length]; omega
  rw [← hai] at z0
  obtain ⟨ida, hida⟩ : ∃ d, p.arcs[i].id = d := ⟨_, rfl⟩
  rw [hida] at z0 HDi HPi HPt HWh
  obtain ⟨path, hpath⟩ : ∃ l, pathS p p.arcs[i] = l := ⟨_, rfl⟩
  rw [hpath] at HDi HPi HPt HWh hpl1 hpl2
  obtain ⟨F, hF⟩ : ∃ F, piecesS ida path bx = F := ⟨_, rfl⟩
  have HBs := Lib.hid (fun hh => (hF.symm.trans (pieces_beside hh) : F = []))
  have HIn := Lib.hid (fun hh => (hF.symm.trans (HWh.out bx hh) : F = [⟨ida, path, 0, 0⟩]))
  rw [hF] at HDi HPi
  have Hz0 := Lib.hid z0
  clear hai hmem TP hvia hida hpath hF HWh hRz
  have c0 := keepc HBw.out z0
  have hlzr : bz < wr.heap.size := Nat.lt_of_lt_of_le hlz HBw.out.size
  have r1 : 0 ≤ (i : Int) := by omega
  have r2 : (i : Int) < la := by omega
  try clear X3l
  try clear X3a
  try clear X3b
  try clear X3c
  obtain ⟨X3l, X3a, X3b, X3c, -, -, -⟩ := X3.facts3
  go_upto_region 10 with fail
  refine rg_start (Since wr) (.run 7 0 0 (.call 7 255 (.run 5 8 255 (.done)))) (by kernel_rfl) (bD (bR _)) (by kernel_rfl) (by kernel_rfl) (Nat.le_of_ble_eq_true (by kernel_rfl)) ?_
  intro opsR QR Hops HQrg hS
  iterate 7
   apply rg_p; exact Hops; exact rfl; exact hS; exact rfl
   · intro _ hqc; go_simp; try rfl
   try simp only [pu]
  refine rg_call (i := 7) (get_of Hops rfl) (fun K hK => ?_)
  have HSrg := Lib.hid hS; clear hS
  refine rg_run (wanted_plain rfl) ?_
  go_simp
  refine (HPt.out _ (bT HBw.out HSrg.out)).mono ?_
  rintro e wr1 ⟨A1, cp1, rfl, hbr1, hop⟩
  have hS : Since wr wr1 := bT (w := wr) HSrg.out hbr1
  clear HSrg
  refine hK.out _ _ hS (fun _ => ?_)
  clear hK K
  try simp only [pu]
  iterate 5
   apply rg_p; exact Hops; exact rfl; exact hS; exact rfl
   · intro _ hqc; go_simp; try rfl
   try simp only [pu]
  refine rg_done ?_
  refine HQrg.down _ _ ?_
  have hB : Below wr.heap.size wr wr1 := hS
  clear hS HQrg Hops
  simp only [Option.getD_some, Option.isSome_some, if_true]
  simp only [Option.getD_some] at hop
  obtain ⟨wP, hwP⟩ : ∃ wP : World, wP = wr1 := ⟨_, rfl⟩
  rw [← hwP] at hB hop ⊢
  have HPth := Lib.hid (show Pts wP (.slice A1 path.length cp1) path from hop.sl)
  have HbP := Lib.hid (bT Hb.out hB)
  clear hB hop hwP hbr1 X3 X3l X3a X3b X3c c0 hlzr z0
  go_wp2_with fail
  refine (bounds41_spec _ path wP HPth.out (by omega)).mono ?_
  rintro e wB ⟨rfl, hbB⟩
  unfold bxV
  obtain ⟨cB, hcB⟩ : ∃ b, bdBox path = b := ⟨_, rfl⟩
  rw [hcB] at HBs HIn ⊢
  go_upto_region 12 with fail
  obtain ⟨g14, h14⟩ : ∃ g, wB.heap.size = g := ⟨_, rfl⟩
  obtain ⟨W14, hW14⟩ : ∃ W : World, W = wB.alloc (.cells #[.int .i64 cB.x0, .int .i64 cB.y0, .int .i64 cB.x1, .int .i64 cB.y1] 50) := ⟨_, rfl⟩
  have hA14 : Below wP.heap.size wP W14 := by rw [hW14]; exact bA hbB _
  have HX14 := Lib.hid (show Blk W14 g14 50 #[.int .i64 cB.x0, .int .i64 cB.y0, .int .i64 cB.x1, .int .i64 cB.y1] by rw [hW14]; exact Blk.made h14.symm _ _)
  rw [← hW14]
  try rw [h14]
  have Hb14 := Lib.hid (bT HbP.out hA14)
  have HPth14 := Lib.hid (HPth.out.mono hA14)
  clear hW14 h14 hcB hbB hA14 HPth HbP
  have hlp : path.length ≤ 1002 := hpl2
  go_upto_block 2 with fail
  go_cut [15, 16] (fun a u wx => a = .int .i64 (F.length : Nat) ∧ u = .bool (sameOf path F) ∧ Below W14.heap.size W14 wx)
  case first =>
   as_aux_lemma =>
    go_wp2_with fail
    go_loopw [15, 16, 17] (fun a u t wx => ∃ (k : Nat) (S : Bool) (G : List Pc), k ≤ M ∧ t = .int .i64 k ∧ a = .int .i64 (G.length : Nat) ∧ u = .bool S ∧ G = (x.pieces.take k).filter (fun y => decide (y.arc = ida)) ∧ G.length ≤ k ∧ S = sameOf path G ∧ Below W14.heap.size W14 wx) (fun _ _ t _ => M - (intOf t).toNat)
    case atStart => exact ⟨0, false, [], Nat.zero_le _, rfl, rfl, rfl, rfl, Nat.le_refl _, rfl, bR W14⟩
    case round =>
     rename_i wr0
     obtain ⟨k, S, G, hk, rfl, rfl, rfl, hG, hGl, hS, hb2⟩ := hrel
     have Hb2 := Lib.hid hb2; have HG := Lib.hid hG; have HS := Lib.hid hS
     have HbT := Lib.hid (bT Hb14.out hb2)
     have X7 := HX75.out.keep HbT.out
     have X3 := HX35.out.keep HbT.out
     clear hb2 hG hS
     by_cases hkM : k < M
     ·
      have hkl : k < pl.length := by rw [HM.out]; exact hkM
      obtain ⟨bp, op, rfl, hlp2, c0, c1, c2, c3⟩ := (HRp5.out.mono HbT.out).pc hkl
      have hvp := (HVp5.out k hkl).mono HbT.out
      have TSP := fun W (hW : Below wr.heap.size wr W) => SamePath_spec pl[k].2 (.slice A1 path.length cp1) pl[k].1.path path W (hvp.mono hW) ((HPth14.out.mono Hb2.out).mono hW)
      obtain ⟨Py, cy, hvy, -⟩ := hvp
      rw [hvy] at TSP c1
      have hxl : k < x.pieces.length := by rw [HPl.out, List.length_map]; exact hkl
      have hxk : x.pieces[k] = pl[k].1 := by simp [HPl.out]
      have HGs := Lib.hid (show (x.pieces.take (k + 1)).filter (fun y => decide (y.arc = ida)) = G ++ (if pl[k].1.arc = ida then [pl[k].1] else []) by
       rw [List.take_succ_eq_append_getElem hxl, List.filter_append, ← HG.out, hxk]
       congr 1
       by_cases hz : pl[k].1.arc = ida
       · rw [if_pos hz]; simp [hz]
       · rw [if_neg hz]; simp [hz])
      have HSo := Lib.hid (sameOf_snoc path G pl[k].1)
      obtain ⟨y, hy⟩ : ∃ y, pl[k].1 = y := ⟨_, rfl⟩
      rw [hy] at TSP c0 c1 c2 c3 HGs HSo
      obtain ⟨zz, hzz⟩ : ∃ z, decide (y.path = path) = z := ⟨_, rfl⟩
      rw [hzz] at TSP HSo
      have HSP := Lib.hid TSP
      clear hvy hy hzz TSP hxl hxk
      generalize y.path.length = ly at *
      have z1 := keepc (bT HB5.out HbT.out) Hz0.out
      have hlz2 : bz < wr.heap.size := Nat.lt_of_lt_of_le hlz (bT HB5.out HbT.out).size
      have HC := Lib.hid (⟨c1, c2, c3⟩ : _ ∧ _ ∧ _)
      have v2 : 0 ≤ (k : Int) := by omega
      have v3 : (k : Int) < M := by omega
      obtain ⟨e, he⟩ : ∃ e, (y.arc == ida) = e := ⟨_, rfl⟩
      have HE := Lib.hid he
      try clear X3l
      try clear X3a
      try clear X3b
      try clear X3c
      obtain ⟨X3l, X3a, X3b, X3c, -, -, -⟩ := X3.facts3
      try clear X7l
      try clear X7a
      try clear X7b
      try clear X7c
      obtain ⟨X7l, X7a, X7b, X7c, -, -, -⟩ := X7.facts3
      go_upto_region 16 with fail
      refine rg_start (Since wr) (.run 13 0 0 (.done)) (by kernel_rfl) (bD (bR _)) (by kernel_rfl) (by kernel_rfl) (Nat.le_of_ble_eq_true (by kernel_rfl)) ?_
      intro opsR QR Hops HQrg hS
      iterate 13
       apply rg_p; exact Hops; exact rfl; exact hS; exact rfl
       · intro _ hqc; go_simp; try rfl
       try simp only [pu]
      refine rg_done ?_
      refine HQrg.down _ _ ?_
      have hB : Below wr.heap.size wr wr.drew := hS
      clear hS HQrg Hops
      obtain ⟨wQ, hwQ⟩ : ∃ wQ : World, wQ = wr.drew := ⟨_, rfl⟩
      rw [← hwQ] at hB ⊢
      have HbQ := Lib.hid hB
      have Hb3 := Lib.hid (bT Hb2.out hB)
      have hlp3 : bp < wQ.heap.size := Nat.lt_of_lt_of_le hlp2 hB.size
      clear hB hwQ he X3 X3l X3a X3b X3c X7 X7l X7a X7b X7c c0 c1 c2 c3 z1 hlz2 hlp2
      cases e
      ·
       have HG2 := Lib.hid (show G = (x.pieces.take (k + 1)).filter (fun y => decide (y.arc = ida)) by rw [HGs.out, if_neg (by have := HE.out; simpa using this)]; simp)
       go_wp2_with fail
       go_roundw
       case rel => exact ⟨k + 1, S, G, by omega, by go_num, rfl, rfl, HG2.out, by omega, HS.out, Hb3.out⟩
       case measure => simp [intOf]; omega
      ·
       have HG2 := Lib.hid (show G ++ [y] = (x.pieces.take (k + 1)).filter (fun y => decide (y.arc = ida)) by rw [HGs.out, if_pos (by have := HE.out; simpa using this)])
       have X7 := HX75.out.keep (bT HbT.out HbQ.out)
       have c1 := keepc HbQ.out HC.out.1
       have c2 := keepc HbQ.out HC.out.2.1
       have c3 := keepc HbQ.out HC.out.2.2
       have hwr : IntKind.i64.wrap ((G.length : Int) + 1) = (G.length : Int) + 1 := IntWalk.i64_in _ (by omega)
       have hGl1 : (G ++ [y]).length = G.length + 1 := by simp
       have HGl1 := Lib.hid hGl1
       clear hGl1
       obtain ⟨ze, hze⟩ : ∃ z, (y.enter == 0) = z := ⟨_, rfl⟩
       obtain ⟨zl, hzl⟩ : ∃ z, (y.leave == 0) = z := ⟨_, rfl⟩
       rw [hze, hzl] at HSo
       try clear X7l
       try clear X7a
       try clear X7b
       try clear X7c
       obtain ⟨X7l, X7a, X7b, X7c, -, -, -⟩ := X7.facts3
       cases zz
       ·
        clear hze hzl
        go_upto_region 17 with fail
        refine rg_start (Since wQ) (.run 9 0 0 (.call 9 1023 (.run 20 10 1023 (.done)))) (by kernel_rfl) (bD (bR _)) (by kernel_rfl) (by kernel_rfl) (Nat.le_of_ble_eq_true (by kernel_rfl)) ?_
        intro opsR QR Hops HQrg hS
        iterate 9
         apply rg_p; exact Hops; exact rfl; exact hS; exact rfl
         · intro _ hqc; go_simp; try rfl
         try simp only [pu]
        refine rg_call (i := 9) (get_of Hops rfl) (fun K hK => ?_)
        have HSrg := Lib.hid hS; clear hS
        refine rg_run (wanted_plain rfl) ?_
        go_simp
        refine (HSP.out _ (bT HbQ.out HSrg.out)).mono ?_
        rintro e wr1 ⟨rfl, hbr1⟩
        have hS : Since wQ wr1 := bT (w := wQ) HSrg.out hbr1
        clear HSrg
        refine hK.out _ _ hS (fun _ => ?_)
        clear hK K
        try simp only [pu]
        apply rg_p; exact Hops; exact rfl; exact hS; exact rfl
        · intro _ hqc; go_simp; try rfl
        try simp only [pu]
        iterate 7
         refine rg_yn Hops rfl hS rfl rfl rfl rfl rfl ?_
         try simp only [pu]
        iterate 2
         apply rg_p; exact Hops; exact rfl; exact hS; exact rfl
         · intro _ hqc; go_simp; try rfl
         try simp only [pu]
        iterate 7
         refine rg_yn Hops rfl hS rfl rfl rfl rfl rfl ?_
         try simp only [pu]
        iterate 3
         apply rg_p; exact Hops; exact rfl; exact hS; exact rfl
         · intro _ hqc; go_simp; try rfl
         try simp only [pu]
        refine rg_done ?_
        refine HQrg.down _ _ ?_
        have hB : Below wQ.heap.size wQ wr1 := hS
        clear hS HQrg Hops
        go_wp2_with fail
        go_roundw
        case rel => exact ⟨k + 1, false, G ++ [y], by omega, by go_num, by rw [HGl1.out]; go_num, rfl, HG2.out, by rw [HGl1.out]; omega, by rw [HSo.out]; rfl, bT Hb3.out hB⟩
        case measure => simp [intOf]; omega
       ·
        cases ze
        ·
         clear hzl
         go_upto_region 17 with fail
         refine rg_start (Since wQ) (.run 9 0 0 (.call 9 1023 (.run 20 10 1023 (.done)))) (by kernel_rfl) (bD (bR _)) (by kernel_rfl) (by kernel_rfl) (Nat.le_of_ble_eq_true (by kernel_rfl)) ?_
         intro opsR QR Hops HQrg hS
         iterate 9
          apply rg_p; exact Hops; exact rfl; exact hS; exact rfl
          · intro _ hqc; go_simp; try rfl
          try simp only [pu]
         refine rg_call (i := 9) (get_of Hops rfl) (fun K hK => ?_)
         have HSrg := Lib.hid hS; clear hS
         refine rg_run (wanted_plain rfl) ?_
         go_simp
         refine (HSP.out _ (bT HbQ.out HSrg.out)).mono ?_
         rintro e wr1 ⟨rfl, hbr1⟩
         have hS : Since wQ wr1 := bT (w := wQ) HSrg.out hbr1
         clear HSrg
         refine hK.out _ _ hS (fun _ => ?_)
         clear hK K
         try simp only [pu]
         apply rg_p; exact Hops; exact rfl; exact hS; exact rfl
         · intro _ hqc; go_simp; try rfl
         try simp only [pu]
         iterate 7
          apply rg_g; exact Hops; exact rfl; exact hS; iterate 4 exact rfl
          · intro _ hqc; go_simp; try rfl
          try simp only [pu]
         iterate 2
          apply rg_p; exact Hops; exact rfl; exact hS; exact rfl
          · intro _ hqc; go_simp; try rfl
          try simp only [pu]
         iterate 7
          refine rg_yn Hops rfl hS rfl rfl rfl rfl rfl ?_
          try simp only [pu]
         iterate 3
          apply rg_p; exact Hops; exact rfl; exact hS; exact rfl
          · intro _ hqc; go_simp; try rfl
          try simp only [pu]
         refine rg_done ?_
         refine HQrg.down _ _ ?_
         have hB : Below wQ.heap.size wQ wr1 := hS
         clear hS HQrg Hops
         go_wp2_with fail
         go_roundw
         case rel => exact ⟨k + 1, false, G ++ [y], by omega, by go_num, by rw [HGl1.out]; go_num, rfl, HG2.out, by rw [HGl1.out]; omega, by rw [HSo.out]; rfl, bT Hb3.out hB⟩
         case measure => simp [intOf]; omega
        ·
         go_upto_region 17 with fail
         refine rg_start (Since wQ) (.run 9 0 0 (.call 9 1023 (.run 20 10 1023 (.done)))) (by kernel_rfl) (bD (bR _)) (by kernel_rfl) (by kernel_rfl) (Nat.le_of_ble_eq_true (by kernel_rfl)) ?_
         intro opsR QR Hops HQrg hS
         iterate 9
          apply rg_p; exact Hops; exact rfl; exact hS; exact rfl
          · intro _ hqc; go_simp; try rfl
          try simp only [pu]
         refine rg_call (i := 9) (get_of Hops rfl) (fun K hK => ?_)
         have HSrg := Lib.hid hS; clear hS
         refine rg_run (wanted_plain rfl) ?_
         go_simp
         refine (HSP.out _ (bT HbQ.out HSrg.out)).mono ?_
         rintro e wr1 ⟨rfl, hbr1⟩
         have hS : Since wQ wr1 := bT (w := wQ) HSrg.out hbr1
         clear HSrg
         refine hK.out _ _ hS (fun _ => ?_)
         clear hK K
         try simp only [pu]
         apply rg_p; exact Hops; exact rfl; exact hS; exact rfl
         · intro _ hqc; go_simp; try rfl
         try simp only [pu]
         iterate 7
          apply rg_g; exact Hops; exact rfl; exact hS; iterate 4 exact rfl
          · intro _ hqc; go_simp; try rfl
          try simp only [pu]
         iterate 2
          apply rg_p; exact Hops; exact rfl; exact hS; exact rfl
          · intro _ hqc; go_simp; try rfl
          try simp only [pu]
         iterate 7
          apply rg_g; exact Hops; exact rfl; exact hS; iterate 4 exact rfl
          · intro _ hqc; go_simp; try rfl
          try simp only [pu]
         iterate 3
          apply rg_p; exact Hops; exact rfl; exact hS; exact rfl
          · intro _ hqc; go_simp; try rfl
          try simp only [pu]
         refine rg_done ?_
         refine HQrg.down _ _ ?_
         have hB : Below wQ.heap.size wQ wr1 := hS
         clear hS HQrg Hops
         go_wp2_with fail
         go_roundw
         case rel => exact ⟨k + 1, zl, G ++ [y], by omega, by go_num, by rw [HGl1.out]; go_num, rfl, HG2.out, by rw [HGl1.out]; omega, by rw [HSo.out]; rfl, bT Hb3.out hB⟩
         case measure => simp [intOf]; omega
     ·
      have HGF := Lib.hid (show G = F by rw [HG.out, List.take_of_length_le (by rw [HPl.out, List.length_map, HM.out]; omega), HPi.out])
      have v3 : ¬ (k : Int) < M := by omega
      try clear X7l
      try clear X7a
      try clear X7b
      try clear X7c
      obtain ⟨X7l, X7a, X7b, X7c, -, -, -⟩ := X7.facts3
      go_wp2_with fail
      go_meet
      case rel => exact ⟨by rw [HGF.out], by rw [HS.out, HGF.out], Hb2.out⟩
  case rest =>
  obtain ⟨rfl, rfl, hbc⟩ := hcut
  obtain ⟨wC, hwC⟩ : ∃ wC : World, wC = wc := ⟨_, rfl⟩
  rw [← hwC] at hbc ⊢
  have HbC := Lib.hid (bT Hb14.out hbc)
  have X14 := HX14.out.keep hbc; have X9 := HX95.out.keep HbC.out
  clear hwC hbc
  obtain ⟨T, hT⟩ : ∃ T, F.length = T := ⟨_, rfl⟩
  obtain ⟨S, hS⟩ : ∃ S, sameOf path F = S := ⟨_, rfl⟩
  rw [hT, hS]
  have HI2 := Lib.hid (fun hh => (by
   have hF := HIn.out hh
   rw [← hT, ← hS, hF]
   exact ⟨rfl, by unfold sameOf; simp⟩ : T = 1 ∧ S = true))
  have HB2 := Lib.hid (fun (hh : beside cB bx) => (by rw [← hT, HBs.out hh]; rfl : T = 0))
  clear hT hS
  obtain ⟨X14l, X14a, X14b, X14c, X14d, -, -, -, -⟩ := X14.facts4
  obtain ⟨X9l, X9a, X9b, X9c, X9d, -, -, -, -⟩ := X9.facts4
  go_upto_region 18 with fail
  go_cut [142] (fun u wx => u = .bool false ∧ wx = wC)
  case first =>
   as_aux_lemma =>
    by_cases k1 : bx.x0 ≤ cB.x0
    ·
     by_cases k2 : cB.x1 ≤ bx.x1
     ·
      by_cases k3 : bx.y0 ≤ cB.y0
      ·
       by_cases k4 : cB.y1 ≤ bx.y1
       ·
        obtain ⟨t1, t2⟩ := HI2.out ⟨k1, k2, k3, k4⟩
        subst t1 t2
        go_wp2_with fail
        go_meet
        case rel => exact ⟨rfl, rfl⟩
       ·
        go_wp2_with fail
        go_meet
        case rel => exact ⟨rfl, rfl⟩
      ·
       go_wp2_with fail
       go_meet
       case rel => exact ⟨rfl, rfl⟩
     ·
      go_wp2_with fail
      go_meet
      case rel => exact ⟨rfl, rfl⟩
    ·
     go_wp2_with fail
     go_meet
     case rel => exact ⟨rfl, rfl⟩
  case rest =>
  obtain ⟨rfl, hwc⟩ := hcut
  rw [hwc]
  clear hwc
  go_upto_region 20 with fail
  go_cut [168] (fun u wx => ∃ zb : Bool, u = .bool zb ∧ (zb = true → beside cB bx) ∧ wx = wC)
  case first =>
   as_aux_lemma =>
    by_cases k1 : cB.x1 < bx.x0
    ·
     go_wp2_with fail
     go_meet
     case rel => exact ⟨true, rfl, fun _ => .inl k1, rfl⟩
    ·
     by_cases k2 : bx.x1 < cB.x0
     ·
      go_wp2_with fail
      go_meet
      case rel => exact ⟨true, rfl, fun _ => .inr (.inl k2), rfl⟩
     ·
      by_cases k3 : cB.y1 < bx.y0
      ·
       go_wp2_with fail
       go_meet
       case rel => exact ⟨true, rfl, fun _ => .inr (.inr (.inl k3)), rfl⟩
      ·
       by_cases k4 : bx.y1 < cB.y1 ∧ bx.y1 < cB.y0
       ·
        have k5 := k4.2
        clear k4
        go_wp2_with fail
        go_meet
        case rel => exact ⟨true, rfl, fun _ => .inr (.inr (.inr k5)), rfl⟩
       ·
        by_cases k5 : bx.y1 < cB.y0
        ·
         clear k4
         go_wp2_with fail
         go_meet
         case rel => exact ⟨true, rfl, fun _ => .inr (.inr (.inr k5)), rfl⟩
        ·
         clear k4
         go_wp2_with fail
         go_meet
         case rel => exact ⟨false, rfl, (fun h => by cases h), rfl⟩
  case rest =>
  obtain ⟨zb, rfl, hzb, hwc⟩ := hcut
  rw [hwc]
  have HZb := Lib.hid hzb
  clear hwc hzb X14 X14l X14a X14b X14c X14d X9 X9l X9a X9b X9c X9d
  cases zb
  ·
   go_wp2_with fail
   go_roundw
   case rel => exact ⟨i + 1, by omega, by go_num, HbC.out⟩
   case measure => simp [intOf]; omega
  as_aux_lemma =>
   have hbs := HZb.out rfl
   have hT0 := HB2.out hbs
   have HF0 := Lib.hid (HDi.out (HBs.out hbs))
   subst hT0
   clear hbs
   have X3 := HX35.out.keep HbC.out
   have HX3C := Lib.hid X3
   try clear X3l
   try clear X3a
   try clear X3b
   try clear X3c
   obtain ⟨X3l, X3a, X3b, X3c, -, -, -⟩ := X3.facts3
   go_upto_region 22 with fail
   obtain ⟨W18, hW18⟩ : ∃ W : World, W = wC.alloc (.cells #[.slice An nn cn, .slice (some ⟨bz, oz, none⟩) la ca, .slice Af nf cf] 26) := ⟨_, rfl⟩
   have hA18 : Below wC.heap.size wC W18 := by rw [hW18]; exact bA (bR wC) _
   have hs18 : W18.heap.size = wC.heap.size + 1 := by rw [hW18]; simp
   have X18 : Blk W18 wC.heap.size 26 #[.slice An nn cn, .slice (some ⟨bz, oz, none⟩) la ca, .slice Af nf cf] := by rw [hW18]; exact Blk.made rfl _ _
   try rw [← hW18]
   have X3' := HX3C.out.keep hA18
   have HX18 := Lib.hid X18; have HX3' := Lib.hid X3'
   have HbD := Lib.hid (bT HbC.out hA18)
   have HBD := Lib.hid (bT HB5.out HbD.out)
   have HA18 := Lib.hid hA18
   have hx3w : s0 < wC.heap.size := HX3C.out.lt
   clear hW18 hA18 X3 X3l X3a X3b X3c
   have hs3' : wC.heap.size + 1 ≤ W18.heap.size := by omega
   have hs3'' : W18.heap.size ≤ wC.heap.size + 1 := by omega
   have Hpre := Lib.hid (show Sl W18 (.slice (some ⟨bz, oz, none⟩) i ca) (bl.take i).length ((bl.take i).flatMap arS) from ((show Sl w (.slice (some ⟨bz, oz, none⟩) bl.length ca) bl.length (bl.flatMap arS) by rw [HLa.out]; exact HRa.out).mono HBD.out).pre_ i (by omega))
   obtain ⟨Ac, hAc⟩ : ∃ Ac, Ac = cutA (some ⟨bz, oz, none⟩) ca (i + 1) 6 := ⟨_, rfl⟩
   have Hsuf := Lib.hid (show Sl W18 (.slice Ac (la - (i + 1)) (ca - (i + 1))) (bl.drop (i + 1)).length ((bl.drop (i + 1)).flatMap arS) by rw [hAc, ← HLa.out]; exact ((show Sl w (.slice (some ⟨bz, oz, none⟩) bl.length ca) bl.length (bl.flatMap arS) by rw [HLa.out]; exact HRa.out).mono HBD.out).suf_ arS_len i hib)
   have hrun1 := run_pre Tryz.underlying23 sizeOf_ar41 (some ⟨bz, oz, none⟩) la ca i (by omega) ha1
   have hrun2 := run_cut Tryz.underlying23 sizeOf_ar41 (some ⟨bz, oz, none⟩) la ca (i + 1) (by omega) ((i : Int) + 1) (by omega)
   rw [← hAc] at hrun2
   have hlt1 : (bl.take i).length ≤ 1000 := by rw [List.length_take]; omega
   have hlt2 : (bl.drop (i + 1)).length ≤ 1000 := by rw [List.length_drop]; have := HLa.out; omega
   have hiw : 0 ≤ (i : Int) ∧ (i : Int) ≤ 1000 := by omega
   have q0 : 0 ≤ (i : Int) := by omega
   have q1 : (i : Int) ≤ la := by omega
   have q2 : 0 ≤ (i : Int) + 1 := by omega
   have q3 : (i : Int) + 1 ≤ la := by omega
   have hw1 : IntKind.i64.wrap ((i : Int) + 1) = (i : Int) + 1 := IntWalk.i64_in _ (by omega)
   clear hAc hs18
   try clear X3'l
   try clear X3'a
   try clear X3'b
   try clear X3'c
   try clear X3'fa
   try clear X3'fb
   try clear X3'fc
   obtain ⟨X3'l, X3'a, X3'b, X3'c, -, -, -⟩ := X3'.facts3
   obtain ⟨X18l, X18a, X18b, X18c, X18fa, X18fb, X18fc⟩ := X18.facts3
   refine rg_start (SinceB (wC.heap.size) W18) (.run 4 1 0 (.run 5 6 30 (.call 0 2015 (.call 5 2047 (.call 11 4095 (.take 12 8191 (.call 13 16383 (.done)))))))) (by kernel_rfl) (Below.drew (Below.refl _ _)) (by kernel_rfl) (by kernel_rfl) (Nat.le_of_ble_eq_true (by kernel_rfl)) ?_
   intro opsR QR Hops HQrg hS
   iterate 9
    apply rg_pB; exact Hops; exact rfl; exact hS; exact rfl
    · intro _ hqc; go_simp; try rfl
    try simp only [pu]
   refine rg_call (i := 0) (get_of Hops rfl) (fun K hK => ?_)
   have HSrg := Lib.hid hS; clear hS
   refine rg_run (wanted_plain rfl) ?_
   go_simp
   refine hK.out _ _ (bAB (by omega) HSrg.out _) (fun hS => ?_)
   clear hK K HSrg
   try simp only [pu]
   refine rg_call (i := 5) (get_of Hops rfl) (fun K hK => ?_)
   have HSrg := Lib.hid hS; clear hS
   refine rg_run (wanted_plain rfl) ?_
   refine wp_appl (.tmp 170) (.tmp 174) _ rfl (base := wC.heap.size + 1) (l := ([] : List (Ar × SV))) (l2 := bl.take i) elem_ar arS_len arS_one rfl (Own.lit _ _ _ _ arS [] _ 0 _ (by simp) rfl (by first | omega | (simp; omega)) (le_maxLen (by omega)) rfl rfl) rfl (Hpre.out.mono (bA (bD (bR W18)) _)) (by have := hlt1; simp only [List.length_nil]; omega) (by have := hlt1; simp only [List.length_nil]; omega) (by simp; omega) ?_
   intro v91 w91 ho91 hg91 hat91
   replace ho91 : Own w91 (wC.heap.size + 1) 63 6 arS v91 (bl.take i) := ho91
   obtain ⟨A91, c91, hv91, -⟩ := Own.sl ho91
   subst hv91
   have hB91 : Below wC.heap.size W18 w91 := Below.grown (Below.alloc (Below.drew (Below.refl _ _)) (by first | omega | (simp; omega)) _) hg91 (by first | omega | (simp; omega)) (fun g hg => by have h := Option.some.inj hg; simp at h; omega)
   have hS : SinceB (wC.heap.size) W18 w91 := hB91
   have hW91 : Below W18.heap.size W18 w91 := bG (bA (bD (bR W18)) _) hg91 (fun g hg => by have h := Option.some.inj hg; simp at h; omega)
   have HW91 := Lib.hid hW91
   have HO91 := Lib.hid ho91
   have hz91 := hW91.size
   clear hB91 hW91 ho91 hg91 hat91
   clear HSrg
   refine hK.out _ _ hS (fun _ => ?_)
   clear hK K
   try simp only [pu]
   refine rg_call (i := 11) (get_of Hops rfl) (fun K hK => ?_)
   have HSrg := Lib.hid hS; clear hS
   refine rg_run (wanted_plain rfl) ?_
   refine wp_appl (.tmp 175) (.tmp 180) _ rfl (base := wC.heap.size + 1) (l := bl.take i) (l2 := bl.drop (i + 1)) elem_ar arS_len arS_one rfl HO91.out rfl (Hsuf.out.mono HW91.out) (by have := hlt1; have := hlt2; omega) (by have := hlt1; have := hlt2; omega) (by omega) ?_
   intro v92 w92 ho92 hg92 hat92
   replace ho92 : Own w92 (wC.heap.size + 1) 63 6 arS v92 (del bl i) := ho92
   obtain ⟨A92, c92, hv92, -⟩ := Own.sl ho92
   subst hv92
   have X6n := Blk.grown (HX18.out.keep HW91.out) hg92 (fun e => by have := (HO91.out.lt _ e.symm).1; omega)
   have hS : SinceB (wC.heap.size) W18 w92 := Below.grown (HW91.out.mono (by omega)) hg92 (by omega) (fun g hg => by have := (HO91.out.lt g hg).1; omega)
   have HX6n := Lib.hid X6n
   have HO92 := Lib.hid ho92
   obtain ⟨-, n0, n1, n2, nf0, nf1, nf2⟩ := X6n.facts3
   clear X6n ho92 hg92 hat92
   clear HSrg
   refine hK.out _ _ hS (fun _ => ?_)
   clear hK K
   try simp only [pu]
   apply rg_pB; exact Hops; exact rfl; exact hS; exact rfl
   · intro _ hqc; go_simp; try rfl
   try simp only [pu]
   refine rg_call (i := 13) (get_of Hops rfl) (fun K hK => ?_)
   have HSrg := Lib.hid hS; clear hS
   refine rg_run (wanted_plain rfl) ?_
   go_simp
   refine hK.out _ _ (by unfold SinceB; have h : Below _ _ _ := HSrg.out; repeat (first | with_reducible assumption | with_reducible exact Below.refl _ _ | with_reducible refine bSB ?_ (by first | omega | (simp; omega)) _ | with_reducible refine Below.drew ?_ | with_reducible refine bAB (by omega) ?_ _ | exact h)) ?_
   intro hS
   clear hK K HSrg
   try simp only [pu]
   refine rg_done ?_
   refine HQrg.down _ _ ?_
   have hB : Below (wC.heap.size) W18 _ := hS
   clear hS HQrg Hops
   obtain ⟨W4, hW4⟩ : ∃ W4 : World, W4 = w92.setCell ⟨wC.heap.size, 1, none⟩ (.slice A92 (del bl i).length c92) := ⟨_, rfl⟩
   have hB4 : Below wC.heap.size wC W4 := by rw [hW4]; exact HA18.out.trans hB
   have Y18 : Blk W4 wC.heap.size 26 #[.slice An nn cn, .slice A92 (del bl i).length c92, .slice Af nf cf] := by
    rw [hW4]
    have h := Blk.set_ HX6n.out 1 (.slice A92 (del bl i).length c92)
    simpa using h
   have ho4 : Own W4 (wC.heap.size + 1) 63 6 arS (.slice A92 (del bl i).length c92) (del bl i) := by
    rw [hW4]
    exact HO92.out.far (p := ⟨wC.heap.size, 1, none⟩) (fun e => by have := (HO92.out.lt _ e).1; simp only [] at this; omega) _
   rw [← hW4]
   have Hb4 := Lib.hid (bT HbC.out hB4)
   have HBw4 := Lib.hid (bT HB5.out Hb4.out)
   have HQ : Hid (PlV W4 (.agg #[.slice An nn cn, .slice A92 (del bl i).length c92, .slice Af nf cf]) ⟨p.nodes, del p.arcs i, p.faces⟩) := Lib.hid (by
    refine PlV.blocks (al := (del bl i).map svA) ?_ (by have := HN.out.mono HBw4.out; exact this) ?_ ?_ (by have := HF.out.mono HBw4.out; exact this)
    ·
     show del p.arcs i = _
     rw [Hres.out, List.map_map]
     unfold del
     rw [List.map_append, List.map_take, List.map_drop]
     rfl
    ·
     rw [arS_flat, List.length_map]
     exact Own.sl ho4
    ·
     intro k hk
     rw [List.length_map] at hk
     have hm : (del bl i)[k] ∈ bl := (del_sub bl i).subset (List.getElem_mem hk)
     obtain ⟨m, hm, e⟩ := List.mem_iff_getElem.1 hm
     rw [List.getElem_map, ← e]
     exact (HVk.out m hm).mono HBw4.out)
   have HPq := Lib.hid (show Calls Tryz.prog 12 #[.agg #[.slice An nn cn, .slice A92 (del bl i).length c92, .slice Af nf cf], .agg #[.int .i64 s.at_.x, .int .i64 s.at_.y, .int .i64 s.width, .int .i64 s.height, .int .i64 s.cols, .int .i64 s.rows], .int .i64 n] W4 (RetPrtR W4 x 0) by
    have h := (Part_spec _ _ s n W4 HQ.out (sm_del HSm.out i)).mono (fun _ _ h => h.rd)
    rw [HF0.out] at h
    exact h)
   have HY18 := Lib.hid Y18
   generalize (del bl i).length = ld at *
   clear hW4 hB ho4 hB4 n0 n1 n2 nf0 nf1 nf2 hrun1 hrun2 hw1 X3' X3'l X3'a X3'b X3'c X18 X18l X18a X18b X18c X18fa X18fb X18fc hlt1 hlt2
   have X4 := HX45.out.keep Hb4.out
   obtain ⟨Y18l, Y18a, Y18b, Y18c, -, -, -⟩ := Y18.facts3
   try clear X4l
   try clear X4a
   try clear X4b
   try clear X4c
   try clear X4d
   try clear X4e
   try clear X4f
   obtain ⟨X4l, X4a, X4b, X4c, X4d, X4e, X4f, -, -, -, -, -, -⟩ := X4.facts6
   go_wp2_with fail
   refine HPq.out.mono ?_
   rintro e w5 ⟨B1, k1, d1, B2, k2, d2, rfl, hb5, hx2⟩
   have Hb5 := Lib.hid (bT Hb4.out hb5)
   have X7 := HX75.out.keep Hb5.out
   have HVx := Lib.hid (HV15.out.mono Hb5.out); have HVy := Lib.hid hx2
   clear hb5 hx2 Y18 Y18l Y18a Y18b Y18c X4 X4l X4a X4b X4c X4d X4e X4f
   try clear X7l
   try clear X7a
   try clear X7b
   try clear X7c
   obtain ⟨X7l, X7a, X7b, X7c, -, -, -⟩ := X7.facts3
   go_wp2_with fail
   have hT := rSame41_spec (.agg #[.int .i64 x.sheet, .slice A M c, .slice A' m' c']) (.agg #[.int .i64 x.sheet, .slice B1 k1 d1, .slice B2 k2 d2]) x x (w5.alloc (.cells #[.int .i64 x.sheet, .slice B1 k1 d1, .slice B2 k2 d2] 35)) (HVx.out.mono (bA (bR w5) _)) (HVy.out.mono (bA (bR w5) _))
   rw [decide_self_] at hT
   refine hT.mono ?_
   clear hT
   rintro e w6 ⟨rfl, hb6⟩
   have Hb6 := Lib.hid (bT Hb5.out (bT (bA (bR w5) _) hb6))
   clear hb6
   go_wp2_with fail
   go_roundw
   case rel => exact ⟨i + 1, by omega, by go_num, Hb6.out⟩
   case measure => simp [intOf]; omega
end Go.Proofs.YtfondidmklmonaaGreat
