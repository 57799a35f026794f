/- clip.part. PLAIN: what each piece of a path in a box is. Plain law: reversing an arc does not change what Check gives. No walk here. -/
import Derived.Deep.CutBlock
import Derived.Test.YtfdbidagdjnipaaGreatDoorClipWI
import Derived.Test.YtfdbidagdjnipaaGreatDoorJ09
import Derived.Test.YtfdbidagdjnipaaGreatDoorJ14
import Derived.Test.YtfdbidagdjnipaaGreatDoorJ21
set_option linter.unusedSimpArgs false
set_option linter.unusedVariables false
namespace Go.Proofs.YtfdbidagdjnipaaGreatDoor
open Go.RowKit

/-- few elements: what bounds the walks -/
structure SmP (p : Pl) : Prop where
 arcs : p.arcs.length ≤ 1000
 nodes : p.nodes.length ≤ 1000
 via : ∀ a ∈ p.arcs, a.via.length ≤ 1000
theorem SmP.short {p : Pl} (h : SmP p) : Short p := fun a ha => by have := h.via a ha; omega
def partS (p : Pl) (sheet : Int) (b : Bx) : Prt := ⟨sheet, p.arcs.flatMap (fun a => piecesS a.id (pathS p a) b), p.nodes.filter (fun n => inB b n.pt)⟩
theorem pcs_len (arc : Int) (l : List Pt) (b : Bx) : (piecesS arc l b).length ≤ l.length + 1 := by
 unfold piecesS
 have h1 := (end_l (stAt arc b l (l.length - 1))).1
 have h2 := (stAt_l arc b l (l.length - 1)).1
 omega
/-- a part whose memory is the call's own -/
def PrtO (w : World) (B : Nat) (x : Prt) (vp vn : Value) : Prop :=
 ∃ L, PcsO w B vp L ∧ L.map (·.1) = x.pieces ∧ Own w B 93 3 ndC vn x.nodes
def RetPrt (w : World) (x : Prt) (e : Ending) (w' : World) : Prop :=
 ∃ A n c A' n' c', e = .returned (.agg #[.int .i64 x.sheet, .slice A n c, .slice A' n' c']) ∧ Below w.heap.size w w' ∧ PrtO w' w.heap.size x (.slice A n c) (.slice A' n' c')
theorem struct_prt : StructOf Tryz.prog 45 3 := .mk_ Tryz.underlying45 (by kernel_rfl)
theorem PcsO.drew {w : World} {B : Nat} {v : Value} {L : List (Pc × SV)} (h : PcsO w B v L) : PcsO w.drew B v L := h.keep (bD (bR w))
theorem PcsO.alloc {w : World} {B : Nat} {v : Value} {L : List (Pc × SV)} (h : PcsO w B v L) (o : Obj) : PcsO (w.alloc o) B v L := h.keep (bA (bR w) o)
theorem Own.drew {α : Type} {w : World} {base : Nat} {e : TypeId} {size : Nat} {f : α → List Value} {v : Value} {l : List α} (h : Own w base e size f v l) : Own w.drew base e size f v l := h.keep (bD (bR w))
set_option maxRecDepth 100000 in
set_option maxHeartbeats 16000000 in
theorem part_spec (v : Value) (p : Pl) (sheet : Int) (b : Bx) (w : World) (h : PlV w v p) (hV : Valid p) (hs : SmP p) (hx : smB b) :
  Calls Tryz.prog 31 #[v, .int .i64 sheet, bxV b] w (RetPrt w (partS p sheet b)) := by
 obtain ⟨q, hq⟩ : ∃ q, partS p sheet b = q := ⟨_, rfl⟩
 rw [hq]
 have HQ := Lib.hid hq
 have HP := Lib.hid h; have HVd := Lib.hid hV; have HSm := Lib.hid hs; have HX := Lib.hid hx
 obtain ⟨vn, _, vf, al, rfl, hpa, hN, ⟨⟨Aa, ca, rfl, ha1, ha2, hRa⟩, hVi⟩, -⟩ := h
 obtain ⟨An, cn, rfl, hn1, hn2, hRn⟩ := hN
 unfold maxLen at ha2 hn2
 have hal : al.length ≤ 1000 := by have := hs.arcs; rw [hpa, List.length_map] at this; exact this
 have hnl := hs.nodes
 obtain ⟨nn, hnn⟩ : ∃ nn, p.nodes.length = nn := ⟨_, rfl⟩
 rw [hnn] at hn1 hnl HP ⊢
 have HNn := Lib.hid hnn
 have HRa := Lib.hid hRa; have HRn := Lib.hid hRn; have HVi := Lib.hid hVi; have HPa := Lib.hid hpa
 clear hq hV hs hx hRa hRn hVi hpa hnn
 unfold bxV
 obtain ⟨s0, hs0⟩ : ∃ s0, w.heap.size = s0 := ⟨_, rfl⟩
 obtain ⟨g5, h5⟩ : ∃ g, s0 + 1 = g := ⟨_, rfl⟩
 obtain ⟨g6, h6⟩ : ∃ g, g5 + 1 = g := ⟨_, rfl⟩
 obtain ⟨W, hW⟩ : ∃ W : World, W = ((w.alloc (.cells #[.slice An nn cn, .slice Aa al.length ca, vf] 26)).alloc (.cells #[.int .i64 b.x0, .int .i64 b.y0, .int .i64 b.x1, .int .i64 b.y1] 40)).alloc (.cells #[.int .i64 sheet, .slice none 0 0, .slice none 0 0] 45) := ⟨_, rfl⟩
 have HB0 := Lib.hid (show Below w.heap.size w W by rw [hW]; exact bA (bA (bA (bR w) _) _) _)
 have HX3 := Lib.hid (show Blk W s0 26 #[.slice An nn cn, .slice Aa al.length ca, vf] by rw [hW]; exact ((Blk.made hs0.symm _ _).alloc _).alloc _)
 have HX5 := Lib.hid (show Blk W g5 40 #[.int .i64 b.x0, .int .i64 b.y0, .int .i64 b.x1, .int .i64 b.y1] by rw [hW]; exact (Blk.made (by simp; omega) _ _).alloc _)
 have HX6 := Lib.hid (show Blk W g6 45 #[.int .i64 sheet, .slice none 0 0, .slice none 0 0] by rw [hW]; exact Blk.made (by simp; omega) _ _)
 have hW6 : g6 < W.heap.size := HX6.out.lt
 go_enter Tryz.func31, Tryz.ntmps31
 have hq5 : s0 < g6 := by omega
 have hq6 : g5 < g6 := by omega
 go_upto_region 2 with fail
 try rw [← hW]
 have HG := Lib.hid (show w.heap.size = s0 ∧ s0 + 1 = g5 ∧ g5 + 1 = g6 from ⟨hs0, h5, h6⟩)
 clear hW hs0 h5 h6
 have hq0 : w.heap.size ≤ g6 := by have := HG.out; omega
 have X3 := HX3.out
 obtain ⟨X3l, X3a, X3b, X3c, -, -, -⟩ := X3.facts3
 go_wp2_with fail
 go_loopw [18] (fun u wr => ∃ (k : Nat) (L : List (Pc × SV)) (A : Option Addr) (c : Nat), k ≤ al.length ∧ u = .int .i64 k ∧ Blk wr g6 45 #[.int .i64 sheet, .slice A L.length c, .slice none 0 0] ∧ PcsO wr g6 (.slice A L.length c) L ∧ L.map (·.1) = (p.arcs.take k).flatMap (fun a => piecesS a.id (pathS p a) b) ∧ L.length ≤ 2000 * k ∧ Below g6 W wr) (fun u _ => al.length - (intOf u).toNat)
 case atStart => exact ⟨0, [], none, 0, Nat.zero_le _, rfl, HX6.out, ⟨Own.nil _ _ _ _ _, fun x hx => by cases hx⟩, rfl, Nat.le_refl _, Below.refl _ _⟩
 case round =>
  obtain ⟨k, L, A, c, hk, rfl, x6, hpo, hmap, hlen, hb⟩ := hrel
  have Hb := Lib.hid hb
  have HPO := Lib.hid hpo; have HX6r := Lib.hid x6; have HMap := Lib.hid hmap
  clear X3 X3l X3a X3b X3c
  have h6r : g6 < wr.heap.size := x6.lt
  have HBw := Lib.hid (show Below w.heap.size w wr from HB0.out.trans (hb.mono hq0))
  clear x6 hpo hmap hb
  by_cases hlt : k < al.length
  ·
   obtain ⟨bb, oo, rfl, hlb, c0, c1, c2, c3, c4, c5⟩ := (HRa.out.mono HBw.out).ar hlt
   have hkp : k < p.arcs.length := by rw [HPa.out, List.length_map]; exact hlt
   have hpk : p.arcs[k] = al[k].1 := by simp [HPa.out]
   have hmem : al[k].1 ∈ p.arcs := by rw [← hpk]; exact List.getElem_mem hkp
   have hst : (p.arcs.take (k + 1)).flatMap (fun a => piecesS a.id (pathS p a) b) = (p.arcs.take k).flatMap (fun a => piecesS a.id (pathS p a) b) ++ piecesS al[k].1.id (pathS p al[k].1) b := by
    rw [List.take_succ_eq_append_getElem hkp, List.flatMap_append, hpk]; simp
   obtain ⟨Av, cv, hv, -⟩ := HVi.out k hlt
   have hvia := HSm.out.via _ hmem
   have HSt := Lib.hid hst; have HMem := Lib.hid hmem
   clear hst hmem hpk hkp
   generalize al[k] = ya at *
   obtain ⟨a, va⟩ := ya
   dsimp only at HSt HMem hv c0 c1 c2 c3 c4 c5 hvia
   subst hv
   have TP : ∀ W, Below w.heap.size w W → Calls Tryz.prog 41 #[.agg #[.slice An nn cn, .slice (some ⟨bb, oo, none⟩) al.length ca, vf], .int .i64 a.id] W (RetPathE W (some (pathS p a))) := fun W hW => by
    have := Path_spec _ p a.id W (HP.out.mono hW) HSm.out.short
    rw [HVd.out.sound.path HMem.out] at this
    exact this
   have HPt := Lib.hid TP
   have hpl : (pathS p a).length ≤ 1002 := by rw [pathS_length]; omega
   have hp2 : 2 ≤ (pathS p a).length := by rw [pathS_length]; omega
   have TC : ∀ (W : World) v, Pts W v (pathS p a) → Calls Tryz.prog 62 #[.int .i64 a.id, v, .agg #[.int .i64 b.x0, .int .i64 b.y0, .int .i64 b.x1, .int .i64 b.y1]] W (RetPcs W (piecesS a.id (pathS p a) b)) := fun W v hv =>
    pieces_spec a.id (pathS p a) b v W hv (fun q hq => HVd.out.bdP_path HMem.out hq) HX.out (by omega) (by omega)
   have HTC := Lib.hid TC
   have hpcl := pcs_len a.id (pathS p a) b
   clear TP TC
   generalize piecesS a.id (pathS p a) b = pcs at *
   generalize pathS p a = path at *
   have X3 := HX3.out.below Hb.out hq5
   try clear X3l
   try clear X3a
   try clear X3b
   try clear X3c
   obtain ⟨X3l, X3a, X3b, X3c, -, -, -⟩ := X3.facts3
   go_upto_region 5 with fail
   obtain ⟨WA, hWA⟩ : ∃ WA : World, WA = wr.alloc (.cells #[.int .i64 a.id, .int .i64 a.fr, .int .i64 a.dst, .slice Av a.via.length cv, .int .i64 a.left, .int .i64 a.right] 58) := ⟨_, rfl⟩
   have hA : Below wr.heap.size wr WA := by rw [hWA]; exact bA (bR _) _
   obtain ⟨g8, hg8⟩ : ∃ g8, wr.heap.size = g8 := ⟨_, rfl⟩
   have X8 : Blk WA g8 58 #[.int .i64 a.id, .int .i64 a.fr, .int .i64 a.dst, .slice Av a.via.length cv, .int .i64 a.left, .int .i64 a.right] := by rw [hWA]; exact Blk.made hg8.symm _ _
   have HX8 := Lib.hid X8
   rw [← hWA]
   have HPOA := Lib.hid (HPO.out.keep hA); have HX6A := Lib.hid (HX6r.out.keep hA); have HBA := Lib.hid (Hb.out.trans (hA.mono (by omega))); have HBwA := Lib.hid (bT HBw.out hA)
   replace X3 := X3.keep hA
   have hzA := hA.size
   try simp only [hg8]
   have l68 : g6 < g8 := by omega
   clear hWA hg8 hA c0 c1 c2 c3 c4 c5 hlb HPO HX6r Hb HBw
   try clear X3l
   try clear X3a
   try clear X3b
   try clear X3c
   obtain ⟨X3l, X3a, X3b, X3c, -, -, -⟩ := X3.facts3
   obtain ⟨X8l, X8a, X8b, X8c, X8d, X8e, X8f, -, -, -, -, -, -⟩ := X8.facts6
   go_wp2_with fail
   refine (HPt.out _ HBwA.out).mono ?_
   rintro e wP ⟨A1, cp, rfl, hbp, hop⟩
   simp only [Option.getD_some, Option.isSome_some, if_true] at hop ⊢
   have hPOP := HPOA.out.keep hbp; have hX6P := HX6A.out.keep hbp; have hX8P := HX8.out.keep hbp
   have HBP := Lib.hid (HBA.out.trans (hbp.mono (by omega)))
   have hzP := hbp.size
   have hopw : Own wP g6 28 2 ptC (.slice A1 path.length cp) path := Own.mono_base hop (by omega)
   clear hop hbp X3 X8 X3l X3a X3b X3c X8l X8a X8b X8c X8d X8e X8f HPOA HX6A HX8 HBA HBwA
   have X5 := HX5.out.below HBP.out hq6
   obtain ⟨X5l, X5a, X5b, X5c, X5d, -, -, -, -⟩ := X5.facts4
   go_upto_region 7 with fail
   have PO := hPOP; have X6 := hX6P; have X8 := hX8P; have PW := hopw
   have l6P : g6 < wP.heap.size := X6.lt
   clear hPOP hX6P hX8P hopw
   refine rg_start (SinceB (g6) wP) (.take 0 1 (.take 2 5 (.take 4 21 (.take 5 53 (.two 1 55 (.call 3 63 (.call 6 127 (.call 7 255 (.take 8 511 (.call 9 1023 (.done)))))) 3 61 (.two 1 63 (.call 6 127 (.call 7 255 (.take 8 511 (.call 9 1023 (.done))))) 6 125 (.call 1 127 (.call 7 255 (.take 8 511 (.call 9 1023 (.done))))))))))) (by kernel_rfl) (Below.drew (Below.refl _ _)) (by kernel_rfl) (by kernel_rfl) (Nat.le_of_ble_eq_true (by kernel_rfl)) ?_
   intro opsR QR Hops HQrg hS
   replace PO := PO.drew
   replace X6 := X6.drew
   replace X8 := X8.drew
   replace PW := PW.drew
   iterate 4
    apply rg_pB; exact Hops; exact rfl; exact hS; exact rfl
    · intro _ hqc; go_simp; try rfl
    try simp only [pu]
   refine rg_two (i := 1) (j := 3) (get_of Hops rfl) (get_of Hops rfl) (fun K hK => ?_) (fun K hK => ?_)
   -- operation 1 first
   ·
    have HSrg := Lib.hid hS; clear hS
    refine rg_run (wanted_plain rfl) ?_
    obtain ⟨X6l, X6a, X6b, X6c, X6fa, X6fb, X6fc⟩ := X6.facts3
    go_simp
    refine hK.out _ _ HSrg.out (fun hS => ?_)
    clear hK K HSrg
    try simp only [pu]
    refine rg_call (i := 3) (get_of Hops rfl) (fun K hK => ?_)
    have HSrg := Lib.hid hS; clear hS
    refine rg_run (wanted_plain rfl) ?_
    obtain ⟨X8l, X8a, -, -, -, -, -, -⟩ := X8.facts6
    go_simp
    refine hK.out _ _ HSrg.out (fun hS => ?_)
    clear hK K HSrg
    try simp only [pu]
    refine rg_call (i := 6) (get_of Hops rfl) (fun K hK => ?_)
    have HSrg := Lib.hid hS; clear hS
    refine rg_run (wanted_plain rfl) ?_
    go_simp
    refine (HTC.out _ _ PW.sl).mono ?_
    rintro e wr1 ⟨A2, c2, L2, rfl, hbr1, hm2, hp2⟩
    have hS : SinceB (g6) wP wr1 := (show Below (g6) wP _ from HSrg.out).trans (hbr1.mono (Nat.le_trans (by omega) (show Below (g6) wP _ from HSrg.out).size))
    clear HSrg
    try replace PO := PO.keep hbr1
    try replace X6 := X6.keep hbr1
    try replace X8 := X8.keep hbr1
    try replace PW := PW.keep hbr1
    refine hK.out _ _ hS (fun _ => ?_)
    clear hK K
    try simp only [pu]
    refine rg_call (i := 7) (get_of Hops rfl) (fun K hK => ?_)
    have HSrg := Lib.hid hS; clear hS
    refine rg_run (wanted_plain rfl) ?_
    have hl2 : L2.length ≤ 1003 := (by have := congrArg List.length hm2; rw [List.length_map] at this; omega)
    have hz1 : g6 ≤ _ := Nat.le_trans (Nat.le_of_lt l6P) (show Below g6 wP _ from HSrg.out).size
    refine wp_appl (.tmp 32) (.tmp 37) _ rfl (base := g6) (l2 := L2) elem_pc pcS_len pcS_one rfl PO.own rfl hp2.own.sl (by omega) (by omega) hz1 ?_
    intro v9 wn hon9 hgn hatn
    obtain ⟨A9, c9, hv9, -⟩ := Own.shape_ hon9
    rw [List.length_append] at hv9
    subst hv9
    have X6n := X6.grown hgn (fun e => Own.ne_blk PO.own X6 (by decide) e.symm)
    have HPn := Lib.hid (show PcsO wn g6 (.slice A9 (L.length + L2.length) c9) (L ++ L2) from ⟨hon9, fun x hx => (List.mem_append.1 hx).elim (fun hx => Own.grown (PO.path x hx) hgn (fun j hj => Own.apart (PO.path x hx) PO.own (by decide) j hj)) (fun hx => Own.mono_base (Own.grown (hp2.path x hx) hgn (fun j hj => Own.apart (hp2.path x hx) PO.own (by decide) j hj)) (by have := hzP; first | omega | (simp; omega)))⟩)
    have hS : SinceB g6 wP wn := Below.grown (show Below g6 wP _ from HSrg.out) hgn hz1 (fun j hj => (PO.own.lt j hj).1)
    obtain ⟨X6l, X6a, X6b, X6c, X6fa, X6fb, X6fc⟩ := X6n.facts3
    clear hon9 hgn hatn
    clear HSrg
    refine hK.out _ _ hS (fun _ => ?_)
    clear hK K
    try simp only [pu]
    apply rg_pB; exact Hops; exact rfl; exact hS; exact rfl
    · intro _ hqc; go_simp; try rfl
    try simp only [pu]
    refine rg_call (i := 9) (get_of Hops rfl) (fun K hK => ?_)
    have HSrg := Lib.hid hS; clear hS
    refine rg_run (wanted_plain rfl) ?_
    go_simp
    refine hK.out _ _ (by unfold SinceB; have h : Below _ _ _ := HSrg.out; repeat (first | with_reducible assumption | with_reducible exact Below.refl _ _ | with_reducible refine bSB ?_ (by first | omega | (simp; omega)) _ | with_reducible refine Below.drew ?_ | with_reducible refine bAB (by omega) ?_ _ | exact h)) ?_
    intro hS
    clear hK K HSrg
    try simp only [pu]
    refine rg_done ?_
    refine HQrg.down _ _ ?_
    have hB : Below (g6) wP _ := hS
    clear hS HQrg Hops
    go_wp2_with fail
    go_roundw
    case rel => (rw [show (L.length + L2.length) = (L ++ L2).length by simp] at *; exact ⟨k + 1, L ++ L2, A9, c9, by omega, by go_num, by have := X6n.set_ 1 (.slice A9 (L ++ L2).length c9); simpa using this, HPn.out.far X6n (by decide) (by decide) _ _, by rw [List.map_append, HMap.out, hm2, HSt.out], by rw [List.length_append]; omega, HBP.out.trans hB⟩)
    case measure => simp [intOf]; omega
   -- operation 3 first
   ·
    have HSrg := Lib.hid hS; clear hS
    refine rg_run (wanted_plain rfl) ?_
    obtain ⟨X8l, X8a, -, -, -, -, -, -⟩ := X8.facts6
    go_simp
    refine hK.out _ _ HSrg.out (fun hS => ?_)
    clear hK K HSrg
    try simp only [pu]
    refine rg_two (i := 1) (j := 6) (get_of Hops rfl) (get_of Hops rfl) (fun K hK => ?_) (fun K hK => ?_)
    -- operation 1 first
    ·
     have HSrg := Lib.hid hS; clear hS
     refine rg_run (wanted_plain rfl) ?_
     obtain ⟨X6l, X6a, X6b, X6c, X6fa, X6fb, X6fc⟩ := X6.facts3
     go_simp
     refine hK.out _ _ HSrg.out (fun hS => ?_)
     clear hK K HSrg
     try simp only [pu]
     refine rg_call (i := 6) (get_of Hops rfl) (fun K hK => ?_)
     have HSrg := Lib.hid hS; clear hS
     refine rg_run (wanted_plain rfl) ?_
     go_simp
     refine (HTC.out _ _ PW.sl).mono ?_
     rintro e wr1 ⟨A2, c2, L2, rfl, hbr1, hm2, hp2⟩
     have hS : SinceB (g6) wP wr1 := (show Below (g6) wP _ from HSrg.out).trans (hbr1.mono (Nat.le_trans (by omega) (show Below (g6) wP _ from HSrg.out).size))
     clear HSrg
     try replace PO := PO.keep hbr1
     try replace X6 := X6.keep hbr1
     try replace X8 := X8.keep hbr1
     try replace PW := PW.keep hbr1
     refine hK.out _ _ hS (fun _ => ?_)
     clear hK K
     try simp only [pu]
     refine rg_call (i := 7) (get_of Hops rfl) (fun K hK => ?_)
     have HSrg := Lib.hid hS; clear hS
     refine rg_run (wanted_plain rfl) ?_
     have hl2 : L2.length ≤ 1003 := (by have := congrArg List.length hm2; rw [List.length_map] at this; omega)
     have hz1 : g6 ≤ _ := Nat.le_trans (Nat.le_of_lt l6P) (show Below g6 wP _ from HSrg.out).size
     refine wp_appl (.tmp 32) (.tmp 37) _ rfl (base := g6) (l2 := L2) elem_pc pcS_len pcS_one rfl PO.own rfl hp2.own.sl (by omega) (by omega) hz1 ?_
     intro v9 wn hon9 hgn hatn
     obtain ⟨A9, c9, hv9, -⟩ := Own.shape_ hon9
     rw [List.length_append] at hv9
     subst hv9
     have X6n := X6.grown hgn (fun e => Own.ne_blk PO.own X6 (by decide) e.symm)
     have HPn := Lib.hid (show PcsO wn g6 (.slice A9 (L.length + L2.length) c9) (L ++ L2) from ⟨hon9, fun x hx => (List.mem_append.1 hx).elim (fun hx => Own.grown (PO.path x hx) hgn (fun j hj => Own.apart (PO.path x hx) PO.own (by decide) j hj)) (fun hx => Own.mono_base (Own.grown (hp2.path x hx) hgn (fun j hj => Own.apart (hp2.path x hx) PO.own (by decide) j hj)) (by have := hzP; first | omega | (simp; omega)))⟩)
     have hS : SinceB g6 wP wn := Below.grown (show Below g6 wP _ from HSrg.out) hgn hz1 (fun j hj => (PO.own.lt j hj).1)
     obtain ⟨X6l, X6a, X6b, X6c, X6fa, X6fb, X6fc⟩ := X6n.facts3
     clear hon9 hgn hatn
     clear HSrg
     refine hK.out _ _ hS (fun _ => ?_)
     clear hK K
     try simp only [pu]
     apply rg_pB; exact Hops; exact rfl; exact hS; exact rfl
     · intro _ hqc; go_simp; try rfl
     try simp only [pu]
     refine rg_call (i := 9) (get_of Hops rfl) (fun K hK => ?_)
     have HSrg := Lib.hid hS; clear hS
     refine rg_run (wanted_plain rfl) ?_
     go_simp
     refine hK.out _ _ (by unfold SinceB; have h : Below _ _ _ := HSrg.out; repeat (first | with_reducible assumption | with_reducible exact Below.refl _ _ | with_reducible refine bSB ?_ (by first | omega | (simp; omega)) _ | with_reducible refine Below.drew ?_ | with_reducible refine bAB (by omega) ?_ _ | exact h)) ?_
     intro hS
     clear hK K HSrg
     try simp only [pu]
     refine rg_done ?_
     refine HQrg.down _ _ ?_
     have hB : Below (g6) wP _ := hS
     clear hS HQrg Hops
     go_wp2_with fail
     go_roundw
     case rel => (rw [show (L.length + L2.length) = (L ++ L2).length by simp] at *; exact ⟨k + 1, L ++ L2, A9, c9, by omega, by go_num, by have := X6n.set_ 1 (.slice A9 (L ++ L2).length c9); simpa using this, HPn.out.far X6n (by decide) (by decide) _ _, by rw [List.map_append, HMap.out, hm2, HSt.out], by rw [List.length_append]; omega, HBP.out.trans hB⟩)
     case measure => simp [intOf]; omega
    -- operation 6 first
    ·
     have HSrg := Lib.hid hS; clear hS
     refine rg_run (wanted_plain rfl) ?_
     go_simp
     refine (HTC.out _ _ PW.sl).mono ?_
     rintro e wr1 ⟨A2, c2, L2, rfl, hbr1, hm2, hp2⟩
     have hS : SinceB (g6) wP wr1 := (show Below (g6) wP _ from HSrg.out).trans (hbr1.mono (Nat.le_trans (by omega) (show Below (g6) wP _ from HSrg.out).size))
     clear HSrg
     try replace PO := PO.keep hbr1
     try replace X6 := X6.keep hbr1
     try replace X8 := X8.keep hbr1
     try replace PW := PW.keep hbr1
     refine hK.out _ _ hS (fun _ => ?_)
     clear hK K
     try simp only [pu]
     refine rg_call (i := 1) (get_of Hops rfl) (fun K hK => ?_)
     have HSrg := Lib.hid hS; clear hS
     refine rg_run (wanted_plain rfl) ?_
     obtain ⟨X6l, X6a, X6b, X6c, X6fa, X6fb, X6fc⟩ := X6.facts3
     go_simp
     refine hK.out _ _ HSrg.out (fun hS => ?_)
     clear hK K HSrg
     try simp only [pu]
     refine rg_call (i := 7) (get_of Hops rfl) (fun K hK => ?_)
     have HSrg := Lib.hid hS; clear hS
     refine rg_run (wanted_plain rfl) ?_
     have hl2 : L2.length ≤ 1003 := (by have := congrArg List.length hm2; rw [List.length_map] at this; omega)
     have hz1 : g6 ≤ _ := Nat.le_trans (Nat.le_of_lt l6P) (show Below g6 wP _ from HSrg.out).size
     refine wp_appl (.tmp 32) (.tmp 37) _ rfl (base := g6) (l2 := L2) elem_pc pcS_len pcS_one rfl PO.own rfl hp2.own.sl (by omega) (by omega) hz1 ?_
     intro v9 wn hon9 hgn hatn
     obtain ⟨A9, c9, hv9, -⟩ := Own.shape_ hon9
     rw [List.length_append] at hv9
     subst hv9
     have X6n := X6.grown hgn (fun e => Own.ne_blk PO.own X6 (by decide) e.symm)
     have HPn := Lib.hid (show PcsO wn g6 (.slice A9 (L.length + L2.length) c9) (L ++ L2) from ⟨hon9, fun x hx => (List.mem_append.1 hx).elim (fun hx => Own.grown (PO.path x hx) hgn (fun j hj => Own.apart (PO.path x hx) PO.own (by decide) j hj)) (fun hx => Own.mono_base (Own.grown (hp2.path x hx) hgn (fun j hj => Own.apart (hp2.path x hx) PO.own (by decide) j hj)) (by have := hzP; first | omega | (simp; omega)))⟩)
     have hS : SinceB g6 wP wn := Below.grown (show Below g6 wP _ from HSrg.out) hgn hz1 (fun j hj => (PO.own.lt j hj).1)
     obtain ⟨X6l, X6a, X6b, X6c, X6fa, X6fb, X6fc⟩ := X6n.facts3
     clear hon9 hgn hatn
     clear HSrg
     refine hK.out _ _ hS (fun _ => ?_)
     clear hK K
     try simp only [pu]
     apply rg_pB; exact Hops; exact rfl; exact hS; exact rfl
     · intro _ hqc; go_simp; try rfl
     try simp only [pu]
     refine rg_call (i := 9) (get_of Hops rfl) (fun K hK => ?_)
     have HSrg := Lib.hid hS; clear hS
     refine rg_run (wanted_plain rfl) ?_
     go_simp
     refine hK.out _ _ (by unfold SinceB; have h : Below _ _ _ := HSrg.out; repeat (first | with_reducible assumption | with_reducible exact Below.refl _ _ | with_reducible refine bSB ?_ (by first | omega | (simp; omega)) _ | with_reducible refine Below.drew ?_ | with_reducible refine bAB (by omega) ?_ _ | exact h)) ?_
     intro hS
     clear hK K HSrg
     try simp only [pu]
     refine rg_done ?_
     refine HQrg.down _ _ ?_
     have hB : Below (g6) wP _ := hS
     clear hS HQrg Hops
     go_wp2_with fail
     go_roundw
     case rel => (rw [show (L.length + L2.length) = (L ++ L2).length by simp] at *; exact ⟨k + 1, L ++ L2, A9, c9, by omega, by go_num, by have := X6n.set_ 1 (.slice A9 (L ++ L2).length c9); simpa using this, HPn.out.far X6n (by decide) (by decide) _ _, by rw [List.map_append, HMap.out, hm2, HSt.out], by rw [List.length_append]; omega, HBP.out.trans hB⟩)
     case measure => simp [intOf]; omega
  ·
   have hkk : k = al.length := by omega
   have hall : L.map (·.1) = q.pieces := by
    have h1 := HMap.out
    rw [hkk, show al.length = p.arcs.length by rw [HPa.out, List.length_map], List.take_length] at h1
    rw [h1, ← HQ.out]; rfl
   have HAll := Lib.hid hall
   have HQn := Lib.hid (show q.nodes = p.nodes.filter (fun n => inB b n.pt) ∧ q.sheet = sheet by rw [← HQ.out]; exact ⟨rfl, rfl⟩)
   have c1 : ¬ (k : Int) < al.length := by omega
   have X3 := HX3.out.below Hb.out hq5
   have hLl : L.length ≤ 2000000 := by omega
   clear hall hkk hlen HMap HPa HVi HRa
   try clear X3l
   try clear X3a
   try clear X3b
   try clear X3c
   obtain ⟨X3l, X3a, X3b, X3c, -, -, -⟩ := X3.facts3
   go_upto_block 2 with fail
   go_wp2_with fail
   go_loopw [44] (fun u wx => ∃ (j : Nat) (N : List Nd) (A2 : Option Addr) (c2 : Nat), j ≤ nn ∧ u = .int .i64 j ∧ Blk wx g6 45 #[.int .i64 sheet, .slice A L.length c, .slice A2 N.length c2] ∧ PcsO wx g6 (.slice A L.length c) L ∧ Own wx g6 93 3 ndC (.slice A2 N.length c2) N ∧ N = (p.nodes.take j).filter (fun n => inB b n.pt) ∧ N.length ≤ j ∧ Below g6 W wx) (fun u _ => nn - (intOf u).toNat)
   case atStart => exact ⟨0, [], none, 0, Nat.zero_le _, rfl, HX6r.out, HPO.out, Own.nil _ _ _ _ _, rfl, Nat.le_refl _, Hb.out⟩
   case round =>
    rename_i wr0
    obtain ⟨j, N, A2, c2, hj, rfl, x6, hpo, hon, hN, hNl, hb2⟩ := hrel
    have HPO2 := Lib.hid hpo; have HX62 := Lib.hid x6; have HON := Lib.hid hon; have HN2 := Lib.hid hN; have Hb2 := Lib.hid hb2
    have h6r2 : g6 < wr.heap.size := x6.lt
    have HBw2 := Lib.hid (show Below w.heap.size w wr from HB0.out.trans (hb2.mono hq0))
    have X6 := x6
    clear x6 hpo hon hN hb2
    by_cases hlt2 : j < nn
    ·
     have hjn : j < p.nodes.length := by rw [HNn.out]; exact hlt2
     obtain ⟨bb, oo, hA, hlb, c0, d1, d2⟩ := (HRn.out.mono HBw2.out).nd hjn
     subst hA
     have hst : (p.nodes.take (j + 1)).filter (fun n => inB b n.pt) = N ++ (if inB b p.nodes[j].pt = true then [p.nodes[j]] else []) := by
      rw [List.take_succ_eq_append_getElem hjn, List.filter_append, ← HN2.out]
      congr 1
      by_cases hz : inB b p.nodes[j].pt = true
      · rw [if_pos hz]; simp [hz]
      · rw [if_neg hz]; simp [hz]
     have HSt := Lib.hid hst
     have HIn := Lib.hid (fun W => gIn_spec b p.nodes[j].pt W)
     unfold bxV ptV at HIn
     clear hst
     generalize p.nodes[j] = nd at *
     obtain ⟨z, hz⟩ : ∃ z, inB b nd.pt = z := ⟨_, rfl⟩
     rw [hz] at HIn HSt
     clear hz
     go_upto_region 12 with fail
     obtain ⟨WA, hWA⟩ : ∃ WA : World, WA = wr.alloc (.cells #[.int .i64 nd.id, .int .i64 nd.pt.x, .int .i64 nd.pt.y] 93) := ⟨_, rfl⟩
     have hA : Below wr.heap.size wr WA := by rw [hWA]; exact bA (bR _) _
     obtain ⟨g8, hg8⟩ : ∃ g8, wr.heap.size = g8 := ⟨_, rfl⟩
     have X8 : Blk WA g8 93 #[.int .i64 nd.id, .int .i64 nd.pt.x, .int .i64 nd.pt.y] := by rw [hWA]; exact Blk.made hg8.symm _ _
     have HX8 := Lib.hid X8
     rw [← hWA]
     have HPOA := Lib.hid (HPO2.out.keep hA); have HX6A := Lib.hid (HX62.out.keep hA); have HBA := Lib.hid (Hb2.out.trans (hA.mono (by omega))); have HONA := Lib.hid (HON.out.keep hA)
     have X5 := HX5.out.below HBA.out hq6
     have hzA := hA.size
     try simp only [hg8]
     have l68 : g6 < g8 := by omega
     clear hWA hg8 hA c0 d1 d2 hlb HPO2 HX62 Hb2 HON X6
     try clear X5l
     try clear X5a
     try clear X5b
     try clear X5c
     try clear X5d
     obtain ⟨X5l, X5a, X5b, X5c, X5d, -, -, -, -⟩ := X5.facts4
     try clear X8l
     try clear X8a
     try clear X8b
     try clear X8c
     obtain ⟨X8l, X8a, X8b, X8c, -, -, -⟩ := X8.facts3
     go_wp2_with fail
     refine (HIn.out _).mono ?_
     rintro e wP ⟨rfl, hbp⟩
     have HPOP := Lib.hid (HPOA.out.keep hbp); have HX6P := Lib.hid (HX6A.out.keep hbp); have HONP := Lib.hid (HONA.out.keep hbp)
     have HBP := Lib.hid (HBA.out.trans (hbp.mono (by omega)))
     have X6 := HX6P.out
     replace X8 := X8.keep hbp
     have hzP := hbp.size
     clear hbp X5 X5l X5a X5b X5c X5d X8l X8a X8b X8c HPOA HX6A HX8 HONA HBA
     cases z
     ·
      have HSt2 := Lib.hid (show N = (p.nodes.take (j + 1)).filter (fun n => inB b n.pt) by rw [HSt.out]; simp)
      go_wp2_with fail
      go_roundw
      case rel => exact ⟨j + 1, N, A2, c2, by omega, by go_num, HX6P.out, HPOP.out, HONP.out, HSt2.out, by omega, HBP.out⟩
      case measure => simp [intOf]; omega
     ·
      have HSt2 := Lib.hid (show N ++ [nd] = (p.nodes.take (j + 1)).filter (fun n => inB b n.pt) by rw [HSt.out]; simp)
      try clear X6l
      try clear X6a
      try clear X6b
      try clear X6c
      try clear X6fa
      try clear X6fb
      try clear X6fc
      obtain ⟨X6l, X6a, X6b, X6c, X6fa, X6fb, X6fc⟩ := X6.facts3
      try clear X8l
      try clear X8a
      try clear X8b
      try clear X8c
      obtain ⟨X8l, X8a, X8b, X8c, -, -, -⟩ := X8.facts3
      go_wp2_with
       (at_builtin
        refine wpList_appl _ rfl (.tmp 53) (.tmp 55) _ rfl (base := g6) elem_nd ndC_len ndC_one rfl (Own.alloc HONP.out _) rfl (l2 := [nd]) (Sl.lit (n := 1) (Blk.made rfl _ _) rfl (le_maxLen (by omega))) (by simp only [List.length_cons, List.length_nil]; omega) (by simp only [List.length_cons, List.length_nil]; omega) (by have := HX6P.out.lt; simp; omega) ?_
        intro v5 w5 ho5 hg5 hat5
        obtain ⟨A5, c5, hv5, -⟩ := Own.shape_ ho5
        rw [show (N ++ [nd]).length = N.length + 1 by simp] at hv5
        subst hv5
        have e6 := Own.ne_blk HONP.out HX6P.out (by decide)
        have Z6 := Blk.grown (HX6P.out.alloc _) hg5 (fun e => e6 e.symm)
        have HZ6 := Lib.hid Z6
        have HPO5 := Lib.hid (show PcsO w5 g6 (.slice A L.length c) L from ⟨Own.grown (Own.alloc HPOP.out.own _) hg5 (fun i hi => Own.apart HPOP.out.own HONP.out (by decide) i hi), fun x hx => Own.grown (Own.alloc (HPOP.out.path x hx) _) hg5 (fun i hi => Own.apart (HPOP.out.path x hx) HONP.out (by decide) i hi)⟩)
        have HB5 := Lib.hid (Below.grown (HBP.out.alloc (by have := HX6P.out.lt; omega) _) hg5 (by have := HX6P.out.lt; simp; omega) (fun i hi => (HONP.out.lt i hi).1))
        have HO5 := Lib.hid ho5
        clear ho5 hg5 hat5 e6
        obtain ⟨Z6l, Z6a, Z6b, Z6c, Z6fa, Z6fb, Z6fc⟩ := Z6.facts3
        )
      go_wp2_with fail
      go_roundw
      case rel => (rw [show (N.length + 1) = (N ++ [nd]).length by simp] at *; exact ⟨j + 1, N ++ [nd], A5, c5, by omega, by go_num, by have := HZ6.out.set_ 2 (.slice A5 (N ++ [nd]).length c5); simpa using this, HPO5.out.far HZ6.out (by decide) (by decide) _ _, HO5.out.far (Own.ne_blk HO5.out HZ6.out (by decide)) _, HSt2.out, by rw [List.length_append, List.length_singleton]; omega, HB5.out.setCell (p := ⟨g6, 2, none⟩) (Nat.le_refl _) _⟩)
      case measure => simp [intOf]; omega
    ·
     have hjj : j = nn := by omega
     have hNf : N = q.nodes := by rw [HN2.out, hjj, ← HNn.out, List.take_length, HQn.out.1]
     have HNf := Lib.hid hNf
     have d1 : ¬ (j : Int) < nn := by omega
     clear hjj hNf
     have hp3 : PcsO (((wr.setCell ⟨g6, 0, none⟩ (.int .i64 sheet)).setCell ⟨g6, 1, none⟩ (.slice A L.length c)).setCell ⟨g6, 2, none⟩ (.slice A2 N.length c2)) w.heap.size (.slice A L.length c) L := by
      have h1 := HPO2.out.far HX62.out (by decide) (by decide) 0 (.int .i64 sheet)
      have x1 := HX62.out.set_ 0 (.int .i64 sheet)
      have h2 := h1.far x1 (by decide) (by decide) 1 (.slice A L.length c)
      have x2 := x1.set_ 1 (.slice A L.length c)
      have h3 := h2.far x2 (by decide) (by decide) 2 (.slice A2 N.length c2)
      exact ⟨h3.own.mono_base hq0, fun x hx => (h3.path x hx).mono_base hq0⟩
     have hn3 : Own (((wr.setCell ⟨g6, 0, none⟩ (.int .i64 sheet)).setCell ⟨g6, 1, none⟩ (.slice A L.length c)).setCell ⟨g6, 2, none⟩ (.slice A2 N.length c2)) w.heap.size 93 3 ndC (.slice A2 N.length c2) N := by
      have n6 := Own.ne_blk HON.out HX62.out (by decide)
      exact (((HON.out.far (p := ⟨g6, 0, none⟩) n6 _).far (p := ⟨g6, 1, none⟩) n6 _).far (p := ⟨g6, 2, none⟩) n6 _).mono_base hq0
     have HP3 := Lib.hid hp3; have HN3 := Lib.hid hn3
     have HB3 := Lib.hid (((HBw2.out.setCell (p := ⟨g6, 0, none⟩) hq0 (.int .i64 sheet)).setCell (p := ⟨g6, 1, none⟩) hq0 (.slice A L.length c)).setCell (p := ⟨g6, 2, none⟩) hq0 (.slice A2 N.length c2))
     clear hp3 hn3
     try clear X6l
     try clear X6a
     try clear X6b
     try clear X6c
     try clear X6fa
     try clear X6fb
     try clear X6fc
     obtain ⟨X6l, X6a, X6b, X6c, X6fa, X6fb, X6fc⟩ := X6.facts3
     go_wp2_with fail
     refine res_cell (g := g6) (cs := #[.int .i64 sheet, .slice A L.length c, .slice A2 N.length c2]) rfl struct_prt rfl rfl (Blk.put3 HX62.out) ⟨A, L.length, c, A2, N.length, c2, by rw [HQn.out.2], HB3.out, L, HP3.out, HAll.out, ?_⟩
     have := HN3.out
     rw [← HNf.out]
     exact this
end Go.Proofs.YtfdbidagdjnipaaGreatDoor
namespace Go.Proofs.YtfdbidagdjnipaaGreatDoor

def cmpStep (acc : List Pt) (p : Pt) : List Pt := if acc.getLast? = some p then acc else acc ++ [p]
theorem cmp_mem : ∀ (l acc : List Pt), ∀ x ∈ l.foldl cmpStep acc, x ∈ acc ∨ x ∈ l
 | [], acc, x, hx => .inl hx
 | p :: l, acc, x, hx => by
  rcases cmp_mem l (cmpStep acc p) x hx with h | h
  ·
   unfold cmpStep at h
   split at h
   · exact .inl h
   ·
    rcases List.mem_append.1 h with h | h
    · exact .inl h
    · exact .inr (by rw [List.mem_singleton.1 h]; simp)
  · exact .inr (by simp [h])
theorem cmpP_mem {l : List Pt} {x : Pt} (h : x ∈ cmpP l) : x ∈ l := by
 rcases cmp_mem l [] x h with h | h
 · cases h
 · exact h
def NoRep (l : List Pt) : Prop := ∀ k (h : k + 1 < l.length), l[k] ≠ l[k + 1]
theorem noRep_snoc {l : List Pt} {p : Pt} (h : NoRep l) (hp : l.getLast? ≠ some p) : NoRep (l ++ [p]) := by
 intro k hk
 rw [List.length_append, List.length_singleton] at hk
 by_cases e : k + 1 < l.length
 ·
  rw [List.getElem_append_left (by omega), List.getElem_append_left e]
  exact h k e
 ·
  have hk2 : k + 1 = l.length := by omega
  rw [List.getElem_append_left (by omega), List.getElem_append_right (by omega)]
  intro e2
  apply hp
  rw [List.getLast?_eq_getElem?, show l.length - 1 = k by omega, List.getElem?_eq_getElem (by omega), e2]
  simp
theorem cmp_noRep : ∀ (l acc : List Pt), NoRep acc → NoRep (l.foldl cmpStep acc)
 | [], _, h => h
 | p :: l, acc, h => by
  refine cmp_noRep l (cmpStep acc p) ?_
  unfold cmpStep
  split
  · exact h
  · rename_i hp; exact noRep_snoc h hp
theorem cmpP_noRep (l : List Pt) : NoRep (cmpP l) := cmp_noRep l [] (fun k h => by simp at h)
theorem cmp_head : ∀ (l : List Pt) (c : Pt) (r : List Pt), ∃ r', l.foldl cmpStep (c :: r) = c :: r'
 | [], c, r => ⟨r, rfl⟩
 | p :: l, c, r => by
  show ∃ r', l.foldl cmpStep (cmpStep (c :: r) p) = c :: r'
  unfold cmpStep
  split
  · exact cmp_head l c r
  · exact cmp_head l c (r ++ [p])
theorem cmpP_head (c : Pt) (r : List Pt) : ∃ r', cmpP (c :: r) = c :: r' := by
 show ∃ r', r.foldl cmpStep (cmpStep [] c) = c :: r'
 unfold cmpStep
 rw [if_neg (by simp)]
 exact cmp_head r c []
/-- what a piece is -/
structure GoodPc (b : Bx) (arc : Int) (y : Pc) : Prop where
 arc : y.arc = arc
 two : 2 ≤ y.path.length
 inb : ∀ p ∈ y.path, inB b p = true
 ne : NoRep y.path
 enter : onSd b y.enter (y.path.getD 0 ptz)
 leave : onSd b y.leave (y.path.getD (y.path.length - 1) ptz)
structure OpenI (b : Bx) (arc : Int) (at_ : Pt) (x : Pc) : Prop where
 inp : inB b at_ = true
 arc : x.arc = arc
 leave : x.leave = 0
 inb : ∀ p ∈ x.path, inB b p = true
 head : ∃ c r, x.path = c :: r ∧ onSd b x.enter c
 last : x.path.getLast? = some at_
structure StI (b : Bx) (arc : Int) (at_ : Pt) (s : PSt) : Prop where
 lst : ∀ y ∈ s.l, GoodPc b arc y
 opn : s.open_ = true → OpenI b arc at_ s.x
/-- an open piece that ends is good -/
theorem end_good {b : Bx} {arc : Int} {x : Pc} {at_ : Pt} (h1 : x.arc = arc) (h2 : ∀ p ∈ x.path, inB b p = true) (h3 : ∃ c r, x.path = c :: r ∧ onSd b x.enter c) (h4 : x.path.getLast? = some at_) (h5 : onSd b x.leave at_) (h6 : 1 < (cmpP x.path).length) :
  GoodPc b arc ⟨x.arc, cmpP x.path, x.enter, x.leave⟩ := by
 obtain ⟨c, r, hp, he⟩ := h3
 refine ⟨h1, h6, fun p hp => h2 p (cmpP_mem hp), cmpP_noRep _, ?_, ?_⟩
 ·
  show onSd b x.enter ((cmpP x.path).getD 0 ptz)
  obtain ⟨r', hr⟩ := cmpP_head c r
  rw [hp, hr]
  exact he
 ·
  show onSd b x.leave ((cmpP x.path).getD ((cmpP x.path).length - 1) ptz)
  have hl : (cmpP x.path).getLast? = some at_ := by
   obtain ⟨l, q, hlq⟩ : ∃ l q, x.path = l ++ [q] := by
    rcases List.eq_nil_or_concat x.path with h | ⟨l, q, h⟩
    · rw [h] at hp; cases hp
    · exact ⟨l, q, by rw [h, List.concat_eq_append]⟩
   rw [hlq] at h4 ⊢
   rw [List.getLast?_append] at h4
   simp at h4
   rw [← h4]
   exact cmpP_last l q
  rw [List.getLast?_eq_getElem?] at hl
  rw [List.getD_eq_getElem?_getD, hl]
  exact h5
theorem endS_good {b : Bx} {arc : Int} {s : PSt} (h : ∀ y ∈ s.l, GoodPc b arc y) (ho : s.open_ = true → 1 < (cmpP s.x.path).length → GoodPc b arc ⟨s.x.arc, cmpP s.x.path, s.x.enter, s.x.leave⟩) : (∀ y ∈ (endS s).l, GoodPc b arc y) ∧ (endS s).open_ = false := by
 unfold endS
 by_cases e : s.open_ = false
 · rw [if_pos e]; exact ⟨h, e⟩
 ·
  rw [if_neg e]
  refine ⟨fun y hy => ?_, rfl⟩
  have e' : s.open_ = true := by simpa using e
  by_cases hl : 1 < (cmpP s.x.path).length
  ·
   simp only [hl, if_true] at hy
   rcases List.mem_append.1 hy with hy | hy
   · exact h y hy
   · rw [List.mem_singleton.1 hy]; exact ho e' hl
  ·
   simp only [hl, if_false] at hy
   exact h y hy
theorem step_good {arc : Int} {b : Bx} (hx : b.x0 < b.x1) (hy : b.y0 < b.y1) {p q : Pt} {s : PSt} (h : StI b arc p s) : StI b arc q (stepS arc b s p q) := by
 unfold stepS
 cases hc : clipS p q b with
 | none =>
  simp only
  have hno : s.open_ = false := by
   cases ho : s.open_
   · rfl
   ·
    have hcl := clip_is p q b
    rw [hc] at hcl
    exact absurd (in_box_Q (h.opn ho).inp) (hcl 0 1 ⟨by decide, by decide, by decide⟩)
  obtain ⟨k1, k2⟩ := endS_good h.lst (fun e => by rw [hno] at e; cases e)
  exact ⟨k1, fun e => by rw [k2] at e; cases e⟩
 | some r =>
  obtain ⟨c, d⟩ := r
  simp only
  obtain ⟨ic, id_⟩ := clip_in hc
  -- the piece behind this segment
  have hA : (clAdd arc b s p q c d).x.arc = arc ∧ (∀ t ∈ (clAdd arc b s p q c d).x.path, inB b t = true) ∧ (∃ c' r, (clAdd arc b s p q c d).x.path = c' :: r ∧ onSd b (clAdd arc b s p q c d).x.enter c') ∧ (clAdd arc b s p q c d).x.path.getLast? = some d ∧ onSd b (clAdd arc b s p q c d).x.leave d := by
   have hlv : onSd b (throughS q p b) d := through_on2 hx hy hc
   unfold clAdd
   cases ho : s.open_
   ·
    simp only [Bool.false_eq_true, if_false]
    refine ⟨trivial, fun t ht => ?_, ⟨c, [d], rfl, through_on hx hy hc⟩, by simp, hlv⟩
    simp only [List.cons_append, List.nil_append, List.mem_cons, List.not_mem_nil, or_false] at ht
    rcases ht with rfl | rfl
    · exact ic
    · exact id_
   ·
    obtain ⟨o1, o2, o3, o4, ⟨c0, r0, o5, o5'⟩, o6⟩ := h.opn ho
    simp only [if_true]
    refine ⟨o2, fun t ht => ?_, ⟨c0, r0 ++ [d], by rw [o5]; rfl, o5'⟩, by simp, hlv⟩
    rcases List.mem_append.1 ht with ht | ht
    · exact o4 t ht
    · rw [List.mem_singleton.1 ht]; exact id_
  obtain ⟨a1, a2, a3, a4, a5⟩ := hA
  by_cases hin : inB b q = true
  ·
   rw [if_pos hin]
   have hd : d = q := clip_last hc hin
   refine ⟨h.lst, fun _ => ⟨hin, a1, ?_, a2, a3, by rw [a4, hd]⟩⟩
   show throughS q p b = 0
   unfold throughS
   rw [if_pos hin]
  ·
   rw [if_neg hin]
   obtain ⟨k1, k2⟩ := endS_good (s := clAdd arc b s p q c d) (b := b) (arc := arc) h.lst (fun _ hl => end_good a1 a2 a3 a4 a5 hl)
   exact ⟨k1, fun e => by rw [k2] at e; cases e⟩
theorem stAt_good {arc : Int} {b : Bx} (hx : b.x0 < b.x1) (hy : b.y0 < b.y1) (l : List Pt) : ∀ i, StI b arc (l.getD i ptz) (stAt arc b l i)
 | 0 => ⟨fun y hy => absurd hy (by simp [stAt]), fun e => absurd e (by simp [stAt])⟩
 | i + 1 => step_good hx hy (stAt_good hx hy l i)
/-- each piece of a path in a box -/
theorem pieces_good {arc : Int} {b : Bx} (hx : b.x0 < b.x1) (hy : b.y0 < b.y1) (l : List Pt) : ∀ y ∈ piecesS arc l b, GoodPc b arc y := by
 have h := stAt_good (arc := arc) hx hy l (l.length - 1)
 exact (endS_good h.lst (fun ho hl => by
  obtain ⟨o1, o2, o3, o4, o5, o6⟩ := h.opn ho
  exact end_good o2 o4 o5 o6 (by rw [o3]; exact .inr (.inr (.inr (.inr rfl)))) hl)).1
end Go.Proofs.YtfdbidagdjnipaaGreatDoor
namespace Go.Proofs.YtfdbidagdjnipaaGreatDoor
open Go.RowKit

def ArcPair (p : Pl) (a b : Ar) : Prop := ∀ k, k + 1 < (pathS p a).length → ∀ m, m + 1 < (pathS p b).length → joinedS p (segK p a k) (segK p b m) = true
theorem joined_comm (p : Pl) (s t : Sg) : joinedS p s t = joinedS p t s := by
 unfold joinedS
 rw [rmeetS_comm t.a t.b s.a s.b]
 have : meetAt s t = meetAt t s := by
  funext x
  unfold meetAt
  cases endsS s.arc x.id <;> cases endsS t.arc x.id <;> cases ronS s.a s.b x.pt <;> cases ronS t.a t.b x.pt <;> rfl
 rw [this]
theorem ArcPair.symm {p : Pl} {a b : Ar} (h : ArcPair p a b) : ArcPair p b a := fun k hk m hm => by rw [joined_comm]; exact h m hm k hk

end Go.Proofs.YtfdbidagdjnipaaGreatDoor
