/- clip.part. clip.Part. -/
import Derived.Deep.CutBlock
import Derived.Test.YtfondidmklmonaaGreatClipWI
import Derived.Test.YtfondidmklmonaaGreatJ10
import Derived.Test.YtfondidmklmonaaGreatJ14
import Derived.Test.YtfondidmklmonaaGreatJ11
set_option linter.unusedSimpArgs false
set_option linter.unusedVariables false
namespace Go.Proofs.YtfondidmklmonaaGreat
open Go.RowKit

/-- few elements: what bounds the walks -/
structure SmP (p : Pl) : Prop where
 arcs : p.arcs.length ≤ 1000
 nodes : p.nodes.length ≤ 1000
 via : ∀ a ∈ p.arcs, a.via.length ≤ 1000
theorem SmP.short {p : Pl} (h : SmP p) : Short p := fun a ha => by have := h.via a ha; omega
def partS (p : Pl) (sheet : Int) (b : Bx) : Prt := ⟨sheet, p.arcs.flatMap (fun a => piecesS a.id (pathS p a) b), p.nodes.filter (fun n => inB b n.pt)⟩
theorem pcs_len (arc : Int) (l : List Pt) (b : Bx) : (piecesS arc l b).length ≤ l.length + 1 := by
 unfold piecesS
 have h1 := (end_l (stAt arc b l (l.length - 1))).1
 have h2 := (stAt_l arc b l (l.length - 1)).1
 omega
/-- a part whose memory is the call's own -/
def PrtO (w : World) (B : Nat) (x : Prt) (vp vn : Value) : Prop :=
 ∃ L, PcsO w B vp L ∧ L.map (·.1) = x.pieces ∧ Own w B 59 3 ndC vn x.nodes
def RetPrt (w : World) (x : Prt) (e : Ending) (w' : World) : Prop :=
 ∃ A n c A' n' c', e = .returned (.agg #[.int .i64 x.sheet, .slice A n c, .slice A' n' c']) ∧ Below w.heap.size w w' ∧ PrtO w' w.heap.size x (.slice A n c) (.slice A' n' c')
theorem struct_prt : StructOf Tryz.prog 35 3 := .mk_ Tryz.underlying35 (by kernel_rfl)
theorem PcsO.drew {w : World} {B : Nat} {v : Value} {L : List (Pc × SV)} (h : PcsO w B v L) : PcsO w.drew B v L := h.keep (bD (bR w))
theorem PcsO.alloc {w : World} {B : Nat} {v : Value} {L : List (Pc × SV)} (h : PcsO w B v L) (o : Obj) : PcsO (w.alloc o) B v L := h.keep (bA (bR w) o)
theorem Own.drew {α : Type} {w : World} {base : Nat} {e : TypeId} {size : Nat} {f : α → List Value} {v : Value} {l : List α} (h : Own w base e size f v l) : Own w.drew base e size f v l := h.keep (bD (bR w))
set_option maxRecDepth 100000 in
set_option maxHeartbeats 16000000 in
theorem part_spec (v : Value) (p : Pl) (sheet : Int) (b : Bx) (w : World) (h : PlV w v p) (hV : Valid p) (hs : SmP p) (hx : smB b) :
  Calls Tryz.prog 36 #[v, .int .i64 sheet, bxV b] w (RetPrt w (partS p sheet b)) := by
 obtain ⟨q, hq⟩ : ∃ q, partS p sheet b = q := ⟨_, rfl⟩
 rw [hq]
 have HQ := Lib.hid hq
 have HP := Lib.hid h; have HVd := Lib.hid hV; have HSm := Lib.hid hs; have HX := Lib.hid hx
 obtain ⟨vn, _, vf, al, rfl, hpa, hN, ⟨⟨Aa, ca, rfl, ha1, ha2, hRa⟩, hVi⟩, -⟩ := h
 obtain ⟨An, cn, rfl, hn1, hn2, hRn⟩ := hN
 unfold maxLen at ha2 hn2
 have hal : al.length ≤ 1000 := by have := hs.arcs; rw [hpa, List.length_map] at this; exact this
 have hnl := hs.nodes
 obtain ⟨nn, hnn⟩ : ∃ nn, p.nodes.length = nn := ⟨_, rfl⟩
 rw [hnn] at hn1 hnl HP ⊢
 have HNn := Lib.hid hnn
 have HRa := Lib.hid hRa; have HRn := Lib.hid hRn; have HVi := Lib.hid hVi; have HPa := Lib.hid hpa
 clear hq hV hs hx hRa hRn hVi hpa hnn
 unfold bxV
 obtain ⟨s0, hs0⟩ : ∃ s0, w.heap.size = s0 := ⟨_, rfl⟩
 obtain ⟨g5, h5⟩ : ∃ g, s0 + 1 = g := ⟨_, rfl⟩
 obtain ⟨g6, h6⟩ : ∃ g, g5 + 1 = g := ⟨_, rfl⟩
 obtain ⟨W, hW⟩ : ∃ W : World, W = ((w.alloc (.cells #[.slice An nn cn, .slice Aa al.length ca, vf] 26)).alloc (.cells #[.int .i64 b.x0, .int .i64 b.y0, .int .i64 b.x1, .int .i64 b.y1] 50)).alloc (.cells #[.int .i64 sheet, .slice none 0 0, .slice none 0 0] 35) := ⟨_, rfl⟩
 have HB0 := Lib.hid (show Below w.heap.size w W by rw [hW]; exact bA (bA (bA (bR w) _) _) _)
 have HX3 := Lib.hid (show Blk W s0 26 #[.slice An nn cn, .slice Aa al.length ca, vf] by rw [hW]; exact ((Blk.made hs0.symm _ _).alloc _).alloc _)
 have HX5 := Lib.hid (show Blk W g5 50 #[.int .i64 b.x0, .int .i64 b.y0, .int .i64 b.x1, .int .i64 b.y1] by rw [hW]; exact (Blk.made (by simp; omega) _ _).alloc _)
 have HX6 := Lib.hid (show Blk W g6 35 #[.int .i64 sheet, .slice none 0 0, .slice none 0 0] by rw [hW]; exact Blk.made (by simp; omega) _ _)
 have hW6 : g6 < W.heap.size := HX6.out.lt
 go_enter Tryz.func36, Tryz.ntmps36
 have hq5 : s0 < g6 := by omega
 have hq6 : g5 < g6 := by omega
 go_upto_region 2 with fail
 try rw [← hW]
 have HG := Lib.hid (show w.heap.size = s0 ∧ s0 + 1 = g5 ∧ g5 + 1 = g6 from ⟨hs0, h5, h6⟩)
 clear hW hs0 h5 h6
 have hq0 : w.heap.size ≤ g6 := by have := HG.out; omega
 have X3 := HX3.out
 obtain ⟨X3l, X3a, X3b, X3c, -, -, -⟩ := X3.facts3
 go_wp2_with fail
 go_loopw [18] (fun u wr => ∃ (k : Nat) (L : List (Pc × SV)) (A : Option Addr) (c : Nat), k ≤ al.length ∧ u = .int .i64 k ∧ Blk wr g6 35 #[.int .i64 sheet, .slice A L.length c, .slice none 0 0] ∧ PcsO wr g6 (.slice A L.length c) L ∧ L.map (·.1) = (p.arcs.take k).flatMap (fun a => piecesS a.id (pathS p a) b) ∧ L.length ≤ 2000 * k ∧ Below g6 W wr) (fun u _ => al.length - (intOf u).toNat)
 case atStart => exact ⟨0, [], none, 0, Nat.zero_le _, rfl, HX6.out, ⟨Own.nil _ _ _ _ _, fun x hx => by cases hx⟩, rfl, Nat.le_refl _, Below.refl _ _⟩
 case round =>
  obtain ⟨k, L, A, c, hk, rfl, x6, hpo, hmap, hlen, hb⟩ := hrel
  have Hb := Lib.hid hb
  have HPO := Lib.hid hpo; have HX6r := Lib.hid x6; have HMap := Lib.hid hmap
  clear X3 X3l X3a X3b X3c
  have h6r : g6 < wr.heap.size := x6.lt
  have HBw := Lib.hid (show Below w.heap.size w wr from HB0.out.trans (hb.mono hq0))
  clear x6 hpo hmap hb
  by_cases hlt : k < al.length
  ·
   obtain ⟨bb, oo, rfl, hlb, c0, c1, c2, c3, c4, c5⟩ := (HRa.out.mono HBw.out).ar hlt
   have hkp : k < p.arcs.length := by rw [HPa.out, List.length_map]; exact hlt
   have hpk : p.arcs[k] = al[k].1 := by simp [HPa.out]
   have hmem : al[k].1 ∈ p.arcs := by rw [← hpk]; exact List.getElem_mem hkp
   have hst : (p.arcs.take (k + 1)).flatMap (fun a => piecesS a.id (pathS p a) b) = (p.arcs.take k).flatMap (fun a => piecesS a.id (pathS p a) b) ++ piecesS al[k].1.id (pathS p al[k].1) b := by
    rw [List.take_succ_eq_append_getElem hkp, List.flatMap_append, hpk]; simp
   obtain ⟨Av, cv, hv, -⟩ := HVi.out k hlt
   have hvia := HSm.out.via _ hmem
   have HSt := Lib.hid hst; have HMem := Lib.hid hmem
   clear hst hmem hpk hkp
   generalize al[k] = ya at *
   obtain ⟨a, va⟩ := ya
   dsimp only at HSt HMem hv c0 c1 c2 c3 c4 c5 hvia
   subst hv
   have TP : ∀ W, Below w.heap.size w W → Calls Tryz.prog 57 #[.agg #[.slice An nn cn, .slice (some ⟨bb, oo, none⟩) al.length ca, vf], .int .i64 a.id] W (RetPathE W (some (pathS p a))) := fun W hW => by
    have := Path_spec _ p a.id W (HP.out.mono hW) HSm.out.short
    rw [HVd.out.sound.path HMem.out] at this
    exact this
   have HPt := Lib.hid TP
   have hpl : (pathS p a).length ≤ 1002 := by rw [pathS_length]; omega
   have hp2 : 2 ≤ (pathS p a).length := by rw [pathS_length]; omega
   have TC : ∀ (W : World) v, Pts W v (pathS p a) → Calls Tryz.prog 58 #[.int .i64 a.id, v, .agg #[.int .i64 b.x0, .int .i64 b.y0, .int .i64 b.x1, .int .i64 b.y1]] W (RetPcs W (piecesS a.id (pathS p a) b)) := fun W v hv =>
    pieces_spec a.id (pathS p a) b v W hv (fun q hq => HVd.out.bdP_path HMem.out hq) HX.out (by omega) (by omega)
   have HTC := Lib.hid TC
   have hpcl := pcs_len a.id (pathS p a) b
   clear TP TC
   generalize piecesS a.id (pathS p a) b = pcs at *
   generalize pathS p a = path at *
   have X3 := HX3.out.below Hb.out hq5
   try clear X3l
   try clear X3a
   try clear X3b
   try clear X3c
   obtain ⟨X3l, X3a, X3b, X3c, -, -, -⟩ := X3.facts3
   go_upto_region 5 with fail
   obtain ⟨WA, hWA⟩ : ∃ WA : World, WA = wr.alloc (.cells #[.int .i64 a.id, .int .i64 a.fr, .int .i64 a.dst, .slice Av a.via.length cv, .int .i64 a.left, .int .i64 a.right] 63) := ⟨_, rfl⟩
   have hA : Below wr.heap.size wr WA := by rw [hWA]; exact bA (bR _) _
   obtain ⟨g8, hg8⟩ : ∃ g8, wr.heap.size = g8 := ⟨_, rfl⟩
   have X8 : Blk WA g8 63 #[.int .i64 a.id, .int .i64 a.fr, .int .i64 a.dst, .slice Av a.via.length cv, .int .i64 a.left, .int .i64 a.right] := by rw [hWA]; exact Blk.made hg8.symm _ _
   have HX8 := Lib.hid X8
   rw [← hWA]
   have HPOA := Lib.hid (HPO.out.keep hA); have HX6A := Lib.hid (HX6r.out.keep hA); have HBA := Lib.hid (Hb.out.trans (hA.mono (by omega))); have HBwA := Lib.hid (bT HBw.out hA)
   replace X3 := X3.keep hA
   have hzA := hA.size
   try simp only [hg8]
   have l68 : g6 < g8 := by omega
   clear hWA hg8 hA c0 c1 c2 c3 c4 c5 hlb HPO HX6r Hb HBw
   try clear X3l
   try clear X3a
   try clear X3b
   try clear X3c
   obtain ⟨X3l, X3a, X3b, X3c, -, -, -⟩ := X3.facts3
   obtain ⟨X8l, X8a, X8b, X8c, X8d, X8e, X8f, -, -, -, -, -, -⟩ := X8.facts6
   go_wp2_with fail
   refine (HPt.out _ HBwA.out).mono ?_
   rintro e wP ⟨A1, cp, rfl, hbp, hop⟩
   simp only [Option.getD_some, Option.isSome_some, if_true] at hop ⊢
   have hPOP := HPOA.out.keep hbp; have hX6P := HX6A.out.keep hbp; have hX8P := HX8.out.keep hbp
   have HBP := Lib.hid (HBA.out.trans (hbp.mono (by omega)))
   have hzP := hbp.size
   have hopw : Own wP g6 28 2 ptC (.slice A1 path.length cp) path := Own.mono_base hop (by omega)
   clear hop hbp X3 X8 X3l X3a X3b X3c X8l X8a X8b X8c X8d X8e X8f HPOA HX6A HX8 HBA HBwA
   have X5 := HX5.out.below HBP.out hq6
   obtain ⟨X5l, X5a, X5b, X5c, X5d, -, -, -, -⟩ := X5.facts4
   go_upto_region 7 with fail
   have PO := hPOP; have X6 := hX6P; have X8 := hX8P; have PW := hopw
   have l6P : g6 < wP.heap.size := X6.lt
   clear hPOP hX6P hX8P hopw
   refine rg_start (SinceB (g6) wP) (.take 0 1 (.take 2 5 (.take 4 21 (.take 5 53 (.two 1 55 (.call 3 63 (.call 6 127 (.call 7 255 (.take 8 511 (.call 9 1023 (.done)))))) 3 61 (.two 1 63 (.call 6 127 (.call 7 255 (.take 8 511 (.call 9 1023 (.done))))) 6 125 (.call 1 127 (.call 7 255 (.take 8 511 (.call 9 1023 (.done))))))))))) (by kernel_rfl) (Below.drew (Below.refl _ _)) (by kernel_rfl) (by kernel_rfl) (Nat.le_of_ble_eq_true (by kernel_rfl)) ?_
   intro opsR QR Hops HQrg hS
   replace PO := PO.drew
   replace X6 := X6.drew
   replace X8 := X8.drew
   replace PW := PW.drew
   iterate 4
    apply rg_pB; exact Hops; exact rfl; exact hS; exact rfl
    · intro _ hqc; go_simp; try rfl
    try simp only [pu]
   refine rg_two (i := 1) (j := 3) (get_of Hops rfl) (get_of Hops rfl) (fun K hK => ?_) (fun K hK => ?_)
   -- operation 1 first
   ·
    have HSrg := Lib.hid hS; clear hS
    refine rg_run (wanted_plain rfl) ?_
    obtain ⟨X6l, X6a, X6b, X6c, X6fa, X6fb, X6fc⟩ := X6.facts3
    go_simp
    refine hK.out _ _ HSrg.out (fun hS => ?_)
    clear hK K HSrg
    try simp only [pu]
    refine rg_call (i := 3) (get_of Hops rfl) (fun K hK => ?_)
    have HSrg := Lib.hid hS; clear hS
    refine rg_run (wanted_plain rfl) ?_
    obtain ⟨X8l, X8a, -, -, -, -, -, -⟩ := X8.facts6
    go_simp
    refine hK.out _ _ HSrg.out (fun hS => ?_)
    clear hK K HSrg
    try simp only [pu]
    refine rg_call (i := 6) (get_of Hops rfl) (fun K hK => ?_)
    have HSrg := Lib.hid hS; clear hS
    refine rg_run (wanted_plain rfl) ?_
    go_simp
    refine (HTC.out _ _ PW.sl).mono ?_
    rintro e wr1 ⟨A2, c2, L2, rfl, hbr1, hm2, hp2⟩
    have hS : SinceB (g6) wP wr1 := (show Below (g6) wP _ from HSrg.out).trans (hbr1.mono (Nat.le_trans (by omega) (show Below (g6) wP _ from HSrg.out).size))
    clear HSrg
    try replace PO := PO.keep hbr1
    try replace X6 := X6.keep hbr1
    try replace X8 := X8.keep hbr1
    try replace PW := PW.keep hbr1
    refine hK.out _ _ hS (fun _ => ?_)
    clear hK K
    try simp only [pu]
    refine rg_call (i := 7) (get_of Hops rfl) (fun K hK => ?_)
    have HSrg := Lib.hid hS; clear hS
    refine rg_run (wanted_plain rfl) ?_
    have hl2 : L2.length ≤ 1003 := (by have := congrArg List.length hm2; rw [List.length_map] at this; omega)
    have hz1 : g6 ≤ _ := Nat.le_trans (Nat.le_of_lt l6P) (show Below g6 wP _ from HSrg.out).size
    refine wp_appl (.tmp 32) (.tmp 37) _ rfl (base := g6) (l2 := L2) elem_pc pcS_len pcS_one rfl PO.own rfl hp2.own.sl (by omega) (by omega) hz1 ?_
    intro v9 wn hon9 hgn hatn
    obtain ⟨A9, c9, hv9, -⟩ := Own.shape_ hon9
    rw [List.length_append] at hv9
    subst hv9
    have X6n := X6.grown hgn (fun e => Own.ne_blk PO.own X6 (by decide) e.symm)
    have HPn := Lib.hid (show PcsO wn g6 (.slice A9 (L.length + L2.length) c9) (L ++ L2) from ⟨hon9, fun x hx => (List.mem_append.1 hx).elim (fun hx => Own.grown (PO.path x hx) hgn (fun j hj => Own.apart (PO.path x hx) PO.own (by decide) j hj)) (fun hx => Own.mono_base (Own.grown (hp2.path x hx) hgn (fun j hj => Own.apart (hp2.path x hx) PO.own (by decide) j hj)) (by have := hzP; first | omega | (simp; omega)))⟩)
    have hS : SinceB g6 wP wn := Below.grown (show Below g6 wP _ from HSrg.out) hgn hz1 (fun j hj => (PO.own.lt j hj).1)
    obtain ⟨X6l, X6a, X6b, X6c, X6fa, X6fb, X6fc⟩ := X6n.facts3
    clear hon9 hgn hatn
    clear HSrg
    refine hK.out _ _ hS (fun _ => ?_)
    clear hK K
    try simp only [pu]
    apply rg_pB; exact Hops; exact rfl; exact hS; exact rfl
    · intro _ hqc; go_simp; try rfl
    try simp only [pu]
    refine rg_call (i := 9) (get_of Hops rfl) (fun K hK => ?_)
    have HSrg := Lib.hid hS; clear hS
    refine rg_run (wanted_plain rfl) ?_
    go_simp
    refine hK.out _ _ (by unfold SinceB; have h : Below _ _ _ := HSrg.out; repeat (first | with_reducible assumption | with_reducible exact Below.refl _ _ | with_reducible refine bSB ?_ (by first | omega | (simp; omega)) _ | with_reducible refine Below.drew ?_ | with_reducible refine bAB (by omega) ?_ _ | exact h)) ?_
    intro hS
    clear hK K HSrg
    try simp only [pu]
    refine rg_done ?_
    refine HQrg.down _ _ ?_
    have hB : Below (g6) wP _ := hS
    clear hS HQrg Hops
    go_wp2_with fail
    go_roundw
    case rel => (rw [show (L.length + L2.length) = (L ++ L2).length by simp] at *; exact ⟨k + 1, L ++ L2, A9, c9, by omega, by go_num, by have := X6n.set_ 1 (.slice A9 (L ++ L2).length c9); simpa using this, HPn.out.far X6n (by decide) (by decide) _ _, by rw [List.map_append, HMap.out, hm2, HSt.out], by rw [List.length_append]; omega, HBP.out.trans hB⟩)
    case measure => simp [intOf]; omega
   -- operation 3 first
   ·
    have HSrg := Lib.hid hS; clear hS
    refine rg_run (wanted_plain rfl) ?_
    obtain ⟨X8l, X8a, -, -, -, -, -, -⟩ := X8.facts6
    go_simp
    refine hK.out _ _ HSrg.out (fun hS => ?_)
    clear hK K HSrg
    try simp only [pu]
    refine rg_two (i := 1) (j := 6) (get_of Hops rfl) (get_of Hops rfl) (fun K hK => ?_) (fun K hK => ?_)
    -- operation 1 first
    ·
     have HSrg := Lib.hid hS; clear hS
     refine rg_run (wanted_plain rfl) ?_
     obtain ⟨X6l, X6a, X6b, X6c, X6fa, X6fb, X6fc⟩ := X6.facts3
     go_simp
     refine hK.out _ _ HSrg.out (fun hS => ?_)
     clear hK K HSrg
     try simp only [pu]
     refine rg_call (i := 6) (get_of Hops rfl) (fun K hK => ?_)
     have HSrg := Lib.hid hS; clear hS
     refine rg_run (wanted_plain rfl) ?_
     go_simp
     refine (HTC.out _ _ PW.sl).mono ?_
     rintro e wr1 ⟨A2, c2, L2, rfl, hbr1, hm2, hp2⟩
     have hS : SinceB (g6) wP wr1 := (show Below (g6) wP _ from HSrg.out).trans (hbr1.mono (Nat.le_trans (by omega) (show Below (g6) wP _ from HSrg.out).size))
     clear HSrg
     try replace PO := PO.keep hbr1
     try replace X6 := X6.keep hbr1
     try replace X8 := X8.keep hbr1
     try replace PW := PW.keep hbr1
     refine hK.out _ _ hS (fun _ => ?_)
     clear hK K
     try simp only [pu]
     refine rg_call (i := 7) (get_of Hops rfl) (fun K hK => ?_)
     have HSrg := Lib.hid hS; clear hS
     refine rg_run (wanted_plain rfl) ?_
     have hl2 : L2.length ≤ 1003 := (by have := congrArg List.length hm2; rw [List.length_map] at this; omega)
     have hz1 : g6 ≤ _ := Nat.le_trans (Nat.le_of_lt l6P) (show Below g6 wP _ from HSrg.out).size
     refine wp_appl (.tmp 32) (.tmp 37) _ rfl (base := g6) (l2 := L2) elem_pc pcS_len pcS_one rfl PO.own rfl hp2.own.sl (by omega) (by omega) hz1 ?_
     intro v9 wn hon9 hgn hatn
     obtain ⟨A9, c9, hv9, -⟩ := Own.shape_ hon9
     rw [List.length_append] at hv9
     subst hv9
     have X6n := X6.grown hgn (fun e => Own.ne_blk PO.own X6 (by decide) e.symm)
     have HPn := Lib.hid (show PcsO wn g6 (.slice A9 (L.length + L2.length) c9) (L ++ L2) from ⟨hon9, fun x hx => (List.mem_append.1 hx).elim (fun hx => Own.grown (PO.path x hx) hgn (fun j hj => Own.apart (PO.path x hx) PO.own (by decide) j hj)) (fun hx => Own.mono_base (Own.grown (hp2.path x hx) hgn (fun j hj => Own.apart (hp2.path x hx) PO.own (by decide) j hj)) (by have := hzP; first | omega | (simp; omega)))⟩)
     have hS : SinceB g6 wP wn := Below.grown (show Below g6 wP _ from HSrg.out) hgn hz1 (fun j hj => (PO.own.lt j hj).1)
     obtain ⟨X6l, X6a, X6b, X6c, X6fa, X6fb, X6fc⟩ := X6n.facts3
     clear hon9 hgn hatn
     clear HSrg
     refine hK.out _ _ hS (fun _ => ?_)
     clear hK K
     try simp only [pu]
     apply rg_pB; exact Hops; exact rfl; exact hS; exact rfl
     · intro _ hqc; go_simp; try rfl
     try simp only [pu]
     refine rg_call (i := 9) (get_of Hops rfl) (fun K hK => ?_)
     have HSrg := Lib.hid hS; clear hS
     refine rg_run (wanted_plain rfl) ?_
     go_simp
     refine hK.out _ _ (by unfold SinceB; have h : Below _ _ _ := HSrg.out; repeat (first | with_reducible assumption | with_reducible exact Below.refl _ _ | with_reducible refine bSB ?_ (by first | omega | (simp; omega)) _ | with_reducible refine Below.drew ?_ | with_reducible refine bAB (by omega) ?_ _ | exact h)) ?_
     intro hS
     clear hK K HSrg
     try simp only [pu]
     refine rg_done ?_
     refine HQrg.down _ _ ?_
     have hB : Below (g6) wP _ := hS
     clear hS HQrg Hops
     go_wp2_with fail
     go_roundw
     case rel => (rw [show (L.length + L2.length) = (L ++ L2).length by simp] at *; exact ⟨k + 1, L ++ L2, A9, c9, by omega, by go_num, by have := X6n.set_ 1 (.slice A9 (L ++ L2).length c9); simpa using this, HPn.out.far X6n (by decide) (by decide) _ _, by rw [List.map_append, HMap.out, hm2, HSt.out], by rw [List.length_append]; omega, HBP.out.trans hB⟩)
     case measure => simp [intOf]; omega
    -- operation 6 first
    ·
     have HSrg := Lib.hid hS; clear hS
     refine rg_run (wanted_plain rfl) ?_
     go_simp
     refine (HTC.out _ _ PW.sl).mono ?_
     rintro e wr1 ⟨A2, c2, L2, rfl, hbr1, hm2, hp2⟩
     have hS : SinceB (g6) wP wr1 := (show Below (g6) wP _ from HSrg.out).trans (hbr1.mono (Nat.le_trans (by omega) (show Below (g6) wP _ from HSrg.out).size))
     clear HSrg
     try replace PO := PO.keep hbr1
     try replace X6 := X6.keep hbr1
     try replace X8 := X8.keep hbr1
     try replace PW := PW.keep hbr1
     refine hK.out _ _ hS (fun _ => ?_)
     clear hK K
     try simp only [pu]
     refine rg_call (i := 1) (get_of Hops rfl) (fun K hK => ?_)
     have HSrg := Lib.hid hS; clear hS
     refine rg_run (wanted_plain rfl) ?_
     obtain ⟨X6l, X6a, X6b, X6c, X6fa, X6fb, X6fc⟩ := X6.facts3
     go_simp
     refine hK.out _ _ HSrg.out (fun hS => ?_)
     clear hK K HSrg
     try simp only [pu]
     refine rg_call (i := 7) (get_of Hops rfl) (fun K hK => ?_)
     have HSrg := Lib.hid hS; clear hS
     refine rg_run (wanted_plain rfl) ?_
     have hl2 : L2.length ≤ 1003 := (by have := congrArg List.length hm2; rw [List.length_map] at this; omega)
     have hz1 : g6 ≤ _ := Nat.le_trans (Nat.le_of_lt l6P) (show Below g6 wP _ from HSrg.out).size
     refine wp_appl (.tmp 32) (.tmp 37) _ rfl (base := g6) (l2 := L2) elem_pc pcS_len pcS_one rfl PO.own rfl hp2.own.sl (by omega) (by omega) hz1 ?_
     intro v9 wn hon9 hgn hatn
     obtain ⟨A9, c9, hv9, -⟩ := Own.shape_ hon9
     rw [List.length_append] at hv9
     subst hv9
     have X6n := X6.grown hgn (fun e => Own.ne_blk PO.own X6 (by decide) e.symm)
     have HPn := Lib.hid (show PcsO wn g6 (.slice A9 (L.length + L2.length) c9) (L ++ L2) from ⟨hon9, fun x hx => (List.mem_append.1 hx).elim (fun hx => Own.grown (PO.path x hx) hgn (fun j hj => Own.apart (PO.path x hx) PO.own (by decide) j hj)) (fun hx => Own.mono_base (Own.grown (hp2.path x hx) hgn (fun j hj => Own.apart (hp2.path x hx) PO.own (by decide) j hj)) (by have := hzP; first | omega | (simp; omega)))⟩)
     have hS : SinceB g6 wP wn := Below.grown (show Below g6 wP _ from HSrg.out) hgn hz1 (fun j hj => (PO.own.lt j hj).1)
     obtain ⟨X6l, X6a, X6b, X6c, X6fa, X6fb, X6fc⟩ := X6n.facts3
     clear hon9 hgn hatn
     clear HSrg
     refine hK.out _ _ hS (fun _ => ?_)
     clear hK K
     try simp only [pu]
     apply rg_pB; exact Hops; exact rfl; exact hS; exact rfl
     · intro _ hqc; go_simp; try rfl
     try simp only [pu]
     refine rg_call (i := 9) (get_of Hops rfl) (fun K hK => ?_)
     have HSrg := Lib.hid hS; clear hS
     refine rg_run (wanted_plain rfl) ?_
     go_simp
     refine hK.out _ _ (by unfold SinceB; have h : Below _ _ _ := HSrg.out; repeat (first | with_reducible assumption | with_reducible exact Below.refl _ _ | with_reducible refine bSB ?_ (by first | omega | (simp; omega)) _ | with_reducible refine Below.drew ?_ | with_reducible refine bAB (by omega) ?_ _ | exact h)) ?_
     intro hS
     clear hK K HSrg
     try simp only [pu]
     refine rg_done ?_
     refine HQrg.down _ _ ?_
     have hB : Below (g6) wP _ := hS
     clear hS HQrg Hops
     go_wp2_with fail
     go_roundw
     case rel => (rw [show (L.length + L2.length) = (L ++ L2).length by simp] at *; exact ⟨k + 1, L ++ L2, A9, c9, by omega, by go_num, by have := X6n.set_ 1 (.slice A9 (L ++ L2).length c9); simpa using this, HPn.out.far X6n (by decide) (by decide) _ _, by rw [List.map_append, HMap.out, hm2, HSt.out], by rw [List.length_append]; omega, HBP.out.trans hB⟩)
     case measure => simp [intOf]; omega
  ·
   have hkk : k = al.length := by omega
   have hall : L.map (·.1) = q.pieces := by
    have h1 := HMap.out
    rw [hkk, show al.length = p.arcs.length by rw [HPa.out, List.length_map], List.take_length] at h1
    rw [h1, ← HQ.out]; rfl
   have HAll := Lib.hid hall
   have HQn := Lib.hid (show q.nodes = p.nodes.filter (fun n => inB b n.pt) ∧ q.sheet = sheet by rw [← HQ.out]; exact ⟨rfl, rfl⟩)
   have c1 : ¬ (k : Int) < al.length := by omega
   have X3 := HX3.out.below Hb.out hq5
   have hLl : L.length ≤ 2000000 := by omega
   clear hall hkk hlen HMap HPa HVi HRa
   try clear X3l
   try clear X3a
   try clear X3b
   try clear X3c
   obtain ⟨X3l, X3a, X3b, X3c, -, -, -⟩ := X3.facts3
   go_upto_block 2 with fail
   go_wp2_with fail
   go_loopw [44] (fun u wx => ∃ (j : Nat) (N : List Nd) (A2 : Option Addr) (c2 : Nat), j ≤ nn ∧ u = .int .i64 j ∧ Blk wx g6 35 #[.int .i64 sheet, .slice A L.length c, .slice A2 N.length c2] ∧ PcsO wx g6 (.slice A L.length c) L ∧ Own wx g6 59 3 ndC (.slice A2 N.length c2) N ∧ N = (p.nodes.take j).filter (fun n => inB b n.pt) ∧ N.length ≤ j ∧ Below g6 W wx) (fun u _ => nn - (intOf u).toNat)
   case atStart => exact ⟨0, [], none, 0, Nat.zero_le _, rfl, HX6r.out, HPO.out, Own.nil _ _ _ _ _, rfl, Nat.le_refl _, Hb.out⟩
   case round =>
    rename_i wr0
    obtain ⟨j, N, A2, c2, hj, rfl, x6, hpo, hon, hN, hNl, hb2⟩ := hrel
    have HPO2 := Lib.hid hpo; have HX62 := Lib.hid x6; have HON := Lib.hid hon; have HN2 := Lib.hid hN; have Hb2 := Lib.hid hb2
    have h6r2 : g6 < wr.heap.size := x6.lt
    have HBw2 := Lib.hid (show Below w.heap.size w wr from HB0.out.trans (hb2.mono hq0))
    have X6 := x6
    clear x6 hpo hon hN hb2
    by_cases hlt2 : j < nn
    ·
     have hjn : j < p.nodes.length := by rw [HNn.out]; exact hlt2
     obtain ⟨bb, oo, hA, hlb, c0, d1, d2⟩ := (HRn.out.mono HBw2.out).nd hjn
     subst hA
     have hst : (p.nodes.take (j + 1)).filter (fun n => inB b n.pt) = N ++ (if inB b p.nodes[j].pt = true then [p.nodes[j]] else []) := by
      rw [List.take_succ_eq_append_getElem hjn, List.filter_append, ← HN2.out]
      congr 1
      by_cases hz : inB b p.nodes[j].pt = true
      · rw [if_pos hz]; simp [hz]
      · rw [if_neg hz]; simp [hz]
     have HSt := Lib.hid hst
     have HIn := Lib.hid (fun W => gIn_spec b p.nodes[j].pt W)
     unfold bxV ptV at HIn
     clear hst
     generalize p.nodes[j] = nd at *
     obtain ⟨z, hz⟩ : ∃ z, inB b nd.pt = z := ⟨_, rfl⟩
     rw [hz] at HIn HSt
     clear hz
     go_upto_region 12 with fail
     obtain ⟨WA, hWA⟩ : ∃ WA : World, WA = wr.alloc (.cells #[.int .i64 nd.id, .int .i64 nd.pt.x, .int .i64 nd.pt.y] 59) := ⟨_, rfl⟩
     have hA : Below wr.heap.size wr WA := by rw [hWA]; exact bA (bR _) _
     obtain ⟨g8, hg8⟩ : ∃ g8, wr.heap.size = g8 := ⟨_, rfl⟩
     have X8 : Blk WA g8 59 #[.int .i64 nd.id, .int .i64 nd.pt.x, .int .i64 nd.pt.y] := by rw [hWA]; exact Blk.made hg8.symm _ _
     have HX8 := Lib.hid X8
     rw [← hWA]
     have HPOA := Lib.hid (HPO2.out.keep hA); have HX6A := Lib.hid (HX62.out.keep hA); have HBA := Lib.hid (Hb2.out.trans (hA.mono (by omega))); have HONA := Lib.hid (HON.out.keep hA)
     have X5 := HX5.out.below HBA.out hq6
     have hzA := hA.size
     try simp only [hg8]
     have l68 : g6 < g8 := by omega
     clear hWA hg8 hA c0 d1 d2 hlb HPO2 HX62 Hb2 HON X6
     try clear X5l
     try clear X5a
     try clear X5b
     try clear X5c
     try clear X5d
     obtain ⟨X5l, X5a, X5b, X5c, X5d, -, -, -, -⟩ := X5.facts4
     try clear X8l
     try clear X8a
     try clear X8b
     try clear X8c
     obtain ⟨X8l, X8a, X8b, X8c, -, -, -⟩ := X8.facts3
     go_wp2_with fail
     refine (HIn.out _).mono ?_
     rintro e wP ⟨rfl, hbp⟩
     have HPOP := Lib.hid (HPOA.out.keep hbp); have HX6P := Lib.hid (HX6A.out.keep hbp); have HONP := Lib.hid (HONA.out.keep hbp)
     have HBP := Lib.hid (HBA.out.trans (hbp.mono (by omega)))
     have X6 := HX6P.out
     replace X8 := X8.keep hbp
     have hzP := hbp.size
     clear hbp X5 X5l X5a X5b X5c X5d X8l X8a X8b X8c HPOA HX6A HX8 HONA HBA
     cases z
     ·
      have HSt2 := Lib.hid (show N = (p.nodes.take (j + 1)).filter (fun n => inB b n.pt) by rw [HSt.out]; simp)
      go_wp2_with fail
      go_roundw
      case rel => exact ⟨j + 1, N, A2, c2, by omega, by go_num, HX6P.out, HPOP.out, HONP.out, HSt2.out, by omega, HBP.out⟩
      case measure => simp [intOf]; omega
     ·
      have HSt2 := Lib.hid (show N ++ [nd] = (p.nodes.take (j + 1)).filter (fun n => inB b n.pt) by rw [HSt.out]; simp)
      try clear X6l
      try clear X6a
      try clear X6b
      try clear X6c
      try clear X6fa
      try clear X6fb
      try clear X6fc
      obtain ⟨X6l, X6a, X6b, X6c, X6fa, X6fb, X6fc⟩ := X6.facts3
      try clear X8l
      try clear X8a
      try clear X8b
      try clear X8c
      obtain ⟨X8l, X8a, X8b, X8c, -, -, -⟩ := X8.facts3
      go_wp2_with
       (at_builtin
        refine wpList_appl _ rfl (.tmp 53) (.tmp 55) _ rfl (base := g6) elem_nd ndC_len ndC_one rfl (Own.alloc HONP.out _) rfl (l2 := [nd]) (Sl.lit (n := 1) (Blk.made rfl _ _) rfl (le_maxLen (by omega))) (by simp only [List.length_cons, List.length_nil]; omega) (by simp only [List.length_cons, List.length_nil]; omega) (by have := HX6P.out.lt; simp; omega) ?_
        intro v5 w5 ho5 hg5 hat5
        obtain ⟨A5, c5, hv5, -⟩ := Own.shape_ ho5
        rw [show (N ++ [nd]).length = N.length + 1 by simp] at hv5
        subst hv5
        have e6 := Own.ne_blk HONP.out HX6P.out (by decide)
        have Z6 := Blk.grown (HX6P.out.alloc _) hg5 (fun e => e6 e.symm)
        have HZ6 := Lib.hid Z6
        have HPO5 := Lib.hid (show PcsO w5 g6 (.slice A L.length c) L from ⟨Own.grown (Own.alloc HPOP.out.own _) hg5 (fun i hi => Own.apart HPOP.out.own HONP.out (by decide) i hi), fun x hx => Own.grown (Own.alloc (HPOP.out.path x hx) _) hg5 (fun i hi => Own.apart (HPOP.out.path x hx) HONP.out (by decide) i hi)⟩)
        have HB5 := Lib.hid (Below.grown (HBP.out.alloc (by have := HX6P.out.lt; omega) _) hg5 (by have := HX6P.out.lt; simp; omega) (fun i hi => (HONP.out.lt i hi).1))
        have HO5 := Lib.hid ho5
        clear ho5 hg5 hat5 e6
        obtain ⟨Z6l, Z6a, Z6b, Z6c, Z6fa, Z6fb, Z6fc⟩ := Z6.facts3
        )
      go_wp2_with fail
      go_roundw
      case rel => (rw [show (N.length + 1) = (N ++ [nd]).length by simp] at *; exact ⟨j + 1, N ++ [nd], A5, c5, by omega, by go_num, by have := HZ6.out.set_ 2 (.slice A5 (N ++ [nd]).length c5); simpa using this, HPO5.out.far HZ6.out (by decide) (by decide) _ _, HO5.out.far (Own.ne_blk HO5.out HZ6.out (by decide)) _, HSt2.out, by rw [List.length_append, List.length_singleton]; omega, HB5.out.setCell (p := ⟨g6, 2, none⟩) (Nat.le_refl _) _⟩)
      case measure => simp [intOf]; omega
    ·
     have hjj : j = nn := by omega
     have hNf : N = q.nodes := by rw [HN2.out, hjj, ← HNn.out, List.take_length, HQn.out.1]
     have HNf := Lib.hid hNf
     have d1 : ¬ (j : Int) < nn := by omega
     clear hjj hNf
     have hp3 : PcsO (((wr.setCell ⟨g6, 0, none⟩ (.int .i64 sheet)).setCell ⟨g6, 1, none⟩ (.slice A L.length c)).setCell ⟨g6, 2, none⟩ (.slice A2 N.length c2)) w.heap.size (.slice A L.length c) L := by
      have h1 := HPO2.out.far HX62.out (by decide) (by decide) 0 (.int .i64 sheet)
      have x1 := HX62.out.set_ 0 (.int .i64 sheet)
      have h2 := h1.far x1 (by decide) (by decide) 1 (.slice A L.length c)
      have x2 := x1.set_ 1 (.slice A L.length c)
      have h3 := h2.far x2 (by decide) (by decide) 2 (.slice A2 N.length c2)
      exact ⟨h3.own.mono_base hq0, fun x hx => (h3.path x hx).mono_base hq0⟩
     have hn3 : Own (((wr.setCell ⟨g6, 0, none⟩ (.int .i64 sheet)).setCell ⟨g6, 1, none⟩ (.slice A L.length c)).setCell ⟨g6, 2, none⟩ (.slice A2 N.length c2)) w.heap.size 59 3 ndC (.slice A2 N.length c2) N := by
      have n6 := Own.ne_blk HON.out HX62.out (by decide)
      exact (((HON.out.far (p := ⟨g6, 0, none⟩) n6 _).far (p := ⟨g6, 1, none⟩) n6 _).far (p := ⟨g6, 2, none⟩) n6 _).mono_base hq0
     have HP3 := Lib.hid hp3; have HN3 := Lib.hid hn3
     have HB3 := Lib.hid (((HBw2.out.setCell (p := ⟨g6, 0, none⟩) hq0 (.int .i64 sheet)).setCell (p := ⟨g6, 1, none⟩) hq0 (.slice A L.length c)).setCell (p := ⟨g6, 2, none⟩) hq0 (.slice A2 N.length c2))
     clear hp3 hn3
     try clear X6l
     try clear X6a
     try clear X6b
     try clear X6c
     try clear X6fa
     try clear X6fb
     try clear X6fc
     obtain ⟨X6l, X6a, X6b, X6c, X6fa, X6fb, X6fc⟩ := X6.facts3
     go_wp2_with fail
     refine res_cell (g := g6) (cs := #[.int .i64 sheet, .slice A L.length c, .slice A2 N.length c2]) rfl struct_prt rfl rfl (Blk.put3 HX62.out) ⟨A, L.length, c, A2, N.length, c2, by rw [HQn.out.2], HB3.out, L, HP3.out, HAll.out, ?_⟩
     have := HN3.out
     rw [← HNf.out]
     exact this
end Go.Proofs.YtfondidmklmonaaGreat
namespace Go.Proofs.YtfondidmklmonaaGreat
open Go.RowKit

theorem InS.smB {s : Se} {n : Int} (h : InS s n) : smB (boxOf s n) ∧ (boxOf s n).x0 < (boxOf s n).x1 ∧ (boxOf s n).y0 < (boxOf s n).y1 := by
 have hb := seOk_bd h.ok
 have hi := h.bd
 have hx := hb.x; have hy := hb.y; have hw := hb.w; have hh := hb.h; have hc := hb.c; have hr := hb.r
 have h1 := mul_bds (a := colS s n) (b := s.width) (m := 16) (n := 65536) hi.1 (by omega) (by omega) hw.2
 have h2 := mul_bds (a := rowS s n) (b := s.height) (m := 16) (n := 65536) hi.2.2.1 (by omega) (by omega) hh.2
 unfold boxOf Go.Proofs.YtfondidmklmonaaGreat.smB sm22
 refine ⟨⟨⟨⟨?_, ?_⟩, ?_, ?_⟩, ⟨?_, ?_⟩, ?_, ?_⟩, ?_, ?_⟩ <;> simp only <;> omega
def prt0 : Prt := ⟨0, [], []⟩
def partRes (p : Pl) (s : Se) (n : Int) : Prt × Int :=
 if checkS p ≠ 0 then (prt0, checkS p) else if findE s n ≠ 0 then (prt0, findE s n) else (partS p n (boxOf s n), 0)
def RetPrtE (w : World) (r : Prt × Int) (e : Ending) (w' : World) : Prop :=
 ∃ A n c A' n' c', e = .returned (.tuple #[.agg #[.int .i64 r.1.sheet, .slice A n c, .slice A' n' c'], .int .i64 r.2]) ∧ Below w.heap.size w w' ∧ PrtO w' w.heap.size r.1 (.slice A n c) (.slice A' n' c')
theorem PrtO.zero (w : World) (B : Nat) : PrtO w B prt0 (.slice none 0 0) (.slice none 0 0) := ⟨[], ⟨Own.nil _ _ _ _ _, fun x hx => by cases hx⟩, rfl, Own.nil _ _ _ _ _⟩
theorem PrtO.keep {w w' : World} {B : Nat} {x : Prt} {vp vn : Value} (h : PrtO w B x vp vn) (hb : Below w.heap.size w w') : PrtO w' B x vp vn := by
 obtain ⟨L, h1, h2, h3⟩ := h
 exact ⟨L, h1.keep hb, h2, h3.keep hb⟩
theorem PrtO.base {w : World} {B B' : Nat} {x : Prt} {vp vn : Value} (h : PrtO w B x vp vn) (hb : B' ≤ B) : PrtO w B' x vp vn := by
 obtain ⟨L, h1, h2, h3⟩ := h
 exact ⟨L, ⟨h1.own.mono_base hb, fun x hx => (h1.path x hx).mono_base hb⟩, h2, h3.mono_base hb⟩
theorem PrtO.far {w : World} {B g : Nat} {x : Prt} {vp vn : Value} (h : PrtO w B x vp vn) {t : TypeId} {cs : Array Value} (hg : Blk w g t cs) (h1 : 55 ≠ t) (h2 : 28 ≠ t) (h3 : 59 ≠ t) (i : Nat) (u : Value) : PrtO (w.setCell ⟨g, i, none⟩ u) B x vp vn := by
 obtain ⟨L, p1, p2, p3⟩ := h
 exact ⟨L, p1.far hg h1 h2 i u, p2, p3.far (Own.ne_blk p3 hg h3) u⟩
theorem PrtO.grown {w w' : World} {B : Nat} {x : Prt} {vp vn : Value} (h : PrtO w B x vp vn) {row : Option Nat} (hg : w.grownBy w' row) (h1 : ∀ α (f : α → List Value) v (l : List α) s t, (t = 55 ∨ t = 28 ∨ t = 59) → Own w B t s f v l → ∀ k, v.ownBlock = some k → some k ≠ row) : PrtO w' B x vp vn := by
 obtain ⟨L, p1, p2, p3⟩ := h
 exact ⟨L, ⟨Own.grown p1.own hg (h1 _ _ _ _ _ _ (.inl rfl) p1.own), fun y hy => Own.grown (p1.path y hy) hg (h1 _ _ _ _ _ _ (.inr (.inl rfl)) (p1.path y hy))⟩, p2, Own.grown p3 hg (h1 _ _ _ _ _ _ (.inr (.inr rfl)) p3)⟩
set_option maxRecDepth 100000 in
set_option maxHeartbeats 8000000 in
theorem Part_spec (v : Value) (p : Pl) (s : Se) (n : Int) (w : World) (h : PlV w v p) (hs : SmP p) : Calls Tryz.prog 12 #[v, seV s, .int .i64 n] w (RetPrtE w (partRes p s n)) := by
 have HP := Lib.hid h; have HSm := Lib.hid hs
 have TC := fun (W : World) hW => Check_spec v p W (h.mono hW)
 have HCk := Lib.hid TC
 have HBx := Lib.hid (fun W => sBox_spec s n W)
 obtain ⟨q, hq⟩ : ∃ q, partRes p s n = q := ⟨_, rfl⟩
 rw [hq]
 unfold partRes at hq
 have HQ := Lib.hid hq
 obtain ⟨vn, va, vf, al, rfl, -⟩ := h
 unfold seV at HBx ⊢
 clear hq hs TC
 obtain ⟨s0, hs0⟩ : ∃ s0, w.heap.size = s0 := ⟨_, rfl⟩
 obtain ⟨g4, h4⟩ : ∃ g, s0 + 1 = g := ⟨_, rfl⟩
 obtain ⟨g6, h6⟩ : ∃ g, g4 + 1 = g := ⟨_, rfl⟩
 obtain ⟨W, hW⟩ : ∃ W : World, W = ((w.alloc (.cells #[vn, va, vf] 26)).alloc (.cells #[.int .i64 s.at_.x, .int .i64 s.at_.y, .int .i64 s.width, .int .i64 s.height, .int .i64 s.cols, .int .i64 s.rows] 30)).alloc (.cells #[.int .i64 0, .slice none 0 0, .slice none 0 0] 35) := ⟨_, rfl⟩
 have HB0 := Lib.hid (show Below w.heap.size w W by rw [hW]; exact bA (bA (bA (bR w) _) _) _)
 have X3 : Blk W s0 26 #[vn, va, vf] := by rw [hW]; exact ((Blk.made hs0.symm _ _).alloc _).alloc _
 have X4 : Blk W g4 30 #[.int .i64 s.at_.x, .int .i64 s.at_.y, .int .i64 s.width, .int .i64 s.height, .int .i64 s.cols, .int .i64 s.rows] := by rw [hW]; exact (Blk.made (by simp; omega) _ _).alloc _
 have X6 : Blk W g6 35 #[.int .i64 0, .slice none 0 0, .slice none 0 0] := by rw [hW]; exact Blk.made (by simp; omega) _ _
 go_enter Tryz.func12, Tryz.ntmps12
 go_upto_region 1 with fail
 try rw [← hW]
 have HG := Lib.hid (show w.heap.size = s0 ∧ s0 + 1 = g4 ∧ g4 + 1 = g6 from ⟨hs0, h4, h6⟩)
 clear hW hs0 h4 h6
 have hq0 : w.heap.size ≤ g6 := by have := HG.out; omega
 obtain ⟨X3l, X3a, X3b, X3c, -, -, -⟩ := X3.facts3
 go_wp2_with fail
 refine (HCk.out _ HB0.out).mono ?_
 rintro e w1 ⟨rfl, hb1⟩
 have HB1 := Lib.hid (bT HB0.out hb1)
 replace X3 := X3.keep hb1
 replace X4 := X4.keep hb1
 replace X6 := X6.keep hb1
 have HX6 := Lib.hid X6
 clear hb1 HCk HB0
 by_cases hck : checkS p = 0
 case neg =>
  have hne : (checkS p != 0) = true := by simp [hck]
  have hq := HQ.out
  rw [if_pos hck] at hq
  have HF := Lib.hid hq
  clear hq hck
  generalize checkS p = z at *
  obtain ⟨X6l, X6a, X6b, X6c, X6fa, X6fb, X6fc⟩ := X6.facts3
  go_wp2_with fail
  refine res_cell_tmp (g := g6) (cs := #[.int .i64 0, .slice none 0 0, .slice none 0 0]) rfl struct_prt rfl rfl (Blk.put3 HX6.out) ⟨none, 0, 0, none, 0, 0, ?_, ?_, ?_⟩
  · rw [← HF.out]; rfl
  · exact ((HB1.out.setCell (p := ⟨g6, 0, none⟩) hq0 _).setCell (p := ⟨g6, 1, none⟩) hq0 _).setCell (p := ⟨g6, 2, none⟩) hq0 _
  · rw [← HF.out]; exact PrtO.zero _ _
 have hq := HQ.out
 rw [if_neg (fun h => h hck)] at hq
 have HQ1 := Lib.hid hq
 have HVd := Lib.hid ((check_zero p).1 hck)
 rw [hck]
 clear hq hck HQ
 try clear X3l X3a X3b X3c
 obtain ⟨X4l, X4a, X4b, X4c, X4d, X4e, X4f, -, -, -, -, -, -⟩ := X4.facts6
 go_wp2_with fail
 refine (HBx.out _).mono ?_
 rintro e w2 ⟨rfl, hb2⟩
 have HB2 := Lib.hid (bT HB1.out hb2)
 replace X3 := X3.keep hb2
 replace X6 := X6.keep hb2
 replace HX6 := Lib.hid X6
 clear hb2 HB1 HBx X4 X4l X4a X4b X4c X4d X4e X4f
 by_cases hfe : findE s n = 0
 case neg =>
  have hne : (findE s n != 0) = true := by simp [hfe]
  have hq := HQ1.out
  rw [if_pos hfe] at hq
  have HF := Lib.hid hq
  have hbr : boxRes s n = (bx0, findE s n) := by unfold boxRes; rw [if_neg hfe]
  rw [hbr]
  clear hq hfe hbr
  generalize findE s n = z at *
  unfold boxV bxV bx0
  try clear X6l
  try clear X6a
  try clear X6b
  try clear X6c
  try clear X6fa
  try clear X6fb
  try clear X6fc
  obtain ⟨X6l, X6a, X6b, X6c, X6fa, X6fb, X6fc⟩ := X6.facts3
  go_wp2_with fail
  refine res_cell_tmp (g := g6) (cs := #[.int .i64 0, .slice none 0 0, .slice none 0 0]) rfl struct_prt rfl rfl ((Blk.put3 HX6.out).alloc _) ⟨none, 0, 0, none, 0, 0, ?_, ?_, ?_⟩
  · rw [← HF.out]; rfl
  · exact bA (((HB2.out.setCell (p := ⟨g6, 0, none⟩) hq0 _).setCell (p := ⟨g6, 1, none⟩) hq0 _).setCell (p := ⟨g6, 2, none⟩) hq0 _) _
  · rw [← HF.out]; exact PrtO.zero _ _
 have hq := HQ1.out
 rw [if_neg (fun h => h hfe)] at hq
 have hbr : boxRes s n = (boxOf s n, 0) := by unfold boxRes; rw [if_pos hfe]
 have hin := (findE_zero.1 hfe).smB.1
 have HPt := Lib.hid (fun (W : World) hW => part_spec _ p n (boxOf s n) W (HP.out.mono hW) HVd.out HSm.out hin)
 obtain ⟨x, hx⟩ : ∃ x, partS p n (boxOf s n) = x := ⟨_, rfl⟩
 rw [hx] at hq HPt
 rw [hbr]
 have HFq := Lib.hid hq
 have hxs : x.sheet = n := by rw [← hx]; rfl
 have HXs := Lib.hid hxs
 clear hq hbr hfe hin HQ1 hx hxs
 generalize boxOf s n = bx at *
 unfold boxV
 unfold bxV at *
 try clear X3l
 try clear X3a
 try clear X3b
 try clear X3c
 obtain ⟨X3l, X3a, X3b, X3c, -, -, -⟩ := X3.facts3
 go_wp2_with fail
 refine (HPt.out _ (bA HB2.out _)).mono ?_
 rintro e w3 ⟨A, m, c, A', m', c', rfl, hb3, hpo⟩
 rw [HXs.out]
 have HX63 := Lib.hid ((HX6.out.alloc _).keep hb3)
 have HB3 := Lib.hid (bT (bA HB2.out _) hb3)
 have HPO := Lib.hid (hpo.base (show w.heap.size ≤ _ from (bA HB2.out _).size))
 have X6 := HX63.out
 clear hb3 hpo X3 X3l X3a X3b X3c HB2 HX6
 try clear X6l
 try clear X6a
 try clear X6b
 try clear X6c
 try clear X6fa
 try clear X6fb
 try clear X6fc
 obtain ⟨X6l, X6a, X6b, X6c, X6fa, X6fb, X6fc⟩ := X6.facts3
 go_wp2_with fail
 refine res_cell_tmp (g := g6) (cs := #[.int .i64 n, .slice A m c, .slice A' m' c']) rfl struct_prt rfl rfl (Blk.put3 HX63.out) ⟨A, m, c, A', m', c', ?_, ?_, ?_⟩
 · rw [← HFq.out]; simp only; rw [HXs.out]; rfl
 · exact ((HB3.out.setCell (p := ⟨g6, 0, none⟩) hq0 _).setCell (p := ⟨g6, 1, none⟩) hq0 _).setCell (p := ⟨g6, 2, none⟩) hq0 _
 ·
  rw [← HFq.out]
  have x0 := HX63.out.set_ 0 (.int .i64 n)
  have x1 := x0.set_ 1 (.slice A m c)
  exact ((HPO.out.far HX63.out (by decide) (by decide) (by decide) 0 _).far x0 (by decide) (by decide) (by decide) 1 _).far x1 (by decide) (by decide) (by decide) 2 _
end Go.Proofs.YtfondidmklmonaaGreat
