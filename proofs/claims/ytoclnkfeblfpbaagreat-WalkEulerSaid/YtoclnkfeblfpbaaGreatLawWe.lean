/- mapsheetslaw15.WalkEuler: true. -/
import Derived.Test.YtoclnkfeblfpbaaGreatLawW
import Derived.Test.YtoclnkfeblfpbaaGreatRefG15
set_option linter.unusedSimpArgs false
set_option linter.unusedVariables false
namespace Go.Proofs.YtoclnkfeblfpbaaGreat
open Go.RowKit

/-- of the first k nodes: how many have no arc -/
def singK (p : Pl) (k : Nat) : Nat := ((p.nodes.take k).filter (fun n => decide (degS p.arcs n.id = 0))).length
theorem singK_succ {p : Pl} {k : Nat} (hk : k < p.nodes.length) : singK p (k + 1) = singK p k + (if degS p.arcs p.nodes[k].id = 0 then 1 else 0) := by
 unfold singK
 rw [List.take_succ_eq_append_getElem hk, List.filter_append, List.length_append, List.filter_cons]
 by_cases h : degS p.arcs p.nodes[k].id = 0
 · simp [h]
 · simp [h]
theorem singK_le (p : Pl) (k : Nat) : singK p k ≤ k := by
 unfold singK
 exact Nat.le_trans (List.length_filter_le _ _) (List.length_take_le _ _)
theorem Valid.cyl_le {p : Pl} (h : Valid p) : (cyclesD p).length ≤ 2 * p.arcs.length := by
 rw [← h.head_lab.2]
 unfold cntR
 refine Nat.le_trans (List.length_filter_le _ _) ?_
 unfold dartsD
 rw [List.length_append, List.length_reverse, List.length_map, List.length_map]
 omega

set_option maxRecDepth 100000 in
set_option maxHeartbeats 8000000 in
theorem WalkEuler_spec (v : Value) (p : Pl) (w : World) (h : PlV w v p) :
  Calls Tryz.prog 6 #[v] w fun e w' => e = .returned (.bool true) ∧ Below w.heap.size w w' := by
 have HG := Lib.hid (fun W (hW : Below w.heap.size w W) => Small15_spec v p W (h.mono hW))
 have HAw := Lib.hid awakeW_spec
 have HP := Lib.hid h
 by_cases hc : checkS p = 0
 case neg =>
  have HE := Lib.hid (fun W (hW : Below w.heap.size w W) => Euler_bad v p W (h.mono hW) hc)
  have HR := Lib.hid (fun W (hW : Below w.heap.size w W) => REuler_bad v p W (h.mono hW) hc)
  obtain ⟨vn, va, vf, al, rfl, -⟩ := h
  generalize checkS p = z at *
  have he : (z != 0) = true := by simpa using hc
  generalize small15 p = g at *
  clear hc HP
  go_enter Tryz.func6, Tryz.ntmps6
  go_wp2_with fail
  refine (HG.out _ (bA (bR w) _)).mono ?_
  rintro e w1 ⟨rfl, hb1⟩
  have B1 := Lib.hid (bT (bA (bR w) _) hb1)
  have X1 : Blk w1 w.heap.size 26 #[vn, va, vf] := (Blk.made rfl _ _).keep hb1
  have HX1 := Lib.hid X1
  clear hb1
  cases g
  case false =>
   go_wp2_with fail
   refine (HAw.out _).mono ?_
   rintro e w2 ⟨rfl, hb2⟩
   go_wp2_with fail
   go_ret
   exact ⟨rfl, bT B1.out hb2⟩
  obtain ⟨X1l, X1a, X1b, X1c, -, -, -⟩ := X1.facts3
  go_wp2_with fail
  refine (HE.out _ B1.out).mono ?_
  rintro e w2 ⟨rfl, hb2⟩
  have B2 := Lib.hid (bT B1.out hb2)
  have X2 := HX1.out.keep hb2
  clear hb2 X1 X1l X1a X1b X1c
  obtain ⟨X2l, X2a, X2b, X2c, -, -, -⟩ := X2.facts3
  go_wp2_with fail
  refine (HR.out _ B2.out).mono ?_
  rintro e w3 ⟨rfl, hb3⟩
  have B3 := Lib.hid (bT B2.out hb3)
  have hzz : (z != z) = false := by simp
  clear hb3
  go_wp2_with fail
  refine (HAw.out _).mono ?_
  rintro e w4 ⟨rfl, hb4⟩
  have B4 := Lib.hid (bT B3.out hb4)
  clear hb4
  go_wp2_with fail
  go_ret
  exact ⟨rfl, B4.out⟩
 have hv := (check_zero p).1 hc
 have HE := Lib.hid (fun W (hW : Below w.heap.size w W) => Euler_spec v p W (h.mono hW) hv)
 have HR := Lib.hid (fun W (hW : Below w.heap.size w W) => REuler_spec v p W (h.mono hW) hv)
 have heu := hv.euler
 have hnl := hv.nodes_len
 have hcl := hv.cyl_le
 have hpo : 0 ≤ partsD p ∧ partsD p ≤ p.nodes.length := by
  have e := hv.newN_all
  have := newN_le p p.nodes.length
  omega
 have hall : p.arcs.length ≤ 256 := by
  have hl := hv.lim
  unfold limS at hl
  simp only [Bool.or_eq_false_iff, decide_eq_false_iff_not] at hl
  have h2 := hl.2
  omega
 have HDg := Lib.hid (fun k (hk : k < p.nodes.length) W (hW : Below w.heap.size w W) => RDegree_spec v p p.nodes[k].id W (h.mono hW) (by omega))
 have HSk := Lib.hid (fun k (hk : k < p.nodes.length) => singK_succ hk)
 have HSl := Lib.hid (fun k => singK_le p k)
 have hse : singleS p = singK p p.nodes.length := by unfold singleS singK; rw [List.take_length]
 rw [hse] at heu
 have HEu := Lib.hid heu
 obtain ⟨_, _, _, al, rfl, hpa, ⟨An, cn, rfl, hn1, hn2, hR⟩, ⟨⟨Aa, ca, rfl, -⟩, -⟩, ⟨Af, cf, rfl, -⟩⟩ := h
 unfold maxLen at hn2
 have hpl : p.arcs.length = al.length := by rw [hpa, List.length_map]
 rw [hpl] at hcl hall HEu HE HR
 have HRn := Lib.hid hR
 clear hR hpa hpl hv hc heu hse HP
 generalize small15 p = g at *
 generalize p.faces.length = nf at *
 generalize (cyclesD p).length = cyl at *
 generalize partsD p = pn at *
 generalize al.length = na at *
 go_enter Tryz.func6, Tryz.ntmps6
 go_wp2_with fail
 refine (HG.out _ (bA (bR w) _)).mono ?_
 rintro e w1 ⟨rfl, hb1⟩
 have B1 := Lib.hid (bT (bA (bR w) _) hb1)
 have X1 : Blk w1 w.heap.size 26 #[.slice An p.nodes.length cn, .slice Aa na ca, .slice Af nf cf] := (Blk.made rfl _ _).keep hb1
 have HX1 := Lib.hid X1
 clear hb1
 cases g
 case false =>
  go_wp2_with fail
  refine (HAw.out _).mono ?_
  rintro e w2 ⟨rfl, hb2⟩
  go_wp2_with fail
  go_ret
  exact ⟨rfl, bT B1.out hb2⟩
 try clear X1l
 try clear X1a
 try clear X1b
 try clear X1c
 obtain ⟨X1l, X1a, X1b, X1c, -, -, -⟩ := X1.facts3
 go_wp2_with fail
 refine (HE.out _ B1.out).mono ?_
 rintro e w2 ⟨rfl, hb2⟩
 have B2 := Lib.hid (bT B1.out hb2)
 have X2 := HX1.out.keep hb2
 have HX2 := Lib.hid X2
 clear hb2 X1 X1l X1a X1b X1c HX1
 try clear X2l
 try clear X2a
 try clear X2b
 try clear X2c
 obtain ⟨X2l, X2a, X2b, X2c, -, -, -⟩ := X2.facts3
 go_wp2_with fail
 refine (HR.out _ B2.out).mono ?_
 rintro e w3 ⟨rfl, hb3⟩
 have B3 := Lib.hid (bT B2.out hb3)
 have HX3 := Lib.hid (HX2.out.keep hb3)
 have hz3 := B3.out.size
 clear hb3 X2 X2l X2a X2b X2c HX2 HE HR HG
 go_upto_block 0 with fail
 go_wp2_with fail
 go_loopw [13, 14] (fun s i wr => ∃ k : Nat, k ≤ p.nodes.length ∧ i = .int .i64 k ∧ s = .int .i64 (singK p k : Nat) ∧ Below w3.heap.size w3 wr) (fun _ i _ => p.nodes.length - (intOf i).toNat)
 case atStart => exact ⟨0, Nat.zero_le _, rfl, rfl, bR w3⟩
 case round =>
  obtain ⟨k, hk, rfl, rfl, hb⟩ := hrel
  have Hb := Lib.hid hb
  have hsl := HSl.out k
  clear hb
  have X3 := HX3.out.keep Hb.out
  obtain ⟨X3l, X3a, X3b, X3c, -, -, -⟩ := X3.facts3
  by_cases hlt : k < p.nodes.length
  ·
   obtain ⟨b, o, rfl, hlb, c0, -⟩ := (HRn.out.mono (bT B3.out Hb.out)).nd hlt
   have hsk := HSk.out k hlt
   have HD := Lib.hid (HDg.out k hlt)
   generalize p.nodes[k].id = x at *
   generalize degS p.arcs x = dg at *
   have k1 : (k : Int) < p.nodes.length := by omega
   have k2 : 0 ≤ (k : Int) := by omega
   have HSs := Lib.hid hsk
   clear hsk
   go_upto_region 13 with fail
   refine rg_start (Since wr) (.run 7 0 0 (.call 7 255 (.take 8 511 (.done)))) (by kernel_rfl) (bD (bR _)) (by kernel_rfl) (by kernel_rfl) (Nat.le_of_ble_eq_true (by kernel_rfl)) ?_
   intro opsR QR Hops HQrg hS
   iterate 7
    apply rg_p; exact Hops; exact rfl; exact hS; exact rfl
    · intro _ hqc; go_simp; try rfl
    try simp only [pu]
   refine rg_call (i := 7) (get_of Hops rfl) (fun K hK => ?_)
   have HSrg := Lib.hid hS; clear hS
   refine rg_run (wanted_plain rfl) ?_
   go_simp
   refine (HD.out _ (bT (bT B3.out Hb.out) HSrg.out)).mono ?_
   rintro e wr1 ⟨rfl, hbr1⟩
   have hS : Since wr wr1 := bT (w := wr) HSrg.out hbr1
   clear HSrg
   refine hK.out _ _ hS (fun _ => ?_)
   clear hK K
   try simp only [pu]
   apply rg_p; exact Hops; exact rfl; exact hS; exact rfl
   · intro _ hqc; go_simp; try rfl
   try simp only [pu]
   refine rg_done ?_
   refine HQrg.down _ _ ?_
   have hB : Below wr.heap.size wr wr1 := hS
   clear hS HQrg Hops
   have HB2 := Lib.hid (bT Hb.out hB)
   cases hdz : (dg == 0)
   ·
    have hs : singK p (k + 1) = singK p k := by
     have := HSs.out
     rw [if_neg (by simpa using hdz)] at this
     exact this
    have HS2 := Lib.hid hs
    clear hs
    go_wp2_with fail
    go_roundw
    case rel => exact ⟨k + 1, by omega, by go_num, by rw [HS2.out], HB2.out⟩
    case measure => simp [intOf]; omega
   ·
    have hs := HSs.out
    rw [if_pos (by simpa using hdz)] at hs
    have HS2 := Lib.hid hs
    clear hs
    go_wp2_with fail
    go_roundw
    case rel => exact ⟨k + 1, by omega, by go_num, by rw [HS2.out]; go_num, HB2.out⟩
    case measure => simp [intOf]; omega
  ·
   obtain rfl : k = p.nodes.length := by omega
   have heu := HEu.out
   clear HEu HSk HSl HDg
   generalize singK p p.nodes.length = sg at *
   generalize p.nodes.length = nn at *
   have he : (((nn : Int) - na + cyl) == (2 * pn - sg)) = true := by simp only [beq_iff_eq]; omega
   go_wp2_with fail
   refine (HAw.out _).mono ?_
   rintro e w4 ⟨rfl, hb4⟩
   have B4 := Lib.hid (bT B3.out (bT Hb.out hb4))
   clear hb4
   go_wp2_with fail
   go_ret
   exact ⟨rfl, B4.out⟩
end Go.Proofs.YtoclnkfeblfpbaaGreat
