/- mapsheetslaw15.WalkAreas: true. -/
import Derived.Test.YtoclnkfeblfpbaaGreatLawWe
import Derived.Test.YtoclnkfeblfpbaaGreatLawW
import Derived.Test.YtoclnkfeblfpbaaGreatJ19
import Derived.Test.YtoclnkfeblfpbaaGreatJ12
import Derived.Test.YtoclnkfeblfpbaaGreatJ25
import Derived.Test.YtoclnkfeblfpbaaGreatJ13
set_option linter.unusedSimpArgs false
set_option linter.unusedVariables false
namespace Go.Proofs.YtoclnkfeblfpbaaGreat
open Go.RowKit

def arK (p : Pl) (L : List (List Int)) (k : Nat) : Int := ((L.take k).map (arX p)).sum
def posK (p : Pl) (L : List (List Int)) (k : Nat) : Nat := ((L.take k).filter (fun X => decide (0 < arX p X))).length
theorem arK_succ (p : Pl) {L : List (List Int)} {k : Nat} (hk : k < L.length) : arK p L (k + 1) = arK p L k + arX p L[k] := by
 unfold arK
 rw [List.take_succ_eq_append_getElem hk, List.map_append, List.sum_append]
 simp
theorem posK_succ (p : Pl) {L : List (List Int)} {k : Nat} (hk : k < L.length) : posK p L (k + 1) = posK p L k + (if 0 < arX p L[k] then 1 else 0) := by
 unfold posK
 rw [List.take_succ_eq_append_getElem hk, List.filter_append, List.length_append, List.filter_cons]
 by_cases h : 0 < arX p L[k]
 · simp [h]
 · simp [h]
theorem posK_le (p : Pl) (L : List (List Int)) (k : Nat) : posK p L k ≤ k := by
 unfold posK
 exact Nat.le_trans (List.length_filter_le _ _) (List.length_take_le _ _)
section
variable {p : Pl} (h : Valid p)
include h
theorem Valid.dsum_bd : ∀ l : List Int, -(142936511610880 * (l.length : Int)) ≤ (l.map (dartT p)).sum ∧ (l.map (dartT p)).sum ≤ 142936511610880 * (l.length : Int)
 | [] => by simp
 | d :: l => by
  have := Valid.dsum_bd l
  have := h.dartT_bd d
  rw [List.map_cons, List.sum_cons, List.length_cons]
  omega
theorem Valid.dart_cnt : (dartsD p).length ≤ 512 := by
 have hl := h.lim
 unfold limS at hl
 simp only [Bool.or_eq_false_iff, decide_eq_false_iff_not] at hl
 have h2 := hl.2
 unfold dartsD
 rw [List.length_append, List.length_reverse, List.length_map, List.length_map]
 omega
theorem Valid.arK_bd (k : Nat) : -73183493944770560 ≤ arK p (cyclesD p) k ∧ arK p (cyclesD p) k ≤ 73183493944770560 := by
 have e : arK p (cyclesD p) k = (((cyclesD p).take k).flatten.map (dartT p)).sum := by
  unfold arK arX
  generalize (cyclesD p).take k = L
  induction L with
  | nil => rfl
  | cons X L ih => rw [List.map_cons, List.sum_cons, List.flatten_cons, List.map_append, List.sum_append, ih]
 have h1 := h.dsum_bd ((cyclesD p).take k).flatten
 have h2 : ((cyclesD p).take k).flatten.length ≤ 512 := by
  have h3 : ((cyclesD p).take k).flatten.length ≤ (cyclesD p).flatten.length := by
   conv => rhs; rw [← List.take_append_drop k (cyclesD p), List.flatten_append, List.length_append]
   omega
  have h4 := h.cyc_perm.length_eq
  have h5 := h.dart_cnt
  omega
 rw [e]
 omega
theorem Valid.tw_ar {X : List Int} (hX : X ∈ cyclesD p) : twiceD p X = arX p X := by
 obtain ⟨h1, h2⟩ := h.cyc_nodup hX
 have hl := nodup_le h1 h2
 have h3 := h.dart_cnt
 unfold twiceD
 rw [if_pos ⟨by omega, fun d hd => h.arcD_some (h2 d hd)⟩, twiceUp_sum p X X.length (Nat.le_refl _), List.take_length]
 rfl
end

set_option maxRecDepth 100000 in
set_option maxHeartbeats 8000000 in
theorem WalkAreas_spec (v : Value) (p : Pl) (w : World) (h : PlV w v p) :
  Calls Tryz.prog 8 #[v] w fun e w' => e = .returned (.bool true) ∧ Below w.heap.size w w' := by
 have HG := Lib.hid (fun W (hW : Below w.heap.size w W) => good_spec v p W (h.mono hW))
 have HP := Lib.hid h
 have HAw := Lib.hid awakeW_spec
 obtain ⟨_, _, _, al, rfl, hpa, ⟨An, cn, rfl, -⟩, ⟨⟨Aa, ca, rfl, ha1, ha2, hRa⟩, -⟩, ⟨Af, cf, rfl, -⟩⟩ := h
 have HGv := Lib.hid (fun h => good_valid (p := p) h)
 have HPl := Lib.hid (show p.arcs.length = al.length by rw [hpa, List.length_map])
 clear hpa hRa ha1 ha2
 generalize goodS p = g at *
 generalize p.faces.length = nf at *
 go_enter Tryz.func8, Tryz.ntmps8
 go_wp2_with fail
 refine (HG.out _ (bA (bR w) _)).mono ?_
 rintro e w1 ⟨rfl, hb1⟩
 have Bw : Below w.heap.size w w1 := bT (bA (bR w) _) hb1
 have X2 : Blk w1 w.heap.size 26 #[.slice An p.nodes.length cn, .slice Aa al.length ca, .slice Af nf cf] := (Blk.made rfl _ _).keep hb1
 clear hb1
 cases g
 case false =>
  go_wp2_with fail
  refine (HAw.out _).mono ?_
  rintro e w2 ⟨rfl, hb2⟩
  go_wp2_with fail
  go_ret
  exact ⟨rfl, bT Bw hb2⟩
 have HV := Lib.hid (HGv.out rfl)
 have HCy := Lib.hid (fun W (hW : Below w.heap.size w W) => Cycles_spec _ p W (HP.out.mono hW) HV.out)
 have HEu := Lib.hid (fun W (hW : Below w.heap.size w W) => Euler_spec _ p W (HP.out.mono hW) HV.out)
 have HTw := Lib.hid (fun u l (hl : l ∈ cyclesD p) W (hu : Ints W u l) (hW : Below w.heap.size w W) => show Calls Tryz.prog 19 #[.agg #[.slice An p.nodes.length cn, .slice Aa al.length ca, .slice Af nf cf], u] W fun e w' => e = .returned (.int .i64 (arX p l)) ∧ Below W.heap.size W w' from by
  have t := Twice15w_spec _ u p l W (HP.out.mono hW) hu HV.out (fun d hd => by have := HV.out.dart_bd ((HV.out.cyc_nodup hl).2 d hd); exact wfI_of (by omega) (by omega))
  rw [HV.out.tw_ar hl] at t
  exact t)
 have hE0 : arK p (cyclesD p) (cyclesD p).length = 0 := by unfold arK; rw [List.take_length]; exact HV.out.areas_zero
 have hE1 : (posK p (cyclesD p) (cyclesD p).length : Int) = p.arcs.length - p.nodes.length + partsD p := by unfold posK; rw [List.take_length]; exact HV.out.areas_pos
 have HBd := Lib.hid (fun k => HV.out.arK_bd k)
 have HSa := Lib.hid (fun k (hk : k < (cyclesD p).length) => arK_succ p hk)
 have HSp := Lib.hid (fun k (hk : k < (cyclesD p).length) => posK_succ p hk)
 have HSl := Lib.hid (fun k => posK_le p (cyclesD p) k)
 have hnl := HV.out.nodes_len
 have hpo : 0 ≤ partsD p ∧ partsD p ≤ p.nodes.length := by
  have e := HV.out.newN_all
  have := newN_le p p.nodes.length
  omega
 have hcl := HV.out.cyl_le
 have hall : p.arcs.length ≤ 256 := by
  have hl := HV.out.lim
  unfold limS at hl
  simp only [Bool.or_eq_false_iff, decide_eq_false_iff_not] at hl
  have h2 := hl.2
  omega
 rw [HPl.out] at hE1 hcl hall HEu
 generalize p.nodes.length = nn at *
 generalize partsD p = pn at *
 have HE0 := Lib.hid hE0; have HE1 := Lib.hid hE1
 clear HG HGv HV hE0 hE1 HPl HP
 have BW := Lib.hid Bw
 have HX2 := Lib.hid X2
 obtain ⟨X2l, X2a, X2b, X2c, -, -, -⟩ := X2.facts3
 clear Bw
 go_wp2_with fail
 refine (HCy.out _ BW.out).mono ?_
 rintro e w2 ⟨Ac, cc, L, rfl, hb2, hL, hco⟩
 have HL := Lib.hid hL
 have B2 := Lib.hid (bT BW.out hb2)
 have HX3 := Lib.hid (HX2.out.keep hb2)
 have hll : (cyclesD p).length = L.length := by rw [← hL, List.length_map]
 have HLk := Lib.hid (fun k (hk : k < L.length) (hk2 : k < (cyclesD p).length) => show (cyclesD p)[k] = L[k].1 from by simp only [← hL]; rw [List.getElem_map])
 rw [hll] at hco hcl HE0 HE1 HEu ⊢
 have hcr := hco.read
 obtain ⟨⟨Ac', cc', he, hl1, hl2, hRc⟩, hI⟩ := hcr
 injection he with e1 e2 e3
 subst e1 e3
 clear e2
 have HRc := Lib.hid hRc; have HI := Lib.hid hI; have HLl := Lib.hid hll
 clear hL hco hb2 hll hRc hI BW HX2 X2 X2l X2a X2b X2c HCy hl1 hl2
 have X3 := HX3.out
 obtain ⟨X3l, X3a, X3b, X3c, -, -, -⟩ := X3.facts3
 go_wp2_with fail
 refine (HEu.out _ B2.out).mono ?_
 rintro e w3 ⟨rfl, hb3⟩
 have B3 := Lib.hid (bT B2.out hb3)
 have HB23 := Lib.hid hb3
 have HX4 := Lib.hid (HX3.out.keep hb3)
 clear hb3 X3 X3l X3a X3b X3c HX3 HEu
 go_upto_block 0 with fail
 go_wp2_with fail
 go_loopw [10, 11, 12] (fun s q i wr => ∃ k : Nat, k ≤ L.length ∧ i = .int .i64 k ∧ s = .int .i64 (arK p (cyclesD p) k) ∧ q = .int .i64 (posK p (cyclesD p) k : Nat) ∧ Below w3.heap.size w3 wr) (fun _ _ i _ => L.length - (intOf i).toNat)
 case atStart => exact ⟨0, Nat.zero_le _, rfl, rfl, rfl, bR w3⟩
 case round =>
  obtain ⟨k, hk, rfl, rfl, rfl, hb⟩ := hrel
  have Hb := Lib.hid hb
  have hsl := HSl.out k
  have hbd := HBd.out k
  clear hb
  have X3 := HX4.out.keep Hb.out
  try clear X3l
  try clear X3a
  try clear X3b
  try clear X3c
  obtain ⟨X3l, X3a, X3b, X3c, -, -, -⟩ := X3.facts3
  by_cases hlt : k < L.length
  ·
   have hlc : k < (cyclesD p).length := by have := HLl.out; omega
   obtain ⟨b, o, rfl, hlb, c0⟩ := (HRc.out).cy hlt
   have hmem : (cyclesD p)[k] ∈ cyclesD p := List.getElem_mem hlc
   have hlk := HLk.out k hlt hlc
   have hin := HI.out L[k] (List.getElem_mem hlt)
   have hsa := HSa.out k hlc
   have hsp := HSp.out k hlc
   have hbd1 := HBd.out (k + 1)
   rw [hlk] at hmem hsa hsp
   rw [hsa] at hbd1
   generalize L[k] = x at *
   obtain ⟨l, xa, xn, xc⟩ := x
   simp only at hmem hin c0 hsa hsp hbd1 hlk
   have HTk := Lib.hid (fun W (hW : Below w2.heap.size w2 W) => HTw.out _ l hmem W (hin.mono hW) (bT B2.out hW))
   replace c0 := keepc (bT HB23.out Hb.out) c0
   have hlb3 : b < wr.heap.size := by
    have h1 := HB23.out.size; have h2 := Hb.out.size
    omega
   generalize arX p l = t at *
   have HSa2 := Lib.hid hsa; have HSp2 := Lib.hid hsp
   have k1 : (k : Int) < L.length := by omega
   have k2 : 0 ≤ (k : Int) := by omega
   generalize arK p (cyclesD p) k = ak at *
   clear hmem hlk hin hsa hsp hlc hlb
   go_upto_region 11 with fail
   refine rg_start (Since wr) (.run 5 0 0 (.call 5 63 (.take 6 127 (.done)))) (by kernel_rfl) (bD (bR _)) (by kernel_rfl) (by kernel_rfl) (Nat.le_of_ble_eq_true (by kernel_rfl)) ?_
   intro opsR QR Hops HQrg hS
   iterate 5
    apply rg_p; exact Hops; exact rfl; exact hS; exact rfl
    · intro _ hqc; go_simp; try rfl
    try simp only [pu]
   refine rg_call (i := 5) (get_of Hops rfl) (fun K hK => ?_)
   have HSrg := Lib.hid hS; clear hS
   refine rg_run (wanted_plain rfl) ?_
   go_simp
   refine (HTk.out _ (bT (bT HB23.out Hb.out) HSrg.out)).mono ?_
   rintro e wr1 ⟨rfl, hbr1⟩
   have hS : Since wr wr1 := bT (w := wr) HSrg.out hbr1
   clear HSrg
   refine hK.out _ _ hS (fun _ => ?_)
   clear hK K
   try simp only [pu]
   apply rg_p; exact Hops; exact rfl; exact hS; exact rfl
   · intro _ hqc; go_simp; try rfl
   try simp only [pu]
   refine rg_done ?_
   refine HQrg.down _ _ ?_
   have hB : Below wr.heap.size wr wr1 := hS
   clear hS HQrg Hops
   have HB2 := Lib.hid (bT Hb.out hB)
   clear hB X3 X3l X3a X3b X3c c0
   have g1 : IntKind.i64.wrap (ak + t) = ak + t := IntWalk.i64_in _ (by omega)
   by_cases htp : 0 < t
   ·
    have hp : posK p (cyclesD p) (k + 1) = posK p (cyclesD p) k + 1 := by
     have := HSp2.out
     rw [if_pos htp] at this
     exact this
    have HP2 := Lib.hid hp
    clear hp
    go_wp2_with fail
    go_roundw
    case rel => exact ⟨k + 1, by omega, by go_num, by rw [HSa2.out], by rw [HP2.out]; go_num, HB2.out⟩
    case measure => simp [intOf]; omega
   ·
    have hp : posK p (cyclesD p) (k + 1) = posK p (cyclesD p) k := by
     have := HSp2.out
     rw [if_neg htp] at this
     exact this
    have HP2 := Lib.hid hp
    clear hp
    go_wp2_with fail
    go_roundw
    case rel => exact ⟨k + 1, by omega, by go_num, by rw [HSa2.out], by rw [HP2.out], HB2.out⟩
    case measure => simp [intOf]; omega
  ·
   obtain rfl : k = L.length := by omega
   have he0 := HE0.out
   have he1 := HE1.out
   rw [he0]
   clear HE0 HE1 HSa HSp HSl HBd HLk HTw hbd he0
   generalize posK p (cyclesD p) L.length = pk at *
   generalize al.length = na at *
   have he : ((pk : Int) == ((na : Int) - nn + pn)) = true := by simp only [beq_iff_eq]; omega
   clear X3 X3l X3a X3b X3c
   go_wp2_with fail
   refine (HAw.out _).mono ?_
   rintro e w4 ⟨rfl, hb4⟩
   have B4 := Lib.hid (bT B3.out (bT Hb.out hb4))
   clear hb4
   go_wp2_with fail
   go_ret
   exact ⟨rfl, B4.out⟩
end Go.Proofs.YtoclnkfeblfpbaaGreat
