/- mapsheetslaw15.WalkPartition: true. -/
import Derived.Test.YtoclnkfeblfpbaaGreatLawW
import Derived.Test.YtoclnkfeblfpbaaGreatJ20
set_option linter.unusedSimpArgs false
set_option linter.unusedVariables false
namespace Go.Proofs.YtoclnkfeblfpbaaGreat
open Go.RowKit

set_option maxRecDepth 100000 in
set_option maxHeartbeats 8000000 in
theorem WalkPartition_spec (v : Value) (p : Pl) (w : World) (h : PlV w v p) :
    Calls Tryz.prog 7 #[v] w fun e w' => e = .returned (.bool true) ∧ Below w.heap.size w w' := by
  have HG := Lib.hid (fun W (hW : Below w.heap.size w W) => good_spec v p W (h.mono hW))
  have HP := Lib.hid h
  have HAw := Lib.hid awakeW_spec
  obtain ⟨_, _, _, al, rfl, hpa, ⟨An, cn, rfl, -⟩, ⟨⟨Aa, ca, rfl, ha1, ha2, hRa⟩, -⟩, ⟨Af, cf, rfl, -⟩⟩ := h
  unfold maxLen at ha2
  have HGv := Lib.hid (fun h => good_valid (p := p) h)
  have HRa := Lib.hid hRa
  have HPa := Lib.hid hpa
  have HPl := Lib.hid (show p.arcs.length = al.length by rw [hpa, List.length_map])
  clear hpa hRa
  generalize goodS p = g at *
  generalize p.nodes.length = nn at *
  generalize p.faces.length = nf at *
  go_enter Tryz.func7, Tryz.ntmps7
  go_wp2_with fail
  refine (HG.out _ (bA (bR w) _)).mono ?_
  rintro e w1 ⟨rfl, hb1⟩
  have Bw : Below w.heap.size w w1 := bT (bA (bR w) _) hb1
  have X2 : Blk w1 w.heap.size 26 #[.slice An nn cn, .slice Aa al.length ca, .slice Af nf cf] := (Blk.made rfl _ _).keep hb1
  clear hb1
  cases g
  case false =>
    go_wp2_with fail
    refine (HAw.out _).mono ?_
    rintro e w2 ⟨rfl, hb2⟩
    go_wp2_with fail
    go_ret
    exact ⟨rfl, bT Bw hb2⟩
  have HV := Lib.hid (HGv.out rfl)
  have HCy := Lib.hid (fun W (hW : Below w.heap.size w W) => Cycles_spec _ p W (HP.out.mono hW) HV.out)
  have HNx := Lib.hid (fun d (hd : wfI d) W (hW : Below w.heap.size w W) => wNext_spec _ p d W (HP.out.mono hW) HV.out hd)
  have HSt := Lib.hid (fun d (hd : wfI d) W (hW : Below w.heap.size w W) => wStart_spec _ p d W (HP.out.mono hW) HV.out.short.long hd)
  have HFc := Lib.hid (fun l (hl : l ∈ cyclesD p) => HV.out.cyc_facts hl)
  have HLn := Lib.hid HV.out.cyc_len
  have HCn := Lib.hid (fun d (hd : d ∈ dartsD p) => HV.out.cyc_count hd)
  have HBd := Lib.hid (fun d (hd : d ∈ dartsD p) => HV.out.dart_bd hd)
  have HMn := Lib.hid (fun d (hd : d ∈ dartsD p) => (HV.out.next_mem hd).2)
  have hall : al.length ≤ 256 := by
    have hl := HV.out.lim
    unfold limS at hl
    simp only [Bool.or_eq_false_iff, decide_eq_false_iff_not] at hl
    have h2 := hl.2
    rw [HPl.out] at h2
    omega
  clear HG HGv HV
  have BW := Lib.hid Bw
  have HX2 := Lib.hid X2
  try clear X2l
  try clear X2a
  try clear X2b
  try clear X2c
  try clear X2fa
  try clear X2fb
  try clear X2fc
  obtain ⟨X2l, X2a, X2b, X2c, -, -, -⟩ := X2.facts3
  clear Bw
  go_wp2_with fail
  refine (HCy.out _ BW.out).mono ?_
  rintro e w2 ⟨Ac, cc, L, rfl, hb2, hL, hco⟩
  have HL := Lib.hid hL
  have B2 := Lib.hid (bT BW.out hb2)
  have HX3 := Lib.hid (HX2.out.keep hb2)
  have hll : (cyclesD p).length = L.length := by rw [← hL, List.length_map]
  rw [hll] at hco ⊢
  have hcr := hco.read
  have HCo := Lib.hid hcr
  obtain ⟨⟨Ac', cc', he, hl1, hl2, hRc⟩, hI⟩ := hcr
  injection he with e1 e2 e3
  subst e1 e3
  clear e2
  unfold maxLen at hl2
  have HRc := Lib.hid hRc; have HI := Lib.hid hI
  have HFt := Lib.hid (show (L.map (·.1)).flatten.length = 2 * al.length by rw [HL.out, HLn.out, HPl.out])
  have HLt := Lib.hid (fun k => cyl_take_le L k)
  have HFs := Lib.hid (fun k hk => cyl_snoc L k hk)
  clear hL hco hb2 hll hRc hI BW HX2 X2 X2l X2a X2b X2c HCy
  go_upto_block 0 with fail
  go_wp2_with fail
  go_loopw [5, 6] (fun s i wr => ∃ k : Nat, k ≤ L.length ∧ i = .int .i64 k ∧ s = .int .i64 (((L.take k).map (·.1)).flatten.length : Nat) ∧ Below w2.heap.size w2 wr) (fun _ i _ => L.length - (intOf i).toNat)
  case atStart => exact ⟨0, Nat.zero_le _, rfl, by simp, bR w2⟩
  case round =>
    obtain ⟨k, hk, rfl, rfl, hb⟩ := hrel
    obtain ⟨wo, rfl⟩ : ∃ wo : World, wo = wr := ⟨_, rfl⟩
    have Hb := Lib.hid hb
    clear hb
    have hlk := HLt.out k
    rw [HFt.out] at hlk
    by_cases hlt : k < L.length
    · obtain ⟨b, o, rfl, hlb, e0⟩ := (HRc.out).cy hlt
      have hLm : L[k] ∈ L := List.getElem_mem hlt
      have hin := HI.out L[k] hLm
      have hfs := HFs.out k hlt
      have hlk2 := HLt.out (k + 1)
      rw [HFt.out, hfs, List.length_append] at hlk2
      have hcm : L[k].1 ∈ cyclesD p := by rw [← HL.out]; exact List.mem_map_of_mem hLm
      obtain ⟨⟨hp0, -, hdm⟩, hfc⟩ := HFc.out _ hcm
      generalize L[k] = x at *
      obtain ⟨l, xa, xn, xc⟩ := x
      simp only at hfs hin e0 hlk2 hp0 hdm hfc
      obtain ⟨rfl, h1, h2, hrow⟩ := hin.slice
      unfold maxLen at h2
      have HRow := Lib.hid hrow; have HFk := Lib.hid hfs; have HDm := Lib.hid hdm; have HFcl := Lib.hid hfc
      have HE0 := Lib.hid e0
      replace e0 := keepc Hb.out e0
      obtain ⟨bq, oq, rfl, hlq, hcs⟩ := (HRow.out).intsAll hp0
      have HCs := Lib.hid hcs
      clear hcs
      have hfl : ((L.take (k + 1)).map (·.1)).flatten.length = ((L.take k).map (·.1)).flatten.length + l.length := by rw [hfs, List.length_append]
      generalize ((L.take k).map (·.1)).flatten.length = T at *
      have HFl := Lib.hid hfl
      clear hfl hin hrow hfs hcm hLm hdm hfc hlk
      go_upto_block 2 with fail
      clear e0
      go_wp2_with fail
      go_loopw [7] (fun i wr => ∃ j : Nat, j ≤ l.length ∧ i = .int .i64 j ∧ Below w2.heap.size w2 wr) (fun i _ => l.length - (intOf i).toNat)
      case atStart => exact ⟨0, Nat.zero_le _, rfl, Hb.out⟩
      case round =>
        obtain ⟨j, hj, rfl, hb3⟩ := hrel
        have Hb3 := Lib.hid hb3
        clear hb3
        have e0 := keepc Hb3.out HE0.out
        have hsz3 := Hb3.out.size
        have hlb3 : b < wr.heap.size := by omega
        have hlq3 : bq < wr.heap.size := by omega
        by_cases hlj : j < l.length
        · have hm : (j + 1) % l.length < l.length := Nat.mod_lt _ (by omega)
          have f1 := keepc Hb3.out (HCs.out j hlj)
          have f2 := keepc Hb3.out (HCs.out _ hm)
          have f0 := keepc Hb3.out (HCs.out 0 hp0)
          rw [Nat.add_zero] at f0
          obtain ⟨q1, q2⟩ := HFcl.out j hlj hp0 hm
          have hdd := HDm.out _ (List.getElem_mem hlj)
          have hde := HDm.out _ (List.getElem_mem hm)
          have hst := HMn.out _ hdd
          have hd1 := HBd.out _ hdd
          have hd2 := HBd.out _ hde
          have hnx := HNx.out l[j] (wfI_of (by omega) (by omega))
          rw [q2] at hst hnx
          have hs1 := HSt.out (-l[j]) (wfI_of (by omega) (by omega))
          have hs2 := HSt.out l[(j + 1) % l.length] (wfI_of (by omega) (by omega))
          rw [hst] at hs2
          generalize startD p (-l[j]) = s at *
          have htm : Int.tmod ((j : Int) + 1) (l.length : Int) = ((j + 1) % l.length : Nat) := by
            rw [Int.tmod_eq_emod_of_nonneg (by omega), show (j : Int) + 1 = ((j + 1 : Nat) : Int) by omega]
            exact (Int.natCast_emod _ _).symm
          clear q2 hdd hde hst
          generalize l[(j + 1) % l.length] = e at *
          generalize (j + 1) % l.length = m at *
          generalize l[j] = d at *
          generalize l[0] = d0 at *
          have HN := Lib.hid hnx; have HS1 := Lib.hid hs1; have HS2 := Lib.hid hs2
          have HTm := Lib.hid htm
          clear hnx hs1 hs2 htm
          go_upto_region 14 with fail
          have htm := HTm.out
          have g1 : IntKind.i64.wrap ((j : Int) + 1) = (j : Int) + 1 := IntWalk.i64_in _ (by omega)
          have g11 : ¬ l = [] := fun e => by have := congrArg List.length e; simp only [List.length_nil] at this; omega
          have g4 : IntKind.i64.wrap (m : Int) = m := IntWalk.i64_in _ (by omega)
          have g5 : (m : Int) < l.length := by omega
          have g6 : 0 ≤ (m : Int) := by omega
          have g7 : (j : Int) < l.length := by omega
          have g8 : (k : Int) < L.length := by omega
          have g9 : 0 ≤ (j : Int) := by omega
          have g10 : 0 ≤ (k : Int) := by omega
          refine rg_start (Since wr) (.take 0 1 (.take 1 3 (.take 2 7 (.take 3 15 (.take 4 31 (.take 5 63 (.take 6 127 (.take 7 255 (.take 8 511 (.take 9 1023 (.take 10 2047 (.take 11 4095 (.take 12 8191 (.take 13 16383 (.take 14 32767 (.take 15 65535 (.take 16 131071 (.take 17 262143 (.take 18 524287 (.take 19 1048575 (.take 20 2097151 (.take 21 4194303 (.take 22 8388607 (.done)))))))))))))))))))))))) (by kernel_rfl) (bD (bR _)) (by kernel_rfl) (by kernel_rfl) (Nat.le_of_ble_eq_true (by kernel_rfl)) ?_
          intro opsR QR Hops HQrg hS
          apply rg_yp (i := 0) Hops rfl hS rfl
          · intro _ hq; clear hq; go_simp; try rfl
          try simp only [Act.put, pu1, pu2, pu3]
          apply rg_yp (i := 1) Hops rfl hS rfl
          · intro _ hq; clear hq; go_simp; try rfl
          try simp only [Act.put, pu1, pu2, pu3]
          apply rg_yp (i := 2) Hops rfl hS rfl
          · intro _ hq; clear hq; go_simp; try rfl
          try simp only [Act.put, pu1, pu2, pu3]
          apply rg_yp (i := 3) Hops rfl hS rfl
          · intro wq hq; obtain ⟨hqc, -⟩ := bcell (show Below wr.heap.size wr wq from hq); clear hq; go_simp; try rfl
          try simp only [Act.put, pu1, pu2, pu3]
          apply rg_yp (i := 4) Hops rfl hS rfl
          · intro _ hq; clear hq; go_simp; try rfl
          try simp only [Act.put, pu1, pu2, pu3]
          apply rg_yp (i := 5) Hops rfl hS rfl
          · intro _ hq; clear hq; go_simp; try rfl
          try simp only [Act.put, pu1, pu2, pu3]
          apply rg_yp (i := 6) Hops rfl hS rfl
          · intro wq hq; obtain ⟨hqc, -⟩ := bcell (show Below wr.heap.size wr wq from hq); clear hq; go_simp; try rfl
          try simp only [Act.put, pu1, pu2, pu3]
          apply rg_yp (i := 7) Hops rfl hS rfl
          · intro _ hq; clear hq; go_simp; try rfl
          try simp only [Act.put, pu1, pu2, pu3]
          apply rg_yp (i := 8) Hops rfl hS rfl
          · intro _ hq; clear hq; go_simp; try rfl
          try simp only [Act.put, pu1, pu2, pu3]
          apply rg_yp (i := 9) Hops rfl hS rfl
          · intro _ hq; clear hq; go_simp; try rfl
          try simp only [Act.put, pu1, pu2, pu3]
          apply rg_yp (i := 10) Hops rfl hS rfl
          · intro wq hq; obtain ⟨hqc, -⟩ := bcell (show Below wr.heap.size wr wq from hq); clear hq; go_simp; try rfl
          try simp only [Act.put, pu1, pu2, pu3]
          apply rg_yp (i := 11) Hops rfl hS rfl
          · intro _ hq; clear hq; go_simp; try rfl
          try simp only [Act.put, pu1, pu2, pu3]
          apply rg_yp (i := 12) Hops rfl hS rfl
          · intro _ hq; clear hq; go_simp; try rfl
          try simp only [Act.put, pu1, pu2, pu3]
          apply rg_yp (i := 13) Hops rfl hS rfl
          · intro _ hq; clear hq; go_simp; try rfl
          try simp only [Act.put, pu1, pu2, pu3]
          apply rg_yp (i := 14) Hops rfl hS rfl
          · intro _ hq; clear hq; go_simp; try rfl
          try simp only [Act.put, pu1, pu2, pu3]
          apply rg_yp (i := 15) Hops rfl hS rfl
          · intro _ hq; clear hq; go_simp; try rfl
          try simp only [Act.put, pu1, pu2, pu3]
          apply rg_yp (i := 16) Hops rfl hS rfl
          · intro wq hq; obtain ⟨hqc, -⟩ := bcell (show Below wr.heap.size wr wq from hq); clear hq; go_simp; try rfl
          try simp only [Act.put, pu1, pu2, pu3]
          apply rg_yp (i := 17) Hops rfl hS rfl
          · intro _ hq; clear hq; go_simp; try rfl
          try simp only [Act.put, pu1, pu2, pu3]
          apply rg_yp (i := 18) Hops rfl hS rfl
          · intro _ hq; clear hq; go_simp; try rfl
          try simp only [Act.put, pu1, pu2, pu3]
          apply rg_yp (i := 19) Hops rfl hS rfl
          · intro _ hq; clear hq; go_simp; try rfl
          try simp only [Act.put, pu1, pu2, pu3]
          apply rg_yp (i := 20) Hops rfl hS rfl
          · intro wq hq; obtain ⟨hqc, -⟩ := bcell (show Below wr.heap.size wr wq from hq); clear hq; go_simp; try rfl
          try simp only [Act.put, pu1, pu2, pu3]
          apply rg_yp (i := 21) Hops rfl hS rfl
          · intro _ hq; clear hq; go_simp; try rfl
          try simp only [Act.put, pu1, pu2, pu3]
          apply rg_yp (i := 22) Hops rfl hS rfl
          · intro _ hq; clear hq; go_simp; try rfl
          try simp only [Act.put, pu1, pu2, pu3]
          refine rg_done ?_
          refine HQrg.down _ _ ?_
          have hB : Below wr.heap.size wr wr.drew := hS
          clear hS HQrg Hops
          obtain ⟨W14, hW⟩ : ∃ W : World, W = wr.drew := ⟨_, rfl⟩
          rw [← hW] at hB ⊢
          have HW14 := Lib.hid (bT Hb3.out hB)
          replace e0 := keepc hB e0
          replace f1 := keepc hB f1
          replace f0 := keepc hB f0
          have hlb4 : b < W14.heap.size := by have := hB.size; omega
          have hlq4 : bq < W14.heap.size := by have := hB.size; omega
          have X2 := HX3.out.keep HW14.out
          have h0d : decide (d < d0) = false := by rw [decide_eq_false_iff_not]; omega
          have k1 : IntKind.i64.wrap (-d) = -d := IntWalk.i64_in _ (by omega)
          have BW := Lib.hid (show Below w.heap.size w W14 from bT B2.out HW14.out)
          have g12 : (0 : Int) < l.length := by omega
          clear hW hB f2 g1 g4 g5 g6 g7 g9 htm hlb3 hlq3
          try clear X2l
          try clear X2a
          try clear X2b
          try clear X2c
          try clear X2fa
          try clear X2fb
          try clear X2fc
          obtain ⟨X2l, X2a, X2b, X2c, -, -, -⟩ := X2.facts3
          go_upto_region 15 with fail
          refine rg_start (Since W14) (.take 0 1 (.take 1 3 (.take 2 7 (.take 3 15 (.take 4 31 (.take 5 63 (.take 6 127 (.take 7 255 (.take 8 511 (.take 9 1023 (.take 10 2047 (.take 12 6143 (.call 11 8191 (.take 13 16383 (.take 14 32767 (.take 15 65535 (.take 16 131071 (.take 17 262143 (.take 18 524287 (.take 20 1572863 (.take 21 3670015 (.call 19 4194303 (.call 22 8388607 (.take 23 16777215 (.take 24 33554431 (.done)))))))))))))))))))))))))) (by kernel_rfl) (bD (bR _)) (by kernel_rfl) (by kernel_rfl) (Nat.le_of_ble_eq_true (by kernel_rfl)) ?_
          intro opsR QR Hops HQrg hS
          apply rg_yp (i := 0) Hops rfl hS rfl
          · intro _ hq; clear hq; go_simp; try rfl
          try simp only [Act.put, pu1, pu2, pu3]
          apply rg_yp (i := 1) Hops rfl hS rfl
          · intro _ hq; clear hq; go_simp; try rfl
          try simp only [Act.put, pu1, pu2, pu3]
          apply rg_yp (i := 2) Hops rfl hS rfl
          · intro _ hq; clear hq; go_simp; try rfl
          try simp only [Act.put, pu1, pu2, pu3]
          apply rg_yp (i := 3) Hops rfl hS rfl
          · intro _ hq; clear hq; go_simp; try rfl
          try simp only [Act.put, pu1, pu2, pu3]
          apply rg_yp (i := 4) Hops rfl hS rfl
          · intro wq hq; obtain ⟨hqc, -⟩ := bcell (show Below W14.heap.size W14 wq from hq); clear hq; go_simp; try rfl
          try simp only [Act.put, pu1, pu2, pu3]
          apply rg_yp (i := 5) Hops rfl hS rfl
          · intro _ hq; clear hq; go_simp; try rfl
          try simp only [Act.put, pu1, pu2, pu3]
          apply rg_yp (i := 6) Hops rfl hS rfl
          · intro wq hq; obtain ⟨hqc, -⟩ := bcell (show Below W14.heap.size W14 wq from hq); clear hq; go_simp; try rfl
          try simp only [Act.put, pu1, pu2, pu3]
          apply rg_yp (i := 7) Hops rfl hS rfl
          · intro _ hq; clear hq; go_simp; try rfl
          try simp only [Act.put, pu1, pu2, pu3]
          apply rg_yp (i := 8) Hops rfl hS rfl
          · intro _ hq; clear hq; go_simp; try rfl
          try simp only [Act.put, pu1, pu2, pu3]
          apply rg_yg (i := 9) Hops rfl hS rfl rfl rfl rfl
          · intro wq hq; obtain ⟨hqc, -⟩ := bcell (show Below W14.heap.size W14 wq from hq); clear hq; go_simp; try rfl
          try simp only [Act.put, pu1, pu2, pu3]
          apply rg_yg (i := 10) Hops rfl hS rfl rfl rfl rfl
          · intro _ hq; clear hq; go_simp; try rfl
          try simp only [Act.put, pu1, pu2, pu3]
          apply rg_yg (i := 12) Hops rfl hS rfl rfl rfl rfl
          · intro _ hq; clear hq; go_simp; try rfl
          try simp only [Act.put, pu1, pu2, pu3]
          refine rg_call (i := 11) (get_of Hops rfl) (fun K hK => ?_)
          have HSrg := Lib.hid hS; clear hS
          refine rg_run (wanted_yes rfl (get_of Hops rfl) rfl rfl) ?_
          go_simp
          refine (HN.out _ (bT BW.out HSrg.out)).mono ?_
          rintro e wr1 ⟨rfl, hbr1⟩
          have hS : Since W14 wr1 := bT (w := W14) HSrg.out hbr1
          clear HSrg
          refine hK.out _ _ hS (fun _ => ?_)
          clear hK K
          try simp only [Act.put, pu1, pu2, pu3]
          apply rg_yg (i := 13) Hops rfl hS rfl rfl rfl rfl
          · intro _ hq; clear hq; go_simp; try rfl
          try simp only [Act.put, pu1, pu2, pu3]
          apply rg_yp (i := 14) Hops rfl hS rfl
          · intro _ hq; clear hq; go_simp; try rfl
          try simp only [Act.put, pu1, pu2, pu3]
          apply rg_yp (i := 15) Hops rfl hS rfl
          · intro _ hq; clear hq; go_simp; try rfl
          try simp only [Act.put, pu1, pu2, pu3]
          apply rg_yg (i := 16) Hops rfl hS rfl rfl rfl rfl
          · intro wq hq; obtain ⟨hqc, -⟩ := bcell (show Below W14.heap.size W14 wq from hq); clear hq; go_simp; try rfl
          try simp only [Act.put, pu1, pu2, pu3]
          apply rg_yg (i := 17) Hops rfl hS rfl rfl rfl rfl
          · intro _ hq; clear hq; go_simp; try rfl
          try simp only [Act.put, pu1, pu2, pu3]
          apply rg_yg (i := 18) Hops rfl hS rfl rfl rfl rfl
          · intro _ hq; clear hq; go_simp; try rfl
          try simp only [Act.put, pu1, pu2, pu3]
          apply rg_yg (i := 20) Hops rfl hS rfl rfl rfl rfl
          · intro wq hq; obtain ⟨hqc, -⟩ := bcell (show Below W14.heap.size W14 wq from hq); clear hq; go_simp; try rfl
          try simp only [Act.put, pu1, pu2, pu3]
          apply rg_yg (i := 21) Hops rfl hS rfl rfl rfl rfl
          · intro _ hq; clear hq; go_simp; try rfl
          try simp only [Act.put, pu1, pu2, pu3]
          refine rg_call (i := 19) (get_of Hops rfl) (fun K hK => ?_)
          have HSrg := Lib.hid hS; clear hS
          refine rg_run (wanted_yes rfl (get_of Hops rfl) rfl rfl) ?_
          go_simp
          refine (HS1.out _ (bT BW.out HSrg.out)).mono ?_
          rintro e wr2 ⟨rfl, hbr2⟩
          have hS : Since W14 wr2 := bT (w := W14) HSrg.out hbr2
          clear HSrg
          refine hK.out _ _ hS (fun _ => ?_)
          clear hK K
          try simp only [Act.put, pu1, pu2, pu3]
          refine rg_call (i := 22) (get_of Hops rfl) (fun K hK => ?_)
          have HSrg := Lib.hid hS; clear hS
          refine rg_run (wanted_yes rfl (get_of Hops rfl) rfl rfl) ?_
          go_simp
          refine (HS2.out _ (bT BW.out HSrg.out)).mono ?_
          rintro e wr3 ⟨rfl, hbr3⟩
          have hS : Since W14 wr3 := bT (w := W14) HSrg.out hbr3
          clear HSrg
          refine hK.out _ _ hS (fun _ => ?_)
          clear hK K
          try simp only [Act.put, pu1, pu2, pu3]
          apply rg_yg (i := 23) Hops rfl hS rfl rfl rfl rfl
          · intro _ hq; clear hq; go_simp; try rfl
          try simp only [Act.put, pu1, pu2, pu3]
          apply rg_yp (i := 24) Hops rfl hS rfl
          · intro _ hq; clear hq; go_simp; try rfl
          try simp only [Act.put, pu1, pu2, pu3]
          refine rg_done ?_
          refine HQrg.down _ _ ?_
          have hB : Below W14.heap.size W14 wr3 := hS
          clear hS HQrg Hops
          have HB15 := Lib.hid (bT HW14.out hB)
          clear hB e0 f1 f0
          go_wp2_with fail
          go_roundw
          case rel => exact ⟨j + 1, by omega, by go_num, HB15.out⟩
          case measure => simp [intOf]; omega
        · have hjl : j = l.length := by omega
          subst hjl
          go_wp2_with fail
          go_roundw
          case rel => exact ⟨k + 1, by omega, by go_num, by rw [HFl.out]; go_num, Hb3.out⟩
          case measure => simp [intOf]; omega
    · obtain rfl : k = L.length := by omega
      rw [List.take_length, HFt.out, show ((2 * al.length : Nat) : Int) = 2 * (al.length : Int) by omega]
      have hcnt : ∀ d ∈ dartsD p, (((L.map (·.1)).flatten.count d : Nat) : Int) = 1 := fun d hd => by rw [HL.out, HCn.out d hd]; rfl
      have HC1 := Lib.hid (show ∀ d (hd : d ∈ dartsD p) W (hW : Below w2.heap.size w2 W), Calls Tryz.prog 25 #[.slice Ac L.length cc, .int .i64 d] W fun e w' => e = .returned (.int .i64 1) ∧ Below W.heap.size W w' from fun d hd W hW => by
        have h := cntD_spec _ L d W (HCo.out.mono hW) (by rw [HFt.out]; omega)
        rw [hcnt d hd] at h
        exact h)
      clear hcnt
      have hbo := Hb.out.size
      clear hlk HFc HNx HSt HMn HRc HI HLt HFs
      have X2 := HX3.out.keep Hb.out
      try clear X2l
      try clear X2a
      try clear X2b
      try clear X2c
      try clear X2fa
      try clear X2fb
      try clear X2fc
      obtain ⟨X2l, X2a, X2b, X2c, -, -, -⟩ := X2.facts3
      go_upto_block 4 with fail
      go_wp2_with fail
      go_loopw [10] (fun i wr => ∃ j : Nat, j ≤ al.length ∧ i = .int .i64 j ∧ Below w2.heap.size w2 wr) (fun i _ => al.length - (intOf i).toNat)
      case atStart => exact ⟨0, Nat.zero_le _, rfl, Hb.out⟩
      case round =>
        obtain ⟨j, hj, rfl, hb3⟩ := hrel
        have Hb3 := Lib.hid hb3
        clear hb3 X2 X2l X2a X2b X2c
        have X2 := HX3.out.keep Hb3.out
        try clear X2l
        try clear X2a
        try clear X2b
        try clear X2c
        try clear X2fa
        try clear X2fb
        try clear X2fc
        obtain ⟨X2l, X2a, X2b, X2c, -, -, -⟩ := X2.facts3
        by_cases hlj : j < al.length
        · have ham : al[j].1 ∈ p.arcs := by rw [HPa.out]; exact List.mem_map_of_mem (List.getElem_mem hlj)
          have hd1 : al[j].1.id ∈ dartsD p := mem_dartsD.2 ⟨_, ham, .inl rfl⟩
          have hd2 := neg_dart hd1
          have hbd := HBd.out _ hd1
          obtain ⟨b, o, rfl, hlb, c0, -⟩ := HRa.out.ar hlj
          have HT1 := Lib.hid (HC1.out _ hd1)
          have HT2 := Lib.hid (HC1.out _ hd2)
          have HC0 := Lib.hid c0
          replace c0 := keepc (bT B2.out Hb3.out) c0
          clear ham hd1 hd2
          generalize al[j].1.id = d at *
          have k1 : IntKind.i64.wrap (-d) = -d := IntWalk.i64_in _ (by omega)
          go_wp2_with fail
          refine (HT1.out _ Hb3.out).mono ?_
          rintro e w4 ⟨rfl, hb4⟩
          have B4 := Lib.hid (bT Hb3.out hb4)
          clear hb4 X2 X2l X2a X2b X2c c0
          have X2 := HX3.out.keep B4.out
          have c0 := keepc (bT B2.out B4.out) HC0.out
          try clear X2l
          try clear X2a
          try clear X2b
          try clear X2c
          try clear X2fa
          try clear X2fb
          try clear X2fc
          obtain ⟨X2l, X2a, X2b, X2c, -, -, -⟩ := X2.facts3
          go_wp2_with fail
          refine (HT2.out _ B4.out).mono ?_
          rintro e w5 ⟨rfl, hb5⟩
          have B5 := Lib.hid (bT B4.out hb5)
          clear hb5 X2 X2l X2a X2b X2c c0
          go_wp2_with fail
          go_roundw
          case rel => exact ⟨j + 1, by omega, by go_num, B5.out⟩
          case measure => simp [intOf]; omega
        · go_wp2_with fail
          refine (HAw.out _).mono ?_
          rintro e w4 ⟨rfl, hb4⟩
          have B4 := Lib.hid (bT B2.out (bT Hb3.out hb4))
          clear hb4
          go_wp2_with fail
          go_ret
          exact ⟨rfl, B4.out⟩
end Go.Proofs.YtoclnkfeblfpbaaGreat
