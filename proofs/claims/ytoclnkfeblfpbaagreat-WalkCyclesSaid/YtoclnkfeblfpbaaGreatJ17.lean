/- walk.Euler. mapsheetsref15: Same, SameCycles; mapsheetslaw15.count. mapsheetslaw15: square, awake. -/
import Derived.Test.YtoclnkfeblfpbaaGreatJ16
import Derived.Test.YtoclnkfeblfpbaaGreatJ15
import Derived.Test.YtoclnkfeblfpbaaGreatWalkD
set_option linter.unusedSimpArgs false
set_option linter.unusedVariables false
namespace Go.Proofs.YtoclnkfeblfpbaaGreat
open Go.RowKit

theorem results_tmp5 {P : Program} {fn : Func} {p q r s t : Tmp} (h : fn.results = #[.tmp p, .tmp q, .tmp r, .tmp s, .tmp t]) (a : Array Value) (w : World) :
    (results fn a).run P w = .ok (.tuple #[a.getD p undef, a.getD q undef, a.getD r undef, a.getD s undef, a.getD t undef]) w := by
  simp only [results, h]
  simp [Sem.run_bind, Sem.run_pure, Result.andThen]
def RetEul (w : World) (a b c d z : Int) (e : Ending) (w' : World) : Prop :=
  e = .returned (.tuple #[.int .i64 a, .int .i64 b, .int .i64 c, .int .i64 d, .int .i64 z]) ∧ Below w.heap.size w w'

set_option maxRecDepth 100000 in
set_option maxHeartbeats 8000000 in
theorem Euler_spec (v : Value) (p : Pl) (w : World) (h : PlV w v p) (hv : Valid p) :
    Calls Tryz.prog 21 #[v] w (RetEul w p.nodes.length p.arcs.length (cyclesD p).length (partsD p) 0) := by
  have HCk := Lib.hid (fun W (hW : Below w.heap.size w W) => Cycles_spec v p W (h.mono hW) hv)
  obtain ⟨_, _, _, al, rfl, hpa, ⟨An, cn, rfl, hn1, hn2, hR⟩, ⟨⟨Aa, ca, rfl, hm1, hm2, hRa⟩, hVi⟩, ⟨Af, cf, rfl, -⟩⟩ := h
  unfold maxLen at hn2 hm2
  have HR := Lib.hid hR; have HV := Lib.hid hv; have HRa := Lib.hid hRa; have HVi := Lib.hid hVi
  have hnl := hv.nodes_len
  have hall : al.length ≤ 256 := by
    have hl := hv.lim
    unfold limS at hl
    simp only [Bool.or_eq_false_iff, decide_eq_false_iff_not] at hl
    have h2 := hl.2
    rw [hpa, List.length_map] at h2
    omega
  have hpl : p.arcs.length = al.length := by rw [hpa, List.length_map]
  have HOk := Lib.hid (fun k hk => eul_ok hv k hk)
  have HSt := Lib.hid (fun k hk => eulSt_succ p k hk)
  have HId := Lib.hid (fun k (hk : k < p.nodes.length) => hv.nid_pos (List.getElem_mem hk))
  have HEn := Lib.hid (fun k (hk : k < al.length) => show (-1073741824 ≤ al[k].1.fr ∧ al[k].1.fr ≤ 1073741824) ∧ (-1073741824 ≤ al[k].1.dst ∧ al[k].1.dst ≤ 1073741824) from by
    have ham : al[k].1 ∈ p.arcs := by rw [hpa]; exact List.mem_map_of_mem (List.getElem_mem hk)
    obtain ⟨n1, h1, e1, -⟩ := hv.sound.at_fr ham
    obtain ⟨n2, h2, e2, -⟩ := hv.sound.at_dst ham
    have g1 := hv.nid_pos h1
    have g2 := hv.nid_pos h2
    omega)
  generalize p.faces.length = nf at *
  obtain ⟨cy, hcy⟩ : ∃ cy, cyclesD p = cy := ⟨_, rfl⟩
  obtain ⟨pn, hpn⟩ : ∃ pn, partsD p = pn := ⟨_, rfl⟩
  obtain ⟨nn, hnn⟩ : ∃ nn, p.nodes.length = nn := ⟨_, rfl⟩
  rw [hcy] at HCk
  rw [hnn] at hn1 hnl HCk
  rw [hcy, hpn, hnn, hpl]
  have HCy := Lib.hid hcy; have HPn := Lib.hid hpn; have HNN := Lib.hid hnn; have HPa := Lib.hid hpa; have HPl := Lib.hid hpl
  clear hpa hR hv hRa hVi hpl hcy hpn hnn
  go_enter Tryz.func21, Tryz.ntmps21
  go_wp2_with fail
  refine (HCk.out _ (bA (bR w) _)).mono ?_
  rintro e w1 ⟨Ac, cc, cl, rfl, hb1, hcl, hco⟩
  have X1 : Blk w1 w.heap.size 26 #[.slice An nn cn, .slice Aa al.length ca, .slice Af nf cf] := (Blk.made rfl _ _).keep hb1
  have B1 := Lib.hid (bT (bA (bR w) _) hb1)
  clear hb1 HCk hcl hco
  have hmm := @run_makeMap Tryz.prog
  go_upto_region 5 with fail
  obtain ⟨gk, hgk⟩ : ∃ gk, w1.heap.size = gk := ⟨_, rfl⟩
  obtain ⟨W5, hW⟩ : ∃ W : World, W = (w1.alloc (.map #[] 0)).alloc (.cells #[.map (some w1.heap.size)] 54) := ⟨_, rfl⟩
  have hA : Below w1.heap.size w1 W5 := by rw [hW]; exact bA (bA (bR w1) _) _
  have HX5 := Lib.hid (show Blk W5 (w1.heap.size + 1) 54 #[.map (some w1.heap.size)] by rw [hW]; exact Blk.made (by simp) _ _)
  have HM5 := Lib.hid (show MapII W5 w1.heap.size 0 (fun _ => 0) by rw [hW]; exact (MapII.made w1).keep (bA (bR _) _))
  have HX1 := Lib.hid (X1.keep hA)
  have B5 := Lib.hid (bT B1.out hA)
  have hz1 : w.heap.size + 1 ≤ w1.heap.size := X1.lt
  rw [← hW]
  clear hW hA X1 hmm
  rw [hgk] at HX5 HM5 hz1 ⊢
  clear hgk
  have hz5 : gk + 1 < W5.heap.size := HX5.out.lt
  have X1 := HX1.out
  try clear X1l
  try clear X1a
  try clear X1b
  try clear X1c
  try clear X1fa
  try clear X1fb
  try clear X1fc
  obtain ⟨X1l, X1a, X1b, X1c, -, -, -⟩ := X1.facts3
  go_upto_block 0 with fail
  go_wp2_with fail
  go_loopw [28] (fun i wr => ∃ k : Nat, k ≤ nn ∧ i = .int .i64 k ∧ MapII wr gk k (above0 (p.nodes.take k)) ∧ Blk wr w.heap.size 26 #[.slice An nn cn, .slice Aa al.length ca, .slice Af nf cf] ∧ Blk wr (gk + 1) 54 #[.map (some gk)] ∧ Below w.heap.size w wr) (fun i _ => nn - (intOf i).toNat)
  case atStart => exact ⟨0, Nat.zero_le _, rfl, by rw [List.take_zero, above0_nil]; exact HM5.out, X1, HX5.out, B5.out⟩
  case round =>
    obtain ⟨k, hk, rfl, mp, X1, X5, hb⟩ := hrel
    obtain ⟨wo, rfl⟩ : ∃ wo : World, wo = wr := ⟨_, rfl⟩
    have HM := Lib.hid mp; have HX1 := Lib.hid X1; have HX5 := Lib.hid X5; have Hb := Lib.hid hb
    clear mp hb X1l X1a X1b X1c
    by_cases hlt : k < nn
    · have hkn : k < p.nodes.length := by have := HNN.out; omega
      obtain ⟨b, o, rfl, hlb, c0, c1, c2⟩ := (HR.out.mono Hb.out).nd hkn
      have hid := HId.out k hkn
      have htk : p.nodes.take (k + 1) = p.nodes.take k ++ [p.nodes[k]] := List.take_succ_eq_append_getElem hkn
      generalize p.nodes[k] = nd at *
      obtain ⟨w3, hr3, hm3, hg3⟩ := (HM.out.keep (bA (bR wo) (.cells #[.int .i64 nd.id, .int .i64 nd.pt.x, .int .i64 nd.pt.y] 43))).upd (by omega) nd.id (wfI_of (by omega) (by omega)) nd.id
      rw [above0_snoc, ← htk] at hm3
      have m1 := mapII_ne HM.out X1
      have m5 := mapII_ne HM.out X5
      have HM3 := Lib.hid hm3
      have HX13 := Lib.hid (Blk.grow (X1.alloc _) hg3 (fun e => m1 (Option.some.inj e)))
      have HX53 := Lib.hid (Blk.grow (X5.alloc _) hg3 (fun e => m5 (Option.some.inj e)))
      have HB3 := Lib.hid (bG (bA Hb.out _) hg3 (fun g hg => by have := Option.some.inj hg; omega))
      clear hm3 hg3 htk
      try clear X5l
      try clear X5a
      try clear X5fa
      obtain ⟨X5l, X5a, -⟩ := X5.facts1
      go_wp2_with fail
      go_roundw
      case rel => exact ⟨k + 1, by omega, by go_num, HM3.out, HX13.out, HX53.out, HB3.out⟩
      case measure => simp [intOf]; omega
    · obtain rfl : nn = k := by omega
      have hst : p.nodes.take nn = p.nodes := List.take_of_length_le (by rw [HNN.out]; omega)
      rw [hst] at HM
      have hs0 : (eulSt p 0) = (above0 p.nodes, (nn : Int)) := by unfold eulSt; rw [List.take_zero, HNN.out]; rfl
      have HS0 := Lib.hid hs0
      clear hst hs0
      have hzo : gk + 1 < wo.heap.size := HX5.out.lt
      try clear X1l
      try clear X1a
      try clear X1b
      try clear X1c
      try clear X1fa
      try clear X1fb
      try clear X1fc
      obtain ⟨X1l, X1a, X1b, X1c, -, -, -⟩ := X1.facts3
      clear hlt
      go_upto_block 2 with fail
      go_wp2_with fail
      go_loopw [5, 45] (fun s i wr => ∃ (j cnt : Nat), j ≤ al.length ∧ i = .int .i64 j ∧ s = .int .i64 (eulSt p j).2 ∧ cnt ≤ nn + j ∧ MapII wr gk cnt (eulSt p j).1 ∧ Blk wr w.heap.size 26 #[.slice An nn cn, .slice Aa al.length ca, .slice Af nf cf] ∧ Blk wr (gk + 1) 54 #[.map (some gk)] ∧ Below w.heap.size w wr ∧ gk + 1 < wr.heap.size) (fun _ i _ => al.length - (intOf i).toNat)
      case atStart => exact ⟨0, nn, Nat.zero_le _, rfl, by rw [HS0.out], by omega, by rw [HS0.out]; exact HM.out, HX1.out, HX5.out, Hb.out, hzo⟩
      case round =>
        obtain ⟨j, cnt, hj, rfl, rfl, hcnt, mp, X1, X5, hb, hzr⟩ := hrel
        have HM3 := Lib.hid mp; have HX13 := Lib.hid X1; have HX53 := Lib.hid X5; have HB3 := Lib.hid hb
        clear mp hb X1l X1a X1b X1c X5
        have hok := HOk.out j (by have := HPl.out; omega)
        have hlo := hok.lo; have hhi := hok.hi
        rw [HNN.out] at hlo hhi
        have HO := Lib.hid hok
        clear hok
        by_cases hlt : j < al.length
        · obtain ⟨b, o, rfl, hlb, c0, c1, c2, c3, c4, c5⟩ := (HRa.out.mono HB3.out).ar hlt
          obtain ⟨Av, cv, hv, -⟩ := HVi.out j hlt
          rw [hv] at c3
          have hen := HEn.out j hlt
          have hst := HSt.out j (by have := HPl.out; omega)
          have hpj : p.arcs[j]'(by have := HPl.out; omega) = al[j].1 := by simp only [HPa.out, List.getElem_map]
          rw [hpj, HPl.out] at hst
          clear hv hpj
          generalize al[j].1.via.length = vn at *
          generalize al[j].1 = a at *
          obtain ⟨st, hst0⟩ : ∃ st, eulSt p j = st := ⟨_, rfl⟩
          rw [hst0] at hst HO hlo hhi HM3 ⊢
          have HSt1 := Lib.hid hst
          clear hst hst0
          unfold eulStep at HSt1
          have hf := HO.out.flat.more (M := al.length + 1) (by omega)
          have HT := Lib.hid (fun d (hd : wfI d) W (hW : Below wr.heap.size wr W) => top_spec st.1 (al.length + 1) hf HO.out.bd d hd (gk + 1) gk cnt W (HX53.out.keep hW) (HM3.out.keep hW))
          have hbd1 : ∀ x, -1073741824 ≤ pw st.1 x (al.length + 1) ∧ pw st.1 x (al.length + 1) ≤ 1073741824 := fun x => by rw [← hf x]; exact HO.out.bd _
          obtain ⟨r1, hr1⟩ : ∃ r1, pw st.1 a.fr (al.length + 1) = r1 := ⟨_, rfl⟩
          obtain ⟨r2, hr2⟩ : ∃ r2, pw st.1 a.dst (al.length + 1) = r2 := ⟨_, rfl⟩
          have hw1 := hbd1 a.fr
          have hw2 := hbd1 a.dst
          have HT1 := Lib.hid (HT.out a.fr (wfI_of (by omega) (by omega)))
          have HT2 := Lib.hid (HT.out a.dst (wfI_of (by omega) (by omega)))
          rw [hr1] at HT1 HSt1 hw1
          rw [hr2] at HT2 HSt1 hw2
          clear hbd1 hf HT hr1 hr2
          obtain ⟨s1, s2⟩ := st
          simp only at HSt1 HM3 hlo hhi ⊢
          go_upto_region 15 with fail
          clear c0 c1 c2 c3 c4 c5 hlb
          obtain ⟨W7, hW⟩ : ∃ W : World, W = wr.alloc (.cells #[.int .i64 a.id, .int .i64 a.fr, .int .i64 a.dst, .slice Av vn cv, .int .i64 a.left, .int .i64 a.right] 47) := ⟨_, rfl⟩
          have HA := Lib.hid (show Below wr.heap.size wr W7 by rw [hW]; exact bA (bR wr) _)
          have X13 : Blk W7 wr.heap.size 47 #[.int .i64 a.id, .int .i64 a.fr, .int .i64 a.dst, .slice Av vn cv, .int .i64 a.left, .int .i64 a.right] := by rw [hW]; exact Blk.made rfl _ _
          rw [← hW]
          clear hW
          try clear X13l
          try clear X13a
          try clear X13b
          try clear X13c
          try clear X13d
          try clear X13e
          try clear X13f
          try clear X13fa
          try clear X13fb
          try clear X13fc
          try clear X13fd
          try clear X13fe
          try clear X13ff
          obtain ⟨X13l, X13a, X13b, X13c, X13d, X13e, X13f, -, -, -, -, -, -⟩ := X13.facts6
          refine rg_start (Since W7) (.take 0 1 (.take 1 3 (.take 2 7 (.take 4 23 (.take 5 55 (.take 6 119 (.call 3 127 (.call 7 255 (.take 8 511 (.take 9 1023 (.done))))))))))) (by kernel_rfl) (bD (bR _)) (by kernel_rfl) (by kernel_rfl) (Nat.le_of_ble_eq_true (by kernel_rfl)) ?_
          intro opsR QR Hops HQrg hS
          apply rg_yp (i := 0) Hops rfl hS rfl
          · intro _ hq; clear hq; go_simp; try rfl
          try simp only [Act.put, pu1, pu2, pu3]
          apply rg_yp (i := 1) Hops rfl hS rfl
          · intro _ hq; clear hq; go_simp; try rfl
          try simp only [Act.put, pu1, pu2, pu3]
          apply rg_yp (i := 2) Hops rfl hS rfl
          · intro wq hq; obtain ⟨hqc, -⟩ := bcell (show Below W7.heap.size W7 wq from hq); clear hq; go_simp; try rfl
          try simp only [Act.put, pu1, pu2, pu3]
          apply rg_yp (i := 4) Hops rfl hS rfl
          · intro _ hq; clear hq; go_simp; try rfl
          try simp only [Act.put, pu1, pu2, pu3]
          apply rg_yp (i := 5) Hops rfl hS rfl
          · intro _ hq; clear hq; go_simp; try rfl
          try simp only [Act.put, pu1, pu2, pu3]
          apply rg_yp (i := 6) Hops rfl hS rfl
          · intro wq hq; obtain ⟨hqc, -⟩ := bcell (show Below W7.heap.size W7 wq from hq); clear hq; go_simp; try rfl
          try simp only [Act.put, pu1, pu2, pu3]
          refine rg_call (i := 3) (get_of Hops rfl) (fun K hK => ?_)
          have HSrg := Lib.hid hS; clear hS
          refine rg_run (wanted_plain rfl) ?_
          go_simp
          refine (HT1.out _ (bT HA.out (bD (bR W7)))).mono ?_
          rintro e wr1 ⟨rfl, hbr1⟩
          have hS : Since W7 wr1 := bT (w := W7) HSrg.out hbr1
          clear HSrg
          refine hK.out _ _ hS (fun _ => ?_)
          clear hK K
          try simp only [Act.put, pu1, pu2, pu3]
          refine rg_call (i := 7) (get_of Hops rfl) (fun K hK => ?_)
          have HSrg := Lib.hid hS; clear hS
          refine rg_run (wanted_plain rfl) ?_
          go_simp
          refine (HT2.out _ (bT HA.out (bT (bD (bR W7)) hbr1))).mono ?_
          rintro e wr2 ⟨rfl, hbr2⟩
          have hS : Since W7 wr2 := bT (w := W7) HSrg.out hbr2
          clear HSrg
          refine hK.out _ _ hS (fun _ => ?_)
          clear hK K
          try simp only [Act.put, pu1, pu2, pu3]
          apply rg_yp (i := 8) Hops rfl hS rfl
          · intro _ hq; clear hq; go_simp; try rfl
          try simp only [Act.put, pu1, pu2, pu3]
          apply rg_yp (i := 9) Hops rfl hS rfl
          · intro _ hq; clear hq; go_simp; try rfl
          try simp only [Act.put, pu1, pu2, pu3]
          refine rg_done ?_
          refine HQrg.down _ _ ?_
          have hB : Below W7.heap.size W7 wr2 := hS
          clear hS HQrg Hops
          have HW := Lib.hid (bT HA.out hB)
          obtain ⟨W8, hW8⟩ : ∃ W8, W8 = wr2 := ⟨_, rfl⟩
          rw [← hW8] at HW ⊢
          clear hB hbr1 hbr2 hW8 X13l X13a X13b X13c X13d X13e X13f X13 HT1 HT2
          cases hne : (r1 != r2)
          · have he : eulSt p (j + 1) = (s1, s2) := by rw [HSt1.out, if_pos (by simpa using hne)]
            have HE := Lib.hid he
            clear he
            go_wp2_with fail
            go_roundw
            case rel => exact ⟨j + 1, cnt, by omega, by go_num, by rw [HE.out], by omega, by rw [HE.out]; exact HM3.out.keep HW.out, HX13.out.keep HW.out, HX53.out.keep HW.out, bT HB3.out HW.out, Nat.lt_of_lt_of_le hzr HW.out.size⟩
            case measure => simp [intOf]; omega
          · have he : eulSt p (j + 1) = (linkF s1 r1 r2, s2 - 1) := by rw [HSt1.out, if_neg (by simpa using hne)]
            have HE := Lib.hid he
            clear he
            have X8 := HX53.out.keep HW.out
            have X18 := HX13.out.keep HW.out
            have HM8 := Lib.hid (HM3.out.keep HW.out)
            obtain ⟨w9, hr9, hm9, hg9⟩ := HM8.out.upd (by omega) r1 (wfI_of (by omega) (by omega)) r2
            have m1 := mapII_ne HM8.out X18
            have m8 := mapII_ne HM8.out X8
            have HM9 := Lib.hid (show MapII w9 gk (cnt + 1) (linkF s1 r1 r2) from hm9)
            have HX19 := Lib.hid (Blk.grow X18 hg9 (fun e => m1 (Option.some.inj e)))
            have HX89 := Lib.hid (Blk.grow X8 hg9 (fun e => m8 (Option.some.inj e)))
            have HB9 := Lib.hid (bG (bT HB3.out HW.out) hg9 (fun g hg => by have := Option.some.inj hg; omega))
            have hz9 := Nat.le_trans HW.out.size hg9.size
            clear hm9 hg9 X18
            have g1 : IntKind.i64.wrap (s2 - 1) = s2 - 1 := IntWalk.i64_in _ (by omega)
            try clear X8l
            try clear X8a
            try clear X8fa
            obtain ⟨X8l, X8a, -⟩ := X8.facts1
            go_wp2_with fail
            go_roundw
            case rel => exact ⟨j + 1, cnt + 1, by omega, by go_num, by rw [HE.out], by omega, by rw [HE.out]; exact HM9.out, HX19.out, HX89.out, HB9.out, by omega⟩
            case measure => simp [intOf]; omega
        · obtain rfl : j = al.length := by omega
          have hp : (eulSt p al.length).2 = pn := by rw [← HPn.out]; unfold partsD; rw [HPl.out]
          rw [hp] at hlo hhi ⊢
          clear hp HSt HEn HO HOk
          have X1 := HX13.out
          try clear X1l
          try clear X1a
          try clear X1b
          try clear X1c
          try clear X1fa
          try clear X1fb
          try clear X1fc
          obtain ⟨X1l, X1a, X1b, X1c, -, -, -⟩ := X1.facts3
          go_upto_region 20 with fail
          refine rg_start (Since wr) (.take 0 1 (.take 1 3 (.take 2 7 (.take 3 15 (.take 4 31 (.take 5 63 (.take 6 127 (.take 7 255 (.take 8 511 (.take 9 1023 (.take 10 2047 (.take 11 4095 (.take 12 8191 (.take 13 16383 (.done))))))))))))))) (by kernel_rfl) (bD (bR _)) (by kernel_rfl) (by kernel_rfl) (Nat.le_of_ble_eq_true (by kernel_rfl)) ?_
          intro opsR QR Hops HQrg hS
          apply rg_yp (i := 0) Hops rfl hS rfl
          · intro _ hq; clear hq; go_simp; try rfl
          try simp only [Act.put, pu1, pu2, pu3]
          apply rg_yp (i := 1) Hops rfl hS rfl
          · intro wq hq; obtain ⟨hqc, -⟩ := bcell (show Below wr.heap.size wr wq from hq); clear hq; go_simp; try rfl
          try simp only [Act.put, pu1, pu2, pu3]
          apply rg_yp (i := 2) Hops rfl hS rfl
          · intro _ hq; clear hq; go_simp; try rfl
          try simp only [Act.put, pu1, pu2, pu3]
          apply rg_yp (i := 3) Hops rfl hS rfl
          · intro _ hq; clear hq; go_simp; try rfl
          try simp only [Act.put, pu1, pu2, pu3]
          apply rg_yp (i := 4) Hops rfl hS rfl
          · intro wq hq; obtain ⟨hqc, -⟩ := bcell (show Below wr.heap.size wr wq from hq); clear hq; go_simp; try rfl
          try simp only [Act.put, pu1, pu2, pu3]
          apply rg_yp (i := 5) Hops rfl hS rfl
          · intro _ hq; clear hq; go_simp; try rfl
          try simp only [Act.put, pu1, pu2, pu3]
          apply rg_yp (i := 6) Hops rfl hS rfl
          · intro _ hq; clear hq; go_simp; try rfl
          try simp only [Act.put, pu1, pu2, pu3]
          apply rg_yp (i := 7) Hops rfl hS rfl
          · intro _ hq; clear hq; go_simp; try rfl
          try simp only [Act.put, pu1, pu2, pu3]
          apply rg_yp (i := 8) Hops rfl hS rfl
          · intro _ hq; clear hq; go_simp; try rfl
          try simp only [Act.put, pu1, pu2, pu3]
          apply rg_yp (i := 9) Hops rfl hS rfl
          · intro _ hq; clear hq; go_simp; try rfl
          try simp only [Act.put, pu1, pu2, pu3]
          apply rg_yp (i := 10) Hops rfl hS rfl
          · intro _ hq; clear hq; go_simp; try rfl
          try simp only [Act.put, pu1, pu2, pu3]
          apply rg_yp (i := 11) Hops rfl hS rfl
          · intro _ hq; clear hq; go_simp; try rfl
          try simp only [Act.put, pu1, pu2, pu3]
          apply rg_yp (i := 12) Hops rfl hS rfl
          · intro _ hq; clear hq; go_simp; try rfl
          try simp only [Act.put, pu1, pu2, pu3]
          apply rg_yp (i := 13) Hops rfl hS rfl
          · intro _ hq; clear hq; go_simp; try rfl
          try simp only [Act.put, pu1, pu2, pu3]
          refine rg_done ?_
          refine HQrg.down _ _ ?_
          have hB : Below wr.heap.size wr wr.drew := hS
          clear hS HQrg Hops
          go_wp2_with fail
          exact bodyPost_ret (results_tmp5 rfl _ _) rfl ⟨rfl, bT HB3.out hB⟩
end Go.Proofs.YtoclnkfeblfpbaaGreat
namespace Go.Proofs.YtoclnkfeblfpbaaGreat
open Go.RowKit

/-- a list of lists of ints that is read -/
def CyR (w : World) (v : Value) (L : List (List Int × SV)) : Prop := Sl w v L.length (L.flatMap cyC) ∧ ∀ x ∈ L, Ints w (.slice x.2.a x.2.n x.2.c) x.1
theorem CyR.mono {w w' : World} {v : Value} {L : List (List Int × SV)} (h : CyR w v L) (hb : Below w.heap.size w w') : CyR w' v L :=
  ⟨Sl.mono h.1 hb, fun x hx => (h.2 x hx).mono hb⟩
theorem CysO.read {w : World} {B : Nat} {v : Value} {L : List (List Int × SV)} (h : CysO w B v L) : CyR w v L := ⟨h.1.sl, fun x hx => (h.2 x hx).sl⟩
theorem Row.cy {w : World} {A : Option Addr} {l : List (List Int × SV)} (h : Row w A (l.flatMap cyC)) {k : Nat} (hk : k < l.length) :
    ∃ b o, A = some ⟨b, o, none⟩ ∧ b < w.heap.size ∧ w.cell? ⟨b, o + k, none⟩ = some (.slice l[k].2.a l[k].2.n l[k].2.c) := by
  obtain ⟨b, o, hA, hb, hc⟩ := h.at_ (n := 1) (fun _ => rfl) hk (by omega)
  exact ⟨b, o, hA, hb, by simpa using hc 0 _ rfl⟩

def sameI (l m : List Int) : Bool := decide (l = m)
theorem sameI_ne {l m : List Int} (h : l.length ≠ m.length) : sameI l m = false := by
  unfold sameI; rw [decide_eq_false_iff_not]; rintro rfl; exact h rfl
theorem sameI_at {l m : List Int} {k : Nat} (h1 : k < l.length) (h2 : k < m.length) (h : l[k] ≠ m[k]) : sameI l m = false := by
  unfold sameI; rw [decide_eq_false_iff_not]; rintro rfl; exact h rfl
theorem sameI_all {l m : List Int} (hl : l.length = m.length) (h : ∀ j (h1 : j < l.length) (h2 : j < m.length), l[j] = m[j]) : sameI l m = true := by
  unfold sameI; rw [decide_eq_true_iff]; exact List.ext_getElem hl h

set_option maxRecDepth 100000 in
set_option maxHeartbeats 4000000 in
theorem Same15_spec (u v : Value) (l m : List Int) (w : World) (h : Ints w u l) (h' : Ints w v m) :
    Calls Tryz.prog 29 #[u, v] w fun e w' => e = .returned (.bool (sameI l m)) ∧ Below w.heap.size w w' := by
  obtain ⟨A1, c1, rfl, hn1, hc1, hR1⟩ := h
  obtain ⟨A2, c2, rfl, hn2, hc2, hR2⟩ := h'
  unfold maxLen at hc1 hc2
  have HR1 := Lib.hid hR1; have HR2 := Lib.hid hR2
  obtain ⟨q, hq⟩ : ∃ q, sameI l m = q := ⟨_, rfl⟩
  rw [hq]
  have Hq := Lib.hid hq
  clear hq hR1 hR2
  by_cases hl : l.length = m.length
  case neg =>
    have hf : q = false := by rw [← Hq.out]; exact sameI_ne hl
    subst hf
    have hl' : ((l.length : Int) != (m.length : Int)) = true := by simp; omega
    generalize l.length = n1 at *
    generalize m.length = n2 at *
    go_enter Tryz.func29, Tryz.ntmps29
    go_wp2_with fail
    go_ret
    exact ⟨rfl, bR w⟩
  have HL := Lib.hid hl
  rw [← hl] at hn2 ⊢
  clear hl
  go_enter Tryz.func29, Tryz.ntmps29
  go_wp2_with fail
  go_loopw [5] (fun i wr => ∃ k : Nat, k ≤ l.length ∧ i = .int .i64 k ∧ Below w.heap.size w wr ∧ ∀ j (h1 : j < l.length) (h2 : j < m.length), j < k → l[j] = m[j]) (fun i _ => l.length - (intOf i).toNat)
  case atStart => exact ⟨0, Nat.zero_le _, rfl, bR w, fun j _ _ h => by omega⟩
  case round =>
    obtain ⟨k, hk, rfl, hb, hno⟩ := hrel
    have Hb := Lib.hid hb; have Hno := Lib.hid hno
    clear hb hno
    by_cases hlt : k < l.length
    · have hlt2 : k < m.length := by have := HL.out; omega
      obtain ⟨b1, o1, rfl, hlb1, e1⟩ := (HR1.out.mono Hb.out).int hlt
      obtain ⟨b2, o2, rfl, hlb2, e2⟩ := (HR2.out.mono Hb.out).int hlt2
      have HT := Lib.hid (show l[k] ≠ m[k] → q = false from fun h => by rw [← Hq.out]; exact sameI_at hlt hlt2 h)
      have HE := Lib.hid (show l[k] = m[k] → ∀ j (h1 : j < l.length) (h2 : j < m.length), j < k + 1 → l[j] = m[j] from fun he j h1 h2 hjk => by
        by_cases e : j = k
        · subst e; exact he
        · exact Hno.out j h1 h2 (by omega))
      generalize l[k] = x at *
      generalize m[k] = y at *
      clear hlt2
      go_upto_region 6 with fail
      refine rg_start (Since wr) (.take 0 1 (.take 1 3 (.take 2 7 (.take 3 15 (.take 4 31 (.take 5 63 (.take 6 127 (.take 7 255 (.take 8 511 (.done)))))))))) (by kernel_rfl) (bD (bR _)) (by kernel_rfl) (by kernel_rfl) (Nat.le_of_ble_eq_true (by kernel_rfl)) ?_
      intro opsR QR Hops HQrg hS
      apply rg_yp (i := 0) Hops rfl hS rfl
      · intro _ hq; clear hq; go_simp; try rfl
      try simp only [Act.put, pu1, pu2, pu3]
      apply rg_yp (i := 1) Hops rfl hS rfl
      · intro _ hq; clear hq; go_simp; try rfl
      try simp only [Act.put, pu1, pu2, pu3]
      apply rg_yp (i := 2) Hops rfl hS rfl
      · intro _ hq; clear hq; go_simp; try rfl
      try simp only [Act.put, pu1, pu2, pu3]
      apply rg_yp (i := 3) Hops rfl hS rfl
      · intro wq hq; obtain ⟨hqc, -⟩ := bcell (show Below wr.heap.size wr wq from hq); clear hq; go_simp; try rfl
      try simp only [Act.put, pu1, pu2, pu3]
      apply rg_yp (i := 4) Hops rfl hS rfl
      · intro _ hq; clear hq; go_simp; try rfl
      try simp only [Act.put, pu1, pu2, pu3]
      apply rg_yp (i := 5) Hops rfl hS rfl
      · intro _ hq; clear hq; go_simp; try rfl
      try simp only [Act.put, pu1, pu2, pu3]
      apply rg_yp (i := 6) Hops rfl hS rfl
      · intro _ hq; clear hq; go_simp; try rfl
      try simp only [Act.put, pu1, pu2, pu3]
      apply rg_yp (i := 7) Hops rfl hS rfl
      · intro wq hq; obtain ⟨hqc, -⟩ := bcell (show Below wr.heap.size wr wq from hq); clear hq; go_simp; try rfl
      try simp only [Act.put, pu1, pu2, pu3]
      apply rg_yp (i := 8) Hops rfl hS rfl
      · intro _ hq; clear hq; go_simp; try rfl
      try simp only [Act.put, pu1, pu2, pu3]
      refine rg_done ?_
      refine HQrg.down _ _ ?_
      have hB : Below wr.heap.size wr wr.drew := hS
      clear hS HQrg Hops
      have HB := Lib.hid (bT Hb.out hB)
      clear hB
      cases hxy : (x != y)
      · have he := Lib.hid (HE.out (by simpa using hxy))
        go_wp2_with fail
        go_roundw
        case rel => exact ⟨k + 1, by omega, by go_num, HB.out, he.out⟩
        case measure => simp [intOf]; omega
      · have hf := HT.out (by simpa using hxy)
        subst hf
        go_wp2_with fail
        go_ret
        exact ⟨rfl, HB.out⟩
    · have hf : q = true := by rw [← Hq.out]; exact sameI_all HL.out (fun j h1 h2 => Hno.out j h1 h2 (by omega))
      subst hf
      go_wp2_with fail
      go_ret
      exact ⟨rfl, Hb.out⟩

def sameC (l m : List (List Int)) : Bool := decide (l = m)
theorem sameC_ne {l m : List (List Int)} (h : l.length ≠ m.length) : sameC l m = false := by
  unfold sameC; rw [decide_eq_false_iff_not]; rintro rfl; exact h rfl
theorem sameC_at {l m : List (List Int × SV)} {k : Nat} (h1 : k < l.length) (h2 : k < m.length) (h : sameI l[k].1 m[k].1 = false) : sameC (l.map (·.1)) (m.map (·.1)) = false := by
  unfold sameC
  rw [decide_eq_false_iff_not]
  intro e
  have := List.getElem_of_eq e (i := k) (by simpa using h1)
  simp only [List.getElem_map] at this
  rw [this] at h
  unfold sameI at h
  simp at h
theorem sameC_all {l m : List (List Int × SV)} (hl : l.length = m.length) (h : ∀ j (h1 : j < l.length) (h2 : j < m.length), sameI l[j].1 m[j].1 = true) : sameC (l.map (·.1)) (m.map (·.1)) = true := by
  unfold sameC; rw [decide_eq_true_iff]
  refine List.ext_getElem (by simpa using hl) fun j h1 h2 => ?_
  simp only [List.getElem_map]
  have := h j (by simpa using h1) (by simpa using h2)
  unfold sameI at this
  simpa using this
set_option maxRecDepth 100000 in
set_option maxHeartbeats 4000000 in
theorem SameCyc_spec (u v : Value) (l m : List (List Int × SV)) (w : World) (h : CyR w u l) (h' : CyR w v m) :
    Calls Tryz.prog 17 #[u, v] w fun e w' => e = .returned (.bool (sameC (l.map (·.1)) (m.map (·.1)))) ∧ Below w.heap.size w w' := by
  obtain ⟨⟨A1, c1, rfl, hn1, hc1, hR1⟩, hI1⟩ := h
  obtain ⟨⟨A2, c2, rfl, hn2, hc2, hR2⟩, hI2⟩ := h'
  unfold maxLen at hc1 hc2
  have HR1 := Lib.hid hR1; have HR2 := Lib.hid hR2; have HI1 := Lib.hid hI1; have HI2 := Lib.hid hI2
  obtain ⟨q, hq⟩ : ∃ q, sameC (l.map (·.1)) (m.map (·.1)) = q := ⟨_, rfl⟩
  rw [hq]
  have Hq := Lib.hid hq
  clear hq hR1 hR2 hI1 hI2
  by_cases hl : l.length = m.length
  case neg =>
    have hf : q = false := by rw [← Hq.out]; exact sameC_ne (by simpa using hl)
    subst hf
    have hl' : ((l.length : Int) != (m.length : Int)) = true := by simp; omega
    generalize l.length = n1 at *
    generalize m.length = n2 at *
    go_enter Tryz.func17, Tryz.ntmps17
    go_wp2_with fail
    go_ret
    exact ⟨rfl, bR w⟩
  have HL := Lib.hid hl
  rw [← hl] at hn2 ⊢
  clear hl
  go_enter Tryz.func17, Tryz.ntmps17
  go_wp2_with fail
  go_loopw [5] (fun i wr => ∃ k : Nat, k ≤ l.length ∧ i = .int .i64 k ∧ Below w.heap.size w wr ∧ ∀ j (h1 : j < l.length) (h2 : j < m.length), j < k → sameI l[j].1 m[j].1 = true) (fun i _ => l.length - (intOf i).toNat)
  case atStart => exact ⟨0, Nat.zero_le _, rfl, bR w, fun j _ _ h => by omega⟩
  case round =>
    obtain ⟨k, hk, rfl, hb, hno⟩ := hrel
    have Hb := Lib.hid hb; have Hno := Lib.hid hno
    clear hb hno
    by_cases hlt : k < l.length
    · have hlt2 : k < m.length := by have := HL.out; omega
      obtain ⟨b1, o1, rfl, hlb1, e1⟩ := (HR1.out.mono Hb.out).cy hlt
      obtain ⟨b2, o2, rfl, hlb2, e2⟩ := (HR2.out.mono Hb.out).cy hlt2
      have HS := Lib.hid (fun W (hW : Below w.heap.size w W) => Same15_spec _ _ l[k].1 m[k].1 W ((HI1.out l[k] (List.getElem_mem hlt)).mono hW) ((HI2.out m[k] (List.getElem_mem hlt2)).mono hW))
      have HT := Lib.hid (show sameI l[k].1 m[k].1 = false → q = false from fun h => by rw [← Hq.out]; exact sameC_at hlt hlt2 h)
      have HE := Lib.hid (show sameI l[k].1 m[k].1 = true → ∀ j (h1 : j < l.length) (h2 : j < m.length), j < k + 1 → sameI l[j].1 m[j].1 = true from fun he j h1 h2 hjk => by
        by_cases e : j = k
        · subst e; exact he
        · exact Hno.out j h1 h2 (by omega))
      generalize sameI l[k].1 m[k].1 = z at *
      generalize l[k].2 = x at *
      generalize m[k].2 = y at *
      obtain ⟨xa, xn, xc⟩ := x
      obtain ⟨ya, yn, yc⟩ := y
      simp only at e1 e2 HS
      clear hlt2
      go_upto_region 6 with fail
      refine rg_start (Since wr) (.take 0 1 (.take 1 3 (.take 2 7 (.take 3 15 (.take 4 31 (.take 5 63 (.take 6 127 (.take 7 255 (.call 8 511 (.take 9 1023 (.done))))))))))) (by kernel_rfl) (bD (bR _)) (by kernel_rfl) (by kernel_rfl) (Nat.le_of_ble_eq_true (by kernel_rfl)) ?_
      intro opsR QR Hops HQrg hS
      apply rg_yp (i := 0) Hops rfl hS rfl
      · intro _ hq; clear hq; go_simp; try rfl
      try simp only [Act.put, pu1, pu2, pu3]
      apply rg_yp (i := 1) Hops rfl hS rfl
      · intro _ hq; clear hq; go_simp; try rfl
      try simp only [Act.put, pu1, pu2, pu3]
      apply rg_yp (i := 2) Hops rfl hS rfl
      · intro _ hq; clear hq; go_simp; try rfl
      try simp only [Act.put, pu1, pu2, pu3]
      apply rg_yp (i := 3) Hops rfl hS rfl
      · intro wq hq; obtain ⟨hqc, -⟩ := bcell (show Below wr.heap.size wr wq from hq); clear hq; go_simp; try rfl
      try simp only [Act.put, pu1, pu2, pu3]
      apply rg_yp (i := 4) Hops rfl hS rfl
      · intro _ hq; clear hq; go_simp; try rfl
      try simp only [Act.put, pu1, pu2, pu3]
      apply rg_yp (i := 5) Hops rfl hS rfl
      · intro _ hq; clear hq; go_simp; try rfl
      try simp only [Act.put, pu1, pu2, pu3]
      apply rg_yp (i := 6) Hops rfl hS rfl
      · intro _ hq; clear hq; go_simp; try rfl
      try simp only [Act.put, pu1, pu2, pu3]
      apply rg_yp (i := 7) Hops rfl hS rfl
      · intro wq hq; obtain ⟨hqc, -⟩ := bcell (show Below wr.heap.size wr wq from hq); clear hq; go_simp; try rfl
      try simp only [Act.put, pu1, pu2, pu3]
      refine rg_call (i := 8) (get_of Hops rfl) (fun K hK => ?_)
      have HSrg := Lib.hid hS; clear hS
      refine rg_run (wanted_plain rfl) ?_
      go_simp
      refine (HS.out _ (bT Hb.out (bD (bR wr)))).mono ?_
      rintro e wr1 ⟨rfl, hbr1⟩
      have hS : Since wr wr1 := bT (w := wr) HSrg.out hbr1
      clear HSrg
      refine hK.out _ _ hS (fun _ => ?_)
      clear hK K
      try simp only [Act.put, pu1, pu2, pu3]
      apply rg_yp (i := 9) Hops rfl hS rfl
      · intro _ hq; clear hq; go_simp; try rfl
      try simp only [Act.put, pu1, pu2, pu3]
      refine rg_done ?_
      refine HQrg.down _ _ ?_
      have hB : Below wr.heap.size wr wr1 := hS
      clear hS HQrg Hops
      have HB := Lib.hid (bT Hb.out hB)
      clear hB
      cases z
      · have hf := HT.out rfl
        subst hf
        go_wp2_with fail
        go_ret
        exact ⟨rfl, HB.out⟩
      · have he := Lib.hid (HE.out rfl)
        go_wp2_with fail
        go_roundw
        case rel => exact ⟨k + 1, by omega, by go_num, HB.out, he.out⟩
        case measure => simp [intOf]; omega
    · have hf : q = true := by rw [← Hq.out]; exact sameC_all HL.out (fun j h1 h2 => Hno.out j h1 h2 (by omega))
      subst hf
      go_wp2_with fail
      go_ret
      exact ⟨rfl, Hb.out⟩
end Go.Proofs.YtoclnkfeblfpbaaGreat
namespace Go.Proofs.YtoclnkfeblfpbaaGreat
open Go.RowKit

def sqA (i f t : Int) : Ar := ⟨i, f, t, [], 0, 0⟩
def sqP : Pl := ⟨[⟨1, ⟨0, 0⟩⟩, ⟨2, ⟨9, 0⟩⟩, ⟨3, ⟨9, 9⟩⟩, ⟨4, ⟨0, 9⟩⟩], [sqA 1 1 2, sqA 2 2 3, sqA 3 3 4, sqA 4 4 1, sqA 5 1 3], []⟩
def sqC : List (List Int) := [[-5, 1, 2], [-4, -3, -2, -1], [3, 4, 5]]
theorem sq_chk : checkS sqP = 0 := by decide +kernel
theorem sq_valid : Valid sqP := (check_zero sqP).1 sq_chk
theorem sq_cyc : cyclesD sqP = sqC := by decide +kernel
theorem sq_parts : partsD sqP = 1 := by decide +kernel
theorem sq_start : startD sqP (-5) = 3 := by decide +kernel
theorem sq_next : nextD sqP 2 = -5 := by decide +kernel
theorem sq_around : aroundD sqP 1 = [1, 5, -4] := by decide +kernel
theorem sq_twice : twiceD sqP [-5, 1, 2] = 81 := by decide +kernel
def sdP : Pl := ⟨[], [⟨1, 0, 0, [], 7, 8⟩], []⟩
theorem sd_side : sideD sdP (-1) = 8 := by decide +kernel

def RetSq (w : World) (e : Ending) (w' : World) : Prop :=
  ∃ g1 g2, e = .returned (.agg #[.slice (some ⟨g1, 0, none⟩) 4 4, .slice (some ⟨g2, 0, none⟩) 5 5, .slice none 0 0]) ∧ Below w.heap.size w w' ∧ PlV w' (.agg #[.slice (some ⟨g1, 0, none⟩) 4 4, .slice (some ⟨g2, 0, none⟩) 5 5, .slice none 0 0]) sqP
theorem vias_nil {w : World} {l : List (Ar × Value)} (h : ∀ x ∈ l, x.1.via = [] ∧ x.2 = .slice none 0 0) : Vias w l := fun k hk => by
  obtain ⟨h1, h2⟩ := h l[k] (List.getElem_mem hk)
  rw [h1, h2]
  exact Sl.nil w
theorem PlV.blks {w : World} {vn va vf : Value} {p : Pl} {al : List (Ar × Value)} (hp : p.arcs = al.map (·.1)) (hn : Nds w vn p.nodes) (ha : Sl w va al.length (al.flatMap arC)) (hv : Vias w al) (hf : Ints w vf p.faces) : PlV w (.agg #[vn, va, vf]) p :=
  ⟨vn, va, vf, al, rfl, hp, hn, ⟨ha, hv⟩, hf⟩
set_option maxRecDepth 100000 in
set_option maxHeartbeats 1000000 in
theorem square_spec (w : World) : Calls Tryz.prog 28 #[] w (RetSq w) := by
  go_enter Tryz.func28, Tryz.ntmps28
  go_wp2_with fail
  have X1 : Blk (((w.alloc (.cells #[.slice (some ⟨w.heap.size + 1, 0, none⟩) 4 4, .slice (some ⟨w.heap.size + 1 + 1, 0, none⟩) 5 5, .slice none 0 0] 26)).alloc (.cells #[.int .i64 1, .int .i64 0, .int .i64 0, .int .i64 2, .int .i64 9, .int .i64 0, .int .i64 3, .int .i64 9, .int .i64 9, .int .i64 4, .int .i64 0, .int .i64 9] 43)).alloc (.cells #[.int .i64 1, .int .i64 1, .int .i64 2, .slice none 0 0, .int .i64 0, .int .i64 0, .int .i64 2, .int .i64 2, .int .i64 3, .slice none 0 0, .int .i64 0, .int .i64 0, .int .i64 3, .int .i64 3, .int .i64 4, .slice none 0 0, .int .i64 0, .int .i64 0, .int .i64 4, .int .i64 4, .int .i64 1, .slice none 0 0, .int .i64 0, .int .i64 0, .int .i64 5, .int .i64 1, .int .i64 3, .slice none 0 0, .int .i64 0, .int .i64 0] 47)) w.heap.size 26 #[.slice (some ⟨w.heap.size + 1, 0, none⟩) 4 4, .slice (some ⟨w.heap.size + 1 + 1, 0, none⟩) 5 5, .slice none 0 0] := ((Blk.made rfl _ _).alloc _).alloc _
  refine res_cell (t := 26) (g := w.heap.size) (cs := #[.slice (some ⟨w.heap.size + 1, 0, none⟩) 4 4, .slice (some ⟨w.heap.size + 1 + 1, 0, none⟩) 5 5, .slice none 0 0]) rfl struct_pl rfl rfl X1 ⟨w.heap.size + 1, w.heap.size + 1 + 1, rfl, bA (bA (bA (bR w) _) _) _, ?_⟩
  refine PlV.blks (al := [(sqA 1 1 2, .slice none 0 0), (sqA 2 2 3, .slice none 0 0), (sqA 3 3 4, .slice none 0 0), (sqA 4 4 1, .slice none 0 0), (sqA 5 1 3, .slice none 0 0)]) rfl (Sl.lit (n := 4) ((Blk.made (by simp) _ _).alloc _) rfl (le_maxLen (by omega))) (Sl.lit (n := 5) (Blk.made (by simp) _ _) rfl (le_maxLen (by omega))) (vias_nil ?_) (Sl.nil _)
  intro x hx
  simp only [List.mem_cons, List.not_mem_nil, or_false] at hx
  rcases hx with rfl | rfl | rfl | rfl | rfl <;> exact ⟨rfl, rfl⟩

def litW (w : World) : World := (((w.alloc (.cells #[.int .i64 (-5), .int .i64 1, .int .i64 2] 3)).alloc (.cells #[.int .i64 (-4), .int .i64 (-3), .int .i64 (-2), .int .i64 (-1)] 3)).alloc (.cells #[.int .i64 3, .int .i64 4, .int .i64 5] 3)).alloc (.cells #[.slice (some ⟨w.heap.size, 0, none⟩) 3 3, .slice (some ⟨w.heap.size + 1, 0, none⟩) 4 4, .slice (some ⟨w.heap.size + 1 + 1, 0, none⟩) 3 3] 24)
def litL (w : World) : List (List Int × SV) := [([-5, 1, 2], ⟨some ⟨w.heap.size, 0, none⟩, 3, 3⟩), ([-4, -3, -2, -1], ⟨some ⟨w.heap.size + 1, 0, none⟩, 4, 4⟩), ([3, 4, 5], ⟨some ⟨w.heap.size + 1 + 1, 0, none⟩, 3, 3⟩)]
theorem lit_read (w : World) : CyR (litW w) (.slice (some ⟨w.heap.size + 1 + 1 + 1, 0, none⟩) 3 3) (litL w) := by
  refine ⟨Sl.lit (n := 3) (Blk.made (by simp) _ _) rfl (le_maxLen (by omega)), fun x hx => ?_⟩
  simp only [litL, List.mem_cons, List.not_mem_nil, or_false] at hx
  rcases hx with rfl | rfl | rfl
  · exact Sl.lit (n := 3) ((((Blk.made rfl _ _).alloc _).alloc _).alloc _) rfl (le_maxLen (by omega))
  · exact Sl.lit (n := 4) (((Blk.made (by simp) _ _).alloc _).alloc _) rfl (le_maxLen (by omega))
  · exact Sl.lit (n := 3) ((Blk.made (by simp) _ _).alloc _) rfl (le_maxLen (by omega))
theorem lit_below (w : World) : Below w.heap.size w (litW w) := bA (bA (bA (bA (bR w) _) _) _) _
set_option maxRecDepth 100000 in
set_option maxHeartbeats 8000000 in
theorem awakeW_spec (w : World) : Calls Tryz.prog 13 #[] w fun e w' => e = .returned (.bool true) ∧ Below w.heap.size w w' := by
  go_enter Tryz.func13, Tryz.ntmps13
  go_wp2_with fail
  refine (square_spec _).mono ?_
  rintro e w1 ⟨g1, g2, rfl, hb1, hp1⟩
  have HP := Lib.hid hp1
  have B1 := Lib.hid hb1
  clear hb1 hp1
  go_upto_region 2 with fail
  obtain ⟨W2, hW⟩ : ∃ W : World, W = w1.alloc (.cells #[.slice (some ⟨g1, 0, none⟩) 4 4, .slice (some ⟨g2, 0, none⟩) 5 5, .slice none 0 0] 26) := ⟨_, rfl⟩
  have X1 : Blk W2 w1.heap.size 26 #[.slice (some ⟨g1, 0, none⟩) 4 4, .slice (some ⟨g2, 0, none⟩) 5 5, .slice none 0 0] := by rw [hW]; exact Blk.made rfl _ _
  have HX := Lib.hid X1
  have hA : Below w1.heap.size w1 W2 := by rw [hW]; exact bA (bR w1) _
  have HP2 := Lib.hid (HP.out.mono hA)
  have B2 := Lib.hid (bT B1.out hA)
  rw [← hW]
  clear hW hA HP B1
  have HC := Lib.hid (fun W (hW : Below W2.heap.size W2 W) => Cycles_spec _ sqP W (HP2.out.mono hW) sq_valid)
  rw [sq_cyc] at HC
  have HE := Lib.hid (fun W (hW : Below W2.heap.size W2 W) => Euler_spec _ sqP W (HP2.out.mono hW) sq_valid)
  rw [sq_parts, sq_cyc] at HE
  replace HE := Lib.hid (show ∀ W (hW : Below W2.heap.size W2 W), Calls Tryz.prog 21 #[.agg #[.slice (some ⟨g1, 0, none⟩) 4 4, .slice (some ⟨g2, 0, none⟩) 5 5, .slice none 0 0]] W (RetEul W 4 5 3 1 0) from HE.out)
  obtain ⟨gp, hgp⟩ : ∃ gp, w1.heap.size = gp := ⟨_, rfl⟩
  rw [hgp] at X1 HX ⊢
  clear hgp
  try clear X1l
  try clear X1a
  try clear X1b
  try clear X1c
  try clear X1fa
  try clear X1fb
  try clear X1fc
  obtain ⟨X1l, X1a, X1b, X1c, -, -, -⟩ := X1.facts3
  go_wp2_with fail
  refine (HC.out _ (bR W2)).mono ?_
  rintro e w3 ⟨A, c, L, rfl, hb3, hL, hco⟩
  rw [show sqC.length = 3 from rfl] at hco ⊢
  have B3 := Lib.hid hb3; have HL := Lib.hid hL; have HCo := Lib.hid hco.read
  clear hb3 hL hco X1 X1l X1a X1b X1c
  have X1 := HX.out.keep B3.out
  try clear X1l
  try clear X1a
  try clear X1b
  try clear X1c
  try clear X1fa
  try clear X1fb
  try clear X1fc
  obtain ⟨X1l, X1a, X1b, X1c, -, -, -⟩ := X1.facts3
  go_wp2_with fail
  refine (HE.out _ B3.out).mono ?_
  rintro e w4 ⟨rfl, hb4⟩
  have B4 := Lib.hid (bT B3.out hb4)
  have HCo4 := Lib.hid (HCo.out.mono hb4)
  clear hb4 X1 X1l X1a X1b X1c HC HE HCo B3
  go_wp2_with fail
  have hT := SameCyc_spec (.slice A 3 c) (.slice (some ⟨w4.heap.size + 1 + 1 + 1, 0, none⟩) 3 3) L (litL w4) (litW w4) (HCo4.out.mono (lit_below w4)) (lit_read w4)
  rw [HL.out, show sameC sqC ((litL w4).map (·.1)) = true by unfold sameC; rw [decide_eq_true_iff]; rfl] at hT
  refine hT.mono ?_
  rintro e w5 ⟨rfl, hb5⟩
  have B5 := Lib.hid (bT B4.out (bT (lit_below w4) hb5))
  clear hT hb5 HCo4 HL
  have X1 := HX.out.keep B5.out
  try clear X1l
  try clear X1a
  try clear X1b
  try clear X1c
  try clear X1fa
  try clear X1fb
  try clear X1fc
  obtain ⟨X1l, X1a, X1b, X1c, -, -, -⟩ := X1.facts3
  have HS := Lib.hid (fun d (hd : wfI d) W (hW : Below W2.heap.size W2 W) => wStart_spec _ sqP d W (HP2.out.mono hW) sq_valid.short.long hd)
  have h5 := Lib.hid (HS.out (-5) (wfI_of (by omega) (by omega)))
  rw [sq_start] at h5
  go_wp2_with fail
  refine (h5.out _ B5.out).mono ?_
  rintro e w6 ⟨rfl, hb6⟩
  have B6 := Lib.hid (bT B5.out hb6)
  clear hb6 h5 HS X1 X1l X1a X1b X1c B5
  have X1 := HX.out.keep B6.out
  try clear X1l
  try clear X1a
  try clear X1b
  try clear X1c
  try clear X1fa
  try clear X1fb
  try clear X1fc
  obtain ⟨X1l, X1a, X1b, X1c, -, -, -⟩ := X1.facts3
  have h5 := Lib.hid (wNext_spec _ sqP 2 _ (HP2.out.mono B6.out) sq_valid (wfI_of (by omega) (by omega)))
  rw [sq_next] at h5
  go_wp2_with fail
  refine h5.out.mono ?_
  rintro e w7 ⟨rfl, hb7⟩
  have B7 := Lib.hid (bT B6.out hb7)
  clear hb7 h5 X1 X1l X1a X1b X1c B6
  have X1 := HX.out.keep B7.out
  try clear X1l
  try clear X1a
  try clear X1b
  try clear X1c
  try clear X1fa
  try clear X1fb
  try clear X1fc
  obtain ⟨X1l, X1a, X1b, X1c, -, -, -⟩ := X1.facts3
  have h5 := Lib.hid (Around_spec _ sqP 1 _ (HP2.out.mono B7.out) sq_valid)
  rw [sq_around] at h5
  go_wp2_with fail
  refine h5.out.mono ?_
  rintro e w8 ⟨A8, c8, rfl, hb8, ho8⟩
  rw [show ([1, 5, -4] : List Int).length = 3 from rfl] at ho8 ⊢
  have B8 := Lib.hid (bT B7.out hb8)
  have HO8 := Lib.hid ho8
  clear hb8 h5 X1 X1l X1a X1b X1c B7 ho8
  go_wp2_with fail
  have hT := Same15_spec (.slice A8 3 c8) (.slice (some ⟨w8.heap.size, 0, none⟩) 3 3) [1, 5, -4] [1, 5, -4] (w8.alloc (.cells #[.int .i64 1, .int .i64 5, .int .i64 (-4)] 3)) (Sl.mono (Own.sl HO8.out) (bA (bR w8) _)) (Sl.lit (n := 3) (Blk.made rfl _ _) rfl (le_maxLen (by omega)))
  rw [show sameI [1, 5, -4] [1, 5, -4] = true from rfl] at hT
  refine hT.mono ?_
  rintro e w9 ⟨rfl, hb9⟩
  have B9 := Lib.hid (bT B8.out (bT (bA (bR w8) _) hb9))
  clear hT hb9 HO8 B8
  have X1 := HX.out.keep B9.out
  try clear X1l
  try clear X1a
  try clear X1b
  try clear X1c
  try clear X1fa
  try clear X1fb
  try clear X1fc
  obtain ⟨X1l, X1a, X1b, X1c, -, -, -⟩ := X1.facts3
  go_wp2_with fail
  have hT := Twice15w_spec (.agg #[.slice (some ⟨g1, 0, none⟩) 4 4, .slice (some ⟨g2, 0, none⟩) 5 5, .slice none 0 0]) (.slice (some ⟨w9.heap.size, 0, none⟩) 3 3) sqP [-5, 1, 2] (w9.alloc (.cells #[.int .i64 (-5), .int .i64 1, .int .i64 2] 3)) (HP2.out.mono (bT B9.out (bA (bR w9) _))) (Sl.lit (n := 3) (Blk.made rfl _ _) rfl (le_maxLen (by omega))) sq_valid (fun d hd => by
    simp only [List.mem_cons, List.not_mem_nil, or_false] at hd
    rcases hd with rfl | rfl | rfl <;> exact wfI_of (by omega) (by omega))
  rw [sq_twice] at hT
  refine hT.mono ?_
  rintro e w10 ⟨rfl, hb10⟩
  have B10 := Lib.hid (bT B9.out (bT (bA (bR w9) _) hb10))
  clear hT hb10 B9 X1 X1l X1a X1b X1c
  go_wp2_with fail
  have hT := wSide_spec (.agg #[.slice none 0 0, .slice (some ⟨w10.heap.size, 0, none⟩) 1 1, .slice none 0 0]) sdP (-1) (w10.alloc (.cells #[.int .i64 1, .int .i64 0, .int .i64 0, .slice none 0 0, .int .i64 7, .int .i64 8] 47)) (PlV.blks (al := [(⟨1, 0, 0, [], 7, 8⟩, .slice none 0 0)]) rfl (Sl.nil _) (Sl.lit (n := 1) (Blk.made rfl _ _) rfl (le_maxLen (by omega))) (vias_nil (fun x hx => by rw [List.mem_singleton] at hx; subst hx; exact ⟨rfl, rfl⟩)) (Sl.nil _)) (fun a ha => by
    simp only [sdP, List.mem_singleton] at ha; subst ha; simp) (wfI_of (by omega) (by omega))
  rw [sd_side] at hT
  refine hT.mono ?_
  rintro e w11 ⟨rfl, hb11⟩
  have B11 := Lib.hid (bT B2.out (bT B10.out (bT (bA (bR w10) _) hb11)))
  clear hT hb11 B10
  go_wp2_with fail
  go_ret
  exact ⟨rfl, B11.out⟩
end Go.Proofs.YtoclnkfeblfpbaaGreat
