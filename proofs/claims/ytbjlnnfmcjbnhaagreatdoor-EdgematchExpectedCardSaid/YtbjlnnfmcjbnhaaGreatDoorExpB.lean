/- mapsheetsref42.Expected. -/
import Derived.Test.YtbjlnnfmcjbnhaaGreatDoorExpA
import Derived.Test.YtbjlnnfmcjbnhaaGreatDoorJ20
set_option linter.unusedSimpArgs false
set_option linter.unusedVariables false
namespace Go.Proofs.YtbjlnnfmcjbnhaaGreatDoor
open Go.RowKit

set_option maxRecDepth 100000 in
set_option maxHeartbeats 8000000 in
theorem rExpected_spec (v : Value) (p : Pl) (s : Se) (n side : Int) (w : World) (h : PlV w v p) (hsm : p.nodes.length ≤ 1000 ∧ p.arcs.length ≤ 1000 ∧ (p.arcs.flatMap (·.via)).length ≤ 100000) :
    Calls Tryz.prog 17 #[v, seV s, .int .i64 n, .int .i64 side] w (RetCrsE w (expectedS p s n side)) := by
  have HP := Lib.hid h
  have HSm := Lib.hid hsm
  obtain ⟨vn, _, vf, al, rfl, hpa, hN, ⟨⟨Aa, ca, rfl, ha1, ha2, hRa⟩, hV⟩, -⟩ := h
  unfold maxLen at ha2
  have hNN := hN
  obtain ⟨An, cn, rfl, -⟩ := hN
  have HRa := Lib.hid hRa; have HV := Lib.hid hV; have HPa := Lib.hid hpa
  have HNd : Hid (∀ W, Below w.heap.size w W → Nds W (.slice An p.nodes.length cn) p.nodes) := Lib.hid fun W hW => hNN.mono hW
  clear hRa hV hpa hsm hNN
  have TB := fun w => rBox_spec s n w
  unfold seV boxV bxV at TB
  unfold seV
  have HBx := Lib.hid TB
  clear TB
  obtain ⟨r, hr⟩ : ∃ r, expectedS p s n side = r := ⟨_, rfl⟩
  rw [hr]
  have Hr := Lib.hid hr
  clear hr
  go_enter Tryz.func17, Tryz.ntmps17
  go_wp2_with fail
  refine (RCheck_spec _ p _ (HP.out.mono (bA (bA (bR w) _) _))).mono ?_
  rintro e w1 ⟨rfl, hb1⟩
  have HX4 : Hid (Blk w1 w.heap.size 40 #[.slice An p.nodes.length cn, .slice Aa al.length ca, vf]) := Lib.hid (((Blk.made rfl _ _).alloc _).keep hb1)
  have HX5 : Hid (Blk w1 (w.heap.size + 1) 44 #[.int .i64 s.at_.x, .int .i64 s.at_.y, .int .i64 s.width, .int .i64 s.height, .int .i64 s.cols, .int .i64 s.rows]) := Lib.hid ((Blk.made (by simp) _ _).keep hb1)
  have HB1 := Lib.hid (bT (bA (bA (bR w) _) _) hb1)
  clear hb1
  by_cases hck : checkS p = 0
  case neg =>
    have hf := exp_err (s := s) (n := n) (side := side) hck
    rw [Hr.out] at hf
    have hq : (checkS p != 0) = true := by simp [hck]
    have HF := Lib.hid hf
    clear hf hck
    generalize checkS p = q at *
    go_wp2_with fail
    go_ret2
    have h := HF.out
    subst h
    exact ⟨none, 0, rfl, HB1.out, Sl.nil _⟩
  have Hck := Lib.hid hck
  rw [hck]
  clear hck
  have X5 := HX5.out
  try clear X5l
  try clear X5a
  try clear X5b
  try clear X5c
  try clear X5d
  try clear X5e
  try clear X5f
  try clear X5fa
  try clear X5fb
  try clear X5fc
  try clear X5fd
  try clear X5fe
  try clear X5ff
  obtain ⟨X5l, X5a, X5b, X5c, X5d, X5e, X5f, -, -, -, -, -, -⟩ := X5.facts6
  go_wp2_with fail
  refine (HBx.out _).mono ?_
  rintro e w2 ⟨rfl, hb2⟩
  replace HX4 := Lib.hid (HX4.out.keep hb2)
  have HB2 := Lib.hid (bT HB1.out hb2)
  clear hb2 X5 X5l X5a X5b X5c X5d X5e X5f
  by_cases hfe : findE s n = 0
  case neg =>
    have hf := exp_find (side := side) Hck.out hfe
    rw [Hr.out] at hf
    have hbr : boxRes s n = (bx0, findE s n) := by unfold boxRes; rw [if_neg hfe]
    rw [hbr]
    have hq : (findE s n != 0) = true := by simp [hfe]
    have HF := Lib.hid hf
    clear hf hfe hbr
    generalize findE s n = q at *
    unfold bx0
    go_wp2_with fail
    go_ret2
    have h := HF.out
    subst h
    exact ⟨none, 0, rfl, bA HB2.out _, Sl.nil _⟩
  have hbr : boxRes s n = (boxOf s n, 0) := by unfold boxRes; rw [if_pos hfe]
  rw [hbr]
  have Hfe := Lib.hid hfe
  clear hfe hbr HBx HX5
  have TE := sided_spec (boxOf s n) side
  unfold bxV redRes redV at TE
  have HE := Lib.hid TE
  clear TE
  go_wp2_with fail
  refine (HE.out _).mono ?_
  rintro e w3 ⟨rfl, hb3⟩
  replace HX4 := Lib.hid ((HX4.out.alloc _).keep hb3)
  have HB3 := Lib.hid (bT (bA HB2.out _) hb3)
  clear hb3
  cases hoe : edOf (boxOf s n) side
  case none =>
    have hf := exp_none Hck.out Hfe.out hoe
    rw [Hr.out] at hf
    have HF := Lib.hid hf
    clear hf hoe
    simp only [Option.isSome_none, Option.getD_none]
    go_wp2_with fail
    go_ret2
    have h := HF.out
    subst h
    exact ⟨none, 0, rfl, bA HB3.out _, Sl.nil _⟩
  rename_i g
  have hf := exp_some Hck.out Hfe.out hoe
  rw [Hr.out] at hf
  replace Hr := Lib.hid hf
  clear hf hoe HE
  simp only [Option.isSome_some, Option.getD_some]
  obtain ⟨W4, hW4⟩ : ∃ W4 : World, W4 = w3.alloc (.cells #[.bool g.upright, .int .i64 g.line, .int .i64 g.lo, .int .i64 g.hi, .bool (posS g)] 76) := ⟨_, rfl⟩
  have HX11 : Hid (Blk W4 w3.heap.size 76 #[.bool g.upright, .int .i64 g.line, .int .i64 g.lo, .int .i64 g.hi, .bool (posS g)]) := Lib.hid (by rw [hW4]; exact Blk.made rfl _ _)
  replace HX4 : Hid (Blk W4 w.heap.size 40 #[.slice An p.nodes.length cn, .slice Aa al.length ca, vf]) := Lib.hid (by rw [hW4]; exact HX4.out.alloc _)
  have HB4 : Hid (Below w.heap.size w W4) := Lib.hid (by rw [hW4]; exact bA HB3.out _)
  go_upto_region 10 with fail
  rw [← hW4]
  obtain ⟨g11, hg11⟩ : ∃ g11, g11 = w3.heap.size := ⟨_, rfl⟩
  rw [← hg11] at HX11 ⊢
  clear hW4 hg11
  obtain ⟨wS, rfl⟩ : ∃ wS : World, wS = W4 := ⟨_, rfl⟩
  have HB5 := HB4
  clear HB1 HB2 HB3 HB4
  go_wp2_with fail
  go_loopw [15, 16] (fun l i wr => ∃ k : Nat, k ≤ al.length ∧ i = .int .i64 k ∧ Below wS.heap.size wS wr ∧ Crs wr l (sortCr ((p.arcs.take k).flatMap fun a => (expAt g p.nodes a.id (pathS p a) (pathS p a).length).2))) (fun _ i _ => al.length - (intOf i).toNat)
  case atStart => exact ⟨0, Nat.zero_le _, rfl, bR wS, Sl.nil _⟩
  case round =>
    obtain ⟨k, hk, rfl, hb, hs⟩ := hrel
    have Hb := Lib.hid hb
    obtain ⟨As, cs, rfl⟩ := hs.form
    have Hs := Lib.hid hs
    clear hb hs
    have hll := exp_len g p k (by rw [HPa.out, List.length_map]; exact hk)
    have hvl := flat_take_le p.arcs (·.via) k
    have hsz := HSm.out.2.2
    have X4 := HX4.out.keep Hb.out
    try clear X4l
    try clear X4a
    try clear X4b
    try clear X4c
    try clear X4fa
    try clear X4fb
    try clear X4fc
    obtain ⟨X4l, X4a, X4b, X4c, -, -, -⟩ := X4.facts3
    by_cases hlt : k < al.length
    case neg =>
      have hall : p.arcs.take k = p.arcs := List.take_of_length_le (by rw [HPa.out, List.length_map]; omega)
      have ho := Hs.out
      rw [hall] at ho ⊢
      replace Hs := Lib.hid ho
      have hr := Hr.out
      have HR' : Hid (r = (sortCr (p.arcs.flatMap fun a => (expAt g p.nodes a.id (pathS p a) (pathS p a).length).2), 0)) := Lib.hid hr
      clear hall ho hll hvl hsz hr
      generalize sortCr (p.arcs.flatMap fun a => (expAt g p.nodes a.id (pathS p a) (pathS p a).length).2) = L at *
      go_wp2_with fail
      go_ret2
      have hr := HR'.out
      subst hr
      exact ⟨As, cs, rfl, bT HB5.out Hb.out, Hs.out⟩
    obtain ⟨bb, oo, rfl, hlb0, cw, -⟩ := HRa.out.ar hlt
    have hkp : k < p.arcs.length := by rw [HPa.out, List.length_map]; exact hlt
    have hpk : p.arcs[k] = al[k].1 := by simp [HPa.out]
    have hmem : al[k].1 ∈ p.arcs := by rw [← hpk]; exact List.getElem_mem hkp
    have hst : sortCr ((p.arcs.take (k + 1)).flatMap fun a => (expAt g p.nodes a.id (pathS p a) (pathS p a).length).2) = (expAt g p.nodes al[k].1.id (pathS p al[k].1) (pathS p al[k].1).length).2.foldl insCr (sortCr ((p.arcs.take k).flatMap fun a => (expAt g p.nodes a.id (pathS p a) (pathS p a).length).2)) := by
      rw [List.take_succ_eq_append_getElem hkp, List.flatMap_append, hpk]
      simp [sortCr, List.foldl_append]
    have hvia := via_le' hsz al[k].1 hmem
    have hls : (sortCr ((p.arcs.take k).flatMap fun a => (expAt g p.nodes a.id (pathS p a) (pathS p a).length).2)).length ≤ 102000 := by
      rw [sortCr_len]
      have h3 := HSm.out.2.1
      omega
    generalize sortCr ((p.arcs.take k).flatMap fun a => (expAt g p.nodes a.id (pathS p a) (pathS p a).length).2) = L at *
    have HSt := Lib.hid hst
    have HMem := Lib.hid hmem
    clear hst hmem hpk hkp hll hvl
    generalize al[k].1 = a at *
    have HCw := Lib.hid cw
    have HVd := Lib.hid (show Valid p from (check_zero p).1 Hck.out)
    have hsh : Short p := fun a ha => by have := via_le' hsz a ha; omega
    have TP : ∀ W, Below w.heap.size w W → Calls Tryz.prog 43 #[.agg #[.slice An p.nodes.length cn, .slice (some ⟨bb, oo, none⟩) al.length ca, vf], .int .i64 a.id] W (RetPathE W (some (pathS p a))) := fun W hW => by
      have := RPath_spec _ p a.id W (HP.out.mono hW) hsh
      rw [HVd.out.sound.path HMem.out] at this
      exact this
    have HPt := Lib.hid TP
    have HLb0 := Lib.hid hlb0
    clear TP hsh cw
    obtain ⟨wI0, rfl⟩ : ∃ wI0 : World, wI0 = wr := ⟨_, rfl⟩
    have hlb : bb < wI0.heap.size := Nat.lt_of_lt_of_le hlb0 (bT HB5.out Hb.out).size
    have c0 : wI0.cell? ⟨bb, oo + k * 6, none⟩ = some (.int .i64 a.id) := ((bcell (bT HB5.out Hb.out)).1 bb _ hlb0).trans HCw.out
    have q1 : 0 ≤ (k : Int) := by omega
    have q2 : (k : Int) < al.length := by omega
    clear hlb0
    go_upto_region 14 with fail
    refine rg_start (Since wI0) (.take 0 1 (.take 1 3 (.take 2 7 (.take 3 15 (.take 4 31 (.take 5 63 (.take 6 127 (.call 7 255 (.take 8 511 (.take 9 1023 (.take 10 2047 (.take 11 4095 (.take 12 8191 (.done)))))))))))))) (by kernel_rfl) (bD (bR _)) (by kernel_rfl) (by kernel_rfl) (Nat.le_of_ble_eq_true (by kernel_rfl)) ?_
    intro opsR QR Hops HQrg hS
    apply rg_yp (i := 0) Hops rfl hS rfl
    · intro wq hq; obtain ⟨hqc, -⟩ := bcell (show Below wI0.heap.size wI0 wq from hq); clear hq; go_simp; try rfl
    try simp only [Act.put, pu1, pu2, pu3]
    apply rg_yp (i := 1) Hops rfl hS rfl
    · intro _ hq; clear hq; go_simp; try rfl
    try simp only [Act.put, pu1, pu2, pu3]
    apply rg_yp (i := 2) Hops rfl hS rfl
    · intro wq hq; obtain ⟨hqc, -⟩ := bcell (show Below wI0.heap.size wI0 wq from hq); clear hq; go_simp; try rfl
    try simp only [Act.put, pu1, pu2, pu3]
    apply rg_yp (i := 3) Hops rfl hS rfl
    · intro _ hq; clear hq; go_simp; try rfl
    try simp only [Act.put, pu1, pu2, pu3]
    apply rg_yp (i := 4) Hops rfl hS rfl
    · intro _ hq; clear hq; go_simp; try rfl
    try simp only [Act.put, pu1, pu2, pu3]
    apply rg_yp (i := 5) Hops rfl hS rfl
    · intro _ hq; clear hq; go_simp; try rfl
    try simp only [Act.put, pu1, pu2, pu3]
    apply rg_yp (i := 6) Hops rfl hS rfl
    · intro wq hq; obtain ⟨hqc, -⟩ := bcell (show Below wI0.heap.size wI0 wq from hq); clear hq; go_simp; try rfl
    try simp only [Act.put, pu1, pu2, pu3]
    refine rg_call (i := 7) (get_of Hops rfl) (fun K hK => ?_)
    have HSrg := Lib.hid hS; clear hS
    refine rg_run (wanted_plain rfl) ?_
    go_simp
    refine (HPt.out _ (bT (bT HB5.out Hb.out) HSrg.out)).mono ?_
    rintro e wr1 ⟨A1, c1, rfl, hbr1, hop⟩
    have hS : Since wI0 wr1 := bT (w := wI0) HSrg.out hbr1
    clear HSrg
    refine hK.out _ _ hS (fun _ => ?_)
    clear hK K
    try simp only [Act.put, pu1, pu2, pu3]
    apply rg_yp (i := 8) Hops rfl hS rfl
    · intro _ hq; clear hq; go_simp; try rfl
    try simp only [Act.put, pu1, pu2, pu3]
    apply rg_yp (i := 9) Hops rfl hS rfl
    · intro _ hq; clear hq; go_simp; try rfl
    try simp only [Act.put, pu1, pu2, pu3]
    apply rg_yp (i := 10) Hops rfl hS rfl
    · intro _ hq; clear hq; go_simp; try rfl
    try simp only [Act.put, pu1, pu2, pu3]
    apply rg_yp (i := 11) Hops rfl hS rfl
    · intro _ hq; clear hq; go_simp; try rfl
    try simp only [Act.put, pu1, pu2, pu3]
    apply rg_yp (i := 12) Hops rfl hS rfl
    · intro _ hq; clear hq; go_simp; try rfl
    try simp only [Act.put, pu1, pu2, pu3]
    refine rg_done ?_
    refine HQrg.down _ _ ?_
    have hB : Below wI0.heap.size wI0 wr1 := hS
    clear hS HQrg Hops
    simp only [Option.getD_some, Option.isSome_some, if_true]
    simp only [Option.getD_some] at hop
    obtain ⟨wP, rfl⟩ : ∃ wP : World, wP = wr1 := ⟨_, rfl⟩
    have HBP := Lib.hid (bT Hb.out hB)
    have HPth := Lib.hid (show Pts wP (.slice A1 (pathS p a).length c1) (pathS p a) from Own.sl hop)
    have HsP := Lib.hid (Hs.out.mono hB)
    have hN : (pathS p a).length ≤ 100002 := by rw [pathS_length]; omega
    have hpc : (pathS p a).length ≤ c1 ∧ c1 ≤ maxLen := by
      obtain ⟨A', c', he, h1, h2, -⟩ := Own.sl hop
      injection he with _ _ he
      subst he
      exact ⟨h1, h2⟩
    unfold maxLen at hpc
    have HBd : Hid (∀ q ∈ pathS p a, bdP q) := Lib.hid fun q hq => HVd.out.bdP_path HMem.out hq
    have hn2 : 2 ≤ (pathS p a).length := by rw [pathS_length]; omega
    clear hB hop hbr1 X4 X4l X4a X4b X4c c0 hlb
    generalize hpt : pathS p a = path at *
    have HPtE := Lib.hid hpt
    clear hpt
    have hE := expAt_bd g p.nodes a.id path
    have HEx := Lib.hid hE
    clear hE
    go_wp2_with fail
    go_loopw [15, 19, 20] (fun l m i wr => ∃ j : Nat, j ≤ path.length ∧ i = .int .i64 j ∧ m = .int .i64 (expAt g p.nodes a.id path j).1 ∧ Below wS.heap.size wS wr ∧ Crs wr l ((expAt g p.nodes a.id path j).2.foldl insCr L) ∧ Pts wr (.slice A1 path.length c1) path) (fun _ _ i _ => path.length - (intOf i).toNat)
    case atStart => exact ⟨0, Nat.zero_le _, rfl, rfl, HBP.out, by simpa [expAt] using HsP.out, HPth.out⟩
    case round =>
      obtain ⟨j, hj, rfl, rfl, hb2, hs2, hp2⟩ := hrel
      have Hb2 := Lib.hid hb2
      obtain ⟨A2, c2, rfl⟩ := hs2.form
      have Hs2 := Lib.hid hs2
      have Hp2 := Lib.hid hp2
      clear hb2 hs2 hp2
      by_cases hlj : j < path.length
      case neg =>
        have hjj : j = path.length := by omega
        subst hjj
        have HF := Lib.hid (show Crs wr (.slice A2 ((expAt g p.nodes a.id path path.length).2.foldl insCr L).length c2) (sortCr ((p.arcs.take (k + 1)).flatMap fun a => (expAt g p.nodes a.id (pathS p a) (pathS p a).length).2)) by rw [HSt.out]; exact Hs2.out)
        go_wp2_with fail
        go_roundw
        case rel => exact ⟨k + 1, by omega, by go_num, Hb2.out, HF.out⟩
        case measure => simp [intOf]; omega
      have hgq : path.getD j pt0 = path[j] := by simp [List.getD, List.getElem?_eq_getElem hlj]
      obtain ⟨e1, e2, e3, e4⟩ := HEx.out j
      obtain ⟨b', o', hA, hlb', d0, d1⟩ := hrow_pt Hp2.out hlj
      have TO := ron_spec g path[j]
      have TI := rinner_spec g path[j]
      unfold redV ptV at TO TI
      have HI2 := Lib.hid TI
      clear TI
      have X13 := HX11.out.keep Hb2.out
      obtain ⟨wI, rfl⟩ : ∃ wI : World, wI = wr := ⟨_, rfl⟩
      subst hA
      have hq1 : 0 ≤ (j : Int) := by omega
      have hq2 : (j : Int) < path.length := by omega
      try clear X13l
      try clear X13a
      try clear X13b
      try clear X13c
      try clear X13d
      try clear X13e
      try clear X13fa
      try clear X13fb
      try clear X13fc
      try clear X13fd
      try clear X13fe
      obtain ⟨X13l, X13a, X13b, X13c, X13d, X13e, -, -, -, -, -⟩ := X13.facts5
      cases hon : onE g path[j]
      case true =>
        rw [hon] at TO
        have HO := Lib.hid TO
        have hst := expAt_on (g := g) (ns := p.nodes) (id := a.id) (path := path) (k := j) (by rw [hgq]; exact hon)
        have HSt2 := Lib.hid hst
        clear TO hon hst hgq
        go_upto_region 19 with fail
        refine rg_start (Since wI) (.take 0 1 (.take 1 3 (.take 2 7 (.take 3 15 (.take 4 31 (.call 5 63 (.done))))))) (by kernel_rfl) (bD (bR _)) (by kernel_rfl) (by kernel_rfl) (Nat.le_of_ble_eq_true (by kernel_rfl)) ?_
        intro opsR QR Hops HQrg hS
        apply rg_yp (i := 0) Hops rfl hS rfl
        · intro wq hq; obtain ⟨hqc, -⟩ := bcell (show Below wI.heap.size wI wq from hq); clear hq; go_simp; try rfl
        try simp only [Act.put, pu1, pu2, pu3]
        apply rg_yp (i := 1) Hops rfl hS rfl
        · intro _ hq; clear hq; go_simp; try rfl
        try simp only [Act.put, pu1, pu2, pu3]
        apply rg_yp (i := 2) Hops rfl hS rfl
        · intro _ hq; clear hq; go_simp; try rfl
        try simp only [Act.put, pu1, pu2, pu3]
        apply rg_yp (i := 3) Hops rfl hS rfl
        · intro _ hq; clear hq; go_simp; try rfl
        try simp only [Act.put, pu1, pu2, pu3]
        apply rg_yp (i := 4) Hops rfl hS rfl
        · intro wq hq; obtain ⟨hqc, -⟩ := bcell (show Below wI.heap.size wI wq from hq); clear hq; go_simp; try rfl
        try simp only [Act.put, pu1, pu2, pu3]
        refine rg_call (i := 5) (get_of Hops rfl) (fun K hK => ?_)
        have HSrg := Lib.hid hS; clear hS
        refine rg_run (wanted_plain rfl) ?_
        go_simp
        refine (HO.out _).mono ?_
        rintro e wr1 ⟨rfl, hbr1⟩
        have hS : Since wI wr1 := bT (w := wI) HSrg.out hbr1
        clear HSrg
        refine hK.out _ _ hS (fun _ => ?_)
        clear hK K
        try simp only [Act.put, pu1, pu2, pu3]
        refine rg_done ?_
        refine HQrg.down _ _ ?_
        have hB : Below wI.heap.size wI wr1 := hS
        clear hS HQrg Hops
        have hAX := Lib.hid hB
        clear hB
        go_wp2_with fail
        go_roundw
        case rel => exact ⟨j + 1, by omega, by go_num, by rw [HSt2.out], bT Hb2.out hAX.out, by rw [HSt2.out]; exact Hs2.out.mono hAX.out, Hp2.out.mono hAX.out⟩
        case measure => simp [intOf]; omega
      case false =>
      rw [hon] at TO
      have HO := Lib.hid TO
      have hgj : onE g (path.getD j pt0) = false := by rw [hgq]; exact hon
      have Hgj := Lib.hid hgj; have Hgq := Lib.hid hgq; have Hon := Lib.hid hon
      clear TO hon hgj hgq
      go_upto_region 19 with fail
      refine rg_start (Since wI) (.take 0 1 (.take 1 3 (.take 2 7 (.take 3 15 (.take 4 31 (.call 5 63 (.done))))))) (by kernel_rfl) (bD (bR _)) (by kernel_rfl) (by kernel_rfl) (Nat.le_of_ble_eq_true (by kernel_rfl)) ?_
      intro opsR QR Hops HQrg hS
      apply rg_yp (i := 0) Hops rfl hS rfl
      · intro wq hq; obtain ⟨hqc, -⟩ := bcell (show Below wI.heap.size wI wq from hq); clear hq; go_simp; try rfl
      try simp only [Act.put, pu1, pu2, pu3]
      apply rg_yp (i := 1) Hops rfl hS rfl
      · intro _ hq; clear hq; go_simp; try rfl
      try simp only [Act.put, pu1, pu2, pu3]
      apply rg_yp (i := 2) Hops rfl hS rfl
      · intro _ hq; clear hq; go_simp; try rfl
      try simp only [Act.put, pu1, pu2, pu3]
      apply rg_yp (i := 3) Hops rfl hS rfl
      · intro _ hq; clear hq; go_simp; try rfl
      try simp only [Act.put, pu1, pu2, pu3]
      apply rg_yp (i := 4) Hops rfl hS rfl
      · intro wq hq; obtain ⟨hqc, -⟩ := bcell (show Below wI.heap.size wI wq from hq); clear hq; go_simp; try rfl
      try simp only [Act.put, pu1, pu2, pu3]
      refine rg_call (i := 5) (get_of Hops rfl) (fun K hK => ?_)
      have HSrg := Lib.hid hS; clear hS
      refine rg_run (wanted_plain rfl) ?_
      go_simp
      refine (HO.out _).mono ?_
      rintro e wr1 ⟨rfl, hbr1⟩
      have hS : Since wI wr1 := bT (w := wI) HSrg.out hbr1
      clear HSrg
      refine hK.out _ _ hS (fun _ => ?_)
      clear hK K
      try simp only [Act.put, pu1, pu2, pu3]
      refine rg_done ?_
      refine HQrg.down _ _ ?_
      have hB : Below wI.heap.size wI wr1 := hS
      clear hS HQrg Hops
      obtain ⟨wO, hwO⟩ : ∃ wO : World, wO = wr1 := ⟨_, rfl⟩
      rw [← hwO] at hB ⊢
      clear hwO
      have hAO := Lib.hid hB
      clear hB X13 X13l X13a X13b X13c X13d X13e d0 d1
      generalize hm0 : (expAt g p.nodes a.id path j).1 = m0 at *
      generalize hL2 : (expAt g p.nodes a.id path j).2 = L2 at *
      have he : expAt g p.nodes a.id path j = (m0, L2) := Prod.ext hm0 hL2
      have He := Lib.hid he
      clear hm0 hL2 he
      by_cases hm1 : m0 = -1
      case pos =>
        subst hm1
        have hst := expAt_no Hgj.out He.out
        have HSt2 := Lib.hid hst
        clear hst
        go_upto_region 20 with fail
        refine rg_start (Since wO) (.take 0 1 (.take 1 3 (.take 2 7 (.take 3 15 (.take 4 31 (.take 5 63 (.take 6 127 (.take 7 255 (.take 8 511 (.take 9 1023 (.take 10 2047 (.take 11 4095 (.take 12 8191 (.take 13 16383 (.take 14 32767 (.take 15 65535 (.take 16 131071 (.done)))))))))))))))))) (by kernel_rfl) (bD (bR _)) (by kernel_rfl) (by kernel_rfl) (Nat.le_of_ble_eq_true (by kernel_rfl)) ?_
        intro opsR QR Hops HQrg hS
        apply rg_yp (i := 0) Hops rfl hS rfl
        · intro _ hq; clear hq; go_simp; try rfl
        try simp only [Act.put, pu1, pu2, pu3]
        apply rg_yp (i := 1) Hops rfl hS rfl
        · intro _ hq; clear hq; go_simp; try rfl
        try simp only [Act.put, pu1, pu2, pu3]
        apply rg_yp (i := 2) Hops rfl hS rfl
        · intro _ hq; clear hq; go_simp; try rfl
        try simp only [Act.put, pu1, pu2, pu3]
        refine rg_yn (i := 3) Hops rfl hS rfl rfl rfl rfl rfl ?_
        try simp only [Act.put, pu1, pu2, pu3]
        refine rg_yn (i := 4) Hops rfl hS rfl rfl rfl rfl rfl ?_
        try simp only [Act.put, pu1, pu2, pu3]
        refine rg_yn (i := 5) Hops rfl hS rfl rfl rfl rfl rfl ?_
        try simp only [Act.put, pu1, pu2, pu3]
        refine rg_yn (i := 6) Hops rfl hS rfl rfl rfl rfl rfl ?_
        try simp only [Act.put, pu1, pu2, pu3]
        refine rg_yn (i := 7) Hops rfl hS rfl rfl rfl rfl rfl ?_
        try simp only [Act.put, pu1, pu2, pu3]
        refine rg_yn (i := 8) Hops rfl hS rfl rfl rfl rfl rfl ?_
        try simp only [Act.put, pu1, pu2, pu3]
        refine rg_yn (i := 9) Hops rfl hS rfl rfl rfl rfl rfl ?_
        try simp only [Act.put, pu1, pu2, pu3]
        refine rg_yn (i := 10) Hops rfl hS rfl rfl rfl rfl rfl ?_
        try simp only [Act.put, pu1, pu2, pu3]
        refine rg_yn (i := 11) Hops rfl hS rfl rfl rfl rfl rfl ?_
        try simp only [Act.put, pu1, pu2, pu3]
        refine rg_yn (i := 12) Hops rfl hS rfl rfl rfl rfl rfl ?_
        try simp only [Act.put, pu1, pu2, pu3]
        refine rg_yn (i := 13) Hops rfl hS rfl rfl rfl rfl rfl ?_
        try simp only [Act.put, pu1, pu2, pu3]
        refine rg_yn (i := 14) Hops rfl hS rfl rfl rfl rfl rfl ?_
        try simp only [Act.put, pu1, pu2, pu3]
        refine rg_yn (i := 15) Hops rfl hS rfl rfl rfl rfl rfl ?_
        try simp only [Act.put, pu1, pu2, pu3]
        apply rg_yp (i := 16) Hops rfl hS rfl
        · intro _ hq; clear hq; go_simp; try rfl
        try simp only [Act.put, pu1, pu2, pu3]
        refine rg_done ?_
        refine HQrg.down _ _ ?_
        have hB : Below wO.heap.size wO wO.drew := hS
        clear hS HQrg Hops
        have hAX := Lib.hid (bT hAO.out hB)
        clear hB
        go_wp2_with fail
        go_roundw
        case rel => exact ⟨j + 1, by omega, by go_num, by rw [HSt2.out], bT Hb2.out hAX.out, by rw [HSt2.out]; exact Hs2.out.mono hAX.out, Hp2.out.mono hAX.out⟩
        case measure => simp [intOf]; omega
      case neg =>
      obtain ⟨m, rfl⟩ : ∃ m : Nat, m0 = (m : Int) := ⟨m0.toNat, by omega⟩
      have hmj : m < j := by omega
      have hml : m < path.length := by omega
      have hgm : path.getD m pt0 = path[m] := by simp [List.getD, List.getElem?_eq_getElem hml]
      have hom : onE g path[m] = false := by
        have := e3 (by omega)
        rw [Int.toNat_natCast, hgm] at this
        exact this
      have Hom := Lib.hid hom; have Hgm := Lib.hid hgm
      have TI := rinner_spec g path[m]
      unfold redV ptV at TI
      have HI1 := Lib.hid TI
      clear TI hom hgm e1 e2 e3 hm1
      obtain ⟨b'', o'', hA, hlb2, d0, d1⟩ := hrow_pt (Hp2.out.mono hAO.out) hml
      obtain ⟨b3, o3, hA3, hlb3, d2, d3⟩ := hrow_pt (Hp2.out.mono hAO.out) hlj
      simp only [Option.some.injEq, Addr.mk.injEq, and_true] at hA hA3
      obtain ⟨rfl, rfl⟩ := hA
      obtain ⟨rfl, rfl⟩ := hA3
      have X13 := HX11.out.keep (bT Hb2.out hAO.out)
      have q3 : 0 ≤ (m : Int) := by omega
      have q4 : (m : Int) < path.length := by omega
      try clear X13l
      try clear X13a
      try clear X13b
      try clear X13c
      try clear X13d
      try clear X13e
      try clear X13fa
      try clear X13fb
      try clear X13fc
      try clear X13fd
      try clear X13fe
      obtain ⟨X13l, X13a, X13b, X13c, X13d, X13e, -, -, -, -, -⟩ := X13.facts5
      obtain ⟨y1, hy1⟩ : ∃ y, innerS g path[m] = y := ⟨_, rfl⟩
      obtain ⟨y2, hy2⟩ : ∃ y, innerS g path[j] = y := ⟨_, rfl⟩
      have Hy1 := Lib.hid hy1; have Hy2 := Lib.hid hy2
      have HI1' := HI1.out; have HI2' := HI2.out
      rw [hy1] at HI1'
      rw [hy2] at HI2'
      replace HI1 := Lib.hid HI1'; replace HI2 := Lib.hid HI2'
      clear HI1' HI2' hy1 hy2
      by_cases hi : y1 = y2
      case pos =>
        have hyz2 : (y1 == y2) = true := by simp [hi]
        have hst := expAt_same Hgj.out He.out (by rw [Hgm.out, Hgq.out, Hy1.out, Hy2.out]; exact hi)
        have HSt2 := Lib.hid hst
        clear hst hi
        go_upto_region 20 with fail
        refine rg_start (Since wO) (.take 0 1 (.take 1 3 (.take 2 7 (.take 3 15 (.take 4 31 (.take 5 63 (.take 6 127 (.take 7 255 (.take 9 767 (.take 10 1791 (.take 11 3839 (.take 12 7935 (.take 13 16127 (.call 8 16383 (.call 14 32767 (.take 15 65535 (.take 16 131071 (.done)))))))))))))))))) (by kernel_rfl) (bD (bR _)) (by kernel_rfl) (by kernel_rfl) (Nat.le_of_ble_eq_true (by kernel_rfl)) ?_
        intro opsR QR Hops HQrg hS
        apply rg_yp (i := 0) Hops rfl hS rfl
        · intro _ hq; clear hq; go_simp; try rfl
        try simp only [Act.put, pu1, pu2, pu3]
        apply rg_yp (i := 1) Hops rfl hS rfl
        · intro _ hq; clear hq; go_simp; try rfl
        try simp only [Act.put, pu1, pu2, pu3]
        apply rg_yp (i := 2) Hops rfl hS rfl
        · intro _ hq; clear hq; go_simp; try rfl
        try simp only [Act.put, pu1, pu2, pu3]
        apply rg_yg (i := 3) Hops rfl hS rfl rfl rfl rfl
        · intro wq hq; obtain ⟨hqc, -⟩ := bcell (show Below wO.heap.size wO wq from hq); clear hq; go_simp; try rfl
        try simp only [Act.put, pu1, pu2, pu3]
        apply rg_yg (i := 4) Hops rfl hS rfl rfl rfl rfl
        · intro _ hq; clear hq; go_simp; try rfl
        try simp only [Act.put, pu1, pu2, pu3]
        apply rg_yg (i := 5) Hops rfl hS rfl rfl rfl rfl
        · intro _ hq; clear hq; go_simp; try rfl
        try simp only [Act.put, pu1, pu2, pu3]
        apply rg_yg (i := 6) Hops rfl hS rfl rfl rfl rfl
        · intro _ hq; clear hq; go_simp; try rfl
        try simp only [Act.put, pu1, pu2, pu3]
        apply rg_yg (i := 7) Hops rfl hS rfl rfl rfl rfl
        · intro wq hq; obtain ⟨hqc, -⟩ := bcell (show Below wO.heap.size wO wq from hq); clear hq; go_simp; try rfl
        try simp only [Act.put, pu1, pu2, pu3]
        apply rg_yg (i := 9) Hops rfl hS rfl rfl rfl rfl
        · intro wq hq; obtain ⟨hqc, -⟩ := bcell (show Below wO.heap.size wO wq from hq); clear hq; go_simp; try rfl
        try simp only [Act.put, pu1, pu2, pu3]
        apply rg_yg (i := 10) Hops rfl hS rfl rfl rfl rfl
        · intro _ hq; clear hq; go_simp; try rfl
        try simp only [Act.put, pu1, pu2, pu3]
        apply rg_yg (i := 11) Hops rfl hS rfl rfl rfl rfl
        · intro _ hq; clear hq; go_simp; try rfl
        try simp only [Act.put, pu1, pu2, pu3]
        apply rg_yg (i := 12) Hops rfl hS rfl rfl rfl rfl
        · intro _ hq; clear hq; go_simp; try rfl
        try simp only [Act.put, pu1, pu2, pu3]
        apply rg_yg (i := 13) Hops rfl hS rfl rfl rfl rfl
        · intro wq hq; obtain ⟨hqc, -⟩ := bcell (show Below wO.heap.size wO wq from hq); clear hq; go_simp; try rfl
        try simp only [Act.put, pu1, pu2, pu3]
        refine rg_call (i := 8) (get_of Hops rfl) (fun K hK => ?_)
        have HSrg := Lib.hid hS; clear hS
        refine rg_run (wanted_yes rfl (get_of Hops rfl) rfl rfl) ?_
        go_simp
        refine (HI1.out _).mono ?_
        rintro e wr1 ⟨rfl, hbr1⟩
        have hS : Since wO wr1 := bT (w := wO) HSrg.out hbr1
        clear HSrg
        refine hK.out _ _ hS (fun _ => ?_)
        clear hK K
        try simp only [Act.put, pu1, pu2, pu3]
        refine rg_call (i := 14) (get_of Hops rfl) (fun K hK => ?_)
        have HSrg := Lib.hid hS; clear hS
        refine rg_run (wanted_yes rfl (get_of Hops rfl) rfl rfl) ?_
        go_simp
        refine (HI2.out _).mono ?_
        rintro e wr2 ⟨rfl, hbr2⟩
        have hS : Since wO wr2 := bT (w := wO) HSrg.out hbr2
        clear HSrg
        refine hK.out _ _ hS (fun _ => ?_)
        clear hK K
        try simp only [Act.put, pu1, pu2, pu3]
        apply rg_yg (i := 15) Hops rfl hS rfl rfl rfl rfl
        · intro _ hq; clear hq; go_simp; try rfl
        try simp only [Act.put, pu1, pu2, pu3]
        apply rg_yp (i := 16) Hops rfl hS rfl
        · intro _ hq; clear hq; go_simp; try rfl
        try simp only [Act.put, pu1, pu2, pu3]
        refine rg_done ?_
        refine HQrg.down _ _ ?_
        have hB : Below wO.heap.size wO wr2 := hS
        clear hS HQrg Hops
        have hAX := Lib.hid (bT hAO.out hB)
        clear hB
        go_wp2_with fail
        go_roundw
        case rel => exact ⟨j + 1, by omega, by go_num, by rw [HSt2.out], bT Hb2.out hAX.out, by rw [HSt2.out]; exact Hs2.out.mono hAX.out, Hp2.out.mono hAX.out⟩
        case measure => simp [intOf]; omega
      case neg =>
      have hyz2 : (y1 == y2) = false := by simp [hi]
      have hst := expAt_cross Hgj.out He.out (by rw [Hgm.out, Hgq.out, Hy1.out, Hy2.out]; exact hi)
      have HSt2 := Lib.hid hst
      have Hinn := Lib.hid hi
      clear hst hi
      go_upto_region 20 with fail
      refine rg_start (Since wO) (.take 0 1 (.take 1 3 (.take 2 7 (.take 3 15 (.take 4 31 (.take 5 63 (.take 6 127 (.take 7 255 (.take 9 767 (.take 10 1791 (.take 11 3839 (.take 12 7935 (.take 13 16127 (.call 8 16383 (.call 14 32767 (.take 15 65535 (.take 16 131071 (.done)))))))))))))))))) (by kernel_rfl) (bD (bR _)) (by kernel_rfl) (by kernel_rfl) (Nat.le_of_ble_eq_true (by kernel_rfl)) ?_
      intro opsR QR Hops HQrg hS
      apply rg_yp (i := 0) Hops rfl hS rfl
      · intro _ hq; clear hq; go_simp; try rfl
      try simp only [Act.put, pu1, pu2, pu3]
      apply rg_yp (i := 1) Hops rfl hS rfl
      · intro _ hq; clear hq; go_simp; try rfl
      try simp only [Act.put, pu1, pu2, pu3]
      apply rg_yp (i := 2) Hops rfl hS rfl
      · intro _ hq; clear hq; go_simp; try rfl
      try simp only [Act.put, pu1, pu2, pu3]
      apply rg_yg (i := 3) Hops rfl hS rfl rfl rfl rfl
      · intro wq hq; obtain ⟨hqc, -⟩ := bcell (show Below wO.heap.size wO wq from hq); clear hq; go_simp; try rfl
      try simp only [Act.put, pu1, pu2, pu3]
      apply rg_yg (i := 4) Hops rfl hS rfl rfl rfl rfl
      · intro _ hq; clear hq; go_simp; try rfl
      try simp only [Act.put, pu1, pu2, pu3]
      apply rg_yg (i := 5) Hops rfl hS rfl rfl rfl rfl
      · intro _ hq; clear hq; go_simp; try rfl
      try simp only [Act.put, pu1, pu2, pu3]
      apply rg_yg (i := 6) Hops rfl hS rfl rfl rfl rfl
      · intro _ hq; clear hq; go_simp; try rfl
      try simp only [Act.put, pu1, pu2, pu3]
      apply rg_yg (i := 7) Hops rfl hS rfl rfl rfl rfl
      · intro wq hq; obtain ⟨hqc, -⟩ := bcell (show Below wO.heap.size wO wq from hq); clear hq; go_simp; try rfl
      try simp only [Act.put, pu1, pu2, pu3]
      apply rg_yg (i := 9) Hops rfl hS rfl rfl rfl rfl
      · intro wq hq; obtain ⟨hqc, -⟩ := bcell (show Below wO.heap.size wO wq from hq); clear hq; go_simp; try rfl
      try simp only [Act.put, pu1, pu2, pu3]
      apply rg_yg (i := 10) Hops rfl hS rfl rfl rfl rfl
      · intro _ hq; clear hq; go_simp; try rfl
      try simp only [Act.put, pu1, pu2, pu3]
      apply rg_yg (i := 11) Hops rfl hS rfl rfl rfl rfl
      · intro _ hq; clear hq; go_simp; try rfl
      try simp only [Act.put, pu1, pu2, pu3]
      apply rg_yg (i := 12) Hops rfl hS rfl rfl rfl rfl
      · intro _ hq; clear hq; go_simp; try rfl
      try simp only [Act.put, pu1, pu2, pu3]
      apply rg_yg (i := 13) Hops rfl hS rfl rfl rfl rfl
      · intro wq hq; obtain ⟨hqc, -⟩ := bcell (show Below wO.heap.size wO wq from hq); clear hq; go_simp; try rfl
      try simp only [Act.put, pu1, pu2, pu3]
      refine rg_call (i := 8) (get_of Hops rfl) (fun K hK => ?_)
      have HSrg := Lib.hid hS; clear hS
      refine rg_run (wanted_yes rfl (get_of Hops rfl) rfl rfl) ?_
      go_simp
      refine (HI1.out _).mono ?_
      rintro e wr1 ⟨rfl, hbr1⟩
      have hS : Since wO wr1 := bT (w := wO) HSrg.out hbr1
      clear HSrg
      refine hK.out _ _ hS (fun _ => ?_)
      clear hK K
      try simp only [Act.put, pu1, pu2, pu3]
      refine rg_call (i := 14) (get_of Hops rfl) (fun K hK => ?_)
      have HSrg := Lib.hid hS; clear hS
      refine rg_run (wanted_yes rfl (get_of Hops rfl) rfl rfl) ?_
      go_simp
      refine (HI2.out _).mono ?_
      rintro e wr2 ⟨rfl, hbr2⟩
      have hS : Since wO wr2 := bT (w := wO) HSrg.out hbr2
      clear HSrg
      refine hK.out _ _ hS (fun _ => ?_)
      clear hK K
      try simp only [Act.put, pu1, pu2, pu3]
      apply rg_yg (i := 15) Hops rfl hS rfl rfl rfl rfl
      · intro _ hq; clear hq; go_simp; try rfl
      try simp only [Act.put, pu1, pu2, pu3]
      apply rg_yp (i := 16) Hops rfl hS rfl
      · intro _ hq; clear hq; go_simp; try rfl
      try simp only [Act.put, pu1, pu2, pu3]
      refine rg_done ?_
      refine HQrg.down _ _ ?_
      have hB : Below wO.heap.size wO wr2 := hS
      clear hS HQrg Hops
      obtain ⟨wX, hwX⟩ : ∃ wX : World, wX = wr2 := ⟨_, rfl⟩
      rw [← hwX] at hB ⊢
      clear hwX
      have hAX := Lib.hid (bT hAO.out hB)
      clear hB X13 X13l X13a X13b X13c X13d X13e d0 d1 d2 d3 hyz2
      have hrun := run_both Tryz.underlying60 sizeOf_pt (some ⟨b', o', none⟩) path.length c1 (m + 1) j (by omega) (by omega) hpc.1 ((m : Int) + 1) (j : Int) (by omega) rfl
      have q6 : IntKind.i64.wrap ((m : Int) + 1) = (m : Int) + 1 := IntWalk.i64_in _ (by omega)
      obtain ⟨D, hD⟩ : ∃ D, j - (m + 1) = D := ⟨_, rfl⟩
      rw [hD] at hrun
      have HD := Lib.hid hD
      clear hD
      obtain ⟨Ac, hAc⟩ : ∃ Ac, cutA (some ⟨b', o', none⟩) c1 (m + 1) 2 = Ac := ⟨_, rfl⟩
      rw [hAc] at hrun
      have HAc := Lib.hid hAc
      clear hAc
      have hMO : j = m + 1 → MeetOk g path[m] path[j] := fun _ => meet_ok (HBd.out _ (List.getElem_mem hml)) (HBd.out _ (List.getElem_mem hlj)) Hom.out Hon.out (by rw [Hy1.out, Hy2.out]; exact Hinn.out)
      have HMO := Lib.hid hMO
      clear hMO
      go_upto_if 99 with fail
      go_cut [21] (fun u wx => ∃ Ar cr, u = .slice Ar (runS g path m j).length cr ∧ 0 < (runS g path m j).length ∧ Pts wx (.slice Ar (runS g path m j).length cr) (runS g path m j) ∧ Below wX.heap.size wX wx)
      case first =>
        by_cases hadj : j = m + 1
        case pos =>
          have hD0 : D = 0 := by have := HD.out; omega
          subst hD0
          have TM := fun W => point_spec g path[m] path[j] W (HMO.out hadj)
          unfold redV ptV at TM
          have hrs : runS g path m j = [meetP g path[m] path[j]] := by unfold runS; rw [if_pos hadj, Hgm.out, Hgq.out]
          generalize meetP g path[m] path[j] = MP at *
          have HMt := Lib.hid TM
          have HRs := Lib.hid hrs
          clear TM hrs hadj
          obtain ⟨b3, o3, hA, hlb3', d0, d1⟩ := hrow_pt (Hp2.out.mono hAX.out) hml
          obtain ⟨b4, o4, hA4, hlb4, d2, d3⟩ := hrow_pt (Hp2.out.mono hAX.out) hlj
          simp only [Option.some.injEq, Addr.mk.injEq, and_true] at hA hA4
          obtain ⟨rfl, rfl⟩ := hA
          obtain ⟨rfl, rfl⟩ := hA4
          have X13 := HX11.out.keep (bT Hb2.out hAX.out)
          try clear X13l
          try clear X13a
          try clear X13b
          try clear X13c
          try clear X13d
          try clear X13e
          try clear X13fa
          try clear X13fb
          try clear X13fc
          try clear X13fd
          try clear X13fe
          obtain ⟨X13l, X13a, X13b, X13c, X13d, X13e, -, -, -, -, -⟩ := X13.facts5
          go_upto_region 23 with fail
          refine rg_start (Since wX) (.take 0 1 (.take 1 3 (.take 2 7 (.take 3 15 (.take 4 31 (.take 5 63 (.take 6 127 (.take 7 255 (.take 8 511 (.call 9 1023 (.call 10 2047 (.take 11 4095 (.done))))))))))))) (by kernel_rfl) (bD (bR _)) (by kernel_rfl) (by kernel_rfl) (Nat.le_of_ble_eq_true (by kernel_rfl)) ?_
          intro opsR QR Hops HQrg hS
          apply rg_yp (i := 0) Hops rfl hS rfl
          · intro wq hq; obtain ⟨hqc, -⟩ := bcell (show Below wX.heap.size wX wq from hq); clear hq; go_simp; try rfl
          try simp only [Act.put, pu1, pu2, pu3]
          apply rg_yp (i := 1) Hops rfl hS rfl
          · intro _ hq; clear hq; go_simp; try rfl
          try simp only [Act.put, pu1, pu2, pu3]
          apply rg_yp (i := 2) Hops rfl hS rfl
          · intro _ hq; clear hq; go_simp; try rfl
          try simp only [Act.put, pu1, pu2, pu3]
          apply rg_yp (i := 3) Hops rfl hS rfl
          · intro _ hq; clear hq; go_simp; try rfl
          try simp only [Act.put, pu1, pu2, pu3]
          apply rg_yp (i := 4) Hops rfl hS rfl
          · intro wq hq; obtain ⟨hqc, -⟩ := bcell (show Below wX.heap.size wX wq from hq); clear hq; go_simp; try rfl
          try simp only [Act.put, pu1, pu2, pu3]
          apply rg_yp (i := 5) Hops rfl hS rfl
          · intro _ hq; clear hq; go_simp; try rfl
          try simp only [Act.put, pu1, pu2, pu3]
          apply rg_yp (i := 6) Hops rfl hS rfl
          · intro _ hq; clear hq; go_simp; try rfl
          try simp only [Act.put, pu1, pu2, pu3]
          apply rg_yp (i := 7) Hops rfl hS rfl
          · intro _ hq; clear hq; go_simp; try rfl
          try simp only [Act.put, pu1, pu2, pu3]
          apply rg_yp (i := 8) Hops rfl hS rfl
          · intro wq hq; obtain ⟨hqc, -⟩ := bcell (show Below wX.heap.size wX wq from hq); clear hq; go_simp; try rfl
          try simp only [Act.put, pu1, pu2, pu3]
          refine rg_call (i := 9) (get_of Hops rfl) (fun K hK => ?_)
          have HSrg := Lib.hid hS; clear hS
          refine rg_run (wanted_plain rfl) ?_
          go_simp
          refine (HMt.out _).mono ?_
          rintro e wr1 ⟨rfl, hbr1⟩
          have hS : Since wX wr1 := bT (w := wX) HSrg.out hbr1
          clear HSrg
          refine hK.out _ _ hS (fun _ => ?_)
          clear hK K
          try simp only [Act.put, pu1, pu2, pu3]
          refine rg_call (i := 10) (get_of Hops rfl) (fun K hK => ?_)
          have HSrg := Lib.hid hS; clear hS
          refine rg_run (wanted_plain rfl) ?_
          go_simp
          refine hK.out _ _ (bA HSrg.out _) (fun hS => ?_)
          clear hK K HSrg
          try simp only [Act.put, pu1, pu2, pu3]
          apply rg_yp (i := 11) Hops rfl hS rfl
          · intro _ hq; clear hq; go_simp; try rfl
          try simp only [Act.put, pu1, pu2, pu3]
          refine rg_done ?_
          refine HQrg.down _ _ ?_
          have hB : Below wX.heap.size wX _ := hS
          clear hS HQrg Hops
          go_wp2_with fail
          go_meet
          case rel =>
            rw [HRs.out]
            exact ⟨_, 1, rfl, by simp, Sl.lit (n := 1) (Blk.made rfl _ _) rfl (le_maxLen (by omega)), hB⟩
        case neg =>
          have hD0 : 0 < D := by have := HD.out; omega
          have hD1 : ((D : Int) == 0) = false := by rw [beq_eq_false_iff_ne]; omega
          have hrs : runS g path m j = (path.drop (m + 1)).take (j - (m + 1)) := by unfold runS; rw [if_neg hadj]
          have hln : (runS g path m j).length = D := by rw [hrs, List.length_take, List.length_drop, HD.out]; have := HD.out; omega
          have HLn2 := Lib.hid hln
          have HPos := Lib.hid hD0
          have HPr : Hid (∀ W, Pts W (.slice (some ⟨b', o', none⟩) path.length c1) path → Pts W (.slice Ac D (c1 - (m + 1))) (runS g path m j)) := Lib.hid fun W hW => by
            have := Sl.mid_ ptC_len hW (m + 1) j (by omega) (by omega)
            rw [HAc.out, HD.out] at this
            rw [hrs, HD.out]
            exact this
          clear hadj hD0 hrs hln
          go_wp2_with fail
          go_meet
          case rel =>
            rw [HLn2.out]
            exact ⟨_, _, rfl, HPos.out, HPr.out _ (Hp2.out.mono hAX.out), bR _⟩
      case rest =>
      obtain ⟨Ar, cr, rfl, hpos, hpr, hbc⟩ := hcut
      have HAR := Lib.hid (show ∀ R, runS g path m j = R → expCr g p.nodes a.id path m j = if openS g p.nodes R = true then [⟨alongS g (lastP R), a.id, if y1 = true then 1 else 0⟩] else [] from fun R h => by
        unfold expCr
        rw [h, Hgm.out, Hy1.out])
      generalize hR : runS g path m j = R at *
      have HEC := Lib.hid (HAR.out R rfl)
      have HPR := Lib.hid hpr
      have hAC := Lib.hid (bT hAX.out hbc)
      have HPos := Lib.hid hpos
      clear hR hpr hbc hrun hpos HAR
      obtain ⟨b5, o5, hA5, hlb5, d0, d1⟩ := hrow_pt (Hp2.out.mono hAC.out) hml
      simp only [Option.some.injEq, Addr.mk.injEq, and_true] at hA5
      obtain ⟨rfl, rfl⟩ := hA5
      have X13 := HX11.out.keep (bT Hb2.out hAC.out)
      try clear X13l
      try clear X13a
      try clear X13b
      try clear X13c
      try clear X13d
      try clear X13e
      try clear X13fa
      try clear X13fb
      try clear X13fc
      try clear X13fd
      try clear X13fe
      obtain ⟨X13l, X13a, X13b, X13c, X13d, X13e, -, -, -, -, -⟩ := X13.facts5
      obtain ⟨wC, rfl⟩ : ∃ wC : World, wC = wc := ⟨_, rfl⟩
      go_upto_region 25 with fail
      go_cut [116] (fun u wx => u = .bool y1 ∧ Below wC.heap.size wC wx)
      case first =>
        refine rg_start (Since wC) (.take 0 1 (.take 1 3 (.take 2 7 (.take 3 15 (.take 4 31 (.call 5 63 (.done))))))) (by kernel_rfl) (bD (bR _)) (by kernel_rfl) (by kernel_rfl) (Nat.le_of_ble_eq_true (by kernel_rfl)) ?_
        intro opsR QR Hops HQrg hS
        apply rg_yp (i := 0) Hops rfl hS rfl
        · intro wq hq; obtain ⟨hqc, -⟩ := bcell (show Below wC.heap.size wC wq from hq); clear hq; go_simp; try rfl
        try simp only [Act.put, pu1, pu2, pu3]
        apply rg_yp (i := 1) Hops rfl hS rfl
        · intro _ hq; clear hq; go_simp; try rfl
        try simp only [Act.put, pu1, pu2, pu3]
        apply rg_yp (i := 2) Hops rfl hS rfl
        · intro _ hq; clear hq; go_simp; try rfl
        try simp only [Act.put, pu1, pu2, pu3]
        apply rg_yp (i := 3) Hops rfl hS rfl
        · intro _ hq; clear hq; go_simp; try rfl
        try simp only [Act.put, pu1, pu2, pu3]
        apply rg_yp (i := 4) Hops rfl hS rfl
        · intro wq hq; obtain ⟨hqc, -⟩ := bcell (show Below wC.heap.size wC wq from hq); clear hq; go_simp; try rfl
        try simp only [Act.put, pu1, pu2, pu3]
        refine rg_call (i := 5) (get_of Hops rfl) (fun K hK => ?_)
        have HSrg := Lib.hid hS; clear hS
        refine rg_run (wanted_plain rfl) ?_
        go_simp
        refine (HI1.out _).mono ?_
        rintro e wr1 ⟨rfl, hbr1⟩
        have hS : Since wC wr1 := bT (w := wC) HSrg.out hbr1
        clear HSrg
        refine hK.out _ _ hS (fun _ => ?_)
        clear hK K
        try simp only [Act.put, pu1, pu2, pu3]
        refine rg_done ?_
        refine HQrg.down _ _ ?_
        have hB : Below wC.heap.size wC wr1 := hS
        clear hS HQrg Hops
        go_wp2_with fail
        go_meet
        case rel => exact ⟨rfl, hB⟩
      case rest =>
      obtain ⟨rfl, hbq⟩ := hcut
      have hAQ := Lib.hid (bT hAC.out hbq)
      obtain ⟨wQ, rfl⟩ : ∃ wQ : World, wQ = wc := ⟨_, rfl⟩
      have HPRQ := Lib.hid (HPR.out.mono hbq)
      clear hbq d0 d1 hlb5 X13 X13l X13a X13b X13c X13d X13e
      go_upto_if 116 with fail
      go_cut [22] (fun u wx => u = .int .i64 (if y1 = true then 1 else 0) ∧ wx = wQ)
      case first =>
        cases y1
        all_goals
          go_wp2_with fail
          go_meet
          case rel => exact ⟨rfl, rfl⟩
      case rest =>
      obtain ⟨rfl, rfl⟩ := hcut
      obtain ⟨ov, hov⟩ : ∃ ov : Int, (if y1 = true then (1 : Int) else 0) = ov := ⟨_, rfl⟩
      rw [hov] at HEC ⊢
      have X13 := HX11.out.keep (bT Hb2.out hAQ.out)
      have X4 := HX4.out.keep (bT Hb2.out hAQ.out)
      have hbw := bT HB5.out (bT Hb2.out hAQ.out)
      have hlb : bb < wc.heap.size := Nat.lt_of_lt_of_le HLb0.out hbw.size
      have c0 : wc.cell? ⟨bb, oo + k * 6, none⟩ = some (.int .i64 a.id) := ((bcell hbw).1 bb _ HLb0.out).trans HCw.out
      have HLen : Hid ((L2.foldl insCr L).length ≤ 1000000) := Lib.hid (by
        have key : ∀ (M A : List Cr), (M.foldl insCr A).length = A.length + M.length := by
          intro M
          induction M with
          | nil => intro A; simp
          | cons x M ih => intro A; rw [List.foldl_cons, ih, insCr_len]; simp; omega
        rw [key]
        omega)
      have TAdd : ∀ W, Below wc.heap.size wc W → Calls Tryz.prog 35 #[.slice A2 (L2.foldl insCr L).length c2, redV g, .slice Ar R.length cr, .slice An p.nodes.length cn, .int .i64 a.id, .int .i64 ov] W _ := fun W hW => addCr_spec g _ _ _ (L2.foldl insCr L) R p.nodes a.id ov W (Hs2.out.mono (bT hAQ.out hW)) HLen.out (HPRQ.out.mono hW) (HNd.out _ (bT (bT HB5.out (bT Hb2.out hAQ.out)) hW)) HPos.out
      unfold redV at TAdd
      have HAdd := Lib.hid TAdd
      clear hov hbw TAdd
      try clear X13l
      try clear X13a
      try clear X13b
      try clear X13c
      try clear X13d
      try clear X13e
      try clear X13fa
      try clear X13fb
      try clear X13fc
      try clear X13fd
      try clear X13fe
      obtain ⟨X13l, X13a, X13b, X13c, X13d, X13e, -, -, -, -, -⟩ := X13.facts5
      try clear X4l
      try clear X4a
      try clear X4b
      try clear X4c
      try clear X4fa
      try clear X4fb
      try clear X4fc
      obtain ⟨X4l, X4a, X4b, X4c, -, -, -⟩ := X4.facts3
      go_upto_region 27 with fail
      refine rg_start (Since wc) (.take 0 1 (.take 1 3 (.take 2 7 (.take 3 15 (.take 4 31 (.take 5 63 (.take 6 127 (.take 7 255 (.take 8 511 (.take 9 1023 (.take 10 2047 (.take 11 4095 (.call 12 8191 (.take 13 16383 (.done))))))))))))))) (by kernel_rfl) (bD (bR _)) (by kernel_rfl) (by kernel_rfl) (Nat.le_of_ble_eq_true (by kernel_rfl)) ?_
      intro opsR QR Hops HQrg hS
      apply rg_yp (i := 0) Hops rfl hS rfl
      · intro _ hq; clear hq; go_simp; try rfl
      try simp only [Act.put, pu1, pu2, pu3]
      apply rg_yp (i := 1) Hops rfl hS rfl
      · intro wq hq; obtain ⟨hqc, -⟩ := bcell (show Below wc.heap.size wc wq from hq); clear hq; go_simp; try rfl
      try simp only [Act.put, pu1, pu2, pu3]
      apply rg_yp (i := 2) Hops rfl hS rfl
      · intro _ hq; clear hq; go_simp; try rfl
      try simp only [Act.put, pu1, pu2, pu3]
      apply rg_yp (i := 3) Hops rfl hS rfl
      · intro _ hq; clear hq; go_simp; try rfl
      try simp only [Act.put, pu1, pu2, pu3]
      apply rg_yp (i := 4) Hops rfl hS rfl
      · intro wq hq; obtain ⟨hqc, -⟩ := bcell (show Below wc.heap.size wc wq from hq); clear hq; go_simp; try rfl
      try simp only [Act.put, pu1, pu2, pu3]
      apply rg_yp (i := 5) Hops rfl hS rfl
      · intro _ hq; clear hq; go_simp; try rfl
      try simp only [Act.put, pu1, pu2, pu3]
      apply rg_yp (i := 6) Hops rfl hS rfl
      · intro wq hq; obtain ⟨hqc, -⟩ := bcell (show Below wc.heap.size wc wq from hq); clear hq; go_simp; try rfl
      try simp only [Act.put, pu1, pu2, pu3]
      apply rg_yp (i := 7) Hops rfl hS rfl
      · intro _ hq; clear hq; go_simp; try rfl
      try simp only [Act.put, pu1, pu2, pu3]
      apply rg_yp (i := 8) Hops rfl hS rfl
      · intro _ hq; clear hq; go_simp; try rfl
      try simp only [Act.put, pu1, pu2, pu3]
      apply rg_yp (i := 9) Hops rfl hS rfl
      · intro _ hq; clear hq; go_simp; try rfl
      try simp only [Act.put, pu1, pu2, pu3]
      apply rg_yp (i := 10) Hops rfl hS rfl
      · intro wq hq; obtain ⟨hqc, -⟩ := bcell (show Below wc.heap.size wc wq from hq); clear hq; go_simp; try rfl
      try simp only [Act.put, pu1, pu2, pu3]
      apply rg_yp (i := 11) Hops rfl hS rfl
      · intro _ hq; clear hq; go_simp; try rfl
      try simp only [Act.put, pu1, pu2, pu3]
      refine rg_call (i := 12) (get_of Hops rfl) (fun K hK => ?_)
      have HSrg := Lib.hid hS; clear hS
      refine rg_run (wanted_plain rfl) ?_
      go_simp
      refine (HAdd.out _ HSrg.out).mono ?_
      rintro e wr1 ⟨A3, c3, rfl, hbr1, hs3⟩
      have hS : Since wc wr1 := bT (w := wc) HSrg.out hbr1
      clear HSrg
      refine hK.out _ _ hS (fun _ => ?_)
      clear hK K
      try simp only [Act.put, pu1, pu2, pu3]
      apply rg_yp (i := 13) Hops rfl hS rfl
      · intro _ hq; clear hq; go_simp; try rfl
      try simp only [Act.put, pu1, pu2, pu3]
      refine rg_done ?_
      refine HQrg.down _ _ ?_
      have hB : Below wc.heap.size wc wr1 := hS
      clear hS HQrg Hops
      have hAZ := Lib.hid (bT hAQ.out hB)
      have HF := Lib.hid (show (if openS g p.nodes R = true then insCr (L2.foldl insCr L) ⟨alongS g (lastP R), a.id, ov⟩ else L2.foldl insCr L) = (expAt g p.nodes a.id path (j + 1)).2.foldl insCr L by
        rw [HSt2.out]
        show _ = (L2 ++ expCr g p.nodes a.id path m j).foldl insCr L
        rw [HEC.out, List.foldl_append]
        split <;> rfl)
      have HS3 := Lib.hid hs3
      clear hB hs3
      rw [HF.out]
      go_wp2_with fail
      go_roundw
      case rel => exact ⟨j + 1, by omega, by go_num, by rw [HSt2.out], bT Hb2.out hAZ.out, by rw [← HF.out]; exact HS3.out, Hp2.out.mono hAZ.out⟩
      case measure => simp [intOf]; omega
end Go.Proofs.YtbjlnnfmcjbnhaaGreatDoor
