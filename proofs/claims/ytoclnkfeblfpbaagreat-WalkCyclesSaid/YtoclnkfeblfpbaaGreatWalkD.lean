/- walk.Twice, mapsheetsref15.Twice, for plans with a valid geometry. -/
import Derived.Test.YtoclnkfeblfpbaaGreatJ14
set_option linter.unusedSimpArgs false
set_option linter.unusedVariables false
namespace Go.Proofs.YtoclnkfeblfpbaaGreat
open Go.RowKit

theorem Valid.short {p : Pl} (h : Valid p) : Short p := fun a ha => by have := h.via_len ha; omega
theorem Short.long {p : Pl} (h : Short p) : ShortL p := fun a ha => by have := h a ha; omega
theorem Valid.path_of {p : Pl} (h : Valid p) {d : Int} {a : Ar} (e : arcD p d = some a) : pathOf p (absI d) = some (pathS p a) := by
  obtain ⟨ha, hi⟩ := arcD_mem e
  rw [hi]; exact h.sound.path ha
theorem max_abs (d : Int) : max d (-d) = absI d := by unfold absI; split <;> omega
theorem twiceUp_some {p : Pl} {l : List Int} {k : Nat} (hk : k < l.length) {a : Ar} (e : arcD p l[k] = some a) : twiceUp p l (k + 1) = twiceUp p l k + (if 0 < l[k] then twiceP (pathS p a) else -twiceP (pathS p a)) := by
  have : l.getD k 0 = l[k] := by rw [List.getD_eq_getElem?_getD, List.getElem?_eq_getElem hk]; rfl
  rw [twiceUp, this]
  unfold dartT
  rw [e]
theorem twiceD_bad {p : Pl} {l : List Int} {k : Nat} (hk : k < l.length) (e : arcD p l[k] = none) : twiceD p l = 0 := by
  unfold twiceD
  rw [if_neg]
  rintro ⟨-, h⟩
  have := h _ (List.getElem_mem hk)
  rw [e] at this; cases this
theorem twiceD_good {p : Pl} {l : List Int} (hl : l.length ≤ 512) (h : ∀ j (hj : j < l.length), j < l.length → (arcD p l[j]).isSome = true) : twiceD p l = twiceUp p l l.length := by
  unfold twiceD
  rw [if_pos]
  refine ⟨hl, fun d hd => ?_⟩
  obtain ⟨j, hj, rfl⟩ := List.mem_iff_getElem.1 hd
  exact h j hj hj

set_option maxRecDepth 100000 in
set_option maxHeartbeats 8000000 in
theorem Twice15w_spec (v u : Value) (p : Pl) (l : List Int) (w : World) (h : PlV w v p) (hu : Ints w u l) (hv : Valid p) (hw : ∀ d ∈ l, wfI d) :
    Calls Tryz.prog 19 #[v, u] w fun e w' => e = .returned (.int .i64 (twiceD p l)) ∧ Below w.heap.size w w' := by
  have HA := Lib.hid (fun d (hd : wfI d) W (hW : Below w.heap.size w W) => arcOf_spec v p d W (h.mono hW) hv.short.long hd)
  have HP := Lib.hid (fun id W (hW : Below w.heap.size w W) => Path_spec v p id W (h.mono hW) hv.short)
  obtain ⟨_, _, _, al, rfl, hpa, ⟨An, cn, rfl, -⟩, ⟨⟨Aa, ca, rfl, -⟩, -⟩, ⟨Af, cf, rfl, -⟩⟩ := h
  obtain ⟨Al, cl, rfl, hl1, hl2, hR⟩ := hu
  unfold maxLen at hl2
  have HR := Lib.hid hR
  have HV := Lib.hid hv
  have HW := Lib.hid hw
  generalize al.length = na at *
  generalize p.nodes.length = nn at *
  generalize p.faces.length = nf at *
  obtain ⟨q, hq⟩ : ∃ q, twiceD p l = q := ⟨_, rfl⟩
  rw [hq]
  have Hq := Lib.hid hq
  clear hpa hR hv hw hq
  go_enter Tryz.func19, Tryz.ntmps19
  by_cases hbig : 512 < l.length
  case pos =>
    have hbig' : 512 < (l.length : Int) := by omega
    have hf : q = 0 := by rw [← Hq.out]; unfold twiceD; rw [if_neg (by omega)]
    subst hf
    go_wp2_with fail
    go_ret
    exact ⟨rfl, bA (bR w) _⟩
  have hbig' : ¬ 512 < (l.length : Int) := by omega
  go_wp2_with fail
  obtain ⟨W0, hW⟩ : ∃ W0 : World, W0 = w.alloc (.cells #[.slice An nn cn, .slice Aa na ca, .slice Af nf cf] 26) := ⟨_, rfl⟩
  have HB0 := Lib.hid (show Below w.heap.size w W0 by rw [hW]; exact bA (bR w) _)
  have HX2 := Lib.hid (show Blk W0 w.heap.size 26 #[.slice An nn cn, .slice Aa na ca, .slice Af nf cf] by rw [hW]; exact Blk.made rfl _ _)
  rw [← hW]
  clear hW
  go_loopw [4, 18] (fun n i wr => ∃ k : Nat, k ≤ l.length ∧ i = .int .i64 k ∧ n = .int .i64 (twiceUp p l k) ∧ Below W0.heap.size W0 wr ∧ ∀ j (hj : j < l.length), j < k → (arcD p l[j]).isSome = true) (fun _ i _ => l.length - (intOf i).toNat)
  case atStart => exact ⟨0, Nat.zero_le _, rfl, rfl, bR W0, fun _ _ h => by omega⟩
  case round =>
    obtain ⟨k, hk, rfl, rfl, hb, hno⟩ := hrel
    have Hb := Lib.hid hb
    have Hno := Lib.hid hno
    have X2 := HX2.out.keep hb
    clear hb hno
    try clear X2l
    try clear X2a
    try clear X2b
    try clear X2c
    try clear X2fa
    try clear X2fb
    try clear X2fc
    obtain ⟨X2l, X2a, X2b, X2c, -, -, -⟩ := X2.facts3
    by_cases hlt : k < l.length
    case neg =>
      have hkk : k = l.length := by omega
      subst hkk
      have hf := twiceD_good (p := p) (l := l) (by omega) Hno.out
      rw [Hq.out] at hf
      have HF := Lib.hid hf
      clear hf
      go_wp2_with fail
      go_ret
      exact ⟨ret_int HF.out.symm, bT HB0.out Hb.out⟩
    obtain ⟨b, o, rfl, hlb, c0⟩ := (HR.out.mono (bT HB0.out Hb.out)).int hlt
    have hwd := HW.out _ (List.getElem_mem hlt)
    have HAr := Lib.hid (HA.out l[k] hwd)
    cases har : arcD p l[k] with
    | none =>
      rw [har] at HAr
      have hf := twiceD_bad hlt har
      rw [Hq.out] at hf
      subst hf
      clear har hwd
      go_wp2_with fail
      refine (HAr.out _ (bT HB0.out Hb.out)).mono ?_
      rintro e w1 ⟨A1, n1, c1, rfl, hb1⟩
      have B1 := Lib.hid (bT Hb.out hb1)
      clear hb1
      simp only [Option.isSome_none]
      go_wp2_with fail
      go_ret
      exact ⟨rfl, bT HB0.out (bA B1.out _)⟩
    | some a =>
    rw [har] at HAr
    have hst := twiceUp_some hlt har
    have hpo := HV.out.path_of har
    have ha := (arcD_mem har).1
    have hpl := pathS_length p a
    have hvl := HV.out.via_len ha
    have HTb := Lib.hid (fun k hk => HV.out.twice_bd ha k hk)
    have hub := HV.out.twiceUp_bd l k
    have hne : l[k] ≠ -9223372036854775808 ∧ l[k] ≠ 0 := by
      constructor
      · intro e; rw [e] at har; unfold arcD at har; rw [if_pos (.inr rfl)] at har; cases har
      · intro e; rw [e] at har; unfold arcD at har; rw [if_pos (.inl rfl)] at har; cases har
    have hbd := wfI_bd hwd
    have HPt := Lib.hid (HP.out (max l[k] (-l[k])))
    have hpm : pathOf p (max l[k] (-l[k])) = some (pathS p a) := by rw [max_abs]; exact hpo
    rw [hpm] at HPt
    unfold RetPathE at HPt
    simp only [Option.getD_some, Option.isSome_some, if_true] at HPt
    have HSt := Lib.hid hst
    have HSo := Lib.hid (show (arcD p l[k]).isSome = true by rw [har]; rfl)
    have HNx := Lib.hid (all_succ (p := fun d => (arcD p d).isSome = true) Hno.out hlt HSo.out)
    have hk1 : IntKind.i64.wrap (-l[k]) = -l[k] := IntWalk.i64_in _ (by omega)
    have HBig := Lib.hid (fun q (hq : q ∈ pathS p a) => HV.out.big_path ha hq)
    have HTl := Lib.hid (HTb.out ((pathS p a).length - 1) (by omega))
    have HNe := Lib.hid hne
    have HSz := Lib.hid (show k + 1 ≤ 512 by omega)
    clear hst hpo har hwd hpm hne hbd
    unfold twiceP at HSt
    generalize twiceUp p l k = n at *
    generalize hP : pathS p a = P at *
    generalize l[k] = d at *
    generalize a.via.length = vl at *
    go_wp2_with fail
    refine (HAr.out _ (bT HB0.out Hb.out)).mono ?_
    rintro e w1 ⟨A1, n1, c1, rfl, hb1⟩
    replace X2 := X2.keep hb1
    have B1 := Lib.hid (bT Hb.out hb1)
    clear hb1 X2l X2a X2b X2c HAr c0 hlb
    simp only [Option.isSome_some, Option.getD_some]
    try clear X2l
    try clear X2a
    try clear X2b
    try clear X2c
    try clear X2fa
    try clear X2fb
    try clear X2fc
    obtain ⟨X2l, X2a, X2b, X2c, -, -, -⟩ := X2.facts3
    go_wp2_with fail
    refine (HPt.out _ (bT HB0.out (bA B1.out _))).mono ?_
    rintro e w2 ⟨A2, c2, rfl, hb2, ho2⟩
    have B2 := Lib.hid (bT (bA B1.out _) hb2)
    obtain ⟨Aq, cq, he, hq1, hq2, hRP⟩ := ho2.sl
    injection he with e1 e2 e3
    subst e1 e3
    clear e2
    unfold maxLen at hq2
    have HRP := Lib.hid hRP
    clear hb2 ho2 hRP HPt X2 X2l X2a X2b X2c
    obtain ⟨N, hN⟩ : ∃ N, P.length = N + 1 := ⟨P.length - 1, by omega⟩
    have HN := Lib.hid hN
    have hNs : N ≤ 65 := by omega
    rw [hN] at HTl HSt
    simp only [Nat.add_sub_cancel] at HTl HSt
    have k2 : IntKind.i64.wrap (N : Int) = (N : Int) := IntWalk.i64_in _ (by omega)
    rw [hN] at hq1 ⊢
    clear hN hpl hvl
    go_wp2_with fail
    obtain ⟨W2, rfl⟩ : ∃ W2 : World, W2 = w2 := ⟨_, rfl⟩
    go_loopw [11, 44] (fun s i wx => ∃ j : Nat, j ≤ N ∧ i = .int .i64 j ∧ s = .int .i64 (twUp P j) ∧ Below W2.heap.size W2 wx) (fun _ i _ => N - (intOf i).toNat)
    case atStart => exact ⟨0, Nat.zero_le _, rfl, rfl, bR W2⟩
    case round =>
      obtain ⟨j, hj, rfl, rfl, hbx⟩ := hrel
      have Hbx := Lib.hid hbx
      clear hbx
      by_cases hjl : j < N
      case pos =>
        have hP1 : j < P.length := by have := HN.out; omega
        have hP2 : j + 1 < P.length := by have := HN.out; omega
        obtain ⟨b1, o1, hA1, hlb1, c0, c1'⟩ := (HRP.out.mono Hbx.out).pt hP1
        subst hA1
        obtain ⟨b2, o2, hA2, -, d0, d1⟩ := (HRP.out.mono Hbx.out).pt hP2
        simp only [Option.some.injEq, Addr.mk.injEq, and_true] at hA2
        obtain ⟨rfl, rfl⟩ := hA2
        have g1 := HBig.out _ (List.getElem_mem hP1)
        have g2 := HBig.out _ (List.getElem_mem hP2)
        have x1 := mul_big g1.1 g2.2
        have x2 := mul_big g2.1 g1.2
        have tb := HTb.out j (by have := HN.out; omega)
        have tb2 := HTb.out (j + 1) (by have := HN.out; omega)
        have hstep : twUp P (j + 1) = twUp P j + (P[j].x * P[j + 1].y - P[j + 1].x * P[j].y) := by
          rw [twUp]
          unfold crossG
          simp only [List.getD_eq_getElem?_getD, List.getElem?_eq_getElem hP1, List.getElem?_eq_getElem hP2, Option.getD_some]
        rw [hstep] at tb2
        have HStep := Lib.hid hstep
        clear hstep g1 g2
        generalize P[j] = p1 at *
        generalize P[j + 1] = p2 at *
        generalize hT : twUp P j = T at *
        have q1 : 0 ≤ (j : Int) := by omega
        have q2 : (j : Int) < (N : Int) + 1 := by omega
        have q3 : 0 ≤ (j : Int) + 1 := by omega
        have q4 : (j : Int) + 1 < (N : Int) + 1 := by omega
        have q5 : ((j : Int) + 1).toNat = j + 1 := by omega
        have m0 : IntKind.i64.wrap ((j : Int) + 1) = (j : Int) + 1 := IntWalk.i64_in _ (by omega)
        have m1 : IntKind.i64.wrap (p1.x * p2.y) = p1.x * p2.y := IntWalk.i64_in _ (by omega)
        have m2 : IntKind.i64.wrap (p2.x * p1.y) = p2.x * p1.y := IntWalk.i64_in _ (by omega)
        have m3 : IntKind.i64.wrap (p1.x * p2.y - p2.x * p1.y) = p1.x * p2.y - p2.x * p1.y := IntWalk.i64_in _ (by omega)
        have m4 : IntKind.i64.wrap (T + (p1.x * p2.y - p2.x * p1.y)) = T + (p1.x * p2.y - p2.x * p1.y) := IntWalk.i64_in _ (by omega)
        clear x1 x2 tb tb2 hT hub
        go_upto_region 16 with fail
        refine rg_start (Since wr) (.take 0 1 (.take 1 3 (.take 2 7 (.take 3 15 (.take 4 31 (.take 5 63 (.take 6 127 (.take 7 255 (.take 8 511 (.take 9 1023 (.take 10 2047 (.take 11 4095 (.take 12 8191 (.take 13 16383 (.take 14 32767 (.take 15 65535 (.take 16 131071 (.take 17 262143 (.take 18 524287 (.take 19 1048575 (.take 20 2097151 (.take 21 4194303 (.take 22 8388607 (.take 23 16777215 (.take 24 33554431 (.take 25 67108863 (.take 26 134217727 (.take 27 268435455 (.done))))))))))))))))))))))))))))) (by kernel_rfl) (bD (bR _)) (by kernel_rfl) (by kernel_rfl) (Nat.le_of_ble_eq_true (by kernel_rfl)) ?_
        intro opsR QR Hops HQrg hS
        apply rg_yp (i := 0) Hops rfl hS rfl
        · intro _ hq; clear hq; go_simp; try rfl
        try simp only [Act.put, pu1, pu2, pu3]
        apply rg_yp (i := 1) Hops rfl hS rfl
        · intro _ hq; clear hq; go_simp; try rfl
        try simp only [Act.put, pu1, pu2, pu3]
        apply rg_yp (i := 2) Hops rfl hS rfl
        · intro _ hq; clear hq; go_simp; try rfl
        try simp only [Act.put, pu1, pu2, pu3]
        apply rg_yp (i := 3) Hops rfl hS rfl
        · intro _ hq; clear hq; go_simp; try rfl
        try simp only [Act.put, pu1, pu2, pu3]
        apply rg_yp (i := 4) Hops rfl hS rfl
        · intro _ hq; clear hq; go_simp; try rfl
        try simp only [Act.put, pu1, pu2, pu3]
        apply rg_yp (i := 5) Hops rfl hS rfl
        · intro wq hq; obtain ⟨hqc, -⟩ := bcell (show Below wr.heap.size wr wq from hq); clear hq; go_simp; try rfl
        try simp only [Act.put, pu1, pu2, pu3]
        apply rg_yp (i := 6) Hops rfl hS rfl
        · intro _ hq; clear hq; go_simp; try rfl
        try simp only [Act.put, pu1, pu2, pu3]
        apply rg_yp (i := 7) Hops rfl hS rfl
        · intro _ hq; clear hq; go_simp; try rfl
        try simp only [Act.put, pu1, pu2, pu3]
        apply rg_yp (i := 8) Hops rfl hS rfl
        · intro _ hq; clear hq; go_simp; try rfl
        try simp only [Act.put, pu1, pu2, pu3]
        apply rg_yp (i := 9) Hops rfl hS rfl
        · intro _ hq; clear hq; go_simp; try rfl
        try simp only [Act.put, pu1, pu2, pu3]
        apply rg_yp (i := 10) Hops rfl hS rfl
        · intro _ hq; clear hq; go_simp; try rfl
        try simp only [Act.put, pu1, pu2, pu3]
        apply rg_yp (i := 11) Hops rfl hS rfl
        · intro wq hq; obtain ⟨hqc, -⟩ := bcell (show Below wr.heap.size wr wq from hq); clear hq; go_simp; try rfl
        try simp only [Act.put, pu1, pu2, pu3]
        apply rg_yp (i := 12) Hops rfl hS rfl
        · intro _ hq; clear hq; go_simp; try rfl
        try simp only [Act.put, pu1, pu2, pu3]
        apply rg_yp (i := 13) Hops rfl hS rfl
        · intro _ hq; clear hq; go_simp; try rfl
        try simp only [Act.put, pu1, pu2, pu3]
        apply rg_yp (i := 14) Hops rfl hS rfl
        · intro _ hq; clear hq; go_simp; try rfl
        try simp only [Act.put, pu1, pu2, pu3]
        apply rg_yp (i := 15) Hops rfl hS rfl
        · intro _ hq; clear hq; go_simp; try rfl
        try simp only [Act.put, pu1, pu2, pu3]
        apply rg_yp (i := 16) Hops rfl hS rfl
        · intro _ hq; clear hq; go_simp; try rfl
        try simp only [Act.put, pu1, pu2, pu3]
        apply rg_yp (i := 17) Hops rfl hS rfl
        · intro _ hq; clear hq; go_simp; try rfl
        try simp only [Act.put, pu1, pu2, pu3]
        apply rg_yp (i := 18) Hops rfl hS rfl
        · intro wq hq; obtain ⟨hqc, -⟩ := bcell (show Below wr.heap.size wr wq from hq); clear hq; go_simp; try rfl
        try simp only [Act.put, pu1, pu2, pu3]
        apply rg_yp (i := 19) Hops rfl hS rfl
        · intro _ hq; clear hq; go_simp; try rfl
        try simp only [Act.put, pu1, pu2, pu3]
        apply rg_yp (i := 20) Hops rfl hS rfl
        · intro _ hq; clear hq; go_simp; try rfl
        try simp only [Act.put, pu1, pu2, pu3]
        apply rg_yp (i := 21) Hops rfl hS rfl
        · intro _ hq; clear hq; go_simp; try rfl
        try simp only [Act.put, pu1, pu2, pu3]
        apply rg_yp (i := 22) Hops rfl hS rfl
        · intro _ hq; clear hq; go_simp; try rfl
        try simp only [Act.put, pu1, pu2, pu3]
        apply rg_yp (i := 23) Hops rfl hS rfl
        · intro wq hq; obtain ⟨hqc, -⟩ := bcell (show Below wr.heap.size wr wq from hq); clear hq; go_simp; try rfl
        try simp only [Act.put, pu1, pu2, pu3]
        apply rg_yp (i := 24) Hops rfl hS rfl
        · intro _ hq; clear hq; go_simp; try rfl
        try simp only [Act.put, pu1, pu2, pu3]
        apply rg_yp (i := 25) Hops rfl hS rfl
        · intro _ hq; clear hq; go_simp; try rfl
        try simp only [Act.put, pu1, pu2, pu3]
        apply rg_yp (i := 26) Hops rfl hS rfl
        · intro _ hq; clear hq; go_simp; try rfl
        try simp only [Act.put, pu1, pu2, pu3]
        apply rg_yp (i := 27) Hops rfl hS rfl
        · intro _ hq; clear hq; go_simp; try rfl
        try simp only [Act.put, pu1, pu2, pu3]
        refine rg_done ?_
        refine HQrg.down _ _ ?_
        have hB : Below wr.heap.size wr wr.drew := hS
        clear hS HQrg Hops
        have Bx := Lib.hid (bT Hbx.out hB)
        clear hB m0 m1 m2 m3 m4
        go_wp2_with fail
        go_roundw
        case rel => exact ⟨j + 1, by omega, by go_num, by rw [HStep.out], Bx.out⟩
        case measure => simp [intOf]; omega
      case neg =>
      have hjj : j = N := by omega
      subst hjj
      have htl := HTl.out
      have hsz := HSz.out
      have Bx := Lib.hid (bT B2.out Hbx.out)
      generalize hT : twUp P j = T at *
      clear hT
      by_cases hneg : d < 0
      · have hst := HSt.out
        rw [if_neg (by omega)] at hst
        have HSt' := Lib.hid hst
        have m1 : IntKind.i64.wrap (-T) = -T := IntWalk.i64_in _ (by omega)
        have m2 : IntKind.i64.wrap (n + -T) = n + -T := IntWalk.i64_in _ (by omega)
        clear hst htl hub hsz
        go_wp2_with fail
        go_roundw
        case rel => exact ⟨k + 1, by omega, by go_num, by rw [HSt'.out], Bx.out, HNx.out⟩
        case measure => simp [intOf]; omega
      · have hst := HSt.out
        rw [if_pos (by have := HNe.out.2; omega)] at hst
        have HSt' := Lib.hid hst
        have m2 : IntKind.i64.wrap (n + T) = n + T := IntWalk.i64_in _ (by omega)
        clear hst htl hub hsz
        go_wp2_with fail
        go_roundw
        case rel => exact ⟨k + 1, by omega, by go_num, by rw [HSt'.out], Bx.out, HNx.out⟩
        case measure => simp [intOf]; omega

theorem pathR_eq {p : Pl} (h : Valid p) {d : Int} {a : Ar} (e : arcD p d = some a) : pathR p d = if 0 < d then pathS p a else (pathS p a).reverse := by
  have hpo := h.path_of e
  unfold absI at hpo
  unfold pathR
  by_cases h1 : 0 < d
  · rw [if_neg (by omega)] at hpo
    rw [if_pos h1, if_pos h1, hpo]; rfl
  · have hne : d ≠ 0 := by
      intro e0; rw [e0] at e; unfold arcD at e; rw [if_pos (.inl rfl)] at e; cases e
    rw [if_pos (by omega)] at hpo
    rw [if_neg h1, if_neg h1, hpo]; rfl
theorem dartT_eq {p : Pl} (h : Valid p) {d : Int} {a : Ar} (e : arcD p d = some a) : dartT p d = twiceP (pathR p d) := by
  rw [pathR_eq h e]
  unfold dartT
  rw [e]
  simp only []
  have hl := pathS_length p a
  split
  · rfl
  · rw [twice_rev _ (by omega)]

set_option maxRecDepth 100000 in
set_option maxHeartbeats 8000000 in
theorem Twice15r_spec (v u : Value) (p : Pl) (l : List Int) (w : World) (h : PlV w v p) (hu : Ints w u l) (hv : Valid p) (hw : ∀ d ∈ l, wfI d) :
    Calls Tryz.prog 20 #[v, u] w fun e w' => e = .returned (.int .i64 (twiceD p l)) ∧ Below w.heap.size w w' := by
  have HO := Lib.hid (fun d W (hW : Below w.heap.size w W) => valid_spec15 v p d W (h.mono hW))
  have HP := Lib.hid (fun d (hd : -9223372036854775808 < d ∧ d ≤ 9223372036854775807) W (hW : Below w.heap.size w W) => Path15_spec v p d W (h.mono hW) hv.short hd)
  obtain ⟨_, _, _, al, rfl, hpa, ⟨An, cn, rfl, -⟩, ⟨⟨Aa, ca, rfl, -⟩, -⟩, ⟨Af, cf, rfl, -⟩⟩ := h
  obtain ⟨Al, cl, rfl, hl1, hl2, hR⟩ := hu
  unfold maxLen at hl2
  have HR := Lib.hid hR
  have HV := Lib.hid hv
  have HW := Lib.hid hw
  generalize al.length = na at *
  generalize p.nodes.length = nn at *
  generalize p.faces.length = nf at *
  obtain ⟨q, hq⟩ : ∃ q, twiceD p l = q := ⟨_, rfl⟩
  rw [hq]
  have Hq := Lib.hid hq
  clear hpa hR hv hw hq
  go_enter Tryz.func20, Tryz.ntmps20
  by_cases hbig : 512 < l.length
  case pos =>
    have hbig' : 512 < (l.length : Int) := by omega
    have hf : q = 0 := by rw [← Hq.out]; unfold twiceD; rw [if_neg (by omega)]
    subst hf
    go_wp2_with fail
    go_ret
    exact ⟨rfl, bA (bR w) _⟩
  have hbig' : ¬ 512 < (l.length : Int) := by omega
  go_wp2_with fail
  obtain ⟨W0, hW⟩ : ∃ W0 : World, W0 = w.alloc (.cells #[.slice An nn cn, .slice Aa na ca, .slice Af nf cf] 26) := ⟨_, rfl⟩
  have HB0 := Lib.hid (show Below w.heap.size w W0 by rw [hW]; exact bA (bR w) _)
  have HX2 := Lib.hid (show Blk W0 w.heap.size 26 #[.slice An nn cn, .slice Aa na ca, .slice Af nf cf] by rw [hW]; exact Blk.made rfl _ _)
  rw [← hW]
  clear hW
  go_loopw [5, 6] (fun n i wr => ∃ k : Nat, k ≤ l.length ∧ i = .int .i64 k ∧ n = .int .i64 (twiceUp p l k) ∧ Below W0.heap.size W0 wr ∧ ∀ j (hj : j < l.length), j < k → (arcD p l[j]).isSome = true) (fun _ i _ => l.length - (intOf i).toNat)
  case atStart => exact ⟨0, Nat.zero_le _, rfl, rfl, bR W0, fun _ _ h => by omega⟩
  case round =>
    obtain ⟨k, hk, rfl, rfl, hb, hno⟩ := hrel
    have Hb := Lib.hid hb
    have Hno := Lib.hid hno
    have HX2' := Lib.hid (HX2.out.keep hb)
    have X2 := HX2'.out
    clear hb hno
    try clear X2l
    try clear X2a
    try clear X2b
    try clear X2c
    try clear X2fa
    try clear X2fb
    try clear X2fc
    obtain ⟨X2l, X2a, X2b, X2c, -, -, -⟩ := X2.facts3
    by_cases hlt : k < l.length
    case neg =>
      have hkk : k = l.length := by omega
      subst hkk
      have hf := twiceD_good (p := p) (l := l) (by omega) Hno.out
      rw [Hq.out] at hf
      have HF := Lib.hid hf
      clear hf
      go_wp2_with fail
      go_ret
      exact ⟨ret_int HF.out.symm, bT HB0.out Hb.out⟩
    have HBw := Lib.hid (bT HB0.out Hb.out)
    obtain ⟨b, o, rfl, hlb, c0⟩ := (HR.out.mono HBw.out).int hlt
    have hwd := HW.out _ (List.getElem_mem hlt)
    have hok := HV.out.ok_arc (wfI_bd hwd)
    have TOk := HO.out l[k]
    unfold okArc at TOk
    rw [hok] at TOk
    have q1 : 0 ≤ (k : Int) := by omega
    have q2 : (k : Int) < l.length := by omega
    clear hok
    cases har : arcD p l[k] with
    | none =>
      rw [har] at TOk
      have HOk := Lib.hid TOk
      have hf := twiceD_bad hlt har
      rw [Hq.out] at hf
      subst hf
      clear har hwd TOk
      go_upto_region 7 with fail
      refine rg_start (Since wr) (.take 0 1 (.take 1 3 (.take 2 7 (.take 3 15 (.take 4 31 (.call 5 63 (.take 6 127 (.done)))))))) (by kernel_rfl) (bD (bR _)) (by kernel_rfl) (by kernel_rfl) (Nat.le_of_ble_eq_true (by kernel_rfl)) ?_
      intro opsR QR Hops HQrg hS
      apply rg_yp (i := 0) Hops rfl hS rfl
      · intro wq hq; obtain ⟨hqc, -⟩ := bcell (show Below wr.heap.size wr wq from hq); clear hq; go_simp; try rfl
      try simp only [Act.put, pu1, pu2, pu3]
      apply rg_yp (i := 1) Hops rfl hS rfl
      · intro _ hq; clear hq; go_simp; try rfl
      try simp only [Act.put, pu1, pu2, pu3]
      apply rg_yp (i := 2) Hops rfl hS rfl
      · intro _ hq; clear hq; go_simp; try rfl
      try simp only [Act.put, pu1, pu2, pu3]
      apply rg_yp (i := 3) Hops rfl hS rfl
      · intro _ hq; clear hq; go_simp; try rfl
      try simp only [Act.put, pu1, pu2, pu3]
      apply rg_yp (i := 4) Hops rfl hS rfl
      · intro wq hq; obtain ⟨hqc, -⟩ := bcell (show Below wr.heap.size wr wq from hq); clear hq; go_simp; try rfl
      try simp only [Act.put, pu1, pu2, pu3]
      refine rg_call (i := 5) (get_of Hops rfl) (fun K hK => ?_)
      have HSrg := Lib.hid hS; clear hS
      refine rg_run (wanted_plain rfl) ?_
      go_simp
      refine (HOk.out _ (bT HBw.out HSrg.out)).mono ?_
      rintro e wr1 ⟨rfl, hbr1⟩
      have hS : Since wr wr1 := bT (w := wr) HSrg.out hbr1
      clear HSrg
      refine hK.out _ _ hS (fun _ => ?_)
      clear hK K
      try simp only [Act.put, pu1, pu2, pu3]
      apply rg_yp (i := 6) Hops rfl hS rfl
      · intro _ hq; clear hq; go_simp; try rfl
      try simp only [Act.put, pu1, pu2, pu3]
      refine rg_done ?_
      refine HQrg.down _ _ ?_
      have hB : Below wr.heap.size wr wr1 := hS
      clear hS HQrg Hops
      go_wp2_with fail
      go_ret
      exact ⟨rfl, bT HBw.out hB⟩
    | some a =>
    rw [har] at TOk
    have HOk := Lib.hid TOk
    have hst : twiceUp p l (k + 1) = twiceUp p l k + twiceP (pathR p l[k]) := by
      have e0 : l.getD k 0 = l[k] := by rw [List.getD_eq_getElem?_getD, List.getElem?_eq_getElem hlt]; rfl
      rw [twiceUp, e0, dartT_eq HV.out har]
    have ha := (arcD_mem har).1
    have hpl := pathS_length p a
    have hvl := HV.out.via_len ha
    have hub := HV.out.twiceUp_bd l k
    have hne : l[k] ≠ -9223372036854775808 := by
      intro e; rw [e] at har; unfold arcD at har; rw [if_pos (.inr rfl)] at har; cases har
    have hbd := wfI_bd hwd
    have HPt := Lib.hid (HP.out l[k] (by omega))
    have HBig := Lib.hid (show ∀ q ∈ pathR p l[k], big1 q from fun q hq => by
      rw [pathR_eq HV.out har] at hq
      split at hq
      · exact HV.out.big_path ha hq
      · exact HV.out.big_path ha (List.mem_reverse.1 hq))
    have hPl : (pathR p l[k]).length = a.via.length + 2 := by
      rw [pathR_eq HV.out har]
      split
      · exact hpl
      · rw [List.length_reverse]; exact hpl
    have HNx := Lib.hid (all_succ (p := fun d => (arcD p d).isSome = true) Hno.out hlt (by rw [har]; rfl))
    obtain ⟨N, hN⟩ : ∃ N, (pathR p l[k]).length = N + 1 := ⟨(pathR p l[k]).length - 1, by omega⟩
    have HN := Lib.hid hN
    have hNs : N ≤ 65 := by omega
    clear hN hPl hvl
    have HSt := Lib.hid hst
    have HSz := Lib.hid (show k + 1 ≤ 512 by omega)
    clear hst har hwd hne hbd TOk hpl
    unfold twiceP at HSt
    unfold RetPts at HPt
    generalize twiceUp p l k = n at *
    generalize hP : pathR p l[k] = P at *
    have hPd := hP
    clear hP
    generalize hd : l[k] = d at *
    have Hd := Lib.hid hd
    clear hPd hd
    go_upto_region 7 with fail
    refine rg_start (Since wr) (.take 0 1 (.take 1 3 (.take 2 7 (.take 3 15 (.take 4 31 (.call 5 63 (.take 6 127 (.done)))))))) (by kernel_rfl) (bD (bR _)) (by kernel_rfl) (by kernel_rfl) (Nat.le_of_ble_eq_true (by kernel_rfl)) ?_
    intro opsR QR Hops HQrg hS
    apply rg_yp (i := 0) Hops rfl hS rfl
    · intro wq hq; obtain ⟨hqc, -⟩ := bcell (show Below wr.heap.size wr wq from hq); clear hq; go_simp; try rfl
    try simp only [Act.put, pu1, pu2, pu3]
    apply rg_yp (i := 1) Hops rfl hS rfl
    · intro _ hq; clear hq; go_simp; try rfl
    try simp only [Act.put, pu1, pu2, pu3]
    apply rg_yp (i := 2) Hops rfl hS rfl
    · intro _ hq; clear hq; go_simp; try rfl
    try simp only [Act.put, pu1, pu2, pu3]
    apply rg_yp (i := 3) Hops rfl hS rfl
    · intro _ hq; clear hq; go_simp; try rfl
    try simp only [Act.put, pu1, pu2, pu3]
    apply rg_yp (i := 4) Hops rfl hS rfl
    · intro wq hq; obtain ⟨hqc, -⟩ := bcell (show Below wr.heap.size wr wq from hq); clear hq; go_simp; try rfl
    try simp only [Act.put, pu1, pu2, pu3]
    refine rg_call (i := 5) (get_of Hops rfl) (fun K hK => ?_)
    have HSrg := Lib.hid hS; clear hS
    refine rg_run (wanted_plain rfl) ?_
    go_simp
    refine (HOk.out _ (bT HBw.out HSrg.out)).mono ?_
    rintro e wr1 ⟨rfl, hbr1⟩
    have hS : Since wr wr1 := bT (w := wr) HSrg.out hbr1
    clear HSrg
    refine hK.out _ _ hS (fun _ => ?_)
    clear hK K
    try simp only [Act.put, pu1, pu2, pu3]
    apply rg_yp (i := 6) Hops rfl hS rfl
    · intro _ hq; clear hq; go_simp; try rfl
    try simp only [Act.put, pu1, pu2, pu3]
    refine rg_done ?_
    refine HQrg.down _ _ ?_
    have hB : Below wr.heap.size wr wr1 := hS
    clear hS HQrg Hops
    have B1 := Lib.hid (bT Hb.out hB)
    have HX2'' := Lib.hid (HX2'.out.keep hB)
    clear hB X2 X2l X2a X2b X2c c0 hlb
    obtain ⟨w1, hw1⟩ : ∃ w1 : World, w1 = wr1 := ⟨_, rfl⟩
    subst hw1
    obtain ⟨b', o', hA, hlb, c0⟩ := (HR.out.mono (bT HB0.out B1.out)).int hlt
    simp only [Option.some.injEq, Addr.mk.injEq, and_true] at hA
    obtain ⟨rfl, rfl⟩ := hA
    rw [Hd.out] at c0
    have X2 := HX2''.out
    try clear X2l
    try clear X2a
    try clear X2b
    try clear X2c
    try clear X2fa
    try clear X2fb
    try clear X2fc
    obtain ⟨X2l, X2a, X2b, X2c, -, -, -⟩ := X2.facts3
    go_upto_region 9 with fail
    refine rg_start (Since w1) (.take 0 1 (.take 1 3 (.take 2 7 (.take 3 15 (.take 4 31 (.call 5 63 (.take 6 127 (.done)))))))) (by kernel_rfl) (bD (bR _)) (by kernel_rfl) (by kernel_rfl) (Nat.le_of_ble_eq_true (by kernel_rfl)) ?_
    intro opsR QR Hops HQrg hS
    apply rg_yp (i := 0) Hops rfl hS rfl
    · intro wq hq; obtain ⟨hqc, -⟩ := bcell (show Below w1.heap.size w1 wq from hq); clear hq; go_simp; try rfl
    try simp only [Act.put, pu1, pu2, pu3]
    apply rg_yp (i := 1) Hops rfl hS rfl
    · intro _ hq; clear hq; go_simp; try rfl
    try simp only [Act.put, pu1, pu2, pu3]
    apply rg_yp (i := 2) Hops rfl hS rfl
    · intro _ hq; clear hq; go_simp; try rfl
    try simp only [Act.put, pu1, pu2, pu3]
    apply rg_yp (i := 3) Hops rfl hS rfl
    · intro _ hq; clear hq; go_simp; try rfl
    try simp only [Act.put, pu1, pu2, pu3]
    apply rg_yp (i := 4) Hops rfl hS rfl
    · intro wq hq; obtain ⟨hqc, -⟩ := bcell (show Below w1.heap.size w1 wq from hq); clear hq; go_simp; try rfl
    try simp only [Act.put, pu1, pu2, pu3]
    refine rg_call (i := 5) (get_of Hops rfl) (fun K hK => ?_)
    have HSrg := Lib.hid hS; clear hS
    refine rg_run (wanted_plain rfl) ?_
    go_simp
    refine (HPt.out _ (bT (bT HB0.out B1.out) HSrg.out)).mono ?_
    rintro e wr1 ⟨A2, c2, rfl, hbr1, ho2⟩
    have hS : Since w1 wr1 := bT (w := w1) HSrg.out hbr1
    clear HSrg
    refine hK.out _ _ hS (fun _ => ?_)
    clear hK K
    try simp only [Act.put, pu1, pu2, pu3]
    apply rg_yp (i := 6) Hops rfl hS rfl
    · intro _ hq; clear hq; go_simp; try rfl
    try simp only [Act.put, pu1, pu2, pu3]
    refine rg_done ?_
    refine HQrg.down _ _ ?_
    have hB : Below w1.heap.size w1 wr1 := hS
    clear hS HQrg Hops
    have B2 := Lib.hid (bT B1.out hB)
    obtain ⟨Aq, cq, he, hq1, hq2, hRP⟩ := ho2.sl
    injection he with e1 e2 e3
    subst e1 e3
    clear e2
    unfold maxLen at hq2
    have HRP := Lib.hid hRP
    clear hB ho2 hRP HPt X2 X2l X2a X2b X2c c0 hlb
    obtain ⟨W2, hw2⟩ : ∃ W2 : World, W2 = wr1 := ⟨_, rfl⟩
    subst hw2
    have hst2 := HSt.out
    rw [HN.out, Nat.add_sub_cancel] at hst2
    replace HSt := Lib.hid hst2
    rw [HN.out] at hq1 ⊢
    clear hst2
    have HTb := Lib.hid (fun j (hj : j + 1 ≤ P.length) => twUp_bd HBig.out j (.inl hj))
    go_wp2_with fail
    go_loopw [5, 8] (fun s i wx => ∃ j : Nat, j ≤ N ∧ i = .int .i64 ((j : Int) + 1) ∧ s = .int .i64 (n + twUp P j) ∧ Below W2.heap.size W2 wx) (fun _ i _ => N + 1 - (intOf i).toNat)
    case atStart => exact ⟨0, Nat.zero_le _, rfl, by simp [twUp], bR W2⟩
    case round =>
      obtain ⟨j, hj, rfl, rfl, hbx⟩ := hrel
      have Hbx := Lib.hid hbx
      clear hbx
      by_cases hjl : j < N
      case pos =>
        have hP1 : j < P.length := by have := HN.out; omega
        have hP2 : j + 1 < P.length := by have := HN.out; omega
        obtain ⟨b1, o1, hA1, hlb1, c0, c1'⟩ := (HRP.out.mono Hbx.out).pt hP1
        subst hA1
        obtain ⟨b2, o2, hA2, -, d0, d1⟩ := (HRP.out.mono Hbx.out).pt hP2
        simp only [Option.some.injEq, Addr.mk.injEq, and_true] at hA2
        obtain ⟨rfl, rfl⟩ := hA2
        have g1 := HBig.out _ (List.getElem_mem hP1)
        have g2 := HBig.out _ (List.getElem_mem hP2)
        have x1 := mul_big g1.1 g2.2
        have x2 := mul_big g2.1 g1.2
        have tb := HTb.out j (by have := HN.out; omega)
        have hstep : n + twUp P (j + 1) = n + twUp P j + P[j].x * P[j + 1].y - P[j + 1].x * P[j].y := by
          rw [twUp]
          unfold crossG
          simp only [List.getD_eq_getElem?_getD, List.getElem?_eq_getElem hP1, List.getElem?_eq_getElem hP2, Option.getD_some]
          omega
        have HStep := Lib.hid hstep
        have hsz := HSz.out
        clear hstep g1 g2
        generalize P[j] = p1 at *
        generalize P[j + 1] = p2 at *
        generalize hT : twUp P j = T at *
        have q1 : 0 ≤ (j : Int) := by omega
        have q2 : (j : Int) < (N : Int) + 1 := by omega
        have q3 : 0 ≤ (j : Int) + 1 := by omega
        have q4 : (j : Int) + 1 < (N : Int) + 1 := by omega
        have q5 : ((j : Int) + 1).toNat = j + 1 := by omega
        have m0 : IntKind.i64.wrap (j : Int) = (j : Int) := IntWalk.i64_in _ (by omega)
        have m1 : IntKind.i64.wrap (p1.x * p2.y) = p1.x * p2.y := IntWalk.i64_in _ (by omega)
        have m2 : IntKind.i64.wrap (p2.x * p1.y) = p2.x * p1.y := IntWalk.i64_in _ (by omega)
        have m3 : IntKind.i64.wrap (n + T + p1.x * p2.y) = n + T + p1.x * p2.y := IntWalk.i64_in _ (by omega)
        have m4 : IntKind.i64.wrap (n + T + p1.x * p2.y - p2.x * p1.y) = n + T + p1.x * p2.y - p2.x * p1.y := IntWalk.i64_in _ (by omega)
        clear x1 x2 tb hT hub hsz
        go_upto_region 13 with fail
        refine rg_start (Since wr) (.take 0 1 (.take 1 3 (.take 2 7 (.take 3 15 (.take 4 31 (.take 5 63 (.take 6 127 (.take 7 255 (.take 8 511 (.take 9 1023 (.take 10 2047 (.take 11 4095 (.take 12 8191 (.take 13 16383 (.take 14 32767 (.take 15 65535 (.take 16 131071 (.take 17 262143 (.take 18 524287 (.take 19 1048575 (.take 20 2097151 (.take 21 4194303 (.take 22 8388607 (.take 23 16777215 (.take 24 33554431 (.take 25 67108863 (.take 26 134217727 (.take 27 268435455 (.done))))))))))))))))))))))))))))) (by kernel_rfl) (bD (bR _)) (by kernel_rfl) (by kernel_rfl) (Nat.le_of_ble_eq_true (by kernel_rfl)) ?_
        intro opsR QR Hops HQrg hS
        apply rg_yp (i := 0) Hops rfl hS rfl
        · intro _ hq; clear hq; go_simp; try rfl
        try simp only [Act.put, pu1, pu2, pu3]
        apply rg_yp (i := 1) Hops rfl hS rfl
        · intro _ hq; clear hq; go_simp; try rfl
        try simp only [Act.put, pu1, pu2, pu3]
        apply rg_yp (i := 2) Hops rfl hS rfl
        · intro _ hq; clear hq; go_simp; try rfl
        try simp only [Act.put, pu1, pu2, pu3]
        apply rg_yp (i := 3) Hops rfl hS rfl
        · intro _ hq; clear hq; go_simp; try rfl
        try simp only [Act.put, pu1, pu2, pu3]
        apply rg_yp (i := 4) Hops rfl hS rfl
        · intro _ hq; clear hq; go_simp; try rfl
        try simp only [Act.put, pu1, pu2, pu3]
        apply rg_yp (i := 5) Hops rfl hS rfl
        · intro _ hq; clear hq; go_simp; try rfl
        try simp only [Act.put, pu1, pu2, pu3]
        apply rg_yp (i := 6) Hops rfl hS rfl
        · intro wq hq; obtain ⟨hqc, -⟩ := bcell (show Below wr.heap.size wr wq from hq); clear hq; go_simp; try rfl
        try simp only [Act.put, pu1, pu2, pu3]
        apply rg_yp (i := 7) Hops rfl hS rfl
        · intro _ hq; clear hq; go_simp; try rfl
        try simp only [Act.put, pu1, pu2, pu3]
        apply rg_yp (i := 8) Hops rfl hS rfl
        · intro _ hq; clear hq; go_simp; try rfl
        try simp only [Act.put, pu1, pu2, pu3]
        apply rg_yp (i := 9) Hops rfl hS rfl
        · intro _ hq; clear hq; go_simp; try rfl
        try simp only [Act.put, pu1, pu2, pu3]
        apply rg_yp (i := 10) Hops rfl hS rfl
        · intro _ hq; clear hq; go_simp; try rfl
        try simp only [Act.put, pu1, pu2, pu3]
        apply rg_yp (i := 11) Hops rfl hS rfl
        · intro wq hq; obtain ⟨hqc, -⟩ := bcell (show Below wr.heap.size wr wq from hq); clear hq; go_simp; try rfl
        try simp only [Act.put, pu1, pu2, pu3]
        apply rg_yp (i := 12) Hops rfl hS rfl
        · intro _ hq; clear hq; go_simp; try rfl
        try simp only [Act.put, pu1, pu2, pu3]
        apply rg_yp (i := 13) Hops rfl hS rfl
        · intro _ hq; clear hq; go_simp; try rfl
        try simp only [Act.put, pu1, pu2, pu3]
        apply rg_yp (i := 14) Hops rfl hS rfl
        · intro _ hq; clear hq; go_simp; try rfl
        try simp only [Act.put, pu1, pu2, pu3]
        apply rg_yp (i := 15) Hops rfl hS rfl
        · intro _ hq; clear hq; go_simp; try rfl
        try simp only [Act.put, pu1, pu2, pu3]
        apply rg_yp (i := 16) Hops rfl hS rfl
        · intro _ hq; clear hq; go_simp; try rfl
        try simp only [Act.put, pu1, pu2, pu3]
        apply rg_yp (i := 17) Hops rfl hS rfl
        · intro _ hq; clear hq; go_simp; try rfl
        try simp only [Act.put, pu1, pu2, pu3]
        apply rg_yp (i := 18) Hops rfl hS rfl
        · intro wq hq; obtain ⟨hqc, -⟩ := bcell (show Below wr.heap.size wr wq from hq); clear hq; go_simp; try rfl
        try simp only [Act.put, pu1, pu2, pu3]
        apply rg_yp (i := 19) Hops rfl hS rfl
        · intro _ hq; clear hq; go_simp; try rfl
        try simp only [Act.put, pu1, pu2, pu3]
        apply rg_yp (i := 20) Hops rfl hS rfl
        · intro _ hq; clear hq; go_simp; try rfl
        try simp only [Act.put, pu1, pu2, pu3]
        apply rg_yp (i := 21) Hops rfl hS rfl
        · intro _ hq; clear hq; go_simp; try rfl
        try simp only [Act.put, pu1, pu2, pu3]
        apply rg_yp (i := 22) Hops rfl hS rfl
        · intro _ hq; clear hq; go_simp; try rfl
        try simp only [Act.put, pu1, pu2, pu3]
        apply rg_yp (i := 23) Hops rfl hS rfl
        · intro _ hq; clear hq; go_simp; try rfl
        try simp only [Act.put, pu1, pu2, pu3]
        apply rg_yp (i := 24) Hops rfl hS rfl
        · intro wq hq; obtain ⟨hqc, -⟩ := bcell (show Below wr.heap.size wr wq from hq); clear hq; go_simp; try rfl
        try simp only [Act.put, pu1, pu2, pu3]
        apply rg_yp (i := 25) Hops rfl hS rfl
        · intro _ hq; clear hq; go_simp; try rfl
        try simp only [Act.put, pu1, pu2, pu3]
        apply rg_yp (i := 26) Hops rfl hS rfl
        · intro _ hq; clear hq; go_simp; try rfl
        try simp only [Act.put, pu1, pu2, pu3]
        apply rg_yp (i := 27) Hops rfl hS rfl
        · intro _ hq; clear hq; go_simp; try rfl
        try simp only [Act.put, pu1, pu2, pu3]
        refine rg_done ?_
        refine HQrg.down _ _ ?_
        have hB : Below wr.heap.size wr wr.drew := hS
        clear hS HQrg Hops
        have Bx := Lib.hid (bT Hbx.out hB)
        clear hB m0 m1 m2 m3 m4
        go_wp2_with fail
        go_roundw
        case rel => exact ⟨j + 1, by omega, by go_num, by rw [HStep.out], Bx.out⟩
        case measure => simp [intOf]; omega
      case neg =>
      have hjj : j = N := by omega
      subst hjj
      have Bx := Lib.hid (bT B2.out Hbx.out)
      clear hub
      go_wp2_with fail
      go_roundw
      case rel => exact ⟨k + 1, by omega, by go_num, by rw [HSt.out], Bx.out, HNx.out⟩
      case measure => simp [intOf]; omega
end Go.Proofs.YtoclnkfeblfpbaaGreat
