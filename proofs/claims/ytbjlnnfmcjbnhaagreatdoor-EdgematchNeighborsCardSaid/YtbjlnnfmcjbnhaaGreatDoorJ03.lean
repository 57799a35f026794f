/- edgematch: leaving, open. Finding arcs: mapsheetsref14.Arc; degrees: plan.Degree, mapsheetsref14.Degree. Small tests of lists: ascending (both), SamePath, Few. Lists compared: mapsheetsref14.SamePath, slices.Equal (points, nodes, ints). -/
import Derived.Test.YtbjlnnfmcjbnhaaGreatDoorEdgeB
import Derived.Test.YtbjlnnfmcjbnhaaGreatDoorJ01
import Derived.Test.YtbjlnnfmcjbnhaaGreatDoorGB
set_option linter.unusedSimpArgs false
set_option linter.unusedVariables false
namespace Go.Proofs.YtbjlnnfmcjbnhaaGreatDoor
open Go.RowKit

set_option maxRecDepth 100000 in
set_option maxHeartbeats 2000000 in
theorem leaving_spec (g : Ed) (y : Pc) (v : Value) (w : World) (h : Pts w v y.path) :
    Calls Tryz.prog 31 #[edV g, pcV y v] w fun e w' => ∃ v', e = .returned v' ∧ Below w.heap.size w w' ∧ ∀ W, Pts W v y.path → Pts W v' (leaveS g y) := by
  obtain ⟨A, c, rfl, hn, hc, hR⟩ := h
  unfold maxLen at hc
  have HR := Lib.hid hR; clear hR
  have TO : ∀ (p : Pt) (W : World), Calls Tryz.prog 40 #[edV g, ptV p] W fun e w' => e = .returned (.int .i64 (offS g p)) ∧ Below W.heap.size W w' := fun p W => off_spec g p W
  unfold edV ptV at TO
  have HO := Lib.hid TO; clear TO
  unfold edV pcV
  go_enter Tryz.func31, Tryz.ntmps31
  go_wp2_with fail
  obtain ⟨W0, hW0⟩ : ∃ W0 : World, W0 = (w.alloc (.cells #[.int .i64 g.side, .bool g.upright, .int .i64 g.line, .int .i64 g.lo, .int .i64 g.hi] 66)).alloc (.cells #[.int .i64 y.arc, .slice A y.path.length c, .int .i64 y.enter, .int .i64 y.leave] 62) := ⟨_, rfl⟩
  have X2 : Blk W0 w.heap.size 66 #[.int .i64 g.side, .bool g.upright, .int .i64 g.line, .int .i64 g.lo, .int .i64 g.hi] := by rw [hW0]; exact (Blk.made rfl _ _).alloc _
  have X3 : Blk W0 (w.heap.size + 1) 62 #[.int .i64 y.arc, .slice A y.path.length c, .int .i64 y.enter, .int .i64 y.leave] := by rw [hW0]; exact Blk.made (by simp) _ _
  have HB0 := Lib.hid (show Below w.heap.size w W0 by rw [hW0]; exact bA (bA (bR w) _) _)
  rw [← hW0]
  have HX2 := Lib.hid X2; have HX3 := Lib.hid X3
  clear hW0 X2 X3
  go_loopw [5] (fun u wr => ∃ k : Nat, k ≤ y.path.length ∧ u = .int .i64 k ∧ Below W0.heap.size W0 wr ∧ ∀ j (hj : j < y.path.length), k ≤ j → onE g y.path[j] = true) (fun u _ => (intOf u).toNat)
  case atStart => exact ⟨y.path.length, Nat.le_refl _, rfl, bR W0, fun _ _ h => by omega⟩
  case round =>
    obtain ⟨k, hk, rfl, hb, hon⟩ := hrel
    have Hb := Lib.hid hb
    have Hon := Lib.hid hon
    have X2 := HX2.out.keep hb
    have X3 := HX3.out.keep hb
    clear hb hon
    try clear X2l
    try clear X2a
    try clear X2b
    try clear X2c
    try clear X2d
    try clear X2e
    try clear X2fa
    try clear X2fb
    try clear X2fc
    try clear X2fd
    try clear X2fe
    obtain ⟨X2l, X2a, X2b, X2c, X2d, X2e, -, -, -, -, -⟩ := X2.facts5
    try clear X3l
    try clear X3a
    try clear X3b
    try clear X3c
    try clear X3d
    try clear X3fa
    try clear X3fb
    try clear X3fc
    try clear X3fd
    obtain ⟨X3l, X3a, X3b, X3c, X3d, -, -, -, -⟩ := X3.facts4
    rcases Nat.eq_zero_or_pos k with hk0 | hkp
    case inr =>
      obtain ⟨m, rfl⟩ : ∃ m, k = m + 1 := ⟨k - 1, by omega⟩
      have hlt : m < y.path.length := by omega
      obtain ⟨b, o, rfl, hlb, c0, c1⟩ := (HR.out.mono (bT HB0.out Hb.out)).pt hlt
      have q0 : 0 < (m : Int) + 1 := by omega
      have q1 : 0 ≤ (m : Int) := by omega
      have q2 : (m : Int) < y.path.length := by omega
      have q6 : IntKind.i64.wrap (m : Int) = (m : Int) := IntWalk.i64_in _ (by omega)
      by_cases ho : onE g y.path[m] = true
      · have hz : offS g y.path[m] = 0 := (off_on g _).2 ho
        have TK : ∀ W, Calls Tryz.prog 40 #[.agg #[.int .i64 g.side, .bool g.upright, .int .i64 g.line, .int .i64 g.lo, .int .i64 g.hi], .agg #[.int .i64 y.path[m].x, .int .i64 y.path[m].y]] W fun e w' => e = .returned (.int .i64 0) ∧ Below W.heap.size W w' := fun W => by
          have := HO.out y.path[m] W
          rw [hz] at this
          exact this
        have HK := Lib.hid TK
        have Ho := Lib.hid ho
        clear TK hz ho
        go_upto_region 2 with fail
        refine rg_start (Since wr) (.take 0 1 (.take 1 3 (.take 2 7 (.take 3 15 (.take 4 31 (.take 5 63 (.take 6 127 (.take 7 255 (.take 8 511 (.take 9 1023 (.call 10 2047 (.take 11 4095 (.take 12 8191 (.done)))))))))))))) (by kernel_rfl) (bD (bR _)) (by kernel_rfl) (by kernel_rfl) (Nat.le_of_ble_eq_true (by kernel_rfl)) ?_
        intro opsR QR Hops HQrg hS
        apply rg_yp (i := 0) Hops rfl hS rfl
        · intro _ hq; clear hq; go_simp; try rfl
        try simp only [Act.put, pu1, pu2, pu3]
        apply rg_yp (i := 1) Hops rfl hS rfl
        · intro _ hq; clear hq; go_simp; try rfl
        try simp only [Act.put, pu1, pu2, pu3]
        apply rg_yp (i := 2) Hops rfl hS rfl
        · intro _ hq; clear hq; go_simp; try rfl
        try simp only [Act.put, pu1, pu2, pu3]
        apply rg_yg (i := 3) Hops rfl hS rfl rfl rfl rfl
        · intro wq hq; obtain ⟨hqc, -⟩ := bcell (show Below wr.heap.size wr wq from hq); clear hq; go_simp; try rfl
        try simp only [Act.put, pu1, pu2, pu3]
        apply rg_yg (i := 4) Hops rfl hS rfl rfl rfl rfl
        · intro _ hq; clear hq; go_simp; try rfl
        try simp only [Act.put, pu1, pu2, pu3]
        apply rg_yg (i := 5) Hops rfl hS rfl rfl rfl rfl
        · intro wq hq; obtain ⟨hqc, -⟩ := bcell (show Below wr.heap.size wr wq from hq); clear hq; go_simp; try rfl
        try simp only [Act.put, pu1, pu2, pu3]
        apply rg_yg (i := 6) Hops rfl hS rfl rfl rfl rfl
        · intro _ hq; clear hq; go_simp; try rfl
        try simp only [Act.put, pu1, pu2, pu3]
        apply rg_yg (i := 7) Hops rfl hS rfl rfl rfl rfl
        · intro _ hq; clear hq; go_simp; try rfl
        try simp only [Act.put, pu1, pu2, pu3]
        apply rg_yg (i := 8) Hops rfl hS rfl rfl rfl rfl
        · intro _ hq; clear hq; go_simp; try rfl
        try simp only [Act.put, pu1, pu2, pu3]
        apply rg_yg (i := 9) Hops rfl hS rfl rfl rfl rfl
        · intro wq hq; obtain ⟨hqc, -⟩ := bcell (show Below wr.heap.size wr wq from hq); clear hq; go_simp; try rfl
        try simp only [Act.put, pu1, pu2, pu3]
        refine rg_call (i := 10) (get_of Hops rfl) (fun K hK => ?_)
        have HSrg := Lib.hid hS; clear hS
        refine rg_run (wanted_yes rfl (get_of Hops rfl) rfl rfl) ?_
        go_simp
        refine (HK.out _).mono ?_
        rintro e wr1 ⟨rfl, hbr1⟩
        have hS : Since wr wr1 := bT (w := wr) HSrg.out hbr1
        clear HSrg
        refine hK.out _ _ hS (fun _ => ?_)
        clear hK K
        try simp only [Act.put, pu1, pu2, pu3]
        apply rg_yg (i := 11) Hops rfl hS rfl rfl rfl rfl
        · intro _ hq; clear hq; go_simp; try rfl
        try simp only [Act.put, pu1, pu2, pu3]
        apply rg_yp (i := 12) Hops rfl hS rfl
        · intro _ hq; clear hq; go_simp; try rfl
        try simp only [Act.put, pu1, pu2, pu3]
        refine rg_done ?_
        refine HQrg.down _ _ ?_
        have hB : Below wr.heap.size wr wr1 := hS
        clear hS HQrg Hops
        have Bw := Lib.hid (bT Hb.out hB)
        clear hB
        go_wp2_with fail
        go_roundw
        case rel => exact ⟨m, by omega, by go_num, Bw.out, fun j hj hjk => if e : j = m then by subst e; exact Ho.out else Hon.out j hj (by omega)⟩
        case measure => first | (simp [intOf]; done) | (simp [intOf]; omega)
      · have hz : ¬ offS g y.path[m] = 0 := fun e => ho ((off_on g _).1 e)
        obtain ⟨z, hzz⟩ : ∃ z, offS g y.path[m] = z := ⟨_, rfl⟩
        rw [hzz] at hz
        have hz' : (z == 0) = false := by simpa using hz
        have TK : ∀ W, Calls Tryz.prog 40 #[.agg #[.int .i64 g.side, .bool g.upright, .int .i64 g.line, .int .i64 g.lo, .int .i64 g.hi], .agg #[.int .i64 y.path[m].x, .int .i64 y.path[m].y]] W fun e w' => e = .returned (.int .i64 z) ∧ Below W.heap.size W w' := fun W => by
          have := HO.out y.path[m] W
          rw [hzz] at this
          exact this
        have HK := Lib.hid TK
        have htr := trailN_step (g := g) (l := y.path) (k := m + 1) (by omega) (by omega) (fun j hj hjk => Hon.out j hj (by omega)) (by simpa using ho)
        have hE : leaveS g y = if y.leave ≠ g.side then [] else y.path.drop (m + 1) := by
          unfold leaveS
          rw [htr, if_neg (show ¬ m + 1 = 0 by omega)]
        have HE := Lib.hid hE
        clear TK hz ho hzz htr hE
        go_upto_region 2 with fail
        refine rg_start (Since wr) (.take 0 1 (.take 1 3 (.take 2 7 (.take 3 15 (.take 4 31 (.take 5 63 (.take 6 127 (.take 7 255 (.take 8 511 (.take 9 1023 (.call 10 2047 (.take 11 4095 (.take 12 8191 (.done)))))))))))))) (by kernel_rfl) (bD (bR _)) (by kernel_rfl) (by kernel_rfl) (Nat.le_of_ble_eq_true (by kernel_rfl)) ?_
        intro opsR QR Hops HQrg hS
        apply rg_yp (i := 0) Hops rfl hS rfl
        · intro _ hq; clear hq; go_simp; try rfl
        try simp only [Act.put, pu1, pu2, pu3]
        apply rg_yp (i := 1) Hops rfl hS rfl
        · intro _ hq; clear hq; go_simp; try rfl
        try simp only [Act.put, pu1, pu2, pu3]
        apply rg_yp (i := 2) Hops rfl hS rfl
        · intro _ hq; clear hq; go_simp; try rfl
        try simp only [Act.put, pu1, pu2, pu3]
        apply rg_yg (i := 3) Hops rfl hS rfl rfl rfl rfl
        · intro wq hq; obtain ⟨hqc, -⟩ := bcell (show Below wr.heap.size wr wq from hq); clear hq; go_simp; try rfl
        try simp only [Act.put, pu1, pu2, pu3]
        apply rg_yg (i := 4) Hops rfl hS rfl rfl rfl rfl
        · intro _ hq; clear hq; go_simp; try rfl
        try simp only [Act.put, pu1, pu2, pu3]
        apply rg_yg (i := 5) Hops rfl hS rfl rfl rfl rfl
        · intro wq hq; obtain ⟨hqc, -⟩ := bcell (show Below wr.heap.size wr wq from hq); clear hq; go_simp; try rfl
        try simp only [Act.put, pu1, pu2, pu3]
        apply rg_yg (i := 6) Hops rfl hS rfl rfl rfl rfl
        · intro _ hq; clear hq; go_simp; try rfl
        try simp only [Act.put, pu1, pu2, pu3]
        apply rg_yg (i := 7) Hops rfl hS rfl rfl rfl rfl
        · intro _ hq; clear hq; go_simp; try rfl
        try simp only [Act.put, pu1, pu2, pu3]
        apply rg_yg (i := 8) Hops rfl hS rfl rfl rfl rfl
        · intro _ hq; clear hq; go_simp; try rfl
        try simp only [Act.put, pu1, pu2, pu3]
        apply rg_yg (i := 9) Hops rfl hS rfl rfl rfl rfl
        · intro wq hq; obtain ⟨hqc, -⟩ := bcell (show Below wr.heap.size wr wq from hq); clear hq; go_simp; try rfl
        try simp only [Act.put, pu1, pu2, pu3]
        refine rg_call (i := 10) (get_of Hops rfl) (fun K hK => ?_)
        have HSrg := Lib.hid hS; clear hS
        refine rg_run (wanted_yes rfl (get_of Hops rfl) rfl rfl) ?_
        go_simp
        refine (HK.out _).mono ?_
        rintro e wr1 ⟨rfl, hbr1⟩
        have hS : Since wr wr1 := bT (w := wr) HSrg.out hbr1
        clear HSrg
        refine hK.out _ _ hS (fun _ => ?_)
        clear hK K
        try simp only [Act.put, pu1, pu2, pu3]
        apply rg_yg (i := 11) Hops rfl hS rfl rfl rfl rfl
        · intro _ hq; clear hq; go_simp; try rfl
        try simp only [Act.put, pu1, pu2, pu3]
        apply rg_yp (i := 12) Hops rfl hS rfl
        · intro _ hq; clear hq; go_simp; try rfl
        try simp only [Act.put, pu1, pu2, pu3]
        refine rg_done ?_
        refine HQrg.down _ _ ?_
        have hB : Below wr.heap.size wr wr1 := hS
        clear hS HQrg Hops
        have X2 := X2.keep hB
        have X3 := X3.keep hB
        have Bw := Lib.hid (bT HB0.out (bT Hb.out hB))
        clear hB X2l X2a X2b X2c X2d X2e X3l X3a X3b X3c X3d c0 c1 hlb q6
        try clear X2l
        try clear X2a
        try clear X2b
        try clear X2c
        try clear X2d
        try clear X2e
        try clear X2fa
        try clear X2fb
        try clear X2fc
        try clear X2fd
        try clear X2fe
        obtain ⟨X2l, X2a, X2b, X2c, X2d, X2e, -, -, -, -, -⟩ := X2.facts5
        try clear X3l
        try clear X3a
        try clear X3b
        try clear X3c
        try clear X3d
        try clear X3fa
        try clear X3fb
        try clear X3fc
        try clear X3fd
        obtain ⟨X3l, X3a, X3b, X3c, X3d, -, -, -, -⟩ := X3.facts4
        by_cases he : y.leave = g.side
        · have he' : (y.leave != g.side) = false := by simp [he]
          have hk' : ((m : Int) + 1 == 0) = false := by rw [beq_eq_false_iff_ne]; omega
          have hrun := run_cut Tryz.underlying60 sizeOf_pt (some ⟨b, o, none⟩) y.path.length c (m + 1) (by omega) ((m : Int) + 1) (by omega)
          have He := Lib.hid he; clear he
          go_wp2_with fail
          go_ret
          refine ⟨_, rfl, Bw.out, ?_⟩
          rw [HE.out, if_neg (fun h => h He.out)]
          exact fun W hW => Sl.from_ ptC_len hW (m + 1) (by omega)
        · have he' : (y.leave != g.side) = true := by simp [he]
          have He := Lib.hid he; clear he
          go_wp2_with fail
          go_ret
          refine ⟨_, rfl, Bw.out, ?_⟩
          rw [HE.out, if_pos He.out]
          exact fun W _ => Sl.nil _
    case inl =>
    subst hk0
    have htr := trailN_end (g := g) (l := y.path) (fun j hj => Hon.out j hj (by omega))
    have hE : leaveS g y = if y.leave ≠ g.side then [] else if y.enter = 0 ∨ y.enter = g.side then [] else y.path.drop (if 1 < y.path.length then 1 else 0) := by
      unfold leaveS
      rw [htr, if_pos rfl]
    have HE := Lib.hid hE
    clear htr hE
    go_upto_region 2 with fail
    refine rg_start (Since wr) (.take 0 1 (.take 1 3 (.take 2 7 (.take 3 15 (.take 4 31 (.take 5 63 (.take 6 127 (.take 7 255 (.take 8 511 (.take 9 1023 (.take 10 2047 (.take 11 4095 (.take 12 8191 (.done)))))))))))))) (by kernel_rfl) (bD (bR _)) (by kernel_rfl) (by kernel_rfl) (Nat.le_of_ble_eq_true (by kernel_rfl)) ?_
    intro opsR QR Hops HQrg hS
    apply rg_yp (i := 0) Hops rfl hS rfl
    · intro _ hq; clear hq; go_simp; try rfl
    try simp only [Act.put, pu1, pu2, pu3]
    apply rg_yp (i := 1) Hops rfl hS rfl
    · intro _ hq; clear hq; go_simp; try rfl
    try simp only [Act.put, pu1, pu2, pu3]
    apply rg_yp (i := 2) Hops rfl hS rfl
    · intro _ hq; clear hq; go_simp; try rfl
    try simp only [Act.put, pu1, pu2, pu3]
    refine rg_yn (i := 3) Hops rfl hS rfl rfl rfl rfl rfl ?_
    try simp only [Act.put, pu1, pu2, pu3]
    refine rg_yn (i := 4) Hops rfl hS rfl rfl rfl rfl rfl ?_
    try simp only [Act.put, pu1, pu2, pu3]
    refine rg_yn (i := 5) Hops rfl hS rfl rfl rfl rfl rfl ?_
    try simp only [Act.put, pu1, pu2, pu3]
    refine rg_yn (i := 6) Hops rfl hS rfl rfl rfl rfl rfl ?_
    try simp only [Act.put, pu1, pu2, pu3]
    refine rg_yn (i := 7) Hops rfl hS rfl rfl rfl rfl rfl ?_
    try simp only [Act.put, pu1, pu2, pu3]
    refine rg_yn (i := 8) Hops rfl hS rfl rfl rfl rfl rfl ?_
    try simp only [Act.put, pu1, pu2, pu3]
    refine rg_yn (i := 9) Hops rfl hS rfl rfl rfl rfl rfl ?_
    try simp only [Act.put, pu1, pu2, pu3]
    refine rg_yn (i := 10) Hops rfl hS rfl rfl rfl rfl rfl ?_
    try simp only [Act.put, pu1, pu2, pu3]
    refine rg_yn (i := 11) Hops rfl hS rfl rfl rfl rfl rfl ?_
    try simp only [Act.put, pu1, pu2, pu3]
    apply rg_yp (i := 12) Hops rfl hS rfl
    · intro _ hq; clear hq; go_simp; try rfl
    try simp only [Act.put, pu1, pu2, pu3]
    refine rg_done ?_
    refine HQrg.down _ _ ?_
    have hB : Below wr.heap.size wr wr.drew := hS
    clear hS HQrg Hops
    have X2 := X2.keep hB
    have X3 := X3.keep hB
    have Bw := Lib.hid (bT HB0.out (bT Hb.out hB))
    clear hB X2l X2a X2b X2c X2d X2e X3l X3a X3b X3c X3d
    try clear X2l
    try clear X2a
    try clear X2b
    try clear X2c
    try clear X2d
    try clear X2e
    try clear X2fa
    try clear X2fb
    try clear X2fc
    try clear X2fd
    try clear X2fe
    obtain ⟨X2l, X2a, X2b, X2c, X2d, X2e, -, -, -, -, -⟩ := X2.facts5
    try clear X3l
    try clear X3a
    try clear X3b
    try clear X3c
    try clear X3d
    try clear X3fa
    try clear X3fb
    try clear X3fc
    try clear X3fd
    obtain ⟨X3l, X3a, X3b, X3c, X3d, -, -, -, -⟩ := X3.facts4
    by_cases he : y.leave = g.side
    case neg =>
      have he' : (y.leave != g.side) = true := by simp [he]
      have He := Lib.hid he; clear he
      go_wp2_with fail
      go_ret
      refine ⟨_, rfl, Bw.out, ?_⟩
      rw [HE.out, if_pos He.out]
      exact fun W _ => Sl.nil _
    have he' : (y.leave != g.side) = false := by simp [he]
    have He := Lib.hid he; clear he
    by_cases hv : y.enter = 0 ∨ y.enter = g.side
    · have hv' : (y.enter == 0) = true ∨ ((y.enter == 0) = false ∧ (y.enter == g.side) = true) := by
        by_cases h0 : y.enter = 0
        · left; simp [h0]
        · right; exact ⟨by simpa using h0, by rcases hv with h | h <;> simp_all⟩
      have Hv := Lib.hid hv; clear hv
      rcases hv' with h1 | ⟨h1, h2⟩
      all_goals
        go_wp2_with fail
        go_ret
        refine ⟨_, rfl, Bw.out, ?_⟩
        rw [HE.out, if_neg (fun h => h He.out), if_pos Hv.out]
        exact fun W _ => Sl.nil _
    · have h1 : (y.enter == 0) = false := by simp; omega
      have h2 : (y.enter == g.side) = false := by simp; omega
      have Hv := Lib.hid hv; clear hv
      by_cases h3 : 1 < y.path.length
      · have hrun := run_cut Tryz.underlying60 sizeOf_pt A y.path.length c 1 (by omega) 1 (by omega)
        have h4 : 1 < (y.path.length : Int) := by omega
        go_wp2_with fail
        go_ret
        refine ⟨_, rfl, Bw.out, ?_⟩
        rw [HE.out, if_neg (fun h => h He.out), if_neg Hv.out, if_pos h3]
        exact fun W hW => Sl.from_ ptC_len hW _ (by omega)
      · have hrun := run_cut Tryz.underlying60 sizeOf_pt A y.path.length c 0 (by omega) 0 (by omega)
        have h4 : ¬ 1 < (y.path.length : Int) := by omega
        go_wp2_with fail
        go_ret
        refine ⟨_, rfl, Bw.out, ?_⟩
        rw [HE.out, if_neg (fun h => h He.out), if_neg Hv.out, if_neg h3]
        exact fun W hW => Sl.from_ ptC_len hW _ (by omega)

def closedS (g : Ed) (S : Pt → Bool) (p : Pt) : Bool := decide (alongS g p ≤ g.lo) || (decide (g.hi ≤ alongS g p) || S p)
theorem closed_strict (g : Ed) (l : List Nd) (p : Pt) : (!closedS g (inS l) p) = strictS g l p := by
  unfold closedS strictS inS
  cases l.any fun n => decide (n.pt = p)
  · by_cases h1 : alongS g p ≤ g.lo
    · simp [h1, show ¬ g.lo < alongS g p by omega]
    · by_cases h2 : g.hi ≤ alongS g p
      · simp [h2, show ¬ alongS g p < g.hi by omega]
      · simp [h1, h2, show g.lo < alongS g p by omega, show alongS g p < g.hi by omega]
  · simp
def edB (g : Ed) : Array Value := #[.int .i64 g.side, .bool g.upright, .int .i64 g.line, .int .i64 g.lo, .int .i64 g.hi]

set_option maxRecDepth 100000 in
set_option maxHeartbeats 1000000 in
theorem open1_spec (g : Ed) (p : Pt) (ge gm b n : Nat) (S : Pt → Bool) (w : World) (h1 : Blk w ge 66 (edB g)) (h2 : Blk w gm 69 #[.map (some b)]) (h3 : MapSet w b n S) (hp : wfPt p) :
    Calls Tryz.prog 63 #[ptV p, .pointer (some ⟨ge, 0, none⟩), .pointer (some ⟨gm, 0, none⟩)] w fun e w' => e = .returned (.bool (closedS g S p)) ∧ Below w.heap.size w w' := by
  have TA := along_spec g p
  unfold edV ptV at TA
  unfold edB at h1
  unfold ptV closedS
  have HA := Lib.hid TA; clear TA
  have HE := Lib.hid h1; have HM := Lib.hid h2; have HS := Lib.hid h3
  clear h3
  generalize alongS g p = z at *
  try clear h1l
  try clear h1a
  try clear h1b
  try clear h1c
  try clear h1d
  try clear h1e
  try clear h1fa
  try clear h1fb
  try clear h1fc
  try clear h1fd
  try clear h1fe
  obtain ⟨h1l, h1a, h1b, h1c, h1d, h1e, -, -, -, -, -⟩ := h1.facts5
  try clear h2l
  try clear h2a
  try clear h2fa
  obtain ⟨h2l, h2a, -⟩ := h2.facts1
  go_enter Tryz.func63, Tryz.ntmps63
  go_wp2_with fail
  refine (HA.out _).mono ?_
  rintro e w1 ⟨rfl, hb1⟩
  have Bw := Lib.hid (bT (bA (bR w) _) hb1)
  have X3 : Blk w1 w.heap.size 42 #[.int .i64 p.x, .int .i64 p.y] := (Blk.made rfl _ _).keep hb1
  have h1 := HE.out.keep Bw.out
  have h2 := HM.out.keep Bw.out
  have hlk := (HS.out.keep Bw.out).look p hp
  clear hb1 h1l h1a h1b h1c h1d h1e h2l h2a
  try clear h1l
  try clear h1a
  try clear h1b
  try clear h1c
  try clear h1d
  try clear h1e
  try clear h1fa
  try clear h1fb
  try clear h1fc
  try clear h1fd
  try clear h1fe
  obtain ⟨h1l, h1a, h1b, h1c, h1d, h1e, -, -, -, -, -⟩ := h1.facts5
  try clear h2l
  try clear h2a
  try clear h2fa
  obtain ⟨h2l, h2a, -⟩ := h2.facts1
  try clear X3l
  try clear X3a
  try clear X3b
  try clear X3fa
  try clear X3fb
  obtain ⟨X3l, X3a, X3b, -, -⟩ := X3.facts2
  by_cases hz1 : z ≤ g.lo
  · go_wp2_with fail
    go_ret
    exact ⟨ret_bool (by rw [decide_eq_true (show z ≤ g.lo by omega)]; rfl), Bw.out⟩
  · by_cases hz2 : g.hi ≤ z
    · go_wp2_with fail
      go_ret
      exact ⟨ret_bool (by rw [decide_eq_false (show ¬ z ≤ g.lo by omega), decide_eq_true (show g.hi ≤ z by omega)]; rfl), Bw.out⟩
    · go_wp2_with fail
      go_ret
      exact ⟨ret_bool (by rw [decide_eq_false (show ¬ z ≤ g.lo by omega), decide_eq_false (show ¬ g.hi ≤ z by omega)]; rfl), Bw.out⟩

set_option maxRecDepth 100000 in
set_option maxHeartbeats 1000000 in
theorem open_spec (g : Ed) (run : List Pt) (v : Value) (b n : Nat) (l : List Nd) (w : World) (h : Pts w v run) (h3 : MapSet w b n (inS l)) (hp : ∀ p ∈ run, wfPt p) :
    Calls Tryz.prog 29 #[edV g, v, .map (some b)] w fun e w' => e = .returned (.bool (openS g l run)) ∧ Below w.heap.size w w' := by
  obtain ⟨A, c, rfl, hn, hc, hR⟩ := h
  unfold maxLen at hc
  unfold edV openS firstP lastP
  by_cases hpos : 0 < run.length
  case neg =>
    have h0 : ((run.length : Int) == 0) = true := by rw [beq_iff_eq]; omega
    have hf := Lib.hid hpos
    clear hpos
    go_enter Tryz.func29, Tryz.ntmps29
    go_wp2_with fail
    go_ret
    exact ⟨ret_bool (by simp [hf.out]), bA (bA (bR w) _) _⟩
  obtain ⟨b1, o1, rfl, hlb, c0, c1⟩ := hR.pt hpos
  obtain ⟨b2, o2, e2, -, d0, d1⟩ := hR.pt (k := run.length - 1) (by omega)
  simp only [Option.some.injEq, Addr.mk.injEq, and_true] at e2
  obtain ⟨rfl, rfl⟩ := e2
  have e1 : run.getD 0 ⟨0, 0⟩ = run[0] := by simp [List.getD, List.getElem?_eq_getElem hpos]
  have e2 : run.getD (run.length - 1) ⟨0, 0⟩ = run[run.length - 1] := by simp [List.getD, List.getElem?_eq_getElem (show run.length - 1 < run.length by omega)]
  rw [e1, e2, ← closed_strict, ← closed_strict]
  have hw1 := hp _ (List.getElem_mem hpos)
  have hw2 := hp _ (List.getElem_mem (show run.length - 1 < run.length by omega))
  clear e1 e2 hR
  generalize run[0] = P0 at *
  generalize run[run.length - 1] = P1 at *
  obtain ⟨N, hN⟩ : ∃ N, run.length = N + 1 := ⟨run.length - 1, by omega⟩
  rw [hN] at d0 d1 hn ⊢
  simp only [Nat.add_sub_cancel] at d0 d1
  simp only [Nat.zero_mul, Nat.add_zero] at c0 c1
  have hd : decide (0 < N + 1) = true := by simp
  rw [hd, Bool.true_and]
  clear hd hN hpos
  have h0 : ((N : Int) + 1 == 0) = false := by rw [beq_eq_false_iff_ne]; omega
  have TC : ∀ (p : Pt) (ge gm : Nat) (W : World), Below w.heap.size w W → Blk W ge 66 (edB g) → Blk W gm 69 #[.map (some b)] → wfPt p → Calls Tryz.prog 63 #[ptV p, .pointer (some ⟨ge, 0, none⟩), .pointer (some ⟨gm, 0, none⟩)] W _ := fun p ge gm W hb x1 x2 hw => open1_spec g p ge gm b n (inS l) W x1 x2 (h3.keep hb) hw
  unfold ptV at TC
  have HC := Lib.hid TC; have HW1 := Lib.hid hw1; have HW2 := Lib.hid hw2
  clear TC hw1 hw2 h3 hp
  generalize hz1 : closedS g (inS l) P0 = z1 at *
  generalize hz2 : closedS g (inS l) P1 = z2 at *
  have Hz1 := Lib.hid hz1; have Hz2 := Lib.hid hz2
  clear hz1 hz2
  go_enter Tryz.func29, Tryz.ntmps29
  go_upto_region 4 with fail
  obtain ⟨W0, hW0⟩ : ∃ W0 : World, W0 = (w.alloc (.cells #[.int .i64 g.side, .bool g.upright, .int .i64 g.line, .int .i64 g.lo, .int .i64 g.hi] 66)).alloc (.cells #[.map (some b)] 69) := ⟨_, rfl⟩
  have X3 : Blk W0 w.heap.size 66 (edB g) := by rw [hW0]; exact (Blk.made rfl _ _).alloc _
  have X5 : Blk W0 (w.heap.size + 1) 69 #[.map (some b)] := by rw [hW0]; exact Blk.made (by simp) _ _
  have HB0 := Lib.hid (show Below w.heap.size w W0 by rw [hW0]; exact bA (bA (bR w) _) _)
  rw [← hW0]
  clear hW0
  obtain ⟨bc, -⟩ := bcell HB0.out
  replace c0 := (bc b1 _ hlb).trans c0
  replace c1 := (bc b1 _ hlb).trans c1
  have HD : Hid (w.cell? ⟨b1, o1 + N * 2, none⟩ = some (.int .i64 P1.x) ∧ w.cell? ⟨b1, o1 + N * 2 + 1, none⟩ = some (.int .i64 P1.y)) := Lib.hid ⟨d0, d1⟩
  clear d0 d1 bc
  have HX3 := Lib.hid X3; have HX5 := Lib.hid X5
  have q1 : 0 ≤ (N : Int) := by omega
  have q2 : (N : Int) < (N : Int) + 1 := by omega
  have q3 : 0 < (N : Int) + 1 := by omega
  clear X3 X5
  go_wp2_with fail
  refine (HC.out P0 _ _ _ HB0.out HX3.out HX5.out HW1.out).mono ?_
  rintro e w1 ⟨rfl, hb1⟩
  rw [Hz1.out]
  have HB1 := Lib.hid (bT HB0.out hb1)
  replace HX3 := Lib.hid (HX3.out.keep hb1)
  replace HX5 := Lib.hid (HX5.out.keep hb1)
  obtain ⟨bc, -⟩ := bcell HB1.out
  have d0 := (bc b1 _ hlb).trans HD.out.1
  have d1 := (bc b1 _ hlb).trans HD.out.2
  clear hb1 bc c0 c1
  have q6 : IntKind.i64.wrap (N : Int) = (N : Int) := IntWalk.i64_in _ (by omega)
  cases z1
  · go_wp2_with fail
    refine (HC.out P1 _ _ _ HB1.out HX3.out HX5.out HW2.out).mono ?_
    rintro e w2 ⟨rfl, hb2⟩
    rw [Hz2.out]
    go_wp2_with fail
    go_ret
    exact ⟨ret_bool (by simp), bT HB1.out hb2⟩
  · go_wp2_with fail
    go_ret
    exact ⟨ret_bool (by simp), HB1.out⟩
end Go.Proofs.YtbjlnnfmcjbnhaaGreatDoor
namespace Go.Proofs.YtbjlnnfmcjbnhaaGreatDoor
open Go.RowKit

set_option maxHeartbeats 1000000 in
theorem RArc_spec (v : Value) (p : Pl) (id : Int) (w : World) (h : PlV w v p) (hsh : Short p) :
    Calls Tryz.prog 83 #[v, .int .i64 id] w (ArRes w (findAr p.arcs id)) := by
  obtain ⟨vn, _, vf, al, rfl, hpa, -, ⟨⟨An, cn, rfl, hn1, hn2, hR⟩, hV⟩, -⟩ := h
  unfold maxLen at hn2
  unfold Short at hsh
  rw [hpa] at hsh ⊢
  clear hpa
  have hsh' : ∀ k (hk : k < al.length), al[k].1.via.length ≤ 1048576 := fun k hk => hsh _ (List.mem_map_of_mem (List.getElem_mem hk))
  have HV := Lib.hid hV; clear hV hsh
  have HSh := Lib.hid hsh'; clear hsh'
  go_enter Tryz.func83, Tryz.ntmps83
  go_wp2_with fail
  go_loopw [6] (fun i wr => ∃ k : Nat, k ≤ al.length ∧ i = .int .i64 k ∧ Below w.heap.size w wr ∧ Blk wr w.heap.size 40 #[vn, .slice An al.length cn, vf] ∧ Blk wr (w.heap.size + 1) 82 #[.int .i64 0, .int .i64 0, .int .i64 0, .slice none 0 0, .int .i64 0, .int .i64 0] ∧ ∀ j (hj : j < al.length), j < k → (al[j].1.id == id) = false) (fun i _ => al.length - (intOf i).toNat)
  case atStart => exact ⟨0, Nat.zero_le _, rfl, bA (bA (bR w) _) _, (Blk.made rfl _ _).alloc _, Blk.made (by simp) _ _, fun j _ h => by omega⟩
  case round =>
    obtain ⟨k, hk, rfl, hb, X2, X4, hno⟩ := hrel
    have Hb := Lib.hid hb
    have Hno := Lib.hid hno
    clear hb hno
    try clear X2l
    try clear X2a
    try clear X2b
    try clear X2c
    try clear X2fa
    try clear X2fb
    try clear X2fc
    obtain ⟨X2l, X2a, X2b, X2c, -, -, -⟩ := X2.facts3
    try clear X4l
    try clear X4a
    try clear X4b
    try clear X4c
    try clear X4d
    try clear X4e
    try clear X4f
    try clear X4fa
    try clear X4fb
    try clear X4fc
    try clear X4fd
    try clear X4fe
    try clear X4ff
    obtain ⟨X4l, X4a, X4b, X4c, X4d, X4e, X4f, X4fa, X4fb, X4fc, X4fd, X4fe, X4ff⟩ := X4.facts6
    by_cases hlt : k < al.length
    · obtain ⟨b, o, rfl, hlb, c0, c1, c2, c3, c4, c5⟩ := (hR.mono Hb.out).ar hlt
      have HR := Lib.hid hR; clear hR
      have hvk := (HV.out k hlt)
      obtain ⟨Av, cv, hv, -⟩ := hvk
      have hvk := (HV.out k hlt)
      rw [hv] at c3 hvk
      have Hvk := Lib.hid hvk; clear hvk hv
      cases he : (al[k].1.id == id)
      · go_wp2
        go_roundw
        case rel => exact ⟨k + 1, by omega, by go_num, Hb.out, X2, X4, all_succ (p := fun x => (x.1.id == id) = false) Hno.out hlt he⟩
        case measure => simp [intOf]; omega
      · have hf := findAr_hit al id k hlt Hno.out he
        have Hf := Lib.hid hf; clear hf
        have hsv := HSh.out k hlt
        go_wp2_with
          (at_builtin
           refine wpList_appl _ rfl (.tmp 28) (.tmp 30) _ rfl (base := wr.heap.size + 1) elem_pt ptC_len ptC_one rfl (Own.lit _ _ _ _ ptC [] _ 0 _ (by simp) rfl (by simp) (le_maxLen (by omega)) rfl rfl) rfl (Hvk.out.mono (bA (bA Hb.out _) _)) (by simp only [List.length_nil]; omega) (by simp only [List.length_nil]; omega) (by simp) ?_
           intro v1 w1 hown hg hat
           have hb1 : Below (wr.alloc (.cells #[.int .i64 al[k].1.id, .int .i64 al[k].1.fr, .int .i64 al[k].1.dst, .slice Av al[k].1.via.length cv, .int .i64 al[k].1.left, .int .i64 al[k].1.right] 82)).heap.size (wr.alloc (.cells #[.int .i64 al[k].1.id, .int .i64 al[k].1.fr, .int .i64 al[k].1.dst, .slice Av al[k].1.via.length cv, .int .i64 al[k].1.left, .int .i64 al[k].1.right] 82)) w1 := bG (bA (bR _) _) hg (fun g hk => by have : wr.heap.size + 1 = g := Option.some.inj hk; simp; omega)
           simp only [List.nil_append] at hown
           obtain ⟨A1, cc1, rfl, -⟩ := Own.sl hown
           have Hown := Lib.hid hown
           have Bw : Below w.heap.size w w1 := bT (bA Hb.out _) hb1
           have X7 : Blk w1 wr.heap.size 82 #[.int .i64 al[k].1.id, .int .i64 al[k].1.fr, .int .i64 al[k].1.dst, .slice Av al[k].1.via.length cv, .int .i64 al[k].1.left, .int .i64 al[k].1.right] := (Blk.made rfl _ _).keep hb1
           have hw8 : w.heap.size + 1 < wr.heap.size := by omega
           have hw7 : w.heap.size + 1 ≠ wr.heap.size := by omega
           replace X4 := (X4.alloc _).keep hb1
           clear hb1 c0 c1 c2 c3 c4 c5 hlb hown hg hat
           try clear X4l
           try clear X4a
           try clear X4b
           try clear X4c
           try clear X4d
           try clear X4e
           try clear X4f
           try clear X4fa
           try clear X4fb
           try clear X4fc
           try clear X4fd
           try clear X4fe
           try clear X4ff
           obtain ⟨X4l, X4a, X4b, X4c, X4d, X4e, X4f, X4fa, X4fb, X4fc, X4fd, X4fe, X4ff⟩ := X4.facts6
           try clear X7l
           try clear X7a
           try clear X7b
           try clear X7c
           try clear X7d
           try clear X7e
           try clear X7f
           try clear X7fa
           try clear X7fb
           try clear X7fc
           try clear X7fd
           try clear X7fe
           try clear X7ff
           obtain ⟨X7l, X7a, X7b, X7c, X7d, X7e, X7f, X7fa, X7fb, X7fc, X7fd, X7fe, X7ff⟩ := X7.facts6
           )
        have hszr := Hb.out.size
        have ne7 : (Value.slice A1 al[k].1.via.length cc1).ownBlock ≠ some wr.heap.size := fun e => by have := (Hown.out.lt _ e).1; omega
        have ne4 : (Value.slice A1 al[k].1.via.length cc1).ownBlock ≠ some (w.heap.size + 1) := fun e => by have := (Hown.out.lt _ e).1; omega
        have HP := Own.sl (((((((Hown.out.far (p := ⟨wr.heap.size, 3, none⟩) ne7 (.slice A1 al[k].1.via.length cc1)).far (p := ⟨w.heap.size + 1, 0, none⟩) ne4 (.int .i64 al[k].1.id)).far (p := ⟨w.heap.size + 1, 1, none⟩) ne4 (.int .i64 al[k].1.fr)).far (p := ⟨w.heap.size + 1, 2, none⟩) ne4 (.int .i64 al[k].1.dst)).far (p := ⟨w.heap.size + 1, 3, none⟩) ne4 (.slice A1 al[k].1.via.length cc1)).far (p := ⟨w.heap.size + 1, 4, none⟩) ne4 (.int .i64 al[k].1.left)).far (p := ⟨w.heap.size + 1, 5, none⟩) ne4 (.int .i64 al[k].1.right))
        refine res_cell_tmp (g := w.heap.size + 1) (cs := #[.int .i64 al[k].1.id, .int .i64 al[k].1.fr, .int .i64 al[k].1.dst, .slice A1 al[k].1.via.length cc1, .int .i64 al[k].1.left, .int .i64 al[k].1.right]) rfl struct_ar rfl rfl (Blk.put6 (X4.far (p := ⟨wr.heap.size, 3, none⟩) hw7 _)) ⟨.slice A1 al[k].1.via.length cc1, by rw [Hf.out]; rfl, ?_, by rw [Hf.out]; exact HP⟩
        repeat (first | with_reducible exact bR _ | with_reducible assumption | with_reducible refine bA ?_ _ | with_reducible refine bD ?_ | with_reducible refine bN ?_ _ | ((with_reducible refine bS ?_ ?_ _); rotate_left; (simp; try omega)) | ((with_reducible refine bT ?_ ?_); rotate_left; with_reducible assumption) | with_reducible refine bT ?_ (by assumption))
    · have hf := findAr_miss al id (fun j hj => Hno.out j hj (by omega))
      have Hf := Lib.hid hf; clear hf
      go_wp2
      have Bw := Hb.out
      refine res_cell_tmp (g := w.heap.size + 1) (cs := #[.int .i64 0, .int .i64 0, .int .i64 0, .slice none 0 0, .int .i64 0, .int .i64 0]) rfl struct_ar rfl rfl (Blk.put6 X4) ⟨.slice none 0 0, by rw [Hf.out]; rfl, ?_, by rw [Hf.out]; exact Sl.nil _⟩
      repeat (first | with_reducible exact bR _ | with_reducible assumption | with_reducible refine bA ?_ _ | with_reducible refine bD ?_ | with_reducible refine bN ?_ _ | ((with_reducible refine bS ?_ ?_ _); rotate_left; (simp; try omega)) | ((with_reducible refine bT ?_ ?_); rotate_left; with_reducible assumption) | with_reducible refine bT ?_ (by assumption))

/-- How many ends of arcs lie at a node. -/
def degS (l : List Ar) (id : Int) : Int := (l.map fun a => (if a.fr = id then (1 : Int) else 0) + (if a.dst = id then 1 else 0)).sum
theorem degS_bd (l : List Ar) (id : Int) : 0 ≤ degS l id ∧ degS l id ≤ 2 * l.length := by
  unfold degS
  induction l with
  | nil => simp
  | cons a l ih =>
    simp only [List.map_cons, List.sum_cons, List.length_cons]
    split <;> split <;> omega
theorem degS_succ (al : List (Ar × Value)) (id : Int) (k : Nat) (hk : k < al.length) :
    degS ((al.take (k + 1)).map (·.1)) id = degS ((al.take k).map (·.1)) id + ((if al[k].1.fr = id then (1 : Int) else 0) + (if al[k].1.dst = id then 1 else 0)) := by
  unfold degS
  rw [List.take_succ_eq_append_getElem hk]
  simp only [List.map_append, List.sum_append, List.map_cons, List.map_nil, List.sum_cons, List.sum_nil]
  omega

end Go.Proofs.YtbjlnnfmcjbnhaaGreatDoor
namespace Go.Proofs.YtbjlnnfmcjbnhaaGreatDoor
open Go.RowKit

def asc (l : List Int) : Bool := (List.range (l.length - 1)).all fun j => decide (l.getD j 0 < l.getD (j + 1) 0)
theorem asc_yes (l : List Int) (h : ∀ j (hj : j + 1 < l.length), l[j] < l[j + 1]) : asc l = true := by
  unfold asc
  rw [List.all_eq_true]
  intro j hj
  have hj' : j + 1 < l.length := by have := List.mem_range.1 hj; omega
  have := h j hj'
  simp [List.getD, List.getElem?_eq_getElem hj', List.getElem?_eq_getElem (show j < l.length by omega), this]
theorem asc_no (l : List Int) (j : Nat) (hj : j + 1 < l.length) (h : ¬ l[j] < l[j + 1]) : asc l = false := by
  unfold asc
  rw [List.all_eq_false]
  refine ⟨j, List.mem_range.2 (by omega), ?_⟩
  simp [List.getD, List.getElem?_eq_getElem hj, List.getElem?_eq_getElem (show j < l.length by omega)]
  omega

set_option maxHeartbeats 400000 in
theorem ascending_spec (v : Value) (l : List Int) (w : World) (h : Ints w v l) :
    Calls Tryz.prog 72 #[v] w fun e w' => e = .returned (.bool (asc l)) ∧ Below w.heap.size w w' := by
  obtain ⟨A, c, rfl, hn, hc, hR⟩ := h
  unfold maxLen at hc
  go_enter Tryz.func72, Tryz.ntmps72
  go_wp2_with fail
  go_loopw [3] (fun i wr => ∃ m : Nat, i = .int .i64 ((m : Int) + 1) ∧ (m = 0 ∨ m + 1 ≤ l.length) ∧ Below w.heap.size w wr ∧ ∀ j (hj : j + 1 < l.length), j < m → l[j] < l[j + 1]) (fun i _ => l.length + 1 - (intOf i).toNat)
  case atStart => exact ⟨0, rfl, .inl rfl, bR w, fun j _ h => by omega⟩
  case round =>
    obtain ⟨m, rfl, hm, hb, hno⟩ := hrel
    have Hb := Lib.hid hb
    have Hno := Lib.hid hno
    clear hb hno
    by_cases hlt : m + 1 < l.length
    · obtain ⟨b, o, rfl, hlb, c1⟩ := (hR.mono Hb.out).int hlt
      obtain ⟨b', o', e, hlb', c0⟩ := (hR.mono Hb.out).int (show m < l.length by omega)
      simp only [Option.some.injEq, Addr.mk.injEq, and_true] at e
      obtain ⟨rfl, rfl⟩ := e
      have HR := Lib.hid hR; clear hR hm
      have q1 : IntKind.i64.wrap (m : Int) = m := IntWalk.i64_in _ (by omega)
      have q2 : 0 ≤ (m : Int) := by omega
      have q3 : (m : Int) < l.length := by omega
      have q4 : (m : Int) + 1 < l.length := by omega
      have q5 : 0 ≤ (m : Int) + 1 := by omega
      have q6 : ((m : Int) + 1).toNat = m + 1 := by omega
      go_upto_region 4 with fail
      refine rg_start (Since wr) (.take 0 1 (.take 1 3 (.take 2 7 (.take 3 15 (.take 4 31 (.take 5 63 (.take 6 127 (.take 7 255 (.take 8 511 (.take 9 1023 (.done))))))))))) (by kernel_rfl) (bD (bR _)) (by kernel_rfl) (by kernel_rfl) (Nat.le_of_ble_eq_true (by kernel_rfl)) ?_
      intro opsR QR Hops HQrg hS
      apply rg_yp (i := 0) Hops rfl hS rfl
      · intro _ hq; clear hq; go_simp; try rfl
      try simp only [Act.put, pu1, pu2, pu3]
      apply rg_yp (i := 1) Hops rfl hS rfl
      · intro _ hq; clear hq; go_simp; try rfl
      try simp only [Act.put, pu1, pu2, pu3]
      apply rg_yp (i := 2) Hops rfl hS rfl
      · intro _ hq; clear hq; go_simp; try rfl
      try simp only [Act.put, pu1, pu2, pu3]
      apply rg_yp (i := 3) Hops rfl hS rfl
      · intro _ hq; clear hq; go_simp; try rfl
      try simp only [Act.put, pu1, pu2, pu3]
      apply rg_yp (i := 4) Hops rfl hS rfl
      · intro wq hq; obtain ⟨hqc, -⟩ := bcell (show Below wr.heap.size wr wq from hq); clear hq; go_simp; try rfl
      try simp only [Act.put, pu1, pu2, pu3]
      apply rg_yp (i := 5) Hops rfl hS rfl
      · intro _ hq; clear hq; go_simp; try rfl
      try simp only [Act.put, pu1, pu2, pu3]
      apply rg_yp (i := 6) Hops rfl hS rfl
      · intro _ hq; clear hq; go_simp; try rfl
      try simp only [Act.put, pu1, pu2, pu3]
      apply rg_yp (i := 7) Hops rfl hS rfl
      · intro _ hq; clear hq; go_simp; try rfl
      try simp only [Act.put, pu1, pu2, pu3]
      apply rg_yp (i := 8) Hops rfl hS rfl
      · intro wq hq; obtain ⟨hqc, -⟩ := bcell (show Below wr.heap.size wr wq from hq); clear hq; go_simp; try rfl
      try simp only [Act.put, pu1, pu2, pu3]
      apply rg_yp (i := 9) Hops rfl hS rfl
      · intro _ hq; clear hq; go_simp; try rfl
      try simp only [Act.put, pu1, pu2, pu3]
      refine rg_done ?_
      refine HQrg.down _ _ ?_
      have hB : Below wr.heap.size wr wr.drew := hS
      clear hS HQrg Hops
      have Bw : Below w.heap.size w wr.drew := bT Hb.out hB
      clear hB
      by_cases hlt2 : l[m] < l[m + 1]
      · go_wp2_with fail
        go_roundw
        case rel => exact ⟨m + 1, by go_num, .inr (by omega), Bw, fun j hj hjm => if e : j < m then Hno.out j hj e else by
            have : j = m := by omega
            subst this; exact hlt2⟩
        case measure => simp [intOf]; omega
      · have hf := Lib.hid (asc_no l m hlt hlt2)
        go_wp2_with fail
        go_ret
        exact ⟨ret_bool hf.out.symm, Bw⟩
    · have hf := Lib.hid (asc_yes l fun j hj => Hno.out j hj (by omega))
      go_wp2_with fail
      go_ret
      exact ⟨ret_bool hf.out.symm, Hb.out⟩
end Go.Proofs.YtbjlnnfmcjbnhaaGreatDoor
namespace Go.Proofs.YtbjlnnfmcjbnhaaGreatDoor
open Go.RowKit

theorem eq_of_all {α : Type} {a b : List α} (hl : a.length = b.length) (h : ∀ j (hj : j < a.length), a[j] = b[j]) : a = b :=
  List.ext_getElem hl fun j h1 _ => h j h1
theorem ne_of_at {α : Type} {a b : List α} (j : Nat) (hj : j < a.length) (hj' : j < b.length) (h : ¬ a[j] = b[j]) : ¬ a = b := by
  rintro rfl; exact h rfl

end Go.Proofs.YtbjlnnfmcjbnhaaGreatDoor
