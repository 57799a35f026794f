/- mapsheetsref42: entering, leaving. (printed by gen/refed.py) -/
import Derived.Test.YtbjlnnfmcjbnhaaGreatDoorJ17
set_option linter.unusedSimpArgs false
set_option linter.unusedVariables false
namespace Go.Proofs.YtbjlnnfmcjbnhaaGreatDoor
open Go.RowKit

set_option maxRecDepth 100000 in
set_option maxHeartbeats 4000000 in
theorem rentering_spec (g : Ed) (y : Pc) (v : Value) (w : World) (h : Pts w v y.path) :
    Calls Tryz.prog 34 #[redV g, pcV y v, .int .i64 g.side] w fun e w' => ∃ v', e = .returned v' ∧ Below w.heap.size w w' ∧ ∀ W, Pts W v y.path → Pts W v' (enterS g y) := by
  have HP := Lib.hid h
  obtain ⟨A, c, rfl, hn, hc, hR⟩ := h
  unfold maxLen at hc
  have HR := Lib.hid hR; clear hR
  have TO := ron_spec g
  unfold redV ptV at TO
  have TAll : ∀ W, Below w.heap.size w W → Calls Tryz.prog 68 #[redV g, .slice A y.path.length c] W _ := fun W hW => all_spec g _ y.path W (HP.out.mono hW)
  unfold redV at TAll
  have HO := Lib.hid TO; have HAll := Lib.hid TAll
  clear TO TAll
  unfold redV pcV
  go_enter Tryz.func34, Tryz.ntmps34
  go_upto_region 1 with fail
  obtain ⟨W0, hW0⟩ : ∃ W0 : World, W0 = (w.alloc (.cells #[.bool g.upright, .int .i64 g.line, .int .i64 g.lo, .int .i64 g.hi, .bool (posS g)] 76)).alloc (.cells #[.int .i64 y.arc, .slice A y.path.length c, .int .i64 y.enter, .int .i64 y.leave] 62) := ⟨_, rfl⟩
  have X2 : Blk W0 w.heap.size 76 #[.bool g.upright, .int .i64 g.line, .int .i64 g.lo, .int .i64 g.hi, .bool (posS g)] := by rw [hW0]; exact (Blk.made rfl _ _).alloc _
  have X3 : Blk W0 (w.heap.size + 1) 62 #[.int .i64 y.arc, .slice A y.path.length c, .int .i64 y.enter, .int .i64 y.leave] := by rw [hW0]; exact Blk.made (by simp) _ _
  have HB0 := Lib.hid (show Below w.heap.size w W0 by rw [hW0]; exact bA (bA (bR w) _) _)
  rw [← hW0]
  have HX2 := Lib.hid X2; have HX3 := Lib.hid X3
  clear hW0
  try clear X2l
  try clear X2a
  try clear X2b
  try clear X2c
  try clear X2d
  try clear X2e
  try clear X2fa
  try clear X2fb
  try clear X2fc
  try clear X2fd
  try clear X2fe
  obtain ⟨X2l, X2a, X2b, X2c, X2d, X2e, -, -, -, -, -⟩ := X2.facts5
  try clear X3l
  try clear X3a
  try clear X3b
  try clear X3c
  try clear X3d
  try clear X3fa
  try clear X3fb
  try clear X3fc
  try clear X3fd
  obtain ⟨X3l, X3a, X3b, X3c, X3d, -, -, -, -⟩ := X3.facts4
  by_cases he : y.enter = g.side
  case neg =>
    have he' : (y.enter != g.side) = true := by simp [he]
    have hE : enterS g y = [] := by unfold enterS; rw [if_pos he]
    have HE := Lib.hid hE
    clear he hE
    go_wp2_with fail
    go_ret
    exact ⟨_, rfl, HB0.out, fun W _ => by rw [HE.out]; exact Sl.nil _⟩
  have he' : (y.enter != g.side) = false := by simp [he]
  have He := Lib.hid he
  clear he
  obtain ⟨al, hal⟩ : ∃ al, y.path.all (onE g) = al := ⟨_, rfl⟩
  have Hal := Lib.hid hal
  have HAK := HAll.out
  rw [hal] at HAK
  clear HAll hal
  have HAll := Lib.hid HAK
  clear HAK
  by_cases hout : al = true ∧ (y.leave = 0 ∨ y.leave = g.side)
  case pos =>
    obtain ⟨rfl, ho⟩ := hout
    have hE : enterS g y = [] := by
      unfold enterS
      rw [if_neg (fun h => h He.out), if_pos ((leadN_all g y.path).2 Hal.out), if_pos ho]
    have HE := Lib.hid hE
    have ho' : (y.leave == 0) = true ∨ ((y.leave == 0) = false ∧ (y.leave == g.side) = true) := by
      by_cases h0 : y.leave = 0
      · left; simp [h0]
      · right; exact ⟨by simpa using h0, by rcases ho with h | h <;> simp_all⟩
    clear hE ho
    rcases ho' with h1 | ⟨h1, h2⟩
    all_goals
      go_wp2_with fail
      refine (HAll.out _ HB0.out).mono ?_
      rintro e w1 ⟨rfl, hb1⟩
      have X3 := HX3.out.keep hb1
      have B1 := Lib.hid (bT HB0.out hb1)
      clear hb1 X2l X2a X2b X2c X2d X2e X3l X3a X3b X3c X3d
      try clear X3l
      try clear X3a
      try clear X3b
      try clear X3c
      try clear X3d
      try clear X3fa
      try clear X3fb
      try clear X3fc
      try clear X3fd
      obtain ⟨X3l, X3a, X3b, X3c, X3d, -, -, -, -⟩ := X3.facts4
      go_wp2_with fail
      go_ret
      exact ⟨_, rfl, B1.out, fun W _ => by rw [HE.out]; exact Sl.nil _⟩
  have Hout := Lib.hid hout
  go_cut [28] (fun u wx => u = .bool false ∧ Below W0.heap.size W0 wx)
  case first =>
    cases al
    case false =>
      go_wp2_with fail
      refine (HAll.out _ HB0.out).mono ?_
      rintro e w1 ⟨rfl, hb1⟩
      have X3 := HX3.out.keep hb1
      have B1 := Lib.hid hb1
      clear hb1 X2l X2a X2b X2c X2d X2e X3l X3a X3b X3c X3d
      try clear X3l
      try clear X3a
      try clear X3b
      try clear X3c
      try clear X3d
      try clear X3fa
      try clear X3fb
      try clear X3fc
      try clear X3fd
      obtain ⟨X3l, X3a, X3b, X3c, X3d, -, -, -, -⟩ := X3.facts4
      go_wp2_with fail
      go_meet
      case rel => exact ⟨rfl, B1.out⟩
    case true =>
      have h1 : (y.leave == 0) = false := by
        rw [beq_eq_false_iff_ne]; exact fun e => Hout.out ⟨rfl, .inl e⟩
      have h2 : (y.leave == g.side) = false := by
        rw [beq_eq_false_iff_ne]; exact fun e => Hout.out ⟨rfl, .inr e⟩
      clear hout
      go_wp2_with fail
      refine (HAll.out _ HB0.out).mono ?_
      rintro e w1 ⟨rfl, hb1⟩
      have X3 := HX3.out.keep hb1
      have B1 := Lib.hid hb1
      clear hb1 X2l X2a X2b X2c X2d X2e X3l X3a X3b X3c X3d
      try clear X3l
      try clear X3a
      try clear X3b
      try clear X3c
      try clear X3d
      try clear X3fa
      try clear X3fb
      try clear X3fc
      try clear X3fd
      obtain ⟨X3l, X3a, X3b, X3c, X3d, -, -, -, -⟩ := X3.facts4
      go_wp2_with fail
      go_meet
      case rel => exact ⟨rfl, B1.out⟩
  case rest =>
  obtain ⟨rfl, hbc⟩ := hcut
  have HBc := Lib.hid hbc
  clear hout X2 X3 X2l X2a X2b X2c X2d X2e X3l X3a X3b X3c X3d
  have hE : enterS g y = if leadN g y.path = y.path.length then y.path.take (if 1 < y.path.length then y.path.length - 1 else y.path.length) else y.path.take (leadN g y.path) := by
    unfold enterS
    rw [if_neg (fun h => h He.out)]
    by_cases hl : leadN g y.path = y.path.length
    · rw [if_pos hl, if_pos hl, if_neg]
      intro ho
      exact Hout.out ⟨by rw [← Hal.out]; exact (leadN_all g y.path).1 hl, ho⟩
    · rw [if_neg hl, if_neg hl]
  have HE := Lib.hid hE
  have X2 := HX2.out.keep hbc
  have X3 := HX3.out.keep hbc
  clear hE hbc
  try clear X2l
  try clear X2a
  try clear X2b
  try clear X2c
  try clear X2d
  try clear X2e
  try clear X2fa
  try clear X2fb
  try clear X2fc
  try clear X2fd
  try clear X2fe
  obtain ⟨X2l, X2a, X2b, X2c, X2d, X2e, -, -, -, -, -⟩ := X2.facts5
  try clear X3l
  try clear X3a
  try clear X3b
  try clear X3c
  try clear X3d
  try clear X3fa
  try clear X3fb
  try clear X3fc
  try clear X3fd
  obtain ⟨X3l, X3a, X3b, X3c, X3d, -, -, -, -⟩ := X3.facts4
  go_wp2_with fail
  clear X2 X3 X2l X2a X2b X2c X2d X2e X3l X3a X3b X3c X3d
  obtain ⟨wo, rfl⟩ : ∃ wo : World, wo = wc := ⟨_, rfl⟩
  go_loopw [7] (fun u wr => ∃ k : Nat, k ≤ y.path.length ∧ u = .int .i64 k ∧ Below W0.heap.size W0 wr ∧ ∀ j (hj : j < y.path.length), j < k → onE g y.path[j] = true) (fun u _ => y.path.length - (intOf u).toNat)
  case atStart => exact ⟨0, Nat.zero_le _, rfl, HBc.out, fun _ _ h => by omega⟩
  case round =>
    obtain ⟨k, hk, rfl, hb, hon⟩ := hrel
    have Hb := Lib.hid hb
    have Hon := Lib.hid hon
    have X2 := HX2.out.keep hb
    have X3 := HX3.out.keep hb
    clear hb hon
    try clear X2l
    try clear X2a
    try clear X2b
    try clear X2c
    try clear X2d
    try clear X2e
    try clear X2fa
    try clear X2fb
    try clear X2fc
    try clear X2fd
    try clear X2fe
    obtain ⟨X2l, X2a, X2b, X2c, X2d, X2e, -, -, -, -, -⟩ := X2.facts5
    try clear X3l
    try clear X3a
    try clear X3b
    try clear X3c
    try clear X3d
    try clear X3fa
    try clear X3fb
    try clear X3fc
    try clear X3fd
    obtain ⟨X3l, X3a, X3b, X3c, X3d, -, -, -, -⟩ := X3.facts4
    by_cases hlt : k < y.path.length
    case pos =>
      obtain ⟨b, o, rfl, hlb, c0, c1⟩ := (HR.out.mono (bT HB0.out Hb.out)).pt hlt
      have q1 : 0 ≤ (k : Int) := by omega
      have q2 : (k : Int) < y.path.length := by omega
      have TK := HO.out y.path[k]
      cases ho : onE g y.path[k]
      case true =>
        rw [ho] at TK
        have HK := Lib.hid TK
        have Ho := Lib.hid ho
        clear TK ho
        go_upto_region 4 with fail
        refine rg_start (Since wr) (.take 0 1 (.take 1 3 (.take 2 7 (.take 3 15 (.take 4 31 (.take 5 63 (.take 6 127 (.take 7 255 (.take 8 511 (.take 9 1023 (.take 10 2047 (.take 11 4095 (.call 12 8191 (.take 13 16383 (.done))))))))))))))) (by kernel_rfl) (bD (bR _)) (by kernel_rfl) (by kernel_rfl) (Nat.le_of_ble_eq_true (by kernel_rfl)) ?_
        intro opsR QR Hops HQrg hS
        apply rg_yp (i := 0) Hops rfl hS rfl
        · intro _ hq; clear hq; go_simp; try rfl
        try simp only [Act.put, pu1, pu2, pu3]
        apply rg_yp (i := 1) Hops rfl hS rfl
        · intro _ hq; clear hq; go_simp; try rfl
        try simp only [Act.put, pu1, pu2, pu3]
        apply rg_yp (i := 2) Hops rfl hS rfl
        · intro wq hq; obtain ⟨hqc, -⟩ := bcell (show Below wr.heap.size wr wq from hq); clear hq; go_simp; try rfl
        try simp only [Act.put, pu1, pu2, pu3]
        apply rg_yp (i := 3) Hops rfl hS rfl
        · intro _ hq; clear hq; go_simp; try rfl
        try simp only [Act.put, pu1, pu2, pu3]
        apply rg_yp (i := 4) Hops rfl hS rfl
        · intro _ hq; clear hq; go_simp; try rfl
        try simp only [Act.put, pu1, pu2, pu3]
        apply rg_yp (i := 5) Hops rfl hS rfl
        · intro _ hq; clear hq; go_simp; try rfl
        try simp only [Act.put, pu1, pu2, pu3]
        apply rg_yg (i := 6) Hops rfl hS rfl rfl rfl rfl
        · intro wq hq; obtain ⟨hqc, -⟩ := bcell (show Below wr.heap.size wr wq from hq); clear hq; go_simp; try rfl
        try simp only [Act.put, pu1, pu2, pu3]
        apply rg_yg (i := 7) Hops rfl hS rfl rfl rfl rfl
        · intro _ hq; clear hq; go_simp; try rfl
        try simp only [Act.put, pu1, pu2, pu3]
        apply rg_yg (i := 8) Hops rfl hS rfl rfl rfl rfl
        · intro wq hq; obtain ⟨hqc, -⟩ := bcell (show Below wr.heap.size wr wq from hq); clear hq; go_simp; try rfl
        try simp only [Act.put, pu1, pu2, pu3]
        apply rg_yg (i := 9) Hops rfl hS rfl rfl rfl rfl
        · intro _ hq; clear hq; go_simp; try rfl
        try simp only [Act.put, pu1, pu2, pu3]
        apply rg_yg (i := 10) Hops rfl hS rfl rfl rfl rfl
        · intro _ hq; clear hq; go_simp; try rfl
        try simp only [Act.put, pu1, pu2, pu3]
        apply rg_yg (i := 11) Hops rfl hS rfl rfl rfl rfl
        · intro wq hq; obtain ⟨hqc, -⟩ := bcell (show Below wr.heap.size wr wq from hq); clear hq; go_simp; try rfl
        try simp only [Act.put, pu1, pu2, pu3]
        refine rg_call (i := 12) (get_of Hops rfl) (fun K hK => ?_)
        have HSrg := Lib.hid hS; clear hS
        refine rg_run (wanted_yes rfl (get_of Hops rfl) rfl rfl) ?_
        go_simp
        refine (HK.out _).mono ?_
        rintro e wr1 ⟨rfl, hbr1⟩
        have hS : Since wr wr1 := bT (w := wr) HSrg.out hbr1
        clear HSrg
        refine hK.out _ _ hS (fun _ => ?_)
        clear hK K
        try simp only [Act.put, pu1, pu2, pu3]
        apply rg_yp (i := 13) Hops rfl hS rfl
        · intro _ hq; clear hq; go_simp; try rfl
        try simp only [Act.put, pu1, pu2, pu3]
        refine rg_done ?_
        refine HQrg.down _ _ ?_
        have hB : Below wr.heap.size wr wr1 := hS
        clear hS HQrg Hops
        have Bw := Lib.hid (bT Hb.out hB)
        clear hB
        go_wp2_with fail
        go_roundw
        case rel => exact ⟨k + 1, by omega, by go_num, Bw.out, all_succ (p := fun n => onE g n = true) Hon.out hlt Ho.out⟩
        case measure => simp [intOf]; omega
      case false =>
        rw [ho] at TK
        have HK := Lib.hid TK
        have hlead := leadN_step (g := g) hlt (fun j hj hjk => Hon.out j hj hjk) ho
        have hf := HE.out
        rw [hlead, if_neg (show ¬ k = y.path.length by omega)] at hf
        have HF := Lib.hid hf
        clear TK ho hlead hf
        go_upto_region 4 with fail
        refine rg_start (Since wr) (.take 0 1 (.take 1 3 (.take 2 7 (.take 3 15 (.take 4 31 (.take 5 63 (.take 6 127 (.take 7 255 (.take 8 511 (.take 9 1023 (.take 10 2047 (.take 11 4095 (.call 12 8191 (.take 13 16383 (.done))))))))))))))) (by kernel_rfl) (bD (bR _)) (by kernel_rfl) (by kernel_rfl) (Nat.le_of_ble_eq_true (by kernel_rfl)) ?_
        intro opsR QR Hops HQrg hS
        apply rg_yp (i := 0) Hops rfl hS rfl
        · intro _ hq; clear hq; go_simp; try rfl
        try simp only [Act.put, pu1, pu2, pu3]
        apply rg_yp (i := 1) Hops rfl hS rfl
        · intro _ hq; clear hq; go_simp; try rfl
        try simp only [Act.put, pu1, pu2, pu3]
        apply rg_yp (i := 2) Hops rfl hS rfl
        · intro wq hq; obtain ⟨hqc, -⟩ := bcell (show Below wr.heap.size wr wq from hq); clear hq; go_simp; try rfl
        try simp only [Act.put, pu1, pu2, pu3]
        apply rg_yp (i := 3) Hops rfl hS rfl
        · intro _ hq; clear hq; go_simp; try rfl
        try simp only [Act.put, pu1, pu2, pu3]
        apply rg_yp (i := 4) Hops rfl hS rfl
        · intro _ hq; clear hq; go_simp; try rfl
        try simp only [Act.put, pu1, pu2, pu3]
        apply rg_yp (i := 5) Hops rfl hS rfl
        · intro _ hq; clear hq; go_simp; try rfl
        try simp only [Act.put, pu1, pu2, pu3]
        apply rg_yg (i := 6) Hops rfl hS rfl rfl rfl rfl
        · intro wq hq; obtain ⟨hqc, -⟩ := bcell (show Below wr.heap.size wr wq from hq); clear hq; go_simp; try rfl
        try simp only [Act.put, pu1, pu2, pu3]
        apply rg_yg (i := 7) Hops rfl hS rfl rfl rfl rfl
        · intro _ hq; clear hq; go_simp; try rfl
        try simp only [Act.put, pu1, pu2, pu3]
        apply rg_yg (i := 8) Hops rfl hS rfl rfl rfl rfl
        · intro wq hq; obtain ⟨hqc, -⟩ := bcell (show Below wr.heap.size wr wq from hq); clear hq; go_simp; try rfl
        try simp only [Act.put, pu1, pu2, pu3]
        apply rg_yg (i := 9) Hops rfl hS rfl rfl rfl rfl
        · intro _ hq; clear hq; go_simp; try rfl
        try simp only [Act.put, pu1, pu2, pu3]
        apply rg_yg (i := 10) Hops rfl hS rfl rfl rfl rfl
        · intro _ hq; clear hq; go_simp; try rfl
        try simp only [Act.put, pu1, pu2, pu3]
        apply rg_yg (i := 11) Hops rfl hS rfl rfl rfl rfl
        · intro wq hq; obtain ⟨hqc, -⟩ := bcell (show Below wr.heap.size wr wq from hq); clear hq; go_simp; try rfl
        try simp only [Act.put, pu1, pu2, pu3]
        refine rg_call (i := 12) (get_of Hops rfl) (fun K hK => ?_)
        have HSrg := Lib.hid hS; clear hS
        refine rg_run (wanted_yes rfl (get_of Hops rfl) rfl rfl) ?_
        go_simp
        refine (HK.out _).mono ?_
        rintro e wr1 ⟨rfl, hbr1⟩
        have hS : Since wr wr1 := bT (w := wr) HSrg.out hbr1
        clear HSrg
        refine hK.out _ _ hS (fun _ => ?_)
        clear hK K
        try simp only [Act.put, pu1, pu2, pu3]
        apply rg_yp (i := 13) Hops rfl hS rfl
        · intro _ hq; clear hq; go_simp; try rfl
        try simp only [Act.put, pu1, pu2, pu3]
        refine rg_done ?_
        refine HQrg.down _ _ ?_
        have hB : Below wr.heap.size wr wr1 := hS
        clear hS HQrg Hops
        have X2 := X2.keep hB
        have X3 := X3.keep hB
        have Bw := Lib.hid (bT HB0.out (bT Hb.out hB))
        clear hB X2l X2a X2b X2c X2d X2e X3l X3a X3b X3c X3d c0 c1 hlb
        try clear X2l
        try clear X2a
        try clear X2b
        try clear X2c
        try clear X2d
        try clear X2e
        try clear X2fa
        try clear X2fb
        try clear X2fc
        try clear X2fd
        try clear X2fe
        obtain ⟨X2l, X2a, X2b, X2c, X2d, X2e, -, -, -, -, -⟩ := X2.facts5
        try clear X3l
        try clear X3a
        try clear X3b
        try clear X3c
        try clear X3d
        try clear X3fa
        try clear X3fb
        try clear X3fc
        try clear X3fd
        obtain ⟨X3l, X3a, X3b, X3c, X3d, -, -, -, -⟩ := X3.facts4
        have hk' : ((k : Int) == (y.path.length : Int)) = false := by simp; omega
        have hrun := run_pre Tryz.underlying60 sizeOf_pt (some ⟨b, o, none⟩) y.path.length c k (by omega) hn
        go_wp2_with fail
        go_ret
        refine ⟨_, rfl, Bw.out, ?_⟩
        rw [HF.out]
        exact fun W hW => Sl.pre_ hW k (by omega)
    case neg =>
    have hkk : k = y.path.length := by omega
    subst hkk
    have hlead := leadN_end (g := g) (l := y.path) (fun j hj => Hon.out j hj hj)
    have hf := HE.out
    rw [hlead, if_pos rfl] at hf
    have HF := Lib.hid hf
    have q3 : ¬ (y.path.length : Int) < (y.path.length : Int) := by omega
    clear hlead hf hlt
    go_upto_region 4 with fail
    refine rg_start (Since wr) (.take 0 1 (.take 1 3 (.take 2 7 (.take 3 15 (.take 4 31 (.take 5 63 (.take 6 127 (.take 7 255 (.take 8 511 (.take 9 1023 (.take 10 2047 (.take 11 4095 (.take 12 8191 (.take 13 16383 (.done))))))))))))))) (by kernel_rfl) (bD (bR _)) (by kernel_rfl) (by kernel_rfl) (Nat.le_of_ble_eq_true (by kernel_rfl)) ?_
    intro opsR QR Hops HQrg hS
    apply rg_yp (i := 0) Hops rfl hS rfl
    · intro _ hq; clear hq; go_simp; try rfl
    try simp only [Act.put, pu1, pu2, pu3]
    apply rg_yp (i := 1) Hops rfl hS rfl
    · intro _ hq; clear hq; go_simp; try rfl
    try simp only [Act.put, pu1, pu2, pu3]
    apply rg_yp (i := 2) Hops rfl hS rfl
    · intro wq hq; obtain ⟨hqc, -⟩ := bcell (show Below wr.heap.size wr wq from hq); clear hq; go_simp; try rfl
    try simp only [Act.put, pu1, pu2, pu3]
    apply rg_yp (i := 3) Hops rfl hS rfl
    · intro _ hq; clear hq; go_simp; try rfl
    try simp only [Act.put, pu1, pu2, pu3]
    apply rg_yp (i := 4) Hops rfl hS rfl
    · intro _ hq; clear hq; go_simp; try rfl
    try simp only [Act.put, pu1, pu2, pu3]
    apply rg_yp (i := 5) Hops rfl hS rfl
    · intro _ hq; clear hq; go_simp; try rfl
    try simp only [Act.put, pu1, pu2, pu3]
    refine rg_yn (i := 6) Hops rfl hS rfl rfl rfl rfl rfl ?_
    try simp only [Act.put, pu1, pu2, pu3]
    refine rg_yn (i := 7) Hops rfl hS rfl rfl rfl rfl rfl ?_
    try simp only [Act.put, pu1, pu2, pu3]
    refine rg_yn (i := 8) Hops rfl hS rfl rfl rfl rfl rfl ?_
    try simp only [Act.put, pu1, pu2, pu3]
    refine rg_yn (i := 9) Hops rfl hS rfl rfl rfl rfl rfl ?_
    try simp only [Act.put, pu1, pu2, pu3]
    refine rg_yn (i := 10) Hops rfl hS rfl rfl rfl rfl rfl ?_
    try simp only [Act.put, pu1, pu2, pu3]
    refine rg_yn (i := 11) Hops rfl hS rfl rfl rfl rfl rfl ?_
    try simp only [Act.put, pu1, pu2, pu3]
    refine rg_yn (i := 12) Hops rfl hS rfl rfl rfl rfl rfl ?_
    try simp only [Act.put, pu1, pu2, pu3]
    apply rg_yp (i := 13) Hops rfl hS rfl
    · intro _ hq; clear hq; go_simp; try rfl
    try simp only [Act.put, pu1, pu2, pu3]
    refine rg_done ?_
    refine HQrg.down _ _ ?_
    have hB : Below wr.heap.size wr wr.drew := hS
    clear hS HQrg Hops
    have X2 := X2.keep hB
    have X3 := X3.keep hB
    have Bw := Lib.hid (bT HB0.out (bT Hb.out hB))
    clear hB X2l X2a X2b X2c X2d X2e X3l X3a X3b X3c X3d
    try clear X2l
    try clear X2a
    try clear X2b
    try clear X2c
    try clear X2d
    try clear X2e
    try clear X2fa
    try clear X2fb
    try clear X2fc
    try clear X2fd
    try clear X2fe
    obtain ⟨X2l, X2a, X2b, X2c, X2d, X2e, -, -, -, -, -⟩ := X2.facts5
    try clear X3l
    try clear X3a
    try clear X3b
    try clear X3c
    try clear X3d
    try clear X3fa
    try clear X3fb
    try clear X3fc
    try clear X3fd
    obtain ⟨X3l, X3a, X3b, X3c, X3d, -, -, -, -⟩ := X3.facts4
    by_cases h3 : 1 < y.path.length
    · have hrun := run_pre Tryz.underlying60 sizeOf_pt A y.path.length c (y.path.length - 1) (by omega) hn
      have hcast : ((y.path.length - 1 : Nat) : Int) = (y.path.length : Int) - 1 := by omega
      rw [hcast] at hrun
      have h4 : 1 < (y.path.length : Int) := by omega
      have hf := HF.out
      rw [if_pos h3] at hf
      replace HF := Lib.hid hf
      clear hcast hf
      go_wp2_with fail
      go_ret
      refine ⟨_, rfl, Bw.out, ?_⟩
      rw [HF.out]
      exact fun W hW => Sl.pre_ hW _ (by omega)
    · have hrun := run_pre Tryz.underlying60 sizeOf_pt A y.path.length c y.path.length (by omega) hn
      have h4 : ¬ 1 < (y.path.length : Int) := by omega
      have hf := HF.out
      rw [if_neg h3] at hf
      replace HF := Lib.hid hf
      clear hf
      go_wp2_with fail
      go_ret
      refine ⟨_, rfl, Bw.out, ?_⟩
      rw [HF.out]
      exact fun W hW => Sl.pre_ hW _ (by omega)

set_option maxRecDepth 100000 in
set_option maxHeartbeats 4000000 in
theorem rleaving_spec (g : Ed) (y : Pc) (v : Value) (w : World) (h : Pts w v y.path) :
    Calls Tryz.prog 36 #[redV g, pcV y v, .int .i64 g.side] w fun e w' => ∃ v', e = .returned v' ∧ Below w.heap.size w w' ∧ ∀ W, Pts W v y.path → Pts W v' (leaveS g y) := by
  have HP := Lib.hid h
  obtain ⟨A, c, rfl, hn, hc, hR⟩ := h
  unfold maxLen at hc
  have HR := Lib.hid hR; clear hR
  have TO := ron_spec g
  unfold redV ptV at TO
  have TAll : ∀ W, Below w.heap.size w W → Calls Tryz.prog 68 #[redV g, .slice A y.path.length c] W _ := fun W hW => all_spec g _ y.path W (HP.out.mono hW)
  unfold redV at TAll
  have HO := Lib.hid TO; have HAll := Lib.hid TAll
  clear TO TAll
  unfold redV pcV
  go_enter Tryz.func36, Tryz.ntmps36
  go_upto_region 1 with fail
  obtain ⟨W0, hW0⟩ : ∃ W0 : World, W0 = (w.alloc (.cells #[.bool g.upright, .int .i64 g.line, .int .i64 g.lo, .int .i64 g.hi, .bool (posS g)] 76)).alloc (.cells #[.int .i64 y.arc, .slice A y.path.length c, .int .i64 y.enter, .int .i64 y.leave] 62) := ⟨_, rfl⟩
  have X2 : Blk W0 w.heap.size 76 #[.bool g.upright, .int .i64 g.line, .int .i64 g.lo, .int .i64 g.hi, .bool (posS g)] := by rw [hW0]; exact (Blk.made rfl _ _).alloc _
  have X3 : Blk W0 (w.heap.size + 1) 62 #[.int .i64 y.arc, .slice A y.path.length c, .int .i64 y.enter, .int .i64 y.leave] := by rw [hW0]; exact Blk.made (by simp) _ _
  have HB0 := Lib.hid (show Below w.heap.size w W0 by rw [hW0]; exact bA (bA (bR w) _) _)
  rw [← hW0]
  have HX2 := Lib.hid X2; have HX3 := Lib.hid X3
  clear hW0
  try clear X2l
  try clear X2a
  try clear X2b
  try clear X2c
  try clear X2d
  try clear X2e
  try clear X2fa
  try clear X2fb
  try clear X2fc
  try clear X2fd
  try clear X2fe
  obtain ⟨X2l, X2a, X2b, X2c, X2d, X2e, -, -, -, -, -⟩ := X2.facts5
  try clear X3l
  try clear X3a
  try clear X3b
  try clear X3c
  try clear X3d
  try clear X3fa
  try clear X3fb
  try clear X3fc
  try clear X3fd
  obtain ⟨X3l, X3a, X3b, X3c, X3d, -, -, -, -⟩ := X3.facts4
  by_cases he : y.leave = g.side
  case neg =>
    have he' : (y.leave != g.side) = true := by simp [he]
    have hE : leaveS g y = [] := by unfold leaveS; rw [if_pos he]
    have HE := Lib.hid hE
    clear he hE
    go_wp2_with fail
    go_ret
    exact ⟨_, rfl, HB0.out, fun W _ => by rw [HE.out]; exact Sl.nil _⟩
  have he' : (y.leave != g.side) = false := by simp [he]
  have He := Lib.hid he
  clear he
  obtain ⟨al, hal⟩ : ∃ al, y.path.all (onE g) = al := ⟨_, rfl⟩
  have Hal := Lib.hid hal
  have HAK := HAll.out
  rw [hal] at HAK
  clear HAll hal
  have HAll := Lib.hid HAK
  clear HAK
  by_cases hout : al = true ∧ (y.enter = 0 ∨ y.enter = g.side)
  case pos =>
    obtain ⟨rfl, ho⟩ := hout
    have hE : leaveS g y = [] := by
      unfold leaveS
      rw [if_neg (fun h => h He.out), if_pos ((trailN_all g y.path).2 Hal.out), if_pos ho]
    have HE := Lib.hid hE
    have ho' : (y.enter == 0) = true ∨ ((y.enter == 0) = false ∧ (y.enter == g.side) = true) := by
      by_cases h0 : y.enter = 0
      · left; simp [h0]
      · right; exact ⟨by simpa using h0, by rcases ho with h | h <;> simp_all⟩
    clear hE ho
    rcases ho' with h1 | ⟨h1, h2⟩
    all_goals
      go_wp2_with fail
      refine (HAll.out _ HB0.out).mono ?_
      rintro e w1 ⟨rfl, hb1⟩
      have X3 := HX3.out.keep hb1
      have B1 := Lib.hid (bT HB0.out hb1)
      clear hb1 X2l X2a X2b X2c X2d X2e X3l X3a X3b X3c X3d
      try clear X3l
      try clear X3a
      try clear X3b
      try clear X3c
      try clear X3d
      try clear X3fa
      try clear X3fb
      try clear X3fc
      try clear X3fd
      obtain ⟨X3l, X3a, X3b, X3c, X3d, -, -, -, -⟩ := X3.facts4
      go_wp2_with fail
      go_ret
      exact ⟨_, rfl, B1.out, fun W _ => by rw [HE.out]; exact Sl.nil _⟩
  have Hout := Lib.hid hout
  go_cut [28] (fun u wx => u = .bool false ∧ Below W0.heap.size W0 wx)
  case first =>
    cases al
    case false =>
      go_wp2_with fail
      refine (HAll.out _ HB0.out).mono ?_
      rintro e w1 ⟨rfl, hb1⟩
      have X3 := HX3.out.keep hb1
      have B1 := Lib.hid hb1
      clear hb1 X2l X2a X2b X2c X2d X2e X3l X3a X3b X3c X3d
      try clear X3l
      try clear X3a
      try clear X3b
      try clear X3c
      try clear X3d
      try clear X3fa
      try clear X3fb
      try clear X3fc
      try clear X3fd
      obtain ⟨X3l, X3a, X3b, X3c, X3d, -, -, -, -⟩ := X3.facts4
      go_wp2_with fail
      go_meet
      case rel => exact ⟨rfl, B1.out⟩
    case true =>
      have h1 : (y.enter == 0) = false := by
        rw [beq_eq_false_iff_ne]; exact fun e => Hout.out ⟨rfl, .inl e⟩
      have h2 : (y.enter == g.side) = false := by
        rw [beq_eq_false_iff_ne]; exact fun e => Hout.out ⟨rfl, .inr e⟩
      clear hout
      go_wp2_with fail
      refine (HAll.out _ HB0.out).mono ?_
      rintro e w1 ⟨rfl, hb1⟩
      have X3 := HX3.out.keep hb1
      have B1 := Lib.hid hb1
      clear hb1 X2l X2a X2b X2c X2d X2e X3l X3a X3b X3c X3d
      try clear X3l
      try clear X3a
      try clear X3b
      try clear X3c
      try clear X3d
      try clear X3fa
      try clear X3fb
      try clear X3fc
      try clear X3fd
      obtain ⟨X3l, X3a, X3b, X3c, X3d, -, -, -, -⟩ := X3.facts4
      go_wp2_with fail
      go_meet
      case rel => exact ⟨rfl, B1.out⟩
  case rest =>
  obtain ⟨rfl, hbc⟩ := hcut
  have HBc := Lib.hid hbc
  clear hout X2 X3 X2l X2a X2b X2c X2d X2e X3l X3a X3b X3c X3d
  have hE : leaveS g y = if trailN g y.path = 0 then y.path.drop (if 1 < y.path.length then 1 else 0) else y.path.drop (trailN g y.path) := by
    unfold leaveS
    rw [if_neg (fun h => h He.out)]
    by_cases hl : trailN g y.path = 0
    · rw [if_pos hl, if_pos hl, if_neg]
      intro ho
      exact Hout.out ⟨by rw [← Hal.out]; exact (trailN_all g y.path).1 hl, ho⟩
    · rw [if_neg hl, if_neg hl]
  have HE := Lib.hid hE
  have X2 := HX2.out.keep hbc
  have X3 := HX3.out.keep hbc
  clear hE hbc
  try clear X2l
  try clear X2a
  try clear X2b
  try clear X2c
  try clear X2d
  try clear X2e
  try clear X2fa
  try clear X2fb
  try clear X2fc
  try clear X2fd
  try clear X2fe
  obtain ⟨X2l, X2a, X2b, X2c, X2d, X2e, -, -, -, -, -⟩ := X2.facts5
  try clear X3l
  try clear X3a
  try clear X3b
  try clear X3c
  try clear X3d
  try clear X3fa
  try clear X3fb
  try clear X3fc
  try clear X3fd
  obtain ⟨X3l, X3a, X3b, X3c, X3d, -, -, -, -⟩ := X3.facts4
  go_wp2_with fail
  clear X2 X3 X2l X2a X2b X2c X2d X2e X3l X3a X3b X3c X3d
  obtain ⟨wo, rfl⟩ : ∃ wo : World, wo = wc := ⟨_, rfl⟩
  go_loopw [7] (fun u wr => ∃ k : Nat, k ≤ y.path.length ∧ u = .int .i64 k ∧ Below W0.heap.size W0 wr ∧ ∀ j (hj : j < y.path.length), k ≤ j → onE g y.path[j] = true) (fun u _ => (intOf u).toNat)
  case atStart => exact ⟨y.path.length, Nat.le_refl _, rfl, HBc.out, fun _ _ h => by omega⟩
  case round =>
    obtain ⟨k, hk, rfl, hb, hon⟩ := hrel
    have Hb := Lib.hid hb
    have Hon := Lib.hid hon
    have X2 := HX2.out.keep hb
    have X3 := HX3.out.keep hb
    clear hb hon
    try clear X2l
    try clear X2a
    try clear X2b
    try clear X2c
    try clear X2d
    try clear X2e
    try clear X2fa
    try clear X2fb
    try clear X2fc
    try clear X2fd
    try clear X2fe
    obtain ⟨X2l, X2a, X2b, X2c, X2d, X2e, -, -, -, -, -⟩ := X2.facts5
    try clear X3l
    try clear X3a
    try clear X3b
    try clear X3c
    try clear X3d
    try clear X3fa
    try clear X3fb
    try clear X3fc
    try clear X3fd
    obtain ⟨X3l, X3a, X3b, X3c, X3d, -, -, -, -⟩ := X3.facts4
    rcases Nat.eq_zero_or_pos k with hk0 | hkp
    case inr =>
      obtain ⟨m, rfl⟩ : ∃ m, k = m + 1 := ⟨k - 1, by omega⟩
      have hlt : m < y.path.length := by omega
      obtain ⟨b, o, rfl, hlb, c0, c1⟩ := (HR.out.mono (bT HB0.out Hb.out)).pt hlt
      have q0 : 0 < (m : Int) + 1 := by omega
      have q1 : 0 ≤ (m : Int) := by omega
      have q2 : (m : Int) < y.path.length := by omega
      have q6 : IntKind.i64.wrap (m : Int) = (m : Int) := IntWalk.i64_in _ (by omega)
      have TK := HO.out y.path[m]
      cases ho : onE g y.path[m]
      case true =>
        rw [ho] at TK
        have HK := Lib.hid TK
        have Ho := Lib.hid ho
        clear TK ho
        go_upto_region 4 with fail
        refine rg_start (Since wr) (.take 0 1 (.take 1 3 (.take 2 7 (.take 3 15 (.take 4 31 (.take 5 63 (.take 6 127 (.take 7 255 (.take 8 511 (.take 9 1023 (.call 10 2047 (.take 11 4095 (.done))))))))))))) (by kernel_rfl) (bD (bR _)) (by kernel_rfl) (by kernel_rfl) (Nat.le_of_ble_eq_true (by kernel_rfl)) ?_
        intro opsR QR Hops HQrg hS
        apply rg_yp (i := 0) Hops rfl hS rfl
        · intro _ hq; clear hq; go_simp; try rfl
        try simp only [Act.put, pu1, pu2, pu3]
        apply rg_yp (i := 1) Hops rfl hS rfl
        · intro _ hq; clear hq; go_simp; try rfl
        try simp only [Act.put, pu1, pu2, pu3]
        apply rg_yp (i := 2) Hops rfl hS rfl
        · intro _ hq; clear hq; go_simp; try rfl
        try simp only [Act.put, pu1, pu2, pu3]
        apply rg_yg (i := 3) Hops rfl hS rfl rfl rfl rfl
        · intro wq hq; obtain ⟨hqc, -⟩ := bcell (show Below wr.heap.size wr wq from hq); clear hq; go_simp; try rfl
        try simp only [Act.put, pu1, pu2, pu3]
        apply rg_yg (i := 4) Hops rfl hS rfl rfl rfl rfl
        · intro _ hq; clear hq; go_simp; try rfl
        try simp only [Act.put, pu1, pu2, pu3]
        apply rg_yg (i := 5) Hops rfl hS rfl rfl rfl rfl
        · intro wq hq; obtain ⟨hqc, -⟩ := bcell (show Below wr.heap.size wr wq from hq); clear hq; go_simp; try rfl
        try simp only [Act.put, pu1, pu2, pu3]
        apply rg_yg (i := 6) Hops rfl hS rfl rfl rfl rfl
        · intro _ hq; clear hq; go_simp; try rfl
        try simp only [Act.put, pu1, pu2, pu3]
        apply rg_yg (i := 7) Hops rfl hS rfl rfl rfl rfl
        · intro _ hq; clear hq; go_simp; try rfl
        try simp only [Act.put, pu1, pu2, pu3]
        apply rg_yg (i := 8) Hops rfl hS rfl rfl rfl rfl
        · intro _ hq; clear hq; go_simp; try rfl
        try simp only [Act.put, pu1, pu2, pu3]
        apply rg_yg (i := 9) Hops rfl hS rfl rfl rfl rfl
        · intro wq hq; obtain ⟨hqc, -⟩ := bcell (show Below wr.heap.size wr wq from hq); clear hq; go_simp; try rfl
        try simp only [Act.put, pu1, pu2, pu3]
        refine rg_call (i := 10) (get_of Hops rfl) (fun K hK => ?_)
        have HSrg := Lib.hid hS; clear hS
        refine rg_run (wanted_yes rfl (get_of Hops rfl) rfl rfl) ?_
        go_simp
        refine (HK.out _).mono ?_
        rintro e wr1 ⟨rfl, hbr1⟩
        have hS : Since wr wr1 := bT (w := wr) HSrg.out hbr1
        clear HSrg
        refine hK.out _ _ hS (fun _ => ?_)
        clear hK K
        try simp only [Act.put, pu1, pu2, pu3]
        apply rg_yp (i := 11) Hops rfl hS rfl
        · intro _ hq; clear hq; go_simp; try rfl
        try simp only [Act.put, pu1, pu2, pu3]
        refine rg_done ?_
        refine HQrg.down _ _ ?_
        have hB : Below wr.heap.size wr wr1 := hS
        clear hS HQrg Hops
        have Bw := Lib.hid (bT Hb.out hB)
        clear hB
        go_wp2_with fail
        go_roundw
        case rel => exact ⟨m, by omega, by go_num, Bw.out, fun j hj hjk => if e : j = m then by subst e; exact Ho.out else Hon.out j hj (by omega)⟩
        case measure => first | (simp [intOf]; done) | (simp [intOf]; omega)
      case false =>
        rw [ho] at TK
        have HK := Lib.hid TK
        have htr := trailN_step (g := g) (l := y.path) (k := m + 1) (by omega) (by omega) (fun j hj hjk => Hon.out j hj (by omega)) (by simpa using ho)
        have hf := HE.out
        rw [htr, if_neg (show ¬ m + 1 = 0 by omega)] at hf
        have HF := Lib.hid hf
        clear TK ho htr hf
        go_upto_region 4 with fail
        refine rg_start (Since wr) (.take 0 1 (.take 1 3 (.take 2 7 (.take 3 15 (.take 4 31 (.take 5 63 (.take 6 127 (.take 7 255 (.take 8 511 (.take 9 1023 (.call 10 2047 (.take 11 4095 (.done))))))))))))) (by kernel_rfl) (bD (bR _)) (by kernel_rfl) (by kernel_rfl) (Nat.le_of_ble_eq_true (by kernel_rfl)) ?_
        intro opsR QR Hops HQrg hS
        apply rg_yp (i := 0) Hops rfl hS rfl
        · intro _ hq; clear hq; go_simp; try rfl
        try simp only [Act.put, pu1, pu2, pu3]
        apply rg_yp (i := 1) Hops rfl hS rfl
        · intro _ hq; clear hq; go_simp; try rfl
        try simp only [Act.put, pu1, pu2, pu3]
        apply rg_yp (i := 2) Hops rfl hS rfl
        · intro _ hq; clear hq; go_simp; try rfl
        try simp only [Act.put, pu1, pu2, pu3]
        apply rg_yg (i := 3) Hops rfl hS rfl rfl rfl rfl
        · intro wq hq; obtain ⟨hqc, -⟩ := bcell (show Below wr.heap.size wr wq from hq); clear hq; go_simp; try rfl
        try simp only [Act.put, pu1, pu2, pu3]
        apply rg_yg (i := 4) Hops rfl hS rfl rfl rfl rfl
        · intro _ hq; clear hq; go_simp; try rfl
        try simp only [Act.put, pu1, pu2, pu3]
        apply rg_yg (i := 5) Hops rfl hS rfl rfl rfl rfl
        · intro wq hq; obtain ⟨hqc, -⟩ := bcell (show Below wr.heap.size wr wq from hq); clear hq; go_simp; try rfl
        try simp only [Act.put, pu1, pu2, pu3]
        apply rg_yg (i := 6) Hops rfl hS rfl rfl rfl rfl
        · intro _ hq; clear hq; go_simp; try rfl
        try simp only [Act.put, pu1, pu2, pu3]
        apply rg_yg (i := 7) Hops rfl hS rfl rfl rfl rfl
        · intro _ hq; clear hq; go_simp; try rfl
        try simp only [Act.put, pu1, pu2, pu3]
        apply rg_yg (i := 8) Hops rfl hS rfl rfl rfl rfl
        · intro _ hq; clear hq; go_simp; try rfl
        try simp only [Act.put, pu1, pu2, pu3]
        apply rg_yg (i := 9) Hops rfl hS rfl rfl rfl rfl
        · intro wq hq; obtain ⟨hqc, -⟩ := bcell (show Below wr.heap.size wr wq from hq); clear hq; go_simp; try rfl
        try simp only [Act.put, pu1, pu2, pu3]
        refine rg_call (i := 10) (get_of Hops rfl) (fun K hK => ?_)
        have HSrg := Lib.hid hS; clear hS
        refine rg_run (wanted_yes rfl (get_of Hops rfl) rfl rfl) ?_
        go_simp
        refine (HK.out _).mono ?_
        rintro e wr1 ⟨rfl, hbr1⟩
        have hS : Since wr wr1 := bT (w := wr) HSrg.out hbr1
        clear HSrg
        refine hK.out _ _ hS (fun _ => ?_)
        clear hK K
        try simp only [Act.put, pu1, pu2, pu3]
        apply rg_yp (i := 11) Hops rfl hS rfl
        · intro _ hq; clear hq; go_simp; try rfl
        try simp only [Act.put, pu1, pu2, pu3]
        refine rg_done ?_
        refine HQrg.down _ _ ?_
        have hB : Below wr.heap.size wr wr1 := hS
        clear hS HQrg Hops
        have X2 := X2.keep hB
        have X3 := X3.keep hB
        have Bw := Lib.hid (bT HB0.out (bT Hb.out hB))
        clear hB X2l X2a X2b X2c X2d X2e X3l X3a X3b X3c X3d c0 c1 hlb q6
        try clear X2l
        try clear X2a
        try clear X2b
        try clear X2c
        try clear X2d
        try clear X2e
        try clear X2fa
        try clear X2fb
        try clear X2fc
        try clear X2fd
        try clear X2fe
        obtain ⟨X2l, X2a, X2b, X2c, X2d, X2e, -, -, -, -, -⟩ := X2.facts5
        try clear X3l
        try clear X3a
        try clear X3b
        try clear X3c
        try clear X3d
        try clear X3fa
        try clear X3fb
        try clear X3fc
        try clear X3fd
        obtain ⟨X3l, X3a, X3b, X3c, X3d, -, -, -, -⟩ := X3.facts4
        have hk' : ((m : Int) + 1 == 0) = false := by rw [beq_eq_false_iff_ne]; omega
        have hrun := run_cut Tryz.underlying60 sizeOf_pt (some ⟨b, o, none⟩) y.path.length c (m + 1) (by omega) ((m : Int) + 1) (by omega)
        go_wp2_with fail
        go_ret
        refine ⟨_, rfl, Bw.out, ?_⟩
        rw [HF.out]
        exact fun W hW => Sl.from_ ptC_len hW (m + 1) (by omega)
    case inl =>
    subst hk0
    have htr := trailN_end (g := g) (l := y.path) (fun j hj => Hon.out j hj (by omega))
    have hf := HE.out
    rw [htr, if_pos rfl] at hf
    have HF := Lib.hid hf
    clear htr hf
    go_upto_region 4 with fail
    refine rg_start (Since wr) (.take 0 1 (.take 1 3 (.take 2 7 (.take 3 15 (.take 4 31 (.take 5 63 (.take 6 127 (.take 7 255 (.take 8 511 (.take 9 1023 (.take 10 2047 (.take 11 4095 (.done))))))))))))) (by kernel_rfl) (bD (bR _)) (by kernel_rfl) (by kernel_rfl) (Nat.le_of_ble_eq_true (by kernel_rfl)) ?_
    intro opsR QR Hops HQrg hS
    apply rg_yp (i := 0) Hops rfl hS rfl
    · intro _ hq; clear hq; go_simp; try rfl
    try simp only [Act.put, pu1, pu2, pu3]
    apply rg_yp (i := 1) Hops rfl hS rfl
    · intro _ hq; clear hq; go_simp; try rfl
    try simp only [Act.put, pu1, pu2, pu3]
    apply rg_yp (i := 2) Hops rfl hS rfl
    · intro _ hq; clear hq; go_simp; try rfl
    try simp only [Act.put, pu1, pu2, pu3]
    refine rg_yn (i := 3) Hops rfl hS rfl rfl rfl rfl rfl ?_
    try simp only [Act.put, pu1, pu2, pu3]
    refine rg_yn (i := 4) Hops rfl hS rfl rfl rfl rfl rfl ?_
    try simp only [Act.put, pu1, pu2, pu3]
    refine rg_yn (i := 5) Hops rfl hS rfl rfl rfl rfl rfl ?_
    try simp only [Act.put, pu1, pu2, pu3]
    refine rg_yn (i := 6) Hops rfl hS rfl rfl rfl rfl rfl ?_
    try simp only [Act.put, pu1, pu2, pu3]
    refine rg_yn (i := 7) Hops rfl hS rfl rfl rfl rfl rfl ?_
    try simp only [Act.put, pu1, pu2, pu3]
    refine rg_yn (i := 8) Hops rfl hS rfl rfl rfl rfl rfl ?_
    try simp only [Act.put, pu1, pu2, pu3]
    refine rg_yn (i := 9) Hops rfl hS rfl rfl rfl rfl rfl ?_
    try simp only [Act.put, pu1, pu2, pu3]
    refine rg_yn (i := 10) Hops rfl hS rfl rfl rfl rfl rfl ?_
    try simp only [Act.put, pu1, pu2, pu3]
    apply rg_yp (i := 11) Hops rfl hS rfl
    · intro _ hq; clear hq; go_simp; try rfl
    try simp only [Act.put, pu1, pu2, pu3]
    refine rg_done ?_
    refine HQrg.down _ _ ?_
    have hB : Below wr.heap.size wr wr.drew := hS
    clear hS HQrg Hops
    have X2 := X2.keep hB
    have X3 := X3.keep hB
    have Bw := Lib.hid (bT HB0.out (bT Hb.out hB))
    clear hB X2l X2a X2b X2c X2d X2e X3l X3a X3b X3c X3d
    try clear X2l
    try clear X2a
    try clear X2b
    try clear X2c
    try clear X2d
    try clear X2e
    try clear X2fa
    try clear X2fb
    try clear X2fc
    try clear X2fd
    try clear X2fe
    obtain ⟨X2l, X2a, X2b, X2c, X2d, X2e, -, -, -, -, -⟩ := X2.facts5
    try clear X3l
    try clear X3a
    try clear X3b
    try clear X3c
    try clear X3d
    try clear X3fa
    try clear X3fb
    try clear X3fc
    try clear X3fd
    obtain ⟨X3l, X3a, X3b, X3c, X3d, -, -, -, -⟩ := X3.facts4
    by_cases h3 : 1 < y.path.length
    · have hrun := run_cut Tryz.underlying60 sizeOf_pt A y.path.length c 1 (by omega) 1 (by omega)
      have h4 : 1 < (y.path.length : Int) := by omega
      have hf := HF.out
      rw [if_pos h3] at hf
      replace HF := Lib.hid hf
      clear hf
      go_wp2_with fail
      go_ret
      refine ⟨_, rfl, Bw.out, ?_⟩
      rw [HF.out]
      exact fun W hW => Sl.from_ ptC_len hW _ (by omega)
    · have hrun := run_cut Tryz.underlying60 sizeOf_pt A y.path.length c 0 (by omega) 0 (by omega)
      have h4 : ¬ 1 < (y.path.length : Int) := by omega
      have hf := HF.out
      rw [if_neg h3] at hf
      replace HF := Lib.hid hf
      clear hf
      go_wp2_with fail
      go_ret
      refine ⟨_, rfl, Bw.out, ?_⟩
      rw [HF.out]
      exact fun W hW => Sl.from_ ptC_len hW _ (by omega)
end Go.Proofs.YtbjlnnfmcjbnhaaGreatDoor
