/- mapsheetslaw15: good; WalkDarts, WalkTwice: true. -/
import Derived.Test.YtoclnkfeblfpbaaGreatJ17
import Derived.Test.YtoclnkfeblfpbaaGreatJ18
set_option linter.unusedSimpArgs false
set_option linter.unusedVariables false
namespace Go.Proofs.YtoclnkfeblfpbaaGreat
open Go.RowKit

def goodS (p : Pl) : Bool := small15 p && decide (checkS p = 0)
theorem good_valid {p : Pl} (h : goodS p = true) : Valid p := by
  unfold goodS at h
  rw [Bool.and_eq_true, decide_eq_true_iff] at h
  exact (check_zero p).1 h.2
set_option maxRecDepth 100000 in
set_option maxHeartbeats 4000000 in
theorem good_spec (v : Value) (p : Pl) (w : World) (h : PlV w v p) : Calls Tryz.prog 18 #[v] w fun e w' => e = .returned (.bool (goodS p)) ∧ Below w.heap.size w w' := by
  have HSm := Lib.hid (fun W (hW : Below w.heap.size w W) => Small15_spec v p W (h.mono hW))
  have HCk := Lib.hid (fun W (hW : Below w.heap.size w W) => RCheck_spec v p W (h.mono hW))
  obtain ⟨vn, va, vf, al, rfl, -⟩ := h
  obtain ⟨q, hq⟩ : ∃ q, goodS p = q := ⟨_, rfl⟩
  rw [hq]
  unfold goodS at hq
  have Hq := Lib.hid hq
  clear hq
  generalize small15 p = b at *
  generalize checkS p = z at *
  go_enter Tryz.func18, Tryz.ntmps18
  go_wp2_with fail
  refine (HSm.out _ (bA (bR w) _)).mono ?_
  rintro e w1 ⟨rfl, hb1⟩
  have Bw := bT (bA (bR w) _) hb1
  have X1 : Blk w1 w.heap.size 26 #[vn, va, vf] := (Blk.made rfl _ _).keep hb1
  clear hb1
  cases b
  · go_wp2_with fail
    go_ret
    exact ⟨by rw [← Hq.out]; rfl, Bw⟩
  · skip
    try clear X1l
    try clear X1a
    try clear X1b
    try clear X1c
    try clear X1fa
    try clear X1fb
    try clear X1fc
    obtain ⟨X1l, X1a, X1b, X1c, -, -, -⟩ := X1.facts3
    go_wp2_with fail
    refine (HCk.out _ Bw).mono ?_
    rintro e w2 ⟨rfl, hb2⟩
    by_cases hz : z = 0
    · subst hz
      go_wp2_with fail
      go_ret
      exact ⟨by rw [← Hq.out]; rfl, bT Bw hb2⟩
    · have he : (z == 0) = false := by simpa using hz
      have hd := Lib.hid (decide_eq_false hz)
      clear hz
      go_wp2_with fail
      go_ret
      exact ⟨by rw [← Hq.out, hd.out]; rfl, bT Bw hb2⟩

set_option maxRecDepth 100000 in
set_option maxHeartbeats 8000000 in
theorem WalkTwice_spec (v u : Value) (p : Pl) (l : List Int) (w : World) (h : PlV w v p) (hu : Ints w u l) (hw : ∀ d ∈ l, wfI d) :
    Calls Tryz.prog 5 #[v, u] w fun e w' => e = .returned (.bool true) ∧ Below w.heap.size w w' := by
  have HG := Lib.hid (fun W (hW : Below w.heap.size w W) => good_spec v p W (h.mono hW))
  have HP := Lib.hid h; have HU := Lib.hid hu; have HW := Lib.hid hw
  have HAw := Lib.hid awakeW_spec
  obtain ⟨vn, va, vf, al, rfl, -⟩ := h
  obtain ⟨A, c, rfl, -⟩ := hu
  have HGv := Lib.hid (fun h => good_valid (p := p) h)
  clear hw
  generalize goodS p = g at *
  generalize hn : l.length = n at *
  go_enter Tryz.func5, Tryz.ntmps5
  go_wp2_with fail
  refine (HG.out _ (bA (bR w) _)).mono ?_
  rintro e w1 ⟨rfl, hb1⟩
  have Bw : Below w.heap.size w w1 := bT (bA (bR w) _) hb1
  have X2 : Blk w1 w.heap.size 26 #[vn, va, vf] := (Blk.made rfl _ _).keep hb1
  clear hb1 hn
  cases g
  case false =>
    go_wp2_with fail
    refine (HAw.out _).mono ?_
    rintro e w2 ⟨rfl, hb2⟩
    go_wp2_with fail
    go_ret
    exact ⟨rfl, bT Bw hb2⟩
  have HV := Lib.hid (HGv.out rfl)
  have HT1 := Lib.hid (fun W (hW : Below w.heap.size w W) => Twice15w_spec _ _ p l W (HP.out.mono hW) (HU.out.mono hW) HV.out HW.out)
  have HT2 := Lib.hid (fun W (hW : Below w.heap.size w W) => Twice15r_spec _ _ p l W (HP.out.mono hW) (HU.out.mono hW) HV.out HW.out)
  generalize twiceD p l = t at *
  try clear X2l
  try clear X2a
  try clear X2b
  try clear X2c
  try clear X2fa
  try clear X2fb
  try clear X2fc
  obtain ⟨X2l, X2a, X2b, X2c, -, -, -⟩ := X2.facts3
  have BW := Lib.hid Bw
  go_upto_region 3 with fail
  refine rg_start (Since w1) (.take 0 1 (.take 1 3 (.take 3 11 (.take 4 27 (.call 2 31 (.call 5 63 (.take 6 127 (.take 7 255 (.call 8 511 (.take 9 1023 (.take 10 2047 (.done)))))))))))) (by kernel_rfl) (bD (bR _)) (by kernel_rfl) (by kernel_rfl) (Nat.le_of_ble_eq_true (by kernel_rfl)) ?_
  intro opsR QR Hops HQrg hS
  apply rg_yp (i := 0) Hops rfl hS rfl
  · intro wq hq; obtain ⟨hqc, -⟩ := bcell (show Below w1.heap.size w1 wq from hq); clear hq; go_simp; try rfl
  try simp only [Act.put, pu1, pu2, pu3]
  apply rg_yp (i := 1) Hops rfl hS rfl
  · intro _ hq; clear hq; go_simp; try rfl
  try simp only [Act.put, pu1, pu2, pu3]
  apply rg_yp (i := 3) Hops rfl hS rfl
  · intro wq hq; obtain ⟨hqc, -⟩ := bcell (show Below w1.heap.size w1 wq from hq); clear hq; go_simp; try rfl
  try simp only [Act.put, pu1, pu2, pu3]
  apply rg_yp (i := 4) Hops rfl hS rfl
  · intro _ hq; clear hq; go_simp; try rfl
  try simp only [Act.put, pu1, pu2, pu3]
  refine rg_call (i := 2) (get_of Hops rfl) (fun K hK => ?_)
  have HSrg := Lib.hid hS; clear hS
  refine rg_run (wanted_plain rfl) ?_
  go_simp
  refine (HT1.out _ (bT BW.out (bD (bR w1)))).mono ?_
  rintro e wr1 ⟨rfl, hbr1⟩
  have hS : Since w1 wr1 := bT (w := w1) HSrg.out hbr1
  clear HSrg
  refine hK.out _ _ hS (fun _ => ?_)
  clear hK K
  try simp only [Act.put, pu1, pu2, pu3]
  refine rg_call (i := 5) (get_of Hops rfl) (fun K hK => ?_)
  have HSrg := Lib.hid hS; clear hS
  refine rg_run (wanted_plain rfl) ?_
  go_simp
  refine (HT2.out _ (bT BW.out (bT (bD (bR w1)) hbr1))).mono ?_
  rintro e wr2 ⟨rfl, hbr2⟩
  have hS : Since w1 wr2 := bT (w := w1) HSrg.out hbr2
  clear HSrg
  refine hK.out _ _ hS (fun _ => ?_)
  clear hK K
  try simp only [Act.put, pu1, pu2, pu3]
  apply rg_yp (i := 6) Hops rfl hS rfl
  · intro _ hq; clear hq; go_simp; try rfl
  try simp only [Act.put, pu1, pu2, pu3]
  apply rg_yp (i := 7) Hops rfl hS rfl
  · intro _ hq; clear hq; go_simp; try rfl
  try simp only [Act.put, pu1, pu2, pu3]
  refine rg_call (i := 8) (get_of Hops rfl) (fun K hK => ?_)
  have HSrg := Lib.hid hS; clear hS
  refine rg_run (wanted_yes rfl (get_of Hops rfl) rfl rfl) ?_
  go_simp
  refine (HAw.out _).mono ?_
  rintro e wr3 ⟨rfl, hbr3⟩
  have hS : Since w1 wr3 := bT (w := w1) HSrg.out hbr3
  clear HSrg
  refine hK.out _ _ hS (fun _ => ?_)
  clear hK K
  try simp only [Act.put, pu1, pu2, pu3]
  apply rg_yp (i := 9) Hops rfl hS rfl
  · intro _ hq; clear hq; go_simp; try rfl
  try simp only [Act.put, pu1, pu2, pu3]
  apply rg_yp (i := 10) Hops rfl hS rfl
  · intro _ hq; clear hq; go_simp; try rfl
  try simp only [Act.put, pu1, pu2, pu3]
  refine rg_done ?_
  refine HQrg.down _ _ ?_
  have hB : Below w1.heap.size w1 wr3 := hS
  clear hS HQrg Hops
  go_wp2_with fail
  go_ret
  exact ⟨rfl, bT BW.out hB⟩

set_option maxRecDepth 100000 in
set_option maxHeartbeats 8000000 in
theorem WalkDarts_spec (v : Value) (p : Pl) (d : Int) (w : World) (h : PlV w v p) (hs : ShortL p) (hd : wfI d) :
    Calls Tryz.prog 3 #[v, .int .i64 d] w fun e w' => e = .returned (.bool true) ∧ Below w.heap.size w w' := by
  have H1 := Lib.hid (fun W (hW : Below w.heap.size w W) => wStart_spec v p d W (h.mono hW) hs hd)
  have H2 := Lib.hid (fun W (hW : Below w.heap.size w W) => rStart_spec v p d W (h.mono hW) hs hd)
  have H3 := Lib.hid (fun W (hW : Below w.heap.size w W) => wSide_spec v p d W (h.mono hW) hs hd)
  have H4 := Lib.hid (fun W (hW : Below w.heap.size w W) => rSide_spec v p d W (h.mono hW) hs hd)
  have HAw := Lib.hid awakeW_spec
  obtain ⟨vn, va, vf, al, rfl, -⟩ := h
  clear hs hd
  generalize startD p d = s at *
  generalize sideD p d = t at *
  go_enter Tryz.func3, Tryz.ntmps3
  go_upto_region 1 with fail
  obtain ⟨W1, hW⟩ : ∃ W : World, W = w.alloc (.cells #[vn, va, vf] 26) := ⟨_, rfl⟩
  have Bw : Below w.heap.size w W1 := by rw [hW]; exact bA (bR w) _
  have X2 : Blk W1 w.heap.size 26 #[vn, va, vf] := by rw [hW]; exact Blk.made rfl _ _
  rw [← hW]
  clear hW
  have BW := Lib.hid Bw
  try clear X2l
  try clear X2a
  try clear X2b
  try clear X2c
  try clear X2fa
  try clear X2fb
  try clear X2fc
  obtain ⟨X2l, X2a, X2b, X2c, -, -, -⟩ := X2.facts3
  refine rg_start (Since W1) (.take 0 1 (.take 1 3 (.take 3 11 (.take 4 27 (.call 2 31 (.call 5 63 (.take 6 127 (.take 7 255 (.take 8 511 (.take 9 1023 (.take 11 3071 (.take 12 7167 (.call 10 8191 (.call 13 16383 (.take 14 32767 (.take 15 65535 (.take 16 131071 (.call 17 262143 (.take 18 524287 (.take 19 1048575 (.done))))))))))))))))))))) (by kernel_rfl) (bD (bR _)) (by kernel_rfl) (by kernel_rfl) (Nat.le_of_ble_eq_true (by kernel_rfl)) ?_
  intro opsR QR Hops HQrg hS
  apply rg_yp (i := 0) Hops rfl hS rfl
  · intro wq hq; obtain ⟨hqc, -⟩ := bcell (show Below W1.heap.size W1 wq from hq); clear hq; go_simp; try rfl
  try simp only [Act.put, pu1, pu2, pu3]
  apply rg_yp (i := 1) Hops rfl hS rfl
  · intro _ hq; clear hq; go_simp; try rfl
  try simp only [Act.put, pu1, pu2, pu3]
  apply rg_yp (i := 3) Hops rfl hS rfl
  · intro wq hq; obtain ⟨hqc, -⟩ := bcell (show Below W1.heap.size W1 wq from hq); clear hq; go_simp; try rfl
  try simp only [Act.put, pu1, pu2, pu3]
  apply rg_yp (i := 4) Hops rfl hS rfl
  · intro _ hq; clear hq; go_simp; try rfl
  try simp only [Act.put, pu1, pu2, pu3]
  refine rg_call (i := 2) (get_of Hops rfl) (fun K hK => ?_)
  have HSrg := Lib.hid hS; clear hS
  refine rg_run (wanted_plain rfl) ?_
  go_simp
  refine (H1.out _ (bT BW.out (bD (bR W1)))).mono ?_
  rintro e wr1 ⟨rfl, hbr1⟩
  have hS : Since W1 wr1 := bT (w := W1) HSrg.out hbr1
  clear HSrg
  refine hK.out _ _ hS (fun _ => ?_)
  clear hK K
  try simp only [Act.put, pu1, pu2, pu3]
  refine rg_call (i := 5) (get_of Hops rfl) (fun K hK => ?_)
  have HSrg := Lib.hid hS; clear hS
  refine rg_run (wanted_plain rfl) ?_
  go_simp
  refine (H2.out _ (bT BW.out (bT (bD (bR W1)) hbr1))).mono ?_
  rintro e wr2 ⟨rfl, hbr2⟩
  have hS : Since W1 wr2 := bT (w := W1) HSrg.out hbr2
  clear HSrg
  refine hK.out _ _ hS (fun _ => ?_)
  clear hK K
  try simp only [Act.put, pu1, pu2, pu3]
  apply rg_yp (i := 6) Hops rfl hS rfl
  · intro _ hq; clear hq; go_simp; try rfl
  try simp only [Act.put, pu1, pu2, pu3]
  apply rg_yp (i := 7) Hops rfl hS rfl
  · intro _ hq; clear hq; go_simp; try rfl
  try simp only [Act.put, pu1, pu2, pu3]
  apply rg_yg (i := 8) Hops rfl hS rfl rfl rfl rfl
  · intro wq hq; obtain ⟨hqc, -⟩ := bcell (show Below W1.heap.size W1 wq from hq); clear hq; go_simp; try rfl
  try simp only [Act.put, pu1, pu2, pu3]
  apply rg_yg (i := 9) Hops rfl hS rfl rfl rfl rfl
  · intro _ hq; clear hq; go_simp; try rfl
  try simp only [Act.put, pu1, pu2, pu3]
  apply rg_yg (i := 11) Hops rfl hS rfl rfl rfl rfl
  · intro wq hq; obtain ⟨hqc, -⟩ := bcell (show Below W1.heap.size W1 wq from hq); clear hq; go_simp; try rfl
  try simp only [Act.put, pu1, pu2, pu3]
  apply rg_yg (i := 12) Hops rfl hS rfl rfl rfl rfl
  · intro _ hq; clear hq; go_simp; try rfl
  try simp only [Act.put, pu1, pu2, pu3]
  refine rg_call (i := 10) (get_of Hops rfl) (fun K hK => ?_)
  have HSrg := Lib.hid hS; clear hS
  refine rg_run (wanted_yes rfl (get_of Hops rfl) rfl rfl) ?_
  go_simp
  refine (H3.out _ (bT BW.out HSrg.out)).mono ?_
  rintro e wr3 ⟨rfl, hbr3⟩
  have hS : Since W1 wr3 := bT (w := W1) HSrg.out hbr3
  clear HSrg
  refine hK.out _ _ hS (fun _ => ?_)
  clear hK K
  try simp only [Act.put, pu1, pu2, pu3]
  refine rg_call (i := 13) (get_of Hops rfl) (fun K hK => ?_)
  have HSrg := Lib.hid hS; clear hS
  refine rg_run (wanted_yes rfl (get_of Hops rfl) rfl rfl) ?_
  go_simp
  refine (H4.out _ (bT BW.out HSrg.out)).mono ?_
  rintro e wr4 ⟨rfl, hbr4⟩
  have hS : Since W1 wr4 := bT (w := W1) HSrg.out hbr4
  clear HSrg
  refine hK.out _ _ hS (fun _ => ?_)
  clear hK K
  try simp only [Act.put, pu1, pu2, pu3]
  apply rg_yg (i := 14) Hops rfl hS rfl rfl rfl rfl
  · intro _ hq; clear hq; go_simp; try rfl
  try simp only [Act.put, pu1, pu2, pu3]
  apply rg_yp (i := 15) Hops rfl hS rfl
  · intro _ hq; clear hq; go_simp; try rfl
  try simp only [Act.put, pu1, pu2, pu3]
  apply rg_yp (i := 16) Hops rfl hS rfl
  · intro _ hq; clear hq; go_simp; try rfl
  try simp only [Act.put, pu1, pu2, pu3]
  refine rg_call (i := 17) (get_of Hops rfl) (fun K hK => ?_)
  have HSrg := Lib.hid hS; clear hS
  refine rg_run (wanted_yes rfl (get_of Hops rfl) rfl rfl) ?_
  go_simp
  refine (HAw.out _).mono ?_
  rintro e wr5 ⟨rfl, hbr5⟩
  have hS : Since W1 wr5 := bT (w := W1) HSrg.out hbr5
  clear HSrg
  refine hK.out _ _ hS (fun _ => ?_)
  clear hK K
  try simp only [Act.put, pu1, pu2, pu3]
  apply rg_yp (i := 18) Hops rfl hS rfl
  · intro _ hq; clear hq; go_simp; try rfl
  try simp only [Act.put, pu1, pu2, pu3]
  apply rg_yp (i := 19) Hops rfl hS rfl
  · intro _ hq; clear hq; go_simp; try rfl
  try simp only [Act.put, pu1, pu2, pu3]
  refine rg_done ?_
  refine HQrg.down _ _ ?_
  have hB : Below W1.heap.size W1 wr5 := hS
  clear hS HQrg Hops
  go_wp2_with fail
  go_ret
  exact ⟨rfl, bT BW.out hB⟩
end Go.Proofs.YtoclnkfeblfpbaaGreat
