/- mapsheetslaw41.ClipSames: true. -/
import Derived.Test.YtfondidmklmonaaGreatClipAx
import Derived.Test.YtfondidmklmonaaGreatClipFe
set_option linter.unusedSimpArgs false
set_option linter.unusedVariables false
namespace Go.Proofs.YtfondidmklmonaaGreat
open Go.RowKit

theorem decide_self {α : Type} [DecidableEq α] (x : α) : decide (x = x) = true := decide_eq_true rfl
set_option maxRecDepth 100000 in
set_option maxHeartbeats 8000000 in
theorem ClipSames_spec (v u : Value) (x y : Prt) (w : World) (h : PrtV w v x) (h' : PrtV w u y) :
  Calls Tryz.prog 5 #[v, u] w fun e w' => e = .returned (.bool true) ∧ Below w.heap.size w w' := by
 have HF1 := Lib.hid (fun W (hW : Below w.heap.size w W) => Few41_spec v x 300 W (h.mono hW) (by omega))
 have HF2 := Lib.hid (fun W (hW : Below w.heap.size w W) => Few41_spec u y 300 W (h'.mono hW) (by omega))
 have HAw := Lib.hid awake41_spec
 have HS1 := Lib.hid (fun W (hW : Below w.heap.size w W) => cSame_spec v u x y W (h.mono hW) (h'.mono hW))
 have HS2 := Lib.hid (fun W (hW : Below w.heap.size w W) => rSame41_spec v u x y W (h.mono hW) (h'.mono hW))
 have TS3 := fun W (hW : Below w.heap.size w W) => cSame_spec v v x x W (h.mono hW) (h.mono hW)
 rw [decide_self] at TS3
 have HS3 := Lib.hid TS3
 obtain ⟨z, hz⟩ : ∃ z, decide (x = y) = z := ⟨_, rfl⟩
 rw [hz] at HS1 HS2
 clear hz TS3
 have HA1 := Lib.hid (fun (hl : x.pieces.length ≤ 1000) W (hW : Below w.heap.size w W) => cArcs_spec v x W (h.mono hW) (by omega))
 have HA2 := Lib.hid (fun (hl : x.pieces.length ≤ 1000) W (hW : Below w.heap.size w W) => RArcs_spec v x W (h.mono hW) hl)
 obtain ⟨l, hl⟩ : ∃ l, arcsR (x.pieces.map (·.arc)) = l := ⟨_, rfl⟩
 rw [hl] at HA1 HA2
 clear hl
 have TSI := fun v u W (h : Ints W v l) (h' : Ints W u l) => SameInts_spec v u l l W h h'
 rw [decide_self] at TSI
 have HSI := Lib.hid TSI
 clear TSI
 obtain ⟨vp, vn, pl, rfl, -⟩ := h
 obtain ⟨up, un, ql, rfl, -⟩ := h'
 obtain ⟨f1, hf1⟩ : ∃ z, fewX x 300 = z := ⟨_, rfl⟩
 obtain ⟨f2, hf2⟩ : ∃ z, fewX y 300 = z := ⟨_, rfl⟩
 rw [hf1] at HF1; rw [hf2] at HF2
 have HFw := Lib.hid hf1
 clear hf1 hf2
 generalize x.sheet = sx at *
 generalize y.sheet = sy at *
 obtain ⟨s0, hs0⟩ : ∃ s0, w.heap.size = s0 := ⟨_, rfl⟩
 obtain ⟨g3, h3⟩ : ∃ g, s0 + 1 = g := ⟨_, rfl⟩
 obtain ⟨W, hW⟩ : ∃ W : World, W = (w.alloc (.cells #[.int .i64 sx, vp, vn] 35)).alloc (.cells #[.int .i64 sy, up, un] 35) := ⟨_, rfl⟩
 have HB0 := Lib.hid (show Below w.heap.size w W by rw [hW]; exact bA (bA (bR w) _) _)
 have X2 : Blk W s0 35 #[.int .i64 sx, vp, vn] := by rw [hW]; exact (Blk.made hs0.symm _ _).alloc _
 have X3 : Blk W g3 35 #[.int .i64 sy, up, un] := by rw [hW]; exact Blk.made (by simp; omega) _ _
 go_enter Tryz.func5, Tryz.ntmps5
 go_upto_region 1 with fail
 try rw [← hW]
 clear hW hs0 h3
 obtain ⟨X2l, X2a, X2b, X2c, -, -, -⟩ := X2.facts3
 go_wp2_with fail
 refine (HF1.out _ HB0.out).mono ?_
 rintro e w1 ⟨rfl, hb1⟩
 have HB1 := Lib.hid (bT HB0.out hb1)
 replace X2 := X2.keep hb1
 replace X3 := X3.keep hb1
 clear hb1
 cases f1
 ·
  go_wp2_with fail
  refine (HAw.out _).mono ?_
  rintro e w2 ⟨rfl, hb2⟩
  go_wp2_with fail
  go_ret
  exact ⟨rfl, bT HB1.out hb2⟩
 have hfx := HFw.out
 unfold fewX at hfx
 rw [decide_eq_true_iff] at hfx
 have hpl := hfx.1
 clear hfx
 try clear X2l X2a X2b X2c
 obtain ⟨X3l, X3a, X3b, X3c, -, -, -⟩ := X3.facts3
 go_wp2_with fail
 refine (HF2.out _ HB1.out).mono ?_
 rintro e w2 ⟨rfl, hb2⟩
 have HB2 := Lib.hid (bT HB1.out hb2)
 replace X2 := X2.keep hb2
 replace X3 := X3.keep hb2
 clear hb2 HB1
 try clear X3l X3a X3b X3c
 cases f2
 ·
  go_wp2_with fail
  refine (HAw.out _).mono ?_
  rintro e w3 ⟨rfl, hb3⟩
  go_wp2_with fail
  go_ret
  exact ⟨rfl, bT HB2.out hb3⟩
 replace HA1 := Lib.hid (HA1.out (by omega))
 replace HA2 := Lib.hid (HA2.out (by omega))
 have hzz : (z == z) = true := by simp
 try clear X2l
 try clear X2a
 try clear X2b
 try clear X2c
 obtain ⟨X2l, X2a, X2b, X2c, -, -, -⟩ := X2.facts3
 try clear X3l
 try clear X3a
 try clear X3b
 try clear X3c
 obtain ⟨X3l, X3a, X3b, X3c, -, -, -⟩ := X3.facts3
 go_upto_region 3 with fail
 refine rg_start (Since w2) (.take 0 1 (.take 1 3 (.take 3 11 (.take 4 27 (.call 2 31 (.call 5 63 (.run 4 6 63 (.call 10 2047 (.run 3 11 2047 (.take 15 49151 (.call 14 65535 (.call 16 131071 (.call 17 262143 (.take 18 524287 (.take 19 1048575 (.call 20 2097151 (.take 21 4194303 (.take 22 8388607 (.done))))))))))))))))))) (by kernel_rfl) (bD (bR _)) (by kernel_rfl) (by kernel_rfl) (Nat.le_of_ble_eq_true (by kernel_rfl)) ?_
 intro opsR QR Hops HQrg hS
 iterate 4
  apply rg_p; exact Hops; exact rfl; exact hS; exact rfl
  · intro _ hqc; go_simp; try rfl
  try simp only [pu]
 refine rg_call (i := 2) (get_of Hops rfl) (fun K hK => ?_)
 have HSrg := Lib.hid hS; clear hS
 refine rg_run (wanted_plain rfl) ?_
 go_simp
 refine (HS1.out _ (bT HB2.out HSrg.out)).mono ?_
 rintro e wr1 ⟨rfl, hbr1⟩
 have hS : Since w2 wr1 := bT (w := w2) HSrg.out hbr1
 clear HSrg
 refine hK.out _ _ hS (fun _ => ?_)
 clear hK K
 try simp only [pu]
 refine rg_call (i := 5) (get_of Hops rfl) (fun K hK => ?_)
 have HSrg := Lib.hid hS; clear hS
 refine rg_run (wanted_plain rfl) ?_
 go_simp
 refine (HS2.out _ (bT HB2.out HSrg.out)).mono ?_
 rintro e wr2 ⟨rfl, hbr2⟩
 have hS : Since w2 wr2 := bT (w := w2) HSrg.out hbr2
 clear HSrg
 refine hK.out _ _ hS (fun _ => ?_)
 clear hK K
 try simp only [pu]
 iterate 2
  apply rg_p; exact Hops; exact rfl; exact hS; exact rfl
  · intro _ hqc; go_simp; try rfl
  try simp only [pu]
 iterate 2
  apply rg_g; exact Hops; exact rfl; exact hS; iterate 4 exact rfl
  · intro _ hqc; go_simp; try rfl
  try simp only [pu]
 refine rg_call (i := 10) (get_of Hops rfl) (fun K hK => ?_)
 have HSrg := Lib.hid hS; clear hS
 refine rg_run (wanted_yes rfl (get_of Hops rfl) rfl rfl) ?_
 go_simp
 refine (HS3.out _ (bT HB2.out HSrg.out)).mono ?_
 rintro e wr3 ⟨rfl, hbr3⟩
 have hS : Since w2 wr3 := bT (w := w2) HSrg.out hbr3
 clear HSrg
 refine hK.out _ _ hS (fun _ => ?_)
 clear hK K
 try simp only [pu]
 iterate 2
  apply rg_p; exact Hops; exact rfl; exact hS; exact rfl
  · intro _ hqc; go_simp; try rfl
  try simp only [pu]
 iterate 2
  apply rg_g; exact Hops; exact rfl; exact hS; iterate 4 exact rfl
  · intro _ hqc; go_simp; try rfl
  try simp only [pu]
 refine rg_call (i := 14) (get_of Hops rfl) (fun K hK => ?_)
 have HSrg := Lib.hid hS; clear hS
 refine rg_run (wanted_yes rfl (get_of Hops rfl) rfl rfl) ?_
 go_simp
 refine (HA1.out _ (bT HB2.out HSrg.out)).mono ?_
 rintro e wr4 ⟨A1, c1, rfl, hbr4, ho1⟩
 have hS : Since w2 wr4 := bT (w := w2) HSrg.out hbr4
 clear HSrg
 refine hK.out _ _ hS (fun _ => ?_)
 clear hK K
 try simp only [pu]
 refine rg_call (i := 16) (get_of Hops rfl) (fun K hK => ?_)
 have HSrg := Lib.hid hS; clear hS
 refine rg_run (wanted_yes rfl (get_of Hops rfl) rfl rfl) ?_
 go_simp
 refine (HA2.out _ (bT HB2.out HSrg.out)).mono ?_
 rintro e wr5 ⟨A2, c2, rfl, hbr5, ho2⟩
 have hS : Since w2 wr5 := bT (w := w2) HSrg.out hbr5
 clear HSrg
 refine hK.out _ _ hS (fun _ => ?_)
 clear hK K
 try simp only [pu]
 refine rg_call (i := 17) (get_of Hops rfl) (fun K hK => ?_)
 have HSrg := Lib.hid hS; clear hS
 refine rg_run (wanted_yes rfl (get_of Hops rfl) rfl rfl) ?_
 go_simp
 refine (HSI.out _ _ _ (by first | exact ho1.sl | exact ho1.sl.mono hbr5) (by first | exact ho2.sl | exact ho2.sl.mono hbr4)).mono ?_
 rintro e wr6 ⟨rfl, hbr6⟩
 have hS : Since w2 wr6 := bT (w := w2) HSrg.out hbr6
 clear HSrg
 refine hK.out _ _ hS (fun _ => ?_)
 clear hK K
 try simp only [pu]
 iterate 2
  apply rg_p; exact Hops; exact rfl; exact hS; exact rfl
  · intro _ hqc; go_simp; try rfl
  try simp only [pu]
 refine rg_call (i := 20) (get_of Hops rfl) (fun K hK => ?_)
 have HSrg := Lib.hid hS; clear hS
 refine rg_run (wanted_yes rfl (get_of Hops rfl) rfl rfl) ?_
 go_simp
 refine (HAw.out _).mono ?_
 rintro e wr7 ⟨rfl, hbr7⟩
 have hS : Since w2 wr7 := bT (w := w2) HSrg.out hbr7
 clear HSrg
 refine hK.out _ _ hS (fun _ => ?_)
 clear hK K
 try simp only [pu]
 iterate 2
  apply rg_p; exact Hops; exact rfl; exact hS; exact rfl
  · intro _ hqc; go_simp; try rfl
  try simp only [pu]
 refine rg_done ?_
 refine HQrg.down _ _ ?_
 have hB : Below w2.heap.size w2 wr7 := hS
 clear hS HQrg Hops
 go_wp2_with fail
 go_ret
 exact ⟨rfl, bT HB2.out hB⟩
end Go.Proofs.YtfondidmklmonaaGreat
