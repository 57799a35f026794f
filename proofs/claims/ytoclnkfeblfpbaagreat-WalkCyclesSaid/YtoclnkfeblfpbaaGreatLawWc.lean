/- mapsheetslaw15.WalkCycles: true. -/
import Derived.Test.YtoclnkfeblfpbaaGreatLawW
import Derived.Test.YtoclnkfeblfpbaaGreatRefF15
set_option linter.unusedSimpArgs false
set_option linter.unusedVariables false
namespace Go.Proofs.YtoclnkfeblfpbaaGreat
open Go.RowKit

set_option maxRecDepth 100000 in
set_option maxHeartbeats 8000000 in
theorem Cycles_bad (v : Value) (p : Pl) (w : World) (h : PlV w v p) (hv : checkS p ≠ 0) : Calls Tryz.prog 15 #[v] w (RetCys w [] (checkS p)) := by
  have HCk := Lib.hid (fun W (hW : Below w.heap.size w W) => Check_spec v p W (h.mono hW))
  obtain ⟨vn, va, vf, al, rfl, -⟩ := h
  generalize checkS p = z at *
  have he : (z != 0) = true := by simpa using hv
  clear hv
  go_enter Tryz.func15, Tryz.ntmps15
  go_wp2_with fail
  refine (HCk.out _ (bA (bR w) _)).mono ?_
  rintro e w1 ⟨rfl, hb1⟩
  have B1 := Lib.hid (bT (bA (bR w) _) hb1)
  clear hb1 HCk
  go_wp2_with fail
  go_ret2
  exact ⟨none, 0, [], rfl, B1.out, rfl, Own.nil _ _ _ _ _, fun x hx => by cases hx⟩
set_option maxRecDepth 100000 in
set_option maxHeartbeats 8000000 in
theorem RCycles_bad (v : Value) (p : Pl) (w : World) (h : PlV w v p) (hv : checkS p ≠ 0) : Calls Tryz.prog 16 #[v] w (RetCys w [] (checkS p)) := by
  have HCk := Lib.hid (fun W (hW : Below w.heap.size w W) => RCheck_spec v p W (h.mono hW))
  obtain ⟨vn, va, vf, al, rfl, -⟩ := h
  generalize checkS p = z at *
  have he : (z != 0) = true := by simpa using hv
  clear hv
  go_enter Tryz.func16, Tryz.ntmps16
  go_wp2_with fail
  refine (HCk.out _ (bA (bR w) _)).mono ?_
  rintro e w1 ⟨rfl, hb1⟩
  have B1 := Lib.hid (bT (bA (bR w) _) hb1)
  clear hb1 HCk
  go_wp2_with fail
  go_ret2
  exact ⟨none, 0, [], rfl, B1.out, rfl, Own.nil _ _ _ _ _, fun x hx => by cases hx⟩
/-- both, at any plan -/
theorem cycles_both (v : Value) (p : Pl) : ∃ l z, ∀ w W, PlV w v p → Below w.heap.size w W → Calls Tryz.prog 15 #[v] W (RetCys W l z) ∧ Calls Tryz.prog 16 #[v] W (RetCys W l z) := by
  by_cases hc : checkS p = 0
  · have hv := (check_zero p).1 hc
    exact ⟨cyclesD p, 0, fun w W h hW => ⟨Cycles_spec v p W (h.mono hW) hv, RCycles_spec v p W (h.mono hW) hv⟩⟩
  · exact ⟨[], checkS p, fun w W h hW => ⟨Cycles_bad v p W (h.mono hW) hc, RCycles_bad v p W (h.mono hW) hc⟩⟩

set_option maxRecDepth 100000 in
set_option maxHeartbeats 8000000 in
theorem WalkCycles_spec (v : Value) (p : Pl) (w : World) (h : PlV w v p) :
    Calls Tryz.prog 4 #[v] w fun e w' => e = .returned (.bool true) ∧ Below w.heap.size w w' := by
  have HG := Lib.hid (fun W (hW : Below w.heap.size w W) => Small15_spec v p W (h.mono hW))
  have HAw := Lib.hid awakeW_spec
  obtain ⟨l, z, hcy⟩ := cycles_both v p
  have HC := Lib.hid (fun W hW => (hcy w W h hW).1)
  have HR := Lib.hid (fun W hW => (hcy w W h hW).2)
  obtain ⟨vn, va, vf, al, rfl, -⟩ := h
  clear hcy
  generalize small15 p = g at *
  go_enter Tryz.func4, Tryz.ntmps4
  go_wp2_with fail
  refine (HG.out _ (bA (bR w) _)).mono ?_
  rintro e w1 ⟨rfl, hb1⟩
  have B1 := Lib.hid (bT (bA (bR w) _) hb1)
  have X1 : Blk w1 w.heap.size 26 #[vn, va, vf] := (Blk.made rfl _ _).keep hb1
  have HX1 := Lib.hid X1
  clear hb1
  cases g
  case false =>
    go_wp2_with fail
    refine (HAw.out _).mono ?_
    rintro e w2 ⟨rfl, hb2⟩
    go_wp2_with fail
    go_ret
    exact ⟨rfl, bT B1.out hb2⟩
  try clear X1l
  try clear X1a
  try clear X1b
  try clear X1c
  try clear X1fa
  try clear X1fb
  try clear X1fc
  obtain ⟨X1l, X1a, X1b, X1c, -, -, -⟩ := X1.facts3
  go_wp2_with fail
  refine (HC.out _ B1.out).mono ?_
  rintro e w2 ⟨A2, c2, L2, rfl, hb2, hL2, hco2⟩
  have B2 := Lib.hid (bT B1.out hb2)
  have HL2 := Lib.hid hL2
  have HCo2 := Lib.hid hco2.read
  have X2 := HX1.out.keep hb2
  clear hb2 hL2 hco2 X1 X1l X1a X1b X1c HC
  try clear X2l
  try clear X2a
  try clear X2b
  try clear X2c
  try clear X2fa
  try clear X2fb
  try clear X2fc
  obtain ⟨X2l, X2a, X2b, X2c, -, -, -⟩ := X2.facts3
  generalize hl : l.length = n at *
  go_wp2_with fail
  refine (HR.out _ B2.out).mono ?_
  rintro e w3 ⟨A3, c3, L3, rfl, hb3, hL3, hco3⟩
  have B3 := Lib.hid (bT B2.out hb3)
  have HCo3 := Lib.hid hco3.read
  have HCo2' := Lib.hid (HCo2.out.mono hb3)
  have hs := SameCyc_spec _ _ L2 L3 w3 HCo2'.out HCo3.out
  rw [HL2.out, hL3, show sameC l l = true by unfold sameC; simp] at hs
  rw [hl] at hs ⊢
  have HS := Lib.hid hs
  clear hs hb3 hL3 hco3 X2 X2l X2a X2b X2c HR HL2 HCo2 hl
  have hzz : (z == z) = true := by simp
  go_wp2_with fail
  refine HS.out.mono ?_
  rintro e w4 ⟨rfl, hb4⟩
  have B4 := Lib.hid (bT B3.out hb4)
  clear hb4 HS
  go_wp2_with fail
  refine (HAw.out _).mono ?_
  rintro e w5 ⟨rfl, hb5⟩
  have B5 := Lib.hid (bT B4.out hb5)
  clear hb5
  go_wp2_with fail
  go_ret
  exact ⟨rfl, B5.out⟩
end Go.Proofs.YtoclnkfeblfpbaaGreat
