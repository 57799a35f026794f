/- mapsheetslaw42.EdgematchCrossings: true. -/
import Derived.Test.YtbjlnnfmcjbnhaaGreatDoorJ20
import Derived.Test.YtbjlnnfmcjbnhaaGreatDoorLawU
set_option linter.unusedSimpArgs false
set_option linter.unusedVariables false
namespace Go.Proofs.YtbjlnnfmcjbnhaaGreatDoor
open Go.RowKit

set_option maxRecDepth 100000 in
set_option maxHeartbeats 4000000 in
theorem EdgematchCrossings_spec (v : Value) (x : Prt) (b : Bx) (side : Int) (w : World) (h : PrtV w v x) (hw : wfPrt x) (hm : Mv w) :
    Calls Tryz.prog 3 #[v, bxV b, .int .i64 side] w fun e w' => e = .returned (.bool true) ∧ Below w.heap.size w w' := by
  have HSm := Lib.hid (fun W (hW : Below w.heap.size w W) => Small42_spec v x W (h.mono hW))
  have TX := fun (hs : smallS x = true) W (hW : Below w.heap.size w W) => Crossings_spec v x b side W (h.mono hW) hw (by have := (small_facts hs).1; omega) (by have := (small_facts hs).2; omega)
  have TR := fun (hs : smallS x = true) W (hW : Below w.heap.size w W) => rCrossings_spec v x b side W (h.mono hW) (by have := (small_facts hs).1; omega)
  have HAw := Lib.hid (fun W (hW : Below w.heap.size w W) => awake42_spec W (hm.keep hW))
  have HLn := Lib.hid (fun (hs : smallS x = true) => show (crossResS x b side).1.length ≤ 1000 by have := crossRes_len x b side; have := (small_facts hs).1; omega)
  obtain ⟨vp, vn, pl, rfl, -, ⟨⟨Ap, cp, rfl, -⟩, -⟩, ⟨An, cn, rfl, -⟩⟩ := h
  obtain ⟨L, z, hr⟩ : ∃ L z, crossResS x b side = (L, z) := ⟨_, _, rfl⟩
  rw [hr] at TX TR HLn
  unfold RetCrs at TX
  unfold RetCrsE at TR
  unfold bxV at TX TR ⊢
  have HX := Lib.hid TX; have HR := Lib.hid TR
  clear TX TR hm hr hw
  generalize x.sheet = sh at *
  generalize pl.length = np at *
  generalize x.nodes.length = nn at *
  go_enter Tryz.func3, Tryz.ntmps3
  go_wp2_with fail
  refine (HSm.out _ (bA (bA (bR w) _) _)).mono ?_
  rintro e w1 ⟨rfl, hb1⟩
  have B1 := Lib.hid (bT (bA (bA (bR w) _) _) hb1)
  have HX3 := Lib.hid (show Blk w1 w.heap.size 25 #[.int .i64 sh, .slice Ap np cp, .slice An nn cn] from ((Blk.made rfl _ _).alloc _).keep hb1)
  have HX4 := Lib.hid (show Blk w1 (w.heap.size + 1) 27 #[.int .i64 b.x0, .int .i64 b.y0, .int .i64 b.x1, .int .i64 b.y1] from (Blk.made (by simp) _ _).keep hb1)
  clear hb1
  cases hs : smallS x
  case false =>
    go_wp2_with fail
    refine (HAw.out _ B1.out).mono ?_
    rintro e w2 ⟨rfl, hb2⟩
    go_wp2_with fail
    go_ret
    exact ⟨rfl, bT B1.out hb2⟩
  replace HX := Lib.hid (HX.out hs)
  replace HR := Lib.hid (HR.out hs)
  replace HLn := Lib.hid (HLn.out hs)
  clear hs
  have X3 := HX3.out
  have X4 := HX4.out
  try clear X3l
  try clear X3a
  try clear X3b
  try clear X3c
  try clear X3fa
  try clear X3fb
  try clear X3fc
  obtain ⟨X3l, X3a, X3b, X3c, -, -, -⟩ := X3.facts3
  try clear X4l
  try clear X4a
  try clear X4b
  try clear X4c
  try clear X4d
  try clear X4fa
  try clear X4fb
  try clear X4fc
  try clear X4fd
  obtain ⟨X4l, X4a, X4b, X4c, X4d, -, -, -, -⟩ := X4.facts4
  go_wp2_with fail
  refine (HX.out _ B1.out).mono ?_
  rintro e w2 ⟨A1, c1, rfl, hb2, ho1⟩
  have B2 := Lib.hid (bT B1.out hb2)
  have HO1 := Lib.hid ho1.sl
  replace HX3 := Lib.hid (HX3.out.keep hb2)
  replace HX4 := Lib.hid (HX4.out.keep hb2)
  clear hb2 ho1 X3 X4 X3l X3a X3b X3c X4l X4a X4b X4c X4d
  have X3 := HX3.out
  have X4 := HX4.out
  try clear X3l
  try clear X3a
  try clear X3b
  try clear X3c
  try clear X3fa
  try clear X3fb
  try clear X3fc
  obtain ⟨X3l, X3a, X3b, X3c, -, -, -⟩ := X3.facts3
  try clear X4l
  try clear X4a
  try clear X4b
  try clear X4c
  try clear X4d
  try clear X4fa
  try clear X4fb
  try clear X4fc
  try clear X4fd
  obtain ⟨X4l, X4a, X4b, X4c, X4d, -, -, -, -⟩ := X4.facts4
  go_wp2_with fail
  refine (HR.out _ B2.out).mono ?_
  rintro e w3 ⟨A2, c2, rfl, hb3, ho2⟩
  have B3 := Lib.hid (bT B2.out hb3)
  have HO2 := Lib.hid ho2
  replace HO1 := Lib.hid (HO1.out.mono hb3)
  clear hb3 ho2 X3 X4 X3l X3a X3b X3c X4l X4a X4b X4c X4d
  have hzz : (z == z) = true := by simp
  go_wp2_with fail
  refine (same_true HO1.out HO2.out).mono ?_
  rintro e w4 ⟨rfl, hb4⟩
  have B4 := Lib.hid (bT B3.out hb4)
  replace HO1 := Lib.hid (HO1.out.mono hb4)
  replace HO2 := Lib.hid (HO2.out.mono hb4)
  clear hb4
  go_wp2_with fail
  refine (Opposite_spec _ L _ HO1.out (by have := HLn.out; omega)).mono ?_
  rintro e w5 ⟨A3, c3, rfl, hb5, ho3⟩
  have B5 := Lib.hid (bT B4.out hb5)
  have HO3 := Lib.hid ho3.sl
  replace HO2 := Lib.hid (HO2.out.mono hb5)
  clear hb5 ho3
  go_wp2_with fail
  refine (rOpposite_spec _ L _ HO2.out (by have := HLn.out; omega)).mono ?_
  rintro e w6 ⟨A4, c4, rfl, hb6, ho4⟩
  have B6 := Lib.hid (bT B5.out hb6)
  have HO4 := Lib.hid ho4
  replace HO3 := Lib.hid (HO3.out.mono hb6)
  clear hb6 ho4
  go_wp2_with fail
  refine (same_true HO3.out HO4.out).mono ?_
  rintro e w7 ⟨rfl, hb7⟩
  have B7 := Lib.hid (bT B6.out hb7)
  clear hb7
  go_wp2_with fail
  refine (HAw.out _ B7.out).mono ?_
  rintro e w8 ⟨rfl, hb8⟩
  have B8 := Lib.hid (bT B7.out hb8)
  clear hb8
  go_wp2_with fail
  go_ret
  exact ⟨rfl, B8.out⟩
end Go.Proofs.YtbjlnnfmcjbnhaaGreatDoor
