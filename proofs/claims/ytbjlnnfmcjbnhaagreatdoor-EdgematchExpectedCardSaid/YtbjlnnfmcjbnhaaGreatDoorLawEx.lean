/- mapsheetslaw42.EdgematchExpected: true. -/
import Derived.Test.YtbjlnnfmcjbnhaaGreatDoorJ20
import Derived.Test.YtbjlnnfmcjbnhaaGreatDoorExpB
import Derived.Test.YtbjlnnfmcjbnhaaGreatDoorLawU
set_option linter.unusedSimpArgs false
set_option linter.unusedVariables false
namespace Go.Proofs.YtbjlnnfmcjbnhaaGreatDoor
open Go.RowKit

set_option maxRecDepth 100000 in
set_option maxHeartbeats 4000000 in
theorem EdgematchExpected_spec (v : Value) (p : Pl) (s : Se) (n side : Int) (w : World) (h : PlV w v p) (hwf : wfPl p) (hm : Mv w) :
    Calls Tryz.prog 4 #[v, seV s, .int .i64 n, .int .i64 side] w fun e w' => e = .returned (.bool true) ∧ Below w.heap.size w w' := by
  have HSm := Lib.hid (fun W (hW : Below w.heap.size w W) => Small15_spec v p W (h.mono hW))
  have TX := fun (hs : small15 p = true) W (hW : Below w.heap.size w W) => Expected_spec v p s n side W (h.mono hW) hwf (by have := small15_facts hs; omega)
  have TR := fun (hs : small15 p = true) W (hW : Below w.heap.size w W) => rExpected_spec v p s n side W (h.mono hW) (by have := small15_facts hs; omega)
  have HAw := Lib.hid (fun W (hW : Below w.heap.size w W) => awake42_spec W (hm.keep hW))
  obtain ⟨_, _, _, al, rfl, hpa, ⟨An, cn, rfl, -⟩, ⟨⟨Aa, ca, rfl, -⟩, -⟩, ⟨Af, cf, rfl, -⟩⟩ := h
  obtain ⟨L, z, hr⟩ : ∃ L z, expectedS p s n side = (L, z) := ⟨_, _, rfl⟩
  rw [hr] at TX TR
  unfold RetCrs at TX
  unfold RetCrsE at TR
  unfold seV at TX TR ⊢
  have HX := Lib.hid TX; have HR := Lib.hid TR
  clear TX TR hm hr hwf hpa
  generalize al.length = na at *
  generalize p.nodes.length = nn at *
  generalize p.faces.length = nf at *
  go_enter Tryz.func4, Tryz.ntmps4
  go_wp2_with fail
  refine (HSm.out _ (bA (bA (bR w) _) _)).mono ?_
  rintro e w1 ⟨rfl, hb1⟩
  have B1 := Lib.hid (bT (bA (bA (bR w) _) _) hb1)
  have HX3 := Lib.hid (show Blk w1 w.heap.size 40 #[.slice An nn cn, .slice Aa na ca, .slice Af nf cf] from ((Blk.made rfl _ _).alloc _).keep hb1)
  have HX4 := Lib.hid (show Blk w1 (w.heap.size + 1) 44 #[.int .i64 s.at_.x, .int .i64 s.at_.y, .int .i64 s.width, .int .i64 s.height, .int .i64 s.cols, .int .i64 s.rows] from (Blk.made (by simp) _ _).keep hb1)
  clear hb1
  cases hs : small15 p
  case false =>
    go_wp2_with fail
    refine (HAw.out _ B1.out).mono ?_
    rintro e w2 ⟨rfl, hb2⟩
    go_wp2_with fail
    go_ret
    exact ⟨rfl, bT B1.out hb2⟩
  replace HX := Lib.hid (HX.out hs)
  replace HR := Lib.hid (HR.out hs)
  clear hs
  have X3 := HX3.out
  have X4 := HX4.out
  try clear X3l
  try clear X3a
  try clear X3b
  try clear X3c
  try clear X3fa
  try clear X3fb
  try clear X3fc
  obtain ⟨X3l, X3a, X3b, X3c, -, -, -⟩ := X3.facts3
  try clear X4l
  try clear X4a
  try clear X4b
  try clear X4c
  try clear X4d
  try clear X4e
  try clear X4f
  try clear X4fa
  try clear X4fb
  try clear X4fc
  try clear X4fd
  try clear X4fe
  try clear X4ff
  obtain ⟨X4l, X4a, X4b, X4c, X4d, X4e, X4f, -, -, -, -, -, -⟩ := X4.facts6
  go_wp2_with fail
  refine (HX.out _ B1.out).mono ?_
  rintro e w2 ⟨A1, c1, rfl, hb2, ho1⟩
  have B2 := Lib.hid (bT B1.out hb2)
  have HO1 := Lib.hid ho1.sl
  replace HX3 := Lib.hid (HX3.out.keep hb2)
  replace HX4 := Lib.hid (HX4.out.keep hb2)
  clear hb2 ho1 X3 X4 X3l X3a X3b X3c X4l X4a X4b X4c X4d X4e X4f
  have X3 := HX3.out
  have X4 := HX4.out
  try clear X3l
  try clear X3a
  try clear X3b
  try clear X3c
  try clear X3fa
  try clear X3fb
  try clear X3fc
  obtain ⟨X3l, X3a, X3b, X3c, -, -, -⟩ := X3.facts3
  try clear X4l
  try clear X4a
  try clear X4b
  try clear X4c
  try clear X4d
  try clear X4e
  try clear X4f
  try clear X4fa
  try clear X4fb
  try clear X4fc
  try clear X4fd
  try clear X4fe
  try clear X4ff
  obtain ⟨X4l, X4a, X4b, X4c, X4d, X4e, X4f, -, -, -, -, -, -⟩ := X4.facts6
  go_wp2_with fail
  refine (HR.out _ B2.out).mono ?_
  rintro e w3 ⟨A2, c2, rfl, hb3, ho2⟩
  have B3 := Lib.hid (bT B2.out hb3)
  have HO2 := Lib.hid ho2
  replace HO1 := Lib.hid (HO1.out.mono hb3)
  clear hb3 ho2 X3 X4 X3l X3a X3b X3c X4l X4a X4b X4c X4d X4e X4f
  have hzz : (z == z) = true := by simp
  go_wp2_with fail
  refine (same_true HO1.out HO2.out).mono ?_
  rintro e w4 ⟨rfl, hb4⟩
  have B4 := Lib.hid (bT B3.out hb4)
  clear hb4
  go_wp2_with fail
  refine (HAw.out _ B4.out).mono ?_
  rintro e w8 ⟨rfl, hb8⟩
  have B8 := Lib.hid (bT B4.out hb8)
  clear hb8
  go_wp2_with fail
  go_ret
  exact ⟨rfl, B8.out⟩
end Go.Proofs.YtbjlnnfmcjbnhaaGreatDoor
