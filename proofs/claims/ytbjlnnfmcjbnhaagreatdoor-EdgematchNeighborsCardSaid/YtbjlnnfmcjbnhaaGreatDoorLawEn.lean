/- mapsheetslaw42.EdgematchNeighbors: true. -/
import Derived.Test.YtbjlnnfmcjbnhaaGreatDoorJ20
import Derived.Test.YtbjlnnfmcjbnhaaGreatDoorJ16
import Derived.Test.YtbjlnnfmcjbnhaaGreatDoorLawU
set_option linter.unusedSimpArgs false
set_option linter.unusedVariables false
namespace Go.Proofs.YtbjlnnfmcjbnhaaGreatDoor
open Go.RowKit

theorem expL_len (g : Ed) (p : Pl) : (expL g p).length ≤ p.arcs.length * 2 + (p.arcs.flatMap (·.via)).length := by
  unfold expL
  induction p.arcs with
  | nil => simp
  | cons a l ih =>
    rw [List.flatMap_cons, List.flatMap_cons, List.length_append, List.length_append, List.length_cons]
    have h1 := (expAt_bd g p.nodes a.id (pathS p a) (pathS p a).length).2.2.2
    have h2 : (pathS p a).length = a.via.length + 2 := by simp [pathS]
    omega
theorem expected_len (p : Pl) (s : Se) (n side : Int) : (expectedS p s n side).1.length ≤ p.arcs.length * 2 + (p.arcs.flatMap (·.via)).length := by
  unfold expectedS
  split
  · split
    · split
      · simp
      · rename_i g _
        show (sortCr (expL g p)).length ≤ _
        rw [sortCr_len]
        exact expL_len g p
    · simp
  · simp

set_option maxRecDepth 100000 in
set_option maxHeartbeats 4000000 in
theorem EdgematchNeighbors_spec (v : Value) (p : Pl) (s : Se) (n side : Int) (w : World) (h : PlV w v p) (hwf : wfPl p) (hm : Mv w) :
    Calls Tryz.prog 6 #[v, seV s, .int .i64 n, .int .i64 side] w fun e w' => e = .returned (.bool true) ∧ Below w.heap.size w w' := by
  have HSm := Lib.hid (fun W (hW : Below w.heap.size w W) => Small15_spec v p W (h.mono hW))
  have HCk := Lib.hid (fun W (hW : Below w.heap.size w W) => RCheck_spec v p W (h.mono hW))
  have TX := fun (hs : small15 p = true) (n side : Int) W (hW : Below w.heap.size w W) => Expected_spec v p s n side W (h.mono hW) hwf (by have := small15_facts hs; omega)
  have TN := fun W => rNeighbor_spec s n side W
  have HAw := Lib.hid (fun W (hW : Below w.heap.size w W) => awake42_spec W (hm.keep hW))
  obtain ⟨_, _, _, al, rfl, hpa, ⟨An, cn, rfl, -⟩, ⟨⟨Aa, ca, rfl, -⟩, -⟩, ⟨Af, cf, rfl, -⟩⟩ := h
  unfold nbRes at TN
  unfold RetCrs at TX
  unfold seV at TX TN ⊢
  have HX := Lib.hid TX; have HN := Lib.hid TN
  clear TX TN hm hwf hpa
  generalize al.length = na at *
  generalize p.nodes.length = nn at *
  generalize p.faces.length = nf at *
  go_enter Tryz.func6, Tryz.ntmps6
  go_wp2_with fail
  refine (HSm.out _ (bA (bA (bR w) _) _)).mono ?_
  rintro e w1 ⟨rfl, hb1⟩
  have B1 := Lib.hid (bT (bA (bA (bR w) _) _) hb1)
  have HX3 := Lib.hid (show Blk w1 w.heap.size 40 #[.slice An nn cn, .slice Aa na ca, .slice Af nf cf] from ((Blk.made rfl _ _).alloc _).keep hb1)
  have HX4 := Lib.hid (show Blk w1 (w.heap.size + 1) 44 #[.int .i64 s.at_.x, .int .i64 s.at_.y, .int .i64 s.width, .int .i64 s.height, .int .i64 s.cols, .int .i64 s.rows] from (Blk.made (by simp) _ _).keep hb1)
  clear hb1
  have X3 := HX3.out
  have X4 := HX4.out
  try clear X3l
  try clear X3a
  try clear X3b
  try clear X3c
  try clear X3fa
  try clear X3fb
  try clear X3fc
  obtain ⟨X3l, X3a, X3b, X3c, -, -, -⟩ := X3.facts3
  try clear X4l
  try clear X4a
  try clear X4b
  try clear X4c
  try clear X4d
  try clear X4e
  try clear X4f
  try clear X4fa
  try clear X4fb
  try clear X4fc
  try clear X4fd
  try clear X4fe
  try clear X4ff
  obtain ⟨X4l, X4a, X4b, X4c, X4d, X4e, X4f, -, -, -, -, -, -⟩ := X4.facts6
  cases hs : small15 p
  case false =>
    clear hs
    go_wp2_with fail
    refine (HAw.out _ B1.out).mono ?_
    rintro e w2 ⟨rfl, hb2⟩
    go_wp2_with fail
    go_ret
    exact ⟨rfl, bT B1.out hb2⟩
  replace HX := Lib.hid (HX.out hs)
  have HLn := Lib.hid (fun n side => show (expectedS p s n side).1.length ≤ 1000 by have := expected_len p s n side; have := small15_facts hs; omega)
  clear hs
  go_wp2_with fail
  refine (HCk.out _ B1.out).mono ?_
  rintro e w2 ⟨rfl, hb2⟩
  have B2 := Lib.hid (bT B1.out hb2)
  replace HX3 := Lib.hid (HX3.out.keep hb2)
  replace HX4 := Lib.hid (HX4.out.keep hb2)
  clear hb2 X3 X4 X3l X3a X3b X3c X4l X4a X4b X4c X4d X4e X4f
  have X3 := HX3.out
  have X4 := HX4.out
  try clear X3l
  try clear X3a
  try clear X3b
  try clear X3c
  try clear X3fa
  try clear X3fb
  try clear X3fc
  obtain ⟨X3l, X3a, X3b, X3c, -, -, -⟩ := X3.facts3
  try clear X4l
  try clear X4a
  try clear X4b
  try clear X4c
  try clear X4d
  try clear X4e
  try clear X4f
  try clear X4fa
  try clear X4fb
  try clear X4fc
  try clear X4fd
  try clear X4fe
  try clear X4ff
  obtain ⟨X4l, X4a, X4b, X4c, X4d, X4e, X4f, -, -, -, -, -, -⟩ := X4.facts6
  by_cases hck : checkS p = 0
  case neg =>
    have hck' : (checkS p != 0) = true := by simp [hck]
    clear hck
    generalize checkS p = z at *
    go_wp2_with fail
    refine (HAw.out _ B2.out).mono ?_
    rintro e w3 ⟨rfl, hb3⟩
    go_wp2_with fail
    go_ret
    exact ⟨rfl, bT B2.out hb3⟩
  have HCk0 := Lib.hid hck
  rw [hck]
  clear hck
  cases hnb : nbS s n side
  case none =>
    rw [hnb] at HN
    simp only [Option.getD_none, Option.isSome_none] at HN
    clear hnb
    go_wp2_with fail
    refine (HN.out _).mono ?_
    rintro e w3 ⟨rfl, hb3⟩
    have B3 := Lib.hid (bT B2.out hb3)
    clear hb3
    go_wp2_with fail
    refine (HAw.out _ B3.out).mono ?_
    rintro e w4 ⟨rfl, hb4⟩
    have B4 := Lib.hid (bT B3.out hb4)
    clear hb4
    go_wp2_with fail
    go_ret
    exact ⟨rfl, B4.out⟩
  case some m =>
  rw [hnb] at HN
  simp only [Option.getD_some, Option.isSome_some] at HN
  have hside := (nbS_some hnb).2.1
  obtain ⟨e1, e2, e3⟩ := expected_facing HCk0.out hnb
  obtain ⟨L, z, hL⟩ : ∃ L z, expectedS p s n side = (L, z) := ⟨_, _, rfl⟩
  obtain ⟨M, y, hM⟩ : ∃ M y, expectedS p s m (facS side) = (M, y) := ⟨_, _, rfl⟩
  have hlM := HLn.out m (facS side)
  have T1 := HX.out n side
  have T2 := HX.out m (facS side)
  rw [hL] at e1 e3 T1
  rw [hM] at e2 e3 hlM T2
  simp only [] at e1 e2 e3
  subst e1 e2 e3
  have HE1 := Lib.hid T1
  have HE2 := Lib.hid T2
  have HLM := Lib.hid hlM
  have HFc : Hid (facS side = if 4 < side + 2 then side - 2 else side + 2) := Lib.hid (by unfold facS; split <;> split <;> omega)
  clear T1 T2 hlM hL hM hnb HX HLn HCk HSm
  have w1e : IntKind.i64.wrap (side + 2) = side + 2 := IntWalk.i64_in _ (by omega)
  have w2e : IntKind.i64.wrap (side - 2) = side - 2 := IntWalk.i64_in _ (by omega)
  go_wp2_with fail
  refine (HN.out _).mono ?_
  rintro e w3 ⟨rfl, hb3⟩
  have B3 := Lib.hid (bT B2.out hb3)
  replace HX3 := Lib.hid (HX3.out.keep hb3)
  replace HX4 := Lib.hid (HX4.out.keep hb3)
  clear hb3 X3 X4 X3l X3a X3b X3c X4l X4a X4b X4c X4d X4e X4f
  have X3 := HX3.out
  have X4 := HX4.out
  try clear X3l
  try clear X3a
  try clear X3b
  try clear X3c
  try clear X3fa
  try clear X3fb
  try clear X3fc
  obtain ⟨X3l, X3a, X3b, X3c, -, -, -⟩ := X3.facts3
  try clear X4l
  try clear X4a
  try clear X4b
  try clear X4c
  try clear X4d
  try clear X4e
  try clear X4f
  try clear X4fa
  try clear X4fb
  try clear X4fc
  try clear X4fd
  try clear X4fe
  try clear X4ff
  obtain ⟨X4l, X4a, X4b, X4c, X4d, X4e, X4f, -, -, -, -, -, -⟩ := X4.facts6
  go_upto_if 38 with fail
  go_cut [11] (fun u wx => u = .int .i64 (facS side) ∧ wx = w3)
  case first =>
    by_cases h4 : 4 < side + 2
    · have hf := HFc.out
      rw [if_pos h4] at hf
      have HF := Lib.hid hf
      clear hf
      go_wp2_with fail
      go_meet
      case rel => exact ⟨by rw [HF.out], rfl⟩
    · have hf := HFc.out
      rw [if_neg h4] at hf
      have HF := Lib.hid hf
      clear hf
      go_wp2_with fail
      go_meet
      case rel => exact ⟨by rw [HF.out], rfl⟩
  case rest =>
  obtain ⟨rfl, rfl⟩ := hcut
  clear w1e w2e HFc
  generalize facS side = fs at *
  go_wp2_with fail
  refine (HE1.out _ B3.out).mono ?_
  rintro e w4 ⟨A1, c1, rfl, hb4, ho1⟩
  have B4 := Lib.hid (bT B3.out hb4)
  have HO1 := Lib.hid ho1.sl
  replace HX3 := Lib.hid (HX3.out.keep hb4)
  replace HX4 := Lib.hid (HX4.out.keep hb4)
  clear hb4 ho1 X3 X4 X3l X3a X3b X3c X4l X4a X4b X4c X4d X4e X4f
  have X3 := HX3.out
  have X4 := HX4.out
  try clear X3l
  try clear X3a
  try clear X3b
  try clear X3c
  try clear X3fa
  try clear X3fb
  try clear X3fc
  obtain ⟨X3l, X3a, X3b, X3c, -, -, -⟩ := X3.facts3
  try clear X4l
  try clear X4a
  try clear X4b
  try clear X4c
  try clear X4d
  try clear X4e
  try clear X4f
  try clear X4fa
  try clear X4fb
  try clear X4fc
  try clear X4fd
  try clear X4fe
  try clear X4ff
  obtain ⟨X4l, X4a, X4b, X4c, X4d, X4e, X4f, -, -, -, -, -, -⟩ := X4.facts6
  go_wp2_with fail
  refine (HE2.out _ B4.out).mono ?_
  rintro e w5 ⟨A2, c2, rfl, hb5, ho2⟩
  have B5 := Lib.hid (bT B4.out hb5)
  have HO2 := Lib.hid ho2.sl
  replace HO1 := Lib.hid (HO1.out.mono hb5)
  clear hb5 ho2 X3 X4 X3l X3a X3b X3c X4l X4a X4b X4c X4d X4e X4f
  have HOp := Lib.hid (Opposite_spec _ M _ HO2.out (by have := HLM.out; omega))
  generalize oppS M = OM at *
  go_wp2_with fail
  refine HOp.out.mono ?_
  rintro e w6 ⟨A4, c4, rfl, hb6, ho4⟩
  have B6 := Lib.hid (bT B5.out hb6)
  have HO4 := Lib.hid ho4.sl
  replace HO1 := Lib.hid (HO1.out.mono hb6)
  clear hb6 ho4
  go_wp2_with fail
  refine (same_true HO1.out HO4.out).mono ?_
  rintro e w7 ⟨rfl, hb7⟩
  have B7 := Lib.hid (bT B6.out hb7)
  clear hb7
  go_wp2_with fail
  refine (HAw.out _ B7.out).mono ?_
  rintro e w8 ⟨rfl, hb8⟩
  have B8 := Lib.hid (bT B7.out hb8)
  clear hb8
  go_wp2_with fail
  go_ret
  exact ⟨rfl, B8.out⟩
end Go.Proofs.YtbjlnnfmcjbnhaaGreatDoor
