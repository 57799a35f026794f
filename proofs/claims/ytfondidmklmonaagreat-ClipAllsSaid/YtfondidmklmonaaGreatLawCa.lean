/- mapsheetslaw41.ClipAlls: true. -/
import Derived.Test.YtfondidmklmonaaGreatLawCp
set_option linter.unusedSimpArgs false
set_option linter.unusedVariables false
namespace Go.Proofs.YtfondidmklmonaaGreat
open Go.RowKit

def RetPrtsR (w : World) (l : List Prt) (z : Int) (e : Ending) (w' : World) : Prop :=
 ∃ A c L, e = .returned (.tuple #[.slice A l.length c, .int .i64 z]) ∧ Below w.heap.size w w' ∧ L.map (·.1) = l ∧ Prts w' (.slice A l.length c) L
theorem RetPrts.rd {w : World} {r : List Prt × Int} {e : Ending} {w' : World} (h : RetPrts w r e w') : RetPrtsR w r.1 r.2 e w' := by
 obtain ⟨A, c, L, he, hb, hl, ho⟩ := h
 exact ⟨A, c, L.map rdX, he, hb, by rw [List.map_map]; exact hl, ho.read⟩
set_option maxRecDepth 100000 in
set_option maxHeartbeats 16000000 in
theorem ClipAlls_spec (v : Value) (p : Pl) (s : Se) (w : World) (h : PlV w v p) :
  Calls Tryz.prog 4 #[v, seV s] w fun e w' => e = .returned (.bool true) ∧ Below w.heap.size w w' := by
 have HFew := Lib.hid (fun W (hW : Below w.heap.size w W) => Few_spec v p 60 W (h.mono hW) (by omega))
 have HAw := Lib.hid awake41_spec
 have HP1 := Lib.hid (fun (hs : SmP p) W (hW : Below w.heap.size w W) => (All_spec v p s W (h.mono hW) hs).mono (fun _ _ h => h.rd))
 have HP2 := Lib.hid (fun (hs : SmP p) W (hW : Below w.heap.size w W) => (rAll_spec v p s W (h.mono hW) hs).mono (fun _ _ h => h.rd))
 obtain ⟨r, hr⟩ : ∃ r, allRes p s = r := ⟨_, rfl⟩
 rw [hr] at HP1 HP2
 obtain ⟨x, z⟩ := r
 dsimp only at HP1 HP2
 clear hr
 obtain ⟨vn, va, vf, al, rfl, -⟩ := h
 unfold seV at HP1 HP2 ⊢
 obtain ⟨f1, hf1⟩ : ∃ z, fewS p 60 = z := ⟨_, rfl⟩
 rw [hf1] at HFew
 have HFw := Lib.hid hf1
 clear hf1
 obtain ⟨s0, hs0⟩ : ∃ s0, w.heap.size = s0 := ⟨_, rfl⟩
 obtain ⟨g4, h4⟩ : ∃ g, s0 + 1 = g := ⟨_, rfl⟩
 obtain ⟨W, hW⟩ : ∃ W : World, W = (w.alloc (.cells #[vn, va, vf] 26)).alloc (.cells #[.int .i64 s.at_.x, .int .i64 s.at_.y, .int .i64 s.width, .int .i64 s.height, .int .i64 s.cols, .int .i64 s.rows] 30) := ⟨_, rfl⟩
 have HB0 := Lib.hid (show Below w.heap.size w W by rw [hW]; exact bA (bA (bR w) _) _)
 have X3 : Blk W s0 26 #[vn, va, vf] := by rw [hW]; exact (Blk.made hs0.symm _ _).alloc _
 have X4 : Blk W g4 30 #[.int .i64 s.at_.x, .int .i64 s.at_.y, .int .i64 s.width, .int .i64 s.height, .int .i64 s.cols, .int .i64 s.rows] := by rw [hW]; exact Blk.made (by simp; omega) _ _
 go_enter Tryz.func4, Tryz.ntmps4
 go_upto_region 1 with fail
 try rw [← hW]
 clear hW hs0 h4
 obtain ⟨X3l, X3a, X3b, X3c, -, -, -⟩ := X3.facts3
 go_wp2_with fail
 refine (HFew.out _ HB0.out).mono ?_
 rintro e w1 ⟨rfl, hb1⟩
 have HB1 := Lib.hid (bT HB0.out hb1)
 replace X3 := X3.keep hb1
 replace X4 := X4.keep hb1
 clear hb1
 have HX3 := Lib.hid X3; have HX4 := Lib.hid X4
 clear X3
 try clear X3l X3a X3b X3c
 obtain ⟨X4l, X4a, X4b, X4c, X4d, X4e, X4f, -, -, -, -, -, -⟩ := X4.facts6
 cases f1
 ·
  go_wp2_with fail
  refine (HAw.out _).mono ?_
  rintro e w2 ⟨rfl, hb2⟩
  go_wp2_with fail
  go_ret
  exact ⟨rfl, bT HB1.out hb2⟩
 have hsm := few_smP HFw.out (by omega)
 replace HP1 := Lib.hid (HP1.out hsm); replace HP2 := Lib.hid (HP2.out hsm)
 clear hsm
 by_cases k1 : 16 < s.cols
 ·
  go_wp2_with fail
  refine (HAw.out _).mono ?_
  rintro e w2 ⟨rfl, hb2⟩
  go_wp2_with fail
  go_ret
  exact ⟨rfl, bT HB1.out hb2⟩
 by_cases k2 : 16 < s.rows
 ·
  go_wp2_with fail
  refine (HAw.out _).mono ?_
  rintro e w2 ⟨rfl, hb2⟩
  go_wp2_with fail
  go_ret
  exact ⟨rfl, bT HB1.out hb2⟩
 by_cases k3 : 0 < s.cols ∧ 0 < s.rows ∧ 16 < s.cols * s.rows
 ·
  obtain ⟨c1, c2, c3⟩ := k3
  have hM := mul_bds (a := s.cols) (b := s.rows) (m := 16) (n := 16) (by omega) (by omega) (by omega) (by omega)
  obtain ⟨M, hMe⟩ : ∃ M, s.cols * s.rows = M := ⟨_, rfl⟩
  rw [hMe] at hM c3
  have hmul : IntKind.i64.wrap (s.cols * s.rows) = M := by rw [hMe]; exact IntWalk.i64_in _ (by omega)
  clear hMe
  go_wp2_with fail
  refine (HAw.out _).mono ?_
  rintro e w2 ⟨rfl, hb2⟩
  go_wp2_with fail
  go_ret
  exact ⟨rfl, bT HB1.out hb2⟩
 have hc : s.cols ≤ 0 ∨ (0 < s.cols ∧ s.rows ≤ 0) ∨ (∃ M : Int, 0 < s.cols ∧ 0 < s.rows ∧ IntKind.i64.wrap (s.cols * s.rows) = M ∧ M ≤ 16) := by
  rcases Int.lt_or_le 0 s.cols with c1 | c1
  ·
   rcases Int.lt_or_le 0 s.rows with c2 | c2
   ·
    have hM := mul_bds (a := s.cols) (b := s.rows) (m := 16) (n := 16) (by omega) (by omega) (by omega) (by omega)
    have h16 : s.cols * s.rows ≤ 16 := by
     rcases Int.lt_or_le 16 (s.cols * s.rows) with h | h
     · exact absurd ⟨c1, c2, h⟩ k3
     · exact h
    exact .inr (.inr ⟨_, c1, c2, rfl, by rw [IntWalk.i64_in _ (by omega)]; exact h16⟩)
   · exact .inr (.inl ⟨c1, c2⟩)
  · exact .inl c1
 clear k3
 rcases hc with c1 | ⟨c1, c2⟩ | ⟨M, c1, c2, hmul, c4⟩
 all_goals
  go_upto_region 3 with fail
  clear k1 k2 X4 X4l X4a X4b X4c X4d X4e X4f
  try clear hmul
  have X3 := HX3.out
  have X4 := HX4.out
  try clear X3l
  try clear X3a
  try clear X3b
  try clear X3c
  obtain ⟨X3l, X3a, X3b, X3c, -, -, -⟩ := X3.facts3
  try clear X4l
  try clear X4a
  try clear X4b
  try clear X4c
  try clear X4d
  try clear X4e
  try clear X4f
  obtain ⟨X4l, X4a, X4b, X4c, X4d, X4e, X4f, -, -, -, -, -, -⟩ := X4.facts6
  go_wp2_with fail
  refine (HP1.out _ HB1.out).mono ?_
  rintro e w2 ⟨A, c, L, rfl, hb2, hl1, ho1⟩
  have HB2 := Lib.hid (bT HB1.out hb2)
  have HX32 := Lib.hid (HX3.out.keep hb2); have HX42 := Lib.hid (HX4.out.keep hb2)
  have HO1 := Lib.hid ho1; have HL1 := Lib.hid hl1
  clear hb2 ho1 hl1 X3 X3l X3a X3b X3c X4 X4l X4a X4b X4c X4d X4e X4f
  have X3 := HX32.out
  have X4 := HX42.out
  try clear X3l
  try clear X3a
  try clear X3b
  try clear X3c
  obtain ⟨X3l, X3a, X3b, X3c, -, -, -⟩ := X3.facts3
  try clear X4l
  try clear X4a
  try clear X4b
  try clear X4c
  try clear X4d
  try clear X4e
  try clear X4f
  obtain ⟨X4l, X4a, X4b, X4c, X4d, X4e, X4f, -, -, -, -, -, -⟩ := X4.facts6
  go_wp2_with fail
  refine (HP2.out _ HB2.out).mono ?_
  rintro e w3 ⟨A', c', L', rfl, hb3, hl2, ho2⟩
  have HB3 := Lib.hid (bT HB2.out hb3)
  have hT := SameAll_spec (.slice A x.length c) (.slice A' x.length c') L L' w3 (HO1.out.mono hb3) ho2
  rw [HL1.out, hl2, decide_self_] at hT
  have HT := Lib.hid hT
  clear hb3 ho2 hl2 hT X3 X3l X3a X3b X3c X4 X4l X4a X4b X4c X4d X4e X4f
  go_wp2_with fail
  refine HT.out.mono ?_
  rintro e w4 ⟨rfl, hb4⟩
  have HB4 := Lib.hid (bT HB3.out hb4)
  clear hb4
  go_wp2_with fail
  refine (HAw.out _).mono ?_
  rintro e w5 ⟨rfl, hb5⟩
  go_wp2_with fail
  go_ret
  exact ⟨rfl, bT HB4.out hb5⟩
end Go.Proofs.YtfondidmklmonaaGreat
