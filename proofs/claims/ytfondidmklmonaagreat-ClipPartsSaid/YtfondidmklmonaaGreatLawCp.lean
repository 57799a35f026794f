/- mapsheetslaw41.ClipParts: true. -/
import Derived.Test.YtfondidmklmonaaGreatClipAx
import Derived.Test.YtfondidmklmonaaGreatClipRK
import Derived.Test.YtfondidmklmonaaGreatLawFinds
set_option linter.unusedSimpArgs false
set_option linter.unusedVariables false
namespace Go.Proofs.YtfondidmklmonaaGreat
open Go.RowKit

theorem few_smP {p : Pl} {M : Nat} (h : fewS p M = true) (hM : M ≤ 1000) : SmP p := by
 obtain ⟨h1, h2, -, h4⟩ := few_short h
 exact ⟨by omega, by omega, fun a ha => by have := via_le h4 a ha; omega⟩
theorem decide_self_ {α : Type} [DecidableEq α] (x : α) : decide (x = x) = true := decide_eq_true rfl
def RetPrtR (w : World) (x : Prt) (z : Int) (e : Ending) (w' : World) : Prop :=
 ∃ A n c A' n' c', e = .returned (.tuple #[.agg #[.int .i64 x.sheet, .slice A n c, .slice A' n' c'], .int .i64 z]) ∧ Below w.heap.size w w' ∧ PrtV w' (.agg #[.int .i64 x.sheet, .slice A n c, .slice A' n' c']) x
theorem RetPrtE.rd {w : World} {r : Prt × Int} {e : Ending} {w' : World} (h : RetPrtE w r e w') : RetPrtR w r.1 r.2 e w' := by
 obtain ⟨A, n, c, A', n', c', he, hb, ho⟩ := h
 exact ⟨A, n, c, A', n', c', he, hb, ho.read⟩
set_option maxRecDepth 100000 in
set_option maxHeartbeats 8000000 in
theorem ClipParts_spec (v : Value) (p : Pl) (s : Se) (n : Int) (w : World) (h : PlV w v p) :
  Calls Tryz.prog 3 #[v, seV s, .int .i64 n] w fun e w' => e = .returned (.bool true) ∧ Below w.heap.size w w' := by
 have HFew := Lib.hid (fun W (hW : Below w.heap.size w W) => Few_spec v p 150 W (h.mono hW) (by omega))
 have HAw := Lib.hid awake41_spec
 have HP1 := Lib.hid (fun (hs : SmP p) W (hW : Below w.heap.size w W) => (Part_spec v p s n W (h.mono hW) hs).mono (fun _ _ h => h.rd))
 have HP2 := Lib.hid (fun (hs : SmP p) W (hW : Below w.heap.size w W) => (rPart_spec v p s n W (h.mono hW) hs).mono (fun _ _ h => h.rd))
 obtain ⟨r, hr⟩ : ∃ r, partRes p s n = r := ⟨_, rfl⟩
 rw [hr] at HP1 HP2
 obtain ⟨x, z⟩ := r
 dsimp only at HP1 HP2
 clear hr
 obtain ⟨vn, va, vf, al, rfl, -⟩ := h
 unfold seV at HP1 HP2 ⊢
 obtain ⟨f1, hf1⟩ : ∃ z, fewS p 150 = z := ⟨_, rfl⟩
 rw [hf1] at HFew
 have HFw := Lib.hid hf1
 clear hf1
 obtain ⟨s0, hs0⟩ : ∃ s0, w.heap.size = s0 := ⟨_, rfl⟩
 obtain ⟨g4, h4⟩ : ∃ g, s0 + 1 = g := ⟨_, rfl⟩
 obtain ⟨W, hW⟩ : ∃ W : World, W = (w.alloc (.cells #[vn, va, vf] 26)).alloc (.cells #[.int .i64 s.at_.x, .int .i64 s.at_.y, .int .i64 s.width, .int .i64 s.height, .int .i64 s.cols, .int .i64 s.rows] 30) := ⟨_, rfl⟩
 have HB0 := Lib.hid (show Below w.heap.size w W by rw [hW]; exact bA (bA (bR w) _) _)
 have X3 : Blk W s0 26 #[vn, va, vf] := by rw [hW]; exact (Blk.made hs0.symm _ _).alloc _
 have X4 : Blk W g4 30 #[.int .i64 s.at_.x, .int .i64 s.at_.y, .int .i64 s.width, .int .i64 s.height, .int .i64 s.cols, .int .i64 s.rows] := by rw [hW]; exact Blk.made (by simp; omega) _ _
 go_enter Tryz.func3, Tryz.ntmps3
 go_upto_region 1 with fail
 try rw [← hW]
 clear hW hs0 h4
 obtain ⟨X3l, X3a, X3b, X3c, -, -, -⟩ := X3.facts3
 go_wp2_with fail
 refine (HFew.out _ HB0.out).mono ?_
 rintro e w1 ⟨rfl, hb1⟩
 have HB1 := Lib.hid (bT HB0.out hb1)
 replace X3 := X3.keep hb1
 replace X4 := X4.keep hb1
 clear hb1
 cases f1
 ·
  go_wp2_with fail
  refine (HAw.out _).mono ?_
  rintro e w2 ⟨rfl, hb2⟩
  go_wp2_with fail
  go_ret
  exact ⟨rfl, bT HB1.out hb2⟩
 have hsm := few_smP HFw.out (by omega)
 replace HP1 := Lib.hid (HP1.out hsm); replace HP2 := Lib.hid (HP2.out hsm)
 clear hsm
 try clear X3l X3a X3b X3c
 have HX3 := Lib.hid X3; have HX4 := Lib.hid X4
 try clear X3l
 try clear X3a
 try clear X3b
 try clear X3c
 obtain ⟨X3l, X3a, X3b, X3c, -, -, -⟩ := X3.facts3
 obtain ⟨X4l, X4a, X4b, X4c, X4d, X4e, X4f, -, -, -, -, -, -⟩ := X4.facts6
 go_wp2_with fail
 refine (HP1.out _ HB1.out).mono ?_
 rintro e w2 ⟨A, m, c, A', m', c', rfl, hb2, hx1⟩
 have HB2 := Lib.hid (bT HB1.out hb2)
 have HX32 := Lib.hid (HX3.out.keep hb2); have HX42 := Lib.hid (HX4.out.keep hb2)
 have HV1 := Lib.hid hx1
 clear hb2 HB1 hx1 X3 X3l X3a X3b X3c X4 X4l X4a X4b X4c X4d X4e X4f HX3 HX4
 go_upto_region 4 with fail
 obtain ⟨g7, h7⟩ : ∃ g, w2.heap.size = g := ⟨_, rfl⟩
 obtain ⟨W3, hW3⟩ : ∃ W : World, W = w2.alloc (.cells #[.int .i64 x.sheet, .slice A m c, .slice A' m' c'] 35) := ⟨_, rfl⟩
 have X7 : Blk W3 g7 35 #[.int .i64 x.sheet, .slice A m c, .slice A' m' c'] := by rw [hW3]; exact Blk.made h7.symm _ _
 have hA3 : Below w2.heap.size w2 W3 := by rw [hW3]; exact bA (bR w2) _
 have HB3 := Lib.hid (bT HB2.out hA3)
 have HX73 := Lib.hid X7; have HV13 := Lib.hid (HV1.out.mono hA3)
 have X3 := HX32.out.keep hA3; have X4 := HX42.out.keep hA3
 rw [← hW3]
 try rw [h7]
 clear hW3 h7 hA3 X7 HV1 HB2
 try clear X3l
 try clear X3a
 try clear X3b
 try clear X3c
 obtain ⟨X3l, X3a, X3b, X3c, -, -, -⟩ := X3.facts3
 try clear X4l
 try clear X4a
 try clear X4b
 try clear X4c
 try clear X4d
 try clear X4e
 try clear X4f
 obtain ⟨X4l, X4a, X4b, X4c, X4d, X4e, X4f, -, -, -, -, -, -⟩ := X4.facts6
 go_wp2_with fail
 refine (HP2.out _ HB3.out).mono ?_
 rintro e w4 ⟨B, k, d, B', k', d', rfl, hb4, hx2⟩
 have HB4 := Lib.hid (bT HB3.out hb4)
 have HX74 := Lib.hid (HX73.out.keep hb4); have HV14 := Lib.hid (HV13.out.mono hb4); have HV24 := Lib.hid hx2
 clear hb4 HB3 hx2 X3 X3l X3a X3b X3c X4 X4l X4a X4b X4c X4d X4e X4f HX32 HX42 HX73 HV13
 have X7 := HX74.out
 obtain ⟨X7l, X7a, X7b, X7c, -, -, -⟩ := X7.facts3
 go_wp2_with fail
 have hT := rSame41_spec (.agg #[.int .i64 x.sheet, .slice A m c, .slice A' m' c']) (.agg #[.int .i64 x.sheet, .slice B k d, .slice B' k' d']) x x (w4.alloc (.cells #[.int .i64 x.sheet, .slice B k d, .slice B' k' d'] 35)) (HV14.out.mono (bA (bR w4) _)) (HV24.out.mono (bA (bR w4) _))
 rw [decide_self_] at hT
 refine hT.mono ?_
 clear hT
 rintro e w5 ⟨rfl, hb5⟩
 have HB5 := Lib.hid (bT HB4.out (bT (bA (bR w4) _) hb5))
 clear hb5 HB4 X7 X7l X7a X7b X7c HX74 HV14 HV24
 go_wp2_with fail
 refine (HAw.out _).mono ?_
 rintro e w6 ⟨rfl, hb6⟩
 go_wp2_with fail
 go_ret
 exact ⟨rfl, bT HB5.out hb6⟩
end Go.Proofs.YtfondidmklmonaaGreat
