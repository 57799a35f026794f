/- mapsheetslaw15: good; WalkDarts, WalkTwice: true. -/
import Derived.Test.YtoclnkfeblfpbaaGreatJ16
set_option linter.unusedSimpArgs false
set_option linter.unusedVariables false
namespace Go.Proofs.YtoclnkfeblfpbaaGreat
open Go.RowKit

def goodS (p : Pl) : Bool := small15 p && decide (checkS p = 0)
theorem good_valid {p : Pl} (h : goodS p = true) : Valid p := by
 unfold goodS at h
 rw [Bool.and_eq_true, decide_eq_true_iff] at h
 exact (check_zero p).1 h.2
set_option maxRecDepth 100000 in
set_option maxHeartbeats 4000000 in
theorem good_spec (v : Value) (p : Pl) (w : World) (h : PlV w v p) : Calls Tryz.prog 18 #[v] w fun e w' => e = .returned (.bool (goodS p)) ∧ Below w.heap.size w w' := by
 have HSm := Lib.hid (fun W (hW : Below w.heap.size w W) => Small15_spec v p W (h.mono hW))
 have HCk := Lib.hid (fun W (hW : Below w.heap.size w W) => RCheck_spec v p W (h.mono hW))
 obtain ⟨vn, va, vf, al, rfl, -⟩ := h
 obtain ⟨q, hq⟩ : ∃ q, goodS p = q := ⟨_, rfl⟩
 rw [hq]
 unfold goodS at hq
 have Hq := Lib.hid hq
 clear hq
 generalize small15 p = b at *
 generalize checkS p = z at *
 go_enter Tryz.func18, Tryz.ntmps18
 go_wp2_with fail
 refine (HSm.out _ (bA (bR w) _)).mono ?_
 rintro e w1 ⟨rfl, hb1⟩
 have Bw := bT (bA (bR w) _) hb1
 have X1 : Blk w1 w.heap.size 26 #[vn, va, vf] := (Blk.made rfl _ _).keep hb1
 clear hb1
 cases b
 ·
  go_wp2_with fail
  go_ret
  exact ⟨by rw [← Hq.out]; rfl, Bw⟩
 ·
  skip
  obtain ⟨X1l, X1a, X1b, X1c, -, -, -⟩ := X1.facts3
  go_wp2_with fail
  refine (HCk.out _ Bw).mono ?_
  rintro e w2 ⟨rfl, hb2⟩
  by_cases hz : z = 0
  ·
   subst hz
   go_wp2_with fail
   go_ret
   exact ⟨by rw [← Hq.out]; rfl, bT Bw hb2⟩
  ·
   have he : (z == 0) = false := by simpa using hz
   have hd := Lib.hid (decide_eq_false hz)
   clear hz
   go_wp2_with fail
   go_ret
   exact ⟨by rw [← Hq.out, hd.out]; rfl, bT Bw hb2⟩

end Go.Proofs.YtoclnkfeblfpbaaGreat
