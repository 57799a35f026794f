/- Package mapsheetsref08: Near, cross, dot, On, first. -/
import Derived.Test.YtibchmofckhofaaGeom2
import Derived.Test.YtibchmofckhofaaGB
import Derived.Deep.DeepCutAuto
set_option linter.unusedSimpArgs false
set_option linter.unusedVariables false
namespace Go.Proofs.Ytibchmofckhofaa
open Go.RowKit

set_option maxHeartbeats 400000 in
theorem RNear_spec (v : Value) (l : List Pt) (w : World) (h : Pts w v l) :
    Calls Try.prog 99 #[v] w fun e w' => e = .returned (.bool (nears l)) ∧ Below w.heap.size w w' := by
  obtain ⟨A, c, rfl, hn, hc, hR⟩ := h
  unfold maxLen at hc
  go_enter Try.func99, Try.ntmps99
  go_wp2_with fail
  go_loopw [3] (fun i wr => ∃ k : Nat, k ≤ l.length ∧ i = .int .i64 k ∧ Below w.heap.size w wr ∧ ∀ j (hj : j < l.length), j < k → near1 l[j] = true) (fun i _ => l.length - (intOf i).toNat)
  case atStart => exact ⟨0, Nat.zero_le _, rfl, Below.refl _ _, fun j _ h => by omega⟩
  case round =>
    obtain ⟨k, hk, rfl, hb, hno⟩ := hrel
    have Hb := Lib.hid hb
    have Hno := Lib.hid hno
    have hs := hb.size
    clear hb hno
    by_cases hlt : k < l.length
    · obtain ⟨b, o, rfl, hlb, c0, c1⟩ := (hR.mono Hb.out).pt hlt
      have HR := Lib.hid hR; clear hR
      by_cases hnr : near1 l[k] = true
      · have Hn := Lib.hid hnr
        obtain ⟨n1, n2, n3, n4⟩ := (near1_iff _).1 hnr
        clear hnr
        go_wp2
        go_roundw
        case rel => exact ⟨k + 1, by omega, by go_num, Hb.out, all_succ (p := fun x => near1 x = true) Hno.out hlt Hn.out⟩
        case measure => simp [intOf]; omega
      · have hn' : near1 l[k] = false := by simpa using hnr
        have Hf := Lib.hid (nears_hit l k hlt hn')
        clear hn'
        have Hnr := Lib.hid hnr; clear hnr
        go_wp2
        all_goals first
          | (go_ret; exact ⟨ret_bool Hf.out.symm, Hb.out⟩)
          | (exfalso; exact Hnr.out ((near1_iff _).2 ⟨by omega, by omega, by omega, by omega⟩))
    · go_wp2
      go_ret
      exact ⟨ret_bool (nears_all l fun j hj => Hno.out j hj (by omega)).symm, Hb.out⟩

def crossS (a b c d : Pt) : Int := (b.x - a.x) * (d.y - c.y) - (b.y - a.y) * (d.x - c.x)
def dotS (a b c d : Pt) : Int := (b.x - a.x) * (d.x - c.x) + (b.y - a.y) * (d.y - c.y)

set_option maxHeartbeats 400000 in
theorem cross_spec (a b c d : Pt) (w : World) (ha : lim a) (hb : lim b) (hc : lim c) (hd : lim d) :
    Calls Try.prog 100 #[ptV a, ptV b, ptV c, ptV d] w fun e w' => e = .returned (.int .i64 (crossS a b c d)) ∧ Below w.heap.size w w' := by
  obtain ⟨a1, a2, a3, a4⟩ := ha
  obtain ⟨b1, b2, b3, b4⟩ := hb
  obtain ⟨c1, c2, c3, c4⟩ := hc
  obtain ⟨d1, d2, d3, d4⟩ := hd
  obtain ⟨m1, m2⟩ := mul_bd (b.x - a.x) (d.y - c.y) 4194304 (by omega) (by omega) (by omega) (by omega)
  obtain ⟨m3, m4⟩ := mul_bd (b.y - a.y) (d.x - c.x) 4194304 (by omega) (by omega) (by omega) (by omega)
  simp only [Int.reduceMul, Int.reduceNeg] at m1 m2 m3 m4
  unfold ptV
  go_enter Try.func100, Try.ntmps100
  go_wp2
  go_ret
  refine ⟨ret_int rfl, ?_⟩
  repeat (first | with_reducible exact bR _ | with_reducible assumption | with_reducible refine bA ?_ _ | with_reducible refine bD ?_ | with_reducible refine bN ?_ _ | ((with_reducible refine bS ?_ ?_ _); rotate_left; (simp; try omega)) | ((with_reducible refine bT ?_ ?_); rotate_left; with_reducible assumption) | with_reducible refine bT ?_ (by assumption))
set_option maxHeartbeats 400000 in
theorem dot_spec (a b c d : Pt) (w : World) (ha : lim a) (hb : lim b) (hc : lim c) (hd : lim d) :
    Calls Try.prog 101 #[ptV a, ptV b, ptV c, ptV d] w fun e w' => e = .returned (.int .i64 (dotS a b c d)) ∧ Below w.heap.size w w' := by
  obtain ⟨a1, a2, a3, a4⟩ := ha
  obtain ⟨b1, b2, b3, b4⟩ := hb
  obtain ⟨c1, c2, c3, c4⟩ := hc
  obtain ⟨d1, d2, d3, d4⟩ := hd
  obtain ⟨m1, m2⟩ := mul_bd (b.x - a.x) (d.x - c.x) 4194304 (by omega) (by omega) (by omega) (by omega)
  obtain ⟨m3, m4⟩ := mul_bd (b.y - a.y) (d.y - c.y) 4194304 (by omega) (by omega) (by omega) (by omega)
  simp only [Int.reduceMul, Int.reduceNeg] at m1 m2 m3 m4
  unfold ptV
  go_enter Try.func101, Try.ntmps101
  go_wp2
  go_ret
  refine ⟨ret_int rfl, ?_⟩
  repeat (first | with_reducible exact bR _ | with_reducible assumption | with_reducible refine bA ?_ _ | with_reducible refine bD ?_ | with_reducible refine bN ?_ _ | ((with_reducible refine bS ?_ ?_ _); rotate_left; (simp; try omega)) | ((with_reducible refine bT ?_ ?_); rotate_left; with_reducible assumption) | with_reducible refine bT ?_ (by assumption))

set_option maxHeartbeats 400000 in
theorem first_spec (a b : Pt) (w : World) :
    Calls Try.prog 110 #[ptV a, ptV b] w fun e w' => e = .returned (.bool (bef a b)) ∧ Below w.heap.size w w' := by
  unfold ptV
  by_cases h1 : a.x < b.x
  · go_enter Try.func110, Try.ntmps110
    go_wp2
    go_ret
    refine ⟨ret_bool (by simp [bef, h1]), ?_⟩
    repeat (first | with_reducible exact bR _ | with_reducible assumption | with_reducible refine bA ?_ _ | with_reducible refine bD ?_ | with_reducible refine bN ?_ _ | ((with_reducible refine bS ?_ ?_ _); rotate_left; (simp; try omega)) | ((with_reducible refine bT ?_ ?_); rotate_left; with_reducible assumption) | with_reducible refine bT ?_ (by assumption))
  · by_cases h2 : (a.x == b.x) = true
    · go_enter Try.func110, Try.ntmps110
      go_wp2
      go_ret
      refine ⟨ret_bool (by simp only [bef]; simp_all), ?_⟩
      repeat (first | with_reducible exact bR _ | with_reducible assumption | with_reducible refine bA ?_ _ | with_reducible refine bD ?_ | with_reducible refine bN ?_ _ | ((with_reducible refine bS ?_ ?_ _); rotate_left; (simp; try omega)) | ((with_reducible refine bT ?_ ?_); rotate_left; with_reducible assumption) | with_reducible refine bT ?_ (by assumption))
    · have h2' : (a.x == b.x) = false := by simpa using h2
      clear h2
      go_enter Try.func110, Try.ntmps110
      go_wp2
      go_ret
      refine ⟨ret_bool (by simp only [bef]; simp_all), ?_⟩
      repeat (first | with_reducible exact bR _ | with_reducible assumption | with_reducible refine bA ?_ _ | with_reducible refine bD ?_ | with_reducible refine bN ?_ _ | ((with_reducible refine bS ?_ ?_ _); rotate_left; (simp; try omega)) | ((with_reducible refine bT ?_ ?_); rotate_left; with_reducible assumption) | with_reducible refine bT ?_ (by assumption))

def ronS (a b p : Pt) : Bool := nears [a, b, p] && decide (crossS a b a p = 0) && decide (dotS a p b p ≤ 0)

set_option maxHeartbeats 1000000 in
theorem ROn_spec (a b p : Pt) (w : World) :
    Calls Try.prog 84 #[ptV a, ptV b, ptV p] w fun e w' => e = .returned (.bool (ronS a b p)) ∧ Below w.heap.size w w' := by
  have hn0 : ∀ q, nears [a, b, p] = q → ronS a b p = (q && decide (crossS a b a p = 0) && decide (dotS a p b p ≤ 0)) := fun q h => by rw [ronS, h]
  have Hn0 := Lib.hid hn0; clear hn0
  cases hn : nears [a, b, p]
  · have Hs := Lib.hid (Hn0.out _ hn)
    unfold ptV
    go_enter Try.func84, Try.ntmps84
    go_wp2_with fail
    refine (RNear_spec _ [a, b, p] _ (Pts.lit3 (Blk.made (by simp) _ _))).mono ?_
    rintro e w1 ⟨rfl, hb1⟩
    rw [hn]
    go_wp2_with fail
    go_ret
    refine ⟨ret_bool Hs.out.symm, ?_⟩
    repeat (first | with_reducible exact bR _ | with_reducible assumption | with_reducible refine bA ?_ _ | with_reducible refine bD ?_ | with_reducible refine bN ?_ _ | ((with_reducible refine bS ?_ ?_ _); rotate_left; (simp; try omega)) | ((with_reducible refine bT ?_ ?_); rotate_left; with_reducible assumption) | with_reducible refine bT ?_ (by assumption))
  · obtain ⟨ha, hb, hc⟩ := nears3 hn
    have TC : ∀ W, Calls Try.prog 100 #[ptV a, ptV b, ptV a, ptV p] W _ := fun W => cross_spec a b a p W ha hb ha hc
    have TD : ∀ W, Calls Try.prog 101 #[ptV a, ptV p, ptV b, ptV p] W _ := fun W => dot_spec a p b p W ha hc hb hc
    have Hs := Lib.hid (Hn0.out _ hn)
    generalize crossS a b a p = cr at *
    generalize dotS a p b p = dt at *
    unfold ptV at TC TD ⊢
    have HC := Lib.hid TC; clear TC
    have HD := Lib.hid TD; clear TD
    clear ha hb hc
    go_enter Try.func84, Try.ntmps84
    go_wp2_with fail
    refine (RNear_spec _ [a, b, p] _ (Pts.lit3 (Blk.made (by simp) _ _))).mono ?_
    rintro e w1 ⟨rfl, hb1⟩
    rw [hn]
    have Bw : Below w.heap.size w w1 := by
      repeat (first | with_reducible exact bR _ | with_reducible assumption | with_reducible refine bA ?_ _ | with_reducible refine bD ?_ | with_reducible refine bN ?_ _ | ((with_reducible refine bS ?_ ?_ _); rotate_left; (simp; try omega)) | ((with_reducible refine bT ?_ ?_); rotate_left; with_reducible assumption) | with_reducible refine bT ?_ (by assumption))
    have X3 : Blk _ (w.heap.size) 30 #[.int .i64 a.x, .int .i64 a.y] := Blk.keep (by repeat (first | exact Blk.made (by simp) _ _ | refine Blk.alloc ?_ _)) hb1
    have X4 : Blk _ (w.heap.size + 1) 30 #[.int .i64 b.x, .int .i64 b.y] := Blk.keep (by repeat (first | exact Blk.made (by simp) _ _ | refine Blk.alloc ?_ _)) hb1
    have X5 : Blk _ (w.heap.size + 1 + 1) 30 #[.int .i64 p.x, .int .i64 p.y] := Blk.keep (by repeat (first | exact Blk.made (by simp) _ _ | refine Blk.alloc ?_ _)) hb1
    clear hb1
    try clear X3l
    try clear X3a
    try clear X3b
    try clear X3fa
    try clear X3fb
    obtain ⟨X3l, X3a, X3b, -, -⟩ := X3.facts2
    try clear X4l
    try clear X4a
    try clear X4b
    try clear X4fa
    try clear X4fb
    obtain ⟨X4l, X4a, X4b, -, -⟩ := X4.facts2
    try clear X5l
    try clear X5a
    try clear X5b
    try clear X5fa
    try clear X5fb
    obtain ⟨X5l, X5a, X5b, -, -⟩ := X5.facts2
    go_wp2_with fail
    refine (HC.out _).mono ?_
    rintro e w2 ⟨rfl, hb2⟩
    replace Bw := bT Bw hb2
    replace X3 := X3.keep hb2
    replace X4 := X4.keep hb2
    replace X5 := X5.keep hb2
    clear hb2
    try clear X3l
    try clear X3a
    try clear X3b
    try clear X3fa
    try clear X3fb
    try clear X4l
    try clear X4a
    try clear X4b
    try clear X4fa
    try clear X4fb
    try clear X5l
    try clear X5a
    try clear X5b
    try clear X5fa
    try clear X5fb
    try clear X3l
    try clear X3a
    try clear X3b
    try clear X3fa
    try clear X3fb
    obtain ⟨X3l, X3a, X3b, -, -⟩ := X3.facts2
    try clear X4l
    try clear X4a
    try clear X4b
    try clear X4fa
    try clear X4fb
    obtain ⟨X4l, X4a, X4b, -, -⟩ := X4.facts2
    try clear X5l
    try clear X5a
    try clear X5b
    try clear X5fa
    try clear X5fb
    obtain ⟨X5l, X5a, X5b, -, -⟩ := X5.facts2
    by_cases hcr : cr = 0
    · subst hcr
      go_wp2_with fail
      refine (HD.out _).mono ?_
      rintro e w3 ⟨rfl, hb3⟩
      go_wp2_with fail
      go_ret
      refine ⟨ret_bool (by rw [Hs.out]; simp), ?_⟩
      repeat (first | with_reducible exact bR _ | with_reducible assumption | with_reducible refine bA ?_ _ | with_reducible refine bD ?_ | with_reducible refine bN ?_ _ | ((with_reducible refine bS ?_ ?_ _); rotate_left; (simp; try omega)) | ((with_reducible refine bT ?_ ?_); rotate_left; with_reducible assumption) | with_reducible refine bT ?_ (by assumption))
    · have hcr' : (cr == 0) = false := by simpa using hcr
      have Hcr := Lib.hid hcr; clear hcr
      go_wp2_with fail
      go_ret
      refine ⟨ret_bool (by rw [Hs.out]; simp [Hcr.out]), ?_⟩
      repeat (first | with_reducible exact bR _ | with_reducible assumption | with_reducible refine bA ?_ _ | with_reducible refine bD ?_ | with_reducible refine bN ?_ _ | ((with_reducible refine bS ?_ ?_ _); rotate_left; (simp; try omega)) | ((with_reducible refine bT ?_ ?_); rotate_left; with_reducible assumption) | with_reducible refine bT ?_ (by assumption))
end Go.Proofs.Ytibchmofckhofaa
