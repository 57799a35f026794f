/- Package mapsheetsref08: Meet. Plain law of geometry: the program's On and Meet are the reference's. mapsheetsref14.ends, apart. -/
import Derived.Deep.RegionHeld3
import Derived.Test.YtfondidmklmonaaGreatJ09
import Derived.Test.YtfondidmklmonaaGreatGE
set_option linter.unusedSimpArgs false
set_option linter.unusedVariables false
namespace Go.Proofs.YtfondidmklmonaaGreat
open Go.RowKit

theorem cross_bd (a b c d : Pt) (ha : lim a) (hb : lim b) (hc : lim c) (hd : lim d) : -35184372088832 ≤ crossS a b c d ∧ crossS a b c d ≤ 35184372088832 := by
 obtain ⟨a1, a2, a3, a4⟩ := ha
 obtain ⟨b1, b2, b3, b4⟩ := hb
 obtain ⟨c1, c2, c3, c4⟩ := hc
 obtain ⟨d1, d2, d3, d4⟩ := hd
 obtain ⟨m1, m2⟩ := mul_bd (b.x - a.x) (d.y - c.y) 4194304 (by omega) (by omega) (by omega) (by omega)
 obtain ⟨m3, m4⟩ := mul_bd (b.y - a.y) (d.x - c.x) 4194304 (by omega) (by omega) (by omega) (by omega)
 simp only [Int.reduceMul, Int.reduceNeg] at m1 m2 m3 m4
 unfold crossS
 omega

def rmeetN (a b c d : Pt) : Int :=
 if a = b ∧ c = d ∧ ¬ a = c then 0
 else if crossS a b c d = 0 then
  if crossS a b a c = 0 ∧ crossS a b a d = 0 ∧ crossS c d c a = 0 ∧ crossS c d c b = 0 then sharedS a b c d else 0
 else if crossS a b c d < 0 then
  if 0 ≤ -crossS a c c d ∧ -crossS a c c d ≤ -crossS a b c d ∧ 0 ≤ -crossS a c a b ∧ -crossS a c a b ≤ -crossS a b c d then 1 else 0
 else if 0 ≤ crossS a c c d ∧ crossS a c c d ≤ crossS a b c d ∧ 0 ≤ crossS a c a b ∧ crossS a c a b ≤ crossS a b c d then 1 else 0
def rmeetS (a b c d : Pt) : Int := if nears [a, b, c, d] = true then rmeetN a b c d else 0

set_option maxRecDepth 100000 in
set_option maxHeartbeats 2000000 in
theorem RMeet_spec (a b c d : Pt) (w : World) :
  Calls Tryz.prog 132 #[ptV a, ptV b, ptV c, ptV d] w fun e w' => e = .returned (.int .i64 (rmeetS a b c d)) ∧ Below w.heap.size w w' := by
 have TS : ∀ W, Calls Tryz.prog 159 #[ptV a, ptV b, ptV c, ptV d] W _ := fun W => Rshared_spec a b c d W
 have TC : ∀ p q r s : Pt, lim p → lim q → lim r → lim s → ∀ W, Calls Tryz.prog 157 #[ptV p, ptV q, ptV r, ptV s] W _ := fun p q r s hp hq hr hs W => cross_spec p q r s W hp hq hr hs
 unfold ptV at TS TC ⊢
 have HS := Lib.hid TS; clear TS
 have HC := Lib.hid TC; clear TC
 cases hn : nears [a, b, c, d]
 ·
  have hm : rmeetS a b c d = 0 := by rw [rmeetS, hn]; rfl
  have Hm := Lib.hid hm; clear hm
  go_enter Tryz.func132, Tryz.ntmps132
  go_wp2_with fail
  refine (RNear_spec _ [a, b, c, d] _ (Pts.lit4 (Blk.made (by simp) _ _))).mono ?_
  rintro e w1 ⟨rfl, hb1⟩
  rw [hn]
  go_wp2_with fail
  go_ret
  refine ⟨ret_int Hm.out.symm, ?_⟩
  repeat (first | with_reducible exact bR _ | with_reducible assumption | with_reducible refine bA ?_ _ | with_reducible refine bD ?_ | with_reducible refine bN ?_ _ | ((with_reducible refine bS ?_ ?_ _); rotate_left; (simp; try omega)) | ((with_reducible refine bT ?_ ?_); rotate_left; with_reducible assumption) | with_reducible refine bT ?_ (by assumption))
 obtain ⟨la, lb, lc, ld⟩ := nears4 hn
 have hm : rmeetS a b c d = rmeetN a b c d := by rw [rmeetS, if_pos hn]
 unfold rmeetN at hm
 have Hm := Lib.hid hm; clear hm
 have Ha := Lib.hid la; have Hb := Lib.hid lb; have Hc := Lib.hid lc; have Hd := Lib.hid ld
 clear la lb lc ld
 go_enter Tryz.func132, Tryz.ntmps132
 go_wp2_with fail
 refine (RNear_spec _ [a, b, c, d] _ (Pts.lit4 (Blk.made (by simp) _ _))).mono ?_
 rintro e w1 ⟨rfl, hb1⟩
 rw [hn]
 clear hn
 have Bw : Below w.heap.size w w1 := by
  repeat (first | with_reducible exact bR _ | with_reducible assumption | with_reducible refine bA ?_ _ | with_reducible refine bD ?_ | with_reducible refine bN ?_ _ | ((with_reducible refine bS ?_ ?_ _); rotate_left; (simp; try omega)) | ((with_reducible refine bT ?_ ?_); rotate_left; with_reducible assumption) | with_reducible refine bT ?_ (by assumption))
 have X4 : Blk _ (w.heap.size) 28 #[.int .i64 a.x, .int .i64 a.y] := Blk.keep (by repeat (first | exact Blk.made (by simp) _ _ | refine Blk.alloc ?_ _)) hb1
 have X5 : Blk _ (w.heap.size + 1) 28 #[.int .i64 b.x, .int .i64 b.y] := Blk.keep (by repeat (first | exact Blk.made (by simp) _ _ | refine Blk.alloc ?_ _)) hb1
 have X6 : Blk _ (w.heap.size + 1 + 1) 28 #[.int .i64 c.x, .int .i64 c.y] := Blk.keep (by repeat (first | exact Blk.made (by simp) _ _ | refine Blk.alloc ?_ _)) hb1
 have X7 : Blk _ (w.heap.size + 1 + 1 + 1) 28 #[.int .i64 d.x, .int .i64 d.y] := Blk.keep (by repeat (first | exact Blk.made (by simp) _ _ | refine Blk.alloc ?_ _)) hb1
 clear hb1
 obtain ⟨X4l, X4a, X4b, -, -⟩ := X4.facts2
 obtain ⟨X5l, X5a, X5b, -, -⟩ := X5.facts2
 obtain ⟨X6l, X6a, X6b, -, -⟩ := X6.facts2
 obtain ⟨X7l, X7a, X7b, -, -⟩ := X7.facts2
 go_upto_region 3 with fail
 go_cut [31] (fun s wx => s = .bool (decide (a = b ∧ c = d ∧ ¬ a = c)) ∧ wx = w1)
 case first =>
  have e1 := run_eql_pt a b
  have e2 := run_eql_pt c d
  have e3 := run_neq_pt a c
  by_cases h1 : a = b
  ·
   have h1' : decide (a = b) = true := by simpa using h1
   have H1 := Lib.hid h1; clear h1
   by_cases h2 : c = d
   ·
    have h2' : decide (c = d) = true := by simpa using h2
    have H2 := Lib.hid h2; clear h2
    go_wp2_with fail
    go_meet
    case rel => exact ⟨by simp [H1.out, H2.out], rfl⟩
   ·
    have h2' : decide (c = d) = false := by simpa using h2
    have H2 := Lib.hid h2; clear h2
    go_wp2_with fail
    go_meet
    case rel => exact ⟨by simp [H2.out], rfl⟩
  ·
   have h1' : decide (a = b) = false := by simpa using h1
   have H1 := Lib.hid h1; clear h1
   go_wp2_with fail
   go_meet
   case rel => exact ⟨by simp [H1.out], rfl⟩
 case rest =>
 obtain ⟨rfl, rfl⟩ := hcut
 by_cases hz : a = b ∧ c = d ∧ ¬ a = c
 ·
  have hm := Hm.out
  rw [if_pos hz] at hm
  replace Hm := Lib.hid hm; clear hm
  have hz' : decide (a = b ∧ c = d ∧ ¬ a = c) = true := decide_eq_true hz
  rw [hz']
  clear hz hz'
  go_wp2_with fail
  go_ret
  exact ⟨ret_int Hm.out.symm, Bw⟩
 have hm := Hm.out
 rw [if_neg hz] at hm
 replace Hm := Lib.hid hm; clear hm
 have hz' : decide (a = b ∧ c = d ∧ ¬ a = c) = false := decide_eq_false hz
 rw [hz']
 clear hz hz'
 go_wp2_with fail
 refine (HC.out a b c d Ha.out Hb.out Hc.out Hd.out _).mono ?_
 rintro e w2 ⟨rfl, hb2⟩
 replace Bw := bT Bw hb2
 replace X4 := X4.keep hb2
 replace X5 := X5.keep hb2
 replace X6 := X6.keep hb2
 replace X7 := X7.keep hb2
 clear hb2
 try clear X4l
 try clear X4a
 try clear X4b
 try clear X5l
 try clear X5a
 try clear X5b
 try clear X6l
 try clear X6a
 try clear X6b
 try clear X7l
 try clear X7a
 try clear X7b
 try clear X4l
 try clear X4a
 try clear X4b
 obtain ⟨X4l, X4a, X4b, -, -⟩ := X4.facts2
 try clear X5l
 try clear X5a
 try clear X5b
 obtain ⟨X5l, X5a, X5b, -, -⟩ := X5.facts2
 try clear X6l
 try clear X6a
 try clear X6b
 obtain ⟨X6l, X6a, X6b, -, -⟩ := X6.facts2
 try clear X7l
 try clear X7a
 try clear X7b
 obtain ⟨X7l, X7a, X7b, -, -⟩ := X7.facts2
 obtain ⟨nb1, nb2⟩ := cross_bd a b c d Ha.out Hb.out Hc.out Hd.out
 generalize crossS a b c d = n at *
 by_cases hn0 : n = 0
 ·
  subst hn0
  have hm := Hm.out
  rw [if_pos rfl] at hm
  replace Hm := Lib.hid hm; clear hm
  go_wp2_with fail
  refine (HC.out a b a c Ha.out Hb.out Ha.out Hc.out _).mono ?_
  rintro e w3 ⟨rfl, hb3⟩
  replace Bw := bT Bw hb3
  replace X4 := X4.keep hb3
  replace X5 := X5.keep hb3
  replace X6 := X6.keep hb3
  replace X7 := X7.keep hb3
  clear hb3
  try clear X4l
  try clear X4a
  try clear X4b
  try clear X5l
  try clear X5a
  try clear X5b
  try clear X6l
  try clear X6a
  try clear X6b
  try clear X7l
  try clear X7a
  try clear X7b
  try clear X4l
  try clear X4a
  try clear X4b
  obtain ⟨X4l, X4a, X4b, -, -⟩ := X4.facts2
  try clear X5l
  try clear X5a
  try clear X5b
  obtain ⟨X5l, X5a, X5b, -, -⟩ := X5.facts2
  try clear X6l
  try clear X6a
  try clear X6b
  obtain ⟨X6l, X6a, X6b, -, -⟩ := X6.facts2
  try clear X7l
  try clear X7a
  try clear X7b
  obtain ⟨X7l, X7a, X7b, -, -⟩ := X7.facts2
  generalize crossS a b a c = c1 at *
  by_cases hc1 : c1 = 0
  case neg =>
   have hm := Hm.out
   rw [if_neg (fun h => hc1 h.1)] at hm
   replace Hm := Lib.hid hm; clear hm
   have hc' : (c1 != 0) = true := by simpa using hc1
   clear hc1
   go_wp2_with fail
   go_ret
   exact ⟨ret_int Hm.out.symm, Bw⟩
  case pos =>
  subst hc1
  go_wp2_with fail
  refine (HC.out a b a d Ha.out Hb.out Ha.out Hd.out _).mono ?_
  rintro e w4 ⟨rfl, hb4⟩
  replace Bw := bT Bw hb4
  replace X4 := X4.keep hb4
  replace X5 := X5.keep hb4
  replace X6 := X6.keep hb4
  replace X7 := X7.keep hb4
  clear hb4
  try clear X4l
  try clear X4a
  try clear X4b
  try clear X5l
  try clear X5a
  try clear X5b
  try clear X6l
  try clear X6a
  try clear X6b
  try clear X7l
  try clear X7a
  try clear X7b
  try clear X4l
  try clear X4a
  try clear X4b
  obtain ⟨X4l, X4a, X4b, -, -⟩ := X4.facts2
  try clear X5l
  try clear X5a
  try clear X5b
  obtain ⟨X5l, X5a, X5b, -, -⟩ := X5.facts2
  try clear X6l
  try clear X6a
  try clear X6b
  obtain ⟨X6l, X6a, X6b, -, -⟩ := X6.facts2
  try clear X7l
  try clear X7a
  try clear X7b
  obtain ⟨X7l, X7a, X7b, -, -⟩ := X7.facts2
  generalize crossS a b a d = c2 at *
  by_cases hc2 : c2 = 0
  case neg =>
   have hm := Hm.out
   rw [if_neg (fun h => hc2 h.2.1)] at hm
   replace Hm := Lib.hid hm; clear hm
   have hc' : (c2 != 0) = true := by simpa using hc2
   clear hc2
   go_wp2_with fail
   go_ret
   exact ⟨ret_int Hm.out.symm, Bw⟩
  case pos =>
  subst hc2
  go_wp2_with fail
  refine (HC.out c d c a Hc.out Hd.out Hc.out Ha.out _).mono ?_
  rintro e w5 ⟨rfl, hb5⟩
  replace Bw := bT Bw hb5
  replace X4 := X4.keep hb5
  replace X5 := X5.keep hb5
  replace X6 := X6.keep hb5
  replace X7 := X7.keep hb5
  clear hb5
  try clear X4l
  try clear X4a
  try clear X4b
  try clear X5l
  try clear X5a
  try clear X5b
  try clear X6l
  try clear X6a
  try clear X6b
  try clear X7l
  try clear X7a
  try clear X7b
  try clear X4l
  try clear X4a
  try clear X4b
  obtain ⟨X4l, X4a, X4b, -, -⟩ := X4.facts2
  try clear X5l
  try clear X5a
  try clear X5b
  obtain ⟨X5l, X5a, X5b, -, -⟩ := X5.facts2
  try clear X6l
  try clear X6a
  try clear X6b
  obtain ⟨X6l, X6a, X6b, -, -⟩ := X6.facts2
  try clear X7l
  try clear X7a
  try clear X7b
  obtain ⟨X7l, X7a, X7b, -, -⟩ := X7.facts2
  generalize crossS c d c a = c3 at *
  by_cases hc3 : c3 = 0
  case neg =>
   have hm := Hm.out
   rw [if_neg (fun h => hc3 h.2.2.1)] at hm
   replace Hm := Lib.hid hm; clear hm
   have hc' : (c3 != 0) = true := by simpa using hc3
   clear hc3
   go_wp2_with fail
   go_ret
   exact ⟨ret_int Hm.out.symm, Bw⟩
  case pos =>
  subst hc3
  go_wp2_with fail
  refine (HC.out c d c b Hc.out Hd.out Hc.out Hb.out _).mono ?_
  rintro e w6 ⟨rfl, hb6⟩
  replace Bw := bT Bw hb6
  replace X4 := X4.keep hb6
  replace X5 := X5.keep hb6
  replace X6 := X6.keep hb6
  replace X7 := X7.keep hb6
  clear hb6
  try clear X4l
  try clear X4a
  try clear X4b
  try clear X5l
  try clear X5a
  try clear X5b
  try clear X6l
  try clear X6a
  try clear X6b
  try clear X7l
  try clear X7a
  try clear X7b
  try clear X4l
  try clear X4a
  try clear X4b
  obtain ⟨X4l, X4a, X4b, -, -⟩ := X4.facts2
  try clear X5l
  try clear X5a
  try clear X5b
  obtain ⟨X5l, X5a, X5b, -, -⟩ := X5.facts2
  try clear X6l
  try clear X6a
  try clear X6b
  obtain ⟨X6l, X6a, X6b, -, -⟩ := X6.facts2
  try clear X7l
  try clear X7a
  try clear X7b
  obtain ⟨X7l, X7a, X7b, -, -⟩ := X7.facts2
  generalize crossS c d c b = c4 at *
  by_cases hc4 : c4 = 0
  case neg =>
   have hm := Hm.out
   rw [if_neg (fun h => hc4 h.2.2.2)] at hm
   replace Hm := Lib.hid hm; clear hm
   have hc' : (c4 != 0) = true := by simpa using hc4
   clear hc4
   go_wp2_with fail
   go_ret
   exact ⟨ret_int Hm.out.symm, Bw⟩
  case pos =>
  subst hc4
  have hm := Hm.out
  simp only [and_self, if_true] at hm
  replace Hm := Lib.hid hm; clear hm
  go_wp2_with fail
  refine (HS.out _).mono ?_
  rintro e w8 ⟨rfl, hb8⟩
  go_wp2_with fail
  go_ret
  exact ⟨ret_int Hm.out.symm, bT Bw hb8⟩
 have hn0' : (n == 0) = false := by simpa using hn0
 have hm := Hm.out
 rw [if_neg hn0] at hm
 replace Hm := Lib.hid hm; clear hm
 obtain ⟨sb1, sb2⟩ := cross_bd a c c d Ha.out Hc.out Hc.out Hd.out
 obtain ⟨tb1, tb2⟩ := cross_bd a c a b Ha.out Hc.out Ha.out Hb.out
 have Hn0 := Lib.hid hn0; clear hn0
 go_upto_region 10 with fail
 go_cut [10, 11] (fun s t wx => s = .int .i64 (crossS a c c d) ∧ t = .int .i64 (crossS a c a b) ∧ Below w.heap.size w wx)
 case first =>
  go_region_held3 (fun W => W.cell? ⟨w.heap.size, 0, none⟩ = some (.int .i64 a.x) ∧ W.cell? ⟨w.heap.size, 1, none⟩ = some (.int .i64 a.y) ∧ W.cell? ⟨w.heap.size + 1, 0, none⟩ = some (.int .i64 b.x) ∧ W.cell? ⟨w.heap.size + 1, 1, none⟩ = some (.int .i64 b.y) ∧ W.cell? ⟨w.heap.size + 1 + 1, 0, none⟩ = some (.int .i64 c.x) ∧ W.cell? ⟨w.heap.size + 1 + 1, 1, none⟩ = some (.int .i64 c.y) ∧ W.cell? ⟨w.heap.size + 1 + 1 + 1, 0, none⟩ = some (.int .i64 d.x) ∧ W.cell? ⟨w.heap.size + 1 + 1 + 1, 1, none⟩ = some (.int .i64 d.y)) ((repeat' apply And.intro) <;> (repeat (refine keepc (by assumption) ?_)) <;> (first | assumption | simp [*]))
   (first | (go_at_call 157; refine (HC.out _ _ _ _ (by first | exact Ha.out | exact Hc.out) (by first | exact Hc.out) (by first | exact Hc.out | exact Ha.out) (by first | exact Hd.out | exact Hb.out) _).mono ?_; rintro e w' ⟨rfl, hb'⟩))
  go_wp2_with fail
  go_meet
  case rel =>
  refine ⟨rfl, rfl, ?_⟩
  repeat (first | with_reducible exact bR _ | with_reducible assumption | with_reducible refine bA ?_ _ | with_reducible refine bD ?_ | with_reducible refine bN ?_ _ | ((with_reducible refine bS ?_ ?_ _); rotate_left; (simp; try omega)) | ((with_reducible refine bT ?_ ?_); rotate_left; with_reducible assumption) | with_reducible refine bT ?_ (by assumption))
 case rest =>
 clear X4 X5 X6 X7 Bw
 clear X4l X4a X4b
 clear X5l X5a X5b
 clear X6l X6a X6b
 clear X7l X7a X7b
 obtain ⟨rfl, rfl, Bw⟩ := hcut
 generalize crossS a c c d = s at *
 generalize crossS a c a b = t at *
 by_cases hneg : n < 0
 ·
  have hm := Hm.out
  rw [if_pos hneg] at hm
  replace Hm := Lib.hid hm; clear hm
  go_wp2_with fail
  all_goals (first | (go_ret; refine ⟨ret_int ?_, Bw⟩; rw [Hm.out]; first | rw [if_pos (by omega)] | rw [if_neg (by omega)]) | (exfalso; omega))
 ·
  have hm := Hm.out
  rw [if_neg hneg] at hm
  replace Hm := Lib.hid hm; clear hm
  go_wp2_with fail
  all_goals (first | (go_ret; refine ⟨ret_int ?_, Bw⟩; rw [Hm.out]; first | rw [if_pos (by omega)] | rw [if_neg (by omega)]) | (exfalso; omega))
end Go.Proofs.YtfondidmklmonaaGreat
namespace Go.Proofs.YtfondidmklmonaaGreat

theorem sq_nn (a : Int) : 0 ≤ a * a := by
 rcases Int.le_total 0 a with h | h
 · exact Int.mul_nonneg h h
 · exact Int.mul_nonneg_of_nonpos_of_nonpos h h
theorem le0_iff {a b : Int} : a * b ≤ 0 ↔ (0 ≤ a ∧ b ≤ 0) ∨ (a ≤ 0 ∧ 0 ≤ b) := by
 constructor
 ·
  intro h
  by_cases ha : a = 0
  · omega
  by_cases hp : 0 < a
  ·
   left; refine ⟨by omega, ?_⟩
   by_cases hb : 0 < b
   · have := Int.mul_pos hp hb; omega
   · omega
  ·
   right; refine ⟨by omega, ?_⟩
   by_cases hb : b < 0
   · have := Int.mul_pos_of_neg_of_neg (show a < 0 by omega) hb; omega
   · omega
 ·
  rintro (⟨ha, hb⟩ | ⟨ha, hb⟩)
  · exact Int.mul_nonpos_of_nonneg_of_nonpos ha hb
  · exact Int.mul_nonpos_of_nonpos_of_nonneg ha hb
theorem btw {p a b : Int} : (p - a) * (p - b) ≤ 0 ↔ min a b ≤ p ∧ p ≤ max a b := by
 rw [le0_iff]; omega
/-- cross 0: the dot is not positive iff each part is not. -/
theorem dot_parts {ux uy vx vy : Int} (hc : ux * vy = uy * vx) : ux * vx + uy * vy ≤ 0 ↔ ux * vx ≤ 0 ∧ uy * vy ≤ 0 := by
 constructor
 ·
  intro h
  have hp : 0 ≤ (ux * vx) * (uy * vy) := by
   have e : (ux * vx) * (uy * vy) = (ux * vy) * (ux * vy) := by grind
   rw [e]
   exact sq_nn _
  by_cases h1 : 0 < ux * vx
  · have := Int.mul_neg_of_pos_of_neg h1 (show uy * vy < 0 by omega); omega
  ·
   by_cases h2 : 0 < uy * vy
   · have := Int.mul_neg_of_neg_of_pos (show ux * vx < 0 by omega) h2; omega
   · omega
 · omega
theorem parallel {ux uy vx vy wx wy : Int} (h : ¬ (ux = 0 ∧ uy = 0)) (h1 : ux * vy - uy * vx = 0) (h2 : ux * wy - uy * wx = 0) : vx * wy - vy * wx = 0 := by
 have e1 : ux * (vx * wy - vy * wx) = 0 := by grind
 have e2 : uy * (vx * wy - vy * wx) = 0 := by grind
 rcases Int.mul_eq_zero.1 e1 with h3 | h3
 ·
  rcases Int.mul_eq_zero.1 e2 with h4 | h4
  · exact absurd ⟨h3, h4⟩ h
  · exact h4
 · exact h3

theorem onS_eq (a b p : Pt) : onS a b p = ronS a b p := by
 unfold onS ronS
 cases nears [a, b, p]
 · rfl
 have hc : crossS a b a p = tw a b p := rfl
 rw [hc]
 by_cases h : tw a b p = 0
 ·
  simp only [h, decide_true, Bool.true_and, Bool.and_assoc]
  rw [Bool.eq_iff_iff]
  simp only [Bool.and_eq_true, decide_eq_true_eq]
  unfold dotS
  rw [dot_parts (by unfold tw at h; grind), btw, btw]
  omega
 · simp [h]

/- Points in their order. -/
theorem bef_iff (a b : Pt) : bef a b = true ↔ a.x < b.x ∨ (a.x = b.x ∧ a.y < b.y) := by simp [bef]
theorem bef_irr (a : Pt) : bef a a = false := by rw [← Bool.not_eq_true, bef_iff]; omega
theorem bef_asym {a b : Pt} (h : bef a b = true) : bef b a = false := by
 rw [← Bool.not_eq_true, bef_iff]; rw [bef_iff] at h; omega
theorem bef_tri {a b : Pt} (h : bef a b = false) (h' : bef b a = false) : a = b := by
 rw [← Bool.not_eq_true, bef_iff] at h h'
 rw [Pt.ext_iff']; omega
def lo (a b : Pt) : Pt := if bef b a then b else a
def hi (a b : Pt) : Pt := if bef b a then a else b
theorem lo_comm (a b : Pt) : lo a b = lo b a := by
 unfold lo
 cases h : bef b a <;> cases h' : bef a b <;> simp
 · exact bef_tri h' h
 · exact absurd (bef_asym h) (by simp [h'])
theorem hi_comm (a b : Pt) : hi a b = hi b a := by
 unfold hi
 cases h : bef b a <;> cases h' : bef a b <;> simp
 · exact (bef_tri h' h).symm
 · exact absurd (bef_asym h) (by simp [h'])
theorem sharedS_def (a b c d : Pt) : sharedS a b c d = if hi (lo a b) (lo c d) = lo (hi a b) (hi c d) then 1 else if bef (hi (lo a b) (lo c d)) (lo (hi a b) (hi c d)) then 2 else 0 := by
 have e1 : ∀ p q : Pt, (if bef p q then q else p) = hi p q := fun p q => by
  unfold hi; cases h : bef q p <;> cases h' : bef p q <;> simp
  · exact bef_tri h' h
  · exact absurd (bef_asym h) (by simp [h'])
 have e2 : ∀ p q : Pt, (if bef q p then q else p) = lo p q := fun p q => rfl
 have e3 : ∀ p q : Pt, (if bef q p then p else q) = hi p q := fun p q => rfl
 unfold sharedS
 simp only [e2, e3, e1]
 rw [hi_comm (lo c d) (lo a b)]
theorem sharedS_comm (a b c d : Pt) : sharedS a b c d = sharedS c d a b := by
 rw [sharedS_def a b c d, hi_comm (lo a b) (lo c d), lo_comm (hi a b) (hi c d), ← sharedS_def]
theorem lo_hi (c d : Pt) : (lo c d = c ∧ hi c d = d ∧ bef d c = false) ∨ (lo c d = d ∧ hi c d = c ∧ bef d c = true) := by
 unfold lo hi
 cases h : bef d c <;> simp

/-- A point of the line is on the segment iff it lies between its ends in the points' order. -/
theorem box_lex (c d a : Pt) (hcd : c ≠ d) (h : tw c d a = 0) :
  (min c.x d.x ≤ a.x ∧ a.x ≤ max c.x d.x ∧ min c.y d.y ≤ a.y ∧ a.y ≤ max c.y d.y) ↔ (bef a (lo c d) = false ∧ bef (hi c d) a = false) := by
 have hne : ¬ (c.x = d.x ∧ c.y = d.y) := fun e => hcd (Pt.ext_iff'.2 e)
 unfold tw at h
 have hp : (a.x - c.x) * (a.y - d.y) = (a.y - c.y) * (a.x - d.x) := by grind
 have hs : 0 ≤ ((a.x - c.x) * (a.x - d.x)) * ((a.y - c.y) * (a.y - d.y)) := by
  have e : ((a.x - c.x) * (a.x - d.x)) * ((a.y - c.y) * (a.y - d.y)) = ((a.x - c.x) * (a.y - d.y)) * ((a.x - c.x) * (a.y - d.y)) := by grind
  rw [e]; exact sq_nn _
 have b1 : (a.x - c.x) * (a.x - d.x) ≤ 0 ↔ min c.x d.x ≤ a.x ∧ a.x ≤ max c.x d.x := btw
 have b2 : (a.y - c.y) * (a.y - d.y) ≤ 0 ↔ min c.y d.y ≤ a.y ∧ a.y ≤ max c.y d.y := btw
 have k1 : a.x = c.x → (d.x - c.x) * (a.y - c.y) = 0 := fun e => by rw [e] at h; grind
 have k2 : a.x = d.x → (d.x - c.x) * (a.y - d.y) = 0 := fun e => by rw [e] at h; grind
 have k3 : (a.x - c.x) * (a.x - d.x) < 0 → (a.y - c.y) * (a.y - d.y) ≤ 0 := fun e => by
  by_cases hy : 0 < (a.y - c.y) * (a.y - d.y)
  · have := Int.mul_neg_of_neg_of_pos e hy; omega
  · omega
 rw [← Bool.not_eq_true, ← Bool.not_eq_true, bef_iff, bef_iff]
 by_cases hx : c.x = d.x
 ·
  -- upright
  have hax : a.x = c.x ∨ ¬ a.x = c.x := Classical.em _
  have hz : a.x = c.x := by
   have : (d.y - c.y) * (a.x - c.x) = 0 := by rw [hx] at h ⊢; grind
   rcases Int.mul_eq_zero.1 this with e | e
   · exact absurd ⟨hx, by omega⟩ hne
   · omega
  have hl := lo_hi c d
  rcases hl with ⟨e1, e2, e3⟩ | ⟨e1, e2, e3⟩ <;> rw [e1, e2]
  · rw [← Bool.not_eq_true, bef_iff] at e3; omega
  · rw [bef_iff] at e3; omega
 ·
  have k1' : a.x = c.x → a.y = c.y := fun e => by
   rcases Int.mul_eq_zero.1 (k1 e) with f | f <;> omega
  have k2' : a.x = d.x → a.y = d.y := fun e => by
   rcases Int.mul_eq_zero.1 (k2 e) with f | f <;> omega
  have k3' : (min c.x d.x < a.x ∧ a.x < max c.x d.x) → min c.y d.y ≤ a.y ∧ a.y ≤ max c.y d.y := fun e => by
   refine b2.1 (k3 ?_)
   rcases Int.lt_or_gt_of_ne hx with f | f
   · exact Int.mul_neg_of_pos_of_neg (by omega) (by omega)
   · exact Int.mul_neg_of_neg_of_pos (by omega) (by omega)
  have hl := lo_hi c d
  clear h hp hs b1 b2 k1 k2 k3
  rcases hl with ⟨e1, e2, e3⟩ | ⟨e1, e2, e3⟩ <;> rw [e1, e2]
  · rw [← Bool.not_eq_true, bef_iff] at e3; omega
  · rw [bef_iff] at e3; omega

/-- A point and a segment of its line. -/
theorem shared_pt (c d a : Pt) (hcd : c ≠ d) (h : tw c d a = 0) : sharedS a a c d = if (min c.x d.x ≤ a.x ∧ a.x ≤ max c.x d.x ∧ min c.y d.y ≤ a.y ∧ a.y ≤ max c.y d.y) then 1 else 0 := by
 have hl : lo a a = a := by simp [lo]
 have hh : hi a a = a := by simp [hi]
 have hb := box_lex c d a hcd h
 rw [sharedS_def, hl, hh]
 generalize hC : lo c d = C at *
 generalize hD : hi c d = D at *
 have hCD : bef D C = false := by
  rcases lo_hi c d with ⟨e1, e2, e3⟩ | ⟨e1, e2, e3⟩ <;> rw [← hC, ← hD, e1, e2]
  · exact e3
  · exact bef_asym e3
 by_cases hin : bef a C = false ∧ bef D a = false
 ·
  rw [if_pos (hb.2 hin)]
  have e1 : hi a C = a := by
   unfold hi; cases h' : bef C a <;> simp
   exact (bef_tri hin.1 h').symm
  have e2 : lo a D = a := by unfold lo; rw [hin.2]; rfl
  rw [e1, e2]; simp
 ·
  rw [if_neg (fun e => hin (hb.1 e))]
  cases h1 : bef a C
  ·
   have h2 : bef D a = true := by simpa [h1] using hin
   have e2 : lo a D = D := by unfold lo; rw [h2]; rfl
   have e1 : hi a C = a := by
    unfold hi; cases h' : bef C a <;> simp
    exact (bef_tri h1 h').symm
   rw [e1, e2, if_neg (fun e => by rw [e, bef_irr] at h2; cases h2), bef_asym h2]; rfl
  ·
   have e1 : hi a C = C := by unfold hi; rw [bef_asym h1]; rfl
   have h2 : bef D a = false := by
    rw [← Bool.not_eq_true, bef_iff] at hCD ⊢
    rw [bef_iff] at h1
    omega
   have e2 : lo a D = a := by unfold lo; rw [h2]; rfl
   rw [e1, e2, if_neg (fun e => by rw [e, bef_irr] at h1; cases h1), bef_asym h1]; rfl

theorem Pt.sub_ne {a b : Pt} (h : a ≠ b) : ¬ (b.x - a.x = 0 ∧ b.y - a.y = 0) := fun e => h (Pt.ext_iff'.2 ⟨by omega, by omega⟩)

theorem sideS_zero {a b c : Pt} (h : nears [a, b, c] = true) : sideS a b c = 0 ↔ tw a b c = 0 := by
 unfold sideS twS
 rw [if_pos h]
 split
 · omega
 · split <;> omega
theorem side_prod {a b c d e f : Pt} (h1 : nears [a, b, c] = true) (h2 : nears [d, e, f] = true) : sideS a b c * sideS d e f ≤ 0 ↔ (0 ≤ tw a b c ∧ tw d e f ≤ 0) ∨ (tw a b c ≤ 0 ∧ 0 ≤ tw d e f) := by
 unfold sideS twS
 rw [if_pos h1, if_pos h2]
 generalize tw a b c = p
 generalize tw d e f = q
 split <;> split <;> (try split) <;> (try split) <;> simp <;> omega

theorem meetS_eq (a b c d : Pt) : meetS a b c d = rmeetS a b c d := by
 unfold meetS rmeetS
 by_cases hn : nears [a, b, c, d] = true
 case neg => rw [if_neg hn, if_neg hn]
 rw [if_pos hn, if_pos hn]
 have hn' : near1 a = true ∧ near1 b = true ∧ near1 c = true ∧ near1 d = true := by simpa [nears] using hn
 obtain ⟨na, nb, nc, nd⟩ := hn'
 have nn : ∀ p q r : Pt, near1 p = true → near1 q = true → near1 r = true → nears [p, q, r] = true := fun p q r h1 h2 h3 => by simp [nears, h1, h2, h3]
 unfold rmeetN
 by_cases hab : a = b
 ·
  subst hab
  rw [if_pos rfl]
  have c0 : crossS a a c d = 0 := by unfold crossS; grind
  have c1 : crossS a a a c = 0 := by unfold crossS; grind
  have c2 : crossS a a a d = 0 := by unfold crossS; grind
  by_cases hcd : c = d
  ·
   subst hcd
   have hon : onS c c a = decide (a = c) := by
    unfold onS tw
    rw [nn c c a nc nc na, Bool.eq_iff_iff]
    simp only [Bool.and_eq_true, decide_eq_true_eq, Bool.true_and, Pt.ext_iff']
    grind
   rw [hon]
   by_cases hac : a = c
   ·
    subst hac
    have hl : lo a a = a := by simp [lo]
    have hh : hi a a = a := by simp [hi]
    have : sharedS a a a a = 1 := by rw [sharedS_def, hl, hh, hl]; simp
    simp [c0, this]
   · simp [hac]
  ·
   rw [if_neg (show ¬ (a = a ∧ c = d ∧ ¬ a = c) from fun e => hcd e.2.1), if_pos c0]
   have ct : crossS c d c a = tw c d a := rfl
   unfold onS
   rw [nn c d a nc nd na]
   by_cases ht : tw c d a = 0
   ·
    rw [if_pos (show crossS a a a c = 0 ∧ crossS a a a d = 0 ∧ crossS c d c a = 0 ∧ crossS c d c a = 0 from ⟨c1, c2, ht, ht⟩), shared_pt c d a hcd ht]
    simp only [ht, decide_true, Bool.true_and, Bool.and_eq_true, decide_eq_true_eq, and_assoc]
   ·
    rw [if_neg (show ¬ (crossS a a a c = 0 ∧ crossS a a a d = 0 ∧ crossS c d c a = 0 ∧ crossS c d c a = 0) from fun e => ht e.2.2.1)]
    simp [ht]
 rw [if_neg hab]
 by_cases hcd : c = d
 ·
  subst hcd
  rw [if_pos rfl]
  have c0 : crossS a b c c = 0 := by unfold crossS; grind
  have c1 : crossS c c c a = 0 := by unfold crossS; grind
  have c2 : crossS c c c b = 0 := by unfold crossS; grind
  rw [if_neg (show ¬ (a = b ∧ c = c ∧ ¬ a = c) from fun e => hab e.1), if_pos c0]
  unfold onS
  rw [nn a b c na nb nc]
  have ct : crossS a b a c = tw a b c := rfl
  by_cases ht : tw a b c = 0
  ·
   rw [if_pos (show crossS a b a c = 0 ∧ crossS a b a c = 0 ∧ crossS c c c a = 0 ∧ crossS c c c b = 0 from ⟨ht, ht, c1, c2⟩), sharedS_comm, shared_pt a b c hab ht]
   simp only [ht, decide_true, Bool.true_and, Bool.and_eq_true, decide_eq_true_eq, and_assoc]
  ·
   rw [if_neg (show ¬ (crossS a b a c = 0 ∧ crossS a b a c = 0 ∧ crossS c c c a = 0 ∧ crossS c c c b = 0) from fun e => ht e.1)]
   simp [ht]
 rw [if_neg hcd, if_neg (show ¬ (a = b ∧ c = d ∧ ¬ a = c) from fun e => hab e.1)]
 have e1 : crossS a b a c = tw a b c := rfl
 have e2 : crossS a b a d = tw a b d := rfl
 have e0 : crossS a b c d = tw a b d - tw a b c := by unfold crossS tw; grind
 have es : crossS a c c d = tw c d a := by unfold crossS tw; grind
 have es2 : tw c d b = tw c d a - crossS a b c d := by unfold crossS tw; grind
 have et : crossS a c a b = - tw a b c := by unfold crossS tw; grind
 simp only [sideS_zero (nn a b c na nb nc), sideS_zero (nn a b d na nb nd)]
 by_cases hz : tw a b c = 0 ∧ tw a b d = 0
 ·
  obtain ⟨z1, z2⟩ := hz
  have p1 : crossS c d c a = 0 := by
   unfold crossS
   refine parallel (Pt.sub_ne hab) ?_ ?_
   · unfold tw at z1 z2; grind
   · unfold tw at z1 z2; grind
  have p2 : crossS c d c b = 0 := by
   unfold crossS
   refine parallel (Pt.sub_ne hab) ?_ ?_
   · unfold tw at z1 z2; grind
   · unfold tw at z1 z2; grind
  rw [if_pos (show tw a b c = 0 ∧ tw a b d = 0 from ⟨z1, z2⟩), if_pos (show crossS a b c d = 0 by rw [e0, z1, z2]; rfl), if_pos (show crossS a b a c = 0 ∧ crossS a b a d = 0 ∧ crossS c d c a = 0 ∧ crossS c d c b = 0 from ⟨z1, z2, p1, p2⟩)]
 ·
  rw [if_neg hz]
  simp only [side_prod (nn a b c na nb nc) (nn a b d na nb nd), side_prod (nn c d a nc nd na) (nn c d b nc nd nb), es2, et, es]
  generalize crossS a b c d = n at *
  generalize tw c d a = s at *
  by_cases hn0 : n = 0
  ·
   rw [if_pos hn0, if_neg (show ¬ (crossS a b a c = 0 ∧ crossS a b a d = 0 ∧ crossS c d c a = 0 ∧ crossS c d c b = 0) from fun e => hz ⟨e.1, e.2.1⟩), if_neg]
   omega
  ·
   rw [if_neg hn0]
   by_cases hneg : n < 0
   ·
    rw [if_pos hneg]
    have : (((0 ≤ tw a b c ∧ tw a b d ≤ 0 ∨ tw a b c ≤ 0 ∧ 0 ≤ tw a b d) ∧ (0 ≤ s ∧ s - n ≤ 0 ∨ s ≤ 0 ∧ 0 ≤ s - n)) ↔ (0 ≤ -s ∧ -s ≤ -n ∧ 0 ≤ - -tw a b c ∧ - -tw a b c ≤ -n)) := by omega
    simp only [this]
   ·
    rw [if_neg hneg]
    have : (((0 ≤ tw a b c ∧ tw a b d ≤ 0 ∨ tw a b c ≤ 0 ∧ 0 ≤ tw a b d) ∧ (0 ≤ s ∧ s - n ≤ 0 ∨ s ≤ 0 ∧ 0 ≤ s - n)) ↔ (0 ≤ s ∧ s ≤ n ∧ 0 ≤ -tw a b c ∧ -tw a b c ≤ n)) := by omega
    simp only [this]
end Go.Proofs.YtfondidmklmonaaGreat
namespace Go.Proofs.YtfondidmklmonaaGreat
open Go.RowKit

structure Sg where
 arc : Ar
 i : Nat
 n : Nat
 a : Pt
 b : Pt
/-- A slice value in a cell. -/
structure SV where
 a : Option Addr
 n : Nat
 c : Nat
def sgC (s : Sg × SV) : List Value := [.int .i64 s.1.arc.id, .int .i64 s.1.arc.fr, .int .i64 s.1.arc.dst, .slice s.2.a s.2.n s.2.c, .int .i64 s.1.arc.left, .int .i64 s.1.arc.right, .int .i64 s.1.i, .int .i64 s.1.n, .int .i64 s.1.a.x, .int .i64 s.1.a.y, .int .i64 s.1.b.x, .int .i64 s.1.b.y]
def sgV (s : Sg) (v : Value) : Value := .agg #[.int .i64 s.arc.id, .int .i64 s.arc.fr, .int .i64 s.arc.dst, v, .int .i64 s.arc.left, .int .i64 s.arc.right, .int .i64 s.i, .int .i64 s.n, .int .i64 s.a.x, .int .i64 s.a.y, .int .i64 s.b.x, .int .i64 s.b.y]
theorem Blk.facts12 {w : World} {g : Nat} {t : TypeId} {v0 v1 v2 v3 v4 v5 v6 v7 v8 v9 v10 v11 : Value} (h : Blk w g t #[v0, v1, v2, v3, v4, v5, v6, v7, v8, v9, v10, v11]) :
  g < w.heap.size ∧ w.cell? ⟨g, 0, none⟩ = some v0 ∧ w.cell? ⟨g, 1, none⟩ = some v1 ∧ w.cell? ⟨g, 2, none⟩ = some v2 ∧ w.cell? ⟨g, 3, none⟩ = some v3 ∧ w.cell? ⟨g, 4, none⟩ = some v4 ∧ w.cell? ⟨g, 5, none⟩ = some v5 ∧ w.cell? ⟨g, 6, none⟩ = some v6 ∧ w.cell? ⟨g, 7, none⟩ = some v7 ∧ w.cell? ⟨g, 8, none⟩ = some v8 ∧ w.cell? ⟨g, 9, none⟩ = some v9 ∧ w.cell? ⟨g, 10, none⟩ = some v10 ∧ w.cell? ⟨g, 11, none⟩ = some v11 ∧
  w.frozen? ⟨g, 0, none⟩ = false ∧ w.frozen? ⟨g, 1, none⟩ = false ∧ w.frozen? ⟨g, 2, none⟩ = false ∧ w.frozen? ⟨g, 3, none⟩ = false ∧ w.frozen? ⟨g, 4, none⟩ = false ∧ w.frozen? ⟨g, 5, none⟩ = false ∧ w.frozen? ⟨g, 6, none⟩ = false ∧ w.frozen? ⟨g, 7, none⟩ = false ∧ w.frozen? ⟨g, 8, none⟩ = false ∧ w.frozen? ⟨g, 9, none⟩ = false ∧ w.frozen? ⟨g, 10, none⟩ = false ∧ w.frozen? ⟨g, 11, none⟩ = false :=
 ⟨h.lt, h.cell 0, h.cell 1, h.cell 2, h.cell 3, h.cell 4, h.cell 5, h.cell 6, h.cell 7, h.cell 8, h.cell 9, h.cell 10, h.cell 11, h.frozen 0, h.frozen 1, h.frozen 2, h.frozen 3, h.frozen 4, h.frozen 5, h.frozen 6, h.frozen 7, h.frozen 8, h.frozen 9, h.frozen 10, h.frozen 11⟩

def endsS (a : Ar) (id : Int) : Bool := a.fr == id || a.dst == id
set_option maxHeartbeats 1000000 in
theorem ends_spec (a : Ar) (A : Option Addr) (n c : Nat) (id : Int) (w : World) :
  Calls Tryz.prog 133 #[.agg #[.int .i64 a.id, .int .i64 a.fr, .int .i64 a.dst, .slice A n c, .int .i64 a.left, .int .i64 a.right], .int .i64 id] w fun e w' => e = .returned (.bool (endsS a id)) ∧ Below w.heap.size w w' := by
 unfold endsS
 cases h1 : (a.fr == id)
 ·
  cases h2 : (a.dst == id)
  all_goals
   go_enter Tryz.func133, Tryz.ntmps133
   go_wp2_with fail
   go_ret
   exact ⟨rfl, bA (bR w) _⟩
 ·
  go_enter Tryz.func133, Tryz.ntmps133
  go_wp2_with fail
  go_ret
  exact ⟨rfl, bA (bR w) _⟩

def apartS (s t : Sg) : Bool := if t.i = s.i + 1 ∨ (s.i = 0 ∧ t.i + 1 = t.n ∧ s.arc.fr = s.arc.dst) then rmeetS s.a s.b t.a t.b == 1 else rmeetS s.a s.b t.a t.b == 0
set_option maxRecDepth 100000 in
set_option maxHeartbeats 1000000 in
theorem apart_spec (s t : Sg) (A A' : Option Addr) (n n' c c' : Nat) (w : World) (hs : s.i ≤ 2097152) (ht : t.n ≤ 2097152) (ht' : 1 ≤ t.n) :
  Calls Tryz.prog 101 #[sgV s (.slice A n c), sgV t (.slice A' n' c')] w fun e w' => e = .returned (.bool (apartS s t)) ∧ Below w.heap.size w w' := by
 have TM : ∀ W, Calls Tryz.prog 132 #[ptV s.a, ptV s.b, ptV t.a, ptV t.b] W _ := fun W => RMeet_spec s.a s.b t.a t.b W
 unfold ptV at TM
 have HM := Lib.hid TM; clear TM
 unfold sgV
 obtain ⟨q, hq⟩ : ∃ q, apartS s t = q := ⟨_, rfl⟩
 rw [hq]
 unfold apartS at hq
 have Hq := Lib.hid hq; clear hq
 go_enter Tryz.func101, Tryz.ntmps101
 go_wp2_with fail
 refine (HM.out _).mono ?_
 rintro e w1 ⟨rfl, hb1⟩
 have Bw : Below w.heap.size w w1 := by
  repeat (first | with_reducible exact bR _ | with_reducible assumption | with_reducible refine bA ?_ _ | with_reducible refine bD ?_ | with_reducible refine bN ?_ _ | ((with_reducible refine bS ?_ ?_ _); rotate_left; (simp; try omega)) | ((with_reducible refine bT ?_ ?_); rotate_left; with_reducible assumption) | with_reducible refine bT ?_ (by assumption))
 have X2 : Blk _ (w.heap.size) 134 #[.int .i64 s.arc.id, .int .i64 s.arc.fr, .int .i64 s.arc.dst, .slice A n c, .int .i64 s.arc.left, .int .i64 s.arc.right, .int .i64 s.i, .int .i64 s.n, .int .i64 s.a.x, .int .i64 s.a.y, .int .i64 s.b.x, .int .i64 s.b.y] := Blk.keep (by repeat (first | exact Blk.made (by simp) _ _ | refine Blk.alloc ?_ _)) hb1
 have X3 : Blk _ (w.heap.size + 1) 134 #[.int .i64 t.arc.id, .int .i64 t.arc.fr, .int .i64 t.arc.dst, .slice A' n' c', .int .i64 t.arc.left, .int .i64 t.arc.right, .int .i64 t.i, .int .i64 t.n, .int .i64 t.a.x, .int .i64 t.a.y, .int .i64 t.b.x, .int .i64 t.b.y] := Blk.keep (by repeat (first | exact Blk.made (by simp) _ _ | refine Blk.alloc ?_ _)) hb1
 clear hb1
 generalize rmeetS s.a s.b t.a t.b = m at *
 obtain ⟨X2l, X2a, X2b, X2c, X2d, X2e, X2f, X2g, X2h, X2i, X2j, X2k, X2l, -, -, -, -, -, -, -, -, -, -, -, -⟩ := X2.facts12
 obtain ⟨X3l, X3a, X3b, X3c, X3d, X3e, X3f, X3g, X3h, X3i, X3j, X3k, X3l, -, -, -, -, -, -, -, -, -, -, -, -⟩ := X3.facts12
 cases h1 : ((t.i : Int) == (s.i : Int) + 1)
 case true =>
  have hf := Lib.hid (show (m == 1) = q by rw [← Hq.out, if_pos]; left; have := eq_of_beq h1; omega)
  go_wp2_with fail
  go_ret
  exact ⟨ret_bool hf.out, Bw⟩
 case false =>
  cases h2 : ((s.i : Int) == 0)
  case false =>
   have hf := Lib.hid (show (m == 0) = q by rw [← Hq.out, if_neg]; simp only [beq_eq_false_iff_ne] at h1 h2; omega)
   go_wp2_with fail
   go_ret
   exact ⟨ret_bool hf.out, Bw⟩
  case true =>
   cases h3 : ((t.i : Int) == (t.n : Int) - 1)
   case false =>
    have hf := Lib.hid (show (m == 0) = q by rw [← Hq.out, if_neg]; simp only [beq_eq_false_iff_ne, beq_iff_eq] at h1 h2 h3; omega)
    go_wp2_with fail
    go_ret
    exact ⟨ret_bool hf.out, Bw⟩
   case true =>
    cases h4 : (s.arc.fr == s.arc.dst)
    case false =>
     have hf := Lib.hid (show (m == 0) = q by rw [← Hq.out, if_neg]; simp only [beq_eq_false_iff_ne, beq_iff_eq] at h1 h2 h3 h4; omega)
     go_wp2_with fail
     go_ret
     exact ⟨ret_bool hf.out, Bw⟩
    case true =>
     have hf := Lib.hid (show (m == 1) = q by rw [← Hq.out, if_pos]; simp only [beq_eq_false_iff_ne, beq_iff_eq] at h1 h2 h3 h4; omega)
     go_wp2_with fail
     go_ret
     exact ⟨ret_bool hf.out, Bw⟩
end Go.Proofs.YtfondidmklmonaaGreat
