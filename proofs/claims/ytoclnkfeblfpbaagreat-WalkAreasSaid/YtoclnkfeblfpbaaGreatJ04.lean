/- Package mapsheetsref08: Near, cross, dot, On, first. Package mapsheetsref08: shared. Package mapsheetsref08: Meet. -/
import Derived.Deep.DeepCutAuto
import Derived.Test.YtoclnkfeblfpbaaGreatJ03
import Derived.Test.YtoclnkfeblfpbaaGreatGB
import Derived.Deep.RegionHeld3
set_option linter.unusedSimpArgs false
set_option linter.unusedVariables false
namespace Go.Proofs.YtoclnkfeblfpbaaGreat
open Go.RowKit

set_option maxHeartbeats 400000 in
theorem RNear_spec (v : Value) (l : List Pt) (w : World) (h : Pts w v l) :
  Calls Tryz.prog 135 #[v] w fun e w' => e = .returned (.bool (nears l)) ∧ Below w.heap.size w w' := by
 obtain ⟨A, c, rfl, hn, hc, hR⟩ := h
 unfold maxLen at hc
 go_enter Tryz.func135, Tryz.ntmps135
 go_wp2_with fail
 go_loopw [3] (fun i wr => ∃ k : Nat, k ≤ l.length ∧ i = .int .i64 k ∧ Below w.heap.size w wr ∧ ∀ j (hj : j < l.length), j < k → near1 l[j] = true) (fun i _ => l.length - (intOf i).toNat)
 case atStart => exact ⟨0, Nat.zero_le _, rfl, Below.refl _ _, fun j _ h => by omega⟩
 case round =>
  obtain ⟨k, hk, rfl, hb, hno⟩ := hrel
  have Hb := Lib.hid hb
  have Hno := Lib.hid hno
  have hs := hb.size
  clear hb hno
  by_cases hlt : k < l.length
  ·
   obtain ⟨b, o, rfl, hlb, c0, c1⟩ := (hR.mono Hb.out).pt hlt
   have HR := Lib.hid hR; clear hR
   by_cases hnr : near1 l[k] = true
   ·
    have Hn := Lib.hid hnr
    obtain ⟨n1, n2, n3, n4⟩ := (near1_iff _).1 hnr
    clear hnr
    go_wp2
    go_roundw
    case rel => exact ⟨k + 1, by omega, by go_num, Hb.out, all_succ (p := fun x => near1 x = true) Hno.out hlt Hn.out⟩
    case measure => simp [intOf]; omega
   ·
    have hn' : near1 l[k] = false := by simpa using hnr
    have Hf := Lib.hid (nears_hit l k hlt hn')
    clear hn'
    have Hnr := Lib.hid hnr; clear hnr
    go_wp2
    all_goals first
     | (go_ret; exact ⟨ret_bool Hf.out.symm, Hb.out⟩)
     | (exfalso; exact Hnr.out ((near1_iff _).2 ⟨by omega, by omega, by omega, by omega⟩))
  ·
   go_wp2
   go_ret
   exact ⟨ret_bool (nears_all l fun j hj => Hno.out j hj (by omega)).symm, Hb.out⟩

def crossS (a b c d : Pt) : Int := (b.x - a.x) * (d.y - c.y) - (b.y - a.y) * (d.x - c.x)
def dotS (a b c d : Pt) : Int := (b.x - a.x) * (d.x - c.x) + (b.y - a.y) * (d.y - c.y)

set_option maxHeartbeats 400000 in
theorem cross_spec (a b c d : Pt) (w : World) (ha : lim a) (hb : lim b) (hc : lim c) (hd : lim d) :
  Calls Tryz.prog 137 #[ptV a, ptV b, ptV c, ptV d] w fun e w' => e = .returned (.int .i64 (crossS a b c d)) ∧ Below w.heap.size w w' := by
 obtain ⟨a1, a2, a3, a4⟩ := ha
 obtain ⟨b1, b2, b3, b4⟩ := hb
 obtain ⟨c1, c2, c3, c4⟩ := hc
 obtain ⟨d1, d2, d3, d4⟩ := hd
 obtain ⟨m1, m2⟩ := mul_bd (b.x - a.x) (d.y - c.y) 4194304 (by omega) (by omega) (by omega) (by omega)
 obtain ⟨m3, m4⟩ := mul_bd (b.y - a.y) (d.x - c.x) 4194304 (by omega) (by omega) (by omega) (by omega)
 simp only [Int.reduceMul, Int.reduceNeg] at m1 m2 m3 m4
 unfold ptV
 go_enter Tryz.func137, Tryz.ntmps137
 go_wp2
 go_ret
 refine ⟨ret_int rfl, ?_⟩
 repeat (first | with_reducible exact bR _ | with_reducible assumption | with_reducible refine bA ?_ _ | with_reducible refine bD ?_ | with_reducible refine bN ?_ _ | ((with_reducible refine bS ?_ ?_ _); rotate_left; (simp; try omega)) | ((with_reducible refine bT ?_ ?_); rotate_left; with_reducible assumption) | with_reducible refine bT ?_ (by assumption))
set_option maxHeartbeats 400000 in
theorem dot_spec (a b c d : Pt) (w : World) (ha : lim a) (hb : lim b) (hc : lim c) (hd : lim d) :
  Calls Tryz.prog 152 #[ptV a, ptV b, ptV c, ptV d] w fun e w' => e = .returned (.int .i64 (dotS a b c d)) ∧ Below w.heap.size w w' := by
 obtain ⟨a1, a2, a3, a4⟩ := ha
 obtain ⟨b1, b2, b3, b4⟩ := hb
 obtain ⟨c1, c2, c3, c4⟩ := hc
 obtain ⟨d1, d2, d3, d4⟩ := hd
 obtain ⟨m1, m2⟩ := mul_bd (b.x - a.x) (d.x - c.x) 4194304 (by omega) (by omega) (by omega) (by omega)
 obtain ⟨m3, m4⟩ := mul_bd (b.y - a.y) (d.y - c.y) 4194304 (by omega) (by omega) (by omega) (by omega)
 simp only [Int.reduceMul, Int.reduceNeg] at m1 m2 m3 m4
 unfold ptV
 go_enter Tryz.func152, Tryz.ntmps152
 go_wp2
 go_ret
 refine ⟨ret_int rfl, ?_⟩
 repeat (first | with_reducible exact bR _ | with_reducible assumption | with_reducible refine bA ?_ _ | with_reducible refine bD ?_ | with_reducible refine bN ?_ _ | ((with_reducible refine bS ?_ ?_ _); rotate_left; (simp; try omega)) | ((with_reducible refine bT ?_ ?_); rotate_left; with_reducible assumption) | with_reducible refine bT ?_ (by assumption))

set_option maxHeartbeats 400000 in
theorem first_spec (a b : Pt) (w : World) :
  Calls Tryz.prog 160 #[ptV a, ptV b] w fun e w' => e = .returned (.bool (bef a b)) ∧ Below w.heap.size w w' := by
 unfold ptV
 by_cases h1 : a.x < b.x
 ·
  go_enter Tryz.func160, Tryz.ntmps160
  go_wp2
  go_ret
  refine ⟨ret_bool (by simp [bef, h1]), ?_⟩
  repeat (first | with_reducible exact bR _ | with_reducible assumption | with_reducible refine bA ?_ _ | with_reducible refine bD ?_ | with_reducible refine bN ?_ _ | ((with_reducible refine bS ?_ ?_ _); rotate_left; (simp; try omega)) | ((with_reducible refine bT ?_ ?_); rotate_left; with_reducible assumption) | with_reducible refine bT ?_ (by assumption))
 ·
  by_cases h2 : (a.x == b.x) = true
  ·
   go_enter Tryz.func160, Tryz.ntmps160
   go_wp2
   go_ret
   refine ⟨ret_bool (by simp only [bef]; simp_all), ?_⟩
   repeat (first | with_reducible exact bR _ | with_reducible assumption | with_reducible refine bA ?_ _ | with_reducible refine bD ?_ | with_reducible refine bN ?_ _ | ((with_reducible refine bS ?_ ?_ _); rotate_left; (simp; try omega)) | ((with_reducible refine bT ?_ ?_); rotate_left; with_reducible assumption) | with_reducible refine bT ?_ (by assumption))
  ·
   have h2' : (a.x == b.x) = false := by simpa using h2
   clear h2
   go_enter Tryz.func160, Tryz.ntmps160
   go_wp2
   go_ret
   refine ⟨ret_bool (by simp only [bef]; simp_all), ?_⟩
   repeat (first | with_reducible exact bR _ | with_reducible assumption | with_reducible refine bA ?_ _ | with_reducible refine bD ?_ | with_reducible refine bN ?_ _ | ((with_reducible refine bS ?_ ?_ _); rotate_left; (simp; try omega)) | ((with_reducible refine bT ?_ ?_); rotate_left; with_reducible assumption) | with_reducible refine bT ?_ (by assumption))

def ronS (a b p : Pt) : Bool := nears [a, b, p] && decide (crossS a b a p = 0) && decide (dotS a p b p ≤ 0)

set_option maxHeartbeats 1000000 in
theorem ROn_spec (a b p : Pt) (w : World) :
  Calls Tryz.prog 132 #[ptV a, ptV b, ptV p] w fun e w' => e = .returned (.bool (ronS a b p)) ∧ Below w.heap.size w w' := by
 have hn0 : ∀ q, nears [a, b, p] = q → ronS a b p = (q && decide (crossS a b a p = 0) && decide (dotS a p b p ≤ 0)) := fun q h => by rw [ronS, h]
 have Hn0 := Lib.hid hn0; clear hn0
 cases hn : nears [a, b, p]
 ·
  have Hs := Lib.hid (Hn0.out _ hn)
  unfold ptV
  go_enter Tryz.func132, Tryz.ntmps132
  go_wp2_with fail
  refine (RNear_spec _ [a, b, p] _ (Pts.lit3 (Blk.made (by simp) _ _))).mono ?_
  rintro e w1 ⟨rfl, hb1⟩
  rw [hn]
  go_wp2_with fail
  go_ret
  refine ⟨ret_bool Hs.out.symm, ?_⟩
  repeat (first | with_reducible exact bR _ | with_reducible assumption | with_reducible refine bA ?_ _ | with_reducible refine bD ?_ | with_reducible refine bN ?_ _ | ((with_reducible refine bS ?_ ?_ _); rotate_left; (simp; try omega)) | ((with_reducible refine bT ?_ ?_); rotate_left; with_reducible assumption) | with_reducible refine bT ?_ (by assumption))
 ·
  obtain ⟨ha, hb, hc⟩ := nears3 hn
  have TC : ∀ W, Calls Tryz.prog 137 #[ptV a, ptV b, ptV a, ptV p] W _ := fun W => cross_spec a b a p W ha hb ha hc
  have TD : ∀ W, Calls Tryz.prog 152 #[ptV a, ptV p, ptV b, ptV p] W _ := fun W => dot_spec a p b p W ha hc hb hc
  have Hs := Lib.hid (Hn0.out _ hn)
  generalize crossS a b a p = cr at *
  generalize dotS a p b p = dt at *
  unfold ptV at TC TD ⊢
  have HC := Lib.hid TC; clear TC
  have HD := Lib.hid TD; clear TD
  clear ha hb hc
  go_enter Tryz.func132, Tryz.ntmps132
  go_wp2_with fail
  refine (RNear_spec _ [a, b, p] _ (Pts.lit3 (Blk.made (by simp) _ _))).mono ?_
  rintro e w1 ⟨rfl, hb1⟩
  rw [hn]
  have Bw : Below w.heap.size w w1 := by
   repeat (first | with_reducible exact bR _ | with_reducible assumption | with_reducible refine bA ?_ _ | with_reducible refine bD ?_ | with_reducible refine bN ?_ _ | ((with_reducible refine bS ?_ ?_ _); rotate_left; (simp; try omega)) | ((with_reducible refine bT ?_ ?_); rotate_left; with_reducible assumption) | with_reducible refine bT ?_ (by assumption))
  have X3 : Blk _ (w.heap.size) 41 #[.int .i64 a.x, .int .i64 a.y] := Blk.keep (by repeat (first | exact Blk.made (by simp) _ _ | refine Blk.alloc ?_ _)) hb1
  have X4 : Blk _ (w.heap.size + 1) 41 #[.int .i64 b.x, .int .i64 b.y] := Blk.keep (by repeat (first | exact Blk.made (by simp) _ _ | refine Blk.alloc ?_ _)) hb1
  have X5 : Blk _ (w.heap.size + 1 + 1) 41 #[.int .i64 p.x, .int .i64 p.y] := Blk.keep (by repeat (first | exact Blk.made (by simp) _ _ | refine Blk.alloc ?_ _)) hb1
  clear hb1
  obtain ⟨X3l, X3a, X3b, -, -⟩ := X3.facts2
  obtain ⟨X4l, X4a, X4b, -, -⟩ := X4.facts2
  obtain ⟨X5l, X5a, X5b, -, -⟩ := X5.facts2
  go_wp2_with fail
  refine (HC.out _).mono ?_
  rintro e w2 ⟨rfl, hb2⟩
  replace Bw := bT Bw hb2
  replace X3 := X3.keep hb2
  replace X4 := X4.keep hb2
  replace X5 := X5.keep hb2
  clear hb2
  try clear X3l
  try clear X3a
  try clear X3b
  try clear X4l
  try clear X4a
  try clear X4b
  try clear X5l
  try clear X5a
  try clear X5b
  try clear X3l
  try clear X3a
  try clear X3b
  obtain ⟨X3l, X3a, X3b, -, -⟩ := X3.facts2
  try clear X4l
  try clear X4a
  try clear X4b
  obtain ⟨X4l, X4a, X4b, -, -⟩ := X4.facts2
  try clear X5l
  try clear X5a
  try clear X5b
  obtain ⟨X5l, X5a, X5b, -, -⟩ := X5.facts2
  by_cases hcr : cr = 0
  ·
   subst hcr
   go_wp2_with fail
   refine (HD.out _).mono ?_
   rintro e w3 ⟨rfl, hb3⟩
   go_wp2_with fail
   go_ret
   refine ⟨ret_bool (by rw [Hs.out]; simp), ?_⟩
   repeat (first | with_reducible exact bR _ | with_reducible assumption | with_reducible refine bA ?_ _ | with_reducible refine bD ?_ | with_reducible refine bN ?_ _ | ((with_reducible refine bS ?_ ?_ _); rotate_left; (simp; try omega)) | ((with_reducible refine bT ?_ ?_); rotate_left; with_reducible assumption) | with_reducible refine bT ?_ (by assumption))
  ·
   have hcr' : (cr == 0) = false := by simpa using hcr
   have Hcr := Lib.hid hcr; clear hcr
   go_wp2_with fail
   go_ret
   refine ⟨ret_bool (by rw [Hs.out]; simp [Hcr.out]), ?_⟩
   repeat (first | with_reducible exact bR _ | with_reducible assumption | with_reducible refine bA ?_ _ | with_reducible refine bD ?_ | with_reducible refine bN ?_ _ | ((with_reducible refine bS ?_ ?_ _); rotate_left; (simp; try omega)) | ((with_reducible refine bT ?_ ?_); rotate_left; with_reducible assumption) | with_reducible refine bT ?_ (by assumption))
end Go.Proofs.YtoclnkfeblfpbaaGreat
namespace Go.Proofs.YtoclnkfeblfpbaaGreat
open Go.RowKit

set_option maxHeartbeats 1000000 in
theorem Rshared_spec (a b c d : Pt) (w : World) :
  Calls Tryz.prog 153 #[ptV a, ptV b, ptV c, ptV d] w fun e w' => e = .returned (.int .i64 (sharedS a b c d)) ∧ Below w.heap.size w w' := by
 have T : ∀ p q : Pt, ∀ W, Calls Tryz.prog 160 #[ptV p, ptV q] W _ := fun p q W => first_spec p q W
 unfold ptV at T ⊢
 have HT := Lib.hid T; clear T
 go_enter Tryz.func153, Tryz.ntmps153
 go_wp2_with fail
 refine (HT.out b a _).mono ?_
 rintro e w1 ⟨rfl, hb1⟩
 have Bw : Below w.heap.size w w1 := by
  repeat (first | with_reducible exact bR _ | with_reducible assumption | with_reducible refine bA ?_ _ | with_reducible refine bD ?_ | with_reducible refine bN ?_ _ | ((with_reducible refine bS ?_ ?_ _); rotate_left; (simp; try omega)) | ((with_reducible refine bT ?_ ?_); rotate_left; with_reducible assumption) | with_reducible refine bT ?_ (by assumption))
 have X4 : Boxed w1 w.heap.size a := ((((Boxed.new _ a rfl).alloc _).alloc _).alloc _).keep hb1
 have X5 : Boxed w1 (w.heap.size + 1) b := (((Boxed.new _ b (by simp)).alloc _).alloc _).keep hb1
 have X6 : Boxed w1 (w.heap.size + 1 + 1) c := ((Boxed.new _ c (by simp)).alloc _).keep hb1
 have X7 : Boxed w1 (w.heap.size + 1 + 1 + 1) d := (Boxed.new _ d (by simp)).keep hb1
 clear hb1
 go_upto_if 11 with fail
 go_cut [] (fun wx => Boxed wx (w.heap.size) (if bef b a then b else a) ∧ Boxed wx (w.heap.size + 1) (if bef b a then a else b) ∧ Boxed wx (w.heap.size + 1 + 1) c ∧ Boxed wx (w.heap.size + 1 + 1 + 1) d ∧ Below w.heap.size w wx)
 case first =>
  obtain ⟨X4l, X4a, X4b, X4fa, X4fb⟩ := X4.facts2
  obtain ⟨X5l, X5a, X5b, X5fa, X5fb⟩ := X5.facts2
  cases h : bef b a
  ·
   go_wp2_with fail
   go_meet
   case rel =>
   rw [h]
   exact ⟨X4, X5, X6, X7, Bw⟩
  ·
   go_wp2_with fail
   go_meet
   case rel =>
   rw [h]
   exact ⟨(((X4).set_).far (by first | omega | (simp; done) | (simp; omega)) _).far (by first | omega | (simp; done) | (simp; omega)) _, (((X5).far (by first | omega | (simp; done) | (simp; omega)) _).far (by first | omega | (simp; done) | (simp; omega)) _).set_, ((((X6).far (by first | omega | (simp; done) | (simp; omega)) _).far (by first | omega | (simp; done) | (simp; omega)) _).far (by first | omega | (simp; done) | (simp; omega)) _).far (by first | omega | (simp; done) | (simp; omega)) _, ((((X7).far (by first | omega | (simp; done) | (simp; omega)) _).far (by first | omega | (simp; done) | (simp; omega)) _).far (by first | omega | (simp; done) | (simp; omega)) _).far (by first | omega | (simp; done) | (simp; omega)) _, bS (bS (bS (bS (Bw) (by first | omega | (simp; done) | (simp; omega)) _) (by first | omega | (simp; done) | (simp; omega)) _) (by first | omega | (simp; done) | (simp; omega)) _) (by first | omega | (simp; done) | (simp; omega)) _⟩
 case rest =>
  clear X4 X5 X6 X7 Bw
  obtain ⟨X4, X5, X6, X7, Bw⟩ := hcut
  obtain ⟨a1, ha1⟩ : ∃ a1, a1 = (if bef b a then b else a) := ⟨_, rfl⟩
  rw [← ha1] at X4
  have Ha1 := Lib.hid ha1; clear ha1
  obtain ⟨b1, hb1⟩ : ∃ b1, b1 = (if bef b a then a else b) := ⟨_, rfl⟩
  rw [← hb1] at X5
  have Hb1 := Lib.hid hb1; clear hb1
  obtain ⟨X6l, X6a, X6b, -, -⟩ := X6.facts2
  obtain ⟨X7l, X7a, X7b, -, -⟩ := X7.facts2
  go_wp2_with fail
  refine (HT.out d c _).mono ?_
  rintro e w2 ⟨rfl, hb2⟩
  replace Bw := bT Bw hb2
  replace X4 := X4.keep hb2
  replace X5 := X5.keep hb2
  replace X6 := X6.keep hb2
  replace X7 := X7.keep hb2
  clear hb2
  try clear X4l
  try clear X4a
  try clear X4b
  try clear X4fa
  try clear X4fb
  try clear X5l
  try clear X5a
  try clear X5b
  try clear X5fa
  try clear X5fb
  try clear X6l
  try clear X6a
  try clear X6b
  try clear X7l
  try clear X7a
  try clear X7b
  go_upto_if 16 with fail
  go_cut [] (fun wx => Boxed wx (w.heap.size) a1 ∧ Boxed wx (w.heap.size + 1) b1 ∧ Boxed wx (w.heap.size + 1 + 1) (if bef d c then d else c) ∧ Boxed wx (w.heap.size + 1 + 1 + 1) (if bef d c then c else d) ∧ Below w.heap.size w wx)
  case first =>
   try clear X6l
   try clear X6a
   try clear X6b
   obtain ⟨X6l, X6a, X6b, X6fa, X6fb⟩ := X6.facts2
   try clear X7l
   try clear X7a
   try clear X7b
   obtain ⟨X7l, X7a, X7b, X7fa, X7fb⟩ := X7.facts2
   cases h : bef d c
   ·
    go_wp2_with fail
    go_meet
    case rel =>
    rw [h]
    exact ⟨X4, X5, X6, X7, Bw⟩
   ·
    go_wp2_with fail
    go_meet
    case rel =>
    rw [h]
    exact ⟨((((X4).far (by first | omega | (simp; done) | (simp; omega)) _).far (by first | omega | (simp; done) | (simp; omega)) _).far (by first | omega | (simp; done) | (simp; omega)) _).far (by first | omega | (simp; done) | (simp; omega)) _, ((((X5).far (by first | omega | (simp; done) | (simp; omega)) _).far (by first | omega | (simp; done) | (simp; omega)) _).far (by first | omega | (simp; done) | (simp; omega)) _).far (by first | omega | (simp; done) | (simp; omega)) _, (((X6).set_).far (by first | omega | (simp; done) | (simp; omega)) _).far (by first | omega | (simp; done) | (simp; omega)) _, (((X7).far (by first | omega | (simp; done) | (simp; omega)) _).far (by first | omega | (simp; done) | (simp; omega)) _).set_, bS (bS (bS (bS (Bw) (by first | omega | (simp; done) | (simp; omega)) _) (by first | omega | (simp; done) | (simp; omega)) _) (by first | omega | (simp; done) | (simp; omega)) _) (by first | omega | (simp; done) | (simp; omega)) _⟩
  case rest =>
   clear X4 X5 X6 X7 Bw
   obtain ⟨X4, X5, X6, X7, Bw⟩ := hcut
   obtain ⟨c1, hc1⟩ : ∃ c1, c1 = (if bef d c then d else c) := ⟨_, rfl⟩
   rw [← hc1] at X6
   have Hc1 := Lib.hid hc1; clear hc1
   obtain ⟨d1, hd1⟩ : ∃ d1, d1 = (if bef d c then c else d) := ⟨_, rfl⟩
   rw [← hd1] at X7
   have Hd1 := Lib.hid hd1; clear hd1
   try clear X4l
   try clear X4a
   try clear X4b
   try clear X4fa
   try clear X4fb
   obtain ⟨X4l, X4a, X4b, -, -⟩ := X4.facts2
   try clear X6l
   try clear X6a
   try clear X6b
   try clear X6fa
   try clear X6fb
   obtain ⟨X6l, X6a, X6b, -, -⟩ := X6.facts2
   go_wp2_with fail
   refine (HT.out a1 c1 _).mono ?_
   rintro e w3 ⟨rfl, hb3⟩
   replace Bw := bT Bw hb3
   replace X4 := X4.keep hb3
   replace X5 := X5.keep hb3
   replace X6 := X6.keep hb3
   replace X7 := X7.keep hb3
   clear hb3
   try clear X4l
   try clear X4a
   try clear X4b
   try clear X4fa
   try clear X4fb
   try clear X5l
   try clear X5a
   try clear X5b
   try clear X5fa
   try clear X5fb
   try clear X6l
   try clear X6a
   try clear X6b
   try clear X6fa
   try clear X6fb
   try clear X7l
   try clear X7a
   try clear X7b
   try clear X7fa
   try clear X7fb
   go_upto_if 21 with fail
   go_cut [] (fun wx => Boxed wx (w.heap.size) (if bef a1 c1 then c1 else a1) ∧ Boxed wx (w.heap.size + 1) b1 ∧ Boxed wx (w.heap.size + 1 + 1) c1 ∧ Boxed wx (w.heap.size + 1 + 1 + 1) d1 ∧ Below w.heap.size w wx)
   case first =>
    try clear X4l
    try clear X4a
    try clear X4b
    try clear X4fa
    try clear X4fb
    obtain ⟨X4l, X4a, X4b, X4fa, X4fb⟩ := X4.facts2
    try clear X6l
    try clear X6a
    try clear X6b
    try clear X6fa
    try clear X6fb
    obtain ⟨X6l, X6a, X6b, X6fa, X6fb⟩ := X6.facts2
    cases h : bef a1 c1
    ·
     go_wp2_with fail
     go_meet
     case rel =>
     rw [h]
     exact ⟨X4, X5, X6, X7, Bw⟩
    ·
     go_wp2_with fail
     go_meet
     case rel =>
     rw [h]
     exact ⟨(X4).set_, ((X5).far (by first | omega | (simp; done) | (simp; omega)) _).far (by first | omega | (simp; done) | (simp; omega)) _, ((X6).far (by first | omega | (simp; done) | (simp; omega)) _).far (by first | omega | (simp; done) | (simp; omega)) _, ((X7).far (by first | omega | (simp; done) | (simp; omega)) _).far (by first | omega | (simp; done) | (simp; omega)) _, bS (bS (Bw) (by first | omega | (simp; done) | (simp; omega)) _) (by first | omega | (simp; done) | (simp; omega)) _⟩
   case rest =>
    clear X4 X5 X6 X7 Bw
    obtain ⟨X4, X5, X6, X7, Bw⟩ := hcut
    obtain ⟨a2, ha2⟩ : ∃ a2, a2 = (if bef a1 c1 then c1 else a1) := ⟨_, rfl⟩
    rw [← ha2] at X4
    have Ha2 := Lib.hid ha2; clear ha2
    try clear X5l
    try clear X5a
    try clear X5b
    try clear X5fa
    try clear X5fb
    obtain ⟨X5l, X5a, X5b, -, -⟩ := X5.facts2
    try clear X7l
    try clear X7a
    try clear X7b
    try clear X7fa
    try clear X7fb
    obtain ⟨X7l, X7a, X7b, -, -⟩ := X7.facts2
    go_wp2_with fail
    refine (HT.out d1 b1 _).mono ?_
    rintro e w4 ⟨rfl, hb4⟩
    replace Bw := bT Bw hb4
    replace X4 := X4.keep hb4
    replace X5 := X5.keep hb4
    replace X6 := X6.keep hb4
    replace X7 := X7.keep hb4
    clear hb4
    try clear X4l
    try clear X4a
    try clear X4b
    try clear X4fa
    try clear X4fb
    try clear X5l
    try clear X5a
    try clear X5b
    try clear X5fa
    try clear X5fb
    try clear X6l
    try clear X6a
    try clear X6b
    try clear X6fa
    try clear X6fb
    try clear X7l
    try clear X7a
    try clear X7b
    try clear X7fa
    try clear X7fb
    go_upto_if 25 with fail
    go_cut [] (fun wx => Boxed wx (w.heap.size) a2 ∧ Boxed wx (w.heap.size + 1) (if bef d1 b1 then d1 else b1) ∧ Boxed wx (w.heap.size + 1 + 1) c1 ∧ Boxed wx (w.heap.size + 1 + 1 + 1) d1 ∧ Below w.heap.size w wx)
    case first =>
     try clear X5l
     try clear X5a
     try clear X5b
     try clear X5fa
     try clear X5fb
     obtain ⟨X5l, X5a, X5b, X5fa, X5fb⟩ := X5.facts2
     try clear X7l
     try clear X7a
     try clear X7b
     try clear X7fa
     try clear X7fb
     obtain ⟨X7l, X7a, X7b, X7fa, X7fb⟩ := X7.facts2
     cases h : bef d1 b1
     ·
      go_wp2_with fail
      go_meet
      case rel =>
      rw [h]
      exact ⟨X4, X5, X6, X7, Bw⟩
     ·
      go_wp2_with fail
      go_meet
      case rel =>
      rw [h]
      exact ⟨((X4).far (by first | omega | (simp; done) | (simp; omega)) _).far (by first | omega | (simp; done) | (simp; omega)) _, (X5).set_, ((X6).far (by first | omega | (simp; done) | (simp; omega)) _).far (by first | omega | (simp; done) | (simp; omega)) _, ((X7).far (by first | omega | (simp; done) | (simp; omega)) _).far (by first | omega | (simp; done) | (simp; omega)) _, bS (bS (Bw) (by first | omega | (simp; done) | (simp; omega)) _) (by first | omega | (simp; done) | (simp; omega)) _⟩
    case rest =>
     clear X4 X5 X6 X7 Bw
     obtain ⟨X4, X5, X6, X7, Bw⟩ := hcut
     obtain ⟨b2, hb2⟩ : ∃ b2, b2 = (if bef d1 b1 then d1 else b1) := ⟨_, rfl⟩
     rw [← hb2] at X5
     have Hb2 := Lib.hid hb2; clear hb2
     have HS : sharedS a b c d = if a2 = b2 then 1 else if bef a2 b2 then 2 else 0 := by
      rw [Ha2.out, Hb2.out, Ha1.out, Hb1.out, Hc1.out, Hd1.out]
      rfl
     replace HS := Lib.hid HS
     try clear X4l
     try clear X4a
     try clear X4b
     try clear X4fa
     try clear X4fb
     obtain ⟨X4l, X4a, X4b, -, -⟩ := X4.facts2
     try clear X5l
     try clear X5a
     try clear X5b
     try clear X5fa
     try clear X5fb
     obtain ⟨X5l, X5a, X5b, -, -⟩ := X5.facts2
     have hE := run_eql_pt a2 b2
     go_wp2_with fail
     ·
      go_ret
      refine ⟨ret_int ?_, Bw⟩
      rw [HS.out, if_pos (by assumption)]
     ·
      refine (HT.out a2 b2 _).mono ?_
      rintro e w5 ⟨rfl, hb5⟩
      have hfl : ¬ a2 = b2 := by assumption
      cases h : bef a2 b2
      ·
       go_wp2_with fail
       go_ret
       refine ⟨ret_int ?_, bT Bw hb5⟩
       rw [HS.out, if_neg hfl, h]
       rfl
      ·
       go_wp2_with fail
       go_ret
       refine ⟨ret_int ?_, bT Bw hb5⟩
       rw [HS.out, if_neg hfl, h]
       rfl
end Go.Proofs.YtoclnkfeblfpbaaGreat
namespace Go.Proofs.YtoclnkfeblfpbaaGreat
open Go.RowKit

theorem cross_bd (a b c d : Pt) (ha : lim a) (hb : lim b) (hc : lim c) (hd : lim d) : -35184372088832 ≤ crossS a b c d ∧ crossS a b c d ≤ 35184372088832 := by
 obtain ⟨a1, a2, a3, a4⟩ := ha
 obtain ⟨b1, b2, b3, b4⟩ := hb
 obtain ⟨c1, c2, c3, c4⟩ := hc
 obtain ⟨d1, d2, d3, d4⟩ := hd
 obtain ⟨m1, m2⟩ := mul_bd (b.x - a.x) (d.y - c.y) 4194304 (by omega) (by omega) (by omega) (by omega)
 obtain ⟨m3, m4⟩ := mul_bd (b.y - a.y) (d.x - c.x) 4194304 (by omega) (by omega) (by omega) (by omega)
 simp only [Int.reduceMul, Int.reduceNeg] at m1 m2 m3 m4
 unfold crossS
 omega

def rmeetN (a b c d : Pt) : Int :=
 if a = b ∧ c = d ∧ ¬ a = c then 0
 else if crossS a b c d = 0 then
  if crossS a b a c = 0 ∧ crossS a b a d = 0 ∧ crossS c d c a = 0 ∧ crossS c d c b = 0 then sharedS a b c d else 0
 else if crossS a b c d < 0 then
  if 0 ≤ -crossS a c c d ∧ -crossS a c c d ≤ -crossS a b c d ∧ 0 ≤ -crossS a c a b ∧ -crossS a c a b ≤ -crossS a b c d then 1 else 0
 else if 0 ≤ crossS a c c d ∧ crossS a c c d ≤ crossS a b c d ∧ 0 ≤ crossS a c a b ∧ crossS a c a b ≤ crossS a b c d then 1 else 0
def rmeetS (a b c d : Pt) : Int := if nears [a, b, c, d] = true then rmeetN a b c d else 0

set_option maxRecDepth 100000 in
set_option maxHeartbeats 2000000 in
theorem RMeet_spec (a b c d : Pt) (w : World) :
  Calls Tryz.prog 133 #[ptV a, ptV b, ptV c, ptV d] w fun e w' => e = .returned (.int .i64 (rmeetS a b c d)) ∧ Below w.heap.size w w' := by
 have TS : ∀ W, Calls Tryz.prog 153 #[ptV a, ptV b, ptV c, ptV d] W _ := fun W => Rshared_spec a b c d W
 have TC : ∀ p q r s : Pt, lim p → lim q → lim r → lim s → ∀ W, Calls Tryz.prog 137 #[ptV p, ptV q, ptV r, ptV s] W _ := fun p q r s hp hq hr hs W => cross_spec p q r s W hp hq hr hs
 unfold ptV at TS TC ⊢
 have HS := Lib.hid TS; clear TS
 have HC := Lib.hid TC; clear TC
 cases hn : nears [a, b, c, d]
 ·
  have hm : rmeetS a b c d = 0 := by rw [rmeetS, hn]; rfl
  have Hm := Lib.hid hm; clear hm
  go_enter Tryz.func133, Tryz.ntmps133
  go_wp2_with fail
  refine (RNear_spec _ [a, b, c, d] _ (Pts.lit4 (Blk.made (by simp) _ _))).mono ?_
  rintro e w1 ⟨rfl, hb1⟩
  rw [hn]
  go_wp2_with fail
  go_ret
  refine ⟨ret_int Hm.out.symm, ?_⟩
  repeat (first | with_reducible exact bR _ | with_reducible assumption | with_reducible refine bA ?_ _ | with_reducible refine bD ?_ | with_reducible refine bN ?_ _ | ((with_reducible refine bS ?_ ?_ _); rotate_left; (simp; try omega)) | ((with_reducible refine bT ?_ ?_); rotate_left; with_reducible assumption) | with_reducible refine bT ?_ (by assumption))
 obtain ⟨la, lb, lc, ld⟩ := nears4 hn
 have hm : rmeetS a b c d = rmeetN a b c d := by rw [rmeetS, if_pos hn]
 unfold rmeetN at hm
 have Hm := Lib.hid hm; clear hm
 have Ha := Lib.hid la; have Hb := Lib.hid lb; have Hc := Lib.hid lc; have Hd := Lib.hid ld
 clear la lb lc ld
 go_enter Tryz.func133, Tryz.ntmps133
 go_wp2_with fail
 refine (RNear_spec _ [a, b, c, d] _ (Pts.lit4 (Blk.made (by simp) _ _))).mono ?_
 rintro e w1 ⟨rfl, hb1⟩
 rw [hn]
 clear hn
 have Bw : Below w.heap.size w w1 := by
  repeat (first | with_reducible exact bR _ | with_reducible assumption | with_reducible refine bA ?_ _ | with_reducible refine bD ?_ | with_reducible refine bN ?_ _ | ((with_reducible refine bS ?_ ?_ _); rotate_left; (simp; try omega)) | ((with_reducible refine bT ?_ ?_); rotate_left; with_reducible assumption) | with_reducible refine bT ?_ (by assumption))
 have X4 : Blk _ (w.heap.size) 41 #[.int .i64 a.x, .int .i64 a.y] := Blk.keep (by repeat (first | exact Blk.made (by simp) _ _ | refine Blk.alloc ?_ _)) hb1
 have X5 : Blk _ (w.heap.size + 1) 41 #[.int .i64 b.x, .int .i64 b.y] := Blk.keep (by repeat (first | exact Blk.made (by simp) _ _ | refine Blk.alloc ?_ _)) hb1
 have X6 : Blk _ (w.heap.size + 1 + 1) 41 #[.int .i64 c.x, .int .i64 c.y] := Blk.keep (by repeat (first | exact Blk.made (by simp) _ _ | refine Blk.alloc ?_ _)) hb1
 have X7 : Blk _ (w.heap.size + 1 + 1 + 1) 41 #[.int .i64 d.x, .int .i64 d.y] := Blk.keep (by repeat (first | exact Blk.made (by simp) _ _ | refine Blk.alloc ?_ _)) hb1
 clear hb1
 obtain ⟨X4l, X4a, X4b, -, -⟩ := X4.facts2
 obtain ⟨X5l, X5a, X5b, -, -⟩ := X5.facts2
 obtain ⟨X6l, X6a, X6b, -, -⟩ := X6.facts2
 obtain ⟨X7l, X7a, X7b, -, -⟩ := X7.facts2
 go_upto_region 3 with fail
 go_cut [31] (fun s wx => s = .bool (decide (a = b ∧ c = d ∧ ¬ a = c)) ∧ wx = w1)
 case first =>
  have e1 := run_eql_pt a b
  have e2 := run_eql_pt c d
  have e3 := run_neq_pt a c
  by_cases h1 : a = b
  ·
   have h1' : decide (a = b) = true := by simpa using h1
   have H1 := Lib.hid h1; clear h1
   by_cases h2 : c = d
   ·
    have h2' : decide (c = d) = true := by simpa using h2
    have H2 := Lib.hid h2; clear h2
    go_wp2_with fail
    go_meet
    case rel => exact ⟨by simp [H1.out, H2.out], rfl⟩
   ·
    have h2' : decide (c = d) = false := by simpa using h2
    have H2 := Lib.hid h2; clear h2
    go_wp2_with fail
    go_meet
    case rel => exact ⟨by simp [H2.out], rfl⟩
  ·
   have h1' : decide (a = b) = false := by simpa using h1
   have H1 := Lib.hid h1; clear h1
   go_wp2_with fail
   go_meet
   case rel => exact ⟨by simp [H1.out], rfl⟩
 case rest =>
 obtain ⟨rfl, rfl⟩ := hcut
 by_cases hz : a = b ∧ c = d ∧ ¬ a = c
 ·
  have hm := Hm.out
  rw [if_pos hz] at hm
  replace Hm := Lib.hid hm; clear hm
  have hz' : decide (a = b ∧ c = d ∧ ¬ a = c) = true := decide_eq_true hz
  rw [hz']
  clear hz hz'
  go_wp2_with fail
  go_ret
  exact ⟨ret_int Hm.out.symm, Bw⟩
 have hm := Hm.out
 rw [if_neg hz] at hm
 replace Hm := Lib.hid hm; clear hm
 have hz' : decide (a = b ∧ c = d ∧ ¬ a = c) = false := decide_eq_false hz
 rw [hz']
 clear hz hz'
 go_wp2_with fail
 refine (HC.out a b c d Ha.out Hb.out Hc.out Hd.out _).mono ?_
 rintro e w2 ⟨rfl, hb2⟩
 replace Bw := bT Bw hb2
 replace X4 := X4.keep hb2
 replace X5 := X5.keep hb2
 replace X6 := X6.keep hb2
 replace X7 := X7.keep hb2
 clear hb2
 try clear X4l
 try clear X4a
 try clear X4b
 try clear X5l
 try clear X5a
 try clear X5b
 try clear X6l
 try clear X6a
 try clear X6b
 try clear X7l
 try clear X7a
 try clear X7b
 try clear X4l
 try clear X4a
 try clear X4b
 obtain ⟨X4l, X4a, X4b, -, -⟩ := X4.facts2
 try clear X5l
 try clear X5a
 try clear X5b
 obtain ⟨X5l, X5a, X5b, -, -⟩ := X5.facts2
 try clear X6l
 try clear X6a
 try clear X6b
 obtain ⟨X6l, X6a, X6b, -, -⟩ := X6.facts2
 try clear X7l
 try clear X7a
 try clear X7b
 obtain ⟨X7l, X7a, X7b, -, -⟩ := X7.facts2
 obtain ⟨nb1, nb2⟩ := cross_bd a b c d Ha.out Hb.out Hc.out Hd.out
 generalize crossS a b c d = n at *
 by_cases hn0 : n = 0
 ·
  subst hn0
  have hm := Hm.out
  rw [if_pos rfl] at hm
  replace Hm := Lib.hid hm; clear hm
  go_wp2_with fail
  refine (HC.out a b a c Ha.out Hb.out Ha.out Hc.out _).mono ?_
  rintro e w3 ⟨rfl, hb3⟩
  replace Bw := bT Bw hb3
  replace X4 := X4.keep hb3
  replace X5 := X5.keep hb3
  replace X6 := X6.keep hb3
  replace X7 := X7.keep hb3
  clear hb3
  try clear X4l
  try clear X4a
  try clear X4b
  try clear X5l
  try clear X5a
  try clear X5b
  try clear X6l
  try clear X6a
  try clear X6b
  try clear X7l
  try clear X7a
  try clear X7b
  try clear X4l
  try clear X4a
  try clear X4b
  obtain ⟨X4l, X4a, X4b, -, -⟩ := X4.facts2
  try clear X5l
  try clear X5a
  try clear X5b
  obtain ⟨X5l, X5a, X5b, -, -⟩ := X5.facts2
  try clear X6l
  try clear X6a
  try clear X6b
  obtain ⟨X6l, X6a, X6b, -, -⟩ := X6.facts2
  try clear X7l
  try clear X7a
  try clear X7b
  obtain ⟨X7l, X7a, X7b, -, -⟩ := X7.facts2
  generalize crossS a b a c = c1 at *
  by_cases hc1 : c1 = 0
  case neg =>
   have hm := Hm.out
   rw [if_neg (fun h => hc1 h.1)] at hm
   replace Hm := Lib.hid hm; clear hm
   have hc' : (c1 != 0) = true := by simpa using hc1
   clear hc1
   go_wp2_with fail
   go_ret
   exact ⟨ret_int Hm.out.symm, Bw⟩
  case pos =>
  subst hc1
  go_wp2_with fail
  refine (HC.out a b a d Ha.out Hb.out Ha.out Hd.out _).mono ?_
  rintro e w4 ⟨rfl, hb4⟩
  replace Bw := bT Bw hb4
  replace X4 := X4.keep hb4
  replace X5 := X5.keep hb4
  replace X6 := X6.keep hb4
  replace X7 := X7.keep hb4
  clear hb4
  try clear X4l
  try clear X4a
  try clear X4b
  try clear X5l
  try clear X5a
  try clear X5b
  try clear X6l
  try clear X6a
  try clear X6b
  try clear X7l
  try clear X7a
  try clear X7b
  try clear X4l
  try clear X4a
  try clear X4b
  obtain ⟨X4l, X4a, X4b, -, -⟩ := X4.facts2
  try clear X5l
  try clear X5a
  try clear X5b
  obtain ⟨X5l, X5a, X5b, -, -⟩ := X5.facts2
  try clear X6l
  try clear X6a
  try clear X6b
  obtain ⟨X6l, X6a, X6b, -, -⟩ := X6.facts2
  try clear X7l
  try clear X7a
  try clear X7b
  obtain ⟨X7l, X7a, X7b, -, -⟩ := X7.facts2
  generalize crossS a b a d = c2 at *
  by_cases hc2 : c2 = 0
  case neg =>
   have hm := Hm.out
   rw [if_neg (fun h => hc2 h.2.1)] at hm
   replace Hm := Lib.hid hm; clear hm
   have hc' : (c2 != 0) = true := by simpa using hc2
   clear hc2
   go_wp2_with fail
   go_ret
   exact ⟨ret_int Hm.out.symm, Bw⟩
  case pos =>
  subst hc2
  go_wp2_with fail
  refine (HC.out c d c a Hc.out Hd.out Hc.out Ha.out _).mono ?_
  rintro e w5 ⟨rfl, hb5⟩
  replace Bw := bT Bw hb5
  replace X4 := X4.keep hb5
  replace X5 := X5.keep hb5
  replace X6 := X6.keep hb5
  replace X7 := X7.keep hb5
  clear hb5
  try clear X4l
  try clear X4a
  try clear X4b
  try clear X5l
  try clear X5a
  try clear X5b
  try clear X6l
  try clear X6a
  try clear X6b
  try clear X7l
  try clear X7a
  try clear X7b
  try clear X4l
  try clear X4a
  try clear X4b
  obtain ⟨X4l, X4a, X4b, -, -⟩ := X4.facts2
  try clear X5l
  try clear X5a
  try clear X5b
  obtain ⟨X5l, X5a, X5b, -, -⟩ := X5.facts2
  try clear X6l
  try clear X6a
  try clear X6b
  obtain ⟨X6l, X6a, X6b, -, -⟩ := X6.facts2
  try clear X7l
  try clear X7a
  try clear X7b
  obtain ⟨X7l, X7a, X7b, -, -⟩ := X7.facts2
  generalize crossS c d c a = c3 at *
  by_cases hc3 : c3 = 0
  case neg =>
   have hm := Hm.out
   rw [if_neg (fun h => hc3 h.2.2.1)] at hm
   replace Hm := Lib.hid hm; clear hm
   have hc' : (c3 != 0) = true := by simpa using hc3
   clear hc3
   go_wp2_with fail
   go_ret
   exact ⟨ret_int Hm.out.symm, Bw⟩
  case pos =>
  subst hc3
  go_wp2_with fail
  refine (HC.out c d c b Hc.out Hd.out Hc.out Hb.out _).mono ?_
  rintro e w6 ⟨rfl, hb6⟩
  replace Bw := bT Bw hb6
  replace X4 := X4.keep hb6
  replace X5 := X5.keep hb6
  replace X6 := X6.keep hb6
  replace X7 := X7.keep hb6
  clear hb6
  try clear X4l
  try clear X4a
  try clear X4b
  try clear X5l
  try clear X5a
  try clear X5b
  try clear X6l
  try clear X6a
  try clear X6b
  try clear X7l
  try clear X7a
  try clear X7b
  try clear X4l
  try clear X4a
  try clear X4b
  obtain ⟨X4l, X4a, X4b, -, -⟩ := X4.facts2
  try clear X5l
  try clear X5a
  try clear X5b
  obtain ⟨X5l, X5a, X5b, -, -⟩ := X5.facts2
  try clear X6l
  try clear X6a
  try clear X6b
  obtain ⟨X6l, X6a, X6b, -, -⟩ := X6.facts2
  try clear X7l
  try clear X7a
  try clear X7b
  obtain ⟨X7l, X7a, X7b, -, -⟩ := X7.facts2
  generalize crossS c d c b = c4 at *
  by_cases hc4 : c4 = 0
  case neg =>
   have hm := Hm.out
   rw [if_neg (fun h => hc4 h.2.2.2)] at hm
   replace Hm := Lib.hid hm; clear hm
   have hc' : (c4 != 0) = true := by simpa using hc4
   clear hc4
   go_wp2_with fail
   go_ret
   exact ⟨ret_int Hm.out.symm, Bw⟩
  case pos =>
  subst hc4
  have hm := Hm.out
  simp only [and_self, if_true] at hm
  replace Hm := Lib.hid hm; clear hm
  go_wp2_with fail
  refine (HS.out _).mono ?_
  rintro e w8 ⟨rfl, hb8⟩
  go_wp2_with fail
  go_ret
  exact ⟨ret_int Hm.out.symm, bT Bw hb8⟩
 have hn0' : (n == 0) = false := by simpa using hn0
 have hm := Hm.out
 rw [if_neg hn0] at hm
 replace Hm := Lib.hid hm; clear hm
 obtain ⟨sb1, sb2⟩ := cross_bd a c c d Ha.out Hc.out Hc.out Hd.out
 obtain ⟨tb1, tb2⟩ := cross_bd a c a b Ha.out Hc.out Ha.out Hb.out
 have Hn0 := Lib.hid hn0; clear hn0
 go_upto_region 10 with fail
 go_cut [10, 11] (fun s t wx => s = .int .i64 (crossS a c c d) ∧ t = .int .i64 (crossS a c a b) ∧ Below w.heap.size w wx)
 case first =>
  go_region_held3 (fun W => W.cell? ⟨w.heap.size, 0, none⟩ = some (.int .i64 a.x) ∧ W.cell? ⟨w.heap.size, 1, none⟩ = some (.int .i64 a.y) ∧ W.cell? ⟨w.heap.size + 1, 0, none⟩ = some (.int .i64 b.x) ∧ W.cell? ⟨w.heap.size + 1, 1, none⟩ = some (.int .i64 b.y) ∧ W.cell? ⟨w.heap.size + 1 + 1, 0, none⟩ = some (.int .i64 c.x) ∧ W.cell? ⟨w.heap.size + 1 + 1, 1, none⟩ = some (.int .i64 c.y) ∧ W.cell? ⟨w.heap.size + 1 + 1 + 1, 0, none⟩ = some (.int .i64 d.x) ∧ W.cell? ⟨w.heap.size + 1 + 1 + 1, 1, none⟩ = some (.int .i64 d.y)) ((repeat' apply And.intro) <;> (repeat (refine keepc (by assumption) ?_)) <;> (first | assumption | simp [*]))
   (first | (go_at_call 137; refine (HC.out _ _ _ _ (by first | exact Ha.out | exact Hc.out) (by first | exact Hc.out) (by first | exact Hc.out | exact Ha.out) (by first | exact Hd.out | exact Hb.out) _).mono ?_; rintro e w' ⟨rfl, hb'⟩))
  go_wp2_with fail
  go_meet
  case rel =>
  refine ⟨rfl, rfl, ?_⟩
  repeat (first | with_reducible exact bR _ | with_reducible assumption | with_reducible refine bA ?_ _ | with_reducible refine bD ?_ | with_reducible refine bN ?_ _ | ((with_reducible refine bS ?_ ?_ _); rotate_left; (simp; try omega)) | ((with_reducible refine bT ?_ ?_); rotate_left; with_reducible assumption) | with_reducible refine bT ?_ (by assumption))
 case rest =>
 clear X4 X5 X6 X7 Bw
 clear X4l X4a X4b
 clear X5l X5a X5b
 clear X6l X6a X6b
 clear X7l X7a X7b
 obtain ⟨rfl, rfl, Bw⟩ := hcut
 generalize crossS a c c d = s at *
 generalize crossS a c a b = t at *
 by_cases hneg : n < 0
 ·
  have hm := Hm.out
  rw [if_pos hneg] at hm
  replace Hm := Lib.hid hm; clear hm
  go_wp2_with fail
  all_goals (first | (go_ret; refine ⟨ret_int ?_, Bw⟩; rw [Hm.out]; first | rw [if_pos (by omega)] | rw [if_neg (by omega)]) | (exfalso; omega))
 ·
  have hm := Hm.out
  rw [if_neg hneg] at hm
  replace Hm := Lib.hid hm; clear hm
  go_wp2_with fail
  all_goals (first | (go_ret; refine ⟨ret_int ?_, Bw⟩; rw [Hm.out]; first | rw [if_pos (by omega)] | rw [if_neg (by omega)]) | (exfalso; omega))
end Go.Proofs.YtoclnkfeblfpbaaGreat
