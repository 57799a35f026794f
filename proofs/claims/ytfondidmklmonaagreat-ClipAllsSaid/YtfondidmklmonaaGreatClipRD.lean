/- mapsheetsref09: later, sooner, between. -/
import Derived.Test.YtfondidmklmonaaGreatJ23
import Derived.Test.YtfondidmklmonaaGreatJ06
import Derived.Test.YtfondidmklmonaaGreatGG
set_option linter.unusedSimpArgs false
set_option linter.unusedVariables false
namespace Go.Proofs.YtfondidmklmonaaGreat
open Go.RowKit

set_option maxRecDepth 100000 in
set_option maxHeartbeats 4000000 in
theorem laterF_spec (x y : Int × Int) (w : World) (hx : FrOk x) (hy : FrOk y) : Calls Tryz.prog 135 #[frV x, frV y] w fun e w' => e = .returned (frV (laterF x y)) ∧ Below w.heap.size w w' := by
 have HC := Lib.hid (fun W => FrCmp_spec x y W hx hy)
 obtain ⟨q, hq⟩ : ∃ q, laterF x y = q := ⟨_, rfl⟩
 rw [hq]
 unfold laterF at hq
 obtain ⟨c, hc⟩ : ∃ c, cmpF x y = c := ⟨_, rfl⟩
 rw [hc] at HC hq
 have HQ := Lib.hid hq
 clear hq hc hx hy
 unfold frV at *
 obtain ⟨g2, hg2⟩ : ∃ g, w.heap.size = g := ⟨_, rfl⟩
 obtain ⟨g3, hg3⟩ : ∃ g, g2 + 1 = g := ⟨_, rfl⟩
 obtain ⟨g4, hg4⟩ : ∃ g, g3 + 1 = g := ⟨_, rfl⟩
 obtain ⟨W, hW⟩ : ∃ W : World, W = ((w.alloc (.cells #[.int .i64 x.1, .int .i64 x.2] 139)).alloc (.cells #[.int .i64 y.1, .int .i64 y.2] 139)).alloc (.cells #[.int .i64 0, .int .i64 0] 139) := ⟨_, rfl⟩
 have HBw := Lib.hid (show Below w.heap.size w W by rw [hW]; exact bA (bA (bA (bR w) _) _) _)
 have X2 : Blk W g2 139 #[.int .i64 x.1, .int .i64 x.2] := by rw [hW]; exact ((Blk.made hg2.symm _ _).alloc _).alloc _
 have X3 : Blk W g3 139 #[.int .i64 y.1, .int .i64 y.2] := by rw [hW]; exact (Blk.made (by simp; omega) _ _).alloc _
 have X4 : Blk W g4 139 #[.int .i64 0, .int .i64 0] := by rw [hW]; exact Blk.made (by simp; omega) _ _
 go_enter Tryz.func135, Tryz.ntmps135
 go_upto_region 1 with fail
 try rw [← hW]
 have hq0 : w.heap.size ≤ g4 := by omega
 clear hW hg2 hg3 hg4
 obtain ⟨X2l, X2a, X2b, -, -⟩ := X2.facts2
 obtain ⟨X3l, X3a, X3b, -, -⟩ := X3.facts2
 go_wp2_with fail
 refine (HC.out _).mono ?_
 rintro e w1 ⟨rfl, hb1⟩
 replace X2 := X2.keep hb1
 replace X3 := X3.keep hb1
 replace X4 := X4.keep hb1
 have HB1 := Lib.hid (bT HBw.out hb1)
 have HX4 := Lib.hid X4
 clear hb1 HBw HC
 try clear X2l
 try clear X2a
 try clear X2b
 obtain ⟨X2l, X2a, X2b, -, -⟩ := X2.facts2
 try clear X3l
 try clear X3a
 try clear X3b
 obtain ⟨X3l, X3a, X3b, -, -⟩ := X3.facts2
 obtain ⟨X4l, X4a, X4b, X4fa, X4fb⟩ := X4.facts2
 by_cases h : c < 0
 ·
  have HF := Lib.hid (show y = q by rw [← HQ.out, if_pos h])
  go_wp2_with fail
  refine res_cell (g := g4) (cs := #[.int .i64 y.1, .int .i64 y.2]) rfl struct_fr rfl rfl (Blk.put2 HX4.out) ⟨by rw [HF.out], bS (bS HB1.out hq0 _) hq0 _⟩
 ·
  have HF := Lib.hid (show x = q by rw [← HQ.out, if_neg h])
  go_wp2_with fail
  refine res_cell (g := g4) (cs := #[.int .i64 x.1, .int .i64 x.2]) rfl struct_fr rfl rfl (Blk.put2 HX4.out) ⟨by rw [HF.out], bS (bS HB1.out hq0 _) hq0 _⟩
set_option maxRecDepth 100000 in
set_option maxHeartbeats 4000000 in
theorem soonerF_spec (x y : Int × Int) (w : World) (hx : FrOk x) (hy : FrOk y) : Calls Tryz.prog 136 #[frV x, frV y] w fun e w' => e = .returned (frV (soonerF x y)) ∧ Below w.heap.size w w' := by
 have HC := Lib.hid (fun W => FrCmp_spec x y W hx hy)
 obtain ⟨q, hq⟩ : ∃ q, soonerF x y = q := ⟨_, rfl⟩
 rw [hq]
 unfold soonerF at hq
 obtain ⟨c, hc⟩ : ∃ c, cmpF x y = c := ⟨_, rfl⟩
 rw [hc] at HC hq
 have HQ := Lib.hid hq
 clear hq hc hx hy
 unfold frV at *
 obtain ⟨g2, hg2⟩ : ∃ g, w.heap.size = g := ⟨_, rfl⟩
 obtain ⟨g3, hg3⟩ : ∃ g, g2 + 1 = g := ⟨_, rfl⟩
 obtain ⟨g4, hg4⟩ : ∃ g, g3 + 1 = g := ⟨_, rfl⟩
 obtain ⟨W, hW⟩ : ∃ W : World, W = ((w.alloc (.cells #[.int .i64 x.1, .int .i64 x.2] 139)).alloc (.cells #[.int .i64 y.1, .int .i64 y.2] 139)).alloc (.cells #[.int .i64 0, .int .i64 0] 139) := ⟨_, rfl⟩
 have HBw := Lib.hid (show Below w.heap.size w W by rw [hW]; exact bA (bA (bA (bR w) _) _) _)
 have X2 : Blk W g2 139 #[.int .i64 x.1, .int .i64 x.2] := by rw [hW]; exact ((Blk.made hg2.symm _ _).alloc _).alloc _
 have X3 : Blk W g3 139 #[.int .i64 y.1, .int .i64 y.2] := by rw [hW]; exact (Blk.made (by simp; omega) _ _).alloc _
 have X4 : Blk W g4 139 #[.int .i64 0, .int .i64 0] := by rw [hW]; exact Blk.made (by simp; omega) _ _
 go_enter Tryz.func136, Tryz.ntmps136
 go_upto_region 1 with fail
 try rw [← hW]
 have hq0 : w.heap.size ≤ g4 := by omega
 clear hW hg2 hg3 hg4
 obtain ⟨X2l, X2a, X2b, -, -⟩ := X2.facts2
 obtain ⟨X3l, X3a, X3b, -, -⟩ := X3.facts2
 go_wp2_with fail
 refine (HC.out _).mono ?_
 rintro e w1 ⟨rfl, hb1⟩
 replace X2 := X2.keep hb1
 replace X3 := X3.keep hb1
 replace X4 := X4.keep hb1
 have HB1 := Lib.hid (bT HBw.out hb1)
 have HX4 := Lib.hid X4
 clear hb1 HBw HC
 try clear X2l
 try clear X2a
 try clear X2b
 obtain ⟨X2l, X2a, X2b, -, -⟩ := X2.facts2
 try clear X3l
 try clear X3a
 try clear X3b
 obtain ⟨X3l, X3a, X3b, -, -⟩ := X3.facts2
 obtain ⟨X4l, X4a, X4b, X4fa, X4fb⟩ := X4.facts2
 by_cases h : 0 < c
 ·
  have HF := Lib.hid (show y = q by rw [← HQ.out, if_pos h])
  go_wp2_with fail
  refine res_cell (g := g4) (cs := #[.int .i64 y.1, .int .i64 y.2]) rfl struct_fr rfl rfl (Blk.put2 HX4.out) ⟨by rw [HF.out], bS (bS HB1.out hq0 _) hq0 _⟩
 ·
  have HF := Lib.hid (show x = q by rw [← HQ.out, if_neg h])
  go_wp2_with fail
  refine res_cell (g := g4) (cs := #[.int .i64 x.1, .int .i64 x.2]) rfl struct_fr rfl rfl (Blk.put2 HX4.out) ⟨by rw [HF.out], bS (bS HB1.out hq0 _) hq0 _⟩

theorem FrOk.later {x y : Int × Int} (hx : FrOk x) (hy : FrOk y) : FrOk (laterF x y) := by unfold laterF; split <;> assumption
theorem FrOk.sooner {x y : Int × Int} (hx : FrOk x) (hy : FrOk y) : FrOk (soonerF x y) := by unfold soonerF; split <;> assumption
theorem FrOk.make {n d : Int} (hn : bd30 n) (hd : bd30 d) (h0 : d ≠ 0) : FrOk (mkF n d) := by
 obtain ⟨h1, -, h3, h4, h5⟩ := mkF_facts n h0
 refine ⟨?_, ?_, h1, h5⟩
 · unfold bd30 at *; omega
 · unfold bd30 at *; omega
def limV (l : RLim) : Value := .agg #[.int .i64 l.lo.1, .int .i64 l.lo.2, .int .i64 l.hi.1, .int .i64 l.hi.2, .bool l.none]
theorem struct_lim : StructOf Tryz.prog 141 5 := .mk_ Tryz.underlying141 (by kernel_rfl)
set_option maxRecDepth 100000 in
set_option maxHeartbeats 8000000 in
theorem between_spec (l : RLim) (s e f t : Int) (w : World) (hl : FrOk l.lo) (hh : FrOk l.hi) (bs : -1048576 ≤ s ∧ s ≤ 1048576) (be : -1048576 ≤ e ∧ e ≤ 1048576) (bf : -4194304 ≤ f ∧ f ≤ 4194304) (bt : -4194304 ≤ t ∧ t ≤ 4194304) :
  Calls Tryz.prog 104 #[limV l, .int .i64 s, .int .i64 e, .int .i64 f, .int .i64 t] w fun e' w' => e' = .returned (limV (betweenS l s e f t)) ∧ Below w.heap.size w w' := by
 have m1 : max f (-4194304) = f := by omega
 have m2 : min f 4194304 = f := by omega
 have m3 : max t (-4194304) = t := by omega
 have m4 : min t 4194304 = t := by omega
 obtain ⟨q, hq⟩ : ∃ q, betweenS l s e f t = q := ⟨_, rfl⟩
 rw [hq]
 unfold betweenS at hq
 have HQ := Lib.hid hq
 clear hq
 obtain ⟨g5, hg5⟩ : ∃ g, w.heap.size = g := ⟨_, rfl⟩
 obtain ⟨g10, hg10⟩ : ∃ g, g5 + 1 = g := ⟨_, rfl⟩
 unfold limV
 obtain ⟨nn, hnn⟩ : ∃ nn, l.none = nn := ⟨_, rfl⟩
 rw [hnn] at HQ ⊢
 clear hnn
 obtain ⟨W, hW⟩ : ∃ W : World, W = (w.alloc (.cells #[.int .i64 l.lo.1, .int .i64 l.lo.2, .int .i64 l.hi.1, .int .i64 l.hi.2, .bool nn] 141)).alloc (.cells #[.int .i64 0, .int .i64 0, .int .i64 0, .int .i64 0, .bool false] 141) := ⟨_, rfl⟩
 have HBw := Lib.hid (show Below w.heap.size w W by rw [hW]; exact bA (bA (bR w) _) _)
 have X5 : Blk W g5 141 #[.int .i64 l.lo.1, .int .i64 l.lo.2, .int .i64 l.hi.1, .int .i64 l.hi.2, .bool nn] := by rw [hW]; exact (Blk.made hg5.symm _ _).alloc _
 have X10 : Blk W g10 141 #[.int .i64 0, .int .i64 0, .int .i64 0, .int .i64 0, .bool false] := by rw [hW]; exact Blk.made (by simp; omega) _ _
 have hq0 : w.heap.size ≤ g5 := by omega
 have hq1 : w.heap.size ≤ g10 := by omega
 have n510 : g5 ≠ g10 := by omega
 have HX5 := Lib.hid X5; have HX10 := Lib.hid X10
 go_enter Tryz.func104, Tryz.ntmps104
 go_upto_region 1 with fail
 try rw [← hW]
 clear hW hg5 hg10
 by_cases hse : s = e
 ·
  have hse' : (s == e) = true := by simpa using hse
  obtain ⟨z, hz⟩ : ∃ z, (nn || (decide (s < f) || decide (t < s))) = z := ⟨_, rfl⟩
  have HF := Lib.hid (show q = ⟨l.lo, l.hi, z⟩ by rw [← HQ.out, if_pos hse, hz])
  have HZ := Lib.hid hz
  have hfin : Blk (((((W.setCell ⟨g5, 4, none⟩ (.bool z)).setCell ⟨g10, 0, none⟩ (.int .i64 l.lo.1)).setCell ⟨g10, 1, none⟩ (.int .i64 l.lo.2)).setCell ⟨g10, 2, none⟩ (.int .i64 l.hi.1)).setCell ⟨g10, 3, none⟩ (.int .i64 l.hi.2) |>.setCell ⟨g10, 4, none⟩ (.bool z)) g10 141 #[.int .i64 l.lo.1, .int .i64 l.lo.2, .int .i64 l.hi.1, .int .i64 l.hi.2, .bool z] := Blk.put5 (X10.far (by first | omega | (simp; done) | (simp; omega)) _)
  have HFin := Lib.hid hfin
  have HBf := Lib.hid (bS (bS (bS (bS (bS (bS HBw.out hq0 (p := ⟨g5, 4, none⟩) (.bool z)) hq1 (p := ⟨g10, 0, none⟩) (.int .i64 l.lo.1)) hq1 (p := ⟨g10, 1, none⟩) (.int .i64 l.lo.2)) hq1 (p := ⟨g10, 2, none⟩) (.int .i64 l.hi.1)) hq1 (p := ⟨g10, 3, none⟩) (.int .i64 l.hi.2)) hq1 (p := ⟨g10, 4, none⟩) (.bool z))
  clear hse hz HQ hfin
  obtain ⟨X5l, X5a, X5b, X5c, X5d, X5e, X5fa, X5fb, X5fc, X5fd, X5fe⟩ := X5.facts5
  obtain ⟨X10l, X10a, X10b, X10c, X10d, X10e, X10fa, X10fb, X10fc, X10fd, X10fe⟩ := X10.facts5
  by_cases h1 : s < f
  ·
   obtain rfl : z = true := by rw [← HZ.out, decide_eq_true h1]; simp
   cases nn
   all_goals
    go_wp2_with fail
    refine res_cell (g := g10) (cs := #[.int .i64 l.lo.1, .int .i64 l.lo.2, .int .i64 l.hi.1, .int .i64 l.hi.2, .bool true]) rfl struct_lim rfl rfl HFin.out ⟨by rw [HF.out], HBf.out⟩
  ·
   by_cases h2 : t < s
   ·
    obtain rfl : z = true := by rw [← HZ.out, decide_eq_true h2]; simp
    cases nn
    all_goals
     go_wp2_with fail
     refine res_cell (g := g10) (cs := #[.int .i64 l.lo.1, .int .i64 l.lo.2, .int .i64 l.hi.1, .int .i64 l.hi.2, .bool true]) rfl struct_lim rfl rfl HFin.out ⟨by rw [HF.out], HBf.out⟩
   ·
    cases nn
    ·
     obtain rfl : z = false := by rw [← HZ.out, decide_eq_false h1, decide_eq_false h2]; rfl
     go_wp2_with fail
     refine res_cell (g := g10) (cs := #[.int .i64 l.lo.1, .int .i64 l.lo.2, .int .i64 l.hi.1, .int .i64 l.hi.2, .bool false]) rfl struct_lim rfl rfl HFin.out ⟨by rw [HF.out], HBf.out⟩
    ·
     obtain rfl : z = true := by rw [← HZ.out]; rfl
     go_wp2_with fail
     refine res_cell (g := g10) (cs := #[.int .i64 l.lo.1, .int .i64 l.lo.2, .int .i64 l.hi.1, .int .i64 l.hi.2, .bool true]) rfl struct_lim rfl rfl HFin.out ⟨by rw [HF.out], HBf.out⟩
 ·
  have hse' : (s == e) = false := by simpa using hse
  have hq := HQ.out
  rw [if_neg hse] at hq
  have w1 : IntKind.i64.wrap (f - s) = f - s := IntWalk.i64_in _ (by omega)
  have w2 : IntKind.i64.wrap (t - s) = t - s := IntWalk.i64_in _ (by omega)
  have w3 : IntKind.i64.wrap (e - s) = e - s := IntWalk.i64_in _ (by omega)
  have hM1 := fun W => FrMake_spec (f - s) (e - s) W (by unfold bd30; omega) (by unfold bd30; omega) (by omega)
  have hM2 := fun W => FrMake_spec (t - s) (e - s) W (by unfold bd30; omega) (by unfold bd30; omega) (by omega)
  have o1 : FrOk (mkF (f - s) (e - s)) := FrOk.make (by unfold bd30; omega) (by unfold bd30; omega) (by omega)
  have o2 : FrOk (mkF (t - s) (e - s)) := FrOk.make (by unfold bd30; omega) (by unfold bd30; omega) (by omega)
  generalize mkF (f - s) (e - s) = x1 at *
  generalize mkF (t - s) (e - s) = x2 at *
  have hC1 := fun W => soonerF_spec x1 x2 W o1 o2
  have hC2 := fun W => laterF_spec l.lo (soonerF x1 x2) W hl (o1.sooner o2)
  have hC3 := fun W => laterF_spec x1 x2 W o1 o2
  have hC4 := fun W => soonerF_spec l.hi (laterF x1 x2) W hh (o1.later o2)
  unfold frV at hM1 hM2 hC1 hC2 hC3 hC4
  generalize soonerF x1 x2 = y1 at *
  generalize laterF l.lo y1 = lo at *
  generalize laterF x1 x2 = y2 at *
  generalize soonerF l.hi y2 = hi at *
  have HM1 := Lib.hid hM1; have HM2 := Lib.hid hM2; have HC1 := Lib.hid hC1; have HC2 := Lib.hid hC2; have HC3 := Lib.hid hC3; have HC4 := Lib.hid hC4
  have HF := Lib.hid hq
  clear hM1 hM2 hC1 hC2 hC3 hC4 o1 o2 hq hse HQ hl hh bs be bf bt X5 X10
  go_wp2_with fail
  refine (HM1.out _).mono ?_
  rintro e' w4 ⟨rfl, hb4⟩
  have HB4 := Lib.hid (bT HBw.out hb4); have HX54 := Lib.hid (HX5.out.keep hb4); have HX104 := Lib.hid (HX10.out.keep hb4)
  have hz4 := hb4.size
  clear hb4 HBw HX5 HX10
  go_wp2_with fail
  refine (HM2.out _).mono ?_
  rintro e' w5 ⟨rfl, hb5⟩
  have Y11 : Blk w5 w4.heap.size 139 #[.int .i64 x1.1, .int .i64 x1.2] := (Blk.made rfl _ _).keep hb5
  have HB5 := Lib.hid (bT (bA HB4.out _) hb5); have HX55 := Lib.hid ((HX54.out.alloc _).keep hb5); have HX105 := Lib.hid ((HX104.out.alloc _).keep hb5)
  have l5 := HX54.out.lt; have l10 := HX104.out.lt
  clear hb5 HB4 HX54 HX104
  obtain ⟨g11, hg11⟩ : ∃ g11, w4.heap.size = g11 := ⟨_, rfl⟩
  rw [hg11] at Y11 l5 l10
  try simp only [hg11]
  clear hg11 hz4
  go_upto_region 7 with fail
  obtain ⟨W7, hW7⟩ : ∃ W7 : World, W7 = w5.alloc (.cells #[.int .i64 x2.1, .int .i64 x2.2] 139) := ⟨_, rfl⟩
  have hA : Below w5.heap.size w5 W7 := by rw [hW7]; exact bA (bR _) _
  have Y13 : Blk W7 w5.heap.size 139 #[.int .i64 x2.1, .int .i64 x2.2] := by rw [hW7]; exact Blk.made rfl _ _
  rw [← hW7]
  clear hW7
  have lt11 := Y11.lt
  replace Y11 := Y11.keep hA
  have HB7 := Lib.hid (bT HB5.out hA)
  have X5 := HX55.out.keep hA; have X10 := HX105.out.keep hA
  obtain ⟨g13, hg13⟩ : ∃ g13, w5.heap.size = g13 := ⟨_, rfl⟩
  rw [hg13] at Y13 lt11
  try simp only [hg13]
  clear hA HB5 HX55 HX105 hg13
  have n1 : g11 ≠ g5 := by omega
  have n2 : g13 ≠ g5 := by omega
  have n3 : g10 ≠ g5 := fun e => n510 e.symm
  obtain ⟨Y11l, Y11a, Y11b, -, -⟩ := Y11.facts2
  obtain ⟨Y13l, Y13a, Y13b, -, -⟩ := Y13.facts2
  have HX10 := Lib.hid X10
  go_cut [] (fun wx => Blk wx g5 141 #[.int .i64 lo.1, .int .i64 lo.2, .int .i64 hi.1, .int .i64 hi.2, .bool nn] ∧ Blk wx g10 141 #[.int .i64 0, .int .i64 0, .int .i64 0, .int .i64 0, .bool false] ∧ Below w.heap.size w wx)
  case first =>
   refine rt_start (SinceX W7 (some g5)) (.take 0 1 (.take 2 5 (.take 3 13 (.take 6 77 (.take 8 333 (.take 9 845 (.three 1 847 (.two 4 863 (.two 5 895 (.two 7 1023 (.take 12 5119 (.call 10 6143 (.call 11 8191 (.call 13 16383 (.take 14 32767 (.call 15 65535 (.done))))))) 10 1919 (.call 7 2047 (.take 12 6143 (.call 11 8191 (.call 13 16383 (.take 14 32767 (.call 15 65535 (.done)))))))) 7 991 (.call 5 1023 (.take 12 5119 (.call 10 6143 (.call 11 8191 (.call 13 16383 (.take 14 32767 (.call 15 65535 (.done))))))))) 7 975 (.call 4 991 (.call 5 1023 (.take 12 5119 (.call 10 6143 (.call 11 8191 (.call 13 16383 (.take 14 32767 (.call 15 65535 (.done)))))))))) 4 861 (.two 1 863 (.two 5 895 (.two 7 1023 (.take 12 5119 (.call 10 6143 (.call 11 8191 (.call 13 16383 (.take 14 32767 (.call 15 65535 (.done))))))) 10 1919 (.call 7 2047 (.take 12 6143 (.call 11 8191 (.call 13 16383 (.take 14 32767 (.call 15 65535 (.done)))))))) 7 991 (.call 5 1023 (.take 12 5119 (.call 10 6143 (.call 11 8191 (.call 13 16383 (.take 14 32767 (.call 15 65535 (.done))))))))) 7 989 (.call 1 991 (.call 5 1023 (.take 12 5119 (.call 10 6143 (.call 11 8191 (.call 13 16383 (.take 14 32767 (.call 15 65535 (.done)))))))))) 7 973 (.two 1 975 (.call 4 991 (.call 5 1023 (.take 12 5119 (.call 10 6143 (.call 11 8191 (.call 13 16383 (.take 14 32767 (.call 15 65535 (.done))))))))) 4 989 (.call 1 991 (.call 5 1023 (.take 12 5119 (.call 10 6143 (.call 11 8191 (.call 13 16383 (.take 14 32767 (.call 15 65535 (.done))))))))))))))))) (by kernel_rfl) (gD (gR _ _)) (by kernel_rfl) (by kernel_rfl) (Nat.le_of_ble_eq_true (by kernel_rfl)) ?_
   intro opsR QR Hops HQrg hS
   replace X5 := X5.drew
   iterate 6
    apply rt_pX; exact Hops; exact rfl; exact hS; exact rfl
    · intro _ hqc; go_simp; try rfl
    try simp only [pu]
   refine rt_three (i := 1) (j := 4) (k := 7) (get_of Hops rfl) (get_of Hops rfl) (get_of Hops rfl) (fun K hK => ?_) (fun K hK => ?_) (fun K hK => ?_)
   -- operation 1 first
   ·
    have HSrg := Lib.hid hS; clear hS
    refine rg_run (wanted_plain rfl) ?_
    obtain ⟨X5l, X5a, X5b, X5c, X5d, X5e, X5fa, X5fb, X5fc, X5fd, X5fe⟩ := X5.facts5
    go_simp
    refine hK.out _ _ HSrg.out (fun hS => ?_)
    clear hK K HSrg
    try simp only [pu]
    refine rt_two (i := 4) (j := 7) (get_of Hops rfl) (get_of Hops rfl) (fun K hK => ?_) (fun K hK => ?_)
    -- operation 4 first
    ·
     have HSrg := Lib.hid hS; clear hS
     refine rg_run (wanted_plain rfl) ?_
     go_simp
     refine (HC1.out _).mono ?_
     rintro e wr1 ⟨rfl, hbr1⟩
     have hS : SinceX W7 (some g5) wr1 := gB (w0 := W7) HSrg.out hbr1
     clear HSrg
     try replace X5 := X5.keep hbr1
     refine hK.out _ _ hS (fun _ => ?_)
     clear hK K
     try simp only [pu]
     refine rt_two (i := 5) (j := 7) (get_of Hops rfl) (get_of Hops rfl) (fun K hK => ?_) (fun K hK => ?_)
     -- operation 5 first
     ·
      have HSrg := Lib.hid hS; clear hS
      refine rg_run (wanted_plain rfl) ?_
      go_simp
      refine (HC2.out _).mono ?_
      rintro e wr2 ⟨rfl, hbr2⟩
      have hS : SinceX W7 (some g5) wr2 := gB (w0 := W7) HSrg.out hbr2
      clear HSrg
      try replace X5 := X5.keep hbr2
      refine hK.out _ _ hS (fun _ => ?_)
      clear hK K
      try simp only [pu]
      refine rt_two (i := 7) (j := 10) (get_of Hops rfl) (get_of Hops rfl) (fun K hK => ?_) (fun K hK => ?_)
      -- operation 7 first
      ·
       have HSrg := Lib.hid hS; clear hS
       refine rg_run (wanted_plain rfl) ?_
       obtain ⟨X5l, X5a, X5b, X5c, X5d, X5e, X5fa, X5fb, X5fc, X5fd, X5fe⟩ := X5.facts5
       go_simp
       refine hK.out _ _ HSrg.out (fun hS => ?_)
       clear hK K HSrg
       try simp only [pu]
       apply rt_pX; exact Hops; exact rfl; exact hS; exact rfl
       · intro _ hqc; go_simp; try rfl
       try simp only [pu]
       refine rt_call (i := 10) (get_of Hops rfl) (fun K hK => ?_)
       have HSrg := Lib.hid hS; clear hS
       refine rg_run (wanted_plain rfl) ?_
       go_simp
       refine (HC3.out _).mono ?_
       rintro e wr3 ⟨rfl, hbr3⟩
       have hS : SinceX W7 (some g5) wr3 := gB (w0 := W7) HSrg.out hbr3
       clear HSrg
       try replace X5 := X5.keep hbr3
       refine hK.out _ _ hS (fun _ => ?_)
       clear hK K
       try simp only [pu]
       refine rt_call (i := 11) (get_of Hops rfl) (fun K hK => ?_)
       have HSrg := Lib.hid hS; clear hS
       refine rg_run (wanted_plain rfl) ?_
       go_simp
       refine (HC4.out _).mono ?_
       rintro e wr4 ⟨rfl, hbr4⟩
       have hS : SinceX W7 (some g5) wr4 := gB (w0 := W7) HSrg.out hbr4
       clear HSrg
       try replace X5 := X5.keep hbr4
       refine hK.out _ _ hS (fun _ => ?_)
       clear hK K
       try simp only [pu]
       refine rt_call (i := 13) (get_of Hops rfl) (fun K hK => ?_)
       have HSrg := Lib.hid hS; clear hS
       refine rg_run (wanted_plain rfl) ?_
       obtain ⟨X5l, X5a, X5b, X5c, X5d, X5e, X5fa, X5fb, X5fc, X5fd, X5fe⟩ := X5.facts5
       go_simp
       refine hK.out _ _ (by first | exact gS HSrg.out _ _ | (unfold SinceX; have hS9 : World.grownBy _ _ _ := HSrg.out; repeat (first | with_reducible assumption | with_reducible refine gS ?_ _ _ | with_reducible refine gD ?_ | with_reducible refine gA ?_ _))) (fun hS => ?_)
       clear hK K HSrg
       try simp only [pu]
       apply rt_pX; exact Hops; exact rfl; exact hS; exact rfl
       · intro _ hqc; go_simp; try rfl
       try simp only [pu]
       refine rt_call (i := 15) (get_of Hops rfl) (fun K hK => ?_)
       have HSrg := Lib.hid hS; clear hS
       refine rg_run (wanted_plain rfl) ?_
       go_simp
       refine hK.out _ _ (by first | exact gS HSrg.out _ _ | (unfold SinceX; have hS9 : World.grownBy _ _ _ := HSrg.out; repeat (first | with_reducible assumption | with_reducible refine gS ?_ _ _ | with_reducible refine gD ?_ | with_reducible refine gA ?_ _))) (fun hS => ?_)
       clear hK K HSrg
       try simp only [pu]
       refine rt_done ?_
       refine HQrg.down _ _ ?_
       have hB : W7.grownBy _ (some g5) := hS
       clear hS HQrg Hops
       go_wp2_with fail
       go_meet
       case rel => exact ⟨by have h := (((X5.set_ 0 (.int .i64 lo.1)).set_ 1 (.int .i64 lo.2)).set_ 2 (.int .i64 hi.1)).set_ 3 (.int .i64 hi.2); simpa using h, HX10.out.grow hB (fun e => n3 (Option.some.inj e)), bG HB7.out hB (fun k hk => by have := Option.some.inj hk; omega)⟩
      -- operation 10 first
      ·
       have HSrg := Lib.hid hS; clear hS
       refine rg_run (wanted_plain rfl) ?_
       go_simp
       refine (HC3.out _).mono ?_
       rintro e wr3 ⟨rfl, hbr3⟩
       have hS : SinceX W7 (some g5) wr3 := gB (w0 := W7) HSrg.out hbr3
       clear HSrg
       try replace X5 := X5.keep hbr3
       refine hK.out _ _ hS (fun _ => ?_)
       clear hK K
       try simp only [pu]
       refine rt_call (i := 7) (get_of Hops rfl) (fun K hK => ?_)
       have HSrg := Lib.hid hS; clear hS
       refine rg_run (wanted_plain rfl) ?_
       obtain ⟨X5l, X5a, X5b, X5c, X5d, X5e, X5fa, X5fb, X5fc, X5fd, X5fe⟩ := X5.facts5
       go_simp
       refine hK.out _ _ HSrg.out (fun hS => ?_)
       clear hK K HSrg
       try simp only [pu]
       apply rt_pX; exact Hops; exact rfl; exact hS; exact rfl
       · intro _ hqc; go_simp; try rfl
       try simp only [pu]
       refine rt_call (i := 11) (get_of Hops rfl) (fun K hK => ?_)
       have HSrg := Lib.hid hS; clear hS
       refine rg_run (wanted_plain rfl) ?_
       go_simp
       refine (HC4.out _).mono ?_
       rintro e wr4 ⟨rfl, hbr4⟩
       have hS : SinceX W7 (some g5) wr4 := gB (w0 := W7) HSrg.out hbr4
       clear HSrg
       try replace X5 := X5.keep hbr4
       refine hK.out _ _ hS (fun _ => ?_)
       clear hK K
       try simp only [pu]
       refine rt_call (i := 13) (get_of Hops rfl) (fun K hK => ?_)
       have HSrg := Lib.hid hS; clear hS
       refine rg_run (wanted_plain rfl) ?_
       obtain ⟨X5l, X5a, X5b, X5c, X5d, X5e, X5fa, X5fb, X5fc, X5fd, X5fe⟩ := X5.facts5
       go_simp
       refine hK.out _ _ (by first | exact gS HSrg.out _ _ | (unfold SinceX; have hS9 : World.grownBy _ _ _ := HSrg.out; repeat (first | with_reducible assumption | with_reducible refine gS ?_ _ _ | with_reducible refine gD ?_ | with_reducible refine gA ?_ _))) (fun hS => ?_)
       clear hK K HSrg
       try simp only [pu]
       apply rt_pX; exact Hops; exact rfl; exact hS; exact rfl
       · intro _ hqc; go_simp; try rfl
       try simp only [pu]
       refine rt_call (i := 15) (get_of Hops rfl) (fun K hK => ?_)
       have HSrg := Lib.hid hS; clear hS
       refine rg_run (wanted_plain rfl) ?_
       go_simp
       refine hK.out _ _ (by first | exact gS HSrg.out _ _ | (unfold SinceX; have hS9 : World.grownBy _ _ _ := HSrg.out; repeat (first | with_reducible assumption | with_reducible refine gS ?_ _ _ | with_reducible refine gD ?_ | with_reducible refine gA ?_ _))) (fun hS => ?_)
       clear hK K HSrg
       try simp only [pu]
       refine rt_done ?_
       refine HQrg.down _ _ ?_
       have hB : W7.grownBy _ (some g5) := hS
       clear hS HQrg Hops
       go_wp2_with fail
       go_meet
       case rel => exact ⟨by have h := (((X5.set_ 0 (.int .i64 lo.1)).set_ 1 (.int .i64 lo.2)).set_ 2 (.int .i64 hi.1)).set_ 3 (.int .i64 hi.2); simpa using h, HX10.out.grow hB (fun e => n3 (Option.some.inj e)), bG HB7.out hB (fun k hk => by have := Option.some.inj hk; omega)⟩
     -- operation 7 first
     ·
      have HSrg := Lib.hid hS; clear hS
      refine rg_run (wanted_plain rfl) ?_
      obtain ⟨X5l, X5a, X5b, X5c, X5d, X5e, X5fa, X5fb, X5fc, X5fd, X5fe⟩ := X5.facts5
      go_simp
      refine hK.out _ _ HSrg.out (fun hS => ?_)
      clear hK K HSrg
      try simp only [pu]
      refine rt_call (i := 5) (get_of Hops rfl) (fun K hK => ?_)
      have HSrg := Lib.hid hS; clear hS
      refine rg_run (wanted_plain rfl) ?_
      go_simp
      refine (HC2.out _).mono ?_
      rintro e wr2 ⟨rfl, hbr2⟩
      have hS : SinceX W7 (some g5) wr2 := gB (w0 := W7) HSrg.out hbr2
      clear HSrg
      try replace X5 := X5.keep hbr2
      refine hK.out _ _ hS (fun _ => ?_)
      clear hK K
      try simp only [pu]
      apply rt_pX; exact Hops; exact rfl; exact hS; exact rfl
      · intro _ hqc; go_simp; try rfl
      try simp only [pu]
      refine rt_call (i := 10) (get_of Hops rfl) (fun K hK => ?_)
      have HSrg := Lib.hid hS; clear hS
      refine rg_run (wanted_plain rfl) ?_
      go_simp
      refine (HC3.out _).mono ?_
      rintro e wr3 ⟨rfl, hbr3⟩
      have hS : SinceX W7 (some g5) wr3 := gB (w0 := W7) HSrg.out hbr3
      clear HSrg
      try replace X5 := X5.keep hbr3
      refine hK.out _ _ hS (fun _ => ?_)
      clear hK K
      try simp only [pu]
      refine rt_call (i := 11) (get_of Hops rfl) (fun K hK => ?_)
      have HSrg := Lib.hid hS; clear hS
      refine rg_run (wanted_plain rfl) ?_
      go_simp
      refine (HC4.out _).mono ?_
      rintro e wr4 ⟨rfl, hbr4⟩
      have hS : SinceX W7 (some g5) wr4 := gB (w0 := W7) HSrg.out hbr4
      clear HSrg
      try replace X5 := X5.keep hbr4
      refine hK.out _ _ hS (fun _ => ?_)
      clear hK K
      try simp only [pu]
      refine rt_call (i := 13) (get_of Hops rfl) (fun K hK => ?_)
      have HSrg := Lib.hid hS; clear hS
      refine rg_run (wanted_plain rfl) ?_
      obtain ⟨X5l, X5a, X5b, X5c, X5d, X5e, X5fa, X5fb, X5fc, X5fd, X5fe⟩ := X5.facts5
      go_simp
      refine hK.out _ _ (by first | exact gS HSrg.out _ _ | (unfold SinceX; have hS9 : World.grownBy _ _ _ := HSrg.out; repeat (first | with_reducible assumption | with_reducible refine gS ?_ _ _ | with_reducible refine gD ?_ | with_reducible refine gA ?_ _))) (fun hS => ?_)
      clear hK K HSrg
      try simp only [pu]
      apply rt_pX; exact Hops; exact rfl; exact hS; exact rfl
      · intro _ hqc; go_simp; try rfl
      try simp only [pu]
      refine rt_call (i := 15) (get_of Hops rfl) (fun K hK => ?_)
      have HSrg := Lib.hid hS; clear hS
      refine rg_run (wanted_plain rfl) ?_
      go_simp
      refine hK.out _ _ (by first | exact gS HSrg.out _ _ | (unfold SinceX; have hS9 : World.grownBy _ _ _ := HSrg.out; repeat (first | with_reducible assumption | with_reducible refine gS ?_ _ _ | with_reducible refine gD ?_ | with_reducible refine gA ?_ _))) (fun hS => ?_)
      clear hK K HSrg
      try simp only [pu]
      refine rt_done ?_
      refine HQrg.down _ _ ?_
      have hB : W7.grownBy _ (some g5) := hS
      clear hS HQrg Hops
      go_wp2_with fail
      go_meet
      case rel => exact ⟨by have h := (((X5.set_ 0 (.int .i64 lo.1)).set_ 1 (.int .i64 lo.2)).set_ 2 (.int .i64 hi.1)).set_ 3 (.int .i64 hi.2); simpa using h, HX10.out.grow hB (fun e => n3 (Option.some.inj e)), bG HB7.out hB (fun k hk => by have := Option.some.inj hk; omega)⟩
    -- operation 7 first
    ·
     have HSrg := Lib.hid hS; clear hS
     refine rg_run (wanted_plain rfl) ?_
     obtain ⟨X5l, X5a, X5b, X5c, X5d, X5e, X5fa, X5fb, X5fc, X5fd, X5fe⟩ := X5.facts5
     go_simp
     refine hK.out _ _ HSrg.out (fun hS => ?_)
     clear hK K HSrg
     try simp only [pu]
     refine rt_call (i := 4) (get_of Hops rfl) (fun K hK => ?_)
     have HSrg := Lib.hid hS; clear hS
     refine rg_run (wanted_plain rfl) ?_
     go_simp
     refine (HC1.out _).mono ?_
     rintro e wr1 ⟨rfl, hbr1⟩
     have hS : SinceX W7 (some g5) wr1 := gB (w0 := W7) HSrg.out hbr1
     clear HSrg
     try replace X5 := X5.keep hbr1
     refine hK.out _ _ hS (fun _ => ?_)
     clear hK K
     try simp only [pu]
     refine rt_call (i := 5) (get_of Hops rfl) (fun K hK => ?_)
     have HSrg := Lib.hid hS; clear hS
     refine rg_run (wanted_plain rfl) ?_
     go_simp
     refine (HC2.out _).mono ?_
     rintro e wr2 ⟨rfl, hbr2⟩
     have hS : SinceX W7 (some g5) wr2 := gB (w0 := W7) HSrg.out hbr2
     clear HSrg
     try replace X5 := X5.keep hbr2
     refine hK.out _ _ hS (fun _ => ?_)
     clear hK K
     try simp only [pu]
     apply rt_pX; exact Hops; exact rfl; exact hS; exact rfl
     · intro _ hqc; go_simp; try rfl
     try simp only [pu]
     refine rt_call (i := 10) (get_of Hops rfl) (fun K hK => ?_)
     have HSrg := Lib.hid hS; clear hS
     refine rg_run (wanted_plain rfl) ?_
     go_simp
     refine (HC3.out _).mono ?_
     rintro e wr3 ⟨rfl, hbr3⟩
     have hS : SinceX W7 (some g5) wr3 := gB (w0 := W7) HSrg.out hbr3
     clear HSrg
     try replace X5 := X5.keep hbr3
     refine hK.out _ _ hS (fun _ => ?_)
     clear hK K
     try simp only [pu]
     refine rt_call (i := 11) (get_of Hops rfl) (fun K hK => ?_)
     have HSrg := Lib.hid hS; clear hS
     refine rg_run (wanted_plain rfl) ?_
     go_simp
     refine (HC4.out _).mono ?_
     rintro e wr4 ⟨rfl, hbr4⟩
     have hS : SinceX W7 (some g5) wr4 := gB (w0 := W7) HSrg.out hbr4
     clear HSrg
     try replace X5 := X5.keep hbr4
     refine hK.out _ _ hS (fun _ => ?_)
     clear hK K
     try simp only [pu]
     refine rt_call (i := 13) (get_of Hops rfl) (fun K hK => ?_)
     have HSrg := Lib.hid hS; clear hS
     refine rg_run (wanted_plain rfl) ?_
     obtain ⟨X5l, X5a, X5b, X5c, X5d, X5e, X5fa, X5fb, X5fc, X5fd, X5fe⟩ := X5.facts5
     go_simp
     refine hK.out _ _ (by first | exact gS HSrg.out _ _ | (unfold SinceX; have hS9 : World.grownBy _ _ _ := HSrg.out; repeat (first | with_reducible assumption | with_reducible refine gS ?_ _ _ | with_reducible refine gD ?_ | with_reducible refine gA ?_ _))) (fun hS => ?_)
     clear hK K HSrg
     try simp only [pu]
     apply rt_pX; exact Hops; exact rfl; exact hS; exact rfl
     · intro _ hqc; go_simp; try rfl
     try simp only [pu]
     refine rt_call (i := 15) (get_of Hops rfl) (fun K hK => ?_)
     have HSrg := Lib.hid hS; clear hS
     refine rg_run (wanted_plain rfl) ?_
     go_simp
     refine hK.out _ _ (by first | exact gS HSrg.out _ _ | (unfold SinceX; have hS9 : World.grownBy _ _ _ := HSrg.out; repeat (first | with_reducible assumption | with_reducible refine gS ?_ _ _ | with_reducible refine gD ?_ | with_reducible refine gA ?_ _))) (fun hS => ?_)
     clear hK K HSrg
     try simp only [pu]
     refine rt_done ?_
     refine HQrg.down _ _ ?_
     have hB : W7.grownBy _ (some g5) := hS
     clear hS HQrg Hops
     go_wp2_with fail
     go_meet
     case rel => exact ⟨by have h := (((X5.set_ 0 (.int .i64 lo.1)).set_ 1 (.int .i64 lo.2)).set_ 2 (.int .i64 hi.1)).set_ 3 (.int .i64 hi.2); simpa using h, HX10.out.grow hB (fun e => n3 (Option.some.inj e)), bG HB7.out hB (fun k hk => by have := Option.some.inj hk; omega)⟩
   -- operation 4 first
   ·
    have HSrg := Lib.hid hS; clear hS
    refine rg_run (wanted_plain rfl) ?_
    go_simp
    refine (HC1.out _).mono ?_
    rintro e wr1 ⟨rfl, hbr1⟩
    have hS : SinceX W7 (some g5) wr1 := gB (w0 := W7) HSrg.out hbr1
    clear HSrg
    try replace X5 := X5.keep hbr1
    refine hK.out _ _ hS (fun _ => ?_)
    clear hK K
    try simp only [pu]
    refine rt_two (i := 1) (j := 7) (get_of Hops rfl) (get_of Hops rfl) (fun K hK => ?_) (fun K hK => ?_)
    -- operation 1 first
    ·
     have HSrg := Lib.hid hS; clear hS
     refine rg_run (wanted_plain rfl) ?_
     obtain ⟨X5l, X5a, X5b, X5c, X5d, X5e, X5fa, X5fb, X5fc, X5fd, X5fe⟩ := X5.facts5
     go_simp
     refine hK.out _ _ HSrg.out (fun hS => ?_)
     clear hK K HSrg
     try simp only [pu]
     refine rt_two (i := 5) (j := 7) (get_of Hops rfl) (get_of Hops rfl) (fun K hK => ?_) (fun K hK => ?_)
     -- operation 5 first
     ·
      have HSrg := Lib.hid hS; clear hS
      refine rg_run (wanted_plain rfl) ?_
      go_simp
      refine (HC2.out _).mono ?_
      rintro e wr2 ⟨rfl, hbr2⟩
      have hS : SinceX W7 (some g5) wr2 := gB (w0 := W7) HSrg.out hbr2
      clear HSrg
      try replace X5 := X5.keep hbr2
      refine hK.out _ _ hS (fun _ => ?_)
      clear hK K
      try simp only [pu]
      refine rt_two (i := 7) (j := 10) (get_of Hops rfl) (get_of Hops rfl) (fun K hK => ?_) (fun K hK => ?_)
      -- operation 7 first
      ·
       have HSrg := Lib.hid hS; clear hS
       refine rg_run (wanted_plain rfl) ?_
       obtain ⟨X5l, X5a, X5b, X5c, X5d, X5e, X5fa, X5fb, X5fc, X5fd, X5fe⟩ := X5.facts5
       go_simp
       refine hK.out _ _ HSrg.out (fun hS => ?_)
       clear hK K HSrg
       try simp only [pu]
       apply rt_pX; exact Hops; exact rfl; exact hS; exact rfl
       · intro _ hqc; go_simp; try rfl
       try simp only [pu]
       refine rt_call (i := 10) (get_of Hops rfl) (fun K hK => ?_)
       have HSrg := Lib.hid hS; clear hS
       refine rg_run (wanted_plain rfl) ?_
       go_simp
       refine (HC3.out _).mono ?_
       rintro e wr3 ⟨rfl, hbr3⟩
       have hS : SinceX W7 (some g5) wr3 := gB (w0 := W7) HSrg.out hbr3
       clear HSrg
       try replace X5 := X5.keep hbr3
       refine hK.out _ _ hS (fun _ => ?_)
       clear hK K
       try simp only [pu]
       refine rt_call (i := 11) (get_of Hops rfl) (fun K hK => ?_)
       have HSrg := Lib.hid hS; clear hS
       refine rg_run (wanted_plain rfl) ?_
       go_simp
       refine (HC4.out _).mono ?_
       rintro e wr4 ⟨rfl, hbr4⟩
       have hS : SinceX W7 (some g5) wr4 := gB (w0 := W7) HSrg.out hbr4
       clear HSrg
       try replace X5 := X5.keep hbr4
       refine hK.out _ _ hS (fun _ => ?_)
       clear hK K
       try simp only [pu]
       refine rt_call (i := 13) (get_of Hops rfl) (fun K hK => ?_)
       have HSrg := Lib.hid hS; clear hS
       refine rg_run (wanted_plain rfl) ?_
       obtain ⟨X5l, X5a, X5b, X5c, X5d, X5e, X5fa, X5fb, X5fc, X5fd, X5fe⟩ := X5.facts5
       go_simp
       refine hK.out _ _ (by first | exact gS HSrg.out _ _ | (unfold SinceX; have hS9 : World.grownBy _ _ _ := HSrg.out; repeat (first | with_reducible assumption | with_reducible refine gS ?_ _ _ | with_reducible refine gD ?_ | with_reducible refine gA ?_ _))) (fun hS => ?_)
       clear hK K HSrg
       try simp only [pu]
       apply rt_pX; exact Hops; exact rfl; exact hS; exact rfl
       · intro _ hqc; go_simp; try rfl
       try simp only [pu]
       refine rt_call (i := 15) (get_of Hops rfl) (fun K hK => ?_)
       have HSrg := Lib.hid hS; clear hS
       refine rg_run (wanted_plain rfl) ?_
       go_simp
       refine hK.out _ _ (by first | exact gS HSrg.out _ _ | (unfold SinceX; have hS9 : World.grownBy _ _ _ := HSrg.out; repeat (first | with_reducible assumption | with_reducible refine gS ?_ _ _ | with_reducible refine gD ?_ | with_reducible refine gA ?_ _))) (fun hS => ?_)
       clear hK K HSrg
       try simp only [pu]
       refine rt_done ?_
       refine HQrg.down _ _ ?_
       have hB : W7.grownBy _ (some g5) := hS
       clear hS HQrg Hops
       go_wp2_with fail
       go_meet
       case rel => exact ⟨by have h := (((X5.set_ 0 (.int .i64 lo.1)).set_ 1 (.int .i64 lo.2)).set_ 2 (.int .i64 hi.1)).set_ 3 (.int .i64 hi.2); simpa using h, HX10.out.grow hB (fun e => n3 (Option.some.inj e)), bG HB7.out hB (fun k hk => by have := Option.some.inj hk; omega)⟩
      -- operation 10 first
      ·
       have HSrg := Lib.hid hS; clear hS
       refine rg_run (wanted_plain rfl) ?_
       go_simp
       refine (HC3.out _).mono ?_
       rintro e wr3 ⟨rfl, hbr3⟩
       have hS : SinceX W7 (some g5) wr3 := gB (w0 := W7) HSrg.out hbr3
       clear HSrg
       try replace X5 := X5.keep hbr3
       refine hK.out _ _ hS (fun _ => ?_)
       clear hK K
       try simp only [pu]
       refine rt_call (i := 7) (get_of Hops rfl) (fun K hK => ?_)
       have HSrg := Lib.hid hS; clear hS
       refine rg_run (wanted_plain rfl) ?_
       obtain ⟨X5l, X5a, X5b, X5c, X5d, X5e, X5fa, X5fb, X5fc, X5fd, X5fe⟩ := X5.facts5
       go_simp
       refine hK.out _ _ HSrg.out (fun hS => ?_)
       clear hK K HSrg
       try simp only [pu]
       apply rt_pX; exact Hops; exact rfl; exact hS; exact rfl
       · intro _ hqc; go_simp; try rfl
       try simp only [pu]
       refine rt_call (i := 11) (get_of Hops rfl) (fun K hK => ?_)
       have HSrg := Lib.hid hS; clear hS
       refine rg_run (wanted_plain rfl) ?_
       go_simp
       refine (HC4.out _).mono ?_
       rintro e wr4 ⟨rfl, hbr4⟩
       have hS : SinceX W7 (some g5) wr4 := gB (w0 := W7) HSrg.out hbr4
       clear HSrg
       try replace X5 := X5.keep hbr4
       refine hK.out _ _ hS (fun _ => ?_)
       clear hK K
       try simp only [pu]
       refine rt_call (i := 13) (get_of Hops rfl) (fun K hK => ?_)
       have HSrg := Lib.hid hS; clear hS
       refine rg_run (wanted_plain rfl) ?_
       obtain ⟨X5l, X5a, X5b, X5c, X5d, X5e, X5fa, X5fb, X5fc, X5fd, X5fe⟩ := X5.facts5
       go_simp
       refine hK.out _ _ (by first | exact gS HSrg.out _ _ | (unfold SinceX; have hS9 : World.grownBy _ _ _ := HSrg.out; repeat (first | with_reducible assumption | with_reducible refine gS ?_ _ _ | with_reducible refine gD ?_ | with_reducible refine gA ?_ _))) (fun hS => ?_)
       clear hK K HSrg
       try simp only [pu]
       apply rt_pX; exact Hops; exact rfl; exact hS; exact rfl
       · intro _ hqc; go_simp; try rfl
       try simp only [pu]
       refine rt_call (i := 15) (get_of Hops rfl) (fun K hK => ?_)
       have HSrg := Lib.hid hS; clear hS
       refine rg_run (wanted_plain rfl) ?_
       go_simp
       refine hK.out _ _ (by first | exact gS HSrg.out _ _ | (unfold SinceX; have hS9 : World.grownBy _ _ _ := HSrg.out; repeat (first | with_reducible assumption | with_reducible refine gS ?_ _ _ | with_reducible refine gD ?_ | with_reducible refine gA ?_ _))) (fun hS => ?_)
       clear hK K HSrg
       try simp only [pu]
       refine rt_done ?_
       refine HQrg.down _ _ ?_
       have hB : W7.grownBy _ (some g5) := hS
       clear hS HQrg Hops
       go_wp2_with fail
       go_meet
       case rel => exact ⟨by have h := (((X5.set_ 0 (.int .i64 lo.1)).set_ 1 (.int .i64 lo.2)).set_ 2 (.int .i64 hi.1)).set_ 3 (.int .i64 hi.2); simpa using h, HX10.out.grow hB (fun e => n3 (Option.some.inj e)), bG HB7.out hB (fun k hk => by have := Option.some.inj hk; omega)⟩
     -- operation 7 first
     ·
      have HSrg := Lib.hid hS; clear hS
      refine rg_run (wanted_plain rfl) ?_
      obtain ⟨X5l, X5a, X5b, X5c, X5d, X5e, X5fa, X5fb, X5fc, X5fd, X5fe⟩ := X5.facts5
      go_simp
      refine hK.out _ _ HSrg.out (fun hS => ?_)
      clear hK K HSrg
      try simp only [pu]
      refine rt_call (i := 5) (get_of Hops rfl) (fun K hK => ?_)
      have HSrg := Lib.hid hS; clear hS
      refine rg_run (wanted_plain rfl) ?_
      go_simp
      refine (HC2.out _).mono ?_
      rintro e wr2 ⟨rfl, hbr2⟩
      have hS : SinceX W7 (some g5) wr2 := gB (w0 := W7) HSrg.out hbr2
      clear HSrg
      try replace X5 := X5.keep hbr2
      refine hK.out _ _ hS (fun _ => ?_)
      clear hK K
      try simp only [pu]
      apply rt_pX; exact Hops; exact rfl; exact hS; exact rfl
      · intro _ hqc; go_simp; try rfl
      try simp only [pu]
      refine rt_call (i := 10) (get_of Hops rfl) (fun K hK => ?_)
      have HSrg := Lib.hid hS; clear hS
      refine rg_run (wanted_plain rfl) ?_
      go_simp
      refine (HC3.out _).mono ?_
      rintro e wr3 ⟨rfl, hbr3⟩
      have hS : SinceX W7 (some g5) wr3 := gB (w0 := W7) HSrg.out hbr3
      clear HSrg
      try replace X5 := X5.keep hbr3
      refine hK.out _ _ hS (fun _ => ?_)
      clear hK K
      try simp only [pu]
      refine rt_call (i := 11) (get_of Hops rfl) (fun K hK => ?_)
      have HSrg := Lib.hid hS; clear hS
      refine rg_run (wanted_plain rfl) ?_
      go_simp
      refine (HC4.out _).mono ?_
      rintro e wr4 ⟨rfl, hbr4⟩
      have hS : SinceX W7 (some g5) wr4 := gB (w0 := W7) HSrg.out hbr4
      clear HSrg
      try replace X5 := X5.keep hbr4
      refine hK.out _ _ hS (fun _ => ?_)
      clear hK K
      try simp only [pu]
      refine rt_call (i := 13) (get_of Hops rfl) (fun K hK => ?_)
      have HSrg := Lib.hid hS; clear hS
      refine rg_run (wanted_plain rfl) ?_
      obtain ⟨X5l, X5a, X5b, X5c, X5d, X5e, X5fa, X5fb, X5fc, X5fd, X5fe⟩ := X5.facts5
      go_simp
      refine hK.out _ _ (by first | exact gS HSrg.out _ _ | (unfold SinceX; have hS9 : World.grownBy _ _ _ := HSrg.out; repeat (first | with_reducible assumption | with_reducible refine gS ?_ _ _ | with_reducible refine gD ?_ | with_reducible refine gA ?_ _))) (fun hS => ?_)
      clear hK K HSrg
      try simp only [pu]
      apply rt_pX; exact Hops; exact rfl; exact hS; exact rfl
      · intro _ hqc; go_simp; try rfl
      try simp only [pu]
      refine rt_call (i := 15) (get_of Hops rfl) (fun K hK => ?_)
      have HSrg := Lib.hid hS; clear hS
      refine rg_run (wanted_plain rfl) ?_
      go_simp
      refine hK.out _ _ (by first | exact gS HSrg.out _ _ | (unfold SinceX; have hS9 : World.grownBy _ _ _ := HSrg.out; repeat (first | with_reducible assumption | with_reducible refine gS ?_ _ _ | with_reducible refine gD ?_ | with_reducible refine gA ?_ _))) (fun hS => ?_)
      clear hK K HSrg
      try simp only [pu]
      refine rt_done ?_
      refine HQrg.down _ _ ?_
      have hB : W7.grownBy _ (some g5) := hS
      clear hS HQrg Hops
      go_wp2_with fail
      go_meet
      case rel => exact ⟨by have h := (((X5.set_ 0 (.int .i64 lo.1)).set_ 1 (.int .i64 lo.2)).set_ 2 (.int .i64 hi.1)).set_ 3 (.int .i64 hi.2); simpa using h, HX10.out.grow hB (fun e => n3 (Option.some.inj e)), bG HB7.out hB (fun k hk => by have := Option.some.inj hk; omega)⟩
    -- operation 7 first
    ·
     have HSrg := Lib.hid hS; clear hS
     refine rg_run (wanted_plain rfl) ?_
     obtain ⟨X5l, X5a, X5b, X5c, X5d, X5e, X5fa, X5fb, X5fc, X5fd, X5fe⟩ := X5.facts5
     go_simp
     refine hK.out _ _ HSrg.out (fun hS => ?_)
     clear hK K HSrg
     try simp only [pu]
     refine rt_call (i := 1) (get_of Hops rfl) (fun K hK => ?_)
     have HSrg := Lib.hid hS; clear hS
     refine rg_run (wanted_plain rfl) ?_
     obtain ⟨X5l, X5a, X5b, X5c, X5d, X5e, X5fa, X5fb, X5fc, X5fd, X5fe⟩ := X5.facts5
     go_simp
     refine hK.out _ _ HSrg.out (fun hS => ?_)
     clear hK K HSrg
     try simp only [pu]
     refine rt_call (i := 5) (get_of Hops rfl) (fun K hK => ?_)
     have HSrg := Lib.hid hS; clear hS
     refine rg_run (wanted_plain rfl) ?_
     go_simp
     refine (HC2.out _).mono ?_
     rintro e wr2 ⟨rfl, hbr2⟩
     have hS : SinceX W7 (some g5) wr2 := gB (w0 := W7) HSrg.out hbr2
     clear HSrg
     try replace X5 := X5.keep hbr2
     refine hK.out _ _ hS (fun _ => ?_)
     clear hK K
     try simp only [pu]
     apply rt_pX; exact Hops; exact rfl; exact hS; exact rfl
     · intro _ hqc; go_simp; try rfl
     try simp only [pu]
     refine rt_call (i := 10) (get_of Hops rfl) (fun K hK => ?_)
     have HSrg := Lib.hid hS; clear hS
     refine rg_run (wanted_plain rfl) ?_
     go_simp
     refine (HC3.out _).mono ?_
     rintro e wr3 ⟨rfl, hbr3⟩
     have hS : SinceX W7 (some g5) wr3 := gB (w0 := W7) HSrg.out hbr3
     clear HSrg
     try replace X5 := X5.keep hbr3
     refine hK.out _ _ hS (fun _ => ?_)
     clear hK K
     try simp only [pu]
     refine rt_call (i := 11) (get_of Hops rfl) (fun K hK => ?_)
     have HSrg := Lib.hid hS; clear hS
     refine rg_run (wanted_plain rfl) ?_
     go_simp
     refine (HC4.out _).mono ?_
     rintro e wr4 ⟨rfl, hbr4⟩
     have hS : SinceX W7 (some g5) wr4 := gB (w0 := W7) HSrg.out hbr4
     clear HSrg
     try replace X5 := X5.keep hbr4
     refine hK.out _ _ hS (fun _ => ?_)
     clear hK K
     try simp only [pu]
     refine rt_call (i := 13) (get_of Hops rfl) (fun K hK => ?_)
     have HSrg := Lib.hid hS; clear hS
     refine rg_run (wanted_plain rfl) ?_
     obtain ⟨X5l, X5a, X5b, X5c, X5d, X5e, X5fa, X5fb, X5fc, X5fd, X5fe⟩ := X5.facts5
     go_simp
     refine hK.out _ _ (by first | exact gS HSrg.out _ _ | (unfold SinceX; have hS9 : World.grownBy _ _ _ := HSrg.out; repeat (first | with_reducible assumption | with_reducible refine gS ?_ _ _ | with_reducible refine gD ?_ | with_reducible refine gA ?_ _))) (fun hS => ?_)
     clear hK K HSrg
     try simp only [pu]
     apply rt_pX; exact Hops; exact rfl; exact hS; exact rfl
     · intro _ hqc; go_simp; try rfl
     try simp only [pu]
     refine rt_call (i := 15) (get_of Hops rfl) (fun K hK => ?_)
     have HSrg := Lib.hid hS; clear hS
     refine rg_run (wanted_plain rfl) ?_
     go_simp
     refine hK.out _ _ (by first | exact gS HSrg.out _ _ | (unfold SinceX; have hS9 : World.grownBy _ _ _ := HSrg.out; repeat (first | with_reducible assumption | with_reducible refine gS ?_ _ _ | with_reducible refine gD ?_ | with_reducible refine gA ?_ _))) (fun hS => ?_)
     clear hK K HSrg
     try simp only [pu]
     refine rt_done ?_
     refine HQrg.down _ _ ?_
     have hB : W7.grownBy _ (some g5) := hS
     clear hS HQrg Hops
     go_wp2_with fail
     go_meet
     case rel => exact ⟨by have h := (((X5.set_ 0 (.int .i64 lo.1)).set_ 1 (.int .i64 lo.2)).set_ 2 (.int .i64 hi.1)).set_ 3 (.int .i64 hi.2); simpa using h, HX10.out.grow hB (fun e => n3 (Option.some.inj e)), bG HB7.out hB (fun k hk => by have := Option.some.inj hk; omega)⟩
   -- operation 7 first
   ·
    have HSrg := Lib.hid hS; clear hS
    refine rg_run (wanted_plain rfl) ?_
    obtain ⟨X5l, X5a, X5b, X5c, X5d, X5e, X5fa, X5fb, X5fc, X5fd, X5fe⟩ := X5.facts5
    go_simp
    refine hK.out _ _ HSrg.out (fun hS => ?_)
    clear hK K HSrg
    try simp only [pu]
    refine rt_two (i := 1) (j := 4) (get_of Hops rfl) (get_of Hops rfl) (fun K hK => ?_) (fun K hK => ?_)
    -- operation 1 first
    ·
     have HSrg := Lib.hid hS; clear hS
     refine rg_run (wanted_plain rfl) ?_
     obtain ⟨X5l, X5a, X5b, X5c, X5d, X5e, X5fa, X5fb, X5fc, X5fd, X5fe⟩ := X5.facts5
     go_simp
     refine hK.out _ _ HSrg.out (fun hS => ?_)
     clear hK K HSrg
     try simp only [pu]
     refine rt_call (i := 4) (get_of Hops rfl) (fun K hK => ?_)
     have HSrg := Lib.hid hS; clear hS
     refine rg_run (wanted_plain rfl) ?_
     go_simp
     refine (HC1.out _).mono ?_
     rintro e wr1 ⟨rfl, hbr1⟩
     have hS : SinceX W7 (some g5) wr1 := gB (w0 := W7) HSrg.out hbr1
     clear HSrg
     try replace X5 := X5.keep hbr1
     refine hK.out _ _ hS (fun _ => ?_)
     clear hK K
     try simp only [pu]
     refine rt_call (i := 5) (get_of Hops rfl) (fun K hK => ?_)
     have HSrg := Lib.hid hS; clear hS
     refine rg_run (wanted_plain rfl) ?_
     go_simp
     refine (HC2.out _).mono ?_
     rintro e wr2 ⟨rfl, hbr2⟩
     have hS : SinceX W7 (some g5) wr2 := gB (w0 := W7) HSrg.out hbr2
     clear HSrg
     try replace X5 := X5.keep hbr2
     refine hK.out _ _ hS (fun _ => ?_)
     clear hK K
     try simp only [pu]
     apply rt_pX; exact Hops; exact rfl; exact hS; exact rfl
     · intro _ hqc; go_simp; try rfl
     try simp only [pu]
     refine rt_call (i := 10) (get_of Hops rfl) (fun K hK => ?_)
     have HSrg := Lib.hid hS; clear hS
     refine rg_run (wanted_plain rfl) ?_
     go_simp
     refine (HC3.out _).mono ?_
     rintro e wr3 ⟨rfl, hbr3⟩
     have hS : SinceX W7 (some g5) wr3 := gB (w0 := W7) HSrg.out hbr3
     clear HSrg
     try replace X5 := X5.keep hbr3
     refine hK.out _ _ hS (fun _ => ?_)
     clear hK K
     try simp only [pu]
     refine rt_call (i := 11) (get_of Hops rfl) (fun K hK => ?_)
     have HSrg := Lib.hid hS; clear hS
     refine rg_run (wanted_plain rfl) ?_
     go_simp
     refine (HC4.out _).mono ?_
     rintro e wr4 ⟨rfl, hbr4⟩
     have hS : SinceX W7 (some g5) wr4 := gB (w0 := W7) HSrg.out hbr4
     clear HSrg
     try replace X5 := X5.keep hbr4
     refine hK.out _ _ hS (fun _ => ?_)
     clear hK K
     try simp only [pu]
     refine rt_call (i := 13) (get_of Hops rfl) (fun K hK => ?_)
     have HSrg := Lib.hid hS; clear hS
     refine rg_run (wanted_plain rfl) ?_
     obtain ⟨X5l, X5a, X5b, X5c, X5d, X5e, X5fa, X5fb, X5fc, X5fd, X5fe⟩ := X5.facts5
     go_simp
     refine hK.out _ _ (by first | exact gS HSrg.out _ _ | (unfold SinceX; have hS9 : World.grownBy _ _ _ := HSrg.out; repeat (first | with_reducible assumption | with_reducible refine gS ?_ _ _ | with_reducible refine gD ?_ | with_reducible refine gA ?_ _))) (fun hS => ?_)
     clear hK K HSrg
     try simp only [pu]
     apply rt_pX; exact Hops; exact rfl; exact hS; exact rfl
     · intro _ hqc; go_simp; try rfl
     try simp only [pu]
     refine rt_call (i := 15) (get_of Hops rfl) (fun K hK => ?_)
     have HSrg := Lib.hid hS; clear hS
     refine rg_run (wanted_plain rfl) ?_
     go_simp
     refine hK.out _ _ (by first | exact gS HSrg.out _ _ | (unfold SinceX; have hS9 : World.grownBy _ _ _ := HSrg.out; repeat (first | with_reducible assumption | with_reducible refine gS ?_ _ _ | with_reducible refine gD ?_ | with_reducible refine gA ?_ _))) (fun hS => ?_)
     clear hK K HSrg
     try simp only [pu]
     refine rt_done ?_
     refine HQrg.down _ _ ?_
     have hB : W7.grownBy _ (some g5) := hS
     clear hS HQrg Hops
     go_wp2_with fail
     go_meet
     case rel => exact ⟨by have h := (((X5.set_ 0 (.int .i64 lo.1)).set_ 1 (.int .i64 lo.2)).set_ 2 (.int .i64 hi.1)).set_ 3 (.int .i64 hi.2); simpa using h, HX10.out.grow hB (fun e => n3 (Option.some.inj e)), bG HB7.out hB (fun k hk => by have := Option.some.inj hk; omega)⟩
    -- operation 4 first
    ·
     have HSrg := Lib.hid hS; clear hS
     refine rg_run (wanted_plain rfl) ?_
     go_simp
     refine (HC1.out _).mono ?_
     rintro e wr1 ⟨rfl, hbr1⟩
     have hS : SinceX W7 (some g5) wr1 := gB (w0 := W7) HSrg.out hbr1
     clear HSrg
     try replace X5 := X5.keep hbr1
     refine hK.out _ _ hS (fun _ => ?_)
     clear hK K
     try simp only [pu]
     refine rt_call (i := 1) (get_of Hops rfl) (fun K hK => ?_)
     have HSrg := Lib.hid hS; clear hS
     refine rg_run (wanted_plain rfl) ?_
     obtain ⟨X5l, X5a, X5b, X5c, X5d, X5e, X5fa, X5fb, X5fc, X5fd, X5fe⟩ := X5.facts5
     go_simp
     refine hK.out _ _ HSrg.out (fun hS => ?_)
     clear hK K HSrg
     try simp only [pu]
     refine rt_call (i := 5) (get_of Hops rfl) (fun K hK => ?_)
     have HSrg := Lib.hid hS; clear hS
     refine rg_run (wanted_plain rfl) ?_
     go_simp
     refine (HC2.out _).mono ?_
     rintro e wr2 ⟨rfl, hbr2⟩
     have hS : SinceX W7 (some g5) wr2 := gB (w0 := W7) HSrg.out hbr2
     clear HSrg
     try replace X5 := X5.keep hbr2
     refine hK.out _ _ hS (fun _ => ?_)
     clear hK K
     try simp only [pu]
     apply rt_pX; exact Hops; exact rfl; exact hS; exact rfl
     · intro _ hqc; go_simp; try rfl
     try simp only [pu]
     refine rt_call (i := 10) (get_of Hops rfl) (fun K hK => ?_)
     have HSrg := Lib.hid hS; clear hS
     refine rg_run (wanted_plain rfl) ?_
     go_simp
     refine (HC3.out _).mono ?_
     rintro e wr3 ⟨rfl, hbr3⟩
     have hS : SinceX W7 (some g5) wr3 := gB (w0 := W7) HSrg.out hbr3
     clear HSrg
     try replace X5 := X5.keep hbr3
     refine hK.out _ _ hS (fun _ => ?_)
     clear hK K
     try simp only [pu]
     refine rt_call (i := 11) (get_of Hops rfl) (fun K hK => ?_)
     have HSrg := Lib.hid hS; clear hS
     refine rg_run (wanted_plain rfl) ?_
     go_simp
     refine (HC4.out _).mono ?_
     rintro e wr4 ⟨rfl, hbr4⟩
     have hS : SinceX W7 (some g5) wr4 := gB (w0 := W7) HSrg.out hbr4
     clear HSrg
     try replace X5 := X5.keep hbr4
     refine hK.out _ _ hS (fun _ => ?_)
     clear hK K
     try simp only [pu]
     refine rt_call (i := 13) (get_of Hops rfl) (fun K hK => ?_)
     have HSrg := Lib.hid hS; clear hS
     refine rg_run (wanted_plain rfl) ?_
     obtain ⟨X5l, X5a, X5b, X5c, X5d, X5e, X5fa, X5fb, X5fc, X5fd, X5fe⟩ := X5.facts5
     go_simp
     refine hK.out _ _ (by first | exact gS HSrg.out _ _ | (unfold SinceX; have hS9 : World.grownBy _ _ _ := HSrg.out; repeat (first | with_reducible assumption | with_reducible refine gS ?_ _ _ | with_reducible refine gD ?_ | with_reducible refine gA ?_ _))) (fun hS => ?_)
     clear hK K HSrg
     try simp only [pu]
     apply rt_pX; exact Hops; exact rfl; exact hS; exact rfl
     · intro _ hqc; go_simp; try rfl
     try simp only [pu]
     refine rt_call (i := 15) (get_of Hops rfl) (fun K hK => ?_)
     have HSrg := Lib.hid hS; clear hS
     refine rg_run (wanted_plain rfl) ?_
     go_simp
     refine hK.out _ _ (by first | exact gS HSrg.out _ _ | (unfold SinceX; have hS9 : World.grownBy _ _ _ := HSrg.out; repeat (first | with_reducible assumption | with_reducible refine gS ?_ _ _ | with_reducible refine gD ?_ | with_reducible refine gA ?_ _))) (fun hS => ?_)
     clear hK K HSrg
     try simp only [pu]
     refine rt_done ?_
     refine HQrg.down _ _ ?_
     have hB : W7.grownBy _ (some g5) := hS
     clear hS HQrg Hops
     go_wp2_with fail
     go_meet
     case rel => exact ⟨by have h := (((X5.set_ 0 (.int .i64 lo.1)).set_ 1 (.int .i64 lo.2)).set_ 2 (.int .i64 hi.1)).set_ 3 (.int .i64 hi.2); simpa using h, HX10.out.grow hB (fun e => n3 (Option.some.inj e)), bG HB7.out hB (fun k hk => by have := Option.some.inj hk; omega)⟩
  case rest =>
  obtain ⟨x5, x10, hb⟩ := hcut
  have HBc := Lib.hid hb
  have HXc := Lib.hid x10
  clear hb HB7 HX10 X5 X10 Y11 Y13
  obtain ⟨x5l, x5a, x5b, x5c, x5d, x5e, x5fa, x5fb, x5fc, x5fd, x5fe⟩ := x5.facts5
  obtain ⟨x10l, x10a, x10b, x10c, x10d, x10e, x10fa, x10fb, x10fc, x10fd, x10fe⟩ := x10.facts5
  go_wp2_with fail
  refine res_cell (g := g10) (cs := #[.int .i64 lo.1, .int .i64 lo.2, .int .i64 hi.1, .int .i64 hi.2, .bool nn]) rfl struct_lim rfl rfl (Blk.put5 HXc.out) ⟨by rw [← HF.out], ?_⟩
  exact bS (bS (bS (bS (bS HBc.out hq1 _) hq1 _) hq1 _) hq1 _) hq1 _
end Go.Proofs.YtfondidmklmonaaGreat
