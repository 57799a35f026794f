/- mapsheetsref09.Clip. -/
import Derived.Test.YtfondidmklmonaaGreatJ24
set_option linter.unusedSimpArgs false
set_option linter.unusedVariables false
namespace Go.Proofs.YtfondidmklmonaaGreat
open Go.RowKit

theorem at_spec (a b : Pt) (x : Bx) (n d : Int) (w : World) (ha : bdP a) (hb : bdP b) (hp : Par n d) (hd2 : d ≤ 1073741824) (hg : GoodQ a b x n d) :
  Calls Tryz.prog 106 #[ptV a, ptV b, frV (n, d), bxV x] w fun e w' => e = .returned (ptV (ptQ a b x n d)) ∧ Below w.heap.size w w' := by
 obtain ⟨hd, n0, nd⟩ := hp
 have key : ∀ u k : Int, u = k * d → u % d = 0 ∧ u / d = k := fun u k h => div_of hd h
 by_cases hA : ((b.x - a.x) * n) % d = 0 ∧ ((b.y - a.y) * n) % d = 0
 ·
  have he : ptQ a b x n d = ⟨a.x + (b.x - a.x) * n / d, a.y + (b.y - a.y) * n / d⟩ := by unfold ptQ; rw [if_pos hA]
  rw [he]
  exact atA_spec a b x n d _ _ w ha hb n0 nd hd hd2 (of_div hA.1) (of_div hA.2)
 ·
  have tm : ∀ u : Int, ¬ u % d = 0 → ¬ u.tmod d = 0 := fun u h e => h (Int.emod_eq_zero_of_dvd (Int.dvd_of_tmod_eq_zero e))
  rcases hg with rfl | rfl | ⟨E, h1, h2, h3⟩ | ⟨E, h1, h2, h3⟩
  · exact absurd ⟨by rw [Int.mul_zero]; exact Int.zero_emod _, by rw [Int.mul_zero]; exact Int.zero_emod _⟩ hA
  · exact absurd ⟨(key _ _ rfl).1, (key _ _ rfl).1⟩ hA
  ·
   obtain ⟨e1, e2⟩ := key _ _ h3
   have hq : ¬ ((b.y - a.y) * n) % d = 0 := fun e => hA ⟨e1, e⟩
   have hE : a.x + (b.x - a.x) * n / d = x.x0 ∨ a.x + (b.x - a.x) * n / d = x.x1 := by
    rw [e2]
    rcases h1 with rfl | rfl
    · left; omega
    · right; omega
   have he : ptQ a b x n d = atX a b (a.x + (b.x - a.x) * n / d) := by unfold ptQ; rw [if_neg hA, if_pos ⟨e1, hE⟩]
   rw [he]
   rw [e2] at hE ⊢
   exact atB_spec a b x n d _ w ha hb n0 nd hd hd2 h3 (tm _ hq) h2 hE
  ·
   obtain ⟨e1, e2⟩ := key _ _ h3
   have hq : ¬ ((b.x - a.x) * n) % d = 0 := fun e => hA ⟨e, e1⟩
   have he : ptQ a b x n d = atY a b (a.y + (b.y - a.y) * n / d) := by unfold ptQ; rw [if_neg hA, if_neg (fun e => hq e.1)]
   rw [he, e2]
   exact atC_spec a b x n d _ w ha hb n0 nd hd hd2 (tm _ hq) h3 h2
theorem res_cell22t {P : Program} {fn : Func} {p q u : Tmp} {ty ty' : TypeId} {R : Ending → World → Prop} {a : Act} {w : World} {g g' : Nat} {cs cs' : Array Value} (h : fn.results = #[.cell p ty, .cell q ty', .tmp u])
  (hS : StructOf P ty cs.size) (hS' : StructOf P ty' cs'.size) (hp : a.tmps.getD p undef = .pointer (some ⟨g, 0, none⟩)) (hq : a.tmps.getD q undef = .pointer (some ⟨g', 0, none⟩)) (hd : a.defers = []) (hb : Blk w g ty cs) (hb' : Blk w g' ty' cs') (hR : R (.returned (.tuple #[.agg cs, .agg cs', a.tmps.getD u undef])) w) : bodyPost P fn R .ret a w := by
 obtain ⟨fs, h1, h3⟩ := hS
 obtain ⟨fs', h1', h3'⟩ := hS'
 refine bodyPost_ret ?_ hd hR
 have e1 := run_loadVar_row (P := P) w g ty ty cs (0, 0) (.struct fs) hb h1 rfl h3
 have e2 := run_loadVar_row (P := P) w g' ty' ty' cs' (0, 0) (.struct fs') hb' h1' rfl h3'
 have hp' : a.tmps[p]?.getD undef = .pointer (some ⟨g, 0, none⟩) := by simpa using hp
 have hq' : a.tmps[q]?.getD undef = .pointer (some ⟨g', 0, none⟩) := by simpa using hq
 simp only [results, h]
 simp [hp', hq', asAddr, Sem.run_bind, Sem.run_pure, Result.andThen, e1, e2]
theorem between_fr {l : RLim} {s e f t : Int} (h : FrOk l.lo ∧ FrOk l.hi) (bs : -1048576 ≤ s ∧ s ≤ 1048576) (be : -1048576 ≤ e ∧ e ≤ 1048576) (bf : -4194304 ≤ f ∧ f ≤ 4194304) (bt : -4194304 ≤ t ∧ t ≤ 4194304) : FrOk (betweenS l s e f t).lo ∧ FrOk (betweenS l s e f t).hi := by
 unfold betweenS
 by_cases hse : s = e
 · rw [if_pos hse]; exact h
 ·
  rw [if_neg hse]
  have o1 : FrOk (mkF (f - s) (e - s)) := FrOk.make (by unfold bd30; omega) (by unfold bd30; omega) (by omega)
  have o2 : FrOk (mkF (t - s) (e - s)) := FrOk.make (by unfold bd30; omega) (by unfold bd30; omega) (by omega)
  exact ⟨h.1.later (o1.sooner o2), h.2.sooner (o1.later o2)⟩
set_option maxRecDepth 100000 in
set_option maxHeartbeats 8000000 in
theorem rClip_spec (a b : Pt) (x : Bx) (w : World) (ha : bdP a) (hb : bdP b) (hx : smB x) (hxx : x.x0 ≤ x.x1) (hyy : x.y0 ≤ x.y1) : Calls Tryz.prog 67 #[ptV a, ptV b, bxV x] w fun e w' => e = .returned (clR (rclipS a b x)) ∧ Below w.heap.size w w' := by
 obtain ⟨q, hq⟩ : ∃ q, clR (rclipS a b x) = q := ⟨_, rfl⟩
 rw [hq]
 have hq' : clR (if (rlimS a b x).none = true ∨ 0 < cmpF (rlimS a b x).lo (rlimS a b x).hi then none else some (ptQ a b x (rlimS a b x).lo.1 (rlimS a b x).lo.2, ptQ a b x (rlimS a b x).hi.1 (rlimS a b x).hi.2)) = q := hq
 have hgood := rlim_good a b x hxx hyy
 have hnr := nears_two ha hb
 have HNr : Hid (∀ (v : Value) (w : World), Pts w v [a, b] → Calls Tryz.prog 103 #[v] w fun e w' => e = .returned (.bool true) ∧ Below w.heap.size w w') := Lib.hid fun v w hp => by
  have := RNear_spec v [a, b] w hp
  rw [hnr] at this
  exact this
 have f0 : FrOk ((0, 1) : Int × Int) := ⟨by unfold bd30; simp, by unfold bd30; simp, by decide, rfl⟩
 have f1 : FrOk ((1, 1) : Int × Int) := ⟨by unfold bd30; simp, by unfold bd30; simp, by decide, rfl⟩
 obtain ⟨⟨x1, x2⟩, x3, x4⟩ := hx
 unfold sm22 at x1 x2 x3 x4
 have hB1 := fun W => between_spec ⟨(0, 1), (1, 1), false⟩ a.x b.x x.x0 x.x1 W f0 f1 ha.1 hb.1 x1 x2
 have hF1 := between_fr (l := ⟨(0, 1), (1, 1), false⟩) ⟨f0, f1⟩ ha.1 hb.1 x1 x2
 unfold rlimS at *
 obtain ⟨l1, hl1⟩ : ∃ l1, betweenS ⟨(0, 1), (1, 1), false⟩ a.x b.x x.x0 x.x1 = l1 := ⟨_, rfl⟩
 rw [hl1] at hB1 hF1 hgood hq'
 have hB2 := fun W => between_spec l1 a.y b.y x.y0 x.y1 W hF1.1 hF1.2 ha.2 hb.2 x3 x4
 have hF2 := between_fr (l := l1) hF1 ha.2 hb.2 x3 x4
 obtain ⟨l2, hl2⟩ : ∃ l2, betweenS l1 a.y b.y x.y0 x.y1 = l2 := ⟨_, rfl⟩
 rw [hl2] at hB2 hF2 hgood hq'
 have hC := fun W => FrCmp_spec l2.lo l2.hi W hF2.1 hF2.2
 have hAt1 := fun (h : ¬ (l2.none = true ∨ 0 < cmpF l2.lo l2.hi)) W => at_spec a b x l2.lo.1 l2.lo.2 W ha hb (hgood h).1 (by have := hF2.1.d; unfold bd30 at this; omega) (hgood h).2.2.1
 have hAt2 := fun (h : ¬ (l2.none = true ∨ 0 < cmpF l2.lo l2.hi)) W => at_spec a b x l2.hi.1 l2.hi.2 W ha hb (hgood h).2.1 (by have := hF2.2.d; unfold bd30 at this; omega) (hgood h).2.2.2
 generalize ptQ a b x l2.lo.1 l2.lo.2 = pc at *
 generalize ptQ a b x l2.hi.1 l2.hi.2 = pd at *
 unfold limV at hB1 hB2
 dsimp only at hB1
 unfold frV at hC hAt1 hAt2
 unfold ptV bxV at *
 have HB1 := Lib.hid hB1; have HB2 := Lib.hid hB2; have HC := Lib.hid hC; have HA1 := Lib.hid hAt1; have HA2 := Lib.hid hAt2; have HQ := Lib.hid hq'
 have c1 : ¬ x.x1 < x.x0 := by omega
 have c2 : ¬ x.y1 < x.y0 := by omega
 clear hB1 hB2 hC hAt1 hAt2 hq hq' hgood hnr f0 f1 hF1 hF2 hl1 hl2 x1 x2 x3 x4 ha hb hxx hyy
 obtain ⟨g3, hg3⟩ : ∃ g, w.heap.size = g := ⟨_, rfl⟩
 obtain ⟨g4, hg4⟩ : ∃ g, g3 + 1 = g := ⟨_, rfl⟩
 obtain ⟨g5, hg5⟩ : ∃ g, g4 + 1 = g := ⟨_, rfl⟩
 obtain ⟨g6, hg6⟩ : ∃ g, g5 + 1 = g := ⟨_, rfl⟩
 obtain ⟨g7, hg7⟩ : ∃ g, g6 + 1 = g := ⟨_, rfl⟩
 obtain ⟨W, hW⟩ : ∃ W : World, W = ((((w.alloc (.cells #[.int .i64 a.x, .int .i64 a.y] 28)).alloc (.cells #[.int .i64 b.x, .int .i64 b.y] 28)).alloc (.cells #[.int .i64 x.x0, .int .i64 x.y0, .int .i64 x.x1, .int .i64 x.y1] 50)).alloc (.cells #[.int .i64 0, .int .i64 0] 28)).alloc (.cells #[.int .i64 0, .int .i64 0] 28) := ⟨_, rfl⟩
 have HBw := Lib.hid (show Below w.heap.size w W by rw [hW]; exact bA (bA (bA (bA (bA (bR w) _) _) _) _) _)
 have X3 : Blk W g3 28 #[.int .i64 a.x, .int .i64 a.y] := by rw [hW]; exact ((((Blk.made hg3.symm _ _).alloc _).alloc _).alloc _).alloc _
 have X4 : Blk W g4 28 #[.int .i64 b.x, .int .i64 b.y] := by rw [hW]; exact (((Blk.made (by simp; omega) _ _).alloc _).alloc _).alloc _
 have X5 : Blk W g5 50 #[.int .i64 x.x0, .int .i64 x.y0, .int .i64 x.x1, .int .i64 x.y1] := by rw [hW]; exact ((Blk.made (by simp; omega) _ _).alloc _).alloc _
 have X6 : Blk W g6 28 #[.int .i64 0, .int .i64 0] := by rw [hW]; exact (Blk.made (by simp; omega) _ _).alloc _
 have X7 : Blk W g7 28 #[.int .i64 0, .int .i64 0] := by rw [hW]; exact Blk.made (by simp; omega) _ _
 have hsl : Pts (W.alloc (.cells #[.int .i64 a.x, .int .i64 a.y, .int .i64 b.x, .int .i64 b.y] 28)) (.slice (some ⟨W.heap.size, 0, none⟩) 2 2) [a, b] := Sl.lit (n := 2) (g := W.heap.size) (t := 28) (cs := #[.int .i64 a.x, .int .i64 a.y, .int .i64 b.x, .int .i64 b.y]) (Blk.made rfl _ _) rfl (le_maxLen (by omega))
 have HG := Lib.hid (show w.heap.size ≤ g6 ∧ g3 < g6 ∧ g4 < g6 ∧ g5 < g6 ∧ g6 < g7 by omega)
 have HSl := Lib.hid hsl
 clear hsl
 go_enter Tryz.func67, Tryz.ntmps67
 go_upto_region 1 with fail
 try rw [← hW]
 clear hW hg3 hg4 hg5 hg6 hg7
 obtain ⟨X3l, X3a, X3b, -, -⟩ := X3.facts2
 obtain ⟨X4l, X4a, X4b, -, -⟩ := X4.facts2
 go_wp2_with fail
 refine (HNr.out _ _ HSl.out).mono ?_
 rintro e w1 ⟨rfl, hb1⟩
 replace X3 := (X3.alloc _).keep hb1; replace X4 := (X4.alloc _).keep hb1; replace X5 := (X5.alloc _).keep hb1; replace X6 := (X6.alloc _).keep hb1; replace X7 := (X7.alloc _).keep hb1
 have HB1' := Lib.hid (bT (bA HBw.out _) hb1)
 clear hb1 HBw HSl HNr X3l X3a X3b X4l X4a X4b
 try clear X3l
 try clear X3a
 try clear X3b
 obtain ⟨X3l, X3a, X3b, -, -⟩ := X3.facts2
 try clear X4l
 try clear X4a
 try clear X4b
 obtain ⟨X4l, X4a, X4b, -, -⟩ := X4.facts2
 obtain ⟨X5l, X5a, X5b, X5c, X5d, -, -, -, -⟩ := X5.facts4
 go_upto_region 4 with fail
 obtain ⟨W2, hW2⟩ : ∃ W2 : World, W2 = w1.alloc (.cells #[.int .i64 0, .int .i64 1, .int .i64 1, .int .i64 1, .bool false] 141) := ⟨_, rfl⟩
 have hA : Below w1.heap.size w1 W2 := by rw [hW2]; exact bA (bR _) _
 obtain ⟨g9, hg9⟩ : ∃ g9, w1.heap.size = g9 := ⟨_, rfl⟩
 have X9 : Blk W2 g9 141 #[.int .i64 0, .int .i64 1, .int .i64 1, .int .i64 1, .bool false] := by rw [hW2]; exact Blk.made hg9.symm _ _
 rw [← hW2]
 have l7 : g7 < g9 := by have := X7.lt; omega
 have l6 : g6 < g7 := HG.out.2.2.2.2
 replace X3 := X3.keep hA; replace X4 := X4.keep hA; replace X5 := X5.keep hA; replace X6 := X6.keep hA; replace X7 := X7.keep hA
 have HB2' := Lib.hid (bT HB1'.out hA)
 try simp only [hg9]
 clear hW2 hA hg9 HB1'
 try clear X3l
 try clear X3a
 try clear X3b
 obtain ⟨X3l, X3a, X3b, -, -⟩ := X3.facts2
 try clear X4l
 try clear X4a
 try clear X4b
 obtain ⟨X4l, X4a, X4b, -, -⟩ := X4.facts2
 try clear X5l
 try clear X5a
 try clear X5b
 try clear X5c
 try clear X5d
 obtain ⟨X5l, X5a, X5b, X5c, X5d, -, -, -, -⟩ := X5.facts4
 obtain ⟨X9l, X9a, X9b, X9c, X9d, X9e, X9fa, X9fb, X9fc, X9fd, X9fe⟩ := X9.facts5
 go_wp2_with fail
 refine (HB1.out _).mono ?_
 rintro e w3 ⟨rfl, hbx⟩
 replace X3 := X3.keep hbx; replace X4 := X4.keep hbx; replace X5 := X5.keep hbx; replace X6 := X6.keep hbx; replace X7 := X7.keep hbx; replace X9 := X9.keep hbx
 have HB3' := Lib.hid (bT HB2'.out hbx)
 clear hbx HB2' X3l X3a X3b X4l X4a X4b X5l X5a X5b X5c X5d X9l X9a X9b X9c X9d X9e X9fa X9fb X9fc X9fd X9fe
 try clear X9l
 try clear X9a
 try clear X9b
 try clear X9c
 try clear X9d
 try clear X9e
 try clear X9fa
 try clear X9fb
 try clear X9fc
 try clear X9fd
 try clear X9fe
 obtain ⟨X9l, X9a, X9b, X9c, X9d, X9e, X9fa, X9fb, X9fc, X9fd, X9fe⟩ := X9.facts5
 go_upto_region 5 with fail
 obtain ⟨W4, hwn⟩ : ∃ wn : World, wn = ((((w3.setCell ⟨g9, 0, none⟩ (.int .i64 l1.lo.1)).setCell ⟨g9, 1, none⟩ (.int .i64 l1.lo.2)).setCell ⟨g9, 2, none⟩ (.int .i64 l1.hi.1)).setCell ⟨g9, 3, none⟩ (.int .i64 l1.hi.2)).setCell ⟨g9, 4, none⟩ (.bool l1.none) := ⟨_, rfl⟩
 rw [← hwn]
 have Z9 : Blk W4 g9 141 #[.int .i64 l1.lo.1, .int .i64 l1.lo.2, .int .i64 l1.hi.1, .int .i64 l1.hi.2, .bool l1.none] := by rw [hwn]; exact Blk.put5 X9
 have nb : g3 ≠ g9 ∧ g4 ≠ g9 ∧ g5 ≠ g9 ∧ g6 ≠ g9 ∧ g7 ≠ g9 := by have := HG.out; omega
 have Z3 : Blk W4 g3 28 #[.int .i64 a.x, .int .i64 a.y] := by rw [hwn]; exact ((((X3.far nb.1 _).far nb.1 _).far nb.1 _).far nb.1 _).far nb.1 _
 have Z4 : Blk W4 g4 28 #[.int .i64 b.x, .int .i64 b.y] := by rw [hwn]; exact ((((X4.far nb.2.1 _).far nb.2.1 _).far nb.2.1 _).far nb.2.1 _).far nb.2.1 _
 have Z5 : Blk W4 g5 50 #[.int .i64 x.x0, .int .i64 x.y0, .int .i64 x.x1, .int .i64 x.y1] := by rw [hwn]; exact ((((X5.far nb.2.2.1 _).far nb.2.2.1 _).far nb.2.2.1 _).far nb.2.2.1 _).far nb.2.2.1 _
 have Z6 : Blk W4 g6 28 #[.int .i64 0, .int .i64 0] := by rw [hwn]; exact ((((X6.far nb.2.2.2.1 _).far nb.2.2.2.1 _).far nb.2.2.2.1 _).far nb.2.2.2.1 _).far nb.2.2.2.1 _
 have Z7 : Blk W4 g7 28 #[.int .i64 0, .int .i64 0] := by rw [hwn]; exact ((((X7.far nb.2.2.2.2 _).far nb.2.2.2.2 _).far nb.2.2.2.2 _).far nb.2.2.2.2 _).far nb.2.2.2.2 _
 have hq9 : w.heap.size ≤ g9 := by have := HG.out; omega
 have HB4' := Lib.hid (show Below w.heap.size w W4 by rw [hwn]; exact bS (bS (bS (bS (bS HB3'.out hq9 _) hq9 _) hq9 _) hq9 _) hq9 _)
 clear hwn HB3' X3 X4 X5 X6 X7 X9 X9l X9a X9b X9c X9d X9e X9fa X9fb X9fc X9fd X9fe nb hq9
 have X3 := Z3; have X4 := Z4; have X5 := Z5; have X6 := Z6; have X7 := Z7; have X9 := Z9
 clear Z3 Z4 Z5 Z6 Z7 Z9
 try clear X3l
 try clear X3a
 try clear X3b
 obtain ⟨X3l, X3a, X3b, -, -⟩ := X3.facts2
 try clear X4l
 try clear X4a
 try clear X4b
 obtain ⟨X4l, X4a, X4b, -, -⟩ := X4.facts2
 try clear X5l
 try clear X5a
 try clear X5b
 try clear X5c
 try clear X5d
 obtain ⟨X5l, X5a, X5b, X5c, X5d, -, -, -, -⟩ := X5.facts4
 try clear X9l
 try clear X9a
 try clear X9b
 try clear X9c
 try clear X9d
 try clear X9e
 try clear X9fa
 try clear X9fb
 try clear X9fc
 try clear X9fd
 try clear X9fe
 obtain ⟨X9l, X9a, X9b, X9c, X9d, X9e, X9fa, X9fb, X9fc, X9fd, X9fe⟩ := X9.facts5
 go_wp2_with fail
 refine (HB2.out _).mono ?_
 rintro e w5 ⟨rfl, hbx⟩
 replace X3 := X3.keep hbx; replace X4 := X4.keep hbx; replace X5 := X5.keep hbx; replace X6 := X6.keep hbx; replace X7 := X7.keep hbx; replace X9 := X9.keep hbx
 have HB5' := Lib.hid (bT HB4'.out hbx)
 clear hbx HB4' X3l X3a X3b X4l X4a X4b X5l X5a X5b X5c X5d X9l X9a X9b X9c X9d X9e X9fa X9fb X9fc X9fd X9fe
 try clear X9l
 try clear X9a
 try clear X9b
 try clear X9c
 try clear X9d
 try clear X9e
 try clear X9fa
 try clear X9fb
 try clear X9fc
 try clear X9fd
 try clear X9fe
 obtain ⟨X9l, X9a, X9b, X9c, X9d, X9e, X9fa, X9fb, X9fc, X9fd, X9fe⟩ := X9.facts5
 go_upto_region 6 with fail
 obtain ⟨W6, hwn⟩ : ∃ wn : World, wn = ((((w5.setCell ⟨g9, 0, none⟩ (.int .i64 l2.lo.1)).setCell ⟨g9, 1, none⟩ (.int .i64 l2.lo.2)).setCell ⟨g9, 2, none⟩ (.int .i64 l2.hi.1)).setCell ⟨g9, 3, none⟩ (.int .i64 l2.hi.2)).setCell ⟨g9, 4, none⟩ (.bool l2.none) := ⟨_, rfl⟩
 rw [← hwn]
 have Z9 : Blk W6 g9 141 #[.int .i64 l2.lo.1, .int .i64 l2.lo.2, .int .i64 l2.hi.1, .int .i64 l2.hi.2, .bool l2.none] := by rw [hwn]; exact Blk.put5 X9
 have nb : g3 ≠ g9 ∧ g4 ≠ g9 ∧ g5 ≠ g9 ∧ g6 ≠ g9 ∧ g7 ≠ g9 := by have := HG.out; omega
 have Z3 : Blk W6 g3 28 #[.int .i64 a.x, .int .i64 a.y] := by rw [hwn]; exact ((((X3.far nb.1 _).far nb.1 _).far nb.1 _).far nb.1 _).far nb.1 _
 have Z4 : Blk W6 g4 28 #[.int .i64 b.x, .int .i64 b.y] := by rw [hwn]; exact ((((X4.far nb.2.1 _).far nb.2.1 _).far nb.2.1 _).far nb.2.1 _).far nb.2.1 _
 have Z5 : Blk W6 g5 50 #[.int .i64 x.x0, .int .i64 x.y0, .int .i64 x.x1, .int .i64 x.y1] := by rw [hwn]; exact ((((X5.far nb.2.2.1 _).far nb.2.2.1 _).far nb.2.2.1 _).far nb.2.2.1 _).far nb.2.2.1 _
 have Z6 : Blk W6 g6 28 #[.int .i64 0, .int .i64 0] := by rw [hwn]; exact ((((X6.far nb.2.2.2.1 _).far nb.2.2.2.1 _).far nb.2.2.2.1 _).far nb.2.2.2.1 _).far nb.2.2.2.1 _
 have Z7 : Blk W6 g7 28 #[.int .i64 0, .int .i64 0] := by rw [hwn]; exact ((((X7.far nb.2.2.2.2 _).far nb.2.2.2.2 _).far nb.2.2.2.2 _).far nb.2.2.2.2 _).far nb.2.2.2.2 _
 have hq9 : w.heap.size ≤ g9 := by have := HG.out; omega
 have HB6' := Lib.hid (show Below w.heap.size w W6 by rw [hwn]; exact bS (bS (bS (bS (bS HB5'.out hq9 _) hq9 _) hq9 _) hq9 _) hq9 _)
 clear hwn HB5' X3 X4 X5 X6 X7 X9 X9l X9a X9b X9c X9d X9e X9fa X9fb X9fc X9fd X9fe nb hq9
 have X3 := Z3; have X4 := Z4; have X5 := Z5; have X6 := Z6; have X7 := Z7; have X9 := Z9
 clear Z3 Z4 Z5 Z6 Z7 Z9
 have HX6 := Lib.hid X6; have HX7 := Lib.hid X7; have HX9 := Lib.hid X9
 have HXX := Lib.hid (show Blk W6 g3 28 #[.int .i64 a.x, .int .i64 a.y] ∧ Blk W6 g4 28 #[.int .i64 b.x, .int .i64 b.y] ∧ Blk W6 g5 50 #[.int .i64 x.x0, .int .i64 x.y0, .int .i64 x.x1, .int .i64 x.y1] from ⟨X3, X4, X5⟩)
 have q6 : w.heap.size ≤ g6 := HG.out.1
 have q7 : w.heap.size ≤ g7 := by omega
 obtain ⟨nn, hnn⟩ : ∃ nn, l2.none = nn := ⟨_, rfl⟩
 rw [hnn] at HA1 HA2 HQ HX9 X9
 clear hnn
 obtain ⟨cc, hcc⟩ : ∃ cc, cmpF l2.lo l2.hi = cc := ⟨_, rfl⟩
 rw [hcc] at HA1 HA2 HQ HC
 clear hcc X3 X4 X5
 have hno : (nn = true ∨ 0 < cc) → clR none = q := fun h => by have := HQ.out; rwa [if_pos h] at this
 have hyes : ¬ (nn = true ∨ 0 < cc) → clR (some (pc, pd)) = q := fun h => by have := HQ.out; rwa [if_neg h] at this
 have HNo := Lib.hid hno; have HYes := Lib.hid hyes
 clear hno hyes HQ
 obtain ⟨X6l, X6a, X6b, X6fa, X6fb⟩ := X6.facts2
 obtain ⟨X7l, X7a, X7b, X7fa, X7fb⟩ := X7.facts2
 try clear X9l
 try clear X9a
 try clear X9b
 try clear X9c
 try clear X9d
 try clear X9e
 try clear X9fa
 try clear X9fb
 try clear X9fc
 try clear X9fd
 try clear X9fe
 obtain ⟨X9l, X9a, X9b, X9c, X9d, X9e, -, -, -, -, -⟩ := X9.facts5
 cases nn
 ·
  go_wp2_with fail
  refine (HC.out _).mono ?_
  rintro e w7 ⟨rfl, hb7⟩
  replace HX6 := Lib.hid (HX6.out.keep hb7); replace HX7 := Lib.hid (HX7.out.keep hb7); replace HX9 := Lib.hid (HX9.out.keep hb7)
  replace HXX := Lib.hid (show Blk w7 g3 28 #[.int .i64 a.x, .int .i64 a.y] ∧ Blk w7 g4 28 #[.int .i64 b.x, .int .i64 b.y] ∧ Blk w7 g5 50 #[.int .i64 x.x0, .int .i64 x.y0, .int .i64 x.x1, .int .i64 x.y1] from ⟨HXX.out.1.keep hb7, HXX.out.2.1.keep hb7, HXX.out.2.2.keep hb7⟩)
  have HB7' := Lib.hid (bT HB6'.out hb7)
  clear hb7 HB6' X6 X7 X9 X6l X6a X6b X6fa X6fb X7l X7a X7b X7fa X7fb X9l X9a X9b X9c X9d X9e
  have X6 := HX6.out; have X7 := HX7.out
  by_cases hc : 0 < cc
  ·
   have HF := Lib.hid (HNo.out (.inr hc))
   try clear X6l
   try clear X6a
   try clear X6b
   try clear X6fa
   try clear X6fb
   obtain ⟨X6l, X6a, X6b, X6fa, X6fb⟩ := X6.facts2
   try clear X7l
   try clear X7a
   try clear X7b
   try clear X7fa
   try clear X7fb
   obtain ⟨X7l, X7a, X7b, X7fa, X7fb⟩ := X7.facts2
   go_wp2_with fail
   refine res_cell22t (g := g6) (g' := g7) (cs := #[.int .i64 0, .int .i64 0]) (cs' := #[.int .i64 0, .int .i64 0]) rfl struct_pt struct_pt rfl rfl rfl ((HX6.out.put2.far (by first | omega | (simp; done) | (simp; omega)) _).far (by first | omega | (simp; done) | (simp; omega)) _) (((HX7.out.far (by first | omega | (simp; done) | (simp; omega)) _).far (by first | omega | (simp; done) | (simp; omega)) _).put2) ⟨by rw [← HF.out]; rfl, bS (bS (bS (bS HB7'.out q6 _) q6 _) q7 _) q7 _⟩
  ·
   have HF := Lib.hid (HYes.out (by simp [hc]))
   have HA1' := Lib.hid (fun W => HA1.out (by simp [hc]) W)
   have HA2' := Lib.hid (fun W => HA2.out (by simp [hc]) W)
   obtain ⟨X3, X4, X5⟩ := HXX.out
   have X9 := HX9.out
   obtain ⟨-, y3, y4, y5, -⟩ := HG.out
   try clear X3l
   try clear X3a
   try clear X3b
   obtain ⟨X3l, X3a, X3b, -, -⟩ := X3.facts2
   try clear X4l
   try clear X4a
   try clear X4b
   obtain ⟨X4l, X4a, X4b, -, -⟩ := X4.facts2
   try clear X5l
   try clear X5a
   try clear X5b
   try clear X5c
   try clear X5d
   obtain ⟨X5l, X5a, X5b, X5c, X5d, -, -, -, -⟩ := X5.facts4
   try clear X9l
   try clear X9a
   try clear X9b
   try clear X9c
   try clear X9d
   try clear X9e
   try clear X9fa
   try clear X9fb
   try clear X9fc
   try clear X9fd
   try clear X9fe
   obtain ⟨X9l, X9a, X9b, X9c, X9d, X9e, -, -, -, -, -⟩ := X9.facts5
   go_upto_region 8 with fail
   refine rg_start (SinceB (g6) w7) (.run 3 0 0 (.take 4 23 (.run 3 6 23 (.take 10 1495 (.two 3 1503 (.two 5 1535 (.call 9 2047 (.call 11 4095 (.call 12 8191 (.call 13 16383 (.take 14 32767 (.done)))))) 9 2015 (.call 5 2047 (.call 11 4095 (.call 12 8191 (.call 13 16383 (.take 14 32767 (.done))))))) 9 2007 (.call 3 2015 (.call 5 2047 (.call 11 4095 (.call 12 8191 (.call 13 16383 (.take 14 32767 (.done)))))))))))) (by kernel_rfl) (Below.drew (Below.refl _ _)) (by kernel_rfl) (by kernel_rfl) (Nat.le_of_ble_eq_true (by kernel_rfl)) ?_
   intro opsR QR Hops HQrg hS
   replace X9 := X9.drew
   replace X6 := X6.drew
   replace X7 := X7.drew
   iterate 8
    apply rg_pB; exact Hops; exact rfl; exact hS; exact rfl
    · intro _ hqc; go_simp; try rfl
    try simp only [pu]
   refine rg_two (i := 3) (j := 9) (get_of Hops rfl) (get_of Hops rfl) (fun K hK => ?_) (fun K hK => ?_)
   -- operation 3 first
   ·
    have HSrg := Lib.hid hS; clear hS
    refine rg_run (wanted_plain rfl) ?_
    obtain ⟨X9l, X9a, X9b, X9c, X9d, X9e, -, -, -, -, -⟩ := X9.facts5
    go_simp
    refine hK.out _ _ HSrg.out (fun hS => ?_)
    clear hK K HSrg
    try simp only [pu]
    refine rg_two (i := 5) (j := 9) (get_of Hops rfl) (get_of Hops rfl) (fun K hK => ?_) (fun K hK => ?_)
    -- operation 5 first
    ·
     have HSrg := Lib.hid hS; clear hS
     refine rg_run (wanted_plain rfl) ?_
     go_simp
     refine (HA1'.out _).mono ?_
     rintro e wr1 ⟨rfl, hbr1⟩
     have hS : SinceB (g6) w7 wr1 := (show Below (g6) w7 _ from HSrg.out).trans (hbr1.mono (Nat.le_trans (by omega) (show Below (g6) w7 _ from HSrg.out).size))
     clear HSrg
     try replace X9 := X9.keep hbr1
     try replace X6 := X6.keep hbr1
     try replace X7 := X7.keep hbr1
     refine hK.out _ _ hS (fun _ => ?_)
     clear hK K
     try simp only [pu]
     refine rg_call (i := 9) (get_of Hops rfl) (fun K hK => ?_)
     have HSrg := Lib.hid hS; clear hS
     refine rg_run (wanted_plain rfl) ?_
     obtain ⟨X9l, X9a, X9b, X9c, X9d, X9e, -, -, -, -, -⟩ := X9.facts5
     go_simp
     refine hK.out _ _ HSrg.out (fun hS => ?_)
     clear hK K HSrg
     try simp only [pu]
     refine rg_call (i := 11) (get_of Hops rfl) (fun K hK => ?_)
     have HSrg := Lib.hid hS; clear hS
     refine rg_run (wanted_plain rfl) ?_
     go_simp
     refine (HA2'.out _).mono ?_
     rintro e wr2 ⟨rfl, hbr2⟩
     have hS : SinceB (g6) w7 wr2 := (show Below (g6) w7 _ from HSrg.out).trans (hbr2.mono (Nat.le_trans (by omega) (show Below (g6) w7 _ from HSrg.out).size))
     clear HSrg
     try replace X9 := X9.keep hbr2
     try replace X6 := X6.keep hbr2
     try replace X7 := X7.keep hbr2
     refine hK.out _ _ hS (fun _ => ?_)
     clear hK K
     try simp only [pu]
     refine rg_call (i := 12) (get_of Hops rfl) (fun K hK => ?_)
     have HSrg := Lib.hid hS; clear hS
     refine rg_run (wanted_plain rfl) ?_
     obtain ⟨X6l, X6a, X6b, X6fa, X6fb⟩ := X6.facts2
     obtain ⟨X7l, X7a, X7b, X7fa, X7fb⟩ := X7.facts2
     go_simp
     refine hK.out _ _ (by unfold SinceB; have h : Below _ _ _ := HSrg.out; repeat (first | with_reducible assumption | with_reducible exact Below.refl _ _ | with_reducible refine bSB ?_ (by first | omega | (simp; omega)) _ | with_reducible refine Below.drew ?_ | with_reducible refine bAB (by omega) ?_ _ | exact h)) ?_
     intro hS
     clear hK K HSrg
     try simp only [pu]
     refine rg_call (i := 13) (get_of Hops rfl) (fun K hK => ?_)
     have HSrg := Lib.hid hS; clear hS
     refine rg_run (wanted_plain rfl) ?_
     go_simp
     refine hK.out _ _ (by unfold SinceB; have h : Below _ _ _ := HSrg.out; repeat (first | with_reducible assumption | with_reducible exact Below.refl _ _ | with_reducible refine bSB ?_ (by first | omega | (simp; omega)) _ | with_reducible refine Below.drew ?_ | with_reducible refine bAB (by omega) ?_ _ | exact h)) ?_
     intro hS
     clear hK K HSrg
     try simp only [pu]
     apply rg_pB; exact Hops; exact rfl; exact hS; exact rfl
     · intro _ hqc; go_simp; try rfl
     try simp only [pu]
     refine rg_done ?_
     refine HQrg.down _ _ ?_
     have hB : Below (g6) w7 _ := hS
     clear hS HQrg Hops
     go_wp2_with fail
     exact res_cell22t (g := g6) (g' := g7) (cs := #[.int .i64 pc.x, .int .i64 pc.y]) (cs' := #[.int .i64 pd.x, .int .i64 pd.y]) rfl struct_pt struct_pt rfl rfl rfl ((X6.put2.far (by first | omega | (simp; done) | (simp; omega)) _).far (by first | omega | (simp; done) | (simp; omega)) _) (((X7.far (by first | omega | (simp; done) | (simp; omega)) _).far (by first | omega | (simp; done) | (simp; omega)) _).put2) ⟨by rw [← HF.out]; rfl, HB7'.out.trans (hB.mono q6)⟩
    -- operation 9 first
    ·
     have HSrg := Lib.hid hS; clear hS
     refine rg_run (wanted_plain rfl) ?_
     obtain ⟨X9l, X9a, X9b, X9c, X9d, X9e, -, -, -, -, -⟩ := X9.facts5
     go_simp
     refine hK.out _ _ HSrg.out (fun hS => ?_)
     clear hK K HSrg
     try simp only [pu]
     refine rg_call (i := 5) (get_of Hops rfl) (fun K hK => ?_)
     have HSrg := Lib.hid hS; clear hS
     refine rg_run (wanted_plain rfl) ?_
     go_simp
     refine (HA1'.out _).mono ?_
     rintro e wr1 ⟨rfl, hbr1⟩
     have hS : SinceB (g6) w7 wr1 := (show Below (g6) w7 _ from HSrg.out).trans (hbr1.mono (Nat.le_trans (by omega) (show Below (g6) w7 _ from HSrg.out).size))
     clear HSrg
     try replace X9 := X9.keep hbr1
     try replace X6 := X6.keep hbr1
     try replace X7 := X7.keep hbr1
     refine hK.out _ _ hS (fun _ => ?_)
     clear hK K
     try simp only [pu]
     refine rg_call (i := 11) (get_of Hops rfl) (fun K hK => ?_)
     have HSrg := Lib.hid hS; clear hS
     refine rg_run (wanted_plain rfl) ?_
     go_simp
     refine (HA2'.out _).mono ?_
     rintro e wr2 ⟨rfl, hbr2⟩
     have hS : SinceB (g6) w7 wr2 := (show Below (g6) w7 _ from HSrg.out).trans (hbr2.mono (Nat.le_trans (by omega) (show Below (g6) w7 _ from HSrg.out).size))
     clear HSrg
     try replace X9 := X9.keep hbr2
     try replace X6 := X6.keep hbr2
     try replace X7 := X7.keep hbr2
     refine hK.out _ _ hS (fun _ => ?_)
     clear hK K
     try simp only [pu]
     refine rg_call (i := 12) (get_of Hops rfl) (fun K hK => ?_)
     have HSrg := Lib.hid hS; clear hS
     refine rg_run (wanted_plain rfl) ?_
     obtain ⟨X6l, X6a, X6b, X6fa, X6fb⟩ := X6.facts2
     obtain ⟨X7l, X7a, X7b, X7fa, X7fb⟩ := X7.facts2
     go_simp
     refine hK.out _ _ (by unfold SinceB; have h : Below _ _ _ := HSrg.out; repeat (first | with_reducible assumption | with_reducible exact Below.refl _ _ | with_reducible refine bSB ?_ (by first | omega | (simp; omega)) _ | with_reducible refine Below.drew ?_ | with_reducible refine bAB (by omega) ?_ _ | exact h)) ?_
     intro hS
     clear hK K HSrg
     try simp only [pu]
     refine rg_call (i := 13) (get_of Hops rfl) (fun K hK => ?_)
     have HSrg := Lib.hid hS; clear hS
     refine rg_run (wanted_plain rfl) ?_
     go_simp
     refine hK.out _ _ (by unfold SinceB; have h : Below _ _ _ := HSrg.out; repeat (first | with_reducible assumption | with_reducible exact Below.refl _ _ | with_reducible refine bSB ?_ (by first | omega | (simp; omega)) _ | with_reducible refine Below.drew ?_ | with_reducible refine bAB (by omega) ?_ _ | exact h)) ?_
     intro hS
     clear hK K HSrg
     try simp only [pu]
     apply rg_pB; exact Hops; exact rfl; exact hS; exact rfl
     · intro _ hqc; go_simp; try rfl
     try simp only [pu]
     refine rg_done ?_
     refine HQrg.down _ _ ?_
     have hB : Below (g6) w7 _ := hS
     clear hS HQrg Hops
     go_wp2_with fail
     exact res_cell22t (g := g6) (g' := g7) (cs := #[.int .i64 pc.x, .int .i64 pc.y]) (cs' := #[.int .i64 pd.x, .int .i64 pd.y]) rfl struct_pt struct_pt rfl rfl rfl ((X6.put2.far (by first | omega | (simp; done) | (simp; omega)) _).far (by first | omega | (simp; done) | (simp; omega)) _) (((X7.far (by first | omega | (simp; done) | (simp; omega)) _).far (by first | omega | (simp; done) | (simp; omega)) _).put2) ⟨by rw [← HF.out]; rfl, HB7'.out.trans (hB.mono q6)⟩
   -- operation 9 first
   ·
    have HSrg := Lib.hid hS; clear hS
    refine rg_run (wanted_plain rfl) ?_
    obtain ⟨X9l, X9a, X9b, X9c, X9d, X9e, -, -, -, -, -⟩ := X9.facts5
    go_simp
    refine hK.out _ _ HSrg.out (fun hS => ?_)
    clear hK K HSrg
    try simp only [pu]
    refine rg_call (i := 3) (get_of Hops rfl) (fun K hK => ?_)
    have HSrg := Lib.hid hS; clear hS
    refine rg_run (wanted_plain rfl) ?_
    obtain ⟨X9l, X9a, X9b, X9c, X9d, X9e, -, -, -, -, -⟩ := X9.facts5
    go_simp
    refine hK.out _ _ HSrg.out (fun hS => ?_)
    clear hK K HSrg
    try simp only [pu]
    refine rg_call (i := 5) (get_of Hops rfl) (fun K hK => ?_)
    have HSrg := Lib.hid hS; clear hS
    refine rg_run (wanted_plain rfl) ?_
    go_simp
    refine (HA1'.out _).mono ?_
    rintro e wr1 ⟨rfl, hbr1⟩
    have hS : SinceB (g6) w7 wr1 := (show Below (g6) w7 _ from HSrg.out).trans (hbr1.mono (Nat.le_trans (by omega) (show Below (g6) w7 _ from HSrg.out).size))
    clear HSrg
    try replace X9 := X9.keep hbr1
    try replace X6 := X6.keep hbr1
    try replace X7 := X7.keep hbr1
    refine hK.out _ _ hS (fun _ => ?_)
    clear hK K
    try simp only [pu]
    refine rg_call (i := 11) (get_of Hops rfl) (fun K hK => ?_)
    have HSrg := Lib.hid hS; clear hS
    refine rg_run (wanted_plain rfl) ?_
    go_simp
    refine (HA2'.out _).mono ?_
    rintro e wr2 ⟨rfl, hbr2⟩
    have hS : SinceB (g6) w7 wr2 := (show Below (g6) w7 _ from HSrg.out).trans (hbr2.mono (Nat.le_trans (by omega) (show Below (g6) w7 _ from HSrg.out).size))
    clear HSrg
    try replace X9 := X9.keep hbr2
    try replace X6 := X6.keep hbr2
    try replace X7 := X7.keep hbr2
    refine hK.out _ _ hS (fun _ => ?_)
    clear hK K
    try simp only [pu]
    refine rg_call (i := 12) (get_of Hops rfl) (fun K hK => ?_)
    have HSrg := Lib.hid hS; clear hS
    refine rg_run (wanted_plain rfl) ?_
    obtain ⟨X6l, X6a, X6b, X6fa, X6fb⟩ := X6.facts2
    obtain ⟨X7l, X7a, X7b, X7fa, X7fb⟩ := X7.facts2
    go_simp
    refine hK.out _ _ (by unfold SinceB; have h : Below _ _ _ := HSrg.out; repeat (first | with_reducible assumption | with_reducible exact Below.refl _ _ | with_reducible refine bSB ?_ (by first | omega | (simp; omega)) _ | with_reducible refine Below.drew ?_ | with_reducible refine bAB (by omega) ?_ _ | exact h)) ?_
    intro hS
    clear hK K HSrg
    try simp only [pu]
    refine rg_call (i := 13) (get_of Hops rfl) (fun K hK => ?_)
    have HSrg := Lib.hid hS; clear hS
    refine rg_run (wanted_plain rfl) ?_
    go_simp
    refine hK.out _ _ (by unfold SinceB; have h : Below _ _ _ := HSrg.out; repeat (first | with_reducible assumption | with_reducible exact Below.refl _ _ | with_reducible refine bSB ?_ (by first | omega | (simp; omega)) _ | with_reducible refine Below.drew ?_ | with_reducible refine bAB (by omega) ?_ _ | exact h)) ?_
    intro hS
    clear hK K HSrg
    try simp only [pu]
    apply rg_pB; exact Hops; exact rfl; exact hS; exact rfl
    · intro _ hqc; go_simp; try rfl
    try simp only [pu]
    refine rg_done ?_
    refine HQrg.down _ _ ?_
    have hB : Below (g6) w7 _ := hS
    clear hS HQrg Hops
    go_wp2_with fail
    exact res_cell22t (g := g6) (g' := g7) (cs := #[.int .i64 pc.x, .int .i64 pc.y]) (cs' := #[.int .i64 pd.x, .int .i64 pd.y]) rfl struct_pt struct_pt rfl rfl rfl ((X6.put2.far (by first | omega | (simp; done) | (simp; omega)) _).far (by first | omega | (simp; done) | (simp; omega)) _) (((X7.far (by first | omega | (simp; done) | (simp; omega)) _).far (by first | omega | (simp; done) | (simp; omega)) _).put2) ⟨by rw [← HF.out]; rfl, HB7'.out.trans (hB.mono q6)⟩
 ·
  have HF := Lib.hid (HNo.out (.inl rfl))
  go_wp2_with fail
  refine res_cell22t (g := g6) (g' := g7) (cs := #[.int .i64 0, .int .i64 0]) (cs' := #[.int .i64 0, .int .i64 0]) rfl struct_pt struct_pt rfl rfl rfl ((HX6.out.put2.far (by first | omega | (simp; done) | (simp; omega)) _).far (by first | omega | (simp; done) | (simp; omega)) _) (((HX7.out.far (by first | omega | (simp; done) | (simp; omega)) _).far (by first | omega | (simp; done) | (simp; omega)) _).put2) ⟨by rw [← HF.out]; rfl, bS (bS (bS (bS HB6'.out q6 _) q6 _) q7 _) q7 _⟩
end Go.Proofs.YtfondidmklmonaaGreat
