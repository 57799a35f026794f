/- mapsheetslaw41.bounds: the smallest box of points. -/
import Derived.Test.YtfondidmklmonaaGreatJ22
import Derived.Test.YtfondidmklmonaaGreatJ18
import Derived.Test.YtfondidmklmonaaGreatGG
set_option linter.unusedSimpArgs false
set_option linter.unusedVariables false
namespace Go.Proofs.YtfondidmklmonaaGreat
open Go.RowKit

theorem struct_bx41 : StructOf Tryz.prog 50 4 := .mk_ Tryz.underlying50 (by kernel_rfl)
set_option maxRecDepth 100000 in
set_option maxHeartbeats 8000000 in
theorem bounds41_spec (v : Value) (l : List Pt) (w : World) (h : Pts w v l) (hpos : 0 < l.length) :
  Calls Tryz.prog 27 #[v] w fun e w' => e = .returned (bxV (bdBox l)) ∧ Below w.heap.size w w' := by
 obtain ⟨A, c, rfl, h1, h2, hR⟩ := h
 unfold maxLen at h2
 obtain ⟨b, o, rfl, hlb, hc⟩ := hR.ptsAll hpos
 obtain ⟨u0, u1⟩ := hc 0 hpos
 simp only [Nat.zero_mul, Nat.add_zero] at u0 u1
 obtain ⟨r, hr⟩ : ∃ r, bdBox l = r := ⟨_, rfl⟩
 rw [hr]
 have HR := Lib.hid (show l.foldl addB ⟨l[0].x, l[0].y, l[0].x, l[0].y⟩ = r by
  rw [← hr]
  cases l with
  | nil => simp at hpos
  | cons p l =>
   show l.foldl addB (addB ⟨p.x, p.y, p.x, p.y⟩ p) = l.foldl addB ⟨p.x, p.y, p.x, p.y⟩
   congr 1
   unfold addB
   simp)
 have HC := Lib.hid hc
 obtain ⟨ln, hln⟩ : ∃ ln, l.length = ln := ⟨_, rfl⟩
 have HLn := Lib.hid hln
 rw [hln] at h1 hpos ⊢
 obtain ⟨p0, hp0⟩ : ∃ p, l[0] = p := ⟨_, rfl⟩
 rw [hp0] at u0 u1 HR
 clear hr hc hR hp0 hln
 have v1 : (0 : Int) < ln := by omega
 have v2 : ((ln : Int) == 0) = false := by simp; omega
 have v3 : ¬ ln = 0 := by omega
 unfold bxV
 obtain ⟨g2, hg2⟩ : ∃ g, w.heap.size = g := ⟨_, rfl⟩
 obtain ⟨W, hW⟩ : ∃ W : World, W = w.alloc (.cells #[.int .i64 0, .int .i64 0, .int .i64 0, .int .i64 0] 50) := ⟨_, rfl⟩
 have hA : Below w.heap.size w W := by rw [hW]; exact bA (bR w) _
 have X2 : Blk W g2 50 #[.int .i64 0, .int .i64 0, .int .i64 0, .int .i64 0] := by rw [hW]; exact Blk.made hg2.symm _ _
 have HB := Lib.hid hA
 have HX2 := Lib.hid X2
 go_enter Tryz.func27, Tryz.ntmps27
 go_upto_region 3 with fail
 try rw [← hW]
 have hgw : w.heap.size ≤ g2 := by omega
 have hbg : b < g2 := by omega
 have hbW : b < W.heap.size := Nat.lt_of_lt_of_le hlb hA.size
 replace u0 := keepc hA u0
 replace u1 := keepc hA u1
 clear hW hg2 hA
 go_cut [3] (fun u wx => ∃ g3, u = .pointer (some ⟨g3, 0, none⟩) ∧ Blk wx g3 50 #[.int .i64 p0.x, .int .i64 p0.y, .int .i64 p0.x, .int .i64 p0.y] ∧ W.heap.size ≤ g3 ∧ Below W.heap.size W wx)
 case first =>
  refine rg_start (SinceB (W.heap.size) W) (.run 17 0 0 (.call 17 262143 (.call 18 524287 (.done)))) (by kernel_rfl) (Below.drew (Below.refl _ _)) (by kernel_rfl) (by kernel_rfl) (Nat.le_of_ble_eq_true (by kernel_rfl)) ?_
  intro opsR QR Hops HQrg hS
  iterate 17
   apply rg_pB; exact Hops; exact rfl; exact hS; exact rfl
   · intro _ hqc; go_simp; try rfl
   try simp only [pu]
  refine rg_call (i := 17) (get_of Hops rfl) (fun K hK => ?_)
  have HSrg := Lib.hid hS; clear hS
  refine rg_run (wanted_plain rfl) ?_
  go_simp
  have XQy : Below (W.heap.size) W (W.drew) := HSrg.out
  have XQz : W.heap.size ≤ (W.drew).heap.size := Nat.le_trans (by omega) (show Below (W.heap.size) W (W.drew) from HSrg.out).size
  refine hK.out _ _ (bAB (by omega) HSrg.out _) (fun hS => ?_)
  clear hK K HSrg
  try replace XQ := XQ.alloc (.cells #[.int .i64 0, .int .i64 0, .int .i64 0, .int .i64 0] 50)
  have XQ := Blk.new (W.drew) 50 #[.int .i64 0, .int .i64 0, .int .i64 0, .int .i64 0]
  try simp only [World.size_drew] at XQ XQz
  try simp only [pu]
  refine rg_call (i := 18) (get_of Hops rfl) (fun K hK => ?_)
  have HSrg := Lib.hid hS; clear hS
  refine rg_run (wanted_plain rfl) ?_
  obtain ⟨XQl, XQa, XQb, XQc, XQd, XQe, XQf, XQg, XQh⟩ := XQ.facts4
  go_simp
  refine hK.out _ _ (by unfold SinceB; have h : Below _ _ _ := HSrg.out; repeat (first | with_reducible assumption | with_reducible exact Below.refl _ _ | with_reducible refine bSB ?_ (by first | omega | (simp; omega)) _ | with_reducible refine Below.drew ?_ | with_reducible refine bAB (by omega) ?_ _ | exact h)) ?_
  intro hS
  clear hK K HSrg
  try simp only [pu]
  refine rg_done ?_
  refine HQrg.down _ _ ?_
  have hB : Below (W.heap.size) W _ := hS
  clear hS HQrg Hops
  go_wp2_with fail
  go_meet
  case rel => exact ⟨_, rfl, (by first | with_reducible exact Blk.put4 XQ | with_reducible exact Blk.made rfl _ _ | with_reducible exact Blk.drew (Blk.made rfl _ _)), (by first | omega | (simp; done) | (simp; omega)), hB⟩
 case rest =>
 obtain ⟨g3, rfl, X3, hg3, hb3⟩ := hcut
 obtain ⟨W3, hW3⟩ : ∃ W3 : World, W3 = wc := ⟨_, rfl⟩
 rw [← hW3] at X3 hb3 ⊢
 have HB3 := Lib.hid (bT HB.out hb3)
 have HX23 := Lib.hid (HX2.out.keep hb3)
 have HX3 := Lib.hid X3
 have hg23 : g2 < g3 := by have := HX2.out.lt; omega
 have hgw3 : w.heap.size ≤ g3 := by omega
 have hb3' : b < g3 := by omega
 clear hW3 hb3 X3 X2 u0 u1 hbW
 go_wp2_with fail
 go_loopw [4] (fun u wr => ∃ (k : Nat) (x : Bx), k ≤ ln ∧ u = .int .i64 k ∧ x = (l.take k).foldl addB ⟨p0.x, p0.y, p0.x, p0.y⟩ ∧ Blk wr g3 50 #[.int .i64 x.x0, .int .i64 x.y0, .int .i64 x.x1, .int .i64 x.y1] ∧ Below g3 W3 wr) (fun u _ => ln - (intOf u).toNat)
 case atStart => exact ⟨0, ⟨p0.x, p0.y, p0.x, p0.y⟩, Nat.zero_le _, rfl, rfl, HX3.out, Below.refl _ _⟩
 case round =>
  obtain ⟨k, x, hk, rfl, hx, X3, hb⟩ := hrel
  have Hb := Lib.hid hb; have HX := Lib.hid hx; have HX3r := Lib.hid X3
  have l3 := X3.lt
  have HBw := Lib.hid (show Below w.heap.size w wr from HB3.out.trans (hb.mono hgw3))
  clear hb hx
  by_cases hlt : k < ln
  ·
   have hkl : k < l.length := by rw [HLn.out]; exact hlt
   obtain ⟨c0, c1⟩ := HC.out k hkl
   replace c0 := keepc HBw.out c0
   replace c1 := keepc HBw.out c1
   have hst : (l.take (k + 1)).foldl addB ⟨p0.x, p0.y, p0.x, p0.y⟩ = addB x l[k] := by
    rw [List.take_succ_eq_append_getElem hkl, List.foldl_append, ← HX.out]; rfl
   unfold addB at hst
   have HSt := Lib.hid hst
   obtain ⟨q, hq⟩ : ∃ q, l[k] = q := ⟨_, rfl⟩
   rw [hq] at c0 c1 HSt
   clear hq hst hkl
   have hbr : b < wr.heap.size := by omega
   have hne : some b ≠ some g3 := fun e => by have := Option.some.inj e; omega
   have r1 : 0 ≤ (k : Int) := by omega
   have r2 : (k : Int) < ln := by omega
   obtain ⟨X3l, X3a, X3b, X3c, X3d, X3fa, X3fb, X3fc, X3fd⟩ := X3.facts4
   go_upto_region 7 with fail
   refine rt_start (SinceX wr (some g3)) (.take 0 1 (.run 5 2 1 (.take 8 381 (.run 5 10 381 (.take 16 97661 (.run 5 18 97661 (.take 24 25001341 (.run 5 26 25001341 (.four 1 2105376127 (.take 7 2105376255 (.three 9 2105376767 (.take 15 2105409535 (.two 17 2105540607 (.take 23 2113929215 (.call 25 2147483647 (.take 31 4294967295 (.take 32 8589934591 (.call 33 17179869183 (.done)))))) 25 2138963967 (.take 31 4286447615 (.call 17 4286578687 (.take 23 4294967295 (.take 32 8589934591 (.call 33 17179869183 (.done)))))))) 17 2105507327 (.take 23 2113895935 (.two 9 2113896447 (.take 15 2113929215 (.call 25 2147483647 (.take 31 4294967295 (.take 32 8589934591 (.call 33 17179869183 (.done)))))) 25 2147450367 (.take 31 4294934015 (.call 9 4294934527 (.take 15 4294967295 (.take 32 8589934591 (.call 33 17179869183 (.done)))))))) 25 2138930687 (.take 31 4286414335 (.two 9 4286414847 (.take 15 4286447615 (.call 17 4286578687 (.take 23 4294967295 (.take 32 8589934591 (.call 33 17179869183 (.done)))))) 17 4286545407 (.take 23 4294934015 (.call 9 4294934527 (.take 15 4294967295 (.take 32 8589934591 (.call 33 17179869183 (.done)))))))))) 9 2105376637 (.take 15 2105409405 (.three 1 2105409407 (.take 7 2105409535 (.two 17 2105540607 (.take 23 2113929215 (.call 25 2147483647 (.take 31 4294967295 (.take 32 8589934591 (.call 33 17179869183 (.done)))))) 25 2138963967 (.take 31 4286447615 (.call 17 4286578687 (.take 23 4294967295 (.take 32 8589934591 (.call 33 17179869183 (.done)))))))) 17 2105540477 (.take 23 2113929085 (.two 1 2113929087 (.take 7 2113929215 (.call 25 2147483647 (.take 31 4294967295 (.take 32 8589934591 (.call 33 17179869183 (.done)))))) 25 2147483517 (.take 31 4294967165 (.call 1 4294967167 (.take 7 4294967295 (.take 32 8589934591 (.call 33 17179869183 (.done)))))))) 25 2138963837 (.take 31 4286447485 (.two 1 4286447487 (.take 7 4286447615 (.call 17 4286578687 (.take 23 4294967295 (.take 32 8589934591 (.call 33 17179869183 (.done)))))) 17 4286578557 (.take 23 4294967165 (.call 1 4294967167 (.take 7 4294967295 (.take 32 8589934591 (.call 33 17179869183 (.done)))))))))) 17 2105507197 (.take 23 2113895805 (.three 1 2113895807 (.take 7 2113895935 (.two 9 2113896447 (.take 15 2113929215 (.call 25 2147483647 (.take 31 4294967295 (.take 32 8589934591 (.call 33 17179869183 (.done)))))) 25 2147450367 (.take 31 4294934015 (.call 9 4294934527 (.take 15 4294967295 (.take 32 8589934591 (.call 33 17179869183 (.done)))))))) 9 2113896317 (.take 15 2113929085 (.two 1 2113929087 (.take 7 2113929215 (.call 25 2147483647 (.take 31 4294967295 (.take 32 8589934591 (.call 33 17179869183 (.done)))))) 25 2147483517 (.take 31 4294967165 (.call 1 4294967167 (.take 7 4294967295 (.take 32 8589934591 (.call 33 17179869183 (.done)))))))) 25 2147450237 (.take 31 4294933885 (.two 1 4294933887 (.take 7 4294934015 (.call 9 4294934527 (.take 15 4294967295 (.take 32 8589934591 (.call 33 17179869183 (.done)))))) 9 4294934397 (.take 15 4294967165 (.call 1 4294967167 (.take 7 4294967295 (.take 32 8589934591 (.call 33 17179869183 (.done)))))))))) 25 2138930557 (.take 31 4286414205 (.three 1 4286414207 (.take 7 4286414335 (.two 9 4286414847 (.take 15 4286447615 (.call 17 4286578687 (.take 23 4294967295 (.take 32 8589934591 (.call 33 17179869183 (.done)))))) 17 4286545407 (.take 23 4294934015 (.call 9 4294934527 (.take 15 4294967295 (.take 32 8589934591 (.call 33 17179869183 (.done)))))))) 9 4286414717 (.take 15 4286447485 (.two 1 4286447487 (.take 7 4286447615 (.call 17 4286578687 (.take 23 4294967295 (.take 32 8589934591 (.call 33 17179869183 (.done)))))) 17 4286578557 (.take 23 4294967165 (.call 1 4294967167 (.take 7 4294967295 (.take 32 8589934591 (.call 33 17179869183 (.done)))))))) 17 4286545277 (.take 23 4294933885 (.two 1 4294933887 (.take 7 4294934015 (.call 9 4294934527 (.take 15 4294967295 (.take 32 8589934591 (.call 33 17179869183 (.done)))))) 9 4294934397 (.take 15 4294967165 (.call 1 4294967167 (.take 7 4294967295 (.take 32 8589934591 (.call 33 17179869183 (.done))))))))))))))))))) (by kernel_rfl) (gD (gR _ _)) (by kernel_rfl) (by kernel_rfl) (Nat.le_of_ble_eq_true (by kernel_rfl)) ?_
   intro opsR QR Hops HQrg hS
   iterate 24
    apply rt_pX; exact Hops; exact rfl; exact hS; exact rfl
    · intro _ hqc; go_simp; try rfl
    try simp only [pu]
   refine rt_four (i := 1) (j := 9) (k := 17) (n := 25) (get_of Hops rfl) (get_of Hops rfl) (get_of Hops rfl) (get_of Hops rfl) (fun K hK => ?_) (fun K hK => ?_) (fun K hK => ?_) (fun K hK => ?_)
   -- operation 1 first
   ·
    have HSrg := Lib.hid hS; clear hS
    refine rg_run (wanted_plain rfl) ?_
    go_simp
    refine hK.out _ _ HSrg.out (fun hS => ?_)
    clear hK K HSrg
    try simp only [pu]
    apply rt_pX; exact Hops; exact rfl; exact hS; exact rfl
    · intro _ hqc; go_simp; try rfl
    try simp only [pu]
    refine rt_three (i := 9) (j := 17) (k := 25) (get_of Hops rfl) (get_of Hops rfl) (get_of Hops rfl) (fun K hK => ?_) (fun K hK => ?_) (fun K hK => ?_)
    -- operation 9 first
    ·
     have HSrg := Lib.hid hS; clear hS
     refine rg_run (wanted_plain rfl) ?_
     go_simp
     refine hK.out _ _ HSrg.out (fun hS => ?_)
     clear hK K HSrg
     try simp only [pu]
     apply rt_pX; exact Hops; exact rfl; exact hS; exact rfl
     · intro _ hqc; go_simp; try rfl
     try simp only [pu]
     refine rt_two (i := 17) (j := 25) (get_of Hops rfl) (get_of Hops rfl) (fun K hK => ?_) (fun K hK => ?_)
     -- operation 17 first
     ·
      have HSrg := Lib.hid hS; clear hS
      refine rg_run (wanted_plain rfl) ?_
      go_simp
      refine hK.out _ _ HSrg.out (fun hS => ?_)
      clear hK K HSrg
      try simp only [pu]
      apply rt_pX; exact Hops; exact rfl; exact hS; exact rfl
      · intro _ hqc; go_simp; try rfl
      try simp only [pu]
      refine rt_call (i := 25) (get_of Hops rfl) (fun K hK => ?_)
      have HSrg := Lib.hid hS; clear hS
      refine rg_run (wanted_plain rfl) ?_
      go_simp
      refine hK.out _ _ HSrg.out (fun hS => ?_)
      clear hK K HSrg
      try simp only [pu]
      iterate 2
       apply rt_pX; exact Hops; exact rfl; exact hS; exact rfl
       · intro _ hqc; go_simp; try rfl
       try simp only [pu]
      refine rt_call (i := 33) (get_of Hops rfl) (fun K hK => ?_)
      have HSrg := Lib.hid hS; clear hS
      refine rg_run (wanted_plain rfl) ?_
      go_simp
      refine hK.out _ _ (by first | exact gS HSrg.out _ _ | (unfold SinceX; have hS9 : World.grownBy _ _ _ := HSrg.out; repeat (first | with_reducible assumption | with_reducible exact World.grownBy.refl _ _ | with_reducible refine gS ?_ _ _ | with_reducible refine gD ?_ | with_reducible refine gA ?_ _))) (fun hS => ?_)
      clear hK K HSrg
      try simp only [pu]
      refine rt_done ?_
      refine HQrg.down _ _ ?_
      have hB : wr.grownBy _ (some g3) := hS
      clear hS HQrg Hops
      go_wp2_with fail
      go_roundw
      case rel => exact ⟨k + 1, ⟨min x.x0 q.x, min x.y0 q.y, max x.x1 q.x, max x.y1 q.y⟩, by omega, by go_num, HSt.out.symm, (HX3r.out.drew).put4, Hb.out.trans ((Below.refl g3 wr).grown hB (Nat.le_of_lt l3) (fun k hk => Nat.le_of_eq (Option.some.inj hk)))⟩
      case measure => simp [intOf]; omega
     -- operation 25 first
     ·
      have HSrg := Lib.hid hS; clear hS
      refine rg_run (wanted_plain rfl) ?_
      go_simp
      refine hK.out _ _ HSrg.out (fun hS => ?_)
      clear hK K HSrg
      try simp only [pu]
      apply rt_pX; exact Hops; exact rfl; exact hS; exact rfl
      · intro _ hqc; go_simp; try rfl
      try simp only [pu]
      refine rt_call (i := 17) (get_of Hops rfl) (fun K hK => ?_)
      have HSrg := Lib.hid hS; clear hS
      refine rg_run (wanted_plain rfl) ?_
      go_simp
      refine hK.out _ _ HSrg.out (fun hS => ?_)
      clear hK K HSrg
      try simp only [pu]
      iterate 2
       apply rt_pX; exact Hops; exact rfl; exact hS; exact rfl
       · intro _ hqc; go_simp; try rfl
       try simp only [pu]
      refine rt_call (i := 33) (get_of Hops rfl) (fun K hK => ?_)
      have HSrg := Lib.hid hS; clear hS
      refine rg_run (wanted_plain rfl) ?_
      go_simp
      refine hK.out _ _ (by first | exact gS HSrg.out _ _ | (unfold SinceX; have hS9 : World.grownBy _ _ _ := HSrg.out; repeat (first | with_reducible assumption | with_reducible exact World.grownBy.refl _ _ | with_reducible refine gS ?_ _ _ | with_reducible refine gD ?_ | with_reducible refine gA ?_ _))) (fun hS => ?_)
      clear hK K HSrg
      try simp only [pu]
      refine rt_done ?_
      refine HQrg.down _ _ ?_
      have hB : wr.grownBy _ (some g3) := hS
      clear hS HQrg Hops
      go_wp2_with fail
      go_roundw
      case rel => exact ⟨k + 1, ⟨min x.x0 q.x, min x.y0 q.y, max x.x1 q.x, max x.y1 q.y⟩, by omega, by go_num, HSt.out.symm, (HX3r.out.drew).put4, Hb.out.trans ((Below.refl g3 wr).grown hB (Nat.le_of_lt l3) (fun k hk => Nat.le_of_eq (Option.some.inj hk)))⟩
      case measure => simp [intOf]; omega
    -- operation 17 first
    ·
     have HSrg := Lib.hid hS; clear hS
     refine rg_run (wanted_plain rfl) ?_
     go_simp
     refine hK.out _ _ HSrg.out (fun hS => ?_)
     clear hK K HSrg
     try simp only [pu]
     apply rt_pX; exact Hops; exact rfl; exact hS; exact rfl
     · intro _ hqc; go_simp; try rfl
     try simp only [pu]
     refine rt_two (i := 9) (j := 25) (get_of Hops rfl) (get_of Hops rfl) (fun K hK => ?_) (fun K hK => ?_)
     -- operation 9 first
     ·
      have HSrg := Lib.hid hS; clear hS
      refine rg_run (wanted_plain rfl) ?_
      go_simp
      refine hK.out _ _ HSrg.out (fun hS => ?_)
      clear hK K HSrg
      try simp only [pu]
      apply rt_pX; exact Hops; exact rfl; exact hS; exact rfl
      · intro _ hqc; go_simp; try rfl
      try simp only [pu]
      refine rt_call (i := 25) (get_of Hops rfl) (fun K hK => ?_)
      have HSrg := Lib.hid hS; clear hS
      refine rg_run (wanted_plain rfl) ?_
      go_simp
      refine hK.out _ _ HSrg.out (fun hS => ?_)
      clear hK K HSrg
      try simp only [pu]
      iterate 2
       apply rt_pX; exact Hops; exact rfl; exact hS; exact rfl
       · intro _ hqc; go_simp; try rfl
       try simp only [pu]
      refine rt_call (i := 33) (get_of Hops rfl) (fun K hK => ?_)
      have HSrg := Lib.hid hS; clear hS
      refine rg_run (wanted_plain rfl) ?_
      go_simp
      refine hK.out _ _ (by first | exact gS HSrg.out _ _ | (unfold SinceX; have hS9 : World.grownBy _ _ _ := HSrg.out; repeat (first | with_reducible assumption | with_reducible exact World.grownBy.refl _ _ | with_reducible refine gS ?_ _ _ | with_reducible refine gD ?_ | with_reducible refine gA ?_ _))) (fun hS => ?_)
      clear hK K HSrg
      try simp only [pu]
      refine rt_done ?_
      refine HQrg.down _ _ ?_
      have hB : wr.grownBy _ (some g3) := hS
      clear hS HQrg Hops
      go_wp2_with fail
      go_roundw
      case rel => exact ⟨k + 1, ⟨min x.x0 q.x, min x.y0 q.y, max x.x1 q.x, max x.y1 q.y⟩, by omega, by go_num, HSt.out.symm, (HX3r.out.drew).put4, Hb.out.trans ((Below.refl g3 wr).grown hB (Nat.le_of_lt l3) (fun k hk => Nat.le_of_eq (Option.some.inj hk)))⟩
      case measure => simp [intOf]; omega
     -- operation 25 first
     ·
      have HSrg := Lib.hid hS; clear hS
      refine rg_run (wanted_plain rfl) ?_
      go_simp
      refine hK.out _ _ HSrg.out (fun hS => ?_)
      clear hK K HSrg
      try simp only [pu]
      apply rt_pX; exact Hops; exact rfl; exact hS; exact rfl
      · intro _ hqc; go_simp; try rfl
      try simp only [pu]
      refine rt_call (i := 9) (get_of Hops rfl) (fun K hK => ?_)
      have HSrg := Lib.hid hS; clear hS
      refine rg_run (wanted_plain rfl) ?_
      go_simp
      refine hK.out _ _ HSrg.out (fun hS => ?_)
      clear hK K HSrg
      try simp only [pu]
      iterate 2
       apply rt_pX; exact Hops; exact rfl; exact hS; exact rfl
       · intro _ hqc; go_simp; try rfl
       try simp only [pu]
      refine rt_call (i := 33) (get_of Hops rfl) (fun K hK => ?_)
      have HSrg := Lib.hid hS; clear hS
      refine rg_run (wanted_plain rfl) ?_
      go_simp
      refine hK.out _ _ (by first | exact gS HSrg.out _ _ | (unfold SinceX; have hS9 : World.grownBy _ _ _ := HSrg.out; repeat (first | with_reducible assumption | with_reducible exact World.grownBy.refl _ _ | with_reducible refine gS ?_ _ _ | with_reducible refine gD ?_ | with_reducible refine gA ?_ _))) (fun hS => ?_)
      clear hK K HSrg
      try simp only [pu]
      refine rt_done ?_
      refine HQrg.down _ _ ?_
      have hB : wr.grownBy _ (some g3) := hS
      clear hS HQrg Hops
      go_wp2_with fail
      go_roundw
      case rel => exact ⟨k + 1, ⟨min x.x0 q.x, min x.y0 q.y, max x.x1 q.x, max x.y1 q.y⟩, by omega, by go_num, HSt.out.symm, (HX3r.out.drew).put4, Hb.out.trans ((Below.refl g3 wr).grown hB (Nat.le_of_lt l3) (fun k hk => Nat.le_of_eq (Option.some.inj hk)))⟩
      case measure => simp [intOf]; omega
    -- operation 25 first
    ·
     have HSrg := Lib.hid hS; clear hS
     refine rg_run (wanted_plain rfl) ?_
     go_simp
     refine hK.out _ _ HSrg.out (fun hS => ?_)
     clear hK K HSrg
     try simp only [pu]
     apply rt_pX; exact Hops; exact rfl; exact hS; exact rfl
     · intro _ hqc; go_simp; try rfl
     try simp only [pu]
     refine rt_two (i := 9) (j := 17) (get_of Hops rfl) (get_of Hops rfl) (fun K hK => ?_) (fun K hK => ?_)
     -- operation 9 first
     ·
      have HSrg := Lib.hid hS; clear hS
      refine rg_run (wanted_plain rfl) ?_
      go_simp
      refine hK.out _ _ HSrg.out (fun hS => ?_)
      clear hK K HSrg
      try simp only [pu]
      apply rt_pX; exact Hops; exact rfl; exact hS; exact rfl
      · intro _ hqc; go_simp; try rfl
      try simp only [pu]
      refine rt_call (i := 17) (get_of Hops rfl) (fun K hK => ?_)
      have HSrg := Lib.hid hS; clear hS
      refine rg_run (wanted_plain rfl) ?_
      go_simp
      refine hK.out _ _ HSrg.out (fun hS => ?_)
      clear hK K HSrg
      try simp only [pu]
      iterate 2
       apply rt_pX; exact Hops; exact rfl; exact hS; exact rfl
       · intro _ hqc; go_simp; try rfl
       try simp only [pu]
      refine rt_call (i := 33) (get_of Hops rfl) (fun K hK => ?_)
      have HSrg := Lib.hid hS; clear hS
      refine rg_run (wanted_plain rfl) ?_
      go_simp
      refine hK.out _ _ (by first | exact gS HSrg.out _ _ | (unfold SinceX; have hS9 : World.grownBy _ _ _ := HSrg.out; repeat (first | with_reducible assumption | with_reducible exact World.grownBy.refl _ _ | with_reducible refine gS ?_ _ _ | with_reducible refine gD ?_ | with_reducible refine gA ?_ _))) (fun hS => ?_)
      clear hK K HSrg
      try simp only [pu]
      refine rt_done ?_
      refine HQrg.down _ _ ?_
      have hB : wr.grownBy _ (some g3) := hS
      clear hS HQrg Hops
      go_wp2_with fail
      go_roundw
      case rel => exact ⟨k + 1, ⟨min x.x0 q.x, min x.y0 q.y, max x.x1 q.x, max x.y1 q.y⟩, by omega, by go_num, HSt.out.symm, (HX3r.out.drew).put4, Hb.out.trans ((Below.refl g3 wr).grown hB (Nat.le_of_lt l3) (fun k hk => Nat.le_of_eq (Option.some.inj hk)))⟩
      case measure => simp [intOf]; omega
     -- operation 17 first
     ·
      have HSrg := Lib.hid hS; clear hS
      refine rg_run (wanted_plain rfl) ?_
      go_simp
      refine hK.out _ _ HSrg.out (fun hS => ?_)
      clear hK K HSrg
      try simp only [pu]
      apply rt_pX; exact Hops; exact rfl; exact hS; exact rfl
      · intro _ hqc; go_simp; try rfl
      try simp only [pu]
      refine rt_call (i := 9) (get_of Hops rfl) (fun K hK => ?_)
      have HSrg := Lib.hid hS; clear hS
      refine rg_run (wanted_plain rfl) ?_
      go_simp
      refine hK.out _ _ HSrg.out (fun hS => ?_)
      clear hK K HSrg
      try simp only [pu]
      iterate 2
       apply rt_pX; exact Hops; exact rfl; exact hS; exact rfl
       · intro _ hqc; go_simp; try rfl
       try simp only [pu]
      refine rt_call (i := 33) (get_of Hops rfl) (fun K hK => ?_)
      have HSrg := Lib.hid hS; clear hS
      refine rg_run (wanted_plain rfl) ?_
      go_simp
      refine hK.out _ _ (by first | exact gS HSrg.out _ _ | (unfold SinceX; have hS9 : World.grownBy _ _ _ := HSrg.out; repeat (first | with_reducible assumption | with_reducible exact World.grownBy.refl _ _ | with_reducible refine gS ?_ _ _ | with_reducible refine gD ?_ | with_reducible refine gA ?_ _))) (fun hS => ?_)
      clear hK K HSrg
      try simp only [pu]
      refine rt_done ?_
      refine HQrg.down _ _ ?_
      have hB : wr.grownBy _ (some g3) := hS
      clear hS HQrg Hops
      go_wp2_with fail
      go_roundw
      case rel => exact ⟨k + 1, ⟨min x.x0 q.x, min x.y0 q.y, max x.x1 q.x, max x.y1 q.y⟩, by omega, by go_num, HSt.out.symm, (HX3r.out.drew).put4, Hb.out.trans ((Below.refl g3 wr).grown hB (Nat.le_of_lt l3) (fun k hk => Nat.le_of_eq (Option.some.inj hk)))⟩
      case measure => simp [intOf]; omega
   -- operation 9 first
   ·
    have HSrg := Lib.hid hS; clear hS
    refine rg_run (wanted_plain rfl) ?_
    go_simp
    refine hK.out _ _ HSrg.out (fun hS => ?_)
    clear hK K HSrg
    try simp only [pu]
    apply rt_pX; exact Hops; exact rfl; exact hS; exact rfl
    · intro _ hqc; go_simp; try rfl
    try simp only [pu]
    refine rt_three (i := 1) (j := 17) (k := 25) (get_of Hops rfl) (get_of Hops rfl) (get_of Hops rfl) (fun K hK => ?_) (fun K hK => ?_) (fun K hK => ?_)
    -- operation 1 first
    ·
     have HSrg := Lib.hid hS; clear hS
     refine rg_run (wanted_plain rfl) ?_
     go_simp
     refine hK.out _ _ HSrg.out (fun hS => ?_)
     clear hK K HSrg
     try simp only [pu]
     apply rt_pX; exact Hops; exact rfl; exact hS; exact rfl
     · intro _ hqc; go_simp; try rfl
     try simp only [pu]
     refine rt_two (i := 17) (j := 25) (get_of Hops rfl) (get_of Hops rfl) (fun K hK => ?_) (fun K hK => ?_)
     -- operation 17 first
     ·
      have HSrg := Lib.hid hS; clear hS
      refine rg_run (wanted_plain rfl) ?_
      go_simp
      refine hK.out _ _ HSrg.out (fun hS => ?_)
      clear hK K HSrg
      try simp only [pu]
      apply rt_pX; exact Hops; exact rfl; exact hS; exact rfl
      · intro _ hqc; go_simp; try rfl
      try simp only [pu]
      refine rt_call (i := 25) (get_of Hops rfl) (fun K hK => ?_)
      have HSrg := Lib.hid hS; clear hS
      refine rg_run (wanted_plain rfl) ?_
      go_simp
      refine hK.out _ _ HSrg.out (fun hS => ?_)
      clear hK K HSrg
      try simp only [pu]
      iterate 2
       apply rt_pX; exact Hops; exact rfl; exact hS; exact rfl
       · intro _ hqc; go_simp; try rfl
       try simp only [pu]
      refine rt_call (i := 33) (get_of Hops rfl) (fun K hK => ?_)
      have HSrg := Lib.hid hS; clear hS
      refine rg_run (wanted_plain rfl) ?_
      go_simp
      refine hK.out _ _ (by first | exact gS HSrg.out _ _ | (unfold SinceX; have hS9 : World.grownBy _ _ _ := HSrg.out; repeat (first | with_reducible assumption | with_reducible exact World.grownBy.refl _ _ | with_reducible refine gS ?_ _ _ | with_reducible refine gD ?_ | with_reducible refine gA ?_ _))) (fun hS => ?_)
      clear hK K HSrg
      try simp only [pu]
      refine rt_done ?_
      refine HQrg.down _ _ ?_
      have hB : wr.grownBy _ (some g3) := hS
      clear hS HQrg Hops
      go_wp2_with fail
      go_roundw
      case rel => exact ⟨k + 1, ⟨min x.x0 q.x, min x.y0 q.y, max x.x1 q.x, max x.y1 q.y⟩, by omega, by go_num, HSt.out.symm, (HX3r.out.drew).put4, Hb.out.trans ((Below.refl g3 wr).grown hB (Nat.le_of_lt l3) (fun k hk => Nat.le_of_eq (Option.some.inj hk)))⟩
      case measure => simp [intOf]; omega
     -- operation 25 first
     ·
      have HSrg := Lib.hid hS; clear hS
      refine rg_run (wanted_plain rfl) ?_
      go_simp
      refine hK.out _ _ HSrg.out (fun hS => ?_)
      clear hK K HSrg
      try simp only [pu]
      apply rt_pX; exact Hops; exact rfl; exact hS; exact rfl
      · intro _ hqc; go_simp; try rfl
      try simp only [pu]
      refine rt_call (i := 17) (get_of Hops rfl) (fun K hK => ?_)
      have HSrg := Lib.hid hS; clear hS
      refine rg_run (wanted_plain rfl) ?_
      go_simp
      refine hK.out _ _ HSrg.out (fun hS => ?_)
      clear hK K HSrg
      try simp only [pu]
      iterate 2
       apply rt_pX; exact Hops; exact rfl; exact hS; exact rfl
       · intro _ hqc; go_simp; try rfl
       try simp only [pu]
      refine rt_call (i := 33) (get_of Hops rfl) (fun K hK => ?_)
      have HSrg := Lib.hid hS; clear hS
      refine rg_run (wanted_plain rfl) ?_
      go_simp
      refine hK.out _ _ (by first | exact gS HSrg.out _ _ | (unfold SinceX; have hS9 : World.grownBy _ _ _ := HSrg.out; repeat (first | with_reducible assumption | with_reducible exact World.grownBy.refl _ _ | with_reducible refine gS ?_ _ _ | with_reducible refine gD ?_ | with_reducible refine gA ?_ _))) (fun hS => ?_)
      clear hK K HSrg
      try simp only [pu]
      refine rt_done ?_
      refine HQrg.down _ _ ?_
      have hB : wr.grownBy _ (some g3) := hS
      clear hS HQrg Hops
      go_wp2_with fail
      go_roundw
      case rel => exact ⟨k + 1, ⟨min x.x0 q.x, min x.y0 q.y, max x.x1 q.x, max x.y1 q.y⟩, by omega, by go_num, HSt.out.symm, (HX3r.out.drew).put4, Hb.out.trans ((Below.refl g3 wr).grown hB (Nat.le_of_lt l3) (fun k hk => Nat.le_of_eq (Option.some.inj hk)))⟩
      case measure => simp [intOf]; omega
    -- operation 17 first
    ·
     have HSrg := Lib.hid hS; clear hS
     refine rg_run (wanted_plain rfl) ?_
     go_simp
     refine hK.out _ _ HSrg.out (fun hS => ?_)
     clear hK K HSrg
     try simp only [pu]
     apply rt_pX; exact Hops; exact rfl; exact hS; exact rfl
     · intro _ hqc; go_simp; try rfl
     try simp only [pu]
     refine rt_two (i := 1) (j := 25) (get_of Hops rfl) (get_of Hops rfl) (fun K hK => ?_) (fun K hK => ?_)
     -- operation 1 first
     ·
      have HSrg := Lib.hid hS; clear hS
      refine rg_run (wanted_plain rfl) ?_
      go_simp
      refine hK.out _ _ HSrg.out (fun hS => ?_)
      clear hK K HSrg
      try simp only [pu]
      apply rt_pX; exact Hops; exact rfl; exact hS; exact rfl
      · intro _ hqc; go_simp; try rfl
      try simp only [pu]
      refine rt_call (i := 25) (get_of Hops rfl) (fun K hK => ?_)
      have HSrg := Lib.hid hS; clear hS
      refine rg_run (wanted_plain rfl) ?_
      go_simp
      refine hK.out _ _ HSrg.out (fun hS => ?_)
      clear hK K HSrg
      try simp only [pu]
      iterate 2
       apply rt_pX; exact Hops; exact rfl; exact hS; exact rfl
       · intro _ hqc; go_simp; try rfl
       try simp only [pu]
      refine rt_call (i := 33) (get_of Hops rfl) (fun K hK => ?_)
      have HSrg := Lib.hid hS; clear hS
      refine rg_run (wanted_plain rfl) ?_
      go_simp
      refine hK.out _ _ (by first | exact gS HSrg.out _ _ | (unfold SinceX; have hS9 : World.grownBy _ _ _ := HSrg.out; repeat (first | with_reducible assumption | with_reducible exact World.grownBy.refl _ _ | with_reducible refine gS ?_ _ _ | with_reducible refine gD ?_ | with_reducible refine gA ?_ _))) (fun hS => ?_)
      clear hK K HSrg
      try simp only [pu]
      refine rt_done ?_
      refine HQrg.down _ _ ?_
      have hB : wr.grownBy _ (some g3) := hS
      clear hS HQrg Hops
      go_wp2_with fail
      go_roundw
      case rel => exact ⟨k + 1, ⟨min x.x0 q.x, min x.y0 q.y, max x.x1 q.x, max x.y1 q.y⟩, by omega, by go_num, HSt.out.symm, (HX3r.out.drew).put4, Hb.out.trans ((Below.refl g3 wr).grown hB (Nat.le_of_lt l3) (fun k hk => Nat.le_of_eq (Option.some.inj hk)))⟩
      case measure => simp [intOf]; omega
     -- operation 25 first
     ·
      have HSrg := Lib.hid hS; clear hS
      refine rg_run (wanted_plain rfl) ?_
      go_simp
      refine hK.out _ _ HSrg.out (fun hS => ?_)
      clear hK K HSrg
      try simp only [pu]
      apply rt_pX; exact Hops; exact rfl; exact hS; exact rfl
      · intro _ hqc; go_simp; try rfl
      try simp only [pu]
      refine rt_call (i := 1) (get_of Hops rfl) (fun K hK => ?_)
      have HSrg := Lib.hid hS; clear hS
      refine rg_run (wanted_plain rfl) ?_
      go_simp
      refine hK.out _ _ HSrg.out (fun hS => ?_)
      clear hK K HSrg
      try simp only [pu]
      iterate 2
       apply rt_pX; exact Hops; exact rfl; exact hS; exact rfl
       · intro _ hqc; go_simp; try rfl
       try simp only [pu]
      refine rt_call (i := 33) (get_of Hops rfl) (fun K hK => ?_)
      have HSrg := Lib.hid hS; clear hS
      refine rg_run (wanted_plain rfl) ?_
      go_simp
      refine hK.out _ _ (by first | exact gS HSrg.out _ _ | (unfold SinceX; have hS9 : World.grownBy _ _ _ := HSrg.out; repeat (first | with_reducible assumption | with_reducible exact World.grownBy.refl _ _ | with_reducible refine gS ?_ _ _ | with_reducible refine gD ?_ | with_reducible refine gA ?_ _))) (fun hS => ?_)
      clear hK K HSrg
      try simp only [pu]
      refine rt_done ?_
      refine HQrg.down _ _ ?_
      have hB : wr.grownBy _ (some g3) := hS
      clear hS HQrg Hops
      go_wp2_with fail
      go_roundw
      case rel => exact ⟨k + 1, ⟨min x.x0 q.x, min x.y0 q.y, max x.x1 q.x, max x.y1 q.y⟩, by omega, by go_num, HSt.out.symm, (HX3r.out.drew).put4, Hb.out.trans ((Below.refl g3 wr).grown hB (Nat.le_of_lt l3) (fun k hk => Nat.le_of_eq (Option.some.inj hk)))⟩
      case measure => simp [intOf]; omega
    -- operation 25 first
    ·
     have HSrg := Lib.hid hS; clear hS
     refine rg_run (wanted_plain rfl) ?_
     go_simp
     refine hK.out _ _ HSrg.out (fun hS => ?_)
     clear hK K HSrg
     try simp only [pu]
     apply rt_pX; exact Hops; exact rfl; exact hS; exact rfl
     · intro _ hqc; go_simp; try rfl
     try simp only [pu]
     refine rt_two (i := 1) (j := 17) (get_of Hops rfl) (get_of Hops rfl) (fun K hK => ?_) (fun K hK => ?_)
     -- operation 1 first
     ·
      have HSrg := Lib.hid hS; clear hS
      refine rg_run (wanted_plain rfl) ?_
      go_simp
      refine hK.out _ _ HSrg.out (fun hS => ?_)
      clear hK K HSrg
      try simp only [pu]
      apply rt_pX; exact Hops; exact rfl; exact hS; exact rfl
      · intro _ hqc; go_simp; try rfl
      try simp only [pu]
      refine rt_call (i := 17) (get_of Hops rfl) (fun K hK => ?_)
      have HSrg := Lib.hid hS; clear hS
      refine rg_run (wanted_plain rfl) ?_
      go_simp
      refine hK.out _ _ HSrg.out (fun hS => ?_)
      clear hK K HSrg
      try simp only [pu]
      iterate 2
       apply rt_pX; exact Hops; exact rfl; exact hS; exact rfl
       · intro _ hqc; go_simp; try rfl
       try simp only [pu]
      refine rt_call (i := 33) (get_of Hops rfl) (fun K hK => ?_)
      have HSrg := Lib.hid hS; clear hS
      refine rg_run (wanted_plain rfl) ?_
      go_simp
      refine hK.out _ _ (by first | exact gS HSrg.out _ _ | (unfold SinceX; have hS9 : World.grownBy _ _ _ := HSrg.out; repeat (first | with_reducible assumption | with_reducible exact World.grownBy.refl _ _ | with_reducible refine gS ?_ _ _ | with_reducible refine gD ?_ | with_reducible refine gA ?_ _))) (fun hS => ?_)
      clear hK K HSrg
      try simp only [pu]
      refine rt_done ?_
      refine HQrg.down _ _ ?_
      have hB : wr.grownBy _ (some g3) := hS
      clear hS HQrg Hops
      go_wp2_with fail
      go_roundw
      case rel => exact ⟨k + 1, ⟨min x.x0 q.x, min x.y0 q.y, max x.x1 q.x, max x.y1 q.y⟩, by omega, by go_num, HSt.out.symm, (HX3r.out.drew).put4, Hb.out.trans ((Below.refl g3 wr).grown hB (Nat.le_of_lt l3) (fun k hk => Nat.le_of_eq (Option.some.inj hk)))⟩
      case measure => simp [intOf]; omega
     -- operation 17 first
     ·
      have HSrg := Lib.hid hS; clear hS
      refine rg_run (wanted_plain rfl) ?_
      go_simp
      refine hK.out _ _ HSrg.out (fun hS => ?_)
      clear hK K HSrg
      try simp only [pu]
      apply rt_pX; exact Hops; exact rfl; exact hS; exact rfl
      · intro _ hqc; go_simp; try rfl
      try simp only [pu]
      refine rt_call (i := 1) (get_of Hops rfl) (fun K hK => ?_)
      have HSrg := Lib.hid hS; clear hS
      refine rg_run (wanted_plain rfl) ?_
      go_simp
      refine hK.out _ _ HSrg.out (fun hS => ?_)
      clear hK K HSrg
      try simp only [pu]
      iterate 2
       apply rt_pX; exact Hops; exact rfl; exact hS; exact rfl
       · intro _ hqc; go_simp; try rfl
       try simp only [pu]
      refine rt_call (i := 33) (get_of Hops rfl) (fun K hK => ?_)
      have HSrg := Lib.hid hS; clear hS
      refine rg_run (wanted_plain rfl) ?_
      go_simp
      refine hK.out _ _ (by first | exact gS HSrg.out _ _ | (unfold SinceX; have hS9 : World.grownBy _ _ _ := HSrg.out; repeat (first | with_reducible assumption | with_reducible exact World.grownBy.refl _ _ | with_reducible refine gS ?_ _ _ | with_reducible refine gD ?_ | with_reducible refine gA ?_ _))) (fun hS => ?_)
      clear hK K HSrg
      try simp only [pu]
      refine rt_done ?_
      refine HQrg.down _ _ ?_
      have hB : wr.grownBy _ (some g3) := hS
      clear hS HQrg Hops
      go_wp2_with fail
      go_roundw
      case rel => exact ⟨k + 1, ⟨min x.x0 q.x, min x.y0 q.y, max x.x1 q.x, max x.y1 q.y⟩, by omega, by go_num, HSt.out.symm, (HX3r.out.drew).put4, Hb.out.trans ((Below.refl g3 wr).grown hB (Nat.le_of_lt l3) (fun k hk => Nat.le_of_eq (Option.some.inj hk)))⟩
      case measure => simp [intOf]; omega
   -- operation 17 first
   ·
    have HSrg := Lib.hid hS; clear hS
    refine rg_run (wanted_plain rfl) ?_
    go_simp
    refine hK.out _ _ HSrg.out (fun hS => ?_)
    clear hK K HSrg
    try simp only [pu]
    apply rt_pX; exact Hops; exact rfl; exact hS; exact rfl
    · intro _ hqc; go_simp; try rfl
    try simp only [pu]
    refine rt_three (i := 1) (j := 9) (k := 25) (get_of Hops rfl) (get_of Hops rfl) (get_of Hops rfl) (fun K hK => ?_) (fun K hK => ?_) (fun K hK => ?_)
    -- operation 1 first
    ·
     have HSrg := Lib.hid hS; clear hS
     refine rg_run (wanted_plain rfl) ?_
     go_simp
     refine hK.out _ _ HSrg.out (fun hS => ?_)
     clear hK K HSrg
     try simp only [pu]
     apply rt_pX; exact Hops; exact rfl; exact hS; exact rfl
     · intro _ hqc; go_simp; try rfl
     try simp only [pu]
     refine rt_two (i := 9) (j := 25) (get_of Hops rfl) (get_of Hops rfl) (fun K hK => ?_) (fun K hK => ?_)
     -- operation 9 first
     ·
      have HSrg := Lib.hid hS; clear hS
      refine rg_run (wanted_plain rfl) ?_
      go_simp
      refine hK.out _ _ HSrg.out (fun hS => ?_)
      clear hK K HSrg
      try simp only [pu]
      apply rt_pX; exact Hops; exact rfl; exact hS; exact rfl
      · intro _ hqc; go_simp; try rfl
      try simp only [pu]
      refine rt_call (i := 25) (get_of Hops rfl) (fun K hK => ?_)
      have HSrg := Lib.hid hS; clear hS
      refine rg_run (wanted_plain rfl) ?_
      go_simp
      refine hK.out _ _ HSrg.out (fun hS => ?_)
      clear hK K HSrg
      try simp only [pu]
      iterate 2
       apply rt_pX; exact Hops; exact rfl; exact hS; exact rfl
       · intro _ hqc; go_simp; try rfl
       try simp only [pu]
      refine rt_call (i := 33) (get_of Hops rfl) (fun K hK => ?_)
      have HSrg := Lib.hid hS; clear hS
      refine rg_run (wanted_plain rfl) ?_
      go_simp
      refine hK.out _ _ (by first | exact gS HSrg.out _ _ | (unfold SinceX; have hS9 : World.grownBy _ _ _ := HSrg.out; repeat (first | with_reducible assumption | with_reducible exact World.grownBy.refl _ _ | with_reducible refine gS ?_ _ _ | with_reducible refine gD ?_ | with_reducible refine gA ?_ _))) (fun hS => ?_)
      clear hK K HSrg
      try simp only [pu]
      refine rt_done ?_
      refine HQrg.down _ _ ?_
      have hB : wr.grownBy _ (some g3) := hS
      clear hS HQrg Hops
      go_wp2_with fail
      go_roundw
      case rel => exact ⟨k + 1, ⟨min x.x0 q.x, min x.y0 q.y, max x.x1 q.x, max x.y1 q.y⟩, by omega, by go_num, HSt.out.symm, (HX3r.out.drew).put4, Hb.out.trans ((Below.refl g3 wr).grown hB (Nat.le_of_lt l3) (fun k hk => Nat.le_of_eq (Option.some.inj hk)))⟩
      case measure => simp [intOf]; omega
     -- operation 25 first
     ·
      have HSrg := Lib.hid hS; clear hS
      refine rg_run (wanted_plain rfl) ?_
      go_simp
      refine hK.out _ _ HSrg.out (fun hS => ?_)
      clear hK K HSrg
      try simp only [pu]
      apply rt_pX; exact Hops; exact rfl; exact hS; exact rfl
      · intro _ hqc; go_simp; try rfl
      try simp only [pu]
      refine rt_call (i := 9) (get_of Hops rfl) (fun K hK => ?_)
      have HSrg := Lib.hid hS; clear hS
      refine rg_run (wanted_plain rfl) ?_
      go_simp
      refine hK.out _ _ HSrg.out (fun hS => ?_)
      clear hK K HSrg
      try simp only [pu]
      iterate 2
       apply rt_pX; exact Hops; exact rfl; exact hS; exact rfl
       · intro _ hqc; go_simp; try rfl
       try simp only [pu]
      refine rt_call (i := 33) (get_of Hops rfl) (fun K hK => ?_)
      have HSrg := Lib.hid hS; clear hS
      refine rg_run (wanted_plain rfl) ?_
      go_simp
      refine hK.out _ _ (by first | exact gS HSrg.out _ _ | (unfold SinceX; have hS9 : World.grownBy _ _ _ := HSrg.out; repeat (first | with_reducible assumption | with_reducible exact World.grownBy.refl _ _ | with_reducible refine gS ?_ _ _ | with_reducible refine gD ?_ | with_reducible refine gA ?_ _))) (fun hS => ?_)
      clear hK K HSrg
      try simp only [pu]
      refine rt_done ?_
      refine HQrg.down _ _ ?_
      have hB : wr.grownBy _ (some g3) := hS
      clear hS HQrg Hops
      go_wp2_with fail
      go_roundw
      case rel => exact ⟨k + 1, ⟨min x.x0 q.x, min x.y0 q.y, max x.x1 q.x, max x.y1 q.y⟩, by omega, by go_num, HSt.out.symm, (HX3r.out.drew).put4, Hb.out.trans ((Below.refl g3 wr).grown hB (Nat.le_of_lt l3) (fun k hk => Nat.le_of_eq (Option.some.inj hk)))⟩
      case measure => simp [intOf]; omega
    -- operation 9 first
    ·
     have HSrg := Lib.hid hS; clear hS
     refine rg_run (wanted_plain rfl) ?_
     go_simp
     refine hK.out _ _ HSrg.out (fun hS => ?_)
     clear hK K HSrg
     try simp only [pu]
     apply rt_pX; exact Hops; exact rfl; exact hS; exact rfl
     · intro _ hqc; go_simp; try rfl
     try simp only [pu]
     refine rt_two (i := 1) (j := 25) (get_of Hops rfl) (get_of Hops rfl) (fun K hK => ?_) (fun K hK => ?_)
     -- operation 1 first
     ·
      have HSrg := Lib.hid hS; clear hS
      refine rg_run (wanted_plain rfl) ?_
      go_simp
      refine hK.out _ _ HSrg.out (fun hS => ?_)
      clear hK K HSrg
      try simp only [pu]
      apply rt_pX; exact Hops; exact rfl; exact hS; exact rfl
      · intro _ hqc; go_simp; try rfl
      try simp only [pu]
      refine rt_call (i := 25) (get_of Hops rfl) (fun K hK => ?_)
      have HSrg := Lib.hid hS; clear hS
      refine rg_run (wanted_plain rfl) ?_
      go_simp
      refine hK.out _ _ HSrg.out (fun hS => ?_)
      clear hK K HSrg
      try simp only [pu]
      iterate 2
       apply rt_pX; exact Hops; exact rfl; exact hS; exact rfl
       · intro _ hqc; go_simp; try rfl
       try simp only [pu]
      refine rt_call (i := 33) (get_of Hops rfl) (fun K hK => ?_)
      have HSrg := Lib.hid hS; clear hS
      refine rg_run (wanted_plain rfl) ?_
      go_simp
      refine hK.out _ _ (by first | exact gS HSrg.out _ _ | (unfold SinceX; have hS9 : World.grownBy _ _ _ := HSrg.out; repeat (first | with_reducible assumption | with_reducible exact World.grownBy.refl _ _ | with_reducible refine gS ?_ _ _ | with_reducible refine gD ?_ | with_reducible refine gA ?_ _))) (fun hS => ?_)
      clear hK K HSrg
      try simp only [pu]
      refine rt_done ?_
      refine HQrg.down _ _ ?_
      have hB : wr.grownBy _ (some g3) := hS
      clear hS HQrg Hops
      go_wp2_with fail
      go_roundw
      case rel => exact ⟨k + 1, ⟨min x.x0 q.x, min x.y0 q.y, max x.x1 q.x, max x.y1 q.y⟩, by omega, by go_num, HSt.out.symm, (HX3r.out.drew).put4, Hb.out.trans ((Below.refl g3 wr).grown hB (Nat.le_of_lt l3) (fun k hk => Nat.le_of_eq (Option.some.inj hk)))⟩
      case measure => simp [intOf]; omega
     -- operation 25 first
     ·
      have HSrg := Lib.hid hS; clear hS
      refine rg_run (wanted_plain rfl) ?_
      go_simp
      refine hK.out _ _ HSrg.out (fun hS => ?_)
      clear hK K HSrg
      try simp only [pu]
      apply rt_pX; exact Hops; exact rfl; exact hS; exact rfl
      · intro _ hqc; go_simp; try rfl
      try simp only [pu]
      refine rt_call (i := 1) (get_of Hops rfl) (fun K hK => ?_)
      have HSrg := Lib.hid hS; clear hS
      refine rg_run (wanted_plain rfl) ?_
      go_simp
      refine hK.out _ _ HSrg.out (fun hS => ?_)
      clear hK K HSrg
      try simp only [pu]
      iterate 2
       apply rt_pX; exact Hops; exact rfl; exact hS; exact rfl
       · intro _ hqc; go_simp; try rfl
       try simp only [pu]
      refine rt_call (i := 33) (get_of Hops rfl) (fun K hK => ?_)
      have HSrg := Lib.hid hS; clear hS
      refine rg_run (wanted_plain rfl) ?_
      go_simp
      refine hK.out _ _ (by first | exact gS HSrg.out _ _ | (unfold SinceX; have hS9 : World.grownBy _ _ _ := HSrg.out; repeat (first | with_reducible assumption | with_reducible exact World.grownBy.refl _ _ | with_reducible refine gS ?_ _ _ | with_reducible refine gD ?_ | with_reducible refine gA ?_ _))) (fun hS => ?_)
      clear hK K HSrg
      try simp only [pu]
      refine rt_done ?_
      refine HQrg.down _ _ ?_
      have hB : wr.grownBy _ (some g3) := hS
      clear hS HQrg Hops
      go_wp2_with fail
      go_roundw
      case rel => exact ⟨k + 1, ⟨min x.x0 q.x, min x.y0 q.y, max x.x1 q.x, max x.y1 q.y⟩, by omega, by go_num, HSt.out.symm, (HX3r.out.drew).put4, Hb.out.trans ((Below.refl g3 wr).grown hB (Nat.le_of_lt l3) (fun k hk => Nat.le_of_eq (Option.some.inj hk)))⟩
      case measure => simp [intOf]; omega
    -- operation 25 first
    ·
     have HSrg := Lib.hid hS; clear hS
     refine rg_run (wanted_plain rfl) ?_
     go_simp
     refine hK.out _ _ HSrg.out (fun hS => ?_)
     clear hK K HSrg
     try simp only [pu]
     apply rt_pX; exact Hops; exact rfl; exact hS; exact rfl
     · intro _ hqc; go_simp; try rfl
     try simp only [pu]
     refine rt_two (i := 1) (j := 9) (get_of Hops rfl) (get_of Hops rfl) (fun K hK => ?_) (fun K hK => ?_)
     -- operation 1 first
     ·
      have HSrg := Lib.hid hS; clear hS
      refine rg_run (wanted_plain rfl) ?_
      go_simp
      refine hK.out _ _ HSrg.out (fun hS => ?_)
      clear hK K HSrg
      try simp only [pu]
      apply rt_pX; exact Hops; exact rfl; exact hS; exact rfl
      · intro _ hqc; go_simp; try rfl
      try simp only [pu]
      refine rt_call (i := 9) (get_of Hops rfl) (fun K hK => ?_)
      have HSrg := Lib.hid hS; clear hS
      refine rg_run (wanted_plain rfl) ?_
      go_simp
      refine hK.out _ _ HSrg.out (fun hS => ?_)
      clear hK K HSrg
      try simp only [pu]
      iterate 2
       apply rt_pX; exact Hops; exact rfl; exact hS; exact rfl
       · intro _ hqc; go_simp; try rfl
       try simp only [pu]
      refine rt_call (i := 33) (get_of Hops rfl) (fun K hK => ?_)
      have HSrg := Lib.hid hS; clear hS
      refine rg_run (wanted_plain rfl) ?_
      go_simp
      refine hK.out _ _ (by first | exact gS HSrg.out _ _ | (unfold SinceX; have hS9 : World.grownBy _ _ _ := HSrg.out; repeat (first | with_reducible assumption | with_reducible exact World.grownBy.refl _ _ | with_reducible refine gS ?_ _ _ | with_reducible refine gD ?_ | with_reducible refine gA ?_ _))) (fun hS => ?_)
      clear hK K HSrg
      try simp only [pu]
      refine rt_done ?_
      refine HQrg.down _ _ ?_
      have hB : wr.grownBy _ (some g3) := hS
      clear hS HQrg Hops
      go_wp2_with fail
      go_roundw
      case rel => exact ⟨k + 1, ⟨min x.x0 q.x, min x.y0 q.y, max x.x1 q.x, max x.y1 q.y⟩, by omega, by go_num, HSt.out.symm, (HX3r.out.drew).put4, Hb.out.trans ((Below.refl g3 wr).grown hB (Nat.le_of_lt l3) (fun k hk => Nat.le_of_eq (Option.some.inj hk)))⟩
      case measure => simp [intOf]; omega
     -- operation 9 first
     ·
      have HSrg := Lib.hid hS; clear hS
      refine rg_run (wanted_plain rfl) ?_
      go_simp
      refine hK.out _ _ HSrg.out (fun hS => ?_)
      clear hK K HSrg
      try simp only [pu]
      apply rt_pX; exact Hops; exact rfl; exact hS; exact rfl
      · intro _ hqc; go_simp; try rfl
      try simp only [pu]
      refine rt_call (i := 1) (get_of Hops rfl) (fun K hK => ?_)
      have HSrg := Lib.hid hS; clear hS
      refine rg_run (wanted_plain rfl) ?_
      go_simp
      refine hK.out _ _ HSrg.out (fun hS => ?_)
      clear hK K HSrg
      try simp only [pu]
      iterate 2
       apply rt_pX; exact Hops; exact rfl; exact hS; exact rfl
       · intro _ hqc; go_simp; try rfl
       try simp only [pu]
      refine rt_call (i := 33) (get_of Hops rfl) (fun K hK => ?_)
      have HSrg := Lib.hid hS; clear hS
      refine rg_run (wanted_plain rfl) ?_
      go_simp
      refine hK.out _ _ (by first | exact gS HSrg.out _ _ | (unfold SinceX; have hS9 : World.grownBy _ _ _ := HSrg.out; repeat (first | with_reducible assumption | with_reducible exact World.grownBy.refl _ _ | with_reducible refine gS ?_ _ _ | with_reducible refine gD ?_ | with_reducible refine gA ?_ _))) (fun hS => ?_)
      clear hK K HSrg
      try simp only [pu]
      refine rt_done ?_
      refine HQrg.down _ _ ?_
      have hB : wr.grownBy _ (some g3) := hS
      clear hS HQrg Hops
      go_wp2_with fail
      go_roundw
      case rel => exact ⟨k + 1, ⟨min x.x0 q.x, min x.y0 q.y, max x.x1 q.x, max x.y1 q.y⟩, by omega, by go_num, HSt.out.symm, (HX3r.out.drew).put4, Hb.out.trans ((Below.refl g3 wr).grown hB (Nat.le_of_lt l3) (fun k hk => Nat.le_of_eq (Option.some.inj hk)))⟩
      case measure => simp [intOf]; omega
   -- operation 25 first
   ·
    have HSrg := Lib.hid hS; clear hS
    refine rg_run (wanted_plain rfl) ?_
    go_simp
    refine hK.out _ _ HSrg.out (fun hS => ?_)
    clear hK K HSrg
    try simp only [pu]
    apply rt_pX; exact Hops; exact rfl; exact hS; exact rfl
    · intro _ hqc; go_simp; try rfl
    try simp only [pu]
    refine rt_three (i := 1) (j := 9) (k := 17) (get_of Hops rfl) (get_of Hops rfl) (get_of Hops rfl) (fun K hK => ?_) (fun K hK => ?_) (fun K hK => ?_)
    -- operation 1 first
    ·
     have HSrg := Lib.hid hS; clear hS
     refine rg_run (wanted_plain rfl) ?_
     go_simp
     refine hK.out _ _ HSrg.out (fun hS => ?_)
     clear hK K HSrg
     try simp only [pu]
     apply rt_pX; exact Hops; exact rfl; exact hS; exact rfl
     · intro _ hqc; go_simp; try rfl
     try simp only [pu]
     refine rt_two (i := 9) (j := 17) (get_of Hops rfl) (get_of Hops rfl) (fun K hK => ?_) (fun K hK => ?_)
     -- operation 9 first
     ·
      have HSrg := Lib.hid hS; clear hS
      refine rg_run (wanted_plain rfl) ?_
      go_simp
      refine hK.out _ _ HSrg.out (fun hS => ?_)
      clear hK K HSrg
      try simp only [pu]
      apply rt_pX; exact Hops; exact rfl; exact hS; exact rfl
      · intro _ hqc; go_simp; try rfl
      try simp only [pu]
      refine rt_call (i := 17) (get_of Hops rfl) (fun K hK => ?_)
      have HSrg := Lib.hid hS; clear hS
      refine rg_run (wanted_plain rfl) ?_
      go_simp
      refine hK.out _ _ HSrg.out (fun hS => ?_)
      clear hK K HSrg
      try simp only [pu]
      iterate 2
       apply rt_pX; exact Hops; exact rfl; exact hS; exact rfl
       · intro _ hqc; go_simp; try rfl
       try simp only [pu]
      refine rt_call (i := 33) (get_of Hops rfl) (fun K hK => ?_)
      have HSrg := Lib.hid hS; clear hS
      refine rg_run (wanted_plain rfl) ?_
      go_simp
      refine hK.out _ _ (by first | exact gS HSrg.out _ _ | (unfold SinceX; have hS9 : World.grownBy _ _ _ := HSrg.out; repeat (first | with_reducible assumption | with_reducible exact World.grownBy.refl _ _ | with_reducible refine gS ?_ _ _ | with_reducible refine gD ?_ | with_reducible refine gA ?_ _))) (fun hS => ?_)
      clear hK K HSrg
      try simp only [pu]
      refine rt_done ?_
      refine HQrg.down _ _ ?_
      have hB : wr.grownBy _ (some g3) := hS
      clear hS HQrg Hops
      go_wp2_with fail
      go_roundw
      case rel => exact ⟨k + 1, ⟨min x.x0 q.x, min x.y0 q.y, max x.x1 q.x, max x.y1 q.y⟩, by omega, by go_num, HSt.out.symm, (HX3r.out.drew).put4, Hb.out.trans ((Below.refl g3 wr).grown hB (Nat.le_of_lt l3) (fun k hk => Nat.le_of_eq (Option.some.inj hk)))⟩
      case measure => simp [intOf]; omega
     -- operation 17 first
     ·
      have HSrg := Lib.hid hS; clear hS
      refine rg_run (wanted_plain rfl) ?_
      go_simp
      refine hK.out _ _ HSrg.out (fun hS => ?_)
      clear hK K HSrg
      try simp only [pu]
      apply rt_pX; exact Hops; exact rfl; exact hS; exact rfl
      · intro _ hqc; go_simp; try rfl
      try simp only [pu]
      refine rt_call (i := 9) (get_of Hops rfl) (fun K hK => ?_)
      have HSrg := Lib.hid hS; clear hS
      refine rg_run (wanted_plain rfl) ?_
      go_simp
      refine hK.out _ _ HSrg.out (fun hS => ?_)
      clear hK K HSrg
      try simp only [pu]
      iterate 2
       apply rt_pX; exact Hops; exact rfl; exact hS; exact rfl
       · intro _ hqc; go_simp; try rfl
       try simp only [pu]
      refine rt_call (i := 33) (get_of Hops rfl) (fun K hK => ?_)
      have HSrg := Lib.hid hS; clear hS
      refine rg_run (wanted_plain rfl) ?_
      go_simp
      refine hK.out _ _ (by first | exact gS HSrg.out _ _ | (unfold SinceX; have hS9 : World.grownBy _ _ _ := HSrg.out; repeat (first | with_reducible assumption | with_reducible exact World.grownBy.refl _ _ | with_reducible refine gS ?_ _ _ | with_reducible refine gD ?_ | with_reducible refine gA ?_ _))) (fun hS => ?_)
      clear hK K HSrg
      try simp only [pu]
      refine rt_done ?_
      refine HQrg.down _ _ ?_
      have hB : wr.grownBy _ (some g3) := hS
      clear hS HQrg Hops
      go_wp2_with fail
      go_roundw
      case rel => exact ⟨k + 1, ⟨min x.x0 q.x, min x.y0 q.y, max x.x1 q.x, max x.y1 q.y⟩, by omega, by go_num, HSt.out.symm, (HX3r.out.drew).put4, Hb.out.trans ((Below.refl g3 wr).grown hB (Nat.le_of_lt l3) (fun k hk => Nat.le_of_eq (Option.some.inj hk)))⟩
      case measure => simp [intOf]; omega
    -- operation 9 first
    ·
     have HSrg := Lib.hid hS; clear hS
     refine rg_run (wanted_plain rfl) ?_
     go_simp
     refine hK.out _ _ HSrg.out (fun hS => ?_)
     clear hK K HSrg
     try simp only [pu]
     apply rt_pX; exact Hops; exact rfl; exact hS; exact rfl
     · intro _ hqc; go_simp; try rfl
     try simp only [pu]
     refine rt_two (i := 1) (j := 17) (get_of Hops rfl) (get_of Hops rfl) (fun K hK => ?_) (fun K hK => ?_)
     -- operation 1 first
     ·
      have HSrg := Lib.hid hS; clear hS
      refine rg_run (wanted_plain rfl) ?_
      go_simp
      refine hK.out _ _ HSrg.out (fun hS => ?_)
      clear hK K HSrg
      try simp only [pu]
      apply rt_pX; exact Hops; exact rfl; exact hS; exact rfl
      · intro _ hqc; go_simp; try rfl
      try simp only [pu]
      refine rt_call (i := 17) (get_of Hops rfl) (fun K hK => ?_)
      have HSrg := Lib.hid hS; clear hS
      refine rg_run (wanted_plain rfl) ?_
      go_simp
      refine hK.out _ _ HSrg.out (fun hS => ?_)
      clear hK K HSrg
      try simp only [pu]
      iterate 2
       apply rt_pX; exact Hops; exact rfl; exact hS; exact rfl
       · intro _ hqc; go_simp; try rfl
       try simp only [pu]
      refine rt_call (i := 33) (get_of Hops rfl) (fun K hK => ?_)
      have HSrg := Lib.hid hS; clear hS
      refine rg_run (wanted_plain rfl) ?_
      go_simp
      refine hK.out _ _ (by first | exact gS HSrg.out _ _ | (unfold SinceX; have hS9 : World.grownBy _ _ _ := HSrg.out; repeat (first | with_reducible assumption | with_reducible exact World.grownBy.refl _ _ | with_reducible refine gS ?_ _ _ | with_reducible refine gD ?_ | with_reducible refine gA ?_ _))) (fun hS => ?_)
      clear hK K HSrg
      try simp only [pu]
      refine rt_done ?_
      refine HQrg.down _ _ ?_
      have hB : wr.grownBy _ (some g3) := hS
      clear hS HQrg Hops
      go_wp2_with fail
      go_roundw
      case rel => exact ⟨k + 1, ⟨min x.x0 q.x, min x.y0 q.y, max x.x1 q.x, max x.y1 q.y⟩, by omega, by go_num, HSt.out.symm, (HX3r.out.drew).put4, Hb.out.trans ((Below.refl g3 wr).grown hB (Nat.le_of_lt l3) (fun k hk => Nat.le_of_eq (Option.some.inj hk)))⟩
      case measure => simp [intOf]; omega
     -- operation 17 first
     ·
      have HSrg := Lib.hid hS; clear hS
      refine rg_run (wanted_plain rfl) ?_
      go_simp
      refine hK.out _ _ HSrg.out (fun hS => ?_)
      clear hK K HSrg
      try simp only [pu]
      apply rt_pX; exact Hops; exact rfl; exact hS; exact rfl
      · intro _ hqc; go_simp; try rfl
      try simp only [pu]
      refine rt_call (i := 1) (get_of Hops rfl) (fun K hK => ?_)
      have HSrg := Lib.hid hS; clear hS
      refine rg_run (wanted_plain rfl) ?_
      go_simp
      refine hK.out _ _ HSrg.out (fun hS => ?_)
      clear hK K HSrg
      try simp only [pu]
      iterate 2
       apply rt_pX; exact Hops; exact rfl; exact hS; exact rfl
       · intro _ hqc; go_simp; try rfl
       try simp only [pu]
      refine rt_call (i := 33) (get_of Hops rfl) (fun K hK => ?_)
      have HSrg := Lib.hid hS; clear hS
      refine rg_run (wanted_plain rfl) ?_
      go_simp
      refine hK.out _ _ (by first | exact gS HSrg.out _ _ | (unfold SinceX; have hS9 : World.grownBy _ _ _ := HSrg.out; repeat (first | with_reducible assumption | with_reducible exact World.grownBy.refl _ _ | with_reducible refine gS ?_ _ _ | with_reducible refine gD ?_ | with_reducible refine gA ?_ _))) (fun hS => ?_)
      clear hK K HSrg
      try simp only [pu]
      refine rt_done ?_
      refine HQrg.down _ _ ?_
      have hB : wr.grownBy _ (some g3) := hS
      clear hS HQrg Hops
      go_wp2_with fail
      go_roundw
      case rel => exact ⟨k + 1, ⟨min x.x0 q.x, min x.y0 q.y, max x.x1 q.x, max x.y1 q.y⟩, by omega, by go_num, HSt.out.symm, (HX3r.out.drew).put4, Hb.out.trans ((Below.refl g3 wr).grown hB (Nat.le_of_lt l3) (fun k hk => Nat.le_of_eq (Option.some.inj hk)))⟩
      case measure => simp [intOf]; omega
    -- operation 17 first
    ·
     have HSrg := Lib.hid hS; clear hS
     refine rg_run (wanted_plain rfl) ?_
     go_simp
     refine hK.out _ _ HSrg.out (fun hS => ?_)
     clear hK K HSrg
     try simp only [pu]
     apply rt_pX; exact Hops; exact rfl; exact hS; exact rfl
     · intro _ hqc; go_simp; try rfl
     try simp only [pu]
     refine rt_two (i := 1) (j := 9) (get_of Hops rfl) (get_of Hops rfl) (fun K hK => ?_) (fun K hK => ?_)
     -- operation 1 first
     ·
      have HSrg := Lib.hid hS; clear hS
      refine rg_run (wanted_plain rfl) ?_
      go_simp
      refine hK.out _ _ HSrg.out (fun hS => ?_)
      clear hK K HSrg
      try simp only [pu]
      apply rt_pX; exact Hops; exact rfl; exact hS; exact rfl
      · intro _ hqc; go_simp; try rfl
      try simp only [pu]
      refine rt_call (i := 9) (get_of Hops rfl) (fun K hK => ?_)
      have HSrg := Lib.hid hS; clear hS
      refine rg_run (wanted_plain rfl) ?_
      go_simp
      refine hK.out _ _ HSrg.out (fun hS => ?_)
      clear hK K HSrg
      try simp only [pu]
      iterate 2
       apply rt_pX; exact Hops; exact rfl; exact hS; exact rfl
       · intro _ hqc; go_simp; try rfl
       try simp only [pu]
      refine rt_call (i := 33) (get_of Hops rfl) (fun K hK => ?_)
      have HSrg := Lib.hid hS; clear hS
      refine rg_run (wanted_plain rfl) ?_
      go_simp
      refine hK.out _ _ (by first | exact gS HSrg.out _ _ | (unfold SinceX; have hS9 : World.grownBy _ _ _ := HSrg.out; repeat (first | with_reducible assumption | with_reducible exact World.grownBy.refl _ _ | with_reducible refine gS ?_ _ _ | with_reducible refine gD ?_ | with_reducible refine gA ?_ _))) (fun hS => ?_)
      clear hK K HSrg
      try simp only [pu]
      refine rt_done ?_
      refine HQrg.down _ _ ?_
      have hB : wr.grownBy _ (some g3) := hS
      clear hS HQrg Hops
      go_wp2_with fail
      go_roundw
      case rel => exact ⟨k + 1, ⟨min x.x0 q.x, min x.y0 q.y, max x.x1 q.x, max x.y1 q.y⟩, by omega, by go_num, HSt.out.symm, (HX3r.out.drew).put4, Hb.out.trans ((Below.refl g3 wr).grown hB (Nat.le_of_lt l3) (fun k hk => Nat.le_of_eq (Option.some.inj hk)))⟩
      case measure => simp [intOf]; omega
     -- operation 9 first
     ·
      have HSrg := Lib.hid hS; clear hS
      refine rg_run (wanted_plain rfl) ?_
      go_simp
      refine hK.out _ _ HSrg.out (fun hS => ?_)
      clear hK K HSrg
      try simp only [pu]
      apply rt_pX; exact Hops; exact rfl; exact hS; exact rfl
      · intro _ hqc; go_simp; try rfl
      try simp only [pu]
      refine rt_call (i := 1) (get_of Hops rfl) (fun K hK => ?_)
      have HSrg := Lib.hid hS; clear hS
      refine rg_run (wanted_plain rfl) ?_
      go_simp
      refine hK.out _ _ HSrg.out (fun hS => ?_)
      clear hK K HSrg
      try simp only [pu]
      iterate 2
       apply rt_pX; exact Hops; exact rfl; exact hS; exact rfl
       · intro _ hqc; go_simp; try rfl
       try simp only [pu]
      refine rt_call (i := 33) (get_of Hops rfl) (fun K hK => ?_)
      have HSrg := Lib.hid hS; clear hS
      refine rg_run (wanted_plain rfl) ?_
      go_simp
      refine hK.out _ _ (by first | exact gS HSrg.out _ _ | (unfold SinceX; have hS9 : World.grownBy _ _ _ := HSrg.out; repeat (first | with_reducible assumption | with_reducible exact World.grownBy.refl _ _ | with_reducible refine gS ?_ _ _ | with_reducible refine gD ?_ | with_reducible refine gA ?_ _))) (fun hS => ?_)
      clear hK K HSrg
      try simp only [pu]
      refine rt_done ?_
      refine HQrg.down _ _ ?_
      have hB : wr.grownBy _ (some g3) := hS
      clear hS HQrg Hops
      go_wp2_with fail
      go_roundw
      case rel => exact ⟨k + 1, ⟨min x.x0 q.x, min x.y0 q.y, max x.x1 q.x, max x.y1 q.y⟩, by omega, by go_num, HSt.out.symm, (HX3r.out.drew).put4, Hb.out.trans ((Below.refl g3 wr).grown hB (Nat.le_of_lt l3) (fun k hk => Nat.le_of_eq (Option.some.inj hk)))⟩
      case measure => simp [intOf]; omega
  ·
   have hxr : x = r := by rw [HX.out, List.take_of_length_le (by have := HLn.out; omega), HR.out]
   have HXr := Lib.hid hxr
   have r2 : ¬ (k : Int) < ln := by omega
   clear hxr
   have X2 := HX23.out.below Hb.out hg23
   have HX2r := Lib.hid X2
   try clear X3l
   try clear X3a
   try clear X3b
   try clear X3c
   try clear X3d
   try clear X3fa
   try clear X3fb
   try clear X3fc
   try clear X3fd
   obtain ⟨X3l, X3a, X3b, X3c, X3d, -, -, -, -⟩ := X3.facts4
   obtain ⟨X2l, X2a, X2b, X2c, X2d, X2fa, X2fb, X2fc, X2fd⟩ := X2.facts4
   go_wp2_with fail
   refine res_cell (g := g2) (cs := #[.int .i64 x.x0, .int .i64 x.y0, .int .i64 x.x1, .int .i64 x.y1]) rfl struct_bx41 rfl rfl (Blk.put4 HX2r.out) ⟨by rw [HXr.out], ?_⟩
   exact (((HBw.out.setCell (p := ⟨g2, 0, none⟩) hgw _).setCell (p := ⟨g2, 1, none⟩) hgw _).setCell (p := ⟨g2, 2, none⟩) hgw _).setCell (p := ⟨g2, 3, none⟩) hgw _
end Go.Proofs.YtfondidmklmonaaGreat
