/- mapsheetsref41.All. -/
import Derived.Test.YtfondidmklmonaaGreatJ20
import Derived.Test.YtfondidmklmonaaGreatClipRJ
set_option linter.unusedSimpArgs false
set_option linter.unusedVariables false
namespace Go.Proofs.YtfondidmklmonaaGreat
open Go.RowKit

set_option maxRecDepth 100000 in
set_option maxHeartbeats 8000000 in
theorem rAll_spec (v : Value) (p : Pl) (s : Se) (w : World) (h : PlV w v p) (hs : SmP p) : Calls Tryz.prog 16 #[v, seV s] w (RetPrts w (allRes p s)) := by
 have HP := Lib.hid h; have HSm := Lib.hid hs
 have TC := fun (W : World) hW => RCheck_spec v p W (h.mono hW)
 have HCk := Lib.hid TC
 have HSc := Lib.hid (fun W => rCheck_spec s W)
 have HRp := Lib.hid (fun n W hW => rPart_spec v p s n W (h.mono hW) hs)
 have HVl := Lib.hid h
 obtain ⟨q, hq⟩ : ∃ q, allRes p s = q := ⟨_, rfl⟩
 rw [hq]
 unfold allRes at hq
 have HQ := Lib.hid hq
 obtain ⟨vn, va, vf, al, rfl, -⟩ := h
 unfold seV at HSc HRp ⊢
 clear hq hs TC
 obtain ⟨s0, hs0⟩ : ∃ s0, w.heap.size = s0 := ⟨_, rfl⟩
 obtain ⟨g4, h4⟩ : ∃ g, s0 + 1 = g := ⟨_, rfl⟩
 obtain ⟨W, hW⟩ : ∃ W : World, W = (w.alloc (.cells #[vn, va, vf] 26)).alloc (.cells #[.int .i64 s.at_.x, .int .i64 s.at_.y, .int .i64 s.width, .int .i64 s.height, .int .i64 s.cols, .int .i64 s.rows] 30) := ⟨_, rfl⟩
 have HB0 := Lib.hid (show Below w.heap.size w W by rw [hW]; exact bA (bA (bR w) _) _)
 have X3 : Blk W s0 26 #[vn, va, vf] := by rw [hW]; exact (Blk.made hs0.symm _ _).alloc _
 have X4 : Blk W g4 30 #[.int .i64 s.at_.x, .int .i64 s.at_.y, .int .i64 s.width, .int .i64 s.height, .int .i64 s.cols, .int .i64 s.rows] := by rw [hW]; exact Blk.made (by simp; omega) _ _
 go_enter Tryz.func16, Tryz.ntmps16
 go_upto_region 1 with fail
 try rw [← hW]
 clear hW hs0 h4
 obtain ⟨X3l, X3a, X3b, X3c, -, -, -⟩ := X3.facts3
 go_wp2_with fail
 refine (HCk.out _ HB0.out).mono ?_
 rintro e w1 ⟨rfl, hb1⟩
 have HB1 := Lib.hid (bT HB0.out hb1)
 replace X3 := X3.keep hb1
 replace X4 := X4.keep hb1
 clear hb1 HCk HB0
 by_cases hck : checkS p = 0
 case neg =>
  have hne : (checkS p != 0) = true := by simp [hck]
  have hq := HQ.out
  rw [if_pos hck] at hq
  have HF := Lib.hid hq
  clear hq hck
  generalize checkS p = z at *
  go_wp2_with fail
  go_ret2
  rw [← HF.out]
  exact RetPrts.nil HB1.out _
 have hq := HQ.out
 rw [if_neg (fun h => h hck)] at hq
 have HQ1 := Lib.hid hq
 have HVd := Lib.hid ((check_zero p).1 hck)
 rw [hck]
 clear hq hck HQ
 try clear X3l X3a X3b X3c
 obtain ⟨X4l, X4a, X4b, X4c, X4d, X4e, X4f, -, -, -, -, -, -⟩ := X4.facts6
 go_wp2_with fail
 refine (HSc.out _).mono ?_
 rintro e w2 ⟨rfl, hb2⟩
 have HB2 := Lib.hid (bT HB1.out hb2)
 replace X3 := X3.keep hb2
 replace X4 := X4.keep hb2
 clear hb2 HB1 HSc X4l X4a X4b X4c X4d X4e X4f
 by_cases hfe : seCheck s = 0
 case neg =>
  have hne : (seCheck s != 0) = true := by simp [hfe]
  have hq := HQ1.out
  rw [if_pos hfe] at hq
  have HF := Lib.hid hq
  clear hq hfe
  generalize seCheck s = z at *
  go_wp2_with fail
  go_ret2
  rw [← HF.out]
  exact RetPrts.nil HB2.out _
 have hq := HQ1.out
 rw [if_neg (fun h => h hfe)] at hq
 rw [hfe]
 have hok : seOk s = true := by
  unfold seCheck at hfe
  cases h : seOk s
  · rw [h] at hfe; simp at hfe
  · rfl
 have hbd := seOk_bd hok
 have hc := hbd.c; have hr := hbd.r
 have hM := mul_bds (a := s.cols) (b := s.rows) (m := 16) (n := 16) (by omega) hc.2 (by omega) hr.2
 obtain ⟨M, hMe⟩ : ∃ M, s.cols * s.rows = M := ⟨_, rfl⟩
 have HIn := Lib.hid (fun (i : Nat) (hi : (i : Int) < M) => (InS.of hok (n := (i : Int) + 1) (by unfold thereS; rw [Bool.and_eq_true, decide_eq_true_eq, decide_eq_true_eq]; omega)))
 have hN : (M.toNat : Int) = M := by omega
 obtain ⟨N, hNe⟩ : ∃ N, M.toNat = N := ⟨_, rfl⟩
 unfold allS at hq
 rw [hMe, hNe] at hq
 rw [hNe] at hN
 have hN6 : N ≤ 256 := by omega
 rw [← hN] at hMe HIn
 have hmul : IntKind.i64.wrap (s.cols * s.rows) = (N : Int) := by rw [hMe]; exact IntWalk.i64_in _ (by omega)
 have HQ2 := Lib.hid hq
 clear hq hfe hok hbd hc hr hM hMe hN hNe HQ1
 try clear X4l
 try clear X4a
 try clear X4b
 try clear X4c
 try clear X4d
 try clear X4e
 try clear X4f
 obtain ⟨X4l, X4a, X4b, X4c, X4d, X4e, X4f, -, -, -, -, -, -⟩ := X4.facts6
 have HX3 := Lib.hid X3; have HX4 := Lib.hid X4
 go_wp2_with fail
 go_loopw [8, 9] (fun u v wr => ∃ (k : Nat) (L : List (Prt × SV × SV)) (A : Option Addr) (c : Nat), k ≤ N ∧ u = .slice A L.length c ∧ v = .int .i64 ((k : Int) + 1) ∧ PrtsO wr w.heap.size (.slice A L.length c) L ∧ L.map (·.1) = (List.range k).map (partI p s) ∧ L.length ≤ k ∧ Blk wr s0 26 #[vn, va, vf] ∧ Blk wr g4 30 #[.int .i64 s.at_.x, .int .i64 s.at_.y, .int .i64 s.width, .int .i64 s.height, .int .i64 s.cols, .int .i64 s.rows] ∧ Below w.heap.size w wr) (fun _ v _ => N + 1 - (intOf v).toNat)
 case atStart => exact ⟨0, [], none, 0, Nat.zero_le _, rfl, rfl, ⟨Own.nil _ _ _ _ _, fun x hx => by cases hx⟩, rfl, Nat.le_refl _, HX3.out, HX4.out, HB2.out⟩
 case round =>
  obtain ⟨k, L, A, c, hk, rfl, rfl, hpo, hmap, hlen, X3, X4, hb⟩ := hrel
  have HPO := Lib.hid hpo; have HMap := Lib.hid hmap; have HB := Lib.hid hb
  clear hpo hmap hb
  by_cases hlt : k < N
  ·
   have hin := HIn.out k (by omega)
   have hpr : partRes p s ((k : Int) + 1) = (partS p ((k : Int) + 1) (boxOf s ((k : Int) + 1)), 0) := by
    unfold partRes
    rw [if_neg (fun h => h ((check_zero p).2 HVd.out)), if_neg (fun h => h (findE_zero.2 hin))]
   have HPt := Lib.hid (HRp.out ((k : Int) + 1))
   rw [hpr] at HPt
   obtain ⟨x, hx⟩ : ∃ x, partS p ((k : Int) + 1) (boxOf s ((k : Int) + 1)) = x := ⟨_, rfl⟩
   have hxs : x.sheet = (k : Int) + 1 := by rw [← hx]; rfl
   have hsucc : (List.range (k + 1)).map (partI p s) = (List.range k).map (partI p s) ++ [x] := by
    rw [List.range_succ, List.map_append, ← hx]; rfl
   rw [hx] at HPt
   have HXs := Lib.hid hxs; have HSu := Lib.hid hsucc
   have HX3 := Lib.hid X3; have HX4 := Lib.hid X4
   have c1 : (k : Int) + 1 ≤ N := by omega
   clear hin hpr hx hxs hsucc
   try clear X4l
   try clear X4a
   try clear X4b
   try clear X4c
   try clear X4d
   try clear X4e
   try clear X4f
   obtain ⟨X4l, X4a, X4b, X4c, X4d, X4e, X4f, -, -, -, -, -, -⟩ := X4.facts6
   try clear X3l
   try clear X3a
   try clear X3b
   try clear X3c
   obtain ⟨X3l, X3a, X3b, X3c, -, -, -⟩ := X3.facts3
   go_wp2_with fail
   refine (HPt.out _ HB.out).mono ?_
   rintro e w4 ⟨A4, m4, c4, A5, m5, c5, rfl, hb4, hpo4⟩
   rw [HXs.out]
   have hA4 : Below wr.heap.size wr w4 := hb4
   have HX34 := Lib.hid (HX3.out.keep hA4); have HX44 := Lib.hid (HX4.out.keep hA4); have HPO4 := Lib.hid (HPO.out.keep hA4)
   have HB4 := Lib.hid (bT HB.out hA4)
   have HPq := Lib.hid (hpo4.base HB.out.size)
   have hz4 := HB4.out.size
   clear hb4 hpo4 hA4 X3 X4 X3l X3a X3b X3c X4l X4a X4b X4c X4d X4e X4f HX3 HX4 HPO HB
   go_wp2_with
    (at_builtin
     refine wpList_appl _ rfl (.tmp 38) (.tmp 40) _ rfl (base := w.heap.size) elem_prt prS_len prS_one rfl (Own.alloc (Own.alloc HPO4.out.own _) _) rfl (l2 := [((x, ⟨A4, m4, c4⟩, ⟨A5, m5, c5⟩) : Prt × SV × SV)]) (Sl.lit (n := 1) (Blk.made (by simp) _ _) (by simp [prS, HXs.out]) (le_maxLen (by omega))) (by simp only [List.length_cons, List.length_nil]; omega) (by simp only [List.length_cons, List.length_nil]; omega) (by simp; omega) ?_
     intro v5 w5 ho5 hg5 hat5
     obtain ⟨A9, c9, hv5, -⟩ := Own.shape_ ho5
     rw [show (L ++ [((x, ⟨A4, m4, c4⟩, ⟨A5, m5, c5⟩) : Prt × SV × SV)]).length = L.length + 1 by simp] at hv5
     subst hv5
     have nrow : ∀ α (f : α → List Value) v (l : List α) sz t, (t = 55 ∨ t = 28 ∨ t = 59) → Own ((w4.alloc (.cells #[.int .i64 ((k : Int) + 1), .slice A4 m4 c4, .slice A5 m5 c5] 35)).alloc (.cells #[.int .i64 ((k : Int) + 1), .slice A4 m4 c4, .slice A5 m5 c5] 35)) w.heap.size t sz f v l → ∀ i, v.ownBlock = some i → some i ≠ (Value.slice A L.length c).ownBlock := fun α f v l sz t ht ho i hi => by
      rcases ht with rfl | rfl | rfl
      · exact Own.apart ho (Own.alloc (Own.alloc HPO4.out.own _) _) (by decide) i hi
      · exact Own.apart ho (Own.alloc (Own.alloc HPO4.out.own _) _) (by decide) i hi
      · exact Own.apart ho (Own.alloc (Own.alloc HPO4.out.own _) _) (by decide) i hi
     have HPO5 := Lib.hid (show PrtsO w5 w.heap.size (.slice A9 (L.length + 1) c9) (L ++ [((x, ⟨A4, m4, c4⟩, ⟨A5, m5, c5⟩) : Prt × SV × SV)]) from ⟨ho5, fun y hy => by
      rcases List.mem_append.1 hy with hy | hy
      · exact ((HPO4.out.part y hy).keep (bA (bA (bR w4) _) _)).grown hg5 nrow
      ·
       rw [List.mem_singleton] at hy
       subst hy
       exact (HPq.out.keep (bA (bA (bR w4) _) _)).grown hg5 nrow⟩)
     have HX35 := Lib.hid (Blk.grown ((HX34.out.alloc _).alloc _) hg5 (fun e => Own.ne_blk HPO4.out.own HX34.out (by decide) e.symm))
     have HX45 := Lib.hid (Blk.grown ((HX44.out.alloc _).alloc _) hg5 (fun e => Own.ne_blk HPO4.out.own HX44.out (by decide) e.symm))
     have HB5 := Lib.hid (bG (bA (bA HB4.out _) _) hg5 (fun i hi => (HPO4.out.own.lt i hi).1))
     clear ho5 hg5 hat5 nrow
     )
   go_wp2_with fail
   go_roundw
   case rel => (rw [show (L.length + 1) = (L ++ [((x, ⟨A4, m4, c4⟩, ⟨A5, m5, c5⟩) : Prt × SV × SV)]).length by simp] at *; exact ⟨k + 1, L ++ [((x, ⟨A4, m4, c4⟩, ⟨A5, m5, c5⟩) : Prt × SV × SV)], A9, c9, by omega, rfl, by go_num, HPO5.out, by rw [List.map_append, HMap.out, HSu.out]; rfl, by rw [List.length_append, List.length_singleton]; omega, HX35.out, HX45.out, HB5.out⟩)
   case measure => simp [intOf]; omega
  ·
   have hkn : k = N := by omega
   have hq := HQ2.out
   have hmp := HMap.out
   have hl : L.map (·.1) = q.1 := by rw [hmp, hkn, ← hq]
   have hll : L.length = q.1.length := by rw [← hl, List.length_map]
   have hq2 : q.2 = 0 := by rw [← hq]
   have HL := Lib.hid hl; have HQ3 := Lib.hid hq2
   have hpo := HPO.out
   rw [hll] at hpo ⊢
   have HPOf := Lib.hid hpo
   have c1 : ¬ ((k : Int) + 1 ≤ N) := by omega
   clear hkn hq hmp hl hll hq2 hpo
   try clear X4l
   try clear X4a
   try clear X4b
   try clear X4c
   try clear X4d
   try clear X4e
   try clear X4f
   obtain ⟨X4l, X4a, X4b, X4c, X4d, X4e, X4f, -, -, -, -, -, -⟩ := X4.facts6
   go_wp2_with fail
   go_ret2
   exact ⟨A, c, L, by rw [HQ3.out]; rfl, HB.out, HL.out, HPOf.out⟩
end Go.Proofs.YtfondidmklmonaaGreat
