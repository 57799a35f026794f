/- mapsheetslaw41.ClipNodes: true. -/
import Derived.Test.YtfondidmklmonaaGreatLawCa
import Derived.Test.YtfondidmklmonaaGreatPNodes
set_option linter.unusedSimpArgs false
set_option linter.unusedVariables false
namespace Go.Proofs.YtfondidmklmonaaGreat
open Go.RowKit

theorem run_eql_nd (a b : Nd) (W : World) : (binOp .eql 59 (.agg #[.int .i64 a.id, .int .i64 a.pt.x, .int .i64 a.pt.y]) (.agg #[.int .i64 b.id, .int .i64 b.pt.x, .int .i64 b.pt.y])).run Tryz.prog W = .ok (.bool (decide (a = b))) W := by
 by_cases h : a = b
 ·
  subst h
  go_simp
 ·
  have h' : ¬ (a.id = b.id ∧ a.pt.x = b.pt.x ∧ a.pt.y = b.pt.y) := fun e => h (Nd.ext_iff'.2 e)
  by_cases hi : (a.id == b.id) = true
  ·
   have hi' : a.id = b.id := by simpa using hi
   by_cases hx : (a.pt.x == b.pt.x) = true
   ·
    have hx' : a.pt.x = b.pt.x := by simpa using hx
    have hy : (a.pt.y == b.pt.y) = false := by simpa [hi', hx'] using h'
    clear hi' hx'
    go_simp
   ·
    have hx' : (a.pt.x == b.pt.x) = false := by simpa using hx
    clear hx hi'
    go_simp
  ·
   have hi' : (a.id == b.id) = false := by simpa using hi
   clear hi
   go_simp
theorem allRes_bad {p : Pl} {s : Se} {x : List Prt} {z : Int} (h : allRes p s = (x, z)) (hz : z ≠ 0) : x = [] := by
 unfold allRes at h
 split at h
 · injection h with h1 h2; exact h1.symm
 ·
  split at h
  · injection h with h1 h2; exact h1.symm
  · injection h with h1 h2; exact absurd h2.symm hz
theorem allRes_ok {p : Pl} {s : Se} {x : List Prt} (h : allRes p s = (x, 0)) : Valid p ∧ SeBd s ∧ x = allS p s := by
 unfold allRes at h
 split at h
 ·
  rename_i h1
  injection h with h2 h3
  exact absurd h3 h1
 ·
  rename_i h1
  split at h
  ·
   rename_i h4
   injection h with h2 h3
   exact absurd h3 h4
  ·
   rename_i h4
   injection h with h2 h3
   have hc : checkS p = 0 := Classical.byContradiction h1
   have hs : seCheck s = 0 := Classical.byContradiction h4
   refine ⟨(check_zero p).1 hc, seOk_bd ?_, h2.symm⟩
   unfold seCheck at hs
   cases h : seOk s
   · rw [h] at hs; simp at hs
   · rfl
theorem Valid.nodes_ne {p : Pl} (h : Valid p) : p.nodes.Pairwise (· ≠ ·) := by
 have := h.sound.nodes
 rw [List.pairwise_map] at this
 exact this.imp (fun h e => by subst e; exact Int.lt_irrefl _ h)
/-- nodes counted in the first parts, and in the first nodes of one more -/
def cntAt (L : List (Prt × Value × Value)) (n : Nd) (k : Nat) : Nat := nodeCnt ((L.take k).map (·.1)) n
theorem cntAt_succ {L : List (Prt × Value × Value)} {n : Nd} {k : Nat} (hk : k < L.length) : cntAt L n (k + 1) = cntAt L n k + L[k].1.nodes.countP (fun x => decide (x = n)) := by
 unfold cntAt nodeCnt
 rw [List.take_succ_eq_append_getElem hk, List.map_append, List.flatMap_append, List.countP_append]
 simp
set_option maxRecDepth 100000 in
set_option maxHeartbeats 16000000 in
theorem ClipNodes_spec (v : Value) (p : Pl) (s : Se) (w : World) (h : PlV w v p) :
  Calls Tryz.prog 8 #[v, seV s] w fun e w' => e = .returned (.bool true) ∧ Below w.heap.size w w' := by
 have HFew := Lib.hid (fun W (hW : Below w.heap.size w W) => Few_spec v p 60 W (h.mono hW) (by omega))
 have HAw := Lib.hid awake41_spec
 have HP1 := Lib.hid (fun (hs : SmP p) W (hW : Below w.heap.size w W) => (All_spec v p s W (h.mono hW) hs).mono (fun _ _ h => h.rd))
 obtain ⟨r, hr⟩ : ∃ r, allRes p s = r := ⟨_, rfl⟩
 rw [hr] at HP1
 obtain ⟨x, z⟩ := r
 dsimp only at HP1
 have HR := Lib.hid hr
 clear hr
 obtain ⟨vn, va, vf, al, rfl, -, ⟨An, cn, rfl, hn1, hn2, hRn⟩, -⟩ := h
 have HRn := Lib.hid hRn
 unfold maxLen at hn2
 obtain ⟨nn, hnn⟩ : ∃ nn, p.nodes.length = nn := ⟨_, rfl⟩
 rw [hnn] at hn1
 have HNn := Lib.hid hnn
 rw [hnn] at HP1 HFew ⊢
 unfold seV at HP1 ⊢
 obtain ⟨f1, hf1⟩ : ∃ z, fewS p 60 = z := ⟨_, rfl⟩
 rw [hf1] at HFew
 have HFw := Lib.hid hf1
 clear hf1 hRn hnn
 obtain ⟨s0, hs0⟩ : ∃ s0, w.heap.size = s0 := ⟨_, rfl⟩
 obtain ⟨g4, h4⟩ : ∃ g, s0 + 1 = g := ⟨_, rfl⟩
 obtain ⟨W, hW⟩ : ∃ W : World, W = (w.alloc (.cells #[.slice An nn cn, va, vf] 26)).alloc (.cells #[.int .i64 s.at_.x, .int .i64 s.at_.y, .int .i64 s.width, .int .i64 s.height, .int .i64 s.cols, .int .i64 s.rows] 30) := ⟨_, rfl⟩
 have HB0 := Lib.hid (show Below w.heap.size w W by rw [hW]; exact bA (bA (bR w) _) _)
 have X3 : Blk W s0 26 #[.slice An nn cn, va, vf] := by rw [hW]; exact (Blk.made hs0.symm _ _).alloc _
 have X4 : Blk W g4 30 #[.int .i64 s.at_.x, .int .i64 s.at_.y, .int .i64 s.width, .int .i64 s.height, .int .i64 s.cols, .int .i64 s.rows] := by rw [hW]; exact Blk.made (by simp; omega) _ _
 go_enter Tryz.func8, Tryz.ntmps8
 go_upto_region 1 with fail
 try rw [← hW]
 clear hW hs0 h4
 obtain ⟨X3l, X3a, X3b, X3c, -, -, -⟩ := X3.facts3
 go_wp2_with fail
 refine (HFew.out _ HB0.out).mono ?_
 rintro e w1 ⟨rfl, hb1⟩
 have HB1 := Lib.hid (bT HB0.out hb1)
 replace X3 := X3.keep hb1
 replace X4 := X4.keep hb1
 clear hb1
 have HX3 := Lib.hid X3; have HX4 := Lib.hid X4
 clear X3
 try clear X3l
 try clear X3a
 try clear X3b
 try clear X3c
 obtain ⟨X4l, X4a, X4b, X4c, X4d, X4e, X4f, -, -, -, -, -, -⟩ := X4.facts6
 cases f1
 ·
  go_wp2_with fail
  refine (HAw.out _).mono ?_
  rintro e w2 ⟨rfl, hb2⟩
  go_wp2_with fail
  go_ret
  exact ⟨rfl, bT HB1.out hb2⟩
 have hsm := few_smP HFw.out (by omega)
 replace HP1 := Lib.hid (HP1.out hsm)
 clear hsm
 by_cases k1 : 16 < s.cols
 ·
  go_wp2_with fail
  refine (HAw.out _).mono ?_
  rintro e w2 ⟨rfl, hb2⟩
  go_wp2_with fail
  go_ret
  exact ⟨rfl, bT HB1.out hb2⟩
 by_cases k2 : 16 < s.rows
 ·
  go_wp2_with fail
  refine (HAw.out _).mono ?_
  rintro e w2 ⟨rfl, hb2⟩
  go_wp2_with fail
  go_ret
  exact ⟨rfl, bT HB1.out hb2⟩
 by_cases k3 : 0 < s.cols ∧ 0 < s.rows ∧ 16 < s.cols * s.rows
 ·
  obtain ⟨c1, c2, c3⟩ := k3
  have hM := mul_bds (a := s.cols) (b := s.rows) (m := 16) (n := 16) (by omega) (by omega) (by omega) (by omega)
  obtain ⟨M, hMe⟩ : ∃ M, s.cols * s.rows = M := ⟨_, rfl⟩
  rw [hMe] at hM c3
  have hmul : IntKind.i64.wrap (s.cols * s.rows) = M := by rw [hMe]; exact IntWalk.i64_in _ (by omega)
  clear hMe
  go_wp2_with fail
  refine (HAw.out _).mono ?_
  rintro e w2 ⟨rfl, hb2⟩
  go_wp2_with fail
  go_ret
  exact ⟨rfl, bT HB1.out hb2⟩
 by_cases hok : seOk s = true
 case neg =>
  have hz : z ≠ 0 := by
   have hr := HR.out
   unfold allRes at hr
   split at hr
   ·
    rename_i h1
    injection hr with h2 h3
    rw [← h3]; exact h1
   ·
    split at hr
    ·
     rename_i h4
     injection hr with h2 h3
     rw [← h3]; exact h4
    ·
     rename_i h4
     exact absurd (by unfold seCheck; rw [if_neg hok]; decide) h4
  have hx0 := allRes_bad HR.out hz
  have hc : s.cols ≤ 0 ∨ (0 < s.cols ∧ s.rows ≤ 0) ∨ (∃ M : Int, 0 < s.cols ∧ 0 < s.rows ∧ IntKind.i64.wrap (s.cols * s.rows) = M ∧ M ≤ 16) := by
   rcases Int.lt_or_le 0 s.cols with c1 | c1
   ·
    rcases Int.lt_or_le 0 s.rows with c2 | c2
    ·
     have hM := mul_bds (a := s.cols) (b := s.rows) (m := 16) (n := 16) (by omega) (by omega) (by omega) (by omega)
     have h16 : s.cols * s.rows ≤ 16 := by
      rcases Int.lt_or_le 16 (s.cols * s.rows) with h | h
      · exact absurd ⟨c1, c2, h⟩ k3
      · exact h
     exact .inr (.inr ⟨_, c1, c2, rfl, by rw [IntWalk.i64_in _ (by omega)]; exact h16⟩)
    · exact .inr (.inl ⟨c1, c2⟩)
   · exact .inl c1
  have HZ := Lib.hid (⟨hz, hx0⟩ : z ≠ 0 ∧ x = [])
  clear k3 hok hz hx0
  rcases hc with c1 | ⟨c1, c2⟩ | ⟨M, c1, c2, hmul, c4⟩
  all_goals
   go_upto_region 3 with fail
   clear k1 k2 X4 X4l X4a X4b X4c X4d X4e X4f
   try clear hmul
   have X3 := HX3.out
   have X4 := HX4.out
   try clear X3l
   try clear X3a
   try clear X3b
   try clear X3c
   obtain ⟨X3l, X3a, X3b, X3c, -, -, -⟩ := X3.facts3
   try clear X4l
   try clear X4a
   try clear X4b
   try clear X4c
   try clear X4d
   try clear X4e
   try clear X4f
   obtain ⟨X4l, X4a, X4b, X4c, X4d, X4e, X4f, -, -, -, -, -, -⟩ := X4.facts6
   go_wp2_with fail
   obtain ⟨hz, hx0⟩ := HZ.out
   refine (HP1.out _ HB1.out).mono ?_
   rintro e w2 ⟨A, c, L, rfl, hb2, -, -⟩
   have HB2 := Lib.hid (bT HB1.out hb2)
   clear hb2
   rw [hx0, List.length_nil]
   have hne : (z != 0) = true := by simpa using hz
   go_wp2_with fail
   refine (HAw.out _).mono ?_
   rintro e w5 ⟨rfl, hb5⟩
   go_wp2_with fail
   go_ret
   exact ⟨rfl, bT HB2.out hb5⟩
 have hbd := seOk_bd hok
 have hc := hbd.c; have hr := hbd.r; have hw := hbd.w; have hh := hbd.h; have hxx := hbd.x; have hyy := hbd.y
 have hM := mul_bds (a := s.cols) (b := s.rows) (m := 16) (n := 16) (by omega) (by omega) (by omega) (by omega)
 have hM16 : s.cols * s.rows ≤ 16 := by
  rcases Int.lt_or_le 16 (s.cols * s.rows) with h | h
  · exact absurd ⟨by omega, by omega, h⟩ k3
  · exact h
 obtain ⟨M, hMe⟩ : ∃ M, s.cols * s.rows = M := ⟨_, rfl⟩
 rw [hMe] at hM hM16
 have hmul : IntKind.i64.wrap (s.cols * s.rows) = M := by rw [hMe]; exact IntWalk.i64_in _ (by omega)
 have HSe := Lib.hid hbd
 clear hMe k3 hok hbd
 go_upto_region 3 with fail
 clear k1 k2 X4 X4l X4a X4b X4c X4d X4e X4f hmul hM hM16
 have X3 := HX3.out
 have X4 := HX4.out
 try clear X3l
 try clear X3a
 try clear X3b
 try clear X3c
 obtain ⟨X3l, X3a, X3b, X3c, -, -, -⟩ := X3.facts3
 try clear X4l
 try clear X4a
 try clear X4b
 try clear X4c
 try clear X4d
 try clear X4e
 try clear X4f
 obtain ⟨X4l, X4a, X4b, X4c, X4d, X4e, X4f, -, -, -, -, -, -⟩ := X4.facts6
 go_wp2_with fail
 by_cases hz : z = 0
 case neg =>
  have hx0 := allRes_bad HR.out hz
  refine (HP1.out _ HB1.out).mono ?_
  rintro e w2 ⟨A, c, L, rfl, hb2, -, -⟩
  have HB2 := Lib.hid (bT HB1.out hb2)
  clear hb2
  rw [hx0, List.length_nil]
  have hne : (z != 0) = true := by simpa using hz
  go_wp2_with fail
  refine (HAw.out _).mono ?_
  rintro e w5 ⟨rfl, hb5⟩
  go_wp2_with fail
  go_ret
  exact ⟨rfl, bT HB2.out hb5⟩
 subst hz
 obtain ⟨hVd, -, hxs⟩ := allRes_ok HR.out
 have HVd := Lib.hid hVd; have HXs := Lib.hid hxs
 have HNl := Lib.hid (show ∀ y ∈ x, y.nodes.length ≤ 1000 by
  intro y hy
  rw [hxs] at hy
  obtain ⟨i, -, rfl⟩ := List.mem_map.1 hy
  have h1 := (few_short HFw.out).1
  have h2 := List.length_filter_le (fun n => inB (boxOf s ((i : Int) + 1)) n.pt) p.nodes
  show (p.nodes.filter (fun n => inB (boxOf s ((i : Int) + 1)) n.pt)).length ≤ 1000
  omega)
 have HLn := Lib.hid (show x.length ≤ 256 by
  rw [hxs]
  unfold allS
  rw [List.length_map, List.length_range]
  have h1 := mul_bds (a := s.cols) (b := s.rows) (m := 16) (n := 16) (by omega) (by omega) (by omega) (by omega)
  omega)
 clear hVd hxs
 refine (HP1.out _ HB1.out).mono ?_
 rintro e w2 ⟨A, c, L, rfl, hb2, hl2, ho2⟩
 obtain ⟨M, hM⟩ : ∃ M, x.length = M := ⟨_, rfl⟩
 have hlm : L.length = M := by rw [← hM, ← hl2, List.length_map]
 obtain ⟨⟨A', c', hv, hn, hcc, hRp⟩, hVp⟩ := ho2
 rw [hM] at hv
 rw [hM]
 injection hv with hA' hML hc'
 subst hA' hc'
 clear hML
 have HB2 := Lib.hid (bT HB1.out hb2)
 have HX32 := Lib.hid (HX3.out.keep hb2); have HX42 := Lib.hid (HX4.out.keep hb2)
 have HRp := Lib.hid hRp; have HVp := Lib.hid hVp; have HL2 := Lib.hid hl2; have HLm := Lib.hid hlm
 have hM256 : M ≤ 256 := by have := HLn.out; omega
 have HM := Lib.hid hM
 clear hb2 hRp hVp hl2 hlm hM X3 X3l X3a X3b X3c X4 X4l X4a X4b X4c X4d X4e X4f hn hcc
 have X4 := HX42.out
 try clear X4l
 try clear X4a
 try clear X4b
 try clear X4c
 try clear X4d
 try clear X4e
 try clear X4f
 obtain ⟨X4l, X4a, X4b, X4c, X4d, X4e, X4f, -, -, -, -, -, -⟩ := X4.facts6
 have hcw := mul_bds (a := s.cols) (b := s.width) (m := 16) (n := 65536) (by omega) (by omega) (by omega) (by omega)
 have hrh := mul_bds (a := s.rows) (b := s.height) (m := 16) (n := 65536) (by omega) (by omega) (by omega) (by omega)
 obtain ⟨CW, hCW⟩ : ∃ M, s.cols * s.width = M := ⟨_, rfl⟩
 obtain ⟨RH, hRH⟩ : ∃ M, s.rows * s.height = M := ⟨_, rfl⟩
 rw [hCW] at hcw
 rw [hRH] at hrh
 have hm1 : IntKind.i64.wrap (s.cols * s.width) = CW := by rw [hCW]; exact IntWalk.i64_in _ (by omega)
 have hm2 : IntKind.i64.wrap (s.rows * s.height) = RH := by rw [hRH]; exact IntWalk.i64_in _ (by omega)
 have HBx := Lib.hid (show wholeB s = ⟨s.at_.x, s.at_.y, s.at_.x + CW, s.at_.y + RH⟩ by unfold wholeB; rw [hCW, hRH])
 clear hCW hRH
 obtain ⟨g7, h7⟩ : ∃ g, w2.heap.size = g := ⟨_, rfl⟩
 obtain ⟨W7, hW7⟩ : ∃ W : World, W = w2.alloc (.cells #[.int .i64 s.at_.x, .int .i64 s.at_.y, .int .i64 (s.at_.x + CW), .int .i64 (s.at_.y + RH)] 50) := ⟨_, rfl⟩
 have hA7 : Below w2.heap.size w2 W7 := by rw [hW7]; exact bA (bR w2) _
 have HX7 := Lib.hid (show Blk W7 g7 50 #[.int .i64 s.at_.x, .int .i64 s.at_.y, .int .i64 (s.at_.x + CW), .int .i64 (s.at_.y + RH)] by rw [hW7]; exact Blk.made h7.symm _ _)
 have HX37 := Lib.hid (HX32.out.keep hA7)
 have HB7 := Lib.hid (bT HB2.out hA7)
 have HA7 := Lib.hid hA7
 have HRp7 := Lib.hid (HRp.out.mono hA7)
 have HVp7 := Lib.hid (fun k (hk : k < L.length) => (HVp.out k hk).mono hA7)
 go_upto_region 7 with fail
 try rw [← hW7]
 try rw [h7]
 clear hW7 h7 hA7 X4 X4l X4a X4b X4c X4d X4e X4f hm1 hm2 HB2 HX32 HX42 HRp HVp
 have HCx := Lib.hid (show ∀ nd ∈ p.nodes, cntAt L nd L.length = onSheets s nd.pt by
  intro nd hnd
  unfold cntAt
  rw [List.take_length, HL2.out, HXs.out]
  exact nodeCnt_all p s HVd.out.nodes_ne hnd)
 have HLe := Lib.hid (show ∀ j (hj : j < L.length), L[j].1.nodes.length ≤ 1000 by
  intro j hj
  have h1 : L[j].1 ∈ L.map (·.1) := List.mem_map_of_mem (List.getElem_mem hj)
  rw [HL2.out] at h1
  exact HNl.out _ h1)
 have hLM : L.length ≤ 256 := by have := HLm.out; omega
 rw [← HLm.out]
 clear hM256
 go_wp2_with fail
 go_loopw [8] (fun u wr => ∃ i : Nat, i ≤ nn ∧ u = .int .i64 i ∧ Below W7.heap.size W7 wr) (fun u _ => nn - (intOf u).toNat)
 case atStart => exact ⟨0, Nat.zero_le _, rfl, bR W7⟩
 case round =>
  obtain ⟨i, hi, rfl, hb⟩ := hrel
  have Hb := Lib.hid hb
  have HBw := Lib.hid (bT HB7.out hb)
  have X3 := HX37.out.keep hb
  clear hb
  by_cases hil : i < nn
  ·
   have hin : i < p.nodes.length := by rw [HNn.out]; exact hil
   obtain ⟨bb, oo, rfl, hlb, c0, d1, d2⟩ := HRn.out.nd hin
   have HCn := Lib.hid (HCx.out _ (List.getElem_mem hin))
   have HIs := Lib.hid (onSheets_is HSe.out p.nodes[i].pt)
   obtain ⟨nd, hnd⟩ : ∃ nd, p.nodes[i] = nd := ⟨_, rfl⟩
   rw [hnd] at c0 d1 d2 HCn HIs
   have Hc := Lib.hid (⟨c0, d1, d2⟩ : _ ∧ _ ∧ _)
   obtain ⟨N, hN⟩ : ∃ N, onSheets s nd.pt = N := ⟨_, rfl⟩
   rw [hN] at HCn HIs
   have v2 : 0 ≤ (i : Int) := by omega
   have v3 : (i : Int) < nn := by omega
   clear hnd hN c0 d1 d2
   obtain ⟨wo, hwo⟩ : ∃ wo : World, wo = wr := ⟨_, rfl⟩
   rw [← hwo] at Hb HBw X3 ⊢
   clear hwo
   try clear X3l
   try clear X3a
   try clear X3b
   try clear X3c
   obtain ⟨X3l, X3a, X3b, X3c, -, -, -⟩ := X3.facts3
   go_upto_block 2 with fail
   go_cut [9] (fun u wx => u = .int .i64 N ∧ Below wo.heap.size wo wx)
   case first =>
    clear X3 X3l X3a X3b X3c
    go_wp2_with fail
    go_loopw [9, 10] (fun a u wx => ∃ (k T : Nat), k ≤ L.length ∧ u = .int .i64 k ∧ a = .int .i64 T ∧ T = cntAt L nd k ∧ T ≤ 1000 * k ∧ Below wo.heap.size wo wx) (fun _ u _ => L.length - (intOf u).toNat)
    case atStart => exact ⟨0, 0, Nat.zero_le _, rfl, rfl, by simp [cntAt, nodeCnt], Nat.zero_le _, bR wo⟩
    case round =>
     rename_i wr0
     obtain ⟨k, T, hk, rfl, rfl, hT, hTk, hb2⟩ := hrel
     have Hb2 := Lib.hid hb2; have HT := Lib.hid hT
     clear hb2 hT
     by_cases hkl : k < L.length
     ·
      obtain ⟨bp, op, rfl, hlp, e0, e1, e2⟩ := (HRp7.out.mono (bT Hb.out Hb2.out)).prt hkl
      obtain ⟨vp, vm, pl, he, -, -, ⟨Bn, dn, hvn, hm1, hm2, hRx⟩⟩ := (HVp7.out k hkl).mono (bT Hb.out Hb2.out)
      obtain ⟨-, f2⟩ : L[k].2.1 = vp ∧ L[k].2.2 = vm := by simpa using he
      rw [f2, hvn] at e2
      unfold maxLen at hm2
      have HRx := Lib.hid hRx
      have HSu := Lib.hid (cntAt_succ (n := nd) hkl)
      have hxl := HLe.out k hkl
      have HE := Lib.hid (⟨e0, e1⟩ : _ ∧ _)
      obtain ⟨xs, hxs⟩ : ∃ xs, L[k].1.nodes = xs := ⟨_, rfl⟩
      rw [hxs] at e2 hm1 HRx HSu hxl
      obtain ⟨m, hm⟩ : ∃ m, xs.length = m := ⟨_, rfl⟩
      rw [hm] at e2 hm1 hxl
      have HM2 := Lib.hid hm
      have HE2 := Lib.hid e2
      have v4 : 0 ≤ (k : Int) := by omega
      have v5 : (k : Int) < L.length := by omega
      obtain ⟨wk, hwk⟩ : ∃ wk : World, wk = wr := ⟨_, rfl⟩
      rw [← hwk] at Hb2 HE2 HRx hlp e2 ⊢
      clear hwk he f2 hvn hRx hxs hm HE e0 e1
      go_upto_region 14 with fail
      clear e2
      go_wp2_with fail
      go_loopw [9, 11] (fun a u wx => ∃ (j S : Nat), j ≤ m ∧ u = .int .i64 j ∧ a = .int .i64 S ∧ S = T + (xs.take j).countP (fun t => decide (t = nd)) ∧ S ≤ 1000 * k + j ∧ Below wk.heap.size wk wx) (fun _ u _ => m - (intOf u).toNat)
      case atStart => exact ⟨0, T, Nat.zero_le _, rfl, rfl, by simp, by omega, bR wk⟩
      case round =>
       rename_i wr1
       obtain ⟨j, S, hj, rfl, rfl, hS, hSj, hb3⟩ := hrel
       have Hb3 := Lib.hid hb3; have HS := Lib.hid hS
       have e2 := keepc hb3 HE2.out
       have hlp2 : bp < wr.heap.size := Nat.lt_of_lt_of_le hlp hb3.size
       clear hb3 hS
       by_cases hjm : j < m
       ·
        have hjx : j < xs.length := by rw [HM2.out]; exact hjm
        obtain ⟨bx, ox, rfl, hlx, u0, u1, u2⟩ := (HRx.out.mono Hb3.out).nd hjx
        have HSt := Lib.hid (show T + (xs.take (j + 1)).countP (fun t => decide (t = nd)) = S + (if decide (xs[j] = nd) = true then 1 else 0) by
         rw [List.take_succ_eq_append_getElem hjx, List.countP_append, List.countP_singleton, HS.out]; omega)
        have hE := run_eql_nd xs[j] nd
        obtain ⟨zz, hzz⟩ : ∃ z, decide (xs[j] = nd) = z := ⟨_, rfl⟩
        rw [hzz] at HSt hE
        obtain ⟨q, hq⟩ : ∃ q, xs[j] = q := ⟨_, rfl⟩
        rw [hq] at u0 u1 u2 hE
        have X3 := HX37.out.keep (bT Hb.out (bT Hb2.out Hb3.out))
        have c0 := keepc (bT HBw.out (bT Hb2.out Hb3.out)) Hc.out.1
        have d1 := keepc (bT HBw.out (bT Hb2.out Hb3.out)) Hc.out.2.1
        have d2 := keepc (bT HBw.out (bT Hb2.out Hb3.out)) Hc.out.2.2
        have hlb2 : bb < wr.heap.size := Nat.lt_of_lt_of_le hlb (bT HBw.out (bT Hb2.out Hb3.out)).size
        have v6 : 0 ≤ (j : Int) := by omega
        have v7 : (j : Int) < m := by omega
        clear hzz hq hjx
        try clear X3l
        try clear X3a
        try clear X3b
        try clear X3c
        obtain ⟨X3l, X3a, X3b, X3c, -, -, -⟩ := X3.facts3
        go_upto_region 17 with fail
        refine rg_start (Since wr) (.run 14 0 0 (.done)) (by kernel_rfl) (bD (bR _)) (by kernel_rfl) (by kernel_rfl) (Nat.le_of_ble_eq_true (by kernel_rfl)) ?_
        intro opsR QR Hops HQrg hS
        iterate 14
         apply rg_p; exact Hops; exact rfl; exact hS; exact rfl
         · intro _ hqc; go_simp; try rfl
         try simp only [pu]
        refine rg_done ?_
        refine HQrg.down _ _ ?_
        have hB : Below wr.heap.size wr wr.drew := hS
        clear hS HQrg Hops
        have Hb4 := Lib.hid (bT Hb3.out hB)
        clear hB X3 X3l X3a X3b X3c c0 d1 d2 u0 u1 u2 hE e2
        cases zz
        ·
         have HSt2 := Lib.hid (show S = T + (xs.take (j + 1)).countP (fun t => decide (t = nd)) by rw [HSt.out]; simp)
         go_wp2_with fail
         go_roundw
         case rel => exact ⟨j + 1, S, by omega, by go_num, rfl, HSt2.out, by omega, Hb4.out⟩
         case measure => simp [intOf]; omega
        ·
         have HSt2 := Lib.hid (show S + 1 = T + (xs.take (j + 1)).countP (fun t => decide (t = nd)) by rw [HSt.out]; simp)
         go_wp2_with fail
         go_roundw
         case rel => exact ⟨j + 1, S + 1, by omega, by go_num, by go_num, HSt2.out, by omega, Hb4.out⟩
         case measure => simp [intOf]; omega
       ·
        have HSt2 := Lib.hid (show S = cntAt L nd (k + 1) by
         have hjm2 : j = m := by omega
         rw [HSu.out, HS.out, hjm2, ← HM2.out, List.take_length, HT.out])
        have v7 : ¬ (j : Int) < m := by omega
        go_wp2_with fail
        go_roundw
        case rel => exact ⟨k + 1, S, by omega, by go_num, rfl, HSt2.out, by omega, bT Hb2.out Hb3.out⟩
        case measure => simp [intOf]; omega
     ·
      have hTN : T = N := by
       have hkk : k = L.length := by omega
       rw [HT.out, hkk, HCn.out]
      have HTN := Lib.hid hTN
      have v5 : ¬ (k : Int) < L.length := by omega
      clear hTN
      go_wp2_with fail
      go_meet
      case rel => exact ⟨by rw [HTN.out], Hb2.out⟩
   case rest =>
   obtain ⟨rfl, hbc⟩ := hcut
   obtain ⟨wC, hwC⟩ : ∃ wC : World, wC = wc := ⟨_, rfl⟩
   rw [← hwC] at hbc ⊢
   have HbC := Lib.hid (bT Hb.out hbc)
   have HBC := Lib.hid (bT HBw.out hbc)
   clear hwC hbc X3 X3l X3a X3b X3c
   have X3 := HX37.out.keep HbC.out
   have X7 := HX7.out.keep HbC.out
   have c0 := keepc HBC.out Hc.out.1
   have d1 := keepc HBC.out Hc.out.2.1
   have d2 := keepc HBC.out Hc.out.2.2
   have hlb2 : bb < wC.heap.size := Nat.lt_of_lt_of_le hlb HBC.out.size
   have TI := fun W => rIn_spec (wholeB s) nd.pt W
   obtain ⟨zz, hzz⟩ : ∃ z, inB (wholeB s) nd.pt = z := ⟨_, rfl⟩
   rw [hzz] at TI HIs
   rw [HBx.out] at TI
   unfold bxV ptV at TI
   have HI := Lib.hid TI
   clear TI hzz
   try clear X3l
   try clear X3a
   try clear X3b
   try clear X3c
   obtain ⟨X3l, X3a, X3b, X3c, -, -, -⟩ := X3.facts3
   obtain ⟨X7l, X7a, X7b, X7c, X7d, -, -, -, -⟩ := X7.facts4
   go_upto_region 19 with fail
   refine rg_start (Since wC) (.run 7 0 0 (.call 7 255 (.take 8 511 (.done)))) (by kernel_rfl) (bD (bR _)) (by kernel_rfl) (by kernel_rfl) (Nat.le_of_ble_eq_true (by kernel_rfl)) ?_
   intro opsR QR Hops HQrg hS
   iterate 7
    apply rg_p; exact Hops; exact rfl; exact hS; exact rfl
    · intro _ hqc; go_simp; try rfl
    try simp only [pu]
   refine rg_call (i := 7) (get_of Hops rfl) (fun K hK => ?_)
   have HSrg := Lib.hid hS; clear hS
   refine rg_run (wanted_plain rfl) ?_
   go_simp
   refine (HI.out _).mono ?_
   rintro e wr1 ⟨rfl, hbr1⟩
   have hS : Since wC wr1 := bT (w := wC) HSrg.out hbr1
   clear HSrg
   refine hK.out _ _ hS (fun _ => ?_)
   clear hK K
   try simp only [pu]
   apply rg_p; exact Hops; exact rfl; exact hS; exact rfl
   · intro _ hqc; go_simp; try rfl
   try simp only [pu]
   refine rg_done ?_
   refine HQrg.down _ _ ?_
   have hB : Below wC.heap.size wC wr1 := hS
   clear hS HQrg Hops
   obtain ⟨wP, hwP⟩ : ∃ wP : World, wP = wr1 := ⟨_, rfl⟩
   rw [← hwP] at hB ⊢
   have HbP := Lib.hid (bT HbC.out hB)
   clear hB hwP hbr1 X3 X3l X3a X3b X3c X7 X7l X7a X7b X7c X7d c0 d1 d2
   cases zz
   ·
    have hn0 := HIs.out.2 rfl
    subst hn0
    go_wp2_with fail
    go_roundw
    case rel => exact ⟨i + 1, by omega, by go_num, HbP.out⟩
    case measure => simp [intOf]; omega
   ·
    rcases HIs.out.1 rfl with hn0 | hn0 | hn0
    all_goals
     subst hn0
     go_wp2_with fail
     go_roundw
     case rel => exact ⟨i + 1, by omega, by go_num, HbP.out⟩
     case measure => simp [intOf]; omega
  ·
   have v3 : ¬ (i : Int) < nn := by omega
   try clear X3l
   try clear X3a
   try clear X3b
   try clear X3c
   obtain ⟨X3l, X3a, X3b, X3c, -, -, -⟩ := X3.facts3
   go_wp2_with fail
   refine (HAw.out _).mono ?_
   rintro e w6 ⟨rfl, hb6⟩
   have HB6 := Lib.hid (bT HBw.out hb6)
   clear hb6
   go_wp2_with fail
   go_ret
   exact ⟨rfl, HB6.out⟩
end Go.Proofs.YtfondidmklmonaaGreat
