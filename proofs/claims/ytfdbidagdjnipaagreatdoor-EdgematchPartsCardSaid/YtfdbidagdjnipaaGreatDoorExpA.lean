/- edgematch.Expected. -/
import Derived.Test.YtfdbidagdjnipaaGreatDoorJ14
import Derived.Test.YtfdbidagdjnipaaGreatDoorJ11
set_option linter.unusedSimpArgs false
set_option linter.unusedVariables false
namespace Go.Proofs.YtfdbidagdjnipaaGreatDoor
open Go.RowKit

theorem exp_err {p : Pl} {s : Se} {n side : Int} (h : checkS p ≠ 0) : expectedS p s n side = ([], checkS p) := by
 unfold expectedS; rw [if_neg h]
theorem exp_find {p : Pl} {s : Se} {n side : Int} (h : checkS p = 0) (h2 : findE s n ≠ 0) : expectedS p s n side = ([], findE s n) := by
 unfold expectedS; rw [if_pos h, if_neg h2]
theorem exp_none {p : Pl} {s : Se} {n side : Int} (h : checkS p = 0) (h2 : findE s n = 0) (h3 : edOf (boxOf s n) side = none) : expectedS p s n side = ([], 1) := by
 unfold expectedS; rw [if_pos h, if_pos h2, h3]
theorem exp_some {p : Pl} {s : Se} {n side : Int} {g : Ed} (h : checkS p = 0) (h2 : findE s n = 0) (h3 : edOf (boxOf s n) side = some g) : expectedS p s n side = (sortCr (expL g p), 0) := by
 unfold expectedS; rw [if_pos h, if_pos h2, h3]
theorem off_neg {g : Ed} {a b : Pt} (ha : onE g a = false) (hb : onE g b = false) : (offS g a == -(offS g b)) = decide (innerS g a ≠ innerS g b) := by
 have h1 := off_three g a; have h2 := off_three g b
 have n1 : offS g a ≠ 0 := fun e => by rw [(off_on g a).1 e] at ha; cases ha
 have n2 : offS g b ≠ 0 := fun e => by rw [(off_on g b).1 e] at hb; cases hb
 have i1 := off_in g a; have i2 := off_in g b
 rcases h1 with h1 | h1 | h1
 · exact absurd h1 n1
 ·
  rcases h2 with h2 | h2 | h2
  · exact absurd h2 n2
  · rw [h1, h2, i1.1 h1, i2.1 h2]; decide
  ·
   have : innerS g b = false := Bool.eq_false_iff.2 fun e => by have := i2.2 e; omega
   rw [h1, h2, i1.1 h1, this]; decide
 ·
  have e1 : innerS g a = false := Bool.eq_false_iff.2 fun e => by have := i1.2 e; omega
  rcases h2 with h2 | h2 | h2
  · exact absurd h2 n2
  · rw [h1, h2, e1, i2.1 h2]; decide
  ·
   have : innerS g b = false := Bool.eq_false_iff.2 fun e => by have := i2.2 e; omega
   rw [h1, h2, e1, this]; decide

theorem exp_len (g : Ed) (p : Pl) (k : Nat) (hk : k ≤ p.arcs.length) : ((p.arcs.take k).flatMap fun a => (expAt g p.nodes a.id (pathS p a) (pathS p a).length).2).length ≤ ((p.arcs.take k).flatMap (·.via)).length + 2 * k := by
 induction k with
 | zero => simp
 | succ k ih =>
  have hk1 : k < p.arcs.length := by omega
  have h1 := (expAt_bd g p.nodes p.arcs[k].id (pathS p p.arcs[k]) (pathS p p.arcs[k]).length).2.2.2
  have h2 := ih (by omega)
  have h3 : (pathS p p.arcs[k]).length = p.arcs[k].via.length + 2 := pathS_length _ _
  rw [List.take_succ_eq_append_getElem hk1, List.flatMap_append, List.flatMap_append, List.length_append, List.length_append]
  simp only [List.flatMap_cons, List.flatMap_nil, List.append_nil]
  omega
theorem via_le' {p : Pl} {M : Nat} (h : (p.arcs.flatMap (·.via)).length ≤ M) : ∀ a ∈ p.arcs, a.via.length ≤ M := fun a ha => by
 obtain ⟨i, hi, rfl⟩ := List.mem_iff_getElem.1 ha
 have h1 := flat_take_le p.arcs (·.via) (i + 1)
 rw [List.take_succ_eq_append_getElem hi, List.flatMap_append, List.length_append] at h1
 simp only [List.flatMap_cons, List.flatMap_nil, List.append_nil] at h1
 omega
set_option maxRecDepth 100000 in
set_option maxHeartbeats 8000000 in
theorem Expected_spec (v : Value) (p : Pl) (s : Se) (n side : Int) (w : World) (h : PlV w v p) (hwf : wfPl p) (hsm : p.nodes.length ≤ 1000 ∧ p.arcs.length ≤ 1000 ∧ (p.arcs.flatMap (·.via)).length ≤ 100000) :
  Calls Tryz.prog 12 #[v, seV s, .int .i64 n, .int .i64 side] w (RetCrs w (expectedS p s n side)) := by
 have HP := Lib.hid h
 have HWf := Lib.hid hwf
 have HSm := Lib.hid hsm
 obtain ⟨vn, _, vf, al, rfl, hpa, hN, ⟨⟨Aa, ca, rfl, ha1, ha2, hRa⟩, hV⟩, -⟩ := h
 unfold maxLen at ha2
 obtain ⟨An, cn, rfl, -⟩ := hN
 have HRa := Lib.hid hRa; have HV := Lib.hid hV; have HPa := Lib.hid hpa
 clear hRa hV hpa hwf hsm
 have TB := fun w => sBox_spec s n w
 unfold seV boxV bxV at TB
 unfold seV
 have HBx := Lib.hid TB
 clear TB
 obtain ⟨r, hr⟩ : ∃ r, expectedS p s n side = r := ⟨_, rfl⟩
 rw [hr]
 have Hr := Lib.hid hr
 clear hr
 go_enter Tryz.func12, Tryz.ntmps12
 go_wp2_with fail
 refine (Check_spec _ p _ (HP.out.mono (bA (bA (bR w) _) _))).mono ?_
 rintro e w1 ⟨rfl, hb1⟩
 have HX4 : Hid (Blk w1 w.heap.size 26 #[.slice An p.nodes.length cn, .slice Aa al.length ca, vf]) := Lib.hid (((Blk.made rfl _ _).alloc _).keep hb1)
 have HX5 : Hid (Blk w1 (w.heap.size + 1) 30 #[.int .i64 s.at_.x, .int .i64 s.at_.y, .int .i64 s.width, .int .i64 s.height, .int .i64 s.cols, .int .i64 s.rows]) := Lib.hid ((Blk.made (by simp) _ _).keep hb1)
 have HB1 := Lib.hid (bT (bA (bA (bR w) _) _) hb1)
 clear hb1
 by_cases hck : checkS p = 0
 case neg =>
  have hf := exp_err (s := s) (n := n) (side := side) hck
  rw [Hr.out] at hf
  have hq : (checkS p != 0) = true := by simp [hck]
  have HF := Lib.hid hf
  clear hf hck
  generalize checkS p = q at *
  go_wp2_with fail
  go_ret2
  have h := HF.out
  subst h
  exact ⟨none, 0, rfl, HB1.out, Own.nil _ _ _ _ _⟩
 have Hck := Lib.hid hck
 rw [hck]
 clear hck
 have X5 := HX5.out
 obtain ⟨X5l, X5a, X5b, X5c, X5d, X5e, X5f, -, -, -, -, -, -⟩ := X5.facts6
 go_wp2_with fail
 refine (HBx.out _).mono ?_
 rintro e w2 ⟨rfl, hb2⟩
 replace HX4 := Lib.hid (HX4.out.keep hb2)
 have HB2 := Lib.hid (bT HB1.out hb2)
 clear hb2 X5 X5l X5a X5b X5c X5d X5e X5f
 by_cases hfe : findE s n = 0
 case neg =>
  have hf := exp_find (side := side) Hck.out hfe
  rw [Hr.out] at hf
  have hbr : boxRes s n = (bx0, findE s n) := by unfold boxRes; rw [if_neg hfe]
  rw [hbr]
  have hq : (findE s n != 0) = true := by simp [hfe]
  have HF := Lib.hid hf
  clear hf hfe hbr
  generalize findE s n = q at *
  unfold bx0
  go_wp2_with fail
  go_ret2
  have h := HF.out
  subst h
  exact ⟨none, 0, rfl, bA HB2.out _, Own.nil _ _ _ _ _⟩
 have hbr : boxRes s n = (boxOf s n, 0) := by unfold boxRes; rw [if_pos hfe]
 rw [hbr]
 have Hfe := Lib.hid hfe
 clear hfe hbr HBx HX5
 have TE := makeEdge_spec (boxOf s n) side
 unfold bxV edRes edV at TE
 have HE := Lib.hid TE
 clear TE
 go_wp2_with fail
 refine (HE.out _).mono ?_
 rintro e w3 ⟨rfl, hb3⟩
 replace HX4 := Lib.hid ((HX4.out.alloc _).keep hb3)
 have HB3 := Lib.hid (bT (bA HB2.out _) hb3)
 clear hb3
 cases hoe : edOf (boxOf s n) side
 case none =>
  have hf := exp_none Hck.out Hfe.out hoe
  rw [Hr.out] at hf
  have HF := Lib.hid hf
  clear hf hoe
  simp only [Option.isSome_none, Option.getD_none]
  go_wp2_with fail
  go_ret2
  have h := HF.out
  subst h
  exact ⟨none, 0, rfl, bA HB3.out _, Own.nil _ _ _ _ _⟩
 rename_i g
 have hf := exp_some Hck.out Hfe.out hoe
 rw [Hr.out] at hf
 replace Hr := Lib.hid hf
 clear hf hoe HE
 simp only [Option.isSome_some, Option.getD_some]
 obtain ⟨W4, hW4⟩ : ∃ W4 : World, W4 = w3.alloc (.cells #[.int .i64 g.side, .bool g.upright, .int .i64 g.line, .int .i64 g.lo, .int .i64 g.hi] 78) := ⟨_, rfl⟩
 have HX11 : Hid (Blk W4 w3.heap.size 78 (edB g)) := Lib.hid (by rw [hW4]; exact Blk.made rfl _ _)
 replace HX4 : Hid (Blk W4 w.heap.size 26 #[.slice An p.nodes.length cn, .slice Aa al.length ca, vf]) := Lib.hid (by rw [hW4]; exact HX4.out.alloc _)
 have HB4 : Hid (Below w.heap.size w W4) := Lib.hid (by rw [hW4]; exact bA HB3.out _)
 go_upto_region 10 with fail
 rw [← hW4]
 obtain ⟨g11, hg11⟩ : ∃ g11, g11 = w3.heap.size := ⟨_, rfl⟩
 rw [← hg11] at HX11 ⊢
 clear hW4 hg11
 have X4 := HX4.out
 obtain ⟨X4l, X4a, X4b, X4c, -, -, -⟩ := X4.facts3
 go_wp2_with fail
 refine (points_spec _ p.nodes _ (show Nds W4 (.slice An p.nodes.length cn) p.nodes from (by
  obtain ⟨vn', va', vf', al', e, -, h1, -⟩ := HP.out
  injection e with e
  have h0 := congrArg (fun a : Array Value => a.toList) e
  simp only [List.cons.injEq] at h0
  rw [← h0.1] at h1
  exact h1.mono HB4.out)) HWf.out.1 (by have := HSm.out.1; omega)).mono ?_
 rintro e w2' ⟨rfl, hb5, hm5⟩
 obtain ⟨gm, hgm⟩ : ∃ gm, gm = W4.heap.size := ⟨_, rfl⟩
 rw [← hgm] at hm5 ⊢
 have HM := Lib.hid hm5
 replace HX11 := Lib.hid (HX11.out.keep hb5)
 replace HX4 := Lib.hid (HX4.out.keep hb5)
 have HB5 := Lib.hid (bT HB4.out hb5)
 clear hb5 hm5 hgm X4 X4l X4a X4b X4c HB1 HB2 HB3 HB4
 obtain ⟨wS, rfl⟩ : ∃ wS : World, wS = w2' := ⟨_, rfl⟩
 have hz11 := HX11.out.lt
 have hzm := HM.out.lt
 have hzw := HB5.out.size
 have X4 := HX4.out
 try clear X4l
 try clear X4a
 try clear X4b
 try clear X4c
 obtain ⟨X4l, X4a, X4b, X4c, -, -, -⟩ := X4.facts3
 go_wp2_with fail
 go_loopw [8, 51] (fun l i wr => ∃ k : Nat, k ≤ al.length ∧ i = .int .i64 k ∧ Below wS.heap.size wS wr ∧ Own wr wS.heap.size 70 3 crC l ((p.arcs.take k).flatMap fun a => (expAt g p.nodes a.id (pathS p a) (pathS p a).length).2)) (fun _ i _ => al.length - (intOf i).toNat)
 case atStart => exact ⟨0, Nat.zero_le _, rfl, bR wS, Own.nil _ _ _ _ _⟩
 case round =>
  obtain ⟨k, hk, rfl, hb, hown⟩ := hrel
  have Hb := Lib.hid hb
  have Hown := Lib.hid hown
  have hszr := hb.size
  clear hb hown X4 X4l X4a X4b X4c
  have hll := exp_len g p k (by rw [HPa.out, List.length_map]; exact hk)
  have hvl := flat_take_le p.arcs (·.via) k
  have hsz := HSm.out.2.2
  by_cases hlt : k < al.length
  case neg =>
   have hall : p.arcs.take k = p.arcs := List.take_of_length_le (by rw [HPa.out, List.length_map]; omega)
   have ho := Hown.out
   rw [hall] at ho hll hvl
   have hkk := HSm.out.2.1
   rw [HPa.out, List.length_map] at hkk
   have hlen : (p.arcs.flatMap fun a => (expAt g p.nodes a.id (pathS p a) (pathS p a).length).2).length ≤ 4294967296 := by omega
   replace Hown := Lib.hid ho
   clear hall ho hll hvl hsz hkk
   go_wp2_with fail
   refine (order_spec _ _ _ _ Hown.out hlen).mono ?_
   rintro e w6 ⟨rfl, ho6, hg6⟩
   have B6 := Lib.hid (bG Hb.out hg6 (fun g hk => (Hown.out.lt g hk).1))
   have hr := Hr.out
   obtain ⟨A6, c6, rfl, -, -⟩ := Own.form ho6
   have Ho6 := Lib.hid ho6
   clear ho6 hg6
   go_wp2_with fail
   go_ret2
   subst hr
   exact ⟨A6, c6, rfl, bT HB5.out B6.out, Own.mono_base Ho6.out hzw⟩
  obtain ⟨bb, oo, rfl, hlb, c0, c1, c2, c3, c4, c5⟩ := (HRa.out.mono (bT HB5.out Hb.out)).ar hlt
  have hkp : k < p.arcs.length := by rw [HPa.out, List.length_map]; exact hlt
  have hpk : p.arcs[k] = al[k].1 := by simp [HPa.out]
  have hmem : al[k].1 ∈ p.arcs := by rw [← hpk]; exact List.getElem_mem hkp
  have hst : ((p.arcs.take (k + 1)).flatMap fun a => (expAt g p.nodes a.id (pathS p a) (pathS p a).length).2) = ((p.arcs.take k).flatMap fun a => (expAt g p.nodes a.id (pathS p a) (pathS p a).length).2) ++ (expAt g p.nodes al[k].1.id (pathS p al[k].1) (pathS p al[k].1).length).2 := by
   rw [List.take_succ_eq_append_getElem hkp, List.flatMap_append, hpk]; simp
  obtain ⟨Av, cv, hv, -⟩ := HV.out k hlt
  have hvia := via_le' hsz al[k].1 hmem
  generalize ((p.arcs.take k).flatMap fun a => (expAt g p.nodes a.id (pathS p a) (pathS p a).length).2) = L at *
  have HSt := Lib.hid hst
  have HMem := Lib.hid hmem
  clear hst hmem hpk hkp
  generalize al[k] = ya at *
  obtain ⟨a, va⟩ := ya
  dsimp only at HSt HMem hv c0 c1 c2 c3 c4 c5 hvia
  subst hv
  have hVd := (check_zero p).1 Hck.out
  have HVd := Lib.hid (show Valid p from hVd)
  have hsh : Short p := fun a ha => by have := via_le' hsz a ha; omega
  have TP : ∀ W, Below w.heap.size w W → Calls Tryz.prog 41 #[.agg #[.slice An p.nodes.length cn, .slice (some ⟨bb, oo, none⟩) al.length ca, vf], .int .i64 a.id] W (RetPathE W (some (pathS p a))) := fun W hW => by
   have := Path_spec _ p a.id W (HP.out.mono hW) hsh
   rw [HVd.out.sound.path HMem.out] at this
   exact this
  have HPt := Lib.hid TP
  clear TP hVd hsh
  go_upto_region 14 with fail
  obtain ⟨WA, hWA⟩ : ∃ WA : World, WA = wr.alloc (.cells #[.int .i64 a.id, .int .i64 a.fr, .int .i64 a.dst, .slice Av a.via.length cv, .int .i64 a.left, .int .i64 a.right] 58) := ⟨_, rfl⟩
  have HX15 : Hid (Blk WA wr.heap.size 58 #[.int .i64 a.id, .int .i64 a.fr, .int .i64 a.dst, .slice Av a.via.length cv, .int .i64 a.left, .int .i64 a.right]) := Lib.hid (by rw [hWA]; exact Blk.made rfl _ _)
  have HBA := Lib.hid (show Below wS.heap.size wS WA by rw [hWA]; exact bA Hb.out _)
  obtain ⟨lv, rfl⟩ : ∃ lv : Value, lv = u8 := ⟨_, rfl⟩
  have HOA := Lib.hid (show Own WA wS.heap.size 70 3 crC lv L by rw [hWA]; exact Hown.out.alloc _)
  obtain ⟨g15, hg15⟩ : ∃ g15, g15 = wr.heap.size := ⟨_, rfl⟩
  rw [← hg15] at HX15 ⊢
  have h15 : wS.heap.size ≤ g15 := by omega
  rw [← hWA]
  clear hWA hg15 c0 c1 c2 c3 c4 c5 hlb
  have X4 := HX4.out.keep HBA.out
  have X15 := HX15.out
  try clear X4l
  try clear X4a
  try clear X4b
  try clear X4c
  obtain ⟨X4l, X4a, X4b, X4c, -, -, -⟩ := X4.facts3
  obtain ⟨X15l, X15a, X15b, X15c, X15d, X15e, X15f, -, -, -, -, -, -⟩ := X15.facts6
  go_wp2_with fail
  refine (HPt.out _ (bT HB5.out HBA.out)).mono ?_
  rintro e wP ⟨A1, c1, rfl, hbp, hop⟩
  simp only [Option.getD_some, Option.isSome_some, if_true]
  simp only [Option.getD_some] at hop
  have hzA := HBA.out.size
  have HBP := Lib.hid (bT HBA.out hbp)
  have HOP := Lib.hid (HOA.out.keep hbp)
  have HX15P := Lib.hid (HX15.out.keep hbp)
  have HPth := Lib.hid (Own.mono_base hop hzA)
  have hN : (pathS p a).length ≤ 100002 := by rw [pathS_length]; omega
  have HBd : Hid (∀ q ∈ pathS p a, bdP q) := Lib.hid fun q hq => HVd.out.bdP_path HMem.out hq
  obtain ⟨gp, hgp⟩ : ∃ gp, A1 = some ⟨gp, 0, none⟩ := by
   rcases hop.2 with ⟨h1, h2⟩ | ⟨g', cap, cur, h1, -⟩
   · rw [pathS_length] at h2; omega
   · injection h1 with h1 _ _; exact ⟨g', h1⟩
  subst hgp
  have hpc : (pathS p a).length ≤ c1 ∧ c1 ≤ maxLen := by
   obtain ⟨A', c', he, h1, h2, -⟩ := Own.sl hop
   injection he with _ _ he
   subst he
   exact ⟨h1, h2⟩
  unfold maxLen at hpc
  clear hbp hop X4 X4l X4a X4b X4c X15 X15l X15a X15b X15c X15d X15e X15f
  generalize hpt : pathS p a = path at *
  have HPtE := Lib.hid hpt
  clear hpt
  have hE := expAt_bd g p.nodes a.id path
  have HEx := Lib.hid hE
  clear hE
  go_wp2_with fail
  go_loopw [8, 18, 64] (fun l m i wr2 => ∃ j : Nat, j ≤ path.length ∧ i = .int .i64 j ∧ m = .int .i64 (expAt g p.nodes a.id path j).1 ∧ Below wS.heap.size wS wr2 ∧ Own wr2 wS.heap.size 70 3 crC l (L ++ (expAt g p.nodes a.id path j).2) ∧ Blk wr2 g15 58 #[.int .i64 a.id, .int .i64 a.fr, .int .i64 a.dst, .slice Av a.via.length cv, .int .i64 a.left, .int .i64 a.right] ∧ Own wr2 wS.heap.size 28 2 ptC (.slice (some ⟨gp, 0, none⟩) path.length c1) path) (fun _ _ i _ => path.length - (intOf i).toNat)
  case atStart => exact ⟨0, Nat.zero_le _, rfl, rfl, HBP.out, by simpa [expAt] using HOP.out, HX15P.out, HPth.out⟩
  case round =>
   obtain ⟨j, hj, rfl, rfl, hb2, ho2, hx2, hp2⟩ := hrel
   have Hb2 := Lib.hid hb2
   have Ho2 := Lib.hid ho2
   have Hx2 := Lib.hid hx2
   have Hp2 := Lib.hid hp2
   clear hb2 ho2 hx2 hp2
   by_cases hlj : j < path.length
   case neg =>
    have hjj : j = path.length := by omega
    subst hjj
    go_wp2_with fail
    go_roundw
    case rel => exact ⟨k + 1, by omega, by go_num, Hb2.out, by rw [HSt.out]; exact Ho2.out⟩
    case measure => simp [intOf]; omega
   have hgq : path.getD j pt0 = path[j] := by simp [List.getD, List.getElem?_eq_getElem hlj]
   obtain ⟨e1, e2, e3, e4⟩ := HEx.out j
   obtain ⟨b', o', hA, hlb', d0, d1⟩ := hrow_pt (Own.sl Hp2.out) hlj
   simp only [Option.some.injEq, Addr.mk.injEq, and_true] at hA
   obtain ⟨rfl, rfl⟩ := hA
   simp only [Nat.zero_add] at d0 d1
   have TO := off_spec g
   unfold edV ptV at TO
   have HO := Lib.hid TO
   clear TO
   have X11 := HX11.out.keep Hb2.out
   unfold edB at X11
   have hzr2 := Hb2.out.size
   obtain ⟨wI, rfl⟩ : ∃ wI : World, wI = wr := ⟨_, rfl⟩
   obtain ⟨l2, rfl⟩ : ∃ l2 : Value, l2 = u8 := ⟨_, rfl⟩
   have hq1 : 0 ≤ (j : Int) := by omega
   have hq2 : (j : Int) < path.length := by omega
   obtain ⟨X11l, X11a, X11b, X11c, X11d, X11e, -, -, -, -, -⟩ := X11.facts5
   go_upto_region 19 with fail
   obtain ⟨W20, hW20⟩ : ∃ W20 : World, W20 = wI.alloc (.cells #[.int .i64 path[j].x, .int .i64 path[j].y] 28) := ⟨_, rfl⟩
   have HX20 : Hid (Blk W20 wI.heap.size 28 #[.int .i64 path[j].x, .int .i64 path[j].y]) := Lib.hid (by rw [hW20]; exact Blk.made rfl _ _)
   have hA20 := Lib.hid (show Below wI.heap.size wI W20 by rw [hW20]; exact bA (bR wI) _)
   rw [← hW20]
   clear hW20 d0 d1 hlb' X11 X11l X11a X11b X11c X11d X11e
   have X11 := HX11.out.keep (bT Hb2.out hA20.out)
   unfold edB at X11
   have X20 := HX20.out
   try clear X11l
   try clear X11a
   try clear X11b
   try clear X11c
   try clear X11d
   try clear X11e
   obtain ⟨X11l, X11a, X11b, X11c, X11d, X11e, -, -, -, -, -⟩ := X11.facts5
   obtain ⟨X20l, X20a, X20b, -, -⟩ := X20.facts2
   go_wp2_with fail
   refine (HO.out path[j] _).mono ?_
   rintro e wO ⟨rfl, hbo⟩
   have hAO := Lib.hid (bT hA20.out hbo)
   have HX20O := Lib.hid (HX20.out.keep hbo)
   clear hbo X11 X11l X11a X11b X11c X11d X11e X20 X20l X20a X20b hA20 HX20
   cases hon : onE g path[j]
   case true =>
    have hz := (off_on g path[j]).2 hon
    rw [hz]
    have hst := expAt_on (g := g) (ns := p.nodes) (id := a.id) (path := path) (k := j) (by rw [hgq]; exact hon)
    have HSt2 := Lib.hid hst
    clear hz hon hst hgq
    go_wp2_with fail
    go_roundw
    case rel => exact ⟨j + 1, by omega, by go_num, by rw [HSt2.out], bT Hb2.out hAO.out, by rw [HSt2.out]; exact Ho2.out.keep hAO.out, Hx2.out.keep hAO.out, Hp2.out.keep hAO.out⟩
    case measure => simp [intOf]; omega
   case false =>
   have hz : offS g path[j] ≠ 0 := fun e => by rw [(off_on g _).1 e] at hon; cases hon
   have hz3 := off_three g path[j]
   obtain ⟨z, hzz⟩ : ∃ z, offS g path[j] = z := ⟨_, rfl⟩
   rw [hzz] at hz hz3 ⊢
   have hz0 : (z == 0) = false := by simpa using hz
   have hzw : IntKind.i64.wrap (-z) = -z := IntWalk.i64_in _ (by omega)
   have Hzz := Lib.hid hzz; have Hz3 := Lib.hid hz3; have Hon := Lib.hid hon
   clear hzz hz3 hz
   have hgj : onE g (path.getD j pt0) = false := by rw [hgq]; exact hon
   have Hgj := Lib.hid hgj; have Hgq := Lib.hid hgq
   clear hon hgj hgq
   generalize hm0 : (expAt g p.nodes a.id path j).1 = m0 at *
   generalize hL2 : (expAt g p.nodes a.id path j).2 = L2 at *
   have he : expAt g p.nodes a.id path j = (m0, L2) := Prod.ext hm0 hL2
   have He := Lib.hid he
   clear hm0 hL2 he
   by_cases hm1 : m0 = -1
   case pos =>
    subst hm1
    have hst := expAt_no Hgj.out He.out
    have HSt2 := Lib.hid hst
    clear hst
    go_upto_region 21 with fail
    refine rg_start (Since wO) (.run 13 0 0 (.done)) (by kernel_rfl) (bD (bR _)) (by kernel_rfl) (by kernel_rfl) (Nat.le_of_ble_eq_true (by kernel_rfl)) ?_
    intro opsR QR Hops HQrg hS
    iterate 3
     apply rg_p; exact Hops; exact rfl; exact hS; exact rfl
     · intro _ hqc; go_simp; try rfl
     try simp only [pu]
    iterate 9
     refine rg_yn Hops rfl hS rfl rfl rfl rfl rfl ?_
     try simp only [pu]
    apply rg_p; exact Hops; exact rfl; exact hS; exact rfl
    · intro _ hqc; go_simp; try rfl
    try simp only [pu]
    refine rg_done ?_
    refine HQrg.down _ _ ?_
    have hB : Below wO.heap.size wO wO.drew := hS
    clear hS HQrg Hops
    have hAX := Lib.hid (bT hAO.out hB)
    clear hB
    go_wp2_with fail
    go_roundw
    case rel => exact ⟨j + 1, by omega, by go_num, by rw [HSt2.out], bT Hb2.out hAX.out, by rw [HSt2.out]; exact Ho2.out.keep hAX.out, Hx2.out.keep hAX.out, Hp2.out.keep hAX.out⟩
    case measure => simp [intOf]; omega
   case neg =>
   obtain ⟨m, rfl⟩ : ∃ m : Nat, m0 = (m : Int) := ⟨m0.toNat, by omega⟩
   have hmj : m < j := by omega
   have hml : m < path.length := by omega
   have hgm : path.getD m pt0 = path[m] := by simp [List.getD, List.getElem?_eq_getElem hml]
   have hom : onE g path[m] = false := by
    have := e3 (by omega)
    rw [Int.toNat_natCast, hgm] at this
    exact this
   have hyz := off_neg hom Hon.out
   rw [Hzz.out] at hyz
   obtain ⟨y, hy⟩ : ∃ y, offS g path[m] = y := ⟨_, rfl⟩
   have TK : ∀ W, Calls Tryz.prog 42 #[.agg #[.int .i64 g.side, .bool g.upright, .int .i64 g.line, .int .i64 g.lo, .int .i64 g.hi], .agg #[.int .i64 path[m].x, .int .i64 path[m].y]] W fun e w' => e = .returned (.int .i64 y) ∧ Below W.heap.size W w' := fun W => by
    have := HO.out path[m] W
    rw [hy] at this
    exact this
   have HK := Lib.hid TK
   rw [hy] at hyz
   have Hom := Lib.hid hom
   clear TK hy hom e1 e2 e3 hm1
   obtain ⟨b', o', hA, hlb', d0, d1⟩ := hrow_pt (Own.sl (Hp2.out.keep hAO.out)) hml
   simp only [Option.some.injEq, Addr.mk.injEq, and_true] at hA
   obtain ⟨rfl, rfl⟩ := hA
   simp only [Nat.zero_add] at d0 d1
   have X11 := HX11.out.keep (bT Hb2.out hAO.out)
   unfold edB at X11
   have q1 : 0 ≤ (m : Int) := by omega
   have q2 : (m : Int) < path.length := by omega
   try clear X11l
   try clear X11a
   try clear X11b
   try clear X11c
   try clear X11d
   try clear X11e
   obtain ⟨X11l, X11a, X11b, X11c, X11d, X11e, -, -, -, -, -⟩ := X11.facts5
   by_cases hi : innerS g path[m] = innerS g path[j]
   case pos =>
    have hyz2 : (y == -z) = false := by rw [hyz]; simp [hi]
    have hst := expAt_same Hgj.out He.out (by rw [hgm, Hgq.out]; exact hi)
    have HSt2 := Lib.hid hst
    clear hst hyz hgm
    go_upto_region 21 with fail
    refine rg_start (Since wO) (.run 8 0 0 (.take 9 767 (.take 10 1791 (.call 8 2047 (.take 11 4095 (.take 12 8191 (.done))))))) (by kernel_rfl) (bD (bR _)) (by kernel_rfl) (by kernel_rfl) (Nat.le_of_ble_eq_true (by kernel_rfl)) ?_
    intro opsR QR Hops HQrg hS
    iterate 3
     apply rg_p; exact Hops; exact rfl; exact hS; exact rfl
     · intro _ hqc; go_simp; try rfl
     try simp only [pu]
    iterate 7
     apply rg_g; exact Hops; exact rfl; exact hS; iterate 4 exact rfl
     · intro _ hqc; go_simp; try rfl
     try simp only [pu]
    refine rg_call (i := 8) (get_of Hops rfl) (fun K hK => ?_)
    have HSrg := Lib.hid hS; clear hS
    refine rg_run (wanted_yes rfl (get_of Hops rfl) rfl rfl) ?_
    go_simp
    refine (HK.out _).mono ?_
    rintro e wr1 ⟨rfl, hbr1⟩
    have hS : Since wO wr1 := bT (w := wO) HSrg.out hbr1
    clear HSrg
    refine hK.out _ _ hS (fun _ => ?_)
    clear hK K
    try simp only [pu]
    apply rg_g; exact Hops; exact rfl; exact hS; iterate 4 exact rfl
    · intro _ hqc; go_simp; try rfl
    try simp only [pu]
    apply rg_p; exact Hops; exact rfl; exact hS; exact rfl
    · intro _ hqc; go_simp; try rfl
    try simp only [pu]
    refine rg_done ?_
    refine HQrg.down _ _ ?_
    have hB : Below wO.heap.size wO wr1 := hS
    clear hS HQrg Hops
    have hAX := Lib.hid (bT hAO.out hB)
    clear hB
    go_wp2_with fail
    go_roundw
    case rel => exact ⟨j + 1, by omega, by go_num, by rw [HSt2.out], bT Hb2.out hAX.out, by rw [HSt2.out]; exact Ho2.out.keep hAX.out, Hx2.out.keep hAX.out, Hp2.out.keep hAX.out⟩
    case measure => simp [intOf]; omega
   case neg =>
   have hyz2 : (y == -z) = true := by rw [hyz]; simp [hi]
   have hst := expAt_cross Hgj.out He.out (by rw [hgm, Hgq.out]; exact hi)
   have HSt2 := Lib.hid hst
   have Hinn := Lib.hid hi
   have Hgm := Lib.hid hgm
   clear hst hyz hi hgm
   go_upto_region 21 with fail
   refine rg_start (Since wO) (.run 8 0 0 (.take 9 767 (.take 10 1791 (.call 8 2047 (.take 11 4095 (.take 12 8191 (.done))))))) (by kernel_rfl) (bD (bR _)) (by kernel_rfl) (by kernel_rfl) (Nat.le_of_ble_eq_true (by kernel_rfl)) ?_
   intro opsR QR Hops HQrg hS
   iterate 3
    apply rg_p; exact Hops; exact rfl; exact hS; exact rfl
    · intro _ hqc; go_simp; try rfl
    try simp only [pu]
   iterate 7
    apply rg_g; exact Hops; exact rfl; exact hS; iterate 4 exact rfl
    · intro _ hqc; go_simp; try rfl
    try simp only [pu]
   refine rg_call (i := 8) (get_of Hops rfl) (fun K hK => ?_)
   have HSrg := Lib.hid hS; clear hS
   refine rg_run (wanted_yes rfl (get_of Hops rfl) rfl rfl) ?_
   go_simp
   refine (HK.out _).mono ?_
   rintro e wr1 ⟨rfl, hbr1⟩
   have hS : Since wO wr1 := bT (w := wO) HSrg.out hbr1
   clear HSrg
   refine hK.out _ _ hS (fun _ => ?_)
   clear hK K
   try simp only [pu]
   apply rg_g; exact Hops; exact rfl; exact hS; iterate 4 exact rfl
   · intro _ hqc; go_simp; try rfl
   try simp only [pu]
   apply rg_p; exact Hops; exact rfl; exact hS; exact rfl
   · intro _ hqc; go_simp; try rfl
   try simp only [pu]
   refine rg_done ?_
   refine HQrg.down _ _ ?_
   have hB : Below wO.heap.size wO wr1 := hS
   clear hS HQrg Hops
   obtain ⟨wX, hwX⟩ : ∃ wX : World, wX = wr1 := ⟨_, rfl⟩
   rw [← hwX] at hB ⊢
   clear hwX
   have hAX := Lib.hid (bT hAO.out hB)
   have HX20X := Lib.hid (HX20O.out.keep hB)
   clear hB X11 X11l X11a X11b X11c X11d X11e d0 d1 hlb' hyz2
   have hrun := run_both Tryz.underlying56 sizeOf_pt (some ⟨gp, 0, none⟩) path.length c1 (m + 1) j (by omega) (by omega) hpc.1 ((m : Int) + 1) (j : Int) (by omega) rfl
   have q6 : IntKind.i64.wrap ((m : Int) + 1) = (m : Int) + 1 := IntWalk.i64_in _ (by omega)
   obtain ⟨D, hD⟩ : ∃ D, j - (m + 1) = D := ⟨_, rfl⟩
   rw [hD] at hrun
   have HD := Lib.hid hD
   clear hD
   have hrow : ∀ a, cutA (some ⟨gp, 0, none⟩) c1 (m + 1) 2 = some a → a.block = gp := fun a ha => by
    unfold cutA at ha
    split at ha
    · injection ha with ha; rw [← ha]
    ·
     simp only [Option.map_some, Option.some.injEq] at ha
     rw [← ha]
     unfold Addr.add
     split <;> rfl
   have HRow := Lib.hid hrow
   obtain ⟨Ac, hAc⟩ : ∃ Ac, cutA (some ⟨gp, 0, none⟩) c1 (m + 1) 2 = Ac := ⟨_, rfl⟩
   rw [hAc] at hrun hrow
   have HAc := Lib.hid hAc
   have hgpn : some gp ≠ l2.ownBlock := Own.apart Hp2.out Ho2.out (by decide) gp rfl
   have Hgpn := Lib.hid hgpn
   have hlr := Ho2.out.lt
   have Hlr := Lib.hid hlr
   clear hrow hAc hgpn hlr
   have hMO : j = m + 1 → MeetOk g path[m] path[j] := fun _ => meet_ok (HBd.out _ (List.getElem_mem hml)) (HBd.out _ (List.getElem_mem hlj)) Hom.out Hon.out Hinn.out
   have HMO := Lib.hid hMO
   have HWfR := Lib.hid (run_wf (g := g) (path := path) (m := m) (k := j) HBd.out (fun hk => by rw [Hgm.out, Hgq.out]; exact HMO.out hk))
   clear hMO
   go_upto_if 94 with fail
   go_cut [22] (fun u wx => ∃ Ar cr, u = .slice Ar (runS g path m j).length cr ∧ Pts wx (.slice Ar (runS g path m j).length cr) (runS g path m j) ∧ Below wX.heap.size wX wx ∧ ∀ a, Ar = some a → some a.block ≠ l2.ownBlock)
   case first =>
    by_cases hadj : j = m + 1
    case pos =>
     have hD0 : D = 0 := by have := HD.out; omega
     subst hD0
     have TM := fun W => meet_spec g path[m] path[j] W (HMO.out hadj)
     unfold edV ptV at TM
     have hrs : runS g path m j = [meetP g path[m] path[j]] := by unfold runS; rw [if_pos hadj, Hgm.out, Hgq.out]
     generalize meetP g path[m] path[j] = MP at *
     have HMt := Lib.hid TM
     have HRs := Lib.hid hrs
     clear TM hrs hadj
     obtain ⟨b', o', hA, hlb', d0, d1⟩ := hrow_pt (Own.sl (Hp2.out.keep hAX.out)) hml
     simp only [Option.some.injEq, Addr.mk.injEq, and_true] at hA
     obtain ⟨rfl, rfl⟩ := hA
     simp only [Nat.zero_add] at d0 d1
     have X11 := HX11.out.keep (bT Hb2.out hAX.out)
     unfold edB at X11
     have X20 := HX20X.out
     try clear X11l
     try clear X11a
     try clear X11b
     try clear X11c
     try clear X11d
     try clear X11e
     obtain ⟨X11l, X11a, X11b, X11c, X11d, X11e, -, -, -, -, -⟩ := X11.facts5
     try clear X20l
     try clear X20a
     try clear X20b
     obtain ⟨X20l, X20a, X20b, -, -⟩ := X20.facts2
     go_upto_region 24 with fail
     refine rg_start (Since wX) (.run 6 0 0 (.call 6 127 (.call 7 255 (.take 8 511 (.done))))) (by kernel_rfl) (bD (bR _)) (by kernel_rfl) (by kernel_rfl) (Nat.le_of_ble_eq_true (by kernel_rfl)) ?_
     intro opsR QR Hops HQrg hS
     iterate 6
      apply rg_p; exact Hops; exact rfl; exact hS; exact rfl
      · intro _ hqc; go_simp; try rfl
      try simp only [pu]
     refine rg_call (i := 6) (get_of Hops rfl) (fun K hK => ?_)
     have HSrg := Lib.hid hS; clear hS
     refine rg_run (wanted_plain rfl) ?_
     go_simp
     refine (HMt.out _).mono ?_
     rintro e wr1 ⟨rfl, hbr1⟩
     have hS : Since wX wr1 := bT (w := wX) HSrg.out hbr1
     clear HSrg
     refine hK.out _ _ hS (fun _ => ?_)
     clear hK K
     try simp only [pu]
     refine rg_call (i := 7) (get_of Hops rfl) (fun K hK => ?_)
     have HSrg := Lib.hid hS; clear hS
     refine rg_run (wanted_plain rfl) ?_
     go_simp
     refine hK.out _ _ (bA HSrg.out _) (fun hS => ?_)
     clear hK K HSrg
     try simp only [pu]
     apply rg_p; exact Hops; exact rfl; exact hS; exact rfl
     · intro _ hqc; go_simp; try rfl
     try simp only [pu]
     refine rg_done ?_
     refine HQrg.down _ _ ?_
     have hB : Below wX.heap.size wX _ := hS
     clear hS HQrg Hops
     go_wp2_with fail
     go_meet
     case rel =>
      rw [HRs.out]
      refine ⟨_, 1, rfl, Sl.lit (n := 1) (Blk.made rfl _ _) rfl (le_maxLen (by omega)), hB, fun a ha => ?_⟩
      injection ha with ha
      subst ha
      intro e
      have h1 := (Hlr.out _ e.symm).2
      have h2 := hAX.out.size
      have h3 := hbr1.size
      simp at h1 h2 h3
      omega
    case neg =>
     have hD0 : 0 < D := by have := HD.out; omega
     have hD1 : ((D : Int) == 0) = false := by rw [beq_eq_false_iff_ne]; omega
     have hrs : runS g path m j = (path.drop (m + 1)).take (j - (m + 1)) := by unfold runS; rw [if_neg hadj]
     have hln : (runS g path m j).length = D := by rw [hrs, List.length_take, List.length_drop, HD.out]; have := HD.out; omega
     have HLn2 := Lib.hid hln
     have HPr : Hid (∀ W, Own W wS.heap.size 28 2 ptC (.slice (some ⟨gp, 0, none⟩) path.length c1) path → Pts W (.slice Ac D (c1 - (m + 1))) (runS g path m j)) := Lib.hid fun W hW => by
      have := Sl.mid_ ptC_len (Own.sl hW) (m + 1) j (by omega) (by omega)
      rw [HAc.out, HD.out] at this
      rw [hrs, HD.out]
      exact this
     clear hadj hD0 hrs hln
     go_wp2_with fail
     go_meet
     case rel =>
      rw [HLn2.out]
      refine ⟨_, _, rfl, HPr.out _ (Hp2.out.keep hAX.out), bR _, fun a ha => ?_⟩
      rw [HRow.out a (by rw [HAc.out]; exact ha)]
      exact Hgpn.out
   case rest =>
   obtain ⟨Ar, cr, rfl, hpr, hbc, hnr⟩ := hcut
   have hcr : (runS g path m j).length ≤ cr ∧ cr ≤ maxLen := by
    obtain ⟨A', c', he, h1, h2, -⟩ := hpr
    injection he with _ _ he
    subst he
    exact ⟨h1, h2⟩
   unfold maxLen at hcr
   have HWR := HWfR.out
   generalize hR : runS g path m j = R at *
   have HRn := Lib.hid hR
   have HPR := Lib.hid hpr
   have HNr := Lib.hid hnr
   have hAC := Lib.hid (bT hAX.out hbc)
   have HWR' := Lib.hid HWR
   clear hR hpr hnr hbc HWR hrun
   have TOp := open_spec g R (.slice Ar R.length cr) gm p.nodes.length p.nodes wc HPR.out (HM.out.keep (bT Hb2.out hAC.out)) HWR'.out
   unfold edV at TOp
   have HOp := Lib.hid TOp
   have X11 := HX11.out.keep (bT Hb2.out hAC.out)
   unfold edB at X11
   clear TOp
   try clear X11l
   try clear X11a
   try clear X11b
   try clear X11c
   try clear X11d
   try clear X11e
   obtain ⟨X11l, X11a, X11b, X11c, X11d, X11e, -, -, -, -, -⟩ := X11.facts5
   go_wp2_with fail
   refine HOp.out.mono ?_
   rintro e wQ ⟨rfl, hbq⟩
   have hAQ := Lib.hid (bT hAC.out hbq)
   have HbQ := Lib.hid hbq
   clear hbq X11 X11l X11a X11b X11c X11d X11e
   have X11 := HX11.out.keep (bT Hb2.out hAQ.out)
   unfold edB at X11
   have X15 := Hx2.out.keep hAQ.out
   try clear X11l
   try clear X11a
   try clear X11b
   try clear X11c
   try clear X11d
   try clear X11e
   obtain ⟨X11l, X11a, X11b, X11c, X11d, X11e, -, -, -, -, -⟩ := X11.facts5
   try clear X15l
   try clear X15a
   try clear X15b
   try clear X15c
   try clear X15d
   try clear X15e
   try clear X15f
   obtain ⟨X15l, X15a, X15b, X15c, X15d, X15e, X15f, -, -, -, -, -, -⟩ := X15.facts6
   cases hop : openS g p.nodes R
   case false =>
    have HF := Lib.hid (show L ++ L2 = L ++ (expAt g p.nodes a.id path (j + 1)).2 by
     rw [HSt2.out]
     unfold expCr
     rw [HRn.out, hop]
     simp)
    clear hop
    go_wp2_with fail
    go_roundw
    case rel => exact ⟨j + 1, by omega, by go_num, by rw [HSt2.out], bT Hb2.out hAQ.out, by rw [← HF.out]; exact Ho2.out.keep hAQ.out, Hx2.out.keep hAQ.out, Hp2.out.keep hAQ.out⟩
    case measure => simp [intOf]; omega
   case true =>
    have hpos := openS_pos hop
    have Hop := Lib.hid hop
    have hlast := last_pt hpos
    obtain ⟨N, hN⟩ : ∃ N, R.length = N + 1 := ⟨R.length - 1, by omega⟩
    obtain ⟨bR', oR, rfl, hlbR, d0, d1⟩ := hrow_pt (HPR.out.mono HbQ.out) (k := R.length - 1) (by omega)
    rw [← hlast] at d0 d1
    clear hlast
    rw [hN] at d0 d1 hcr ⊢
    simp only [Nat.add_sub_cancel] at d0 d1
    clear hN hpos
    have HBQ := Lib.hid (bT Hb2.out hAQ.out)
    have HBQ' := Lib.hid HBQ.out.size
    have HOQ := Lib.hid (Ho2.out.keep hAQ.out)
    have HPQ := Lib.hid (Hp2.out.keep hAQ.out)
    have n1 : some bR' ≠ l2.ownBlock := HNr.out _ rfl
    have n2 : some g11 ≠ l2.ownBlock := HOQ.out.nrow hz11
    have n3 : some g15 ≠ l2.ownBlock := fun e => own_blk_ne HOQ.out X15 (by decide) e.symm
    obtain ⟨rw_, hrw⟩ : ∃ r, l2.ownBlock = r := ⟨_, rfl⟩
    rw [hrw] at n1 n2 n3
    have HRw := Lib.hid hrw
    generalize hLP : lastP R = LP at *
    have HLP := Lib.hid hLP
    have TAl := along_spec g
    unfold edV ptV at TAl
    have HAl := Lib.hid TAl
    have HLn : Hid (L.length + L2.length ≤ 1000000) := Lib.hid (by
     have h1 := hll; have h2 := hvl; have h3 := HSm.out
     have hkk : k ≤ 1000 := by have := HPa.out; have h5 := congrArg List.length this; rw [List.length_map] at h5; omega
     omega)
    have q7 : 0 ≤ (N : Int) := by omega
    have q8 : (N : Int) < (N : Int) + 1 := by omega
    have q9 : IntKind.i64.wrap (N : Int) = (N : Int) := IntWalk.i64_in _ (by omega)
    clear hrw hLP TAl hzw hz0
    rcases Hz3.out with h0 | h0 | h0
    · exact absurd ((off_on g path[j]).1 (Hzz.out.trans h0)) (by rw [Hon.out]; simp)
    ·
     subst h0
     have hin : innerS g path[m] = false := by
      have h1 := off_in g path[j]
      have h2 := Hzz.out
      have h3 := Hinn.out
      cases hh : innerS g path[m]
      · rfl
      · exact absurd (hh.trans (h1.1 h2).symm) h3
     have HF := Lib.hid (show L ++ L2 ++ [(⟨alongS g (lastP R), a.id, 0⟩ : Cr)] = L ++ (expAt g p.nodes a.id path (j + 1)).2 by
      rw [HSt2.out]
      unfold expCr
      rw [HRn.out, Hgm.out, Hop.out, if_pos rfl, hin]
      simp)
     go_upto_region 26 with fail
     refine rg_start (SinceX wQ (rw_)) (.run 8 0 0 (.run 5 9 255 (.call 8 16383 (.take 14 32767 (.call 15 65535 (.call 16 131071 (.take 17 262143 (.done)))))))) (by kernel_rfl) (gD (gR _ _)) (by kernel_rfl) (by kernel_rfl) (Nat.le_of_ble_eq_true (by kernel_rfl)) ?_
     intro opsR QR Hops HQrg hS
     iterate 13
      apply rg_pX; exact Hops; exact rfl; exact hS; exact rfl
      · intro _ hqc; go_simp; try rfl
      try simp only [pu]
     refine rg_call (i := 8) (get_of Hops rfl) (fun K hK => ?_)
     have HSrg := Lib.hid hS; clear hS
     refine rg_run (wanted_plain rfl) ?_
     go_simp
     refine (HAl.out _ _).mono ?_
     rintro e wr1 ⟨rfl, hbr1⟩
     have hS : SinceX wQ (rw_) wr1 := gB (w0 := wQ) HSrg.out hbr1
     clear HSrg
     refine hK.out _ _ hS (fun _ => ?_)
     clear hK K
     try simp only [pu]
     apply rg_pX; exact Hops; exact rfl; exact hS; exact rfl
     · intro _ hqc; go_simp; try rfl
     try simp only [pu]
     refine rg_call (i := 15) (get_of Hops rfl) (fun K hK => ?_)
     have HSrg := Lib.hid hS; clear hS
     refine rg_run (wanted_plain rfl) ?_
     go_simp
     refine hK.out _ _ (gA HSrg.out _) (fun hS => ?_)
     clear hK K HSrg
     try simp only [pu]
     refine rg_call (i := 16) (get_of Hops rfl) (fun K hK => ?_)
     have HSrg := Lib.hid hS; clear hS
     refine rg_run (wanted_plain rfl) ?_
     refine wp_appl (.tmp 107) (.tmp 122) _ rfl (base := wS.heap.size) elem_cr crC_len crC_one rfl ((HOQ.out.keep (bT (bD (bR wQ)) hbr1)).alloc _) rfl (l2 := [⟨alongS g LP, a.id, 0⟩]) (Sl.lit (n := 1) (Blk.made rfl _ _) rfl (le_maxLen (by omega))) (by have := HLn.out; simp only [List.length_append, List.length_cons, List.length_nil]; omega) (by have := HLn.out; simp only [List.length_append, List.length_cons, List.length_nil]; omega) (Nat.le_trans HBQ'.out (Nat.le_trans hbr1.size (by simp))) ?_
     intro v3 wr3 ho3 hg hat
     have hg2 : World.grownBy _ wr3 rw_ := HRw.out ▸ hg
     have hS : SinceX wQ rw_ wr3 := gT HSrg.out hg2
     clear HSrg
     refine hK.out _ _ hS (fun _ => ?_)
     clear hK K
     try simp only [pu]
     apply rg_pX; exact Hops; exact rfl; exact hS; exact rfl
     · intro _ hqc; go_simp; try rfl
     try simp only [pu]
     refine rg_done ?_
     refine HQrg.down _ _ ?_
     have hB : wQ.grownBy _ (rw_) := hS
     clear hS HQrg Hops
     have HO3 := Lib.hid ho3
     have HB3 := Lib.hid (show Below wS.heap.size wS wr3 from gBelow HBQ.out HBQ'.out hB (fun k hk => (HOQ.out.lt k (by rw [HRw.out]; exact hk)).1))
     have HX3 := Lib.hid (X15.grow hB n3)
     have HP3 := Lib.hid (Own.grown HPQ.out hB (fun g' hg' => by rw [← HRw.out]; exact Own.apart HPQ.out HOQ.out (by decide) g' hg'))
     clear ho3 hB hg hg2 hat
     go_wp2_with fail
     go_roundw
     case rel => exact ⟨j + 1, by omega, by go_num, by rw [HSt2.out], HB3.out, by rw [← HF.out, HLP.out]; exact HO3.out, HX3.out, HP3.out⟩
     case measure => simp [intOf]; omega
    ·
     subst h0
     have hin : innerS g path[m] = true := by
      have h1 := off_in g path[j]
      have h2 := Hzz.out
      have h3 := Hinn.out
      cases hh : innerS g path[m]
      ·
       have h4 : innerS g path[j] = false := Bool.eq_false_iff.2 fun e => by have := h1.2 e; omega
       exact absurd (hh.trans h4.symm) h3
      · rfl
     have HF := Lib.hid (show L ++ L2 ++ [(⟨alongS g (lastP R), a.id, 1⟩ : Cr)] = L ++ (expAt g p.nodes a.id path (j + 1)).2 by
      rw [HSt2.out]
      unfold expCr
      rw [HRn.out, Hgm.out, Hop.out, if_pos rfl, hin]
      simp)
     go_upto_region 26 with fail
     refine rg_start (SinceX wQ (rw_)) (.run 8 0 0 (.run 5 9 255 (.call 8 16383 (.take 14 32767 (.call 15 65535 (.call 16 131071 (.take 17 262143 (.done)))))))) (by kernel_rfl) (gD (gR _ _)) (by kernel_rfl) (by kernel_rfl) (Nat.le_of_ble_eq_true (by kernel_rfl)) ?_
     intro opsR QR Hops HQrg hS
     iterate 13
      apply rg_pX; exact Hops; exact rfl; exact hS; exact rfl
      · intro _ hqc; go_simp; try rfl
      try simp only [pu]
     refine rg_call (i := 8) (get_of Hops rfl) (fun K hK => ?_)
     have HSrg := Lib.hid hS; clear hS
     refine rg_run (wanted_plain rfl) ?_
     go_simp
     refine (HAl.out _ _).mono ?_
     rintro e wr1 ⟨rfl, hbr1⟩
     have hS : SinceX wQ (rw_) wr1 := gB (w0 := wQ) HSrg.out hbr1
     clear HSrg
     refine hK.out _ _ hS (fun _ => ?_)
     clear hK K
     try simp only [pu]
     apply rg_pX; exact Hops; exact rfl; exact hS; exact rfl
     · intro _ hqc; go_simp; try rfl
     try simp only [pu]
     refine rg_call (i := 15) (get_of Hops rfl) (fun K hK => ?_)
     have HSrg := Lib.hid hS; clear hS
     refine rg_run (wanted_plain rfl) ?_
     go_simp
     refine hK.out _ _ (gA HSrg.out _) (fun hS => ?_)
     clear hK K HSrg
     try simp only [pu]
     refine rg_call (i := 16) (get_of Hops rfl) (fun K hK => ?_)
     have HSrg := Lib.hid hS; clear hS
     refine rg_run (wanted_plain rfl) ?_
     refine wp_appl (.tmp 107) (.tmp 122) _ rfl (base := wS.heap.size) elem_cr crC_len crC_one rfl ((HOQ.out.keep (bT (bD (bR wQ)) hbr1)).alloc _) rfl (l2 := [⟨alongS g LP, a.id, 1⟩]) (Sl.lit (n := 1) (Blk.made rfl _ _) rfl (le_maxLen (by omega))) (by have := HLn.out; simp only [List.length_append, List.length_cons, List.length_nil]; omega) (by have := HLn.out; simp only [List.length_append, List.length_cons, List.length_nil]; omega) (Nat.le_trans HBQ'.out (Nat.le_trans hbr1.size (by simp))) ?_
     intro v3 wr3 ho3 hg hat
     have hg2 : World.grownBy _ wr3 rw_ := HRw.out ▸ hg
     have hS : SinceX wQ rw_ wr3 := gT HSrg.out hg2
     clear HSrg
     refine hK.out _ _ hS (fun _ => ?_)
     clear hK K
     try simp only [pu]
     apply rg_pX; exact Hops; exact rfl; exact hS; exact rfl
     · intro _ hqc; go_simp; try rfl
     try simp only [pu]
     refine rg_done ?_
     refine HQrg.down _ _ ?_
     have hB : wQ.grownBy _ (rw_) := hS
     clear hS HQrg Hops
     have HO3 := Lib.hid ho3
     have HB3 := Lib.hid (show Below wS.heap.size wS wr3 from gBelow HBQ.out HBQ'.out hB (fun k hk => (HOQ.out.lt k (by rw [HRw.out]; exact hk)).1))
     have HX3 := Lib.hid (X15.grow hB n3)
     have HP3 := Lib.hid (Own.grown HPQ.out hB (fun g' hg' => by rw [← HRw.out]; exact Own.apart HPQ.out HOQ.out (by decide) g' hg'))
     clear ho3 hB hg hg2 hat
     go_wp2_with fail
     go_roundw
     case rel => exact ⟨j + 1, by omega, by go_num, by rw [HSt2.out], HB3.out, by rw [← HF.out, HLP.out]; exact HO3.out, HX3.out, HP3.out⟩
     case measure => simp [intOf]; omega
end Go.Proofs.YtfdbidagdjnipaaGreatDoor
