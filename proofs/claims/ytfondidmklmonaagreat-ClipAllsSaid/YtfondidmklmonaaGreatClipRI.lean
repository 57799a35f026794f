/- mapsheetsref41.pieces. -/
import Derived.Deep.CutBlock
import Derived.Test.YtfondidmklmonaaGreatJ25
import Derived.Test.YtfondidmklmonaaGreatGG
set_option linter.unusedSimpArgs false
set_option linter.unusedVariables false
namespace Go.Proofs.YtfondidmklmonaaGreat
open Go.RowKit

theorem RcM.app {W w5 : World} {B g8 : Nat} {x : Pc} {L : List (Pc × SV)} {vl v5 : Value} {A3 : Option Addr} {n3 c3 : Nat} (h : RcM W B g8 x L vl (.slice A3 n3 c3) True) (ho5 : Own w5 B 55 4 pcS v5 (L ++ [((x, ⟨A3, n3, c3⟩) : Pc × SV)])) {o : Obj} (hg : (W.alloc o).grownBy w5 vl.ownBlock) (hat : v5.ownBlock = vl.ownBlock ∨ v5.ownBlock = some (W.alloc o).heap.size) :
  RcM w5 B g8 x (L ++ [((x, ⟨A3, n3, c3⟩) : Pc × SV)]) v5 (.slice A3 n3 c3) False := by
 have l8 := h.x.lt
 refine ⟨Blk.grown (h.x.alloc o) hg (fun e => h.n8 e.symm), ⟨ho5, fun y hy => ?_⟩, ?_, fun e => e.elim⟩
 ·
  rcases List.mem_append.1 hy with hy | hy
  · exact Own.grown (Own.alloc (h.pcs.path y hy) o) hg (fun k hk => Own.apart (h.pcs.path y hy) h.pcs.own (by decide) k hk)
  ·
   rw [List.mem_singleton] at hy
   subst hy
   have p1 := (h.path trivial).1
   exact Own.grown (Own.alloc p1 o) hg (fun k hk => Own.apart p1 h.pcs.own (by decide) k hk)
 ·
  rcases hat with e | e
  · rw [e]; exact h.n8
  ·
   rw [e]
   intro h2
   have := Option.some.inj h2
   simp at this
   omega
theorem RcM.opened2 {W : World} {B g8 : Nat} {x : Pc} {L : List (Pc × SV)} {vl vp : Value} {opn : Prop} (h : RcM W B g8 x L vl vp opn) (hB : B ≤ W.heap.size) (arc : Int) (c : Pt) :
  RcM (((((W.setCell ⟨g8, 0, none⟩ (.int .i64 arc)).setCell ⟨g8, 1, none⟩ (.slice (some ⟨W.heap.size, 0, none⟩) 1 1)).setCell ⟨g8, 2, none⟩ (.int .i64 0)).setCell ⟨g8, 3, none⟩ (.int .i64 0)).alloc (.cells #[.int .i64 c.x, .int .i64 c.y] 28)) B g8 ⟨arc, [c], 0, 0⟩ L vl (.slice (some ⟨W.heap.size, 0, none⟩) 1 1) True := by
 have s0 := h.x.set_ 0 (.int .i64 arc)
 have s1 := s0.set_ 1 (.slice (some ⟨W.heap.size, 0, none⟩) 1 1)
 have s2 := s1.set_ 2 (.int .i64 0)
 refine ⟨(Blk.put4 h.x).alloc _, ((((h.pcs.far8 h.n8 h.x _ _).far8 h.n8 s0 _ _).far8 h.n8 s1 _ _).far8 h.n8 s2 _ _).alloc _, h.n8, fun _ => ⟨?_, by simp, fun y hy k hk e => ?_⟩⟩
 · exact ⟨rfl, .inr ⟨W.heap.size, 1, _, rfl, hB, Blk.made (by simp) _ _, Nat.le_refl _, by simp [maxLen], rfl, rfl⟩⟩
 ·
  have := ((h.pcs.path y hy).lt k hk).2
  have h2 : k = W.heap.size := by simpa [Value.ownBlock] using e
  omega
set_option maxRecDepth 100000 in
set_option maxHeartbeats 16000000 in
theorem rpieces_spec (arc : Int) (l : List Pt) (b : Bx) (v : Value) (w : World) (hv : Pts w v l) (hl : ∀ p ∈ l, bdP p) (hx : smB b) (hxx : b.x0 ≤ b.x1) (hyy : b.y0 ≤ b.y1) (hn : l.length ≤ 1000000000) (hpos : 0 < l.length) :
  Calls Tryz.prog 38 #[.int .i64 arc, v, bxV b] w (RetPcs w (rpiecesS arc l b)) := by
 obtain ⟨q, hq⟩ : ∃ q, rpiecesS arc l b = q := ⟨_, rfl⟩
 rw [hq]
 unfold rpiecesS at hq
 have HQ := Lib.hid hq
 obtain ⟨Av, cv, rfl, hvn, hvc, hR⟩ := hv
 have hcn : cv ≤ 9223372036854775807 := by unfold maxLen at hvc; exact hvc
 have HR := Lib.hid hR
 have HLb := Lib.hid hl; have HX := Lib.hid hx; have HXX := Lib.hid hxx; have HYY := Lib.hid hyy
 obtain ⟨n, hnl⟩ : ∃ n, l.length = n := ⟨_, rfl⟩
 rw [hnl] at hvn hn hpos ⊢
 have HN := Lib.hid hnl
 clear hq hvc hR hl hx hnl hxx hyy
 unfold bxV
 obtain ⟨g5, h5⟩ : ∃ g, w.heap.size = g := ⟨_, rfl⟩
 obtain ⟨g8, h8⟩ : ∃ g, g5 + 1 = g := ⟨_, rfl⟩
 obtain ⟨W, hW⟩ : ∃ W : World, W = (w.alloc (.cells #[.int .i64 b.x0, .int .i64 b.y0, .int .i64 b.x1, .int .i64 b.y1] 50)).alloc (.cells #[.int .i64 0, .slice none 0 0, .int .i64 0, .int .i64 0] 55) := ⟨_, rfl⟩
 have HB0 := Lib.hid (show Below w.heap.size w W by rw [hW]; exact bA (bA (bR w) _) _)
 have X5 : Blk W g5 50 #[.int .i64 b.x0, .int .i64 b.y0, .int .i64 b.x1, .int .i64 b.y1] := by rw [hW]; exact (Blk.made h5.symm _ _).alloc _
 have X8 : Blk W g8 55 #[.int .i64 0, .slice none 0 0, .int .i64 0, .int .i64 0] := by rw [hW]; exact Blk.made (by simp; omega) _ _
 have HM0 := Lib.hid (show RcM W g8 g8 pc0 [] (.slice none 0 0) (.slice none 0 0) False from ⟨X8, ⟨Own.nil _ _ _ _ _, fun x hx => by cases hx⟩, by simp [Value.ownBlock], fun h => h.elim⟩)
 have HX5 := Lib.hid X5
 have hW8 : g8 < W.heap.size := X8.lt
 clear X5 X8
 go_enter Tryz.func38, Tryz.ntmps38
 go_upto_block 0 with fail
 try rw [← hW]
 have hq0 : w.heap.size ≤ g8 := by omega
 have q5 : g5 < g8 := by omega
 clear hW h5 h8
 go_wp2_with fail
 go_loopw [7, 9, 10] (fun u y z wr => ∃ (j : Nat) (L : List (Pc × SV)) (A : Option Addr) (c : Nat) (vp : Value) (st : PSt), j + 1 ≤ n ∧ u = .slice A L.length c ∧ y = .bool st.open_ ∧ z = .int .i64 j ∧ Hid (rstAt arc b l j = st) ∧ RcM wr g8 g8 st.x L (.slice A L.length c) vp (st.open_ = true ∧ j + 1 < n) ∧ Hid (L.map (·.1) = st.l) ∧ Blk wr g5 50 #[.int .i64 b.x0, .int .i64 b.y0, .int .i64 b.x1, .int .i64 b.y1] ∧ Below g8 W wr) (fun _ _ z _ => n - (intOf z).toNat)
 case atStart => exact ⟨0, [], none, 0, .slice none 0 0, ⟨false, pc0, []⟩, by omega, rfl, rfl, rfl, Lib.hid rfl, HM0.out.weaken (fun h => by cases h.1), Lib.hid rfl, HX5.out, Below.refl _ _⟩
 case round =>
  obtain ⟨j, L, A, c, vp, st, hj, rfl, rfl, rfl, hst, hM, hmp, X5, hb⟩ := hrel
  have hll := rst_l arc b l j
  rw [hst.out] at hll
  have hLj : L.length ≤ j := by
   have h1 := hll.1
   rw [← hmp.out, List.length_map] at h1
   exact h1
  have hpj := hll.2
  have Hb := Lib.hid hb
  have HM := Lib.hid hM
  have hszr : g8 < wr.heap.size := hM.x.lt
  have hw6 : g8 ≤ wr.heap.size := by omega
  have hRr : Row wr Av (l.flatMap ptC) := HR.out.mono (HB0.out.trans (hb.mono hq0))
  have HVp := Lib.hid (fun (e : st.open_ = true ∧ j + 1 < n) k hk => ((hM.path e).1.lt k hk).2)
  clear hM hb hll
  by_cases hlt : j + 1 < n
  ·
   have hl0 : j < l.length := by rw [HN.out]; omega
   have hl1 : j + 1 < l.length := by rw [HN.out]; omega
   have hsn : rstAt arc b l (j + 1) = rstepS arc b st l[j] l[j + 1] (decide (j + 2 = n)) := by
    show rstepS arc b (rstAt arc b l j) (l.getD j ptz) (l.getD (j + 1) ptz) (decide (j + 2 = l.length)) = _
    rw [show l.getD j ptz = l[j] by simp [List.getD, List.getElem?_eq_getElem hl0], show l.getD (j + 1) ptz = l[j + 1] by simp [List.getD, List.getElem?_eq_getElem hl1], hst.out, HN.out]
   obtain ⟨bq, oq, hA, hlq, a0, a1⟩ := hRr.pt hl0
   obtain ⟨bq', oq', hA', -, b0, b1⟩ := hRr.pt hl1
   obtain ⟨e1, e2⟩ : bq' = bq ∧ oq' = oq := by
    rw [hA] at hA'
    have := Option.some.inj hA'
    exact ⟨(congrArg Addr.block this).symm, (congrArg Addr.off this).symm⟩
   rw [e1, e2] at b0 b1
   clear hA' e1 e2 hRr
   have hP := HLb.out l[j] (List.getElem_mem hl0)
   have hQ := HLb.out l[j + 1] (List.getElem_mem hl1)
   generalize l[j] = p at *
   generalize l[j + 1] = q' at *
   have HSt := Lib.hid hsn
   have HClip := Lib.hid (fun W => rClip_spec p q' b W hP hQ HX.out HXX.out HYY.out)
   have HSd := Lib.hid (fun W => side_spec p q' b W hP hQ HX.out)
   have HSd2 := Lib.hid (fun W => side_spec q' p b W hQ hP HX.out)
   have HIp := Lib.hid (fun W => rIn_spec b p W)
   have HIq := Lib.hid (fun W => rIn_spec b q' W)
   unfold ptV bxV at HClip HSd HSd2 HIp HIq
   have c1 : (j : Int) + 1 < n := by omega
   have c2 : 0 ≤ (j : Int) + 1 := by omega
   have c3 : IntKind.i64.wrap ((j : Int) + 1) = (j : Int) + 1 := IntWalk.i64_in _ (by omega)
   have c4 : (j : Int) < n := by omega
   have c5 : 0 ≤ (j : Int) := by omega
   have HX5r := Lib.hid X5
   subst hA
   clear hsn hP hQ X5
   go_upto_region 7 with fail
   go_cut [11, 12] (fun u v wx => ∃ g11 g12 : Nat, u = .pointer (some ⟨g11, 0, none⟩) ∧ v = .pointer (some ⟨g12, 0, none⟩) ∧ wr.heap.size ≤ g11 ∧ wr.heap.size ≤ g12 ∧ Blk wx g11 28 #[.int .i64 p.x, .int .i64 p.y] ∧ Blk wx g12 28 #[.int .i64 q'.x, .int .i64 q'.y] ∧ Below wr.heap.size wr wx)
   case first =>
    refine rg_start (SinceB (wr.heap.size) wr) (.run 9 0 0 (.two 9 1023 (.call 10 2047 (.call 11 4095 (.call 12 8191 (.done)))) 10 1535 (.call 9 2047 (.call 11 4095 (.call 12 8191 (.done)))))) (by kernel_rfl) (Below.drew (Below.refl _ _)) (by kernel_rfl) (by kernel_rfl) (Nat.le_of_ble_eq_true (by kernel_rfl)) ?_
    intro opsR QR Hops HQrg hS
    iterate 9
     apply rg_pB; exact Hops; exact rfl; exact hS; exact rfl
     · intro _ hqc; go_simp; try rfl
     try simp only [pu]
    refine rg_two (i := 9) (j := 10) (get_of Hops rfl) (get_of Hops rfl) (fun K hK => ?_) (fun K hK => ?_)
    -- operation 9 first
    ·
     have HSrg := Lib.hid hS; clear hS
     refine rg_run (wanted_plain rfl) ?_
     go_simp
     refine hK.out _ _ (bAB (by omega) HSrg.out _) (fun hS => ?_)
     clear hK K HSrg
     try simp only [pu]
     refine rg_call (i := 10) (get_of Hops rfl) (fun K hK => ?_)
     have HSrg := Lib.hid hS; clear hS
     refine rg_run (wanted_plain rfl) ?_
     go_simp
     refine hK.out _ _ (bAB (by omega) HSrg.out _) (fun hS => ?_)
     clear hK K HSrg
     try simp only [pu]
     refine rg_call (i := 11) (get_of Hops rfl) (fun K hK => ?_)
     have HSrg := Lib.hid hS; clear hS
     refine rg_run (wanted_plain rfl) ?_
     go_simp
     refine hK.out _ _ (by unfold SinceB; have h : Below _ _ _ := HSrg.out; repeat (first | with_reducible assumption | with_reducible exact Below.refl _ _ | with_reducible refine bSB ?_ (by first | omega | (simp; omega)) _ | with_reducible refine Below.drew ?_ | with_reducible refine bAB (by omega) ?_ _ | exact h)) ?_
     intro hS
     clear hK K HSrg
     try simp only [pu]
     refine rg_call (i := 12) (get_of Hops rfl) (fun K hK => ?_)
     have HSrg := Lib.hid hS; clear hS
     refine rg_run (wanted_plain rfl) ?_
     go_simp
     refine hK.out _ _ (by unfold SinceB; have h : Below _ _ _ := HSrg.out; repeat (first | with_reducible assumption | with_reducible exact Below.refl _ _ | with_reducible refine bSB ?_ (by first | omega | (simp; omega)) _ | with_reducible refine Below.drew ?_ | with_reducible refine bAB (by omega) ?_ _ | exact h)) ?_
     intro hS
     clear hK K HSrg
     try simp only [pu]
     refine rg_done ?_
     refine HQrg.down _ _ ?_
     have hB : Below (wr.heap.size) wr _ := hS
     clear hS HQrg Hops
     go_wp2_with fail
     go_meet
     case rel => first | exact ⟨_, _, rfl, rfl, by omega, by omega, (((Blk.made rfl _ _).alloc _)).drew, (Blk.made (by simp) _ _).drew, hB⟩ | exact ⟨_, _, rfl, rfl, by omega, by omega, (Blk.made (by simp) _ _).drew, (((Blk.made rfl _ _).alloc _)).drew, hB⟩
    -- operation 10 first
    ·
     have HSrg := Lib.hid hS; clear hS
     refine rg_run (wanted_plain rfl) ?_
     go_simp
     refine hK.out _ _ (bAB (by omega) HSrg.out _) (fun hS => ?_)
     clear hK K HSrg
     try simp only [pu]
     refine rg_call (i := 9) (get_of Hops rfl) (fun K hK => ?_)
     have HSrg := Lib.hid hS; clear hS
     refine rg_run (wanted_plain rfl) ?_
     go_simp
     refine hK.out _ _ (bAB (by omega) HSrg.out _) (fun hS => ?_)
     clear hK K HSrg
     try simp only [pu]
     refine rg_call (i := 11) (get_of Hops rfl) (fun K hK => ?_)
     have HSrg := Lib.hid hS; clear hS
     refine rg_run (wanted_plain rfl) ?_
     go_simp
     refine hK.out _ _ (by unfold SinceB; have h : Below _ _ _ := HSrg.out; repeat (first | with_reducible assumption | with_reducible exact Below.refl _ _ | with_reducible refine bSB ?_ (by first | omega | (simp; omega)) _ | with_reducible refine Below.drew ?_ | with_reducible refine bAB (by omega) ?_ _ | exact h)) ?_
     intro hS
     clear hK K HSrg
     try simp only [pu]
     refine rg_call (i := 12) (get_of Hops rfl) (fun K hK => ?_)
     have HSrg := Lib.hid hS; clear hS
     refine rg_run (wanted_plain rfl) ?_
     go_simp
     refine hK.out _ _ (by unfold SinceB; have h : Below _ _ _ := HSrg.out; repeat (first | with_reducible assumption | with_reducible exact Below.refl _ _ | with_reducible refine bSB ?_ (by first | omega | (simp; omega)) _ | with_reducible refine Below.drew ?_ | with_reducible refine bAB (by omega) ?_ _ | exact h)) ?_
     intro hS
     clear hK K HSrg
     try simp only [pu]
     refine rg_done ?_
     refine HQrg.down _ _ ?_
     have hB : Below (wr.heap.size) wr _ := hS
     clear hS HQrg Hops
     go_wp2_with fail
     go_meet
     case rel => first | exact ⟨_, _, rfl, rfl, by omega, by omega, (((Blk.made rfl _ _).alloc _)).drew, (Blk.made (by simp) _ _).drew, hB⟩ | exact ⟨_, _, rfl, rfl, by omega, by omega, (Blk.made (by simp) _ _).drew, (((Blk.made rfl _ _).alloc _)).drew, hB⟩
   case rest =>
   obtain ⟨g11, g12, rfl, rfl, l11, l12, Y11, Y12, hb12⟩ := hcut
   clear a0 a1 b0 b1 c3 c4 c5 c2
   have HM1 := Lib.hid (HM.out.keep hb12)
   have HX51 := Lib.hid (HX5r.out.keep hb12)
   have HB1 := Lib.hid (Hb.out.trans (hb12.mono hw6))
   have HY11 := Lib.hid Y11; have HY12 := Lib.hid Y12
   have hz1 := hb12.size
   have X51 := HX51.out
   clear hb12 HX5r HM Hb
   obtain ⟨Y11l, Y11a, Y11b, -, -⟩ := Y11.facts2
   obtain ⟨Y12l, Y12a, Y12b, -, -⟩ := Y12.facts2
   obtain ⟨X51l, X51a, X51b, X51c, X51d, -, -, -, -⟩ := X51.facts4
   go_wp2_with fail
   refine (HClip.out _).mono ?_
   rintro e w3 ⟨rfl, hb3⟩
   have HM3 := Lib.hid (HM1.out.keep hb3)
   have HX53 := Lib.hid (HX51.out.keep hb3)
   have HB3 := Lib.hid (HB1.out.trans (hb3.mono (by omega)))
   have HY113 := Lib.hid (HY11.out.keep hb3); have HY123 := Lib.hid (HY12.out.keep hb3)
   have hz3 := hb3.size
   clear hb3 Y11 Y12 X51 Y11l Y11a Y11b Y12l Y12a Y12b X51l X51a X51b X51c X51d HM1 HX51 HB1 HY11 HY12 HClip
   obtain ⟨r, hr⟩ : ∃ r, rclipS p q' b = r := ⟨_, rfl⟩
   rw [hr]
   have HRc := Lib.hid hr
   clear hr
   rcases r with _ | ⟨cc, d⟩
   ·
    have HSt1 := Lib.hid (show rstAt arc b l (j + 1) = st by rw [HSt.out]; unfold rstepS; rw [HRc.out])
    have HMn := Lib.hid ((HM3.out.keep (bA (bA (bR _) (.cells #[.int .i64 0, .int .i64 0] 28)) (.cells #[.int .i64 0, .int .i64 0] 28))).weaken (o' := st.open_ = true ∧ j + 1 + 1 < n) (fun h => ⟨h.1, hlt⟩))
    have HXn := Lib.hid ((HX53.out.alloc (.cells #[.int .i64 0, .int .i64 0] 28)).alloc (.cells #[.int .i64 0, .int .i64 0] 28))
    have HBn := Lib.hid ((HB3.out.alloc (by omega) (.cells #[.int .i64 0, .int .i64 0] 28)).alloc (by simp; omega) (.cells #[.int .i64 0, .int .i64 0] 28))
    unfold clR
    go_wp2_with fail
    go_roundw
    case rel => exact ⟨j + 1, L, A, c, vp, st, by omega, rfl, rfl, by go_num, HSt1, HMn.out, hmp, HXn.out, HBn.out⟩
    case measure => simp [intOf]; omega
   ·
    unfold clR ptV
    obtain ⟨op, hop⟩ : ∃ op, st.open_ = op := ⟨_, rfl⟩
    rw [hop]
    have HOp := Lib.hid hop
    clear hop
    have l8 := HM3.out.x.lt; have lt11 := HY113.out.lt; have lt12 := HY123.out.lt
    go_upto_if 43 with fail
    obtain ⟨W4, hW4⟩ : ∃ W4 : World, W4 = (w3.alloc (.cells #[.int .i64 cc.x, .int .i64 cc.y] 28)).alloc (.cells #[.int .i64 d.x, .int .i64 d.y] 28) := ⟨_, rfl⟩
    have hA4 : Below w3.heap.size w3 W4 := by rw [hW4]; exact bA (bA (bR _) _) _
    have X13 : Blk W4 w3.heap.size 28 #[.int .i64 cc.x, .int .i64 cc.y] := by rw [hW4]; exact (Blk.made rfl _ _).alloc _
    have X14 : Blk W4 (w3.heap.size + 1) 28 #[.int .i64 d.x, .int .i64 d.y] := by rw [hW4]; exact Blk.made (by simp) _ _
    rw [← hW4]
    clear hW4
    have HM4 := Lib.hid (HM3.out.keep hA4)
    have HY4 := Lib.hid (show Blk W4 g5 50 #[.int .i64 b.x0, .int .i64 b.y0, .int .i64 b.x1, .int .i64 b.y1] ∧ Blk W4 g11 28 #[.int .i64 p.x, .int .i64 p.y] ∧ Blk W4 g12 28 #[.int .i64 q'.x, .int .i64 q'.y] from ⟨HX53.out.keep hA4, HY113.out.keep hA4, HY123.out.keep hA4⟩)
    have HB4 := Lib.hid (HB3.out.trans (hA4.mono (by omega)))
    have hz4 := hA4.size
    obtain ⟨g13, hg13⟩ : ∃ g, w3.heap.size = g := ⟨_, rfl⟩
    obtain ⟨g14, hg14⟩ : ∃ g, g13 + 1 = g := ⟨_, rfl⟩
    rw [hg13] at X13 X14 hz4 hz3 l8 lt11 lt12
    rw [hg14] at X14
    have HX14 := Lib.hid X14
    have l14 := X14.lt
    try simp only [hg13, hg14]
    have k14 : g13 < g14 := by omega
    clear hg13 hg14 hA4 HM3 HX53 HB3 HY113 HY123
    obtain ⟨co, hco⟩ : ∃ co, rOpen arc b st p q' cc = co := ⟨_, rfl⟩
    have HCo := Lib.hid hco
    clear hco
    go_cut [9] (fun u wx => u = .bool true ∧ (∃ vp2, RcM wx g8 g8 co L (.slice A L.length c) vp2 True ∧ vp2.ownBlock ≠ some g11 ∧ vp2.ownBlock ≠ some g12) ∧ Blk wx g5 50 #[.int .i64 b.x0, .int .i64 b.y0, .int .i64 b.x1, .int .i64 b.y1] ∧ Blk wx g11 28 #[.int .i64 p.x, .int .i64 p.y] ∧ Blk wx g12 28 #[.int .i64 q'.x, .int .i64 q'.y] ∧ Blk wx g14 28 #[.int .i64 d.x, .int .i64 d.y] ∧ Below g8 W wx)
    case first =>
     cases op
     ·
      have X8 := HM4.out.x
      obtain ⟨X13l, X13a, X13b, -, -⟩ := X13.facts2
      obtain ⟨X8l, X8a, X8b, X8c, X8d, X8fa, X8fb, X8fc, X8fd⟩ := X8.facts4
      go_upto_region 12 with fail
      obtain ⟨W5, hW5⟩ : ∃ W5 : World, W5 = ((((W4.setCell ⟨g8, 0, none⟩ (.int .i64 arc)).setCell ⟨g8, 1, none⟩ (.slice (some ⟨W4.heap.size, 0, none⟩) 1 1)).setCell ⟨g8, 2, none⟩ (.int .i64 0)).setCell ⟨g8, 3, none⟩ (.int .i64 0)).alloc (.cells #[.int .i64 cc.x, .int .i64 cc.y] 28) := ⟨_, rfl⟩
      rw [← hW5]
      have HM5 := Lib.hid (show RcM W5 g8 g8 ⟨arc, [cc], 0, 0⟩ L (.slice A L.length c) (.slice (some ⟨W4.heap.size, 0, none⟩) 1 1) True by rw [hW5]; exact HM4.out.opened2 (by omega) arc cc)
      have ne8 : g5 ≠ g8 ∧ g11 ≠ g8 ∧ g12 ≠ g8 ∧ g14 ≠ g8 := by omega
      have X5 : Blk W5 g5 50 #[.int .i64 b.x0, .int .i64 b.y0, .int .i64 b.x1, .int .i64 b.y1] := by rw [hW5]; exact ((((HY4.out.1.far ne8.1 _).far ne8.1 _).far ne8.1 _).far ne8.1 _).alloc _
      have X11 : Blk W5 g11 28 #[.int .i64 p.x, .int .i64 p.y] := by rw [hW5]; exact ((((HY4.out.2.1.far ne8.2.1 _).far ne8.2.1 _).far ne8.2.1 _).far ne8.2.1 _).alloc _
      have X12 : Blk W5 g12 28 #[.int .i64 q'.x, .int .i64 q'.y] := by rw [hW5]; exact ((((HY4.out.2.2.far ne8.2.2.1 _).far ne8.2.2.1 _).far ne8.2.2.1 _).far ne8.2.2.1 _).alloc _
      have Z14 : Blk W5 g14 28 #[.int .i64 d.x, .int .i64 d.y] := by rw [hW5]; exact ((((HX14.out.far ne8.2.2.2 _).far ne8.2.2.2 _).far ne8.2.2.2 _).far ne8.2.2.2 _).alloc _
      have HB5 := Lib.hid (show Below g8 W W5 by rw [hW5]; exact ((((HB4.out.setCell (p := ⟨g8, 0, none⟩) (Nat.le_refl _) _).setCell (p := ⟨g8, 1, none⟩) (Nat.le_refl _) _).setCell (p := ⟨g8, 2, none⟩) (Nat.le_refl _) _).setCell (p := ⟨g8, 3, none⟩) (Nat.le_refl _) _).alloc (by simp; omega) _)
      have hs5 : W4.heap.size ≤ W5.heap.size := by rw [hW5]; simp
      have n1 : (Value.slice (some ⟨W4.heap.size, 0, none⟩) 1 1).ownBlock ≠ some g11 ∧ (Value.slice (some ⟨W4.heap.size, 0, none⟩) 1 1).ownBlock ≠ some g12 := by simp [Value.ownBlock]; omega
      have HN1 := Lib.hid n1
      have HZ := Lib.hid (show Blk W5 g5 50 #[.int .i64 b.x0, .int .i64 b.y0, .int .i64 b.x1, .int .i64 b.y1] ∧ Blk W5 g11 28 #[.int .i64 p.x, .int .i64 p.y] ∧ Blk W5 g12 28 #[.int .i64 q'.x, .int .i64 q'.y] ∧ Blk W5 g14 28 #[.int .i64 d.x, .int .i64 d.y] from ⟨X5, X11, X12, Z14⟩)
      have HCo2 := Lib.hid (show co = ⟨arc, [cc], if inB b p = true then 0 else clSide p q' b, 0⟩ by rw [← HCo.out]; unfold rOpen; rw [if_neg (by rw [HOp.out]; simp)])
      clear hW5 n1 X8 X8l X8a X8b X8c X8d X8fa X8fb X8fc X8fd X13 X13l X13a X13b Z14
      generalize (Value.slice (some ⟨W4.heap.size, 0, none⟩) 1 1) = vq at *
      obtain ⟨z, hz⟩ : ∃ z, inB b p = z := ⟨_, rfl⟩
      rw [hz] at HIp HCo2
      clear hz
      obtain ⟨X5l, X5a, X5b, X5c, X5d, -, -, -, -⟩ := X5.facts4
      obtain ⟨X11l, X11a, X11b, -, -⟩ := X11.facts2
      go_wp2_with fail
      refine (HIp.out _).mono ?_
      rintro e w6 ⟨rfl, hb6⟩
      have HM6 := Lib.hid (HM5.out.keep hb6)
      have HZ6 := Lib.hid (show Blk w6 g5 50 #[.int .i64 b.x0, .int .i64 b.y0, .int .i64 b.x1, .int .i64 b.y1] ∧ Blk w6 g11 28 #[.int .i64 p.x, .int .i64 p.y] ∧ Blk w6 g12 28 #[.int .i64 q'.x, .int .i64 q'.y] ∧ Blk w6 g14 28 #[.int .i64 d.x, .int .i64 d.y] from ⟨HZ.out.1.keep hb6, HZ.out.2.1.keep hb6, HZ.out.2.2.1.keep hb6, HZ.out.2.2.2.keep hb6⟩)
      have HB6 := Lib.hid (HB5.out.trans (hb6.mono (by omega)))
      have hs6 := hb6.size
      clear hb6 HM5 HZ HB5 X5 X5l X5a X5b X5c X5d X11 X11l X11a X11b X12
      cases z
      ·
       have X5 := HZ6.out.1; have X11 := HZ6.out.2.1; have X12 := HZ6.out.2.2.1
       try clear X5l
       try clear X5a
       try clear X5b
       try clear X5c
       try clear X5d
       obtain ⟨X5l, X5a, X5b, X5c, X5d, -, -, -, -⟩ := X5.facts4
       try clear X11l
       try clear X11a
       try clear X11b
       obtain ⟨X11l, X11a, X11b, -, -⟩ := X11.facts2
       obtain ⟨X12l, X12a, X12b, -, -⟩ := X12.facts2
       go_wp2_with fail
       refine (HSd.out _).mono ?_
       rintro e w7 ⟨rfl, hb7⟩
       have X8 := (HM6.out.keep hb7).x
       have HM7 := Lib.hid (HM6.out.keep hb7)
       have HZ7 := Lib.hid (show Blk w7 g5 50 #[.int .i64 b.x0, .int .i64 b.y0, .int .i64 b.x1, .int .i64 b.y1] ∧ Blk w7 g11 28 #[.int .i64 p.x, .int .i64 p.y] ∧ Blk w7 g12 28 #[.int .i64 q'.x, .int .i64 q'.y] ∧ Blk w7 g14 28 #[.int .i64 d.x, .int .i64 d.y] from ⟨HZ6.out.1.keep hb7, HZ6.out.2.1.keep hb7, HZ6.out.2.2.1.keep hb7, HZ6.out.2.2.2.keep hb7⟩)
       have HB7 := Lib.hid (HB6.out.trans (hb7.mono (by omega)))
       clear hb7 X5 X5l X5a X5b X5c X5d X11 X11l X11a X11b X12 X12l X12a X12b
       dsimp only at X8
       try clear X8l
       try clear X8a
       try clear X8b
       try clear X8c
       try clear X8d
       try clear X8fa
       try clear X8fb
       try clear X8fc
       try clear X8fd
       obtain ⟨X8l, X8a, X8b, X8c, X8d, X8fa, X8fb, X8fc, X8fd⟩ := X8.facts4
       go_wp2_with fail
       go_meet
       case rel =>
        refine ⟨rfl, ⟨vq, ?_, HN1.out.1, HN1.out.2⟩, HZ7.out.1.far ne8.1 _, HZ7.out.2.1.far ne8.2.1 _, HZ7.out.2.2.1.far ne8.2.2.1 _, HZ7.out.2.2.2.far ne8.2.2.2 _, HB7.out.setCell (p := ⟨g8, 2, none⟩) (Nat.le_refl _) _⟩
        rw [HCo2.out]
        exact HM7.out.enter_ _
      ·
       go_wp2_with fail
       go_meet
       case rel =>
        refine ⟨rfl, ⟨vq, ?_, HN1.out.1, HN1.out.2⟩, HZ6.out.1, HZ6.out.2.1, HZ6.out.2.2.1, HZ6.out.2.2.2, HB6.out⟩
        rw [HCo2.out]
        exact HM6.out
     ·
      have HCo2 := Lib.hid (show co = st.x by rw [← HCo.out]; unfold rOpen; rw [if_pos HOp.out])
      go_wp2_with fail
      go_meet
      case rel =>
       have hlt2 := HVp.out ⟨HOp.out, hlt⟩
       refine ⟨rfl, ⟨vp, ?_, fun e => ?_, fun e => ?_⟩, HY4.out.1, HY4.out.2.1, HY4.out.2.2, HX14.out, HB4.out⟩
       · rw [HCo2.out]; exact HM4.out.weaken (fun _ => ⟨HOp.out, hlt⟩)
       · have := hlt2 _ e; omega
       · have := hlt2 _ e; omega
    case rest =>
     obtain ⟨rfl, ⟨vp2, hM, ne11, ne12⟩, x5, x11, x12, x14, hb5⟩ := hcut
     have HMc := Lib.hid hM
     have HXc := Lib.hid (show Blk wc g5 50 #[.int .i64 b.x0, .int .i64 b.y0, .int .i64 b.x1, .int .i64 b.y1] ∧ Blk wc g11 28 #[.int .i64 p.x, .int .i64 p.y] ∧ Blk wc g12 28 #[.int .i64 q'.x, .int .i64 q'.y] from ⟨x5, x11, x12⟩)
     have HNe := Lib.hid (show vp2.ownBlock ≠ some g11 ∧ vp2.ownBlock ≠ some g12 from ⟨ne11, ne12⟩)
     have HBc := Lib.hid hb5
     have X8 := hM.x; have X14 := x14
     obtain ⟨hown, hne, -⟩ := hM.path trivial
     obtain ⟨A2, c2, rfl, -, -⟩ := Own.shape_ hown
     have hn2 : co.path.length ≤ 2 * j + 1 := by
      rw [← HCo.out]
      unfold rOpen
      split
      · omega
      · simp
     obtain ⟨A2', c2', he2, -, -, hrow⟩ := hown.sl
     injection he2 with e1 e2 e3
     subst e1
     have hpos2 : 0 < co.path.length := List.length_pos_iff.2 hne
     obtain ⟨m, hm⟩ : ∃ m, co.path.length = m + 1 := ⟨co.path.length - 1, by omega⟩
     have hmk : m < co.path.length := by omega
     have hlast : co.path.getLast? = some co.path[m] := by
      rw [List.getLast?_eq_getElem?, hm, Nat.add_sub_cancel, List.getElem?_eq_getElem hmk]
     obtain ⟨bp, op2, hA2, hlb, d0, d1⟩ := hrow.pt hmk
     subst hA2
     have HOwn := Lib.hid hown
     have hcz : g8 ≤ wc.heap.size := by have := hM.x.lt; omega
     generalize co.path[m] = lp at *
     have HLast := Lib.hid hlast
     have hE := run_neq_pt d lp
     obtain ⟨z, hz⟩ : ∃ z, (!decide (d = lp)) = z := ⟨_, rfl⟩
     rw [hz] at hE
     have HZ := Lib.hid hz
     obtain ⟨pth, hpth⟩ : ∃ pth, (if co.path.getLast? = some d then co.path else co.path ++ [d]) = pth := ⟨_, rfl⟩
     have HPth := Lib.hid hpth
     have u1 : IntKind.i64.wrap (m : Int) = (m : Int) := IntWalk.i64_in _ (by omega)
     have u2 : 0 ≤ (m : Int) := by omega
     have u3 : (m : Int) < (m : Int) + 1 := by omega
     rw [hm] at X8
     clear hM x5 x11 x12 x14 hb5 hown hne hrow e2 e3 ne11 ne12 HM4 HY4 HX14 HB4 hlast hz hpth hpos2 hmk
     have HHm := Lib.hid hm
     try simp only [hm]
     clear hm
     try clear X8l
     try clear X8a
     try clear X8b
     try clear X8c
     try clear X8d
     try clear X8fa
     try clear X8fb
     try clear X8fc
     try clear X8fd
     obtain ⟨X8l, X8a, X8b, X8c, X8d, -, -, -, -⟩ := X8.facts4
     obtain ⟨X14l, X14a, X14b, -, -⟩ := X14.facts2
     go_upto_region 14 with fail
     refine rg_start (Since wc) (.run 10 0 0 (.done)) (by kernel_rfl) (bD (bR _)) (by kernel_rfl) (by kernel_rfl) (Nat.le_of_ble_eq_true (by kernel_rfl)) ?_
     intro opsR QR Hops HQrg hS
     iterate 10
      apply rg_p; exact Hops; exact rfl; exact hS; exact rfl
      · intro _ hqc; go_simp; try rfl
      try simp only [pu]
     refine rg_done ?_
     refine HQrg.down _ _ ?_
     have hB : Below wc.heap.size wc wc.drew := hS
     clear hS HQrg Hops
     have HMd := Lib.hid (HMc.out.keep hB)
     have HOd := Lib.hid (HOwn.out.keep hB)
     have HXd := Lib.hid (show Blk wc.drew g5 50 #[.int .i64 b.x0, .int .i64 b.y0, .int .i64 b.x1, .int .i64 b.y1] ∧ Blk wc.drew g11 28 #[.int .i64 p.x, .int .i64 p.y] ∧ Blk wc.drew g12 28 #[.int .i64 q'.x, .int .i64 q'.y] from ⟨HXc.out.1.keep hB, HXc.out.2.1.keep hB, HXc.out.2.2.keep hB⟩)
     have HBd := Lib.hid (HBc.out.trans (hB.mono hcz))
     replace X8 := X8.keep hB
     replace X14 := X14.keep hB
     obtain ⟨wd, hwd⟩ : ∃ wd, wd = wc.drew := ⟨_, rfl⟩
     have hzd : wc.heap.size ≤ wd.heap.size := by rw [hwd]; exact hB.size
     rw [← hwd] at HMd HOd HXd HBd X8 X14 ⊢
     clear hwd hB HMc HOwn HXc HBc hE u1 u2 u3 hlb d0 d1
     try clear X8l
     try clear X8a
     try clear X8b
     try clear X8c
     try clear X8d
     try clear X8fa
     try clear X8fb
     try clear X8fc
     try clear X8fd
     obtain ⟨X8l, X8a, X8b, X8c, X8d, X8fa, X8fb, X8fc, X8fd⟩ := X8.facts4
     try clear X14l
     try clear X14a
     try clear X14b
     obtain ⟨X14l, X14a, X14b, -, -⟩ := X14.facts2
     go_upto_if 66 with fail
     go_cut [] (fun wx => (∃ A3 c3, RcM wx g8 g8 ⟨co.arc, pth, co.enter, co.leave⟩ L (.slice A L.length c) (.slice A3 pth.length c3) True) ∧ Blk wx g5 50 #[.int .i64 b.x0, .int .i64 b.y0, .int .i64 b.x1, .int .i64 b.y1] ∧ Blk wx g11 28 #[.int .i64 p.x, .int .i64 p.y] ∧ Blk wx g12 28 #[.int .i64 q'.x, .int .i64 q'.y] ∧ Below g8 W wx)
     case first =>
      cases z
      ·
       have hp2 : pth = co.path := by
        rw [← HPth.out, if_pos]
        rw [HLast.out]
        have := HZ.out
        simp at this
        rw [this]
       have HP2 := Lib.hid hp2
       clear hp2
       go_wp2_with fail
       go_meet
       case rel =>
        rw [HP2.out]
        exact ⟨⟨_, _, HMd.out⟩, HXd.out.1, HXd.out.2.1, HXd.out.2.2, HBd.out⟩
      ·
       have hp2 : pth = co.path ++ [d] := by
        rw [← HPth.out, if_neg]
        rw [HLast.out]
        have := HZ.out
        simp at this
        intro e
        exact this (Option.some.inj e).symm
       have HP2 := Lib.hid hp2
       clear hp2
       have hml := HHm.out
       rw [hml] at HOd HMd
       have HLen := Lib.hid hml
       clear hml
       go_wp2_with
        (at_builtin
         refine wpList_appl _ rfl (.tmp 68) (.tmp 70) _ rfl (base := g8) elem_pt ptC_len ptC_one rfl (Own.alloc (show Own wd g8 28 2 ptC (.slice (some ⟨bp, op2, none⟩) (m + 1) c2) co.path from HOd.out) _) rfl (l2 := [d]) (Pts.one (x := d) (Blk.made rfl _ _)) (by simp only [List.length_cons, List.length_nil]; omega) (by simp only [List.length_cons, List.length_nil]; omega) (by simp; omega) ?_
         intro v5 w5 ho5 hg5 hat5
         obtain ⟨A5, c5, hv5, -⟩ := Own.shape_ ho5
         rw [show (co.path ++ [d]).length = co.path.length + 1 by simp] at hv5
         subst hv5
         have Z8 := Blk.grown (HMd.out.x.alloc _) hg5 (fun e => Own.ne_blk HOd.out HMd.out.x (by decide) e.symm)
         have HMA := Lib.hid (HMd.out.added trivial ho5 hg5 hat5)
         have HXA := Lib.hid (show Blk w5 g5 50 #[.int .i64 b.x0, .int .i64 b.y0, .int .i64 b.x1, .int .i64 b.y1] ∧ Blk w5 g11 28 #[.int .i64 p.x, .int .i64 p.y] ∧ Blk w5 g12 28 #[.int .i64 q'.x, .int .i64 q'.y] from
          ⟨Blk.grown (HXd.out.1.alloc _) hg5 (fun e => Own.ne_blk HOd.out HXd.out.1 (by decide) e.symm), Blk.grown (HXd.out.2.1.alloc _) hg5 (fun e => HNe.out.1 e.symm), Blk.grown (HXd.out.2.2.alloc _) hg5 (fun e => HNe.out.2 e.symm)⟩)
         have HBA := Lib.hid (Below.grown (HBd.out.alloc (by omega) _) hg5 (by simp; omega) (fun k hk => (HOd.out.lt k hk).1))
         clear ho5 hg5 hat5
         obtain ⟨Z8l, Z8a, Z8b, Z8c, Z8d, Z8fa, Z8fb, Z8fc, Z8fd⟩ := Z8.facts4
         )
       go_wp2_with fail
       go_meet
       case rel =>
        have nn : g5 ≠ g8 ∧ g11 ≠ g8 ∧ g12 ≠ g8 := by omega
        rw [HP2.out]
        exact ⟨⟨A5, c5, by rw [List.length_append, List.length_singleton]; exact HMA.out⟩, HXA.out.1.far nn.1 _, HXA.out.2.1.far nn.2.1 _, HXA.out.2.2.far nn.2.2 _, HBA.out.setCell (p := ⟨g8, 1, none⟩) (Nat.le_refl _) _⟩
     case rest =>
      obtain ⟨⟨A3, c3, hM3⟩, x5, x11, x12, hb6⟩ := hcut
      have HMe := Lib.hid hM3
      have HXe := Lib.hid (show Blk wc g5 50 #[.int .i64 b.x0, .int .i64 b.y0, .int .i64 b.x1, .int .i64 b.y1] ∧ Blk wc g11 28 #[.int .i64 p.x, .int .i64 p.y] ∧ Blk wc g12 28 #[.int .i64 q'.x, .int .i64 q'.y] from ⟨x5, x11, x12⟩)
      have HBe := Lib.hid hb6
      have l8e : g8 < wc.heap.size := hM3.x.lt
      clear HMd HOd HXd HBd X8 X14 HNe hM3 hb6 x11
      try clear X8l X8a X8b X8c X8d
      try clear X8fa X8fb X8fc X8fd
      try clear X14l X14a X14b
      obtain ⟨z2, hz2⟩ : ∃ z2, inB b q' = z2 := ⟨_, rfl⟩
      rw [hz2] at HIq
      have HZ2 := Lib.hid hz2
      clear hz2
      obtain ⟨x5l, x5a, x5b, x5c, x5d, -, -, -, -⟩ := x5.facts4
      obtain ⟨x12l, x12a, x12b, -, -⟩ := x12.facts2
      go_wp2_with fail
      refine (HIq.out _).mono ?_
      rintro e w7 ⟨rfl, hb7⟩
      have HM7 := Lib.hid (HMe.out.keep hb7)
      have HX7 := Lib.hid (show Blk w7 g5 50 #[.int .i64 b.x0, .int .i64 b.y0, .int .i64 b.x1, .int .i64 b.y1] ∧ Blk w7 g11 28 #[.int .i64 p.x, .int .i64 p.y] ∧ Blk w7 g12 28 #[.int .i64 q'.x, .int .i64 q'.y] from ⟨HXe.out.1.keep hb7, HXe.out.2.1.keep hb7, HXe.out.2.2.keep hb7⟩)
      have HB7 := Lib.hid (HBe.out.trans (hb7.mono (by omega)))
      have hs7 := hb7.size
      clear hb7 HMe HXe HBe x5 x5l x5a x5b x5c x5d x12 x12l x12a x12b
      obtain ⟨lv, hlv⟩ : ∃ lv, (if z2 = true then co.leave else clSide q' p b) = lv := ⟨_, rfl⟩
      have HLv := Lib.hid hlv
      clear hlv
      go_upto_if 76 with fail
      go_cut [9] (fun u wx => u = .bool z2 ∧ RcM wx g8 g8 ⟨co.arc, pth, co.enter, lv⟩ L (.slice A L.length c) (.slice A3 pth.length c3) True ∧ Blk wx g5 50 #[.int .i64 b.x0, .int .i64 b.y0, .int .i64 b.x1, .int .i64 b.y1] ∧ Below g8 W wx)
      case first =>
       cases z2
       ·
        have HLv2 := Lib.hid (show clSide q' p b = lv by rw [← HLv.out]; rfl)
        have X5 := HX7.out.1; have X11 := HX7.out.2.1; have X12 := HX7.out.2.2
        try clear X5l
        try clear X5a
        try clear X5b
        try clear X5c
        try clear X5d
        obtain ⟨X5l, X5a, X5b, X5c, X5d, -, -, -, -⟩ := X5.facts4
        try clear X11l
        try clear X11a
        try clear X11b
        obtain ⟨X11l, X11a, X11b, -, -⟩ := X11.facts2
        try clear X12l
        try clear X12a
        try clear X12b
        obtain ⟨X12l, X12a, X12b, -, -⟩ := X12.facts2
        go_wp2_with fail
        refine (HSd2.out _).mono ?_
        rintro e w8 ⟨rfl, hb8⟩
        rw [HLv2.out]
        have HM8 := Lib.hid (HM7.out.keep hb8)
        have HX8 := Lib.hid (HX7.out.1.keep hb8)
        have HB8 := Lib.hid (HB7.out.trans (hb8.mono (by omega)))
        have X8 := HM8.out.x
        dsimp only at X8
        clear hb8 X5 X5l X5a X5b X5c X5d X11 X11l X11a X11b X12 X12l X12a X12b
        try clear X8l
        try clear X8a
        try clear X8b
        try clear X8c
        try clear X8d
        try clear X8fa
        try clear X8fb
        try clear X8fc
        try clear X8fd
        obtain ⟨X8l, X8a, X8b, X8c, X8d, X8fa, X8fb, X8fc, X8fd⟩ := X8.facts4
        go_wp2_with fail
        go_meet
        case rel => exact ⟨rfl, HM8.out.leave_ lv, HX8.out.far (p := ⟨g8, 3, none⟩) (by first | omega | (simp; done) | (simp; omega)) _, HB8.out.setCell (p := ⟨g8, 3, none⟩) (Nat.le_refl _) _⟩
       ·
        have HLv2 := Lib.hid (show co.leave = lv by rw [← HLv.out]; rfl)
        go_wp2_with fail
        go_meet
        case rel => exact ⟨rfl, by rw [← HLv2.out]; exact HM7.out, HX7.out.1, HB7.out⟩
      case rest =>
      obtain ⟨rfl, hM9, x5, hb9⟩ := hcut
      obtain ⟨xx, hxx⟩ : ∃ xx : Pc, (⟨co.arc, pth, co.enter, lv⟩ : Pc) = xx := ⟨_, rfl⟩
      have hxp : xx.path = pth := by rw [← hxx]
      have hadd : rclAdd arc b st p q' cc d = xx := by rw [rclAdd_eq, HCo.out, HPth.out, HZ2.out, HLv.out, hxx]
      have HXp := Lib.hid hxp
      rw [hxx] at hM9
      have HSt2 := Lib.hid (show rstAt arc b l (j + 1) = ⟨z2, xx, if (z2 = false ∨ j + 2 = n) ∧ 1 < pth.length then st.l ++ [xx] else st.l⟩ by
       rw [HSt.out]; unfold rstepS; rw [HRc.out]; simp only; rw [hadd, HZ2.out, hxp]; simp only [decide_eq_true_eq])
      have HM9 := Lib.hid hM9; have HX9 := Lib.hid x5; have HB9 := Lib.hid hb9
      have X8 := hM9.x
      have l89 := hM9.x.lt
      clear hxx hxp hadd hM9 x5 hb9 HM7 HX7 HB7
      have hpl : pth.length ≤ 2 * j + 2 := by
       rw [← HPth.out]
       split
       · omega
       · rw [List.length_append, List.length_singleton]; omega
      have u4 : IntKind.i64.wrap ((j : Int) + 2) = (j : Int) + 2 := IntWalk.i64_in _ (by omega)
      try clear X8l
      try clear X8a
      try clear X8b
      try clear X8c
      try clear X8d
      try clear X8fa
      try clear X8fb
      try clear X8fc
      try clear X8fd
      obtain ⟨X8l, X8a, X8b, X8c, X8d, -, -, -, -⟩ := X8.facts4
      by_cases hl : 1 < pth.length
      ·
       have hl' : (1 : Int) < (pth.length : Int) := by omega
       cases z2
       ·
        have HS3 := Lib.hid (show rstAt arc b l (j + 1) = ⟨false, xx, st.l ++ [xx]⟩ by rw [HSt2.out, if_pos ⟨.inl rfl, hl⟩])
        clear hl
        go_wp2_with
         (at_builtin
          refine wpList_appl _ rfl (.tmp 97) (.tmp 99) _ rfl (base := g8) elem_pc pcS_len pcS_one rfl (Own.alloc HM9.out.pcs.own _) rfl (l2 := [((xx, ⟨A3, pth.length, c3⟩) : Pc × SV)]) (Sl.lit (n := 1) (Blk.made rfl _ _) rfl (le_maxLen (by omega))) (by simp only [List.length_cons, List.length_nil]; omega) (by simp only [List.length_cons, List.length_nil]; omega) (by simp; omega) ?_
          intro v5 w5 ho5 hg5 hat5
          obtain ⟨A5, c5, hv5, -⟩ := Own.shape_ ho5
          rw [show (L ++ [((xx, ⟨A3, pth.length, c3⟩) : Pc × SV)]).length = L.length + 1 by simp] at hv5
          subst hv5
          have HMA := Lib.hid (HM9.out.app ho5 hg5 hat5)
          have HXA := Lib.hid (Blk.grown (HX9.out.alloc _) hg5 (fun e => Own.ne_blk HM9.out.pcs.own HX9.out (by decide) e.symm))
          have HBA := Lib.hid (Below.grown (HB9.out.alloc (by omega) _) hg5 (by simp; omega) (fun k hk => (HM9.out.pcs.own.lt k hk).1))
          clear ho5 hg5 hat5
          )
        go_wp2_with fail
        go_roundw
        case rel => exact ⟨j + 1, L ++ [((xx, ⟨A3, pth.length, c3⟩) : Pc × SV)], A5, c5, .slice A3 pth.length c3, ⟨false, xx, st.l ++ [xx]⟩, by omega, by rw [List.length_append, List.length_singleton], rfl, by go_num, HS3, by rw [List.length_append, List.length_singleton]; exact HMA.out.weaken (fun h => by cases h.1), Lib.hid (by rw [List.map_append, hmp.out]; rfl), HXA.out, HBA.out⟩
        case measure => simp [intOf]; omega
       ·
        by_cases hla : j + 2 = n
        ·
         have HS3 := Lib.hid (show rstAt arc b l (j + 1) = ⟨true, xx, st.l ++ [xx]⟩ by rw [HSt2.out, if_pos ⟨.inr hla, hl⟩])
         have hlb : ((j : Int) + 2 == (n : Int)) = true := by rw [beq_iff_eq]; omega
         have HLa := Lib.hid hla
         clear hl hla
         go_wp2_with
          (at_builtin
           refine wpList_appl _ rfl (.tmp 97) (.tmp 99) _ rfl (base := g8) elem_pc pcS_len pcS_one rfl (Own.alloc HM9.out.pcs.own _) rfl (l2 := [((xx, ⟨A3, pth.length, c3⟩) : Pc × SV)]) (Sl.lit (n := 1) (Blk.made rfl _ _) rfl (le_maxLen (by omega))) (by simp only [List.length_cons, List.length_nil]; omega) (by simp only [List.length_cons, List.length_nil]; omega) (by simp; omega) ?_
           intro v5 w5 ho5 hg5 hat5
           obtain ⟨A5, c5, hv5, -⟩ := Own.shape_ ho5
           rw [show (L ++ [((xx, ⟨A3, pth.length, c3⟩) : Pc × SV)]).length = L.length + 1 by simp] at hv5
           subst hv5
           have HMA := Lib.hid (HM9.out.app ho5 hg5 hat5)
           have HXA := Lib.hid (Blk.grown (HX9.out.alloc _) hg5 (fun e => Own.ne_blk HM9.out.pcs.own HX9.out (by decide) e.symm))
           have HBA := Lib.hid (Below.grown (HB9.out.alloc (by omega) _) hg5 (by simp; omega) (fun k hk => (HM9.out.pcs.own.lt k hk).1))
           clear ho5 hg5 hat5
           )
         go_wp2_with fail
         go_roundw
         case rel => exact ⟨j + 1, L ++ [((xx, ⟨A3, pth.length, c3⟩) : Pc × SV)], A5, c5, .slice A3 pth.length c3, ⟨true, xx, st.l ++ [xx]⟩, by omega, by rw [List.length_append, List.length_singleton], rfl, by go_num, HS3, by rw [List.length_append, List.length_singleton]; exact HMA.out.weaken (fun h => by have := HLa.out; omega), Lib.hid (by rw [List.map_append, hmp.out]; rfl), HXA.out, HBA.out⟩
         case measure => simp [intOf]; omega
        ·
         have HS3 := Lib.hid (show rstAt arc b l (j + 1) = ⟨true, xx, st.l⟩ by rw [HSt2.out, if_neg (fun h => h.1.elim (fun e => by cases e) hla)])
         have hlb : ((j : Int) + 2 == (n : Int)) = false := by rw [beq_eq_false_iff_ne]; omega
         clear hl hla
         go_wp2_with fail
         go_roundw
         case rel => exact ⟨j + 1, L, A, c, .slice A3 pth.length c3, ⟨true, xx, st.l⟩, by omega, rfl, rfl, by go_num, HS3, HM9.out.weaken (fun _ => trivial), Lib.hid hmp.out, HX9.out, HB9.out⟩
         case measure => simp [intOf]; omega
      ·
       have hl' : ¬ (1 : Int) < (pth.length : Int) := by omega
       have HS3' := Lib.hid (show rstAt arc b l (j + 1) = ⟨z2, xx, st.l⟩ by rw [HSt2.out, if_neg (fun h => hl h.2)])
       clear hl
       cases z2
       ·
        have HS3 := Lib.hid HS3'.out
        go_wp2_with fail
        go_roundw
        case rel => exact ⟨j + 1, L, A, c, .slice A3 pth.length c3, ⟨false, xx, st.l⟩, by omega, rfl, rfl, by go_num, HS3, HM9.out.weaken (fun _ => trivial), Lib.hid hmp.out, HX9.out, HB9.out⟩
        case measure => simp [intOf]; omega
       ·
        have HS3 := Lib.hid HS3'.out
        by_cases hla : j + 2 = n
        ·
         have hlb : ((j : Int) + 2 == (n : Int)) = true := by rw [beq_iff_eq]; omega
         clear hla
         go_wp2_with fail
         go_roundw
         case rel => exact ⟨j + 1, L, A, c, .slice A3 pth.length c3, ⟨true, xx, st.l⟩, by omega, rfl, rfl, by go_num, HS3, HM9.out.weaken (fun _ => trivial), Lib.hid hmp.out, HX9.out, HB9.out⟩
         case measure => simp [intOf]; omega
        ·
         have hlb : ((j : Int) + 2 == (n : Int)) = false := by rw [beq_eq_false_iff_ne]; omega
         clear hla
         go_wp2_with fail
         go_roundw
         case rel => exact ⟨j + 1, L, A, c, .slice A3 pth.length c3, ⟨true, xx, st.l⟩, by omega, rfl, rfl, by go_num, HS3, HM9.out.weaken (fun _ => trivial), Lib.hid hmp.out, HX9.out, HB9.out⟩
         case measure => simp [intOf]; omega
  ·
   have hjn : j = l.length - 1 := by rw [HN.out]; omega
   have hfin : L.map (·.1) = q := by rw [hmp.out, ← HQ.out, ← hjn, hst.out]
   have hll : L.length = q.length := by rw [← hfin, List.length_map]
   have HFin := Lib.hid hfin
   have HPf := Lib.hid (show PcsO wr w.heap.size (.slice A L.length c) L from ⟨HM.out.pcs.own.mono_base hq0, fun x hx => (HM.out.pcs.path x hx).mono_base hq0⟩)
   have HBf := Lib.hid (HB0.out.trans (Hb.out.mono hq0))
   have c1 : ¬ (j : Int) + 1 < n := by omega
   have c3 : IntKind.i64.wrap ((j : Int) + 1) = (j : Int) + 1 := IntWalk.i64_in _ (by omega)
   clear hjn hRr X5 hfin hll
   go_wp2_with fail
   go_ret
   exact ⟨A, c, L, rfl, HBf.out, HFin.out, HPf.out⟩
end Go.Proofs.YtfondidmklmonaaGreat
