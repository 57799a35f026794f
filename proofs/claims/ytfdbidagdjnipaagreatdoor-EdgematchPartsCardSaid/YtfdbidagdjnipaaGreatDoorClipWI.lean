/- clip.pieces. -/
import Derived.Deep.CutBlock
import Derived.Test.YtfdbidagdjnipaaGreatDoorClipWG
import Derived.Test.YtfdbidagdjnipaaGreatDoorClipWH
import Derived.Test.YtfdbidagdjnipaaGreatDoorGG
set_option linter.unusedSimpArgs false
set_option linter.unusedVariables false
namespace Go.Proofs.YtfdbidagdjnipaaGreatDoor
open Go.RowKit

/-- behind the opening of a piece -/
def clOpen (arc : Int) (b : Bx) (s : PSt) (p q c : Pt) : PSt := if s.open_ = true then s else ⟨true, ⟨arc, [c], throughS p q b, 0⟩, s.l⟩
theorem clAdd_eq (arc : Int) (b : Bx) (s : PSt) (p q c d : Pt) : clAdd arc b s p q c d = ⟨true, ⟨(clOpen arc b s p q c).x.arc, (clOpen arc b s p q c).x.path ++ [d], (clOpen arc b s p q c).x.enter, throughS q p b⟩, (clOpen arc b s p q c).l⟩ := by
 unfold clAdd clOpen
 cases s.open_ <;> rfl
theorem end_l (s : PSt) : (endS s).l.length ≤ s.l.length + 1 ∧ (endS s).x.path.length ≤ s.x.path.length := by
 unfold endS
 split
 · exact ⟨by omega, by omega⟩
 ·
  refine ⟨?_, cmp_len _⟩
  simp only
  split
  · simp
  · omega
theorem open_l (arc : Int) (b : Bx) (s : PSt) (p q c : Pt) : (clOpen arc b s p q c).l = s.l ∧ (clOpen arc b s p q c).x.path.length ≤ s.x.path.length + 1 ∧ (clOpen arc b s p q c).open_ = true := by
 unfold clOpen
 split
 · exact ⟨rfl, by omega, by assumption⟩
 · exact ⟨rfl, by simp, rfl⟩
theorem step_l (arc : Int) (b : Bx) (s : PSt) (p q : Pt) : (stepS arc b s p q).l.length ≤ s.l.length + 1 ∧ (stepS arc b s p q).x.path.length ≤ s.x.path.length + 2 := by
 unfold stepS
 have h1 := end_l s
 split
 · exact ⟨h1.1, by omega⟩
 ·
  rename_i c d _
  have h2 := end_l (clAdd arc b s p q c d)
  rw [clAdd_eq] at h2 ⊢
  obtain ⟨h3, h4, -⟩ := open_l arc b s p q c
  simp only [List.length_append, List.length_singleton] at h2
  split
  · exact ⟨by simp only; rw [h3]; omega, by simp only [List.length_append, List.length_singleton]; omega⟩
  ·
   rw [h3] at h2 ⊢
   exact ⟨h2.1, by omega⟩
theorem stAt_l (arc : Int) (b : Bx) (l : List Pt) : ∀ i, (stAt arc b l i).l.length ≤ i ∧ (stAt arc b l i).x.path.length ≤ 2 * i
 | 0 => ⟨Nat.le_refl _, Nat.le_refl _⟩
 | i + 1 => by
  have h := stAt_l arc b l i
  have h2 := step_l arc b (stAt arc b l i) (l.getD i ptz) (l.getD (i + 1) ptz)
  exact ⟨by show (stepS _ _ _ _ _).l.length ≤ _; omega, by show (stepS _ _ _ _ _).x.path.length ≤ _; omega⟩
theorem PcM.opened {W w9 : World} {g6 g7 g8 gq : Nat} {st : PSt} {L : List (Pc × SV)} {vl : Value} {arc en : Int} {c : Pt} {u0 u1 u2 u3 : Value} (hp : PcsO W g6 vl L) (ho : Blk W g6 43 #[vl]) (h7 : Blk W g7 68 #[u0, u1, u2, u3]) (h8 : Blk W g8 4 #[.bool true]) (he : L.map (·.1) = st.l) (hn : vl.ownBlock ≠ some g7)
  (hB : W.grownBy w9 (some g7)) (b7 : Blk w9 g7 68 #[.int .i64 arc, .slice (some ⟨gq, 0, none⟩) 1 1, .int .i64 en, .int .i64 0]) (bq : Blk w9 gq 28 #[.int .i64 c.x, .int .i64 c.y]) (hq : W.heap.size ≤ gq) (hg : g6 ≤ gq) :
  PcM w9 g6 g6 g7 g8 ⟨true, ⟨arc, [c], en, 0⟩, st.l⟩ L vl (.slice (some ⟨gq, 0, none⟩) 1 1) := by
 have n8 := Blk.ne_ h8 h7 (by decide)
 have n6 := Blk.ne_ ho h7 (by decide)
 refine ⟨h8.grow hB (fun e => n8 (Option.some.inj e)), b7, ho.grow hB (fun e => n6 (Option.some.inj e)), ⟨Own.grown hp.own hB (fun k hk e => hn (by rw [hk, e])), fun x hx => Own.grown (hp.path x hx) hB (fun k hk e => Own.ne_blk (hp.path x hx) h7 (by decide) (by rw [hk, e]))⟩, he, hn, fun _ => ⟨?_, by simp, fun x hx k hk e => ?_⟩⟩
 · refine ⟨rfl, .inr ⟨gq, 1, _, rfl, hg, bq, Nat.le_refl _, by simp [maxLen], rfl, rfl⟩⟩
 ·
  have := ((hp.path x hx).lt k hk).2
  have h2 : k = gq := by simpa [Value.ownBlock] using e
  omega
/-- the piece's path grows by a point -/
theorem PcM.added {W w5 : World} {g6 g7 g8 : Nat} {st : PSt} {L : List (Pc × SV)} {vl vp v5 : Value} {d : Pt} (h : PcM W g6 g6 g7 g8 st L vl vp) (hop : st.open_ = true) (h5 : Own w5 g6 28 2 ptC v5 (st.x.path ++ [d])) {o : Obj} (hg : (W.alloc o).grownBy w5 vp.ownBlock) (hat : v5.ownBlock = vp.ownBlock ∨ v5.ownBlock = some (W.alloc o).heap.size) :
  PcM (w5.setCell ⟨g7, 1, none⟩ v5) g6 g6 g7 g8 ⟨true, ⟨st.x.arc, st.x.path ++ [d], st.x.enter, st.x.leave⟩, st.l⟩ L vl v5 := by
 obtain ⟨p1, p2, p3⟩ := h.path hop
 have e8 := Own.ne_blk p1 h.opn (by decide)
 have e7 := Own.ne_blk p1 h.x (by decide)
 have e6 := Own.ne_blk p1 h.out (by decide)
 have n87 := Blk.ne_ h.opn h.x (by decide)
 have n67 := Blk.ne_ h.out h.x (by decide)
 have x8 := Blk.grown (h.opn.alloc o) hg (fun e => e8 e.symm)
 have x7 := Blk.grown (h.x.alloc o) hg (fun e => e7 e.symm)
 have x6 := Blk.grown (h.out.alloc o) hg (fun e => e6 e.symm)
 have ho := Own.grown (Own.alloc h.pcs.own o) hg (fun k hk => Own.apart h.pcs.own p1 (by decide) k hk)
 have hpt : ∀ x ∈ L, Own w5 g6 28 2 ptC (.slice x.2.a x.2.n x.2.c) x.1.path := fun x hx => Own.grown (Own.alloc (h.pcs.path x hx) o) hg (fun k hk => p3 x hx k hk)
 rw [hop] at x8
 refine ⟨x8.far (p := ⟨g7, 1, none⟩) n87 _, ?_, x6.far (p := ⟨g7, 1, none⟩) n67 _, ⟨ho.far (p := ⟨g7, 1, none⟩) h.n7 _, fun x hx => (hpt x hx).far (p := ⟨g7, 1, none⟩) (Own.ne_blk (hpt x hx) x7 (by decide)) _⟩, h.eq, h.n7, fun _ => ⟨h5.far (p := ⟨g7, 1, none⟩) (Own.ne_blk h5 x7 (by decide)) _, by simp, fun x hx k hk => ?_⟩⟩
 ·
  have := x7.set_ 1 v5
  simpa using this
 ·
  rcases hat with e | e
  · rw [e]; exact p3 x hx k hk
  ·
   rw [e]
   intro h2
   have := ((h.pcs.path x hx).lt k hk).2
   have h3 := Option.some.inj h2
   simp only [World.size_alloc] at h3
   omega
/-- the piece's Leave is set -/
theorem PcM.left_ {W : World} {g6 g7 g8 : Nat} {arc en lv0 lv : Int} {path : List Pt} {l : List Pc} {L : List (Pc × SV)} {vl vp : Value} (h : PcM W g6 g6 g7 g8 ⟨true, ⟨arc, path, en, lv0⟩, l⟩ L vl vp) :
  PcM (W.setCell ⟨g7, 3, none⟩ (.int .i64 lv)) g6 g6 g7 g8 ⟨true, ⟨arc, path, en, lv⟩, l⟩ L vl vp := by
 obtain ⟨p1, p2, p3⟩ := h.path rfl
 have n87 := Blk.ne_ h.opn h.x (by decide)
 have n67 := Blk.ne_ h.out h.x (by decide)
 refine ⟨h.opn.far (p := ⟨g7, 3, none⟩) n87 _, ?_, h.out.far (p := ⟨g7, 3, none⟩) n67 _, ⟨h.pcs.own.far (p := ⟨g7, 3, none⟩) h.n7 _, fun x hx => (h.pcs.path x hx).far (p := ⟨g7, 3, none⟩) (Own.ne_blk (h.pcs.path x hx) h.x (by decide)) _⟩, h.eq, h.n7, fun _ => ⟨p1.far (p := ⟨g7, 3, none⟩) (Own.ne_blk p1 h.x (by decide)) _, p2, p3⟩⟩
 have := h.x.set_ 3 (.int .i64 lv)
 simpa using this
theorem res_cellO {P : Program} {fn : Func} {p : Tmp} {ty t : TypeId} {R : Ending → World → Prop} {a : Act} {w : World} {g : Nat} {v : Value} (h : fn.results = #[.cell p ty])
  (hS : ∀ w, (isAgg ty).run P w = .ok false w) (hp : a.tmps.getD p undef = .pointer (some ⟨g, 0, none⟩)) (hd : a.defers = []) (hb : Blk w g t #[v]) (hR : R (.returned v) w) : bodyPost P fn R .ret a w := by
 refine bodyPost_ret ?_ hd hR
 have hp' : a.tmps[p]?.getD undef = .pointer (some ⟨g, 0, none⟩) := by simpa using hp
 have hc : w.cell? ⟨g, 0, none⟩ = some v := by rw [hb.cell]; rfl
 simp only [results, h]
 simp [hp', asAddr, loadVar, Sem.run_bind, Sem.run_pure, Result.andThen, hS, hc]
theorem isAgg_pcs : ∀ w, (isAgg 43).run Tryz.prog w = .ok false w := fun _ => by kernel_rfl
/-- what 'pieces' returns -/
def RetPcs (w : World) (l : List Pc) (e : Ending) (w' : World) : Prop :=
 ∃ A c L, e = .returned (.slice A L.length c) ∧ Below w.heap.size w w' ∧ L.map (·.1) = l ∧ PcsO w' w.heap.size (.slice A L.length c) L
set_option maxRecDepth 100000 in
set_option maxHeartbeats 16000000 in
theorem pieces_spec (arc : Int) (l : List Pt) (b : Bx) (v : Value) (w : World) (hv : Pts w v l) (hl : ∀ p ∈ l, bdP p) (hx : smB b) (hn : l.length ≤ 1000000000) (hpos : 0 < l.length) :
  Calls Tryz.prog 62 #[.int .i64 arc, v, bxV b] w (RetPcs w (piecesS arc l b)) := by
 obtain ⟨q, hq⟩ : ∃ q, piecesS arc l b = q := ⟨_, rfl⟩
 rw [hq]
 unfold piecesS at hq
 have HQ := Lib.hid hq
 obtain ⟨Av, cv, rfl, hvn, hvc, hR⟩ := hv
 have hcn : cv ≤ 9223372036854775807 := by unfold maxLen at hvc; exact hvc
 have HR := Lib.hid hR
 have HLb := Lib.hid hl; have HX := Lib.hid hx
 obtain ⟨n, hnl⟩ : ∃ n, l.length = n := ⟨_, rfl⟩
 rw [hnl] at hvn hn hpos ⊢
 have HN := Lib.hid hnl
 clear hq hvc hR hl hx hnl
 unfold bxV
 obtain ⟨s0, hs0⟩ : ∃ s0, w.heap.size = s0 := ⟨_, rfl⟩
 obtain ⟨g6, h6⟩ : ∃ g, s0 + 1 = g := ⟨_, rfl⟩
 obtain ⟨g7, h7⟩ : ∃ g, g6 + 1 = g := ⟨_, rfl⟩
 obtain ⟨g8, h8⟩ : ∃ g, g7 + 1 = g := ⟨_, rfl⟩
 obtain ⟨W, hW⟩ : ∃ W : World, W = (((w.alloc (.cells #[.int .i64 b.x0, .int .i64 b.y0, .int .i64 b.x1, .int .i64 b.y1] 40)).alloc (.cells #[.slice none 0 0] 43)).alloc (.cells #[.int .i64 0, .slice none 0 0, .int .i64 0, .int .i64 0] 68)).alloc (.cells #[.bool false] 4) := ⟨_, rfl⟩
 have B0 : Below w.heap.size w W := by rw [hW]; exact bA (bA (bA (bA (bR w) _) _) _) _
 have X5 : Blk W s0 40 #[.int .i64 b.x0, .int .i64 b.y0, .int .i64 b.x1, .int .i64 b.y1] := by rw [hW]; exact (((Blk.made hs0.symm _ _).alloc _).alloc _).alloc _
 have X6 : Blk W g6 43 #[.slice none 0 0] := by rw [hW]; exact ((Blk.made (by simp; omega) _ _).alloc _).alloc _
 have X7 : Blk W g7 68 #[.int .i64 0, .slice none 0 0, .int .i64 0, .int .i64 0] := by rw [hW]; exact (Blk.made (by simp; omega) _ _).alloc _
 have X8 : Blk W g8 4 #[.bool false] := by rw [hW]; exact Blk.made (by simp; omega) _ _
 have hM0 : PcM W g6 g6 g7 g8 (stAt arc b l 0) [] (.slice none 0 0) (.slice none 0 0) :=
  ⟨X8, X7, X6, ⟨Own.nil _ _ _ _ _, fun x hx => by cases hx⟩, rfl, by simp [Value.ownBlock], fun h => by cases h⟩
 have HM0 := Lib.hid hM0; have HX5 := Lib.hid X5; have HB0 := Lib.hid B0
 have hW8 : g8 < W.heap.size := X8.lt
 clear hM0 X5 X6 X7 X8 B0
 go_enter Tryz.func62, Tryz.ntmps62
 go_upto_block 0 with fail
 rw [← hW]
 have HG := Lib.hid (show w.heap.size = s0 ∧ s0 + 1 = g6 ∧ g6 + 1 = g7 ∧ g7 + 1 = g8 from ⟨hs0, h6, h7, h8⟩)
 have q6 : s0 < g6 := by omega
 have q7 : g6 < g7 := by omega
 have q8 : g7 < g8 := by omega
 clear hW hs0 h6 h7 h8
 have hq0 : w.heap.size ≤ g6 := by have := HG.out; omega
 go_wp2_with fail
 go_loopw [10] (fun u wr => ∃ (j : Nat) (L : List (Pc × SV)) (vl vp : Value), j + 1 ≤ n ∧ u = .int .i64 ((j : Int) + 1) ∧ PcM wr g6 g6 g7 g8 (stAt arc b l j) L vl vp ∧ Blk wr s0 40 #[.int .i64 b.x0, .int .i64 b.y0, .int .i64 b.x1, .int .i64 b.y1] ∧ Below g6 W wr) (fun u _ => n + 1 - (intOf u).toNat)
 case atStart => exact ⟨0, [], .slice none 0 0, .slice none 0 0, by omega, rfl, HM0.out, HX5.out, Below.refl _ _⟩
 case round =>
  obtain ⟨j, L, vl, vp, hj, rfl, hM, X5, hb⟩ := hrel
  have hLj : L.length ≤ j := by
   have h1 := (stAt_l arc b l j).1
   rw [← hM.eq, List.length_map] at h1
   exact h1
  have hpj := (stAt_l arc b l j).2
  have Hb := Lib.hid hb
  have HM := Lib.hid hM
  have hszr : g8 < wr.heap.size := hM.opn.lt
  have hw6 : g6 ≤ wr.heap.size := by omega
  have hRr : Row wr Av (l.flatMap ptC) := HR.out.mono (HB0.out.trans (hb.mono hq0))
  have HVp := Lib.hid (fun (e : (stAt arc b l j).open_ = true) k hk => ((hM.path e).1.lt k hk).2)
  clear hM hb
  by_cases hlt : j + 1 < n
  ·
   have hl0 : j < l.length := by rw [HN.out]; omega
   have hl1 : j + 1 < l.length := by rw [HN.out]; omega
   have hst : stAt arc b l (j + 1) = stepS arc b (stAt arc b l j) l[j] l[j + 1] := by
    show stepS arc b (stAt arc b l j) (l.getD j ptz) (l.getD (j + 1) ptz) = _
    rw [show l.getD j ptz = l[j] by simp [List.getD, List.getElem?_eq_getElem hl0], show l.getD (j + 1) ptz = l[j + 1] by simp [List.getD, List.getElem?_eq_getElem hl1]]
   obtain ⟨bq, oq, hA, hlq, a0, a1⟩ := hRr.pt hl0
   obtain ⟨bq', oq', hA', -, b0, b1⟩ := hRr.pt hl1
   obtain ⟨e1, e2⟩ : bq' = bq ∧ oq' = oq := by
    rw [hA] at hA'
    have := Option.some.inj hA'
    exact ⟨(congrArg Addr.block this).symm, (congrArg Addr.off this).symm⟩
   rw [e1, e2] at b0 b1
   clear hA' e1 e2 hRr
   have hP := HLb.out l[j] (List.getElem_mem hl0)
   have hQ := HLb.out l[j + 1] (List.getElem_mem hl1)
   generalize l[j] = p at *
   generalize l[j + 1] = q' at *
   have HSt := Lib.hid hst
   have HClip := Lib.hid (fun W => sClip_spec p q' b W hP hQ HX.out)
   have HThr := Lib.hid (fun W => through_spec p q' b W hP hQ HX.out)
   have HThr2 := Lib.hid (fun W => through_spec q' p b W hQ hP HX.out)
   have HIn := Lib.hid (fun W => gIn_spec b q' W)
   unfold ptV bxV at HClip HThr HThr2 HIn
   have c1 : (j : Int) + 1 < n := by omega
   have c2 : 0 ≤ (j : Int) + 1 := by omega
   have c3 : IntKind.i64.wrap (j : Int) = (j : Int) := IntWalk.i64_in _ (by omega)
   have c4 : (j : Int) < n := by omega
   have c5 : 0 ≤ (j : Int) := by omega
   have HX5r := Lib.hid X5
   subst hA
   clear hst hP hQ X5
   go_upto_region 7 with fail
   go_cut [11, 12] (fun u v wx => ∃ g11 g12 : Nat, u = .pointer (some ⟨g11, 0, none⟩) ∧ v = .pointer (some ⟨g12, 0, none⟩) ∧ wr.heap.size ≤ g11 ∧ wr.heap.size ≤ g12 ∧ Blk wx g11 28 #[.int .i64 p.x, .int .i64 p.y] ∧ Blk wx g12 28 #[.int .i64 q'.x, .int .i64 q'.y] ∧ Below wr.heap.size wr wx)
   case first =>
    refine rg_start (SinceB (wr.heap.size) wr) (.run 9 0 0 (.two 9 1023 (.call 10 2047 (.call 11 4095 (.call 12 8191 (.done)))) 10 1535 (.call 9 2047 (.call 11 4095 (.call 12 8191 (.done)))))) (by kernel_rfl) (Below.drew (Below.refl _ _)) (by kernel_rfl) (by kernel_rfl) (Nat.le_of_ble_eq_true (by kernel_rfl)) ?_
    intro opsR QR Hops HQrg hS
    iterate 9
     apply rg_pB; exact Hops; exact rfl; exact hS; exact rfl
     · intro _ hqc; go_simp; try rfl
     try simp only [pu]
    refine rg_two (i := 9) (j := 10) (get_of Hops rfl) (get_of Hops rfl) (fun K hK => ?_) (fun K hK => ?_)
    -- operation 9 first
    ·
     have HSrg := Lib.hid hS; clear hS
     refine rg_run (wanted_plain rfl) ?_
     go_simp
     refine hK.out _ _ (bAB (by omega) HSrg.out _) (fun hS => ?_)
     clear hK K HSrg
     try simp only [pu]
     refine rg_call (i := 10) (get_of Hops rfl) (fun K hK => ?_)
     have HSrg := Lib.hid hS; clear hS
     refine rg_run (wanted_plain rfl) ?_
     go_simp
     refine hK.out _ _ (bAB (by omega) HSrg.out _) (fun hS => ?_)
     clear hK K HSrg
     try simp only [pu]
     refine rg_call (i := 11) (get_of Hops rfl) (fun K hK => ?_)
     have HSrg := Lib.hid hS; clear hS
     refine rg_run (wanted_plain rfl) ?_
     go_simp
     refine hK.out _ _ (by unfold SinceB; have h : Below _ _ _ := HSrg.out; repeat (first | with_reducible assumption | with_reducible exact Below.refl _ _ | with_reducible refine bSB ?_ (by first | omega | (simp; omega)) _ | with_reducible refine Below.drew ?_ | with_reducible refine bAB (by omega) ?_ _ | exact h)) ?_
     intro hS
     clear hK K HSrg
     try simp only [pu]
     refine rg_call (i := 12) (get_of Hops rfl) (fun K hK => ?_)
     have HSrg := Lib.hid hS; clear hS
     refine rg_run (wanted_plain rfl) ?_
     go_simp
     refine hK.out _ _ (by unfold SinceB; have h : Below _ _ _ := HSrg.out; repeat (first | with_reducible assumption | with_reducible exact Below.refl _ _ | with_reducible refine bSB ?_ (by first | omega | (simp; omega)) _ | with_reducible refine Below.drew ?_ | with_reducible refine bAB (by omega) ?_ _ | exact h)) ?_
     intro hS
     clear hK K HSrg
     try simp only [pu]
     refine rg_done ?_
     refine HQrg.down _ _ ?_
     have hB : Below (wr.heap.size) wr _ := hS
     clear hS HQrg Hops
     go_wp2_with fail
     go_meet
     case rel => first | exact ⟨_, _, rfl, rfl, by omega, by omega, (((Blk.made rfl _ _).alloc _)).drew, (Blk.made (by simp) _ _).drew, hB⟩ | exact ⟨_, _, rfl, rfl, by omega, by omega, (Blk.made (by simp) _ _).drew, (((Blk.made rfl _ _).alloc _)).drew, hB⟩
    -- operation 10 first
    ·
     have HSrg := Lib.hid hS; clear hS
     refine rg_run (wanted_plain rfl) ?_
     go_simp
     refine hK.out _ _ (bAB (by omega) HSrg.out _) (fun hS => ?_)
     clear hK K HSrg
     try simp only [pu]
     refine rg_call (i := 9) (get_of Hops rfl) (fun K hK => ?_)
     have HSrg := Lib.hid hS; clear hS
     refine rg_run (wanted_plain rfl) ?_
     go_simp
     refine hK.out _ _ (bAB (by omega) HSrg.out _) (fun hS => ?_)
     clear hK K HSrg
     try simp only [pu]
     refine rg_call (i := 11) (get_of Hops rfl) (fun K hK => ?_)
     have HSrg := Lib.hid hS; clear hS
     refine rg_run (wanted_plain rfl) ?_
     go_simp
     refine hK.out _ _ (by unfold SinceB; have h : Below _ _ _ := HSrg.out; repeat (first | with_reducible assumption | with_reducible exact Below.refl _ _ | with_reducible refine bSB ?_ (by first | omega | (simp; omega)) _ | with_reducible refine Below.drew ?_ | with_reducible refine bAB (by omega) ?_ _ | exact h)) ?_
     intro hS
     clear hK K HSrg
     try simp only [pu]
     refine rg_call (i := 12) (get_of Hops rfl) (fun K hK => ?_)
     have HSrg := Lib.hid hS; clear hS
     refine rg_run (wanted_plain rfl) ?_
     go_simp
     refine hK.out _ _ (by unfold SinceB; have h : Below _ _ _ := HSrg.out; repeat (first | with_reducible assumption | with_reducible exact Below.refl _ _ | with_reducible refine bSB ?_ (by first | omega | (simp; omega)) _ | with_reducible refine Below.drew ?_ | with_reducible refine bAB (by omega) ?_ _ | exact h)) ?_
     intro hS
     clear hK K HSrg
     try simp only [pu]
     refine rg_done ?_
     refine HQrg.down _ _ ?_
     have hB : Below (wr.heap.size) wr _ := hS
     clear hS HQrg Hops
     go_wp2_with fail
     go_meet
     case rel => first | exact ⟨_, _, rfl, rfl, by omega, by omega, (((Blk.made rfl _ _).alloc _)).drew, (Blk.made (by simp) _ _).drew, hB⟩ | exact ⟨_, _, rfl, rfl, by omega, by omega, (Blk.made (by simp) _ _).drew, (((Blk.made rfl _ _).alloc _)).drew, hB⟩
   case rest =>
   obtain ⟨g11, g12, rfl, rfl, l11, l12, Y11, Y12, hb12⟩ := hcut
   clear a0 a1 b0 b1 c3 c4 c5 c2
   have HM1 := Lib.hid (HM.out.keep hb12)
   have HX51 := Lib.hid (HX5r.out.keep hb12)
   have HB1 := Lib.hid (Hb.out.trans (hb12.mono hw6))
   have HY11 := Lib.hid Y11; have HY12 := Lib.hid Y12
   have hz1 := hb12.size
   have X51 := HX51.out
   clear hb12 HX5r HM Hb
   obtain ⟨Y11l, Y11a, Y11b, -, -⟩ := Y11.facts2
   obtain ⟨Y12l, Y12a, Y12b, -, -⟩ := Y12.facts2
   obtain ⟨X51l, X51a, X51b, X51c, X51d, -, -, -, -⟩ := X51.facts4
   go_wp2_with fail
   refine (HClip.out _).mono ?_
   rintro e w3 ⟨rfl, hb3⟩
   have HM3 := Lib.hid (HM1.out.keep hb3)
   have HX53 := Lib.hid (HX51.out.keep hb3)
   have HB3 := Lib.hid (HB1.out.trans (hb3.mono (by omega)))
   have HY113 := Lib.hid (HY11.out.keep hb3); have HY123 := Lib.hid (HY12.out.keep hb3)
   have hz3 := hb3.size
   clear hb3 Y11 Y12 X51 Y11l Y11a Y11b Y12l Y12a Y12b X51l X51a X51b X51c X51d HM1 HX51 HB1 HY11 HY12 HClip
   obtain ⟨r, hr⟩ : ∃ r, clipS p q' b = r := ⟨_, rfl⟩
   rw [hr]
   have HRc := Lib.hid hr
   clear hr
   rcases r with _ | ⟨c, d⟩
   ·
    have HSt1 := Lib.hid (show stAt arc b l (j + 1) = endS (stAt arc b l j) by rw [HSt.out]; unfold stepS; rw [HRc.out])
    have HEnd := Lib.hid (fun (W : World) h hB => end_spec g6 g6 g7 g8 (stAt arc b l j) L vl vp W h hB (Nat.le_refl _) (by omega) (by omega) (by omega))
    unfold clR
    go_wp2_with fail
    refine (HEnd.out _ ((HM3.out.keep (bA (bA (bR _) _) _))) (by simp; omega)).mono ?_
    rintro e w4 ⟨rfl, ⟨L', vl', vp', hM'⟩, hb4⟩
    have HM' := Lib.hid hM'
    have HB4 := Lib.hid ((((HB3.out.alloc (by omega) _).alloc (by simp; omega) _)).trans hb4)
    have HX54 := Lib.hid (((HX53.out.alloc _).alloc _).below hb4 q6)
    clear hM' hb4
    go_wp2_with fail
    go_roundw
    case rel => exact ⟨j + 1, L', vl', vp', by omega, by go_num, by rw [HSt1.out]; exact HM'.out, HX54.out, HB4.out⟩
    case measure => simp [intOf]; omega
   ·
    unfold clR ptV
    have X8 := HM3.out.opn
    obtain ⟨st, hst⟩ : ∃ st, stAt arc b l j = st := ⟨_, rfl⟩
    rw [hst] at HM3 HSt hpj X8 HVp
    clear hst
    obtain ⟨op, hop⟩ : ∃ op, st.open_ = op := ⟨_, rfl⟩
    rw [hop] at X8
    have HOp := Lib.hid hop
    clear hop
    have l8 := X8.lt; have l7 := HM3.out.x.lt; have lt11 := HY113.out.lt; have lt12 := HY123.out.lt
    obtain ⟨X8l, X8a, X8fa⟩ := X8.facts1
    go_upto_if 45 with fail
    obtain ⟨W4, hW4⟩ : ∃ W4 : World, W4 = (w3.alloc (.cells #[.int .i64 c.x, .int .i64 c.y] 28)).alloc (.cells #[.int .i64 d.x, .int .i64 d.y] 28) := ⟨_, rfl⟩
    have hA4 : Below w3.heap.size w3 W4 := by rw [hW4]; exact bA (bA (bR _) _) _
    have X13 : Blk W4 w3.heap.size 28 #[.int .i64 c.x, .int .i64 c.y] := by rw [hW4]; exact (Blk.made rfl _ _).alloc _
    have X14 : Blk W4 (w3.heap.size + 1) 28 #[.int .i64 d.x, .int .i64 d.y] := by rw [hW4]; exact Blk.made (by simp) _ _
    rw [← hW4]
    clear hW4 X8 X8l X8a X8fa
    have HM4 := Lib.hid (HM3.out.keep hA4); have HX54 := Lib.hid (HX53.out.keep hA4)
    have HY4 := Lib.hid (show Blk W4 g11 28 #[.int .i64 p.x, .int .i64 p.y] ∧ Blk W4 g12 28 #[.int .i64 q'.x, .int .i64 q'.y] from ⟨HY113.out.keep hA4, HY123.out.keep hA4⟩)
    have HB4 := Lib.hid (HB3.out.trans (hA4.mono (by omega)))
    have hz4 := hA4.size
    obtain ⟨g13, hg13⟩ : ∃ g, w3.heap.size = g := ⟨_, rfl⟩
    obtain ⟨g14, hg14⟩ : ∃ g, g13 + 1 = g := ⟨_, rfl⟩
    rw [hg13] at X13 X14 hz4 hz3 l8 l7 lt11 lt12
    rw [hg14] at X14
    have HX13 := Lib.hid X13; have HX14 := Lib.hid X14
    have l14 := X14.lt
    try simp only [hg13, hg14]
    have k14 : g13 < g14 := by omega
    clear hg13 hg14 hA4 HM3 HX53 HB3 HY113 HY123 X13 X14
    have HOl := Lib.hid (open_l arc b st p q' c)
    obtain ⟨co, hco⟩ : ∃ co, clOpen arc b st p q' c = co := ⟨_, rfl⟩
    rw [hco] at HOl
    have HCo := Lib.hid hco
    clear hco
    go_cut [] (fun wx => (∃ vp2, PcM wx g6 g6 g7 g8 co L vl vp2 ∧ vp2.ownBlock ≠ some g11 ∧ vp2.ownBlock ≠ some g12 ∧ vp2.ownBlock ≠ some g14) ∧ Blk wx s0 40 #[.int .i64 b.x0, .int .i64 b.y0, .int .i64 b.x1, .int .i64 b.y1] ∧ Blk wx g11 28 #[.int .i64 p.x, .int .i64 p.y] ∧ Blk wx g12 28 #[.int .i64 q'.x, .int .i64 q'.y] ∧ Blk wx g14 28 #[.int .i64 d.x, .int .i64 d.y] ∧ Below g6 W wx)
    case first =>
     cases op
     ·
      have HCo2 := Lib.hid (show co = ⟨true, ⟨arc, [c], throughS p q' b, 0⟩, st.l⟩ by rw [← HCo.out]; unfold clOpen; rw [if_neg (by rw [HOp.out]; simp)])
      have X8 := HM4.out.opn
      rw [HOp.out] at X8
      try clear X8l
      try clear X8a
      try clear X8fa
      obtain ⟨X8l, X8a, X8fa⟩ := X8.facts1
      generalize throughS p q' b = en at *
      go_upto_region 13 with fail
      obtain ⟨W5, hW5⟩ : ∃ W5 : World, W5 = W4.setCell ⟨g8, 0, none⟩ (.bool true) := ⟨_, rfl⟩
      rw [← hW5]
      have P5 := Lib.hid (show PcsO W5 g6 vl L by rw [hW5]; exact HM4.out.pcs.far HM4.out.opn (by decide) (by decide) 0 _)
      have Z6 := Lib.hid (show Blk W5 g6 43 #[vl] by rw [hW5]; exact HM4.out.out.far (by first | omega | (simp; done) | (simp; omega)) _)
      have X7 : Blk W5 g7 68 #[.int .i64 st.x.arc, vp, .int .i64 st.x.enter, .int .i64 st.x.leave] := by rw [hW5]; exact HM4.out.x.far (by first | omega | (simp; done) | (simp; omega)) _
      have Z7 := Lib.hid X7
      have Z8 := Lib.hid (show Blk W5 g8 4 #[.bool true] by rw [hW5]; exact X8.put1)
      have X5 : Blk W5 s0 40 #[.int .i64 b.x0, .int .i64 b.y0, .int .i64 b.x1, .int .i64 b.y1] := by rw [hW5]; exact HX54.out.far (by first | omega | (simp; done) | (simp; omega)) _
      have X11 : Blk W5 g11 28 #[.int .i64 p.x, .int .i64 p.y] := by rw [hW5]; exact HY4.out.1.far (by first | omega | (simp; done) | (simp; omega)) _
      have X12 : Blk W5 g12 28 #[.int .i64 q'.x, .int .i64 q'.y] := by rw [hW5]; exact HY4.out.2.far (by first | omega | (simp; done) | (simp; omega)) _
      have X13 : Blk W5 g13 28 #[.int .i64 c.x, .int .i64 c.y] := by rw [hW5]; exact HX13.out.far (by first | omega | (simp; done) | (simp; omega)) _
      have Z14 := Lib.hid (show Blk W5 g14 28 #[.int .i64 d.x, .int .i64 d.y] by rw [hW5]; exact HX14.out.far (by first | omega | (simp; done) | (simp; omega)) _)
      have B5 := Lib.hid (show Below g6 W W5 by rw [hW5]; exact HB4.out.setCell (p := ⟨g8, 0, none⟩) (by simp; omega) _)
      have hs5 : W4.heap.size ≤ W5.heap.size := by rw [hW5]; simp
      have ZZ := Lib.hid (show Blk W5 s0 40 #[.int .i64 b.x0, .int .i64 b.y0, .int .i64 b.x1, .int .i64 b.y1] ∧ Blk W5 g11 28 #[.int .i64 p.x, .int .i64 p.y] ∧ Blk W5 g12 28 #[.int .i64 q'.x, .int .i64 q'.y] from ⟨X5, X11, X12⟩)
      have n57 : s0 ≠ g7 := by omega
      have n117 : g11 ≠ g7 := by omega
      have n127 : g12 ≠ g7 := by omega
      have n137 : g13 ≠ g7 := by omega
      have n147 : g14 ≠ g7 := by omega
      clear hW5 X8 X8l X8a X8fa
      obtain ⟨X5l, X5a, X5b, X5c, X5d, -, -, -, -⟩ := X5.facts4
      obtain ⟨X11l, X11a, X11b, -, -⟩ := X11.facts2
      obtain ⟨X12l, X12a, X12b, -, -⟩ := X12.facts2
      obtain ⟨X13l, X13a, X13b, -, -⟩ := X13.facts2
      clear X5 X11 X12 X13
      refine rg_start (SinceX W5 (some g7)) (.take 0 1 (.take 1 3 (.run 3 3 3 (.two 2 63 (.call 6 127 (.take 7 255 (.call 8 511 (.done)))) 6 123 (.call 2 127 (.take 7 255 (.call 8 511 (.done)))))))) (by kernel_rfl) (gD (gR _ _)) (by kernel_rfl) (by kernel_rfl) (Nat.le_of_ble_eq_true (by kernel_rfl)) ?_
      intro opsR QR Hops HQrg hS
      replace X7 := X7.drew
      iterate 5
       apply rg_pX; exact Hops; exact rfl; exact hS; exact rfl
       · intro _ hqc; go_simp; try rfl
       try simp only [pu]
      refine rg_two (i := 2) (j := 6) (get_of Hops rfl) (get_of Hops rfl) (fun K hK => ?_) (fun K hK => ?_)
      -- operation 2 first
      ·
       have HSrg := Lib.hid hS; clear hS
       refine rg_run (wanted_plain rfl) ?_
       go_simp
       have XQz : (W5).heap.size ≤ (W5.drew).heap.size := (show World.grownBy W5 (W5.drew) (some g7) from HSrg.out).size
       refine hK.out _ _ (gA HSrg.out _) (fun hS => ?_)
       clear hK K HSrg
       try replace X7 := X7.alloc (.cells #[.int .i64 c.x, .int .i64 c.y] 28)
       try replace XQ := XQ.alloc (.cells #[.int .i64 c.x, .int .i64 c.y] 28)
       have XQ := Blk.new (W5.drew) 28 #[.int .i64 c.x, .int .i64 c.y]
       try simp only [World.size_drew] at XQ XQz
       try simp only [World.alloc_drew] at X7
       try simp only [World.alloc_drew] at XQ
       try simp only [pu]
       refine rg_call (i := 6) (get_of Hops rfl) (fun K hK => ?_)
       have HSrg := Lib.hid hS; clear hS
       refine rg_run (wanted_plain rfl) ?_
       go_simp
       refine (HThr.out _).mono ?_
       rintro e wr1 ⟨rfl, hbr1⟩
       have hS : SinceX W5 (some g7) wr1 := gB (w0 := W5) HSrg.out hbr1
       clear HSrg
       try replace XQ := XQ.keep hbr1
       try replace X7 := X7.keep hbr1
       refine hK.out _ _ hS (fun _ => ?_)
       clear hK K
       try simp only [pu]
       apply rg_pX; exact Hops; exact rfl; exact hS; exact rfl
       · intro _ hqc; go_simp; try rfl
       try simp only [pu]
       refine rg_call (i := 8) (get_of Hops rfl) (fun K hK => ?_)
       have HSrg := Lib.hid hS; clear hS
       refine rg_run (wanted_plain rfl) ?_
       obtain ⟨X7l, X7a, X7b, X7c, X7d, X7fa, X7fb, X7fc, X7fd⟩ := X7.facts4
       go_simp
       refine hK.out _ _ (by first | exact gS HSrg.out _ _ | (unfold SinceX; have hS9 : World.grownBy _ _ _ := HSrg.out; repeat (first | with_reducible assumption | with_reducible exact World.grownBy.refl _ _ | with_reducible refine gS ?_ _ _ | with_reducible refine gD ?_ | with_reducible refine gA ?_ _))) (fun hS => ?_)
       clear hK K HSrg
       try simp only [pu]
       refine rg_done ?_
       refine HQrg.down _ _ ?_
       have hB : W5.grownBy _ (some g7) := hS
       clear hS HQrg Hops
       go_wp2_with fail
       go_meet
       case rel => (have hm := PcM.opened P5.out Z6.out Z7.out Z8.out HM4.out.eq HM4.out.n7 hB X7.put4 ((((XQ.far (by first | omega | (simp; done) | (simp; omega)) _).far (by first | omega | (simp; done) | (simp; omega)) _).far (by first | omega | (simp; done) | (simp; omega)) _).far (by first | omega | (simp; done) | (simp; omega)) _) (by omega) (by omega); rw [HCo2.out]; exact ⟨⟨_, hm, by simp [Value.ownBlock]; omega, by simp [Value.ownBlock]; omega, by simp [Value.ownBlock]; omega⟩, ZZ.out.1.grow hB (fun e => n57 (Option.some.inj e)), ZZ.out.2.1.grow hB (fun e => n117 (Option.some.inj e)), ZZ.out.2.2.grow hB (fun e => n127 (Option.some.inj e)), Z14.out.grow hB (fun e => n147 (Option.some.inj e)), B5.out.grown hB (by omega) (fun k hk => by have := Option.some.inj hk; omega)⟩)
      -- operation 6 first
      ·
       have HSrg := Lib.hid hS; clear hS
       refine rg_run (wanted_plain rfl) ?_
       go_simp
       refine (HThr.out _).mono ?_
       rintro e wr1 ⟨rfl, hbr1⟩
       have hS : SinceX W5 (some g7) wr1 := gB (w0 := W5) HSrg.out hbr1
       clear HSrg
       try replace XQ := XQ.keep hbr1
       try replace X7 := X7.keep hbr1
       refine hK.out _ _ hS (fun _ => ?_)
       clear hK K
       try simp only [pu]
       refine rg_call (i := 2) (get_of Hops rfl) (fun K hK => ?_)
       have HSrg := Lib.hid hS; clear hS
       refine rg_run (wanted_plain rfl) ?_
       go_simp
       have XQz : (W5).heap.size ≤ (wr1).heap.size := (show World.grownBy W5 (wr1) (some g7) from HSrg.out).size
       refine hK.out _ _ (gA HSrg.out _) (fun hS => ?_)
       clear hK K HSrg
       try replace X7 := X7.alloc (.cells #[.int .i64 c.x, .int .i64 c.y] 28)
       try replace XQ := XQ.alloc (.cells #[.int .i64 c.x, .int .i64 c.y] 28)
       have XQ := Blk.new (wr1) 28 #[.int .i64 c.x, .int .i64 c.y]
       try simp only [World.size_drew] at XQ XQz
       try simp only [World.alloc_drew] at X7
       try simp only [World.alloc_drew] at XQ
       try simp only [pu]
       apply rg_pX; exact Hops; exact rfl; exact hS; exact rfl
       · intro _ hqc; go_simp; try rfl
       try simp only [pu]
       refine rg_call (i := 8) (get_of Hops rfl) (fun K hK => ?_)
       have HSrg := Lib.hid hS; clear hS
       refine rg_run (wanted_plain rfl) ?_
       obtain ⟨X7l, X7a, X7b, X7c, X7d, X7fa, X7fb, X7fc, X7fd⟩ := X7.facts4
       go_simp
       refine hK.out _ _ (by first | exact gS HSrg.out _ _ | (unfold SinceX; have hS9 : World.grownBy _ _ _ := HSrg.out; repeat (first | with_reducible assumption | with_reducible exact World.grownBy.refl _ _ | with_reducible refine gS ?_ _ _ | with_reducible refine gD ?_ | with_reducible refine gA ?_ _))) (fun hS => ?_)
       clear hK K HSrg
       try simp only [pu]
       refine rg_done ?_
       refine HQrg.down _ _ ?_
       have hB : W5.grownBy _ (some g7) := hS
       clear hS HQrg Hops
       go_wp2_with fail
       go_meet
       case rel => (have hm := PcM.opened P5.out Z6.out Z7.out Z8.out HM4.out.eq HM4.out.n7 hB X7.put4 ((((XQ.far (by first | omega | (simp; done) | (simp; omega)) _).far (by first | omega | (simp; done) | (simp; omega)) _).far (by first | omega | (simp; done) | (simp; omega)) _).far (by first | omega | (simp; done) | (simp; omega)) _) (by omega) (by omega); rw [HCo2.out]; exact ⟨⟨_, hm, by simp [Value.ownBlock]; omega, by simp [Value.ownBlock]; omega, by simp [Value.ownBlock]; omega⟩, ZZ.out.1.grow hB (fun e => n57 (Option.some.inj e)), ZZ.out.2.1.grow hB (fun e => n117 (Option.some.inj e)), ZZ.out.2.2.grow hB (fun e => n127 (Option.some.inj e)), Z14.out.grow hB (fun e => n147 (Option.some.inj e)), B5.out.grown hB (by omega) (fun k hk => by have := Option.some.inj hk; omega)⟩)
     ·
      have hco2 : co = st := by rw [← HCo.out]; unfold clOpen; rw [if_pos HOp.out]
      have HCo2 := Lib.hid hco2
      clear hco2
      go_wp2_with fail
      go_meet
      case rel =>
       obtain ⟨p1, -, -⟩ := HM4.out.path HOp.out
       have hlt2 := HVp.out HOp.out
       rw [HCo2.out]
       refine ⟨⟨vp, HM4.out, fun e => ?_, fun e => ?_, fun e => ?_⟩, HX54.out, HY4.out.1, HY4.out.2, HX14.out, HB4.out⟩
       all_goals
        have := hlt2 _ e
        omega
    case rest =>
     obtain ⟨⟨vp2, hM, ne11, ne12, ne14⟩, x5, x11, x12, x14, hb5⟩ := hcut
     obtain ⟨o1, o2, o3⟩ := HOl.out
     have HMc := Lib.hid hM; have HXc := Lib.hid (show Blk wc s0 40 #[.int .i64 b.x0, .int .i64 b.y0, .int .i64 b.x1, .int .i64 b.y1] ∧ Blk wc g11 28 #[.int .i64 p.x, .int .i64 p.y] ∧ Blk wc g12 28 #[.int .i64 q'.x, .int .i64 q'.y] from ⟨x5, x11, x12⟩)
     have HNe := Lib.hid (show vp2.ownBlock ≠ some g11 ∧ vp2.ownBlock ≠ some g12 from ⟨ne11, ne12⟩)
     have HB5 := Lib.hid hb5
     have X7 := hM.x; have X14 := x14
     obtain ⟨hown, -, -⟩ := hM.path o3
     obtain ⟨A2, c2, rfl, -, -⟩ := Own.shape_ hown
     have HOwn := Lib.hid hown
     have hn2 : co.x.path.length ≤ 2 * j + 1 := by omega
     have ho3 := Lib.hid o3
     have HOl1 := Lib.hid o1
     have hcz : g6 ≤ wc.heap.size := by have := hM.out.lt; omega
     clear hM x5 x11 x12 x14 hb5 hown o1 o2 o3 HM4 HX54 HY4 HX13 HX14 HB4 ne11 ne12 ne14
     try clear X7l
     try clear X7a
     try clear X7b
     try clear X7c
     try clear X7d
     try clear X7fa
     try clear X7fb
     try clear X7fc
     try clear X7fd
     obtain ⟨X7l, X7a, X7b, X7c, X7d, X7fa, X7fb, X7fc, X7fd⟩ := X7.facts4
     obtain ⟨X14l, X14a, X14b, -, -⟩ := X14.facts2
     go_upto_region 15 with
      (at_builtin
       refine wpList_appl _ rfl (.tmp 55) (.tmp 57) _ rfl (base := g6) elem_pt ptC_len ptC_one rfl (Own.alloc HOwn.out _) rfl (l2 := [d]) (Pts.one (x := d) (Blk.made rfl _ _)) (by simp only [List.length_cons, List.length_nil]; omega) (by simp only [List.length_cons, List.length_nil]; omega) (by simp; omega) ?_
       intro v5 w5 ho5 hg5 hat5
       obtain ⟨A5, c5, hv5, -⟩ := Own.shape_ ho5
       rw [show (co.x.path ++ [d]).length = co.x.path.length + 1 by simp] at hv5
       subst hv5
       have Z7 := Blk.grown (HMc.out.x.alloc _) hg5 (fun e => Own.ne_blk (HMc.out.path ho3.out).1 HMc.out.x (by decide) e.symm)
       have HMA := Lib.hid (HMc.out.added ho3.out ho5 hg5 hat5)
       have HXA := Lib.hid (show Blk w5 s0 40 #[.int .i64 b.x0, .int .i64 b.y0, .int .i64 b.x1, .int .i64 b.y1] ∧ Blk w5 g11 28 #[.int .i64 p.x, .int .i64 p.y] ∧ Blk w5 g12 28 #[.int .i64 q'.x, .int .i64 q'.y] from
        ⟨Blk.grown (HXc.out.1.alloc _) hg5 (fun e => Own.ne_blk HOwn.out HXc.out.1 (by decide) e.symm), Blk.grown (HXc.out.2.1.alloc _) hg5 (fun e => HNe.out.1 e.symm), Blk.grown (HXc.out.2.2.alloc _) hg5 (fun e => HNe.out.2 e.symm)⟩)
       have HBA := Lib.hid (Below.grown (HB5.out.alloc hcz _) hg5 (by simp; omega) (fun k hk => (HOwn.out.lt k hk).1))
       have hsA := hg5.size
       simp only [World.size_alloc] at hsA
       clear ho5 hg5 hat5
       obtain ⟨Z7l, Z7a, Z7b, Z7c, Z7d, Z7fa, Z7fb, Z7fc, Z7fd⟩ := Z7.facts4
       )
     obtain ⟨w6, hw6⟩ : ∃ w6, w6 = w5.setCell ⟨g7, 1, none⟩ (.slice A5 (co.x.path.length + 1) c5) := ⟨_, rfl⟩
     rw [← hw6]
     have HM6 := Lib.hid (show PcM w6 g6 g6 g7 g8 ⟨true, ⟨co.x.arc, co.x.path ++ [d], co.x.enter, co.x.leave⟩, co.l⟩ L vl (.slice A5 (co.x.path.length + 1) c5) by rw [hw6]; exact HMA.out)
     have n7 : s0 ≠ g7 ∧ g11 ≠ g7 ∧ g12 ≠ g7 := by omega
     have X5 : Blk w6 s0 40 #[.int .i64 b.x0, .int .i64 b.y0, .int .i64 b.x1, .int .i64 b.y1] := by rw [hw6]; exact HXA.out.1.far n7.1 _
     have X11 : Blk w6 g11 28 #[.int .i64 p.x, .int .i64 p.y] := by rw [hw6]; exact HXA.out.2.1.far n7.2.1 _
     have X12 : Blk w6 g12 28 #[.int .i64 q'.x, .int .i64 q'.y] := by rw [hw6]; exact HXA.out.2.2.far n7.2.2 _
     have HB6 := Lib.hid (show Below g6 W w6 by rw [hw6]; exact HBA.out.setCell (p := ⟨g7, 1, none⟩) (by simp; omega) _)
     have hs6 : wc.heap.size + 1 ≤ w6.heap.size := by rw [hw6]; simpa using hsA
     clear hw6 HMA HXA HBA HMc HXc HB5 X7 X7l X7a X7b X7c X7d X7fa X7fb X7fc X7fd X14 X14l X14a X14b Z7 Z7l Z7a Z7b Z7c Z7d Z7fa Z7fb Z7fc Z7fd
     have HXX := Lib.hid (show Blk w6 s0 40 #[.int .i64 b.x0, .int .i64 b.y0, .int .i64 b.x1, .int .i64 b.y1] ∧ Blk w6 g11 28 #[.int .i64 p.x, .int .i64 p.y] ∧ Blk w6 g12 28 #[.int .i64 q'.x, .int .i64 q'.y] from ⟨X5, X11, X12⟩)
     try clear X5l
     try clear X5a
     try clear X5b
     try clear X5c
     try clear X5d
     obtain ⟨X5l, X5a, X5b, X5c, X5d, -, -, -, -⟩ := X5.facts4
     try clear X11l
     try clear X11a
     try clear X11b
     obtain ⟨X11l, X11a, X11b, -, -⟩ := X11.facts2
     try clear X12l
     try clear X12a
     try clear X12b
     obtain ⟨X12l, X12a, X12b, -, -⟩ := X12.facts2
     go_wp2_with fail
     refine (HThr2.out _).mono ?_
     rintro e w7 ⟨rfl, hb7⟩
     have HM7 := Lib.hid (HM6.out.keep hb7)
     have HXX7 := Lib.hid (show Blk w7 s0 40 #[.int .i64 b.x0, .int .i64 b.y0, .int .i64 b.x1, .int .i64 b.y1] ∧ Blk w7 g12 28 #[.int .i64 q'.x, .int .i64 q'.y] from ⟨HXX.out.1.keep hb7, HXX.out.2.2.keep hb7⟩)
     have HB7 := Lib.hid (HB6.out.trans (hb7.mono (by omega)))
     have hs7 := hb7.size
     clear hb7 HM6 HXX HB6 X5 X5l X5a X5b X5c X5d X11 X11l X11a X11b X12 X12l X12a X12b HThr2 HThr
     have X7 := HM7.out.x
     simp only at X7
     try clear X7l
     try clear X7a
     try clear X7b
     try clear X7c
     try clear X7d
     try clear X7fa
     try clear X7fb
     try clear X7fc
     try clear X7fd
     obtain ⟨X7l, X7a, X7b, X7c, X7d, X7fa, X7fb, X7fc, X7fd⟩ := X7.facts4
     generalize hlv : throughS q' p b = lv at *
     obtain ⟨z, hz⟩ : ∃ z, inB b q' = z := ⟨_, rfl⟩
     rw [hz] at HIn
     have HZ := Lib.hid hz; have HLv := Lib.hid hlv
     clear hz hlv
     go_upto_region 16 with fail
     obtain ⟨w8, hw8⟩ : ∃ w8, w8 = w7.setCell ⟨g7, 3, none⟩ (.int .i64 lv) := ⟨_, rfl⟩
     rw [← hw8]
     have hst2 : clAdd arc b st p q' c d = ⟨true, ⟨co.x.arc, co.x.path ++ [d], co.x.enter, lv⟩, co.l⟩ := by rw [clAdd_eq, HCo.out, HLv.out]
     obtain ⟨st2, hs2⟩ : ∃ st2, clAdd arc b st p q' c d = st2 := ⟨_, rfl⟩
     rw [hs2] at hst2
     have HM8 := Lib.hid (show PcM w8 g6 g6 g7 g8 st2 L vl (.slice A5 (co.x.path.length + 1) c5) by rw [hw8, hst2]; exact HM7.out.left_)
     have X5 : Blk w8 s0 40 #[.int .i64 b.x0, .int .i64 b.y0, .int .i64 b.x1, .int .i64 b.y1] := by rw [hw8]; exact HXX7.out.1.far n7.1 _
     have X12 : Blk w8 g12 28 #[.int .i64 q'.x, .int .i64 q'.y] := by rw [hw8]; exact HXX7.out.2.far n7.2.2 _
     have HX8 := Lib.hid X5
     have HB8 := Lib.hid (show Below g6 W w8 by rw [hw8]; exact HB7.out.setCell (p := ⟨g7, 3, none⟩) (by simp; omega) _)
     have hs8 : w7.heap.size ≤ w8.heap.size := by rw [hw8]; simp
     have HS2 := Lib.hid hs2
     clear hw8 hst2 hs2 HM7 HXX7 HB7 X7 X7l X7a X7b X7c X7d X7fa X7fb X7fc X7fd
     try clear X5l
     try clear X5a
     try clear X5b
     try clear X5c
     try clear X5d
     obtain ⟨X5l, X5a, X5b, X5c, X5d, -, -, -, -⟩ := X5.facts4
     try clear X12l
     try clear X12a
     try clear X12b
     obtain ⟨X12l, X12a, X12b, -, -⟩ := X12.facts2
     go_wp2_with fail
     refine (HIn.out _).mono ?_
     rintro e w9 ⟨rfl, hb9⟩
     have HM9 := Lib.hid (HM8.out.keep hb9)
     have HX9 := Lib.hid (HX8.out.keep hb9)
     have HB9 := Lib.hid (HB8.out.trans (hb9.mono (by omega)))
     have hs9 := hb9.size
     clear hb9 HM8 HX8 HB8 X5 X5l X5a X5b X5c X5d X12 X12l X12a X12b HIn
     cases z
     ·
      have HStn := Lib.hid (show stAt arc b l (j + 1) = endS st2 by rw [HSt.out]; unfold stepS; rw [HRc.out]; simp only; rw [if_neg (by rw [HZ.out]; simp), HS2.out])
      have HEnd := Lib.hid (fun (W : World) h hB => end_spec g6 g6 g7 g8 st2 L vl (.slice A5 (co.x.path.length + 1) c5) W h hB (Nat.le_refl _) (by omega) (by omega) (by omega))
      go_wp2_with fail
      refine (HEnd.out _ HM9.out (by omega)).mono ?_
      rintro e w10 ⟨rfl, ⟨L', vl', vp', hM'⟩, hb10⟩
      have HM' := Lib.hid hM'
      have HB10 := Lib.hid (HB9.out.trans hb10)
      have HX10 := Lib.hid (HX9.out.below hb10 q6)
      clear hM' hb10
      go_wp2_with fail
      go_roundw
      case rel => exact ⟨j + 1, L', vl', vp', by omega, by go_num, by rw [HStn.out]; exact HM'.out, HX10.out, HB10.out⟩
      case measure => simp [intOf]; omega
     ·
      have HStn := Lib.hid (show stAt arc b l (j + 1) = st2 by rw [HSt.out]; unfold stepS; rw [HRc.out]; simp only; rw [if_pos HZ.out, HS2.out])
      go_wp2_with fail
      go_roundw
      case rel => exact ⟨j + 1, L, vl, .slice A5 (co.x.path.length + 1) c5, by omega, by go_num, by rw [HStn.out]; exact HM9.out, HX9.out, HB9.out⟩
      case measure => simp [intOf]; omega
  ·
   have hjn : j = l.length - 1 := by rw [HN.out]; omega
   have c1 : ¬ (j : Int) + 1 < n := by omega
   have HEnd := Lib.hid (fun (W : World) h hB => end_spec g6 g6 g7 g8 (stAt arc b l j) L vl vp W h hB (Nat.le_refl _) (by omega) (by omega) (by omega))
   have HJn := Lib.hid hjn
   clear hjn hRr X5
   go_wp2_with fail
   refine (HEnd.out _ HM.out (by omega)).mono ?_
   rintro e w4 ⟨rfl, ⟨L', vl', vp', hM'⟩, hb4⟩
   have hbf : Below w.heap.size w w4 := HB0.out.trans ((Hb.out.trans hb4).mono hq0)
   have HBf := Lib.hid hbf
   have X6 := hM'.out
   obtain ⟨A9, c9, rfl, -, -⟩ := Own.shape_ hM'.pcs.own
   have n6 := Own.ne_blk hM'.pcs.own X6 (by decide)
   have HX6 := Lib.hid X6
   have hp9 : PcsO (w4.setCell ⟨g6, 0, none⟩ (.slice A9 L'.length c9)) w.heap.size (.slice A9 L'.length c9) L' := by
    have h := hM'.pcs.far X6 (by decide) (by decide) 0 (.slice A9 L'.length c9)
    exact ⟨h.own.mono_base hq0, fun x hx => (h.path x hx).mono_base hq0⟩
   have HP9 := Lib.hid hp9
   have HEq := Lib.hid (show L'.map (·.1) = q by rw [hM'.eq, ← HQ.out, HJn.out])
   clear hM' hb4 hbf n6 hp9
   obtain ⟨X6l, X6a, X6fa⟩ := X6.facts1
   go_wp2_with fail
   refine res_cellO (g := g6) (v := .slice A9 L'.length c9) rfl isAgg_pcs rfl rfl (Blk.put1 HX6.out) ⟨A9, c9, L', rfl, ?_, HEq.out, HP9.out⟩
   exact HBf.out.setCell (p := ⟨g6, 0, none⟩) hq0 _
end Go.Proofs.YtfdbidagdjnipaaGreatDoor
