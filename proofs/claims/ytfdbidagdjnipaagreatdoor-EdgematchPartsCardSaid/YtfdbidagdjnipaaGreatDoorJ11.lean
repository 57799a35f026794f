/- edgematch: Crossings. (printed by gen/crossings.py) sheetgrid: Check, find, Box. mapsheetsref10.Point; mapsheetsref40: Check, there, place, Box. sheetgrid.Check; mapsheetsref40.Check. -/
import Derived.Test.YtfdbidagdjnipaaGreatDoorJ10
import Derived.Test.YtfdbidagdjnipaaGreatDoorJ01
import Derived.Test.YtfdbidagdjnipaaGreatDoorJ02
import Derived.Test.YtfdbidagdjnipaaGreatDoorGB
set_option linter.unusedSimpArgs false
set_option linter.unusedVariables false
namespace Go.Proofs.YtfdbidagdjnipaaGreatDoor
open Go.RowKit

/-- a list of crossings of the call's own, and an error -/
def RetCrs (w : World) (r : List Cr × Int) (e : Ending) (w' : World) : Prop :=
 ∃ A c, e = .returned (.tuple #[.slice A r.1.length c, .int .i64 r.2]) ∧ Below w.heap.size w w' ∧ Own w' w.heap.size 70 3 crC (.slice A r.1.length c) r.1
def RetCrs1 (w : World) (l : List Cr) (e : Ending) (w' : World) : Prop :=
 ∃ A c, e = .returned (.slice A l.length c) ∧ Below w.heap.size w w' ∧ Own w' w.heap.size 70 3 crC (.slice A l.length c) l
theorem Own.form {α : Type} {w : World} {base : Nat} {e : TypeId} {size : Nat} {f : α → List Value} {v : Value} {l : List α} (h : Own w base e size f v l) : ∃ A c, v = .slice A l.length c ∧ l.length ≤ c ∧ c ≤ maxLen := by
 obtain ⟨A, c, rfl, h1, h2, -⟩ := Own.sl h
 exact ⟨A, c, rfl, h1, h2⟩
theorem Own.nrow {α : Type} {w : World} {base : Nat} {e : TypeId} {size : Nat} {f : α → List Value} {v : Value} {l : List α} (h : Own w base e size f v l) {b : Nat} (hb : b < base) : some b ≠ v.ownBlock := fun e => by
 have := h.lt b e.symm
 omega
theorem last_pt {l : List Pt} (h : 0 < l.length) : lastP l = l[l.length - 1]'(by omega) := by
 unfold lastP
 simp [List.getD, List.getElem?_eq_getElem (show l.length - 1 < l.length by omega)]
theorem enter_mem (g : Ed) (y : Pc) : ∀ p ∈ enterS g y, p ∈ y.path := by
 intro p hp
 unfold enterS at hp
 split at hp
 · cases hp
 ·
  split at hp
  ·
   split at hp
   · cases hp
   · exact List.mem_of_mem_take hp
  · exact List.mem_of_mem_take hp
theorem leave_mem (g : Ed) (y : Pc) : ∀ p ∈ leaveS g y, p ∈ y.path := by
 intro p hp
 unfold leaveS at hp
 split at hp
 · cases hp
 ·
  split at hp
  ·
   split at hp
   · cases hp
   · exact List.mem_of_mem_drop hp
  · exact List.mem_of_mem_drop hp
theorem hrow_pt {w : World} {A : Option Addr} {n c : Nat} {l : List Pt} (h : Pts w (.slice A n c) l) {k : Nat} (hk : k < l.length) :
  ∃ b o, A = some ⟨b, o, none⟩ ∧ b < w.heap.size ∧ w.cell? ⟨b, o + k * 2, none⟩ = some (.int .i64 l[k].x) ∧ w.cell? ⟨b, o + k * 2 + 1, none⟩ = some (.int .i64 l[k].y) := by
 obtain ⟨A', c', e, -, -, hR⟩ := h
 injection e with e1 e2 e3
 subst e1
 exact hR.pt hk
theorem openS_pos {g : Ed} {ns : List Nd} {run : List Pt} (h : openS g ns run = true) : 0 < run.length := by
 unfold openS at h
 simp only [Bool.and_eq_true, decide_eq_true_eq] at h
 exact h.1
theorem pieces_len (g : Ed) (ns : List Nd) (l : List Pc) (k : Nat) : ((l.take k).flatMap (pieceS g ns)).length ≤ 2 * k := by
 induction k generalizing l with
 | zero => simp
 | succ k ih =>
  cases l with
  | nil => simp
  | cons a l =>
   rw [List.take_succ_cons, List.flatMap_cons, List.length_append]
   have := ih l
   have h : (pieceS g ns a).length ≤ 2 := by
    unfold pieceS
    split <;> split <;> simp
   omega

set_option maxRecDepth 100000 in
set_option maxHeartbeats 8000000 in
theorem Crossings_spec (v : Value) (x : Prt) (b : Bx) (side : Int) (w : World) (h : PrtV w v x) (hw : wfPrt x) (hl1 : x.pieces.length ≤ 60000) (hl2 : x.nodes.length ≤ 60000) :
  Calls Tryz.prog 11 #[v, bxV b, .int .i64 side] w (RetCrs w (crossResS x b side)) := by
 obtain ⟨_, vn, pl, rfl, hpl, ⟨⟨Ap, cp, rfl, hp1, hp2, hR⟩, hP⟩, hN⟩ := h
 unfold maxLen at hp2
 rw [hpl] at hl1
 rw [List.length_map] at hl1
 obtain ⟨An, cn, rfl, hn1, hn2, hRn⟩ := hN
 have HN := Lib.hid (show Nds w (.slice An x.nodes.length cn) x.nodes from ⟨An, cn, rfl, hn1, hn2, hRn⟩)
 have HR := Lib.hid hR; have HPth := Lib.hid hP
 have HWn := Lib.hid hw.2.2
 have hwp := hw.2.1
 obtain ⟨r, hr⟩ : ∃ r, crossResS x b side = r := ⟨_, rfl⟩
 rw [hr]
 unfold crossResS crossL at hr
 generalize x.nodes = ns at *
 generalize x.pieces = ps at *
 generalize x.sheet = sh at *
 have HWp := Lib.hid hwp
 have HPl := Lib.hid hpl
 clear hR hP hw hRn hn2 hn1 hwp hpl
 have TE := makeEdge_spec b side
 unfold bxV edRes edV at TE
 unfold bxV
 have HE := Lib.hid TE; clear TE
 generalize edOf b side = oe at *
 have Hr := Lib.hid hr; clear hr
 go_enter Tryz.func11, Tryz.ntmps11
 go_wp2_with fail
 refine (HE.out _).mono ?_
 rintro e w1 ⟨rfl, hb1⟩
 have Bw := bT (bA (bA (bR w) _) _) hb1
 have X3 : Blk w1 w.heap.size 45 #[.int .i64 sh, .slice Ap pl.length cp, .slice An ns.length cn] := ((Blk.made rfl _ _).alloc _).keep hb1
 clear hb1
 cases oe
 case none =>
  have hf := Hr.out
  simp only [] at hf
  have Hf := Lib.hid hf
  clear hf
  simp only [Option.isSome_none, Option.getD_none]
  go_wp2_with fail
  go_ret2
  have h := Hf.out
  subst h
  exact ⟨none, 0, rfl, bA Bw _, Own.nil _ _ _ _ _⟩
 rename_i g
 simp only [Option.isSome_some, Option.getD_some]
 have hf := Hr.out
 simp only [] at hf
 replace Hr := Lib.hid hf
 clear hf
 have HX3 := Lib.hid X3
 have HB1 := Lib.hid Bw
 clear X3 Bw
 have X3 := HX3.out
 obtain ⟨X3l, X3a, X3b, X3c, -, -, -⟩ := X3.facts3
 go_wp2_with fail
 refine (points_spec _ ns _ (HN.out.mono (bA HB1.out _)) HWn.out (by omega)).mono ?_
 rintro e w2 ⟨rfl, hb2, hm2⟩
 obtain ⟨gm, hgm⟩ : ∃ gm, gm = (w1.alloc (.cells #[.int .i64 g.side, .bool g.upright, .int .i64 g.line, .int .i64 g.lo, .int .i64 g.hi] 78)).heap.size := ⟨_, rfl⟩
 rw [← hgm] at hm2 ⊢
 have HM := Lib.hid hm2
 have HX8 : Hid (Blk w2 w1.heap.size 78 #[.int .i64 g.side, .bool g.upright, .int .i64 g.line, .int .i64 g.lo, .int .i64 g.hi]) := Lib.hid ((Blk.made rfl _ _).keep hb2)
 replace HX3 := Lib.hid ((HX3.out.alloc (.cells #[.int .i64 g.side, .bool g.upright, .int .i64 g.line, .int .i64 g.lo, .int .i64 g.hi] 78)).keep hb2)
 have HB2 := Lib.hid (bT (bA HB1.out _) hb2)
 obtain ⟨g8, hg8⟩ : ∃ g8, g8 = w1.heap.size := ⟨_, rfl⟩
 rw [← hg8] at HX8 ⊢
 clear hb2 hm2 X3 X3l X3a X3b X3c hgm hg8
 have X3 := HX3.out
 try clear X3l
 try clear X3a
 try clear X3b
 try clear X3c
 obtain ⟨X3l, X3a, X3b, X3c, -, -, -⟩ := X3.facts3
 have TN := @entering_spec g
 have TL := @leaving_spec g
 have TO := @open_spec g
 have TA := along_spec g
 unfold edV pcV at TN TL
 unfold edV at TO
 unfold edV ptV at TA
 have HEn := Lib.hid TN; have HLv := Lib.hid TL; have HOp := Lib.hid TO; have HAl := Lib.hid TA
 clear TN TL TO TA
 have hz8 := HX8.out.lt
 have hzm := HM.out.lt
 have hzw := HB2.out.size
 go_wp2_with fail
 go_loopw [6, 29] (fun s i wr => ∃ k : Nat, k ≤ pl.length ∧ i = .int .i64 k ∧ Below w2.heap.size w2 wr ∧ Own wr w2.heap.size 70 3 crC s ((ps.take k).flatMap (pieceS g ns))) (fun _ i _ => pl.length - (intOf i).toNat)
 case atStart => exact ⟨0, Nat.zero_le _, rfl, bR w2, Own.nil _ _ _ _ _⟩
 case round =>
  obtain ⟨k, hk, rfl, hb, hown⟩ := hrel
  have Hb := Lib.hid hb
  have Hown := Lib.hid hown
  have hszr := hb.size
  clear hb hown X3 X3l X3a X3b X3c
  by_cases hlt : k < pl.length
  case neg =>
   have hall : ps.take k = ps := List.take_of_length_le (by rw [HPl.out, List.length_map]; omega)
   have ho := Hown.out
   rw [hall] at ho
   have hll : (ps.flatMap (pieceS g ns)).length ≤ 4294967296 := by
    have := pieces_len g ns ps k
    rw [hall] at this; omega
   replace Hown := Lib.hid ho
   clear hall ho
   go_wp2_with fail
   refine (order_spec _ _ _ _ Hown.out hll).mono ?_
   rintro e w3 ⟨rfl, ho3, hg3⟩
   have Ho3 := Lib.hid ho3
   have B3 := Lib.hid (bG Hb.out hg3 (fun g hk => (Hown.out.lt g hk).1))
   have hr := Hr.out
   obtain ⟨A3, c3, rfl, -, -⟩ := Own.form ho3
   clear ho3 hg3
   go_wp2_with fail
   go_ret2
   subst hr
   exact ⟨A3, c3, rfl, bT HB2.out B3.out, Own.mono_base Ho3.out hzw⟩
  obtain ⟨bb, oo, rfl, hlb, c0, c1, c2, c3⟩ := (HR.out.mono (bT HB2.out Hb.out)).pc hlt
  have hpk := HPth.out k hlt
  have hwk := HWp.out pl[k].1 (by rw [HPl.out]; exact List.mem_map_of_mem (List.getElem_mem hlt))
  have hst : (ps.take (k + 1)).flatMap (pieceS g ns) = (ps.take k).flatMap (pieceS g ns) ++ pieceS g ns pl[k].1 := by
   have hlt' : k < ps.length := by rw [HPl.out, List.length_map]; exact hlt
   have e : ps[k] = pl[k].1 := by simp [HPl.out]
   rw [List.take_succ_eq_append_getElem hlt', List.flatMap_append, e]; simp
  have hll := pieces_len g ns ps k
  generalize (ps.take k).flatMap (pieceS g ns) = L at *
  have HWk := Lib.hid hwk
  clear hwk
  generalize pl[k] = yy at *
  obtain ⟨y, vy⟩ := yy
  dsimp only at hpk c0 c1 c2 c3 hst HWk
  have HSt : Hid (List.flatMap (pieceS g ns) (List.take (k + 1) ps) = L ++ ((if openS g ns (enterS g y) = true then [(⟨alongS g (lastP (enterS g y)), y.arc, 0⟩ : Cr)] else []) ++ (if openS g ns (leaveS g y) = true then [(⟨alongS g (lastP (leaveS g y)), y.arc, 1⟩ : Cr)] else []))) := Lib.hid hst
  clear hst
  obtain ⟨Ay, cy, rfl, hy1, hy2, hyR⟩ := hpk
  unfold maxLen at hy2
  have HPk := Lib.hid (show Pts w (.slice Ay y.path.length cy) y.path from ⟨Ay, cy, rfl, hy1, hy2, hyR⟩)
  clear hyR
  obtain ⟨s, rfl⟩ : ∃ s : Value, s = u6 := ⟨_, rfl⟩
  go_upto_region 8 with fail
  obtain ⟨WA, hWA⟩ : ∃ WA : World, WA = wr.alloc (.cells #[.int .i64 y.arc, .slice Ay y.path.length cy, .int .i64 y.enter, .int .i64 y.leave] 68) := ⟨_, rfl⟩
  have HX12 : Hid (Blk WA wr.heap.size 68 #[.int .i64 y.arc, .slice Ay y.path.length cy, .int .i64 y.enter, .int .i64 y.leave]) := Lib.hid (by rw [hWA]; exact Blk.made rfl _ _)
  have HBA := Lib.hid (show Below w2.heap.size w2 WA by rw [hWA]; exact bA Hb.out _)
  have HOA := Lib.hid (show Own WA w2.heap.size 70 3 crC s L by rw [hWA]; exact Hown.out.alloc _)
  have HR12 : Hid (some wr.heap.size ≠ s.ownBlock) := Lib.hid fun e => by
   have := Hown.out.lt _ e.symm
   omega
  have h12 : w2.heap.size ≤ wr.heap.size := hszr
  obtain ⟨g12, hg12⟩ : ∃ g12, g12 = wr.heap.size := ⟨_, rfl⟩
  rw [← hg12] at HX12 HR12 h12 ⊢
  rw [← hWA]
  clear c0 c1 c2 c3 hlb hWA hg12 Hb Hown
  have X8 := HX8.out.keep HBA.out
  have X12 := HX12.out
  obtain ⟨X8l, X8a, X8b, X8c, X8d, X8e, -, -, -, -, -⟩ := X8.facts5
  obtain ⟨X12l, X12a, X12b, X12c, X12d, -, -, -, -⟩ := X12.facts4
  go_wp2_with fail
  refine (HEn.out y _ _ (HPk.out.mono (bT HB2.out HBA.out))).mono ?_
  rintro e wB ⟨vr, rfl, hb, hrun⟩
  have hpr := hrun w HPk.out
  have HMem := Lib.hid (show ∀ p ∈ enterS g y, wfPt p from fun p hp => HWk.out.2.2.2 p (enter_mem g y p hp))
  generalize hrn : enterS g y = rn at *
  have HRn := Lib.hid hrn
  obtain ⟨Ar, cr, rfl, hr1, hr2, hrR⟩ := hpr
  unfold maxLen at hr2
  have HPr := Lib.hid (show Pts w (.slice Ar rn.length cr) rn from ⟨Ar, cr, rfl, hr1, hr2, hrR⟩)
  have HBB := Lib.hid (bT HBA.out hb)
  have HOB := Lib.hid (Own.keep HOA.out hb)
  have HX12B := Lib.hid (X12.keep hb)
  clear hb hrun hrn hrR X8 X12 X8l X8a X8b X8c X8d X8e X12l X12a X12b X12c X12d
  have X8 := HX8.out.keep HBB.out
  have X12 := HX12B.out
  try clear X8l
  try clear X8a
  try clear X8b
  try clear X8c
  try clear X8d
  try clear X8e
  obtain ⟨X8l, X8a, X8b, X8c, X8d, X8e, -, -, -, -, -⟩ := X8.facts5
  try clear X12l
  try clear X12a
  try clear X12b
  try clear X12c
  try clear X12d
  obtain ⟨X12l, X12a, X12b, X12c, X12d, -, -, -, -⟩ := X12.facts4
  go_wp2_with fail
  refine (HOp.out rn _ gm _ ns wB (HPr.out.mono (bT HB2.out HBB.out)) (HM.out.keep HBB.out) HMem.out).mono ?_
  rintro e wC ⟨rfl, hb⟩
  have HBC := Lib.hid (bT HBB.out hb)
  have HOC := Lib.hid (Own.keep HOB.out hb)
  have HX12C := Lib.hid (X12.keep hb)
  clear hb X8 X12 X8l X8a X8b X8c X8d X8e X12l X12a X12b X12c X12d
  have hzp : openS g ns rn = true → 0 < rn.length := openS_pos
  generalize hzz : openS g ns rn = z at *
  have HZ := Lib.hid hzz
  clear hzz
  have X8 := HX8.out.keep HBC.out
  have X12 := HX12C.out
  try clear X8l
  try clear X8a
  try clear X8b
  try clear X8c
  try clear X8d
  try clear X8e
  obtain ⟨X8l, X8a, X8b, X8c, X8d, X8e, -, -, -, -, -⟩ := X8.facts5
  try clear X12l
  try clear X12a
  try clear X12b
  try clear X12c
  try clear X12d
  obtain ⟨X12l, X12a, X12b, X12c, X12d, -, -, -, -⟩ := X12.facts4
  go_upto_if 39 with fail
  go_cut [6] (fun s' wx => Own wx w2.heap.size 70 3 crC s' (L ++ if z = true then [⟨alongS g (lastP rn), y.arc, 0⟩] else []) ∧ Below w2.heap.size w2 wx ∧ Blk wx g12 68 #[.int .i64 y.arc, .slice Ay y.path.length cy, .int .i64 y.enter, .int .i64 y.leave] ∧ some g12 ≠ s'.ownBlock)
  case first =>
   cases z
   case false =>
    go_wp2_with fail
    go_meet
    case rel => exact ⟨by simpa using HOC.out, HBC.out, HX12C.out, HR12.out⟩
   case true =>
    have hpos := hzp rfl
    have hlast := last_pt hpos
    obtain ⟨N, hN⟩ : ∃ N, rn.length = N + 1 := ⟨rn.length - 1, by omega⟩
    obtain ⟨b', o', rfl, hlb', d0, d1⟩ := hrow_pt HPr.out (k := rn.length - 1) (by omega)
    rw [← hlast] at d0 d1
    clear hlast
    rw [hN] at d0 d1 hr1 ⊢
    simp only [Nat.add_sub_cancel] at d0 d1
    have HNN := Lib.hid hN
    clear hN
    obtain ⟨bc, -⟩ := bcell (bT HB2.out HBC.out)
    replace d0 := (bc b' _ hlb').trans d0
    replace d1 := (bc b' _ hlb').trans d1
    have hbl : b' < wC.heap.size := Nat.lt_of_lt_of_le hlb' (bT HB2.out HBC.out).size
    have n1 : some b' ≠ (s).ownBlock := HOC.out.nrow (Nat.lt_of_lt_of_le hlb' hzw)
    have n2 : some g8 ≠ (s).ownBlock := HOC.out.nrow hz8
    have n3 : some g12 ≠ (s).ownBlock := HR12.out
    obtain ⟨rw_, hrw⟩ : ∃ r, (s).ownBlock = r := ⟨_, rfl⟩
    rw [hrw] at n1 n2 n3
    generalize hLP : lastP rn = LP at *
    have HLP := Lib.hid hLP
    clear hLP
    have q1 : 0 ≤ (N : Int) := by omega
    have q2 : (N : Int) < (N : Int) + 1 := by omega
    have q6 : IntKind.i64.wrap (N : Int) = (N : Int) := IntWalk.i64_in _ (by omega)
    have HRw := Lib.hid hrw
    have HB' := Lib.hid HBC.out.size
    clear bc hrw hpos hzp
    go_upto_region 10 with fail
    refine rg_start (SinceX wC (rw_)) (.run 8 0 0 (.take 9 767 (.take 10 1791 (.call 8 2047 (.take 11 4095 (.call 12 8191 (.call 13 16383 (.take 14 32767 (.done))))))))) (by kernel_rfl) (gD (gR _ _)) (by kernel_rfl) (by kernel_rfl) (Nat.le_of_ble_eq_true (by kernel_rfl)) ?_
    intro opsR QR Hops HQrg hS
    iterate 10
     apply rg_pX; exact Hops; exact rfl; exact hS; exact rfl
     · intro _ hqc; go_simp; try rfl
     try simp only [pu]
    refine rg_call (i := 8) (get_of Hops rfl) (fun K hK => ?_)
    have HSrg := Lib.hid hS; clear hS
    refine rg_run (wanted_plain rfl) ?_
    go_simp
    refine (HAl.out _ _).mono ?_
    rintro e wr1 ⟨rfl, hbr1⟩
    have hS : SinceX wC (rw_) wr1 := gB (w0 := wC) HSrg.out hbr1
    clear HSrg
    refine hK.out _ _ hS (fun _ => ?_)
    clear hK K
    try simp only [pu]
    apply rg_pX; exact Hops; exact rfl; exact hS; exact rfl
    · intro _ hqc; go_simp; try rfl
    try simp only [pu]
    refine rg_call (i := 12) (get_of Hops rfl) (fun K hK => ?_)
    have HSrg := Lib.hid hS; clear hS
    refine rg_run (wanted_plain rfl) ?_
    go_simp
    refine hK.out _ _ (gA HSrg.out _) (fun hS => ?_)
    clear hK K HSrg
    try simp only [pu]
    refine rg_call (i := 13) (get_of Hops rfl) (fun K hK => ?_)
    have HSrg := Lib.hid hS; clear hS
    refine rg_run (wanted_plain rfl) ?_
    refine wp_appl (.tmp 40) (.tmp 52) _ rfl (base := w2.heap.size) elem_cr crC_len crC_one rfl ((HOC.out.keep (bT (bD (bR wC)) hbr1)).alloc _) rfl (l2 := [⟨alongS g LP, y.arc, 0⟩]) (Sl.lit (n := 1) (Blk.made rfl _ _) rfl (le_maxLen (by omega))) (by simp; omega) (by simp; omega) (Nat.le_trans HB'.out (Nat.le_trans hbr1.size (by simp))) ?_
    intro v3 wr3 ho3 hg hat
    have hg2 : World.grownBy _ wr3 rw_ := HRw.out ▸ hg
    have hS : SinceX wC rw_ wr3 := gT HSrg.out hg2
    clear HSrg
    refine hK.out _ _ hS (fun _ => ?_)
    clear hK K
    try simp only [pu]
    apply rg_pX; exact Hops; exact rfl; exact hS; exact rfl
    · intro _ hqc; go_simp; try rfl
    try simp only [pu]
    refine rg_done ?_
    refine HQrg.down _ _ ?_
    have hB : wC.grownBy _ (rw_) := hS
    clear hS HQrg Hops
    have HO3 := Lib.hid ho3
    have HB3 := Lib.hid (show Below w2.heap.size w2 wr3 from gBelow HBC.out HB'.out hB (fun k hk => (HOC.out.lt k (by rw [HRw.out]; exact hk)).1))
    have HX3' := Lib.hid (X12.grow hB n3)
    have HNr : Hid (some g12 ≠ v3.ownBlock) := Lib.hid fun e => by
     rcases hat with h | h
     ·
      have h' : v3.ownBlock = (s).ownBlock := h
      rw [h', HRw.out] at e; exact n3 e
     ·
      rw [h] at e
      have h1 := Option.some.inj e
      have h2 := X12l
      have h3 := hbr1.size
      simp at h1 h3
      omega
    clear ho3 hB hg hg2 hat
    go_wp2_with fail
    rw [← HNN.out]
    go_meet
    case rel => exact ⟨HO3.out, HB3.out, HX3'.out, HNr.out⟩
  case rest =>
  obtain ⟨ho2, hb2, hx2, hn2⟩ := hcut
  have HO2 := Lib.hid ho2; have HB2' := Lib.hid hb2; have HX2 := Lib.hid hx2; have HN2 := Lib.hid hn2
  have HZ1 := HZ; have HRn1 := HRn
  obtain ⟨z1, hz1⟩ : ∃ z1, z1 = z := ⟨_, rfl⟩
  have hlen2 : (L ++ if z = true then [(⟨alongS g (lastP rn), y.arc, 0⟩ : Cr)] else []).length ≤ 2 * k + 1 := by
   rw [List.length_append]
   split <;> simp <;> omega
  generalize hL2 : (L ++ if z = true then [(⟨alongS g (lastP rn), y.arc, 0⟩ : Cr)] else []) = L2 at *
  have HL2 := Lib.hid hL2
  clear ho2 hb2 hx2 hn2 X8 X12 X8l X8a X8b X8c X8d X8e X12l X12a X12b X12c X12d hL2 hz1 hzp
  obtain ⟨rn1, hrn1⟩ : ∃ rn1, rn1 = rn := ⟨_, rfl⟩
  obtain ⟨wD, rfl⟩ : ∃ wD : World, wD = wc := ⟨_, rfl⟩
  clear HPr HMem HBB HOB HX12B HBC HOC HX12C hr1 hr2
  have X8 := HX8.out.keep HB2'.out
  have X12 := HX2.out
  try clear X8l
  try clear X8a
  try clear X8b
  try clear X8c
  try clear X8d
  try clear X8e
  obtain ⟨X8l, X8a, X8b, X8c, X8d, X8e, -, -, -, -, -⟩ := X8.facts5
  try clear X12l
  try clear X12a
  try clear X12b
  try clear X12c
  try clear X12d
  obtain ⟨X12l, X12a, X12b, X12c, X12d, -, -, -, -⟩ := X12.facts4
  go_wp2_with fail
  refine (HLv.out y _ _ (HPk.out.mono (bT HB2.out HB2'.out))).mono ?_
  rintro e wB ⟨vr, rfl, hb, hrun⟩
  have hpr := hrun w HPk.out
  have HMem := Lib.hid (show ∀ p ∈ leaveS g y, wfPt p from fun p hp => HWk.out.2.2.2 p (leave_mem g y p hp))
  generalize hrn : leaveS g y = rn at *
  have HRn := Lib.hid hrn
  obtain ⟨Ar, cr, rfl, hr1, hr2, hrR⟩ := hpr
  unfold maxLen at hr2
  have HPr := Lib.hid (show Pts w (.slice Ar rn.length cr) rn from ⟨Ar, cr, rfl, hr1, hr2, hrR⟩)
  have HBB := Lib.hid (bT HB2'.out hb)
  have HOB := Lib.hid (Own.keep HO2.out hb)
  have HX12B := Lib.hid (X12.keep hb)
  clear hb hrun hrn hrR X8 X12 X8l X8a X8b X8c X8d X8e X12l X12a X12b X12c X12d
  have X8 := HX8.out.keep HBB.out
  have X12 := HX12B.out
  try clear X8l
  try clear X8a
  try clear X8b
  try clear X8c
  try clear X8d
  try clear X8e
  obtain ⟨X8l, X8a, X8b, X8c, X8d, X8e, -, -, -, -, -⟩ := X8.facts5
  try clear X12l
  try clear X12a
  try clear X12b
  try clear X12c
  try clear X12d
  obtain ⟨X12l, X12a, X12b, X12c, X12d, -, -, -, -⟩ := X12.facts4
  go_wp2_with fail
  refine (HOp.out rn _ gm _ ns wB (HPr.out.mono (bT HB2.out HBB.out)) (HM.out.keep HBB.out) HMem.out).mono ?_
  rintro e wC ⟨rfl, hb⟩
  have HBC := Lib.hid (bT HBB.out hb)
  have HOC := Lib.hid (Own.keep HOB.out hb)
  have HX12C := Lib.hid (X12.keep hb)
  clear hb X8 X12 X8l X8a X8b X8c X8d X8e X12l X12a X12b X12c X12d
  have hzp : openS g ns rn = true → 0 < rn.length := openS_pos
  generalize hzz : openS g ns rn = z at *
  have HZ := Lib.hid hzz
  clear hzz
  have X8 := HX8.out.keep HBC.out
  have X12 := HX12C.out
  try clear X8l
  try clear X8a
  try clear X8b
  try clear X8c
  try clear X8d
  try clear X8e
  obtain ⟨X8l, X8a, X8b, X8c, X8d, X8e, -, -, -, -, -⟩ := X8.facts5
  try clear X12l
  try clear X12a
  try clear X12b
  try clear X12c
  try clear X12d
  obtain ⟨X12l, X12a, X12b, X12c, X12d, -, -, -, -⟩ := X12.facts4
  go_upto_if 60 with fail
  cases z
  case false =>
   have HO5 := Lib.hid (show Own wC w2.heap.size 70 3 crC u6 (L2 ++ if false = true then [⟨alongS g (lastP rn), y.arc, 1⟩] else []) by simpa using HOC.out)
   go_wp2_with fail
   go_roundw
   case rel => exact ⟨k + 1, by omega, by go_num, HBC.out, by rw [HSt.out, ← List.append_assoc, HL2.out]; exact HO5.out⟩
   case measure => simp [intOf]; omega
  case true =>
   have hpos := hzp rfl
   have hlast := last_pt hpos
   obtain ⟨N, hN⟩ : ∃ N, rn.length = N + 1 := ⟨rn.length - 1, by omega⟩
   obtain ⟨b', o', rfl, hlb', d0, d1⟩ := hrow_pt HPr.out (k := rn.length - 1) (by omega)
   rw [← hlast] at d0 d1
   clear hlast
   rw [hN] at d0 d1 hr1 ⊢
   simp only [Nat.add_sub_cancel] at d0 d1
   have HNN := Lib.hid hN
   clear hN
   obtain ⟨bc, -⟩ := bcell (bT HB2.out HBC.out)
   replace d0 := (bc b' _ hlb').trans d0
   replace d1 := (bc b' _ hlb').trans d1
   have hbl : b' < wC.heap.size := Nat.lt_of_lt_of_le hlb' (bT HB2.out HBC.out).size
   have n1 : some b' ≠ (u6).ownBlock := HOC.out.nrow (Nat.lt_of_lt_of_le hlb' hzw)
   have n2 : some g8 ≠ (u6).ownBlock := HOC.out.nrow hz8
   have n3 : some g12 ≠ (u6).ownBlock := HN2.out
   obtain ⟨rw_, hrw⟩ : ∃ r, (u6).ownBlock = r := ⟨_, rfl⟩
   rw [hrw] at n1 n2 n3
   generalize hLP : lastP rn = LP at *
   have HLP := Lib.hid hLP
   clear hLP
   have q1 : 0 ≤ (N : Int) := by omega
   have q2 : (N : Int) < (N : Int) + 1 := by omega
   have q6 : IntKind.i64.wrap (N : Int) = (N : Int) := IntWalk.i64_in _ (by omega)
   have HRw := Lib.hid hrw
   have HB' := Lib.hid HBC.out.size
   clear bc hrw hpos hzp
   go_upto_region 13 with fail
   refine rg_start (SinceX wC (rw_)) (.run 8 0 0 (.take 9 767 (.take 10 1791 (.call 8 2047 (.take 11 4095 (.call 12 8191 (.call 13 16383 (.take 14 32767 (.done))))))))) (by kernel_rfl) (gD (gR _ _)) (by kernel_rfl) (by kernel_rfl) (Nat.le_of_ble_eq_true (by kernel_rfl)) ?_
   intro opsR QR Hops HQrg hS
   iterate 10
    apply rg_pX; exact Hops; exact rfl; exact hS; exact rfl
    · intro _ hqc; go_simp; try rfl
    try simp only [pu]
   refine rg_call (i := 8) (get_of Hops rfl) (fun K hK => ?_)
   have HSrg := Lib.hid hS; clear hS
   refine rg_run (wanted_plain rfl) ?_
   go_simp
   refine (HAl.out _ _).mono ?_
   rintro e wr1 ⟨rfl, hbr1⟩
   have hS : SinceX wC (rw_) wr1 := gB (w0 := wC) HSrg.out hbr1
   clear HSrg
   refine hK.out _ _ hS (fun _ => ?_)
   clear hK K
   try simp only [pu]
   apply rg_pX; exact Hops; exact rfl; exact hS; exact rfl
   · intro _ hqc; go_simp; try rfl
   try simp only [pu]
   refine rg_call (i := 12) (get_of Hops rfl) (fun K hK => ?_)
   have HSrg := Lib.hid hS; clear hS
   refine rg_run (wanted_plain rfl) ?_
   go_simp
   refine hK.out _ _ (gA HSrg.out _) (fun hS => ?_)
   clear hK K HSrg
   try simp only [pu]
   refine rg_call (i := 13) (get_of Hops rfl) (fun K hK => ?_)
   have HSrg := Lib.hid hS; clear hS
   refine rg_run (wanted_plain rfl) ?_
   refine wp_appl (.tmp 61) (.tmp 73) _ rfl (base := w2.heap.size) elem_cr crC_len crC_one rfl ((HOC.out.keep (bT (bD (bR wC)) hbr1)).alloc _) rfl (l2 := [⟨alongS g LP, y.arc, 1⟩]) (Sl.lit (n := 1) (Blk.made rfl _ _) rfl (le_maxLen (by omega))) (by simp; omega) (by simp; omega) (Nat.le_trans HB'.out (Nat.le_trans hbr1.size (by simp))) ?_
   intro v3 wr3 ho3 hg hat
   have hg2 : World.grownBy _ wr3 rw_ := HRw.out ▸ hg
   have hS : SinceX wC rw_ wr3 := gT HSrg.out hg2
   clear HSrg
   refine hK.out _ _ hS (fun _ => ?_)
   clear hK K
   try simp only [pu]
   apply rg_pX; exact Hops; exact rfl; exact hS; exact rfl
   · intro _ hqc; go_simp; try rfl
   try simp only [pu]
   refine rg_done ?_
   refine HQrg.down _ _ ?_
   have hB : wC.grownBy _ (rw_) := hS
   clear hS HQrg Hops
   have HO3 := Lib.hid ho3
   have HB3 := Lib.hid (show Below w2.heap.size w2 wr3 from gBelow HBC.out HB'.out hB (fun k hk => (HOC.out.lt k (by rw [HRw.out]; exact hk)).1))
   have HX3' := Lib.hid (X12.grow hB n3)
   have HNr : Hid (some g12 ≠ v3.ownBlock) := Lib.hid fun e => by
    rcases hat with h | h
    ·
     have h' : v3.ownBlock = (u6).ownBlock := h
     rw [h', HRw.out] at e; exact n3 e
    ·
     rw [h] at e
     have h1 := Option.some.inj e
     have h2 := X12l
     have h3 := hbr1.size
     simp at h1 h3
     omega
   clear ho3 hB hg hg2 hat
   go_wp2_with fail
   go_roundw
   case rel => exact ⟨k + 1, by omega, by go_num, HB3.out, by rw [HSt.out, ← List.append_assoc, HL2.out, if_pos rfl]; exact HO3.out⟩
   case measure => simp [intOf]; omega
end Go.Proofs.YtfdbidagdjnipaaGreatDoor
namespace Go.Proofs.YtfdbidagdjnipaaGreatDoor
open Go.RowKit

def rngI (n lo hi : Int) : Bool := decide (lo ≤ n) && decide (n ≤ hi)
theorem rngI_iff (n lo hi : Int) : rngI n lo hi = true ↔ lo ≤ n ∧ n ≤ hi := by simp [rngI]
def gridPt (p : Pt) : Bool := rngI p.x (-1048576) 1048576 && rngI p.y (-1048576) 1048576
def seFar (s : Se) : Pt := ⟨s.at_.x + s.cols * s.width, s.at_.y + s.rows * s.height⟩
def seIn (s : Se) : Bool := gridPt s.at_ && (rngI s.width 1 65536 && (rngI s.height 1 65536 && (rngI s.cols 1 16 && rngI s.rows 1 16)))
def seOk (s : Se) : Bool := seIn s && gridPt (seFar s)
def seCheck (s : Se) : Int := if seOk s then 0 else 2
def thereS (s : Se) (n : Int) : Bool := decide (1 ≤ n) && decide (n ≤ s.cols * s.rows)
def colS (s : Se) (n : Int) : Int := (n - 1).tmod s.cols
def rowS (s : Se) (n : Int) : Int := (n - 1).tdiv s.cols
/-- the error of 'find' and of 'Box' -/
def findE (s : Se) (n : Int) : Int := if seOk s then (if thereS s n then 0 else 7) else 2
def boxOf (s : Se) (n : Int) : Bx := ⟨s.at_.x + colS s n * s.width, s.at_.y + rowS s n * s.height, s.at_.x + colS s n * s.width + s.width, s.at_.y + rowS s n * s.height + s.height⟩
def bx0 : Bx := ⟨0, 0, 0, 0⟩
def boxRes (s : Se) (n : Int) : Bx × Int := if findE s n = 0 then (boxOf s n, 0) else (bx0, findE s n)

theorem mul_bds {a b m n : Int} (h1 : 0 ≤ a) (h2 : a ≤ m) (h3 : 0 ≤ b) (h4 : b ≤ n) : 0 ≤ a * b ∧ a * b ≤ m * n :=
 ⟨Int.mul_nonneg h1 h3, Int.mul_le_mul h2 h4 h3 (by omega)⟩
structure SeBd (s : Se) : Prop where
 x : -1048576 ≤ s.at_.x ∧ s.at_.x ≤ 1048576
 y : -1048576 ≤ s.at_.y ∧ s.at_.y ≤ 1048576
 w : 1 ≤ s.width ∧ s.width ≤ 65536
 h : 1 ≤ s.height ∧ s.height ≤ 65536
 c : 1 ≤ s.cols ∧ s.cols ≤ 16
 r : 1 ≤ s.rows ∧ s.rows ≤ 16
theorem seIn_bd {s : Se} (h : seIn s = true) : SeBd s := by
 unfold seIn gridPt at h
 simp only [Bool.and_eq_true, rngI_iff] at h
 obtain ⟨⟨h1, h2⟩, h3, h4, h5, h6⟩ := h
 exact ⟨h1, h2, h3, h4, h5, h6⟩
theorem seOk_bd {s : Se} (h : seOk s = true) : SeBd s := by
 unfold seOk at h
 rw [Bool.and_eq_true] at h
 exact seIn_bd h.1

set_option maxRecDepth 100000 in
set_option maxHeartbeats 1000000 in
theorem from_spec (n lo hi : Int) (w : World) : Calls Tryz.prog 59 #[.int .i64 n, .int .i64 lo, .int .i64 hi] w fun e w' => e = .returned (.bool (rngI n lo hi)) ∧ w = w' := by
 unfold rngI
 by_cases h1 : lo ≤ n
 ·
  go_enter Tryz.func59, Tryz.ntmps59
  go_wp2_with fail
  go_ret
  exact ⟨ret_bool (by rw [decide_eq_true (show lo ≤ n by omega)]; rfl), rfl⟩
 ·
  go_enter Tryz.func59, Tryz.ntmps59
  go_wp2_with fail
  go_ret
  exact ⟨ret_bool (by rw [decide_eq_false (show ¬ lo ≤ n by omega)]; rfl), rfl⟩

set_option maxRecDepth 100000 in
set_option maxHeartbeats 1000000 in
theorem valid_spec (x y : Int) (g : Nat) (t : TypeId) (w : World) (h : Blk w g t #[.func (.func 59) #[] #[]]) : Calls Tryz.prog 60 #[.int .i64 x, .int .i64 y, .pointer (some ⟨g, 0, none⟩)] w fun e w' => e = .returned (.bool (gridPt ⟨x, y⟩)) ∧ w = w' := by
 unfold gridPt
 have HF := Lib.hid (fun (n lo hi : Int) (w : World) => from_spec n lo hi w)
 obtain ⟨hl, ha, -⟩ := h.facts1
 obtain ⟨z1, hz1⟩ : ∃ z1, rngI x (-1048576) 1048576 = z1 := ⟨_, rfl⟩
 have Hz1 := Lib.hid hz1
 rw [show rngI (⟨x, y⟩ : Pt).x (-1048576) 1048576 = z1 from hz1]
 clear hz1
 cases z1
 ·
  go_enter Tryz.func60, Tryz.ntmps60
  go_wp2_with fail
  refine (HF.out _ _ _ _).mono ?_
  rintro e w1 ⟨rfl, rfl⟩
  rw [Hz1.out]
  go_wp2_with fail
  go_ret
  exact ⟨ret_bool rfl, rfl⟩
 ·
  go_enter Tryz.func60, Tryz.ntmps60
  go_wp2_with fail
  refine (HF.out _ _ _ _).mono ?_
  rintro e w1 ⟨rfl, rfl⟩
  rw [Hz1.out]
  go_wp2_with fail
  refine (HF.out _ _ _ _).mono ?_
  rintro e w1 ⟨rfl, rfl⟩
  go_wp2_with fail
  go_ret
  exact ⟨ret_bool rfl, rfl⟩

set_option maxRecDepth 100000 in
set_option maxHeartbeats 1000000 in
theorem Point_spec (p : Pt) (w : World) : Calls Tryz.prog 52 #[ptV p] w fun e w' => e = .returned (.bool (gridPt p)) ∧ Below w.heap.size w w' := by
 unfold ptV gridPt rngI
 by_cases h1 : -1048576 ≤ p.x
 case neg =>
  go_enter Tryz.func52, Tryz.ntmps52
  go_wp2_with fail
  go_ret
  exact ⟨ret_bool (by first | rfl | (simp; done) | (simp; intros; omega) | (rw [Bool.eq_iff_iff]; simp; omega)), bA (bR w) _⟩
 by_cases h2 : p.x ≤ 1048576
 case neg =>
  go_enter Tryz.func52, Tryz.ntmps52
  go_wp2_with fail
  go_ret
  exact ⟨ret_bool (by first | rfl | (simp; done) | (simp; intros; omega) | (rw [Bool.eq_iff_iff]; simp; omega)), bA (bR w) _⟩
 by_cases h3 : -1048576 ≤ p.y
 case neg =>
  go_enter Tryz.func52, Tryz.ntmps52
  go_wp2_with fail
  go_ret
  exact ⟨ret_bool (by first | rfl | (simp; done) | (simp; intros; omega) | (rw [Bool.eq_iff_iff]; simp; omega)), bA (bR w) _⟩
 go_enter Tryz.func52, Tryz.ntmps52
 go_wp2_with fail
 go_ret
 exact ⟨ret_bool (by first | rfl | (simp; done) | (simp; intros; omega) | (rw [Bool.eq_iff_iff]; simp; omega)), bA (bR w) _⟩
end Go.Proofs.YtfdbidagdjnipaaGreatDoor
namespace Go.Proofs.YtfdbidagdjnipaaGreatDoor
open Go.RowKit

theorem check_no {s : Se} (h : seIn s = false) : seCheck s = 2 := by
 unfold seCheck seOk
 rw [h]; rfl
theorem wrap_far {s : Se} (h : SeBd s) : IntKind.i64.wrap (s.cols * s.width) = s.cols * s.width ∧ IntKind.i64.wrap (s.at_.x + s.cols * s.width) = s.at_.x + s.cols * s.width ∧ IntKind.i64.wrap (s.rows * s.height) = s.rows * s.height ∧ IntKind.i64.wrap (s.at_.y + s.rows * s.height) = s.at_.y + s.rows * s.height := by
 have h1 := mul_bds (a := s.cols) (b := s.width) (m := 16) (n := 65536) (by have := h.c; omega) h.c.2 (by have := h.w; omega) h.w.2
 have h2 := mul_bds (a := s.rows) (b := s.height) (m := 16) (n := 65536) (by have := h.r; omega) h.r.2 (by have := h.h; omega) h.h.2
 have hx := h.x; have hy := h.y
 exact ⟨IntWalk.i64_in _ (by omega), IntWalk.i64_in _ (by omega), IntWalk.i64_in _ (by omega), IntWalk.i64_in _ (by omega)⟩

set_option maxRecDepth 100000 in
set_option maxHeartbeats 4000000 in
theorem sCheck_spec (s : Se) (w : World) : Calls Tryz.prog 29 #[seV s] w fun e w' => e = .returned (.int .i64 (seCheck s)) ∧ Below w.heap.size w w' := by
 unfold seV
 have HF := Lib.hid (fun (n lo hi : Int) (w : World) => from_spec n lo hi w)
 have HV := Lib.hid (fun (x y : Int) (g : Nat) (t : TypeId) (w : World) h => valid_spec x y g t w h)
 have hd : seIn s = (gridPt s.at_ && (rngI s.width 1 65536 && (rngI s.height 1 65536 && (rngI s.cols 1 16 && rngI s.rows 1 16)))) := rfl
 have Hd := Lib.hid hd
 clear hd
 obtain ⟨z1, hz1⟩ : ∃ z, gridPt s.at_ = z := ⟨_, rfl⟩
 obtain ⟨z2, hz2⟩ : ∃ z, rngI s.width 1 65536 = z := ⟨_, rfl⟩
 obtain ⟨z3, hz3⟩ : ∃ z, rngI s.height 1 65536 = z := ⟨_, rfl⟩
 obtain ⟨z4, hz4⟩ : ∃ z, rngI s.cols 1 16 = z := ⟨_, rfl⟩
 obtain ⟨z5, hz5⟩ : ∃ z, rngI s.rows 1 16 = z := ⟨_, rfl⟩
 have Z1 := Lib.hid hz1; have Z2 := Lib.hid hz2; have Z3 := Lib.hid hz3; have Z4 := Lib.hid hz4; have Z5 := Lib.hid hz5
 clear hz1 hz2 hz3 hz4 hz5
 obtain ⟨q, hq⟩ : ∃ q, seCheck s = q := ⟨_, rfl⟩
 rw [hq]
 have Hq := Lib.hid hq
 clear hq
 have B0 := Lib.hid (show Below w.heap.size w ((w.alloc (.cells #[.int .i64 s.at_.x, .int .i64 s.at_.y, .int .i64 s.width, .int .i64 s.height, .int .i64 s.cols, .int .i64 s.rows] 30)).alloc (.cells #[.func (.func 59) #[] #[]] 108)) from bA (bA (bR w) _) _)
 have HX3 : Hid (Blk ((w.alloc (.cells #[.int .i64 s.at_.x, .int .i64 s.at_.y, .int .i64 s.width, .int .i64 s.height, .int .i64 s.cols, .int .i64 s.rows] 30)).alloc (.cells #[.func (.func 59) #[] #[]] 108)) (w.heap.size + 1) 108 #[.func (.func 59) #[] #[]]) := Lib.hid (Blk.made (by simp) _ _)
 have hst := fun (a : Addr) (w : World) => run_store Tryz.prog w a (.func (.func 59) #[] #[]) .plain rfl
 go_enter Tryz.func29, Tryz.ntmps29
 go_wp2_with fail
 refine (HV.out _ _ _ _ _ HX3.out).mono ?_
 rintro e w1 ⟨rfl, rfl⟩
 rw [show gridPt ⟨s.at_.x, s.at_.y⟩ = z1 from Z1.out]
 cases z1
 case false =>
  have hf := Lib.hid (check_no (s := s) (by rw [Hd.out, Z1.out]; rfl))
  go_wp2_with fail
  go_ret
  exact ⟨ret_int (by rw [← Hq.out, hf.out]), B0.out⟩
 go_wp2_with fail
 refine (HF.out _ _ _ _).mono ?_
 rintro e w1 ⟨rfl, rfl⟩
 rw [Z2.out]
 cases z2
 case false =>
  have hf := Lib.hid (check_no (s := s) (by rw [Hd.out, Z1.out, Z2.out]; rfl))
  go_wp2_with fail
  go_ret
  exact ⟨ret_int (by rw [← Hq.out, hf.out]), B0.out⟩
 go_wp2_with fail
 refine (HF.out _ _ _ _).mono ?_
 rintro e w1 ⟨rfl, rfl⟩
 rw [Z3.out]
 cases z3
 case false =>
  have hf := Lib.hid (check_no (s := s) (by rw [Hd.out, Z1.out, Z2.out, Z3.out]; rfl))
  go_wp2_with fail
  go_ret
  exact ⟨ret_int (by rw [← Hq.out, hf.out]), B0.out⟩
 go_wp2_with fail
 refine (HF.out _ _ _ _).mono ?_
 rintro e w1 ⟨rfl, rfl⟩
 rw [Z4.out]
 cases z4
 case false =>
  have hf := Lib.hid (check_no (s := s) (by rw [Hd.out, Z1.out, Z2.out, Z3.out, Z4.out]; rfl))
  go_wp2_with fail
  go_ret
  exact ⟨ret_int (by rw [← Hq.out, hf.out]), B0.out⟩
 go_wp2_with fail
 refine (HF.out _ _ _ _).mono ?_
 rintro e w1 ⟨rfl, rfl⟩
 rw [Z5.out]
 cases z5
 case false =>
  have hf := Lib.hid (check_no (s := s) (by rw [Hd.out, Z1.out, Z2.out, Z3.out, Z4.out, Z5.out]; rfl))
  go_wp2_with fail
  go_ret
  exact ⟨ret_int (by rw [← Hq.out, hf.out]), B0.out⟩
 have hin : seIn s = true := by rw [Hd.out, Z1.out, Z2.out, Z3.out, Z4.out, Z5.out]; rfl
 obtain ⟨k1, k2, k3, k4⟩ := wrap_far (seIn_bd hin)
 have Hin := Lib.hid hin
 clear hin
 go_wp2_with fail
 refine (HV.out _ _ _ _ _ HX3.out).mono ?_
 rintro e w1 ⟨rfl, rfl⟩
 obtain ⟨z6, hz6⟩ : ∃ z, gridPt ⟨s.at_.x + s.cols * s.width, s.at_.y + s.rows * s.height⟩ = z := ⟨_, rfl⟩
 rw [hz6]
 have hf : q = if z6 = true then 0 else 2 := by
  rw [← Hq.out, seCheck, seOk, Hin.out, seFar, hz6, Bool.true_and]
 have HF6 := Lib.hid hf
 clear hf hz6 k1 k2 k3 k4
 cases z6
 ·
  go_wp2_with fail
  go_ret
  exact ⟨ret_int (by rw [HF6.out]; rfl), B0.out⟩
 ·
  go_wp2_with fail
  go_ret
  exact ⟨ret_int (by rw [HF6.out]; rfl), B0.out⟩
end Go.Proofs.YtfdbidagdjnipaaGreatDoor
