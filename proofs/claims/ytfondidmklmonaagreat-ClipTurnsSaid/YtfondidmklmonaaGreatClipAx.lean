/- mapsheetslaw41.awake: true. -/
import Derived.Test.YtfondidmklmonaaGreatJ17
set_option linter.unusedSimpArgs false
set_option linter.unusedVariables false
namespace Go.Proofs.YtfondidmklmonaaGreat
open Go.RowKit

def RetAll41 (w : World) (e : Ending) (w' : World) : Prop :=
 ∃ A c L, e = .returned (.tuple #[.slice A 3 c, .int .i64 0]) ∧ Below w.heap.size w w' ∧ L.map (·.1) = [prt41a, prt41b, prt41c] ∧ Prts w' (.slice A 3 c) L
def RetPart41 (w : World) (x : Prt) (z : Int) (e : Ending) (w' : World) : Prop :=
 ∃ A n c A' n' c', e = .returned (.tuple #[.agg #[.int .i64 x.sheet, .slice A n c, .slice A' n' c'], .int .i64 z]) ∧ Below w.heap.size w w' ∧ PrtO w' w.heap.size x (.slice A n c) (.slice A' n' c')
theorem PrtO.drew {w : World} {B : Nat} {x : Prt} {vp vn : Value} (h : PrtO w B x vp vn) : PrtO w.drew B x vp vn := h.keep (bD (bR w))
theorem PrtO.alloc {w : World} {B : Nat} {x : Prt} {vp vn : Value} (h : PrtO w B x vp vn) (o : Obj) : PrtO (w.alloc o) B x vp vn := h.keep (bA (bR w) o)
theorem all41 (v : Value) (w : World) (h : PlV w v sq41) : Calls Tryz.prog 15 #[v, .agg #[.int .i64 (-10), .int .i64 0, .int .i64 10, .int .i64 10, .int .i64 3, .int .i64 1]] w (RetAll41 w) := by
 refine (All_spec v sq41 se41 w h sq41_sm).mono ?_
 rintro e w' ⟨A, c, L, he, hb, hm, ho⟩
 rw [sq41_all] at he hm ho
 exact ⟨A, c, L.map rdX, he, hb, by rw [List.map_map]; exact hm, ho.read⟩
theorem part41 {p : Pl} {n z : Int} {x : Prt} (v : Value) (w : World) (h : PlV w v p) (hs : SmP p) (hr : partRes p se41 n = (x, z)) : Calls Tryz.prog 12 #[v, .agg #[.int .i64 (-10), .int .i64 0, .int .i64 10, .int .i64 10, .int .i64 3, .int .i64 1], .int .i64 n] w (RetPart41 w x z) := by
 refine (Part_spec v p se41 n w h hs).mono ?_
 rintro e w' ⟨A, m, c, A', m', c', he, hb, ho⟩
 rw [hr] at he ho
 exact ⟨A, m, c, A', m', c', he, hb, ho⟩
/-- a part with one piece, in memory -/
theorem one_piece {w : World} {s : Int} {v vn : Value} {x : Prt} {y : Pc} (h : PrtV w (.agg #[.int .i64 s, v, vn]) x) (hx : x.pieces = [y]) :
  ∃ b o c P e B d, v = .slice (some ⟨b, o, none⟩) 1 c ∧ vn = .slice B x.nodes.length d ∧ b < w.heap.size ∧ w.cell? ⟨b, o + 1, none⟩ = some (.slice P y.path.length e) ∧ Pts w (.slice P y.path.length e) y.path := by
 obtain ⟨vp, vm, pl, he, hpl, ⟨⟨A, c, hv, hn, hc, hR⟩, hV⟩, ⟨B, d, hvn, -⟩⟩ := h
 obtain ⟨-, f1, f2⟩ : s = x.sheet ∧ v = vp ∧ vn = vm := by simpa using he
 subst f1 f2
 rw [hx] at hpl
 have hl : pl.length = 1 := by have := congrArg List.length hpl; simpa using this.symm
 obtain ⟨z, hz⟩ := List.length_eq_one_iff.1 hl
 subst hz
 have hy : y = z.1 := by simpa using hpl
 obtain ⟨b, o, rfl, hlb, c0, c1, c2, c3⟩ := hR.pc (k := 0) (by simp)
 have hp := hV 0 (by simp)
 simp only [List.getElem_cons_zero, Nat.zero_mul, Nat.add_zero] at c1 hp
 obtain ⟨P, e, hpe, hrest⟩ := hp
 rw [hpe] at c1
 rw [hy]
 exact ⟨b, o, c, P, e, B, d, hv, hvn, hlb, c1, P, e, rfl, hrest⟩
/-- the three parts in memory -/
structure Three (w : World) (b o : Nat) (v1 v2 v3 u1 u2 u3 : Value) : Prop where
 lt : b < w.heap.size
 c0 : w.cell? ⟨b, o, none⟩ = some (.int .i64 1)
 c1 : w.cell? ⟨b, o + 1, none⟩ = some v1
 c2 : w.cell? ⟨b, o + 2, none⟩ = some u1
 c3 : w.cell? ⟨b, o + 3, none⟩ = some (.int .i64 2)
 c4 : w.cell? ⟨b, o + 4, none⟩ = some v2
 c5 : w.cell? ⟨b, o + 5, none⟩ = some u2
 c6 : w.cell? ⟨b, o + 6, none⟩ = some (.int .i64 3)
 c7 : w.cell? ⟨b, o + 7, none⟩ = some v3
 c8 : w.cell? ⟨b, o + 8, none⟩ = some u3
 p1 : PrtV w (.agg #[.int .i64 1, v1, u1]) prt41a
 p2 : PrtV w (.agg #[.int .i64 2, v2, u2]) prt41b
 p3 : PrtV w (.agg #[.int .i64 3, v3, u3]) prt41c
theorem Three.mono {w w' : World} {b o : Nat} {v1 v2 v3 u1 u2 u3 : Value} (h : Three w b o v1 v2 v3 u1 u2 u3) (hb : Below w.heap.size w w') : Three w' b o v1 v2 v3 u1 u2 u3 :=
 ⟨Nat.lt_of_lt_of_le h.lt hb.size, keepc hb h.c0, keepc hb h.c1, keepc hb h.c2, keepc hb h.c3, keepc hb h.c4, keepc hb h.c5, keepc hb h.c6, keepc hb h.c7, keepc hb h.c8, h.p1.mono hb, h.p2.mono hb, h.p3.mono hb⟩
theorem three_of {w : World} {A : Option Addr} {c : Nat} {L : List (Prt × Value × Value)} (h : Prts w (.slice A 3 c) L) (hL : L.map (·.1) = [prt41a, prt41b, prt41c]) :
  ∃ b o v1 v2 v3 u1 u2 u3, A = some ⟨b, o, none⟩ ∧ Three w b o v1 v2 v3 u1 u2 u3 := by
 obtain ⟨⟨A', c', hv, hn, hc, hR⟩, hV⟩ := h
 have hl : L.length = 3 := by have := congrArg List.length hL; simpa using this
 injection hv with hA _ _
 subst hA
 obtain ⟨x1, x2, x3, rfl⟩ : ∃ x1 x2 x3, L = [x1, x2, x3] := by
  match L, hl with
  | [a, b, c], _ => exact ⟨a, b, c, rfl⟩
 simp only [List.map_cons, List.map_nil, List.cons.injEq, and_true] at hL
 obtain ⟨h1, h2, h3⟩ := hL
 obtain ⟨b, o, hA1, hlb, a0, a1, a2⟩ := hR.prt (k := 0) (by simp)
 obtain ⟨b', o', hA2, -, b0, b1, b2⟩ := hR.prt (k := 1) (by simp)
 obtain ⟨b'', o'', hA3, -, d0, d1, d2⟩ := hR.prt (k := 2) (by simp)
 rw [hA1] at hA2 hA3
 obtain ⟨rfl, rfl⟩ : b = b' ∧ o = o' := by simpa using hA2
 obtain ⟨rfl, rfl⟩ : b = b'' ∧ o = o'' := by simpa using hA3
 have p1 := hV 0 (by simp)
 have p2 := hV 1 (by simp)
 have p3 := hV 2 (by simp)
 simp only [List.getElem_cons_zero, List.getElem_cons_succ, h1, h2, h3] at a0 a1 a2 b0 b1 b2 d0 d1 d2 p1 p2 p3
 exact ⟨b, o, _, _, _, _, _, _, hA1, ⟨hlb, by simpa [prt41a] using a0, by simpa using a1, by simpa using a2, by simpa [prt41b] using b0, by simpa using b1, by simpa using b2, by simpa [prt41c] using d0, by simpa using d1, by simpa using d2, p1, p2, p3⟩⟩

/-- the path of a part's only piece, in memory -/
structure One (w : World) (b o : Nat) (P : Option Addr) (n e : Nat) (l : List Pt) : Prop where
 lt : b < w.heap.size
 c1 : w.cell? ⟨b, o + 1, none⟩ = some (.slice P n e)
 pts : Pts w (.slice P n e) l
theorem One.mono {w w' : World} {b o : Nat} {P : Option Addr} {n e : Nat} {l : List Pt} (h : One w b o P n e l) (hb : Below w.heap.size w w') : One w' b o P n e l :=
 ⟨Nat.lt_of_lt_of_le h.lt hb.size, keepc hb h.c1, h.pts.mono hb⟩
theorem one_of {w : World} {s : Int} {v vn : Value} {x : Prt} {y : Pc} {k n : Nat} (h : PrtV w (.agg #[.int .i64 s, v, vn]) x) (hx : x.pieces = [y]) (hk : x.nodes.length = k) (hn : y.path.length = n) :
  ∃ b o c P e B d, v = .slice (some ⟨b, o, none⟩) 1 c ∧ vn = .slice B k d ∧ One w b o P n e y.path := by
 obtain ⟨b, o, c, P, e, B, d, h1, h2, h3, h4, h5⟩ := one_piece h hx
 subst hk hn
 exact ⟨b, o, c, P, e, B, d, h1, h2, h3, h4, h5⟩
def Cut41 (x : Prt) (wP : World) (u : Value) (wx : World) : Prop :=
 ∃ g A n c B m d, u = .pointer (some ⟨g, 0, none⟩) ∧ Blk wx g 35 #[.int .i64 x.sheet, .slice A n c, .slice B m d] ∧ PrtV wx (.agg #[.int .i64 x.sheet, .slice A n c, .slice B m d]) x ∧ Below wP.heap.size wP wx
theorem cut41_a {wP w : World} {B0 : Nat} {x : Prt} {A : Option Addr} {n c : Nat} {B : Option Addr} {m d : Nat} (hb : Below wP.heap.size wP (w.alloc (.cells #[.int .i64 x.sheet, .slice A n c, .slice B m d] 35))) (hp : PrtO w B0 x (.slice A n c) (.slice B m d)) :
  Cut41 x wP (.pointer (some ⟨w.heap.size, 0, none⟩)) (w.alloc (.cells #[.int .i64 x.sheet, .slice A n c, .slice B m d] 35)) :=
 ⟨_, A, n, c, B, m, d, rfl, Blk.made rfl _ _, (hp.alloc _).read, hb⟩
theorem cut41_b {wP w : World} {B0 g : Nat} {x : Prt} {A : Option Addr} {n c : Nat} {B : Option Addr} {m d : Nat} {y0 y1 y2 : Value} (hb : Below wP.heap.size wP (((w.setCell ⟨g, 0, none⟩ (.int .i64 x.sheet)).setCell ⟨g, 1, none⟩ (.slice A n c)).setCell ⟨g, 2, none⟩ (.slice B m d))) (hX : Blk w g 35 #[y0, y1, y2]) (hp : PrtO w B0 x (.slice A n c) (.slice B m d)) :
  Cut41 x wP (.pointer (some ⟨g, 0, none⟩)) (((w.setCell ⟨g, 0, none⟩ (.int .i64 x.sheet)).setCell ⟨g, 1, none⟩ (.slice A n c)).setCell ⟨g, 2, none⟩ (.slice B m d)) := by
 have x0 := hX.set_ 0 (.int .i64 x.sheet)
 have x1 := x0.set_ 1 (.slice A n c)
 exact ⟨g, A, n, c, B, m, d, rfl, Blk.put3 hX, (((hp.far hX (by decide) (by decide) (by decide) 0 _).far x0 (by decide) (by decide) (by decide) 1 _).far x1 (by decide) (by decide) (by decide) 2 _).read, hb⟩
def RetArc (w : World) (e : Ending) (w' : World) : Prop := ∃ A c, e = .returned (.slice A 1 c) ∧ Below w.heap.size w w' ∧ Ints w' (.slice A 1 c) [1]
theorem arcs41 (v : Value) (w : World) (h : PrtV w v prt41b) : Calls Tryz.prog 21 #[v] w (RetArc w) := by
 refine (cArcs_spec v prt41b w h (by decide)).mono ?_
 rintro e w' ⟨A, c, he, hb, ho⟩
 rw [sq41_arcs] at he ho
 exact ⟨A, c, he, hb, ho.sl⟩
theorem vias_none {w : World} {a : Ar} (h : a.via = []) : Vias w [(a, .slice none 0 0)] := vias_one (by rw [h]; exact Sl.nil _)

set_option maxRecDepth 100000 in
set_option maxHeartbeats 8000000 in
theorem awake41_spec (w : World) : Calls Tryz.prog 11 #[] w fun e w' => e = .returned (.bool true) ∧ Below w.heap.size w w' := by
 have HSq := Lib.hid square41_spec
 have HAll := Lib.hid all41
 have HP2 := Lib.hid (fun v W h => part41 v W h sq41_sm sq41_two)
 have HP4 := Lib.hid (fun v W h => part41 v W h sq41_sm sq41_four)
 have HPs := Lib.hid (fun v W h => part41 v W h st41_sm st41_two)
 go_enter Tryz.func11, Tryz.ntmps11
 go_upto_region 2 with fail
 obtain ⟨g1, hg1⟩ : ∃ g, w.heap.size = g := ⟨_, rfl⟩
 obtain ⟨W1, hW⟩ : ∃ W : World, W = w.alloc (.cells #[.int .i64 (-10), .int .i64 0, .int .i64 10, .int .i64 10, .int .i64 3, .int .i64 1] 30) := ⟨_, rfl⟩
 have X1 : Blk W1 g1 30 #[.int .i64 (-10), .int .i64 0, .int .i64 10, .int .i64 10, .int .i64 3, .int .i64 1] := by rw [hW]; exact Blk.made hg1.symm _ _
 have hA : Below w.heap.size w W1 := by rw [hW]; exact bA (bR w) _
 have HB1 := Lib.hid hA
 rw [← hW]
 try rw [hg1]
 have HX1 := Lib.hid X1
 clear hW hA hg1
 obtain ⟨X1l, X1a, X1b, X1c, X1d, X1e, X1f, -, -, -, -, -, -⟩ := X1.facts6
 refine rg_start (Since W1) (.take 1 2 (.call 0 3 (.call 2 7 (.run 5 3 7 (.done))))) (by kernel_rfl) (bD (bR _)) (by kernel_rfl) (by kernel_rfl) (Nat.le_of_ble_eq_true (by kernel_rfl)) ?_
 intro opsR QR Hops HQrg hS
 apply rg_p; exact Hops; exact rfl; exact hS; exact rfl
 · intro _ hqc; go_simp; try rfl
 try simp only [pu]
 refine rg_call (i := 0) (get_of Hops rfl) (fun K hK => ?_)
 have HSrg := Lib.hid hS; clear hS
 refine rg_run (wanted_plain rfl) ?_
 go_simp
 refine (HSq.out _).mono ?_
 rintro e wr1 ⟨q1, q2, q3, rfl, hbr1, hsq⟩
 have hS : Since W1 wr1 := bT (w := W1) HSrg.out hbr1
 clear HSrg
 refine hK.out _ _ hS (fun _ => ?_)
 clear hK K
 try simp only [pu]
 refine rg_call (i := 2) (get_of Hops rfl) (fun K hK => ?_)
 have HSrg := Lib.hid hS; clear hS
 refine rg_run (wanted_plain rfl) ?_
 go_simp
 refine (HAll.out _ _ hsq).mono ?_
 rintro e wr2 ⟨A2, c2, L2, rfl, hbr2, hL2, hp2⟩
 have hS : Since W1 wr2 := bT (w := W1) HSrg.out hbr2
 clear HSrg
 refine hK.out _ _ hS (fun _ => ?_)
 clear hK K
 try simp only [pu]
 iterate 5
  apply rg_p; exact Hops; exact rfl; exact hS; exact rfl
  · intro _ hqc; go_simp; try rfl
  try simp only [pu]
 refine rg_done ?_
 refine HQrg.down _ _ ?_
 have hB : Below W1.heap.size W1 wr2 := hS
 clear hS HQrg Hops
 obtain ⟨wP, hwP⟩ : ∃ wP : World, wP = wr2 := ⟨_, rfl⟩
 rw [← hwP] at hB hp2 ⊢
 have HBP := Lib.hid (bT HB1.out hB)
 have HX1P := Lib.hid (HX1.out.keep hB)
 obtain ⟨b2, o2, v1, v2, v3, u1, u2, u3, rfl, h3⟩ := three_of hp2 hL2
 obtain ⟨pb1, po1, pc1, P1, e1, B1, d1, rfl, rfl, h31⟩ := one_of (k := 1) (n := 2) h3.p1 rfl rfl rfl
 obtain ⟨pb2, po2, pc2, P2, e2, B2, d2, rfl, rfl, h32⟩ := one_of (k := 1) (n := 5) h3.p2 rfl rfl rfl
 obtain ⟨pb3, po3, pc3, P3, e3, B3, d3, rfl, rfl, h33⟩ := one_of (k := 0) (n := 2) h3.p3 rfl rfl rfl
 have H3 := Lib.hid h3; have H31 := Lib.hid h31; have H32 := Lib.hid h32; have H33 := Lib.hid h33
 clear hB hwP hp2 hL2 h3 h31 h32 h33 hbr1 hbr2 hsq X1 X1l X1a X1b X1c X1d X1e X1f
 have X1 := HX1P.out
 try clear X1l
 try clear X1a
 try clear X1b
 try clear X1c
 try clear X1d
 try clear X1e
 try clear X1f
 obtain ⟨X1l, X1a, X1b, X1c, X1d, X1e, X1f, -, -, -, -, -, -⟩ := X1.facts6
 go_upto_region 3 with fail
 go_cut [4, 5] (fun u v wx => Cut41 prt41b wP u wx ∧ v = .int .i64 0)
 case first =>
  refine rg_start (SinceB (wP.heap.size) wP) (.take 1 2 (.two 0 3 (.two 2 7 (.run 3 3 7 (.call 6 127 (.call 7 255 (.take 8 511 (.done))))) 6 67 (.call 2 71 (.run 3 3 71 (.call 7 255 (.take 8 511 (.done)))))) 6 66 (.call 0 67 (.call 2 71 (.run 3 3 71 (.call 7 255 (.take 8 511 (.done)))))))) (by kernel_rfl) (Below.drew (Below.refl _ _)) (by kernel_rfl) (by kernel_rfl) (Nat.le_of_ble_eq_true (by kernel_rfl)) ?_
  intro opsR QR Hops HQrg hS
  apply rg_pB; exact Hops; exact rfl; exact hS; exact rfl
  · intro _ hqc; go_simp; try rfl
  try simp only [pu]
  refine rg_two (i := 0) (j := 6) (get_of Hops rfl) (get_of Hops rfl) (fun K hK => ?_) (fun K hK => ?_)
  -- operation 0 first
  ·
   have HSrg := Lib.hid hS; clear hS
   refine rg_run (wanted_plain rfl) ?_
   go_simp
   refine (HSq.out _).mono ?_
   rintro e wr1 ⟨q1, q2, q3, rfl, hbr1, hsq⟩
   have hS : SinceB (wP.heap.size) wP wr1 := bT (w := wP) HSrg.out hbr1
   clear HSrg
   try replace XQ := XQ.keep hbr1
   refine hK.out _ _ hS (fun _ => ?_)
   clear hK K
   try simp only [pu]
   refine rg_two (i := 2) (j := 6) (get_of Hops rfl) (get_of Hops rfl) (fun K hK => ?_) (fun K hK => ?_)
   -- operation 2 first
   ·
    have HSrg := Lib.hid hS; clear hS
    refine rg_run (wanted_plain rfl) ?_
    go_simp
    refine (HP2.out _ _ (by first | exact hsq | exact hsq.mono (bA (bR _) _))).mono ?_
    rintro e wr2 ⟨A3, n3, c3, B3, m3, d3, rfl, hbr2, hp3⟩
    have hS : SinceB (wP.heap.size) wP wr2 := bT (w := wP) HSrg.out hbr2
    clear HSrg
    try replace XQ := XQ.keep hbr2
    refine hK.out _ _ hS (fun _ => ?_)
    clear hK K
    try simp only [pu]
    iterate 3
     apply rg_pB; exact Hops; exact rfl; exact hS; exact rfl
     · intro _ hqc; go_simp; try rfl
     try simp only [pu]
    refine rg_call (i := 6) (get_of Hops rfl) (fun K hK => ?_)
    have HSrg := Lib.hid hS; clear hS
    refine rg_run (wanted_plain rfl) ?_
    go_simp
    have XQy : Below (wP.heap.size) wP (wr2) := HSrg.out
    have XQz : wP.heap.size ≤ (wr2).heap.size := Nat.le_trans (by omega) (show Below (wP.heap.size) wP (wr2) from HSrg.out).size
    refine hK.out _ _ (bAB (by omega) HSrg.out _) (fun hS => ?_)
    clear hK K HSrg
    try replace XQ := XQ.alloc (.cells #[.int .i64 0, .slice none 0 0, .slice none 0 0] 35)
    have XQ := Blk.new (wr2) 35 #[.int .i64 0, .slice none 0 0, .slice none 0 0]
    try simp only [World.size_drew] at XQ XQz
    try simp only [pu]
    refine rg_call (i := 7) (get_of Hops rfl) (fun K hK => ?_)
    have HSrg := Lib.hid hS; clear hS
    refine rg_run (wanted_plain rfl) ?_
    obtain ⟨XQl, XQa, XQb, XQc, XQd, XQe, XQf⟩ := XQ.facts3
    go_simp
    refine hK.out _ _ (by unfold SinceB; have h : Below _ _ _ := HSrg.out; repeat (first | with_reducible assumption | with_reducible exact Below.refl _ _ | with_reducible refine bSB ?_ (by first | omega | (simp; omega)) _ | with_reducible refine Below.drew ?_ | with_reducible refine bAB (by omega) ?_ _ | exact h)) ?_
    intro hS
    clear hK K HSrg
    try simp only [pu]
    apply rg_pB; exact Hops; exact rfl; exact hS; exact rfl
    · intro _ hqc; go_simp; try rfl
    try simp only [pu]
    refine rg_done ?_
    refine HQrg.down _ _ ?_
    have hB : Below (wP.heap.size) wP _ := hS
    clear hS HQrg Hops
    go_wp2_with fail
    go_meet
    case rel => exact ⟨by first | exact cut41_a hB hp3 | exact cut41_b hB XQ hp3, rfl⟩
   -- operation 6 first
   ·
    have HSrg := Lib.hid hS; clear hS
    refine rg_run (wanted_plain rfl) ?_
    go_simp
    have XQy : Below (wP.heap.size) wP (wr1) := HSrg.out
    have XQz : wP.heap.size ≤ (wr1).heap.size := Nat.le_trans (by omega) (show Below (wP.heap.size) wP (wr1) from HSrg.out).size
    refine hK.out _ _ (bAB (by omega) HSrg.out _) (fun hS => ?_)
    clear hK K HSrg
    try replace XQ := XQ.alloc (.cells #[.int .i64 0, .slice none 0 0, .slice none 0 0] 35)
    have XQ := Blk.new (wr1) 35 #[.int .i64 0, .slice none 0 0, .slice none 0 0]
    try simp only [World.size_drew] at XQ XQz
    try simp only [pu]
    refine rg_call (i := 2) (get_of Hops rfl) (fun K hK => ?_)
    have HSrg := Lib.hid hS; clear hS
    refine rg_run (wanted_plain rfl) ?_
    go_simp
    refine (HP2.out _ _ (by first | exact hsq | exact hsq.mono (bA (bR _) _))).mono ?_
    rintro e wr2 ⟨A3, n3, c3, B3, m3, d3, rfl, hbr2, hp3⟩
    have hS : SinceB (wP.heap.size) wP wr2 := bT (w := wP) HSrg.out hbr2
    clear HSrg
    try replace XQ := XQ.keep hbr2
    refine hK.out _ _ hS (fun _ => ?_)
    clear hK K
    try simp only [pu]
    iterate 3
     apply rg_pB; exact Hops; exact rfl; exact hS; exact rfl
     · intro _ hqc; go_simp; try rfl
     try simp only [pu]
    refine rg_call (i := 7) (get_of Hops rfl) (fun K hK => ?_)
    have HSrg := Lib.hid hS; clear hS
    refine rg_run (wanted_plain rfl) ?_
    obtain ⟨XQl, XQa, XQb, XQc, XQd, XQe, XQf⟩ := XQ.facts3
    go_simp
    refine hK.out _ _ (by unfold SinceB; have h : Below _ _ _ := HSrg.out; repeat (first | with_reducible assumption | with_reducible exact Below.refl _ _ | with_reducible refine bSB ?_ (by first | omega | (simp; omega)) _ | with_reducible refine Below.drew ?_ | with_reducible refine bAB (by omega) ?_ _ | exact h)) ?_
    intro hS
    clear hK K HSrg
    try simp only [pu]
    apply rg_pB; exact Hops; exact rfl; exact hS; exact rfl
    · intro _ hqc; go_simp; try rfl
    try simp only [pu]
    refine rg_done ?_
    refine HQrg.down _ _ ?_
    have hB : Below (wP.heap.size) wP _ := hS
    clear hS HQrg Hops
    go_wp2_with fail
    go_meet
    case rel => exact ⟨by first | exact cut41_a hB hp3 | exact cut41_b hB XQ hp3, rfl⟩
  -- operation 6 first
  ·
   have HSrg := Lib.hid hS; clear hS
   refine rg_run (wanted_plain rfl) ?_
   go_simp
   have XQy : Below (wP.heap.size) wP (wP.drew) := HSrg.out
   have XQz : wP.heap.size ≤ (wP.drew).heap.size := Nat.le_trans (by omega) (show Below (wP.heap.size) wP (wP.drew) from HSrg.out).size
   refine hK.out _ _ (bAB (by omega) HSrg.out _) (fun hS => ?_)
   clear hK K HSrg
   try replace XQ := XQ.alloc (.cells #[.int .i64 0, .slice none 0 0, .slice none 0 0] 35)
   have XQ := Blk.new (wP.drew) 35 #[.int .i64 0, .slice none 0 0, .slice none 0 0]
   try simp only [World.size_drew] at XQ XQz
   try simp only [pu]
   refine rg_call (i := 0) (get_of Hops rfl) (fun K hK => ?_)
   have HSrg := Lib.hid hS; clear hS
   refine rg_run (wanted_plain rfl) ?_
   go_simp
   refine (HSq.out _).mono ?_
   rintro e wr1 ⟨q1, q2, q3, rfl, hbr1, hsq⟩
   have hS : SinceB (wP.heap.size) wP wr1 := bT (w := wP) HSrg.out hbr1
   clear HSrg
   try replace XQ := XQ.keep hbr1
   refine hK.out _ _ hS (fun _ => ?_)
   clear hK K
   try simp only [pu]
   refine rg_call (i := 2) (get_of Hops rfl) (fun K hK => ?_)
   have HSrg := Lib.hid hS; clear hS
   refine rg_run (wanted_plain rfl) ?_
   go_simp
   refine (HP2.out _ _ (by first | exact hsq | exact hsq.mono (bA (bR _) _))).mono ?_
   rintro e wr2 ⟨A3, n3, c3, B3, m3, d3, rfl, hbr2, hp3⟩
   have hS : SinceB (wP.heap.size) wP wr2 := bT (w := wP) HSrg.out hbr2
   clear HSrg
   try replace XQ := XQ.keep hbr2
   refine hK.out _ _ hS (fun _ => ?_)
   clear hK K
   try simp only [pu]
   iterate 3
    apply rg_pB; exact Hops; exact rfl; exact hS; exact rfl
    · intro _ hqc; go_simp; try rfl
    try simp only [pu]
   refine rg_call (i := 7) (get_of Hops rfl) (fun K hK => ?_)
   have HSrg := Lib.hid hS; clear hS
   refine rg_run (wanted_plain rfl) ?_
   obtain ⟨XQl, XQa, XQb, XQc, XQd, XQe, XQf⟩ := XQ.facts3
   go_simp
   refine hK.out _ _ (by unfold SinceB; have h : Below _ _ _ := HSrg.out; repeat (first | with_reducible assumption | with_reducible exact Below.refl _ _ | with_reducible refine bSB ?_ (by first | omega | (simp; omega)) _ | with_reducible refine Below.drew ?_ | with_reducible refine bAB (by omega) ?_ _ | exact h)) ?_
   intro hS
   clear hK K HSrg
   try simp only [pu]
   apply rg_pB; exact Hops; exact rfl; exact hS; exact rfl
   · intro _ hqc; go_simp; try rfl
   try simp only [pu]
   refine rg_done ?_
   refine HQrg.down _ _ ?_
   have hB : Below (wP.heap.size) wP _ := hS
   clear hS HQrg Hops
   go_wp2_with fail
   go_meet
   case rel => exact ⟨by first | exact cut41_a hB hp3 | exact cut41_b hB XQ hp3, rfl⟩
 case rest =>
 obtain ⟨⟨g4, A4, n4, c4, B4, m4, d4, rfl, X4, hp4, hb4⟩, rfl⟩ := hcut
 obtain ⟨w4, hw4⟩ : ∃ w4 : World, w4 = wc := ⟨_, rfl⟩
 rw [← hw4] at X4 hp4 hb4 ⊢
 have HB4 := Lib.hid hb4; have HX4 := Lib.hid (show Blk w4 g4 35 #[.int .i64 2, .slice A4 n4 c4, .slice B4 m4 d4] from X4); have HP4v := Lib.hid (show PrtV w4 (.agg #[.int .i64 2, .slice A4 n4 c4, .slice B4 m4 d4]) prt41b from hp4)
 clear hw4 X1 X1l X1a X1b X1c X1d X1e X1f X4 hp4 hb4
 have X1 := HX1P.out.keep HB4.out
 try clear X1l
 try clear X1a
 try clear X1b
 try clear X1c
 try clear X1d
 try clear X1e
 try clear X1f
 obtain ⟨X1l, X1a, X1b, X1c, X1d, X1e, X1f, -, -, -, -, -, -⟩ := X1.facts6
 go_upto_region 4 with fail
 go_cut [6, 7] (fun u v wx => Cut41 prt0 w4 u wx ∧ v = .int .i64 7)
 case first =>
  refine rg_start (SinceB (w4.heap.size) w4) (.take 1 2 (.two 0 3 (.two 2 7 (.run 3 3 7 (.call 6 127 (.call 7 255 (.take 8 511 (.done))))) 6 67 (.call 2 71 (.run 3 3 71 (.call 7 255 (.take 8 511 (.done)))))) 6 66 (.call 0 67 (.call 2 71 (.run 3 3 71 (.call 7 255 (.take 8 511 (.done)))))))) (by kernel_rfl) (Below.drew (Below.refl _ _)) (by kernel_rfl) (by kernel_rfl) (Nat.le_of_ble_eq_true (by kernel_rfl)) ?_
  intro opsR QR Hops HQrg hS
  apply rg_pB; exact Hops; exact rfl; exact hS; exact rfl
  · intro _ hqc; go_simp; try rfl
  try simp only [pu]
  refine rg_two (i := 0) (j := 6) (get_of Hops rfl) (get_of Hops rfl) (fun K hK => ?_) (fun K hK => ?_)
  -- operation 0 first
  ·
   have HSrg := Lib.hid hS; clear hS
   refine rg_run (wanted_plain rfl) ?_
   go_simp
   refine (HSq.out _).mono ?_
   rintro e wr1 ⟨q1, q2, q3, rfl, hbr1, hsq⟩
   have hS : SinceB (w4.heap.size) w4 wr1 := bT (w := w4) HSrg.out hbr1
   clear HSrg
   try replace XQ := XQ.keep hbr1
   refine hK.out _ _ hS (fun _ => ?_)
   clear hK K
   try simp only [pu]
   refine rg_two (i := 2) (j := 6) (get_of Hops rfl) (get_of Hops rfl) (fun K hK => ?_) (fun K hK => ?_)
   -- operation 2 first
   ·
    have HSrg := Lib.hid hS; clear hS
    refine rg_run (wanted_plain rfl) ?_
    go_simp
    refine (HP4.out _ _ (by first | exact hsq | exact hsq.mono (bA (bR _) _))).mono ?_
    rintro e wr2 ⟨A3, n3, c3, B3, m3, d3, rfl, hbr2, hp3⟩
    have hS : SinceB (w4.heap.size) w4 wr2 := bT (w := w4) HSrg.out hbr2
    clear HSrg
    try replace XQ := XQ.keep hbr2
    refine hK.out _ _ hS (fun _ => ?_)
    clear hK K
    try simp only [pu]
    iterate 3
     apply rg_pB; exact Hops; exact rfl; exact hS; exact rfl
     · intro _ hqc; go_simp; try rfl
     try simp only [pu]
    refine rg_call (i := 6) (get_of Hops rfl) (fun K hK => ?_)
    have HSrg := Lib.hid hS; clear hS
    refine rg_run (wanted_plain rfl) ?_
    go_simp
    have XQy : Below (w4.heap.size) w4 (wr2) := HSrg.out
    have XQz : w4.heap.size ≤ (wr2).heap.size := Nat.le_trans (by omega) (show Below (w4.heap.size) w4 (wr2) from HSrg.out).size
    refine hK.out _ _ (bAB (by omega) HSrg.out _) (fun hS => ?_)
    clear hK K HSrg
    try replace XQ := XQ.alloc (.cells #[.int .i64 0, .slice none 0 0, .slice none 0 0] 35)
    have XQ := Blk.new (wr2) 35 #[.int .i64 0, .slice none 0 0, .slice none 0 0]
    try simp only [World.size_drew] at XQ XQz
    try simp only [pu]
    refine rg_call (i := 7) (get_of Hops rfl) (fun K hK => ?_)
    have HSrg := Lib.hid hS; clear hS
    refine rg_run (wanted_plain rfl) ?_
    obtain ⟨XQl, XQa, XQb, XQc, XQd, XQe, XQf⟩ := XQ.facts3
    go_simp
    refine hK.out _ _ (by unfold SinceB; have h : Below _ _ _ := HSrg.out; repeat (first | with_reducible assumption | with_reducible exact Below.refl _ _ | with_reducible refine bSB ?_ (by first | omega | (simp; omega)) _ | with_reducible refine Below.drew ?_ | with_reducible refine bAB (by omega) ?_ _ | exact h)) ?_
    intro hS
    clear hK K HSrg
    try simp only [pu]
    apply rg_pB; exact Hops; exact rfl; exact hS; exact rfl
    · intro _ hqc; go_simp; try rfl
    try simp only [pu]
    refine rg_done ?_
    refine HQrg.down _ _ ?_
    have hB : Below (w4.heap.size) w4 _ := hS
    clear hS HQrg Hops
    go_wp2_with fail
    go_meet
    case rel => exact ⟨by first | exact cut41_a hB hp3 | exact cut41_b hB XQ hp3, rfl⟩
   -- operation 6 first
   ·
    have HSrg := Lib.hid hS; clear hS
    refine rg_run (wanted_plain rfl) ?_
    go_simp
    have XQy : Below (w4.heap.size) w4 (wr1) := HSrg.out
    have XQz : w4.heap.size ≤ (wr1).heap.size := Nat.le_trans (by omega) (show Below (w4.heap.size) w4 (wr1) from HSrg.out).size
    refine hK.out _ _ (bAB (by omega) HSrg.out _) (fun hS => ?_)
    clear hK K HSrg
    try replace XQ := XQ.alloc (.cells #[.int .i64 0, .slice none 0 0, .slice none 0 0] 35)
    have XQ := Blk.new (wr1) 35 #[.int .i64 0, .slice none 0 0, .slice none 0 0]
    try simp only [World.size_drew] at XQ XQz
    try simp only [pu]
    refine rg_call (i := 2) (get_of Hops rfl) (fun K hK => ?_)
    have HSrg := Lib.hid hS; clear hS
    refine rg_run (wanted_plain rfl) ?_
    go_simp
    refine (HP4.out _ _ (by first | exact hsq | exact hsq.mono (bA (bR _) _))).mono ?_
    rintro e wr2 ⟨A3, n3, c3, B3, m3, d3, rfl, hbr2, hp3⟩
    have hS : SinceB (w4.heap.size) w4 wr2 := bT (w := w4) HSrg.out hbr2
    clear HSrg
    try replace XQ := XQ.keep hbr2
    refine hK.out _ _ hS (fun _ => ?_)
    clear hK K
    try simp only [pu]
    iterate 3
     apply rg_pB; exact Hops; exact rfl; exact hS; exact rfl
     · intro _ hqc; go_simp; try rfl
     try simp only [pu]
    refine rg_call (i := 7) (get_of Hops rfl) (fun K hK => ?_)
    have HSrg := Lib.hid hS; clear hS
    refine rg_run (wanted_plain rfl) ?_
    obtain ⟨XQl, XQa, XQb, XQc, XQd, XQe, XQf⟩ := XQ.facts3
    go_simp
    refine hK.out _ _ (by unfold SinceB; have h : Below _ _ _ := HSrg.out; repeat (first | with_reducible assumption | with_reducible exact Below.refl _ _ | with_reducible refine bSB ?_ (by first | omega | (simp; omega)) _ | with_reducible refine Below.drew ?_ | with_reducible refine bAB (by omega) ?_ _ | exact h)) ?_
    intro hS
    clear hK K HSrg
    try simp only [pu]
    apply rg_pB; exact Hops; exact rfl; exact hS; exact rfl
    · intro _ hqc; go_simp; try rfl
    try simp only [pu]
    refine rg_done ?_
    refine HQrg.down _ _ ?_
    have hB : Below (w4.heap.size) w4 _ := hS
    clear hS HQrg Hops
    go_wp2_with fail
    go_meet
    case rel => exact ⟨by first | exact cut41_a hB hp3 | exact cut41_b hB XQ hp3, rfl⟩
  -- operation 6 first
  ·
   have HSrg := Lib.hid hS; clear hS
   refine rg_run (wanted_plain rfl) ?_
   go_simp
   have XQy : Below (w4.heap.size) w4 (w4.drew) := HSrg.out
   have XQz : w4.heap.size ≤ (w4.drew).heap.size := Nat.le_trans (by omega) (show Below (w4.heap.size) w4 (w4.drew) from HSrg.out).size
   refine hK.out _ _ (bAB (by omega) HSrg.out _) (fun hS => ?_)
   clear hK K HSrg
   try replace XQ := XQ.alloc (.cells #[.int .i64 0, .slice none 0 0, .slice none 0 0] 35)
   have XQ := Blk.new (w4.drew) 35 #[.int .i64 0, .slice none 0 0, .slice none 0 0]
   try simp only [World.size_drew] at XQ XQz
   try simp only [pu]
   refine rg_call (i := 0) (get_of Hops rfl) (fun K hK => ?_)
   have HSrg := Lib.hid hS; clear hS
   refine rg_run (wanted_plain rfl) ?_
   go_simp
   refine (HSq.out _).mono ?_
   rintro e wr1 ⟨q1, q2, q3, rfl, hbr1, hsq⟩
   have hS : SinceB (w4.heap.size) w4 wr1 := bT (w := w4) HSrg.out hbr1
   clear HSrg
   try replace XQ := XQ.keep hbr1
   refine hK.out _ _ hS (fun _ => ?_)
   clear hK K
   try simp only [pu]
   refine rg_call (i := 2) (get_of Hops rfl) (fun K hK => ?_)
   have HSrg := Lib.hid hS; clear hS
   refine rg_run (wanted_plain rfl) ?_
   go_simp
   refine (HP4.out _ _ (by first | exact hsq | exact hsq.mono (bA (bR _) _))).mono ?_
   rintro e wr2 ⟨A3, n3, c3, B3, m3, d3, rfl, hbr2, hp3⟩
   have hS : SinceB (w4.heap.size) w4 wr2 := bT (w := w4) HSrg.out hbr2
   clear HSrg
   try replace XQ := XQ.keep hbr2
   refine hK.out _ _ hS (fun _ => ?_)
   clear hK K
   try simp only [pu]
   iterate 3
    apply rg_pB; exact Hops; exact rfl; exact hS; exact rfl
    · intro _ hqc; go_simp; try rfl
    try simp only [pu]
   refine rg_call (i := 7) (get_of Hops rfl) (fun K hK => ?_)
   have HSrg := Lib.hid hS; clear hS
   refine rg_run (wanted_plain rfl) ?_
   obtain ⟨XQl, XQa, XQb, XQc, XQd, XQe, XQf⟩ := XQ.facts3
   go_simp
   refine hK.out _ _ (by unfold SinceB; have h : Below _ _ _ := HSrg.out; repeat (first | with_reducible assumption | with_reducible exact Below.refl _ _ | with_reducible refine bSB ?_ (by first | omega | (simp; omega)) _ | with_reducible refine Below.drew ?_ | with_reducible refine bAB (by omega) ?_ _ | exact h)) ?_
   intro hS
   clear hK K HSrg
   try simp only [pu]
   apply rg_pB; exact Hops; exact rfl; exact hS; exact rfl
   · intro _ hqc; go_simp; try rfl
   try simp only [pu]
   refine rg_done ?_
   refine HQrg.down _ _ ?_
   have hB : Below (w4.heap.size) w4 _ := hS
   clear hS HQrg Hops
   go_wp2_with fail
   go_meet
   case rel => exact ⟨by first | exact cut41_a hB hp3 | exact cut41_b hB XQ hp3, rfl⟩
 case rest =>
 obtain ⟨⟨g6, A6, n6, c6, B6, m6, d6, rfl, -, -, hb6⟩, rfl⟩ := hcut
 obtain ⟨w6, hw6⟩ : ∃ w6 : World, w6 = wc := ⟨_, rfl⟩
 rw [← hw6] at hb6 ⊢
 have HB6 := Lib.hid (bT HB4.out hb6)
 have HX46 := Lib.hid (HX4.out.keep hb6); have HP46 := Lib.hid (HP4v.out.mono hb6)
 have H36 := Lib.hid (H3.out.mono HB6.out); have H316 := Lib.hid (H31.out.mono HB6.out); have H326 := Lib.hid (H32.out.mono HB6.out); have H336 := Lib.hid (H33.out.mono HB6.out)
 clear hw6 X1 X1l X1a X1b X1c X1d X1e X1f hb6 HB4 HX4 HP4v H3 H31 H32 H33
 obtain ⟨tl, t0, t1, t2, t3, t4, t5, t6, t7, t8, -, -, -⟩ := H36.out
 obtain ⟨s1, s2, -⟩ := H316.out
 obtain ⟨s3, s4, -⟩ := H326.out
 obtain ⟨s5, s6, -⟩ := H336.out
 go_wp2_with fail
 have hT := SamePath_spec (.slice P1 2 e1) (.slice (some ⟨w6.heap.size, 0, none⟩) 2 2) [⟨0, 10⟩, ⟨0, 0⟩] [⟨0, 10⟩, ⟨0, 0⟩] (w6.alloc (.cells #[.int .i64 0, .int .i64 10, .int .i64 0, .int .i64 0] 28)) (H316.out.pts.mono (bA (bR w6) _)) (Sl.lit (n := 2) (Blk.made rfl _ _) rfl (le_maxLen (by omega)))
 rw [show decide (([⟨0, 10⟩, ⟨0, 0⟩] : List Pt) = [⟨0, 10⟩, ⟨0, 0⟩]) = true by simp] at hT
 refine hT.mono ?_
 clear hT
 rintro e w8 ⟨rfl, hb8⟩
 have hA8 := bT (bA (bR w6) _) hb8
 have HB8 := Lib.hid (bT HBP.out (bT HB6.out hA8))
 have HX48 := Lib.hid (HX46.out.keep hA8); have HP48 := Lib.hid (HP46.out.mono hA8)
 have H38 := Lib.hid (H36.out.mono hA8); have H338 := Lib.hid (H336.out.mono hA8); have HX18 := Lib.hid (HX1P.out.keep (bT HB6.out hA8))
 have H328 := Lib.hid (H326.out.mono hA8)
 clear hb8 hA8 tl t0 t1 t2 t3 t4 t5 t6 t7 t8 s1 s2 s3 s4 s5 s6 HB6 HX46 HP46 H36 H336 HX1P HBP
 obtain ⟨tl, t0, t1, t2, t3, t4, t5, t6, t7, t8, -, -, -⟩ := H38.out
 obtain ⟨s3, s4, -⟩ := H328.out
 obtain ⟨s5, s6, -⟩ := H338.out
 go_wp2_with fail
 have hT := SamePath_spec (.slice P3 2 e3) (.slice (some ⟨w8.heap.size, 0, none⟩) 2 2) [⟨10, 0⟩, ⟨10, 10⟩] [⟨10, 0⟩, ⟨10, 10⟩] (w8.alloc (.cells #[.int .i64 10, .int .i64 0, .int .i64 10, .int .i64 10] 28)) (H338.out.pts.mono (bA (bR w8) _)) (Sl.lit (n := 2) (Blk.made rfl _ _) rfl (le_maxLen (by omega)))
 rw [show decide (([⟨10, 0⟩, ⟨10, 10⟩] : List Pt) = [⟨10, 0⟩, ⟨10, 10⟩]) = true by simp] at hT
 refine hT.mono ?_
 clear hT
 rintro e w10 ⟨rfl, hb10⟩
 have hA10 := bT (bA (bR w8) _) hb10
 obtain ⟨gn, hgn⟩ : ∃ g, w10.heap.size = g := ⟨_, rfl⟩
 obtain ⟨ga, hga⟩ : ∃ g, gn + 1 = g := ⟨_, rfl⟩
 obtain ⟨gp, hgp⟩ : ∃ g, ga + 1 = g := ⟨_, rfl⟩
 obtain ⟨W11, hW11⟩ : ∃ W : World, W = ((w10.alloc (.cells #[.int .i64 1, .int .i64 11, .int .i64 7, .int .i64 2, .int .i64 9, .int .i64 11] 59)).alloc (.cells #[.int .i64 1, .int .i64 1, .int .i64 2, .slice none 0 0, .int .i64 0, .int .i64 0] 63)).alloc (.cells #[.slice (some ⟨gn, 0, none⟩) 2 2, .slice (some ⟨ga, 0, none⟩) 1 1, .slice none 0 0] 26) := ⟨_, rfl⟩
 have hA11 : Below w8.heap.size w8 W11 := by rw [hW11]; exact bA (bA (bA hA10 _) _) _
 have X8 : Blk W11 gp 26 #[.slice (some ⟨gn, 0, none⟩) 2 2, .slice (some ⟨ga, 0, none⟩) 1 1, .slice none 0 0] := by rw [hW11]; exact Blk.made (by simp; omega) _ _
 have hpl : PlV W11 (.agg #[.slice (some ⟨gn, 0, none⟩) 2 2, .slice (some ⟨ga, 0, none⟩) 1 1, .slice none 0 0]) st41 := by
  rw [hW11]
  exact PlV.blks41 (al := [(⟨1, 1, 2, [], 0, 0⟩, .slice none 0 0)]) rfl (Sl.lit (n := 2) (((Blk.made (by omega) _ _).alloc _).alloc _) rfl (le_maxLen (by omega))) (Sl.lit (n := 1) ((Blk.made (by simp; omega) _ _).alloc _) rfl (le_maxLen (by omega))) (vias_none rfl) (Sl.nil _)
 have HPl := Lib.hid hpl; have HX8 := Lib.hid X8
 have HB11 := Lib.hid (bT HB8.out hA11)
 have HX411 := Lib.hid (HX48.out.keep hA11); have HP411 := Lib.hid (HP48.out.mono hA11)
 have H311 := Lib.hid (H38.out.mono hA11); have HX111 := Lib.hid (HX18.out.keep hA11)
 clear hb10 hA10 hA11 hpl tl t0 t1 t2 t3 t4 t5 t6 t7 t8 s3 s4 s5 s6 HB8 HX48 HP48 H38 H338 H328 HX18
 go_upto_region 10 with fail
 rw [← hW11]
 clear hW11 hgn hga hgp
 have X1 := HX111.out
 try clear X1l
 try clear X1a
 try clear X1b
 try clear X1c
 try clear X1d
 try clear X1e
 try clear X1f
 obtain ⟨X1l, X1a, X1b, X1c, X1d, X1e, X1f, -, -, -, -, -, -⟩ := X1.facts6
 obtain ⟨X8l, X8a, X8b, X8c, -, -, -⟩ := X8.facts3
 go_wp2_with fail
 refine (HPs.out _ W11 HPl.out).mono ?_
 rintro e w12 ⟨A9, n9, c9, B9, m9, d9, rfl, hb12, hp9⟩
 have HB12 := Lib.hid (bT HB11.out hb12)
 have HX412 := Lib.hid (HX411.out.keep hb12); have HP412 := Lib.hid (HP411.out.mono hb12)
 have H312 := Lib.hid (H311.out.mono hb12)
 obtain ⟨L9, hl1, hl2, -⟩ := hp9
 have HR9 := Lib.hid hl1.read
 have HM9 := Lib.hid (show (L9.map rdP).map (·.1) = [stp41] by rw [List.map_map]; exact hl2)
 clear hb12 hl1 hl2 X1 X1l X1a X1b X1c X1d X1e X1f X8 X8l X8a X8b X8c HB11 HX411 HP411 H311 HX111
 go_wp2_with fail
 obtain ⟨W13, hW13⟩ : ∃ W : World, W = ((w12.alloc (.cells #[.int .i64 2, .slice A9 n9 c9, .slice B9 m9 d9] 35)).alloc (.cells #[.int .i64 10, .int .i64 9, .int .i64 10, .int .i64 10] 28)).alloc (.cells #[.int .i64 1, .slice (some ⟨w12.heap.size + 1, 0, none⟩) 2 2, .int .i64 3, .int .i64 4] 55) := ⟨_, rfl⟩
 have hA13 : Below w12.heap.size w12 W13 := by rw [hW13]; exact bA (bA (bA (bR _) _) _) _
 have hlit : Pcs W13 (.slice (some ⟨w12.heap.size + 1 + 1, 0, none⟩) 1 1) [(stp41, .slice (some ⟨w12.heap.size + 1, 0, none⟩) 2 2)] := by
  rw [hW13]
  refine ⟨Sl.lit (n := 1) (Blk.made (by simp) _ _) rfl (le_maxLen (by omega)), fun k hk => ?_⟩
  have : k = 0 := by simpa using hk
  subst this
  exact Sl.lit (n := 2) ((Blk.made (by simp) _ _).alloc _) rfl (le_maxLen (by omega))
 have hT := SamePieces_spec (.slice A9 n9 c9) (.slice (some ⟨w12.heap.size + 1 + 1, 0, none⟩) 1 1) (L9.map rdP) [(stp41, .slice (some ⟨w12.heap.size + 1, 0, none⟩) 2 2)] W13 (HR9.out.mono hA13) hlit
 rw [HM9.out, show decide ([stp41] = List.map (fun x => x.1) [(stp41, Value.slice (some ⟨w12.heap.size + 1, 0, none⟩) 2 2)]) = true by simp] at hT
 try rw [← hW13]
 refine hT.mono ?_
 clear hT
 rintro e w14 ⟨rfl, hb14⟩
 have hA14 := bT hA13 hb14
 have HB14 := Lib.hid (bT HB12.out hA14)
 have HX414 := Lib.hid (HX412.out.keep hA14); have HP414 := Lib.hid (HP412.out.mono hA14)
 have H314 := Lib.hid (H312.out.mono hA14)
 clear hW13 hA13 hlit hb14 hA14 HB12 HX412 HP412 H312 HR9 HM9
 obtain ⟨tl, t0, t1, t2, t3, t4, t5, t6, t7, t8, -, -, -⟩ := H314.out
 have X4 := HX414.out
 obtain ⟨X4l, X4a, X4b, X4c, -, -, -⟩ := X4.facts3
 have HS1 := Lib.hid (fun W (hW : Below w14.heap.size w14 W) => cSame_spec _ _ prt41b prt41b W (HP414.out.mono hW) (H314.out.p2.mono hW))
 rw [sq41_bc] at HS1
 have HS2 := Lib.hid (fun W (hW : Below w14.heap.size w14 W) => cSame_spec _ _ prt41b prt41a W (HP414.out.mono hW) (H314.out.p1.mono hW))
 rw [sq41_ba] at HS2
 have HAr := Lib.hid (fun W (hW : Below w14.heap.size w14 W) => arcs41 _ W (HP414.out.mono hW))
 have TSI := fun v u W (h : Ints W v [1]) (h' : Ints W u [1]) => SameInts_spec v u [1] [1] W h h'
 rw [show decide (([1] : List Int) = [1]) = true by simp] at TSI
 have HSI := Lib.hid TSI
 clear TSI
 go_upto_region 13 with fail
 refine rg_start (Since w14) (.run 34 0 0 (.call 34 34359738367 (.run 6 35 34359738367 (.call 41 4398046511103 (.run 4 42 4398046511103 (.two 46 140737488355327 (.call 47 281474976710655 (.call 48 562949953421311 (.take 49 1125899906842623 (.take 50 2251799813685247 (.done))))) 47 211106232532991 (.call 46 281474976710655 (.call 48 562949953421311 (.take 49 1125899906842623 (.take 50 2251799813685247 (.done))))))))))) (by kernel_rfl) (bD (bR _)) (by kernel_rfl) (by kernel_rfl) (Nat.le_of_ble_eq_true (by kernel_rfl)) ?_
 intro opsR QR Hops HQrg hS
 iterate 7
  apply rg_p; exact Hops; exact rfl; exact hS; exact rfl
  · intro _ hqc; go_simp; try rfl
  try simp only [pu]
 iterate 6
  apply rg_g; exact Hops; exact rfl; exact hS; iterate 4 exact rfl
  · intro _ hqc; go_simp; try rfl
  try simp only [pu]
 iterate 2
  apply rg_p; exact Hops; exact rfl; exact hS; exact rfl
  · intro _ hqc; go_simp; try rfl
  try simp only [pu]
 iterate 6
  apply rg_g; exact Hops; exact rfl; exact hS; iterate 4 exact rfl
  · intro _ hqc; go_simp; try rfl
  try simp only [pu]
 iterate 2
  apply rg_p; exact Hops; exact rfl; exact hS; exact rfl
  · intro _ hqc; go_simp; try rfl
  try simp only [pu]
 iterate 5
  apply rg_g; exact Hops; exact rfl; exact hS; iterate 4 exact rfl
  · intro _ hqc; go_simp; try rfl
  try simp only [pu]
 iterate 2
  apply rg_p; exact Hops; exact rfl; exact hS; exact rfl
  · intro _ hqc; go_simp; try rfl
  try simp only [pu]
 iterate 4
  apply rg_g; exact Hops; exact rfl; exact hS; iterate 4 exact rfl
  · intro _ hqc; go_simp; try rfl
  try simp only [pu]
 refine rg_call (i := 34) (get_of Hops rfl) (fun K hK => ?_)
 have HSrg := Lib.hid hS; clear hS
 refine rg_run (wanted_yes rfl (get_of Hops rfl) rfl rfl) ?_
 go_simp
 refine (HS1.out _ HSrg.out).mono ?_
 rintro e wr1 ⟨rfl, hbr1⟩
 have hS : Since w14 wr1 := bT (w := w14) HSrg.out hbr1
 clear HSrg
 try replace XI := XI.keep hbr1
 refine hK.out _ _ hS (fun _ => ?_)
 clear hK K
 try simp only [pu]
 iterate 2
  apply rg_p; exact Hops; exact rfl; exact hS; exact rfl
  · intro _ hqc; go_simp; try rfl
  try simp only [pu]
 iterate 4
  apply rg_g; exact Hops; exact rfl; exact hS; iterate 4 exact rfl
  · intro _ hqc; go_simp; try rfl
  try simp only [pu]
 refine rg_call (i := 41) (get_of Hops rfl) (fun K hK => ?_)
 have HSrg := Lib.hid hS; clear hS
 refine rg_run (wanted_yes rfl (get_of Hops rfl) rfl rfl) ?_
 go_simp
 refine (HS2.out _ HSrg.out).mono ?_
 rintro e wr2 ⟨rfl, hbr2⟩
 have hS : Since w14 wr2 := bT (w := w14) HSrg.out hbr2
 clear HSrg
 try replace XI := XI.keep hbr2
 refine hK.out _ _ hS (fun _ => ?_)
 clear hK K
 try simp only [pu]
 apply rg_g; exact Hops; exact rfl; exact hS; iterate 4 exact rfl
 · intro _ hqc; go_simp; try rfl
 try simp only [pu]
 iterate 2
  apply rg_p; exact Hops; exact rfl; exact hS; exact rfl
  · intro _ hqc; go_simp; try rfl
  try simp only [pu]
 apply rg_g; exact Hops; exact rfl; exact hS; iterate 4 exact rfl
 · intro _ hqc; go_simp; try rfl
 try simp only [pu]
 refine rg_two (i := 46) (j := 47) (get_of Hops rfl) (get_of Hops rfl) (fun K hK => ?_) (fun K hK => ?_)
 -- operation 46 first
 ·
  have HSrg := Lib.hid hS; clear hS
  refine rg_run (wanted_yes rfl (get_of Hops rfl) rfl rfl) ?_
  go_simp
  refine (HAr.out _ HSrg.out).mono ?_
  rintro e wr3 ⟨AA, cA, rfl, hbr3, ho9⟩
  have hS : Since w14 wr3 := bT (w := w14) HSrg.out hbr3
  clear HSrg
  try replace XI := XI.keep hbr3
  refine hK.out _ _ hS (fun _ => ?_)
  clear hK K
  try simp only [pu]
  refine rg_call (i := 47) (get_of Hops rfl) (fun K hK => ?_)
  have HSrg := Lib.hid hS; clear hS
  refine rg_run (wanted_yes rfl (get_of Hops rfl) rfl rfl) ?_
  go_simp
  refine hK.out _ _ (bA HSrg.out _) (fun hS => ?_)
  clear hK K HSrg
  try replace XI := XI.alloc (.cells #[.int .i64 1] 3)
  have XI := Blk.new (wr3) 3 #[.int .i64 1]
  try simp only [World.size_drew] at XI XIz
  try simp only [pu]
  refine rg_call (i := 48) (get_of Hops rfl) (fun K hK => ?_)
  have HSrg := Lib.hid hS; clear hS
  refine rg_run (wanted_yes rfl (get_of Hops rfl) rfl rfl) ?_
  go_simp
  refine (HSI.out _ _ _ (by first | exact ho9 | exact ho9.mono (bA (bR _) _)) (Sl.lit (n := 1) XI rfl (le_maxLen (by omega)))).mono ?_
  rintro e wr4 ⟨rfl, hbr4⟩
  have hS : Since w14 wr4 := bT (w := w14) HSrg.out hbr4
  clear HSrg
  try replace XI := XI.keep hbr4
  refine hK.out _ _ hS (fun _ => ?_)
  clear hK K
  try simp only [pu]
  iterate 2
   apply rg_p; exact Hops; exact rfl; exact hS; exact rfl
   · intro _ hqc; go_simp; try rfl
   try simp only [pu]
  refine rg_done ?_
  refine HQrg.down _ _ ?_
  have hB : Below w14.heap.size w14 wr4 := hS
  clear hS HQrg Hops
  go_wp2_with fail
  go_ret
  exact ⟨rfl, bT HB14.out hB⟩
 -- operation 47 first
 ·
  have HSrg := Lib.hid hS; clear hS
  refine rg_run (wanted_yes rfl (get_of Hops rfl) rfl rfl) ?_
  go_simp
  refine hK.out _ _ (bA HSrg.out _) (fun hS => ?_)
  clear hK K HSrg
  try replace XI := XI.alloc (.cells #[.int .i64 1] 3)
  have XI := Blk.new (wr2) 3 #[.int .i64 1]
  try simp only [World.size_drew] at XI XIz
  try simp only [pu]
  refine rg_call (i := 46) (get_of Hops rfl) (fun K hK => ?_)
  have HSrg := Lib.hid hS; clear hS
  refine rg_run (wanted_yes rfl (get_of Hops rfl) rfl rfl) ?_
  go_simp
  refine (HAr.out _ HSrg.out).mono ?_
  rintro e wr3 ⟨AA, cA, rfl, hbr3, ho9⟩
  have hS : Since w14 wr3 := bT (w := w14) HSrg.out hbr3
  clear HSrg
  try replace XI := XI.keep hbr3
  refine hK.out _ _ hS (fun _ => ?_)
  clear hK K
  try simp only [pu]
  refine rg_call (i := 48) (get_of Hops rfl) (fun K hK => ?_)
  have HSrg := Lib.hid hS; clear hS
  refine rg_run (wanted_yes rfl (get_of Hops rfl) rfl rfl) ?_
  go_simp
  refine (HSI.out _ _ _ (by first | exact ho9 | exact ho9.mono (bA (bR _) _)) (Sl.lit (n := 1) XI rfl (le_maxLen (by omega)))).mono ?_
  rintro e wr4 ⟨rfl, hbr4⟩
  have hS : Since w14 wr4 := bT (w := w14) HSrg.out hbr4
  clear HSrg
  try replace XI := XI.keep hbr4
  refine hK.out _ _ hS (fun _ => ?_)
  clear hK K
  try simp only [pu]
  iterate 2
   apply rg_p; exact Hops; exact rfl; exact hS; exact rfl
   · intro _ hqc; go_simp; try rfl
   try simp only [pu]
  refine rg_done ?_
  refine HQrg.down _ _ ?_
  have hB : Below w14.heap.size w14 wr4 := hS
  clear hS HQrg Hops
  go_wp2_with fail
  go_ret
  exact ⟨rfl, bT HB14.out hB⟩
end Go.Proofs.YtfondidmklmonaaGreat
