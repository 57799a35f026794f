/- mapsheetslaw15: square, awake. Plain law: crossings in their order: a sorted list of the same crossings is the one that is made by inserting each. No walk here. Words for memory of layer 42: crossings, pieces, parts, series. mapsheetsref42.Small, mapsheetsref15.Small. (printed by gen/smalle.py) -/
import Derived.Test.YtoclnkfeblfpbaaGreatJ15
import Derived.Test.YtoclnkfeblfpbaaGreatJ13
import Derived.Test.YtoclnkfeblfpbaaGreatGB
set_option linter.unusedSimpArgs false
set_option linter.unusedVariables false
namespace Go.Proofs.YtoclnkfeblfpbaaGreat
open Go.RowKit

def sqA (i f t : Int) : Ar := ⟨i, f, t, [], 0, 0⟩
def sqP : Pl := ⟨[⟨1, ⟨0, 0⟩⟩, ⟨2, ⟨9, 0⟩⟩, ⟨3, ⟨9, 9⟩⟩, ⟨4, ⟨0, 9⟩⟩], [sqA 1 1 2, sqA 2 2 3, sqA 3 3 4, sqA 4 4 1, sqA 5 1 3], []⟩
def sqC : List (List Int) := [[-5, 1, 2], [-4, -3, -2, -1], [3, 4, 5]]
theorem sq_chk : checkS sqP = 0 := by decide +kernel
theorem sq_valid : Valid sqP := (check_zero sqP).1 sq_chk
theorem sq_cyc : cyclesD sqP = sqC := by decide +kernel
theorem sq_parts : partsD sqP = 1 := by decide +kernel
theorem sq_start : startD sqP (-5) = 3 := by decide +kernel
theorem sq_next : nextD sqP 2 = -5 := by decide +kernel
theorem sq_around : aroundD sqP 1 = [1, 5, -4] := by decide +kernel
theorem sq_twice : twiceD sqP [-5, 1, 2] = 81 := by decide +kernel
def sdP : Pl := ⟨[], [⟨1, 0, 0, [], 7, 8⟩], []⟩
theorem sd_side : sideD sdP (-1) = 8 := by decide +kernel

def RetSq (w : World) (e : Ending) (w' : World) : Prop :=
 ∃ g1 g2, e = .returned (.agg #[.slice (some ⟨g1, 0, none⟩) 4 4, .slice (some ⟨g2, 0, none⟩) 5 5, .slice none 0 0]) ∧ Below w.heap.size w w' ∧ PlV w' (.agg #[.slice (some ⟨g1, 0, none⟩) 4 4, .slice (some ⟨g2, 0, none⟩) 5 5, .slice none 0 0]) sqP
theorem vias_nil {w : World} {l : List (Ar × Value)} (h : ∀ x ∈ l, x.1.via = [] ∧ x.2 = .slice none 0 0) : Vias w l := fun k hk => by
 obtain ⟨h1, h2⟩ := h l[k] (List.getElem_mem hk)
 rw [h1, h2]
 exact Sl.nil w
theorem PlV.blks {w : World} {vn va vf : Value} {p : Pl} {al : List (Ar × Value)} (hp : p.arcs = al.map (·.1)) (hn : Nds w vn p.nodes) (ha : Sl w va al.length (al.flatMap arC)) (hv : Vias w al) (hf : Ints w vf p.faces) : PlV w (.agg #[vn, va, vf]) p :=
 ⟨vn, va, vf, al, rfl, hp, hn, ⟨ha, hv⟩, hf⟩
set_option maxRecDepth 100000 in
set_option maxHeartbeats 1000000 in
theorem square_spec (w : World) : Calls Tryz.prog 28 #[] w (RetSq w) := by
 go_enter Tryz.func28, Tryz.ntmps28
 go_wp2_with fail
 have X1 : Blk (((w.alloc (.cells #[.slice (some ⟨w.heap.size + 1, 0, none⟩) 4 4, .slice (some ⟨w.heap.size + 1 + 1, 0, none⟩) 5 5, .slice none 0 0] 26)).alloc (.cells #[.int .i64 1, .int .i64 0, .int .i64 0, .int .i64 2, .int .i64 9, .int .i64 0, .int .i64 3, .int .i64 9, .int .i64 9, .int .i64 4, .int .i64 0, .int .i64 9] 43)).alloc (.cells #[.int .i64 1, .int .i64 1, .int .i64 2, .slice none 0 0, .int .i64 0, .int .i64 0, .int .i64 2, .int .i64 2, .int .i64 3, .slice none 0 0, .int .i64 0, .int .i64 0, .int .i64 3, .int .i64 3, .int .i64 4, .slice none 0 0, .int .i64 0, .int .i64 0, .int .i64 4, .int .i64 4, .int .i64 1, .slice none 0 0, .int .i64 0, .int .i64 0, .int .i64 5, .int .i64 1, .int .i64 3, .slice none 0 0, .int .i64 0, .int .i64 0] 47)) w.heap.size 26 #[.slice (some ⟨w.heap.size + 1, 0, none⟩) 4 4, .slice (some ⟨w.heap.size + 1 + 1, 0, none⟩) 5 5, .slice none 0 0] := ((Blk.made rfl _ _).alloc _).alloc _
 refine res_cell (t := 26) (g := w.heap.size) (cs := #[.slice (some ⟨w.heap.size + 1, 0, none⟩) 4 4, .slice (some ⟨w.heap.size + 1 + 1, 0, none⟩) 5 5, .slice none 0 0]) rfl struct_pl rfl rfl X1 ⟨w.heap.size + 1, w.heap.size + 1 + 1, rfl, bA (bA (bA (bR w) _) _) _, ?_⟩
 refine PlV.blks (al := [(sqA 1 1 2, .slice none 0 0), (sqA 2 2 3, .slice none 0 0), (sqA 3 3 4, .slice none 0 0), (sqA 4 4 1, .slice none 0 0), (sqA 5 1 3, .slice none 0 0)]) rfl (Sl.lit (n := 4) ((Blk.made (by simp) _ _).alloc _) rfl (le_maxLen (by omega))) (Sl.lit (n := 5) (Blk.made (by simp) _ _) rfl (le_maxLen (by omega))) (vias_nil ?_) (Sl.nil _)
 intro x hx
 simp only [List.mem_cons, List.not_mem_nil, or_false] at hx
 rcases hx with rfl | rfl | rfl | rfl | rfl <;> exact ⟨rfl, rfl⟩

def litW (w : World) : World := (((w.alloc (.cells #[.int .i64 (-5), .int .i64 1, .int .i64 2] 3)).alloc (.cells #[.int .i64 (-4), .int .i64 (-3), .int .i64 (-2), .int .i64 (-1)] 3)).alloc (.cells #[.int .i64 3, .int .i64 4, .int .i64 5] 3)).alloc (.cells #[.slice (some ⟨w.heap.size, 0, none⟩) 3 3, .slice (some ⟨w.heap.size + 1, 0, none⟩) 4 4, .slice (some ⟨w.heap.size + 1 + 1, 0, none⟩) 3 3] 24)
def litL (w : World) : List (List Int × SV) := [([-5, 1, 2], ⟨some ⟨w.heap.size, 0, none⟩, 3, 3⟩), ([-4, -3, -2, -1], ⟨some ⟨w.heap.size + 1, 0, none⟩, 4, 4⟩), ([3, 4, 5], ⟨some ⟨w.heap.size + 1 + 1, 0, none⟩, 3, 3⟩)]
theorem lit_read (w : World) : CyR (litW w) (.slice (some ⟨w.heap.size + 1 + 1 + 1, 0, none⟩) 3 3) (litL w) := by
 refine ⟨Sl.lit (n := 3) (Blk.made (by simp) _ _) rfl (le_maxLen (by omega)), fun x hx => ?_⟩
 simp only [litL, List.mem_cons, List.not_mem_nil, or_false] at hx
 rcases hx with rfl | rfl | rfl
 · exact Sl.lit (n := 3) ((((Blk.made rfl _ _).alloc _).alloc _).alloc _) rfl (le_maxLen (by omega))
 · exact Sl.lit (n := 4) (((Blk.made (by simp) _ _).alloc _).alloc _) rfl (le_maxLen (by omega))
 · exact Sl.lit (n := 3) ((Blk.made (by simp) _ _).alloc _) rfl (le_maxLen (by omega))
theorem lit_below (w : World) : Below w.heap.size w (litW w) := bA (bA (bA (bA (bR w) _) _) _) _
set_option maxRecDepth 100000 in
set_option maxHeartbeats 8000000 in
theorem awakeW_spec (w : World) : Calls Tryz.prog 13 #[] w fun e w' => e = .returned (.bool true) ∧ Below w.heap.size w w' := by
 go_enter Tryz.func13, Tryz.ntmps13
 go_wp2_with fail
 refine (square_spec _).mono ?_
 rintro e w1 ⟨g1, g2, rfl, hb1, hp1⟩
 have HP := Lib.hid hp1
 have B1 := Lib.hid hb1
 clear hb1 hp1
 go_upto_region 2 with fail
 obtain ⟨W2, hW⟩ : ∃ W : World, W = w1.alloc (.cells #[.slice (some ⟨g1, 0, none⟩) 4 4, .slice (some ⟨g2, 0, none⟩) 5 5, .slice none 0 0] 26) := ⟨_, rfl⟩
 have X1 : Blk W2 w1.heap.size 26 #[.slice (some ⟨g1, 0, none⟩) 4 4, .slice (some ⟨g2, 0, none⟩) 5 5, .slice none 0 0] := by rw [hW]; exact Blk.made rfl _ _
 have HX := Lib.hid X1
 have hA : Below w1.heap.size w1 W2 := by rw [hW]; exact bA (bR w1) _
 have HP2 := Lib.hid (HP.out.mono hA)
 have B2 := Lib.hid (bT B1.out hA)
 rw [← hW]
 clear hW hA HP B1
 have HC := Lib.hid (fun W (hW : Below W2.heap.size W2 W) => Cycles_spec _ sqP W (HP2.out.mono hW) sq_valid)
 rw [sq_cyc] at HC
 have HE := Lib.hid (fun W (hW : Below W2.heap.size W2 W) => Euler_spec _ sqP W (HP2.out.mono hW) sq_valid)
 rw [sq_parts, sq_cyc] at HE
 replace HE := Lib.hid (show ∀ W (hW : Below W2.heap.size W2 W), Calls Tryz.prog 21 #[.agg #[.slice (some ⟨g1, 0, none⟩) 4 4, .slice (some ⟨g2, 0, none⟩) 5 5, .slice none 0 0]] W (RetEul W 4 5 3 1 0) from HE.out)
 obtain ⟨gp, hgp⟩ : ∃ gp, w1.heap.size = gp := ⟨_, rfl⟩
 rw [hgp] at X1 HX ⊢
 clear hgp
 obtain ⟨X1l, X1a, X1b, X1c, -, -, -⟩ := X1.facts3
 go_wp2_with fail
 refine (HC.out _ (bR W2)).mono ?_
 rintro e w3 ⟨A, c, L, rfl, hb3, hL, hco⟩
 rw [show sqC.length = 3 from rfl] at hco ⊢
 have B3 := Lib.hid hb3; have HL := Lib.hid hL; have HCo := Lib.hid hco.read
 clear hb3 hL hco X1 X1l X1a X1b X1c
 have X1 := HX.out.keep B3.out
 try clear X1l
 try clear X1a
 try clear X1b
 try clear X1c
 obtain ⟨X1l, X1a, X1b, X1c, -, -, -⟩ := X1.facts3
 go_wp2_with fail
 refine (HE.out _ B3.out).mono ?_
 rintro e w4 ⟨rfl, hb4⟩
 have B4 := Lib.hid (bT B3.out hb4)
 have HCo4 := Lib.hid (HCo.out.mono hb4)
 clear hb4 X1 X1l X1a X1b X1c HC HE HCo B3
 go_wp2_with fail
 have hT := SameCyc_spec (.slice A 3 c) (.slice (some ⟨w4.heap.size + 1 + 1 + 1, 0, none⟩) 3 3) L (litL w4) (litW w4) (HCo4.out.mono (lit_below w4)) (lit_read w4)
 rw [HL.out, show sameC sqC ((litL w4).map (·.1)) = true by unfold sameC; rw [decide_eq_true_iff]; rfl] at hT
 refine hT.mono ?_
 rintro e w5 ⟨rfl, hb5⟩
 have B5 := Lib.hid (bT B4.out (bT (lit_below w4) hb5))
 clear hT hb5 HCo4 HL
 have X1 := HX.out.keep B5.out
 try clear X1l
 try clear X1a
 try clear X1b
 try clear X1c
 obtain ⟨X1l, X1a, X1b, X1c, -, -, -⟩ := X1.facts3
 have HS := Lib.hid (fun d (hd : wfI d) W (hW : Below W2.heap.size W2 W) => wStart_spec _ sqP d W (HP2.out.mono hW) sq_valid.short.long hd)
 have h5 := Lib.hid (HS.out (-5) (wfI_of (by omega) (by omega)))
 rw [sq_start] at h5
 go_wp2_with fail
 refine (h5.out _ B5.out).mono ?_
 rintro e w6 ⟨rfl, hb6⟩
 have B6 := Lib.hid (bT B5.out hb6)
 clear hb6 h5 HS X1 X1l X1a X1b X1c B5
 have X1 := HX.out.keep B6.out
 try clear X1l
 try clear X1a
 try clear X1b
 try clear X1c
 obtain ⟨X1l, X1a, X1b, X1c, -, -, -⟩ := X1.facts3
 have h5 := Lib.hid (wNext_spec _ sqP 2 _ (HP2.out.mono B6.out) sq_valid (wfI_of (by omega) (by omega)))
 rw [sq_next] at h5
 go_wp2_with fail
 refine h5.out.mono ?_
 rintro e w7 ⟨rfl, hb7⟩
 have B7 := Lib.hid (bT B6.out hb7)
 clear hb7 h5 X1 X1l X1a X1b X1c B6
 have X1 := HX.out.keep B7.out
 try clear X1l
 try clear X1a
 try clear X1b
 try clear X1c
 obtain ⟨X1l, X1a, X1b, X1c, -, -, -⟩ := X1.facts3
 have h5 := Lib.hid (Around_spec _ sqP 1 _ (HP2.out.mono B7.out) sq_valid)
 rw [sq_around] at h5
 go_wp2_with fail
 refine h5.out.mono ?_
 rintro e w8 ⟨A8, c8, rfl, hb8, ho8⟩
 rw [show ([1, 5, -4] : List Int).length = 3 from rfl] at ho8 ⊢
 have B8 := Lib.hid (bT B7.out hb8)
 have HO8 := Lib.hid ho8
 clear hb8 h5 X1 X1l X1a X1b X1c B7 ho8
 go_wp2_with fail
 have hT := Same15_spec (.slice A8 3 c8) (.slice (some ⟨w8.heap.size, 0, none⟩) 3 3) [1, 5, -4] [1, 5, -4] (w8.alloc (.cells #[.int .i64 1, .int .i64 5, .int .i64 (-4)] 3)) (Sl.mono (Own.sl HO8.out) (bA (bR w8) _)) (Sl.lit (n := 3) (Blk.made rfl _ _) rfl (le_maxLen (by omega)))
 rw [show sameI [1, 5, -4] [1, 5, -4] = true from rfl] at hT
 refine hT.mono ?_
 rintro e w9 ⟨rfl, hb9⟩
 have B9 := Lib.hid (bT B8.out (bT (bA (bR w8) _) hb9))
 clear hT hb9 HO8 B8
 have X1 := HX.out.keep B9.out
 try clear X1l
 try clear X1a
 try clear X1b
 try clear X1c
 obtain ⟨X1l, X1a, X1b, X1c, -, -, -⟩ := X1.facts3
 go_wp2_with fail
 have hT := Twice15w_spec (.agg #[.slice (some ⟨g1, 0, none⟩) 4 4, .slice (some ⟨g2, 0, none⟩) 5 5, .slice none 0 0]) (.slice (some ⟨w9.heap.size, 0, none⟩) 3 3) sqP [-5, 1, 2] (w9.alloc (.cells #[.int .i64 (-5), .int .i64 1, .int .i64 2] 3)) (HP2.out.mono (bT B9.out (bA (bR w9) _))) (Sl.lit (n := 3) (Blk.made rfl _ _) rfl (le_maxLen (by omega))) sq_valid (fun d hd => by
  simp only [List.mem_cons, List.not_mem_nil, or_false] at hd
  rcases hd with rfl | rfl | rfl <;> exact wfI_of (by omega) (by omega))
 rw [sq_twice] at hT
 refine hT.mono ?_
 rintro e w10 ⟨rfl, hb10⟩
 have B10 := Lib.hid (bT B9.out (bT (bA (bR w9) _) hb10))
 clear hT hb10 B9 X1 X1l X1a X1b X1c
 go_wp2_with fail
 have hT := wSide_spec (.agg #[.slice none 0 0, .slice (some ⟨w10.heap.size, 0, none⟩) 1 1, .slice none 0 0]) sdP (-1) (w10.alloc (.cells #[.int .i64 1, .int .i64 0, .int .i64 0, .slice none 0 0, .int .i64 7, .int .i64 8] 47)) (PlV.blks (al := [(⟨1, 0, 0, [], 7, 8⟩, .slice none 0 0)]) rfl (Sl.nil _) (Sl.lit (n := 1) (Blk.made rfl _ _) rfl (le_maxLen (by omega))) (vias_nil (fun x hx => by rw [List.mem_singleton] at hx; subst hx; exact ⟨rfl, rfl⟩)) (Sl.nil _)) (fun a ha => by
  simp only [sdP, List.mem_singleton] at ha; subst ha; simp) (wfI_of (by omega) (by omega))
 rw [sd_side] at hT
 refine hT.mono ?_
 rintro e w11 ⟨rfl, hb11⟩
 have B11 := Lib.hid (bT B2.out (bT B10.out (bT (bA (bR w10) _) hb11)))
 clear hT hb11 B10
 go_wp2_with fail
 go_ret
 exact ⟨rfl, B11.out⟩
end Go.Proofs.YtoclnkfeblfpbaaGreat
namespace Go.Proofs.YtoclnkfeblfpbaaGreat

structure Cr where
 pos : Int
 arc : Int
 out : Int
theorem Cr.ext_iff' {a b : Cr} : a = b ↔ a.pos = b.pos ∧ a.arc = b.arc ∧ a.out = b.out := by cases a; cases b; simp
instance : DecidableEq Cr := fun a b =>
 if h : a.pos = b.pos ∧ a.arc = b.arc ∧ a.out = b.out then isTrue (by cases a; cases b; simp_all) else isFalse (by rintro rfl; simp at h)
end Go.Proofs.YtoclnkfeblfpbaaGreat
namespace Go.Proofs.YtoclnkfeblfpbaaGreat
open Go.RowKit

structure Pc where
 arc : Int
 path : List Pt
 enter : Int
 leave : Int
structure Prt where
 sheet : Int
 pieces : List Pc
 nodes : List Nd
def crC (c : Cr) : List Value := [.int .i64 c.pos, .int .i64 c.arc, .int .i64 c.out]
def pcC (x : Pc × Value) : List Value := [.int .i64 x.1.arc, x.2, .int .i64 x.1.enter, .int .i64 x.1.leave]
def Crs (w : World) (v : Value) (l : List Cr) : Prop := Sl w v l.length (l.flatMap crC)
/-- The pieces, each with its value in the cell of its Path. -/
def Paths (w : World) (l : List (Pc × Value)) : Prop := ∀ k (hk : k < l.length), Pts w l[k].2 l[k].1.path
def Pcs (w : World) (v : Value) (l : List (Pc × Value)) : Prop := Sl w v l.length (l.flatMap pcC) ∧ Paths w l
def PrtV (w : World) (v : Value) (x : Prt) : Prop :=
 ∃ vp vn pl, v = .agg #[.int .i64 x.sheet, vp, vn] ∧ x.pieces = pl.map (·.1) ∧ Pcs w vp pl ∧ Nds w vn x.nodes
def prC (x : Prt × Value × Value) : List Value := [.int .i64 x.1.sheet, x.2.1, x.2.2]
/-- A list of parts, each with its values in the cells of its pieces and nodes. -/
def Prts (w : World) (v : Value) (l : List (Prt × Value × Value)) : Prop :=
 Sl w v l.length (l.flatMap prC) ∧ ∀ k (hk : k < l.length), PrtV w (.agg #[.int .i64 l[k].1.sheet, l[k].2.1, l[k].2.2]) l[k].1

section
variable {w w' : World} {v : Value}
theorem Crs.mono {l : List Cr} (h : Crs w v l) (hb : Below w.heap.size w w') : Crs w' v l := Sl.mono h hb
theorem Paths.mono {l : List (Pc × Value)} (h : Paths w l) (hb : Below w.heap.size w w') : Paths w' l := fun k hk => (h k hk).mono hb
theorem Pcs.mono {l : List (Pc × Value)} (h : Pcs w v l) (hb : Below w.heap.size w w') : Pcs w' v l := ⟨Sl.mono h.1 hb, h.2.mono hb⟩
theorem PrtV.mono {x : Prt} (h : PrtV w v x) (hb : Below w.heap.size w w') : PrtV w' v x := by
 obtain ⟨vp, vn, pl, hv, hp, h1, h2⟩ := h
 exact ⟨vp, vn, pl, hv, hp, h1.mono hb, h2.mono hb⟩
theorem Prts.mono {l : List (Prt × Value × Value)} (h : Prts w v l) (hb : Below w.heap.size w w') : Prts w' v l := ⟨Sl.mono h.1 hb, fun k hk => (h.2 k hk).mono hb⟩
end
section
variable {w : World} {A : Option Addr}
theorem Row.cr {l : List Cr} (h : Row w A (l.flatMap crC)) {k : Nat} (hk : k < l.length) :
  ∃ b o, A = some ⟨b, o, none⟩ ∧ b < w.heap.size ∧ w.cell? ⟨b, o + k * 3, none⟩ = some (.int .i64 l[k].pos) ∧ w.cell? ⟨b, o + k * 3 + 1, none⟩ = some (.int .i64 l[k].arc) ∧ w.cell? ⟨b, o + k * 3 + 2, none⟩ = some (.int .i64 l[k].out) := by
 obtain ⟨b, o, hA, hb, hc⟩ := h.at_ (n := 3) (fun _ => rfl) hk (by omega)
 exact ⟨b, o, hA, hb, hc 0 _ rfl, hc 1 _ rfl, hc 2 _ rfl⟩
theorem Row.pc {l : List (Pc × Value)} (h : Row w A (l.flatMap pcC)) {k : Nat} (hk : k < l.length) :
  ∃ b o, A = some ⟨b, o, none⟩ ∧ b < w.heap.size ∧ w.cell? ⟨b, o + k * 4, none⟩ = some (.int .i64 l[k].1.arc) ∧ w.cell? ⟨b, o + k * 4 + 1, none⟩ = some l[k].2 ∧ w.cell? ⟨b, o + k * 4 + 2, none⟩ = some (.int .i64 l[k].1.enter) ∧ w.cell? ⟨b, o + k * 4 + 3, none⟩ = some (.int .i64 l[k].1.leave) := by
 obtain ⟨b, o, hA, hb, hc⟩ := h.at_ (n := 4) (fun _ => rfl) hk (by omega)
 exact ⟨b, o, hA, hb, hc 0 _ rfl, hc 1 _ rfl, hc 2 _ rfl, hc 3 _ rfl⟩
end
end Go.Proofs.YtoclnkfeblfpbaaGreat
namespace Go.Proofs.YtoclnkfeblfpbaaGreat
open Go.RowKit

theorem total_step {α β : Type} (f : α → List β) (l : List α) (k : Nat) (hk : k < l.length) : ((l.take (k + 1)).flatMap f).length = ((l.take k).flatMap f).length + (f l[k]).length := by
 rw [List.take_succ_eq_append_getElem hk, List.flatMap_append, List.length_append]; simp
/-- A plan with at most 40 nodes and arcs, 80 faces and 300 inner points. -/
def small15 (p : Pl) : Bool := (decide (p.nodes.length ≤ 40) && (decide (p.arcs.length ≤ 40) && decide (p.faces.length ≤ 80))) && (p.arcs.all (fun y => decide (y.via.length ≤ 300)) && decide ((p.arcs.flatMap (·.via)).length ≤ 300))

set_option maxRecDepth 100000 in
set_option maxHeartbeats 2000000 in
theorem Small15_spec (v : Value) (p : Pl) (w : World) (h : PlV w v p) :
  Calls Tryz.prog 14 #[v] w fun e w' => e = .returned (.bool (small15 p)) ∧ Below w.heap.size w w' := by
 obtain ⟨_, _, _, al, rfl, hpa, ⟨An, cn, rfl, hn1, hn2, -⟩, ⟨⟨Aa, ca, rfl, ha1, ha2, hRa⟩, hV⟩, ⟨Af, cf, rfl, hf1, hf2, -⟩⟩ := h
 unfold maxLen at hn2 ha2 hf2
 have hS : small15 p = ((decide (p.nodes.length ≤ 40) && (decide (al.length ≤ 40) && decide (p.faces.length ≤ 80))) && (al.all (fun y => decide (y.1.via.length ≤ 300)) && decide ((al.flatMap (fun a => a.1.via)).length ≤ 300))) := by
  rw [small15, hpa, List.flatMap_map, List.length_map, List.all_map]; rfl
 rw [hS]
 clear hS hpa
 generalize p.nodes.length = nn at *
 generalize p.faces.length = nf at *
 have HV := Lib.hid hV; clear hV
 have HRa := Lib.hid hRa; clear hRa
 by_cases hc1 : 40 < nn
 case pos =>
  have h1' : (40 : Int) < (nn : Int) := by omega
  have hf := Lib.hid (decide_eq_false (show ¬ nn ≤ 40 by omega))
  clear hc1
  go_enter Tryz.func14, Tryz.ntmps14
  go_wp2_with fail
  go_ret
  exact ⟨ret_bool (by rw [hf.out]; rfl), bA (bR w) _⟩
 by_cases hc2 : 40 < al.length
 case pos =>
  have h1' : ¬ (40 : Int) < (nn : Int) := by omega
  have h2' : (40 : Int) < (al.length : Int) := by omega
  have hf := Lib.hid (decide_eq_false (show ¬ al.length ≤ 40 by omega))
  clear hc1 hc2
  go_enter Tryz.func14, Tryz.ntmps14
  go_wp2_with fail
  go_ret
  exact ⟨ret_bool (by rw [hf.out, Bool.false_and, Bool.and_false]; rfl), bA (bR w) _⟩
 by_cases hc3 : 80 < nf
 case pos =>
  have h1' : ¬ (40 : Int) < (nn : Int) := by omega
  have h2' : ¬ (40 : Int) < (al.length : Int) := by omega
  have h3' : (80 : Int) < (nf : Int) := by omega
  have hf := Lib.hid (decide_eq_false (show ¬ nf ≤ 80 by omega))
  clear hc1 hc2 hc3
  go_enter Tryz.func14, Tryz.ntmps14
  go_wp2_with fail
  go_ret
  exact ⟨ret_bool (by rw [hf.out, Bool.and_false, Bool.and_false]; rfl), bA (bR w) _⟩
 have h1' : ¬ (40 : Int) < (nn : Int) := by omega
 have h2' : ¬ (40 : Int) < (al.length : Int) := by omega
 have h3' : ¬ (80 : Int) < (nf : Int) := by omega
 rw [decide_eq_true (show al.length ≤ 40 by omega), decide_eq_true (show nn ≤ 40 by omega), decide_eq_true (show nf ≤ 80 by omega), Bool.true_and, Bool.true_and, Bool.true_and]
 obtain ⟨q, hq⟩ : ∃ q, (al.all (fun y => decide (y.1.via.length ≤ 300)) && decide ((al.flatMap (fun a => a.1.via)).length ≤ 300)) = q := ⟨_, rfl⟩
 rw [hq]
 have Hq := Lib.hid hq; clear hq
 go_enter Tryz.func14, Tryz.ntmps14
 go_wp2_with fail
 obtain ⟨W0, hW0⟩ : ∃ W0 : World, W0 = w.alloc (.cells #[.slice An nn cn, .slice Aa al.length ca, .slice Af nf cf] 26) := ⟨_, rfl⟩
 have HX0 := Lib.hid (show Blk W0 w.heap.size 26 #[.slice An nn cn, .slice Aa al.length ca, .slice Af nf cf] by rw [hW0]; exact Blk.made rfl _ _)
 have HB0 := Lib.hid (show Below w.heap.size w W0 by rw [hW0]; exact bA (bR w) _)
 rw [← hW0]
 clear hW0
 go_loopw [3, 4] (fun s i wr => ∃ k : Nat, k ≤ al.length ∧ i = .int .i64 k ∧ s = .int .i64 (((al.take k).flatMap (fun a => a.1.via)).length : Nat) ∧ Below W0.heap.size W0 wr ∧ ((al.take k).flatMap (fun a => a.1.via)).length ≤ 300 * k ∧ ∀ j (hj : j < al.length), j < k → decide (al[j].1.via.length ≤ 300) = true) (fun _ i _ => al.length - (intOf i).toNat)
 case atStart => exact ⟨0, Nat.zero_le _, rfl, by simp, bR W0, by simp, fun _ _ h => by omega⟩
 case round =>
  obtain ⟨k, hk, rfl, rfl, hb, hM, hno⟩ := hrel
  have Hb := Lib.hid hb
  have Hno := Lib.hid hno
  have X1 := HX0.out.keep hb
  clear hb hno
  obtain ⟨X1l, X1a, X1b, X1c, -, -, -⟩ := X1.facts3
  by_cases hlt : k < al.length
  case pos =>
   obtain ⟨b, o, rfl, hlb, c0, c1, c2, c3, c4, c5⟩ := (HRa.out.mono (bT HB0.out Hb.out)).ar hlt
   obtain ⟨Av, cv, hv, hvc, hvm, -⟩ := HV.out k hlt
   rw [hv] at c3
   clear hv
   unfold maxLen at hvm
   have ht := total_step (fun a : Ar × Value => a.1.via) al k hlt
   have Ht := Lib.hid ht
   clear ht
   generalize hT : ((al.take k).flatMap (fun a => a.1.via)).length = T at *
   have HT := Lib.hid hT
   clear hT
   by_cases h1 : 300 < al[k].1.via.length
   ·
    have h1' : (300 : Int) < (al[k].1.via.length : Int) := by omega
    have hf : q = false := by
     rw [← Hq.out]
     have : (al.all fun a => decide (a.1.via.length ≤ 300)) = false := by
      rw [List.all_eq_false]
      exact ⟨al[k], List.getElem_mem hlt, by simp; omega⟩
     rw [this]; simp
    have HF := Lib.hid hf
    clear hf
    go_wp2_with fail
    go_ret
    exact ⟨ret_bool HF.out.symm, bT HB0.out Hb.out⟩
   ·
    have h1' : ¬ (300 : Int) < (al[k].1.via.length : Int) := by omega
    have hd := Lib.hid (show decide (al[k].1.via.length ≤ 300) = true by simp; omega)
    have hq : IntKind.i64.wrap ((T : Int) + (al[k].1.via.length : Int)) = (T : Int) + (al[k].1.via.length : Int) := IntWalk.i64_in _ (by have h0 : k ≤ 100 := (by omega); omega)
    go_wp2_with fail
    go_roundw
    case rel => exact ⟨k + 1, by omega, by go_num, by rw [Ht.out]; go_num, Hb.out, by rw [Ht.out]; omega, all_succ (p := fun n : Ar × Value => decide (n.1.via.length ≤ 300) = true) Hno.out hlt hd.out⟩
    case measure => simp [intOf]; omega
  case neg =>
  have hall : al.take k = al := List.take_of_length_le (by omega)
  have hf : q = decide ((al.flatMap (fun a => a.1.via)).length ≤ 300) := by
   rw [← Hq.out]
   have : (al.all fun a => decide (a.1.via.length ≤ 300)) = true := by
    rw [List.all_eq_true]
    intro x hx
    obtain ⟨j, hj, rfl⟩ := List.mem_iff_getElem.1 hx
    exact Hno.out j hj (by omega)
   rw [this, Bool.true_and]
  have HF := Lib.hid hf
  rw [hall] at hM ⊢
  clear hall hf
  generalize (al.flatMap (fun a => a.1.via)).length = T at *
  go_wp2_with fail
  go_ret
  refine ⟨ret_bool ?_, bT HB0.out Hb.out⟩
  rw [HF.out]
  first | rfl | (rw [Bool.eq_iff_iff]; simp; done) | (rw [Bool.eq_iff_iff]; simp; omega)

end Go.Proofs.YtoclnkfeblfpbaaGreat
