/- mapsheetslaw41: square, the closed facts of awake; lists of parts that read. -/
import Derived.Test.YtfondidmklmonaaGreatJ16
import Derived.Test.YtfondidmklmonaaGreatJ17
set_option linter.unusedSimpArgs false
set_option linter.unusedVariables false
namespace Go.Proofs.YtfondidmklmonaaGreat
open Go.RowKit

def sq41 : Pl := ⟨[⟨1, ⟨0, 0⟩⟩], [⟨1, 1, 1, [⟨10, 0⟩, ⟨10, 10⟩, ⟨0, 10⟩], 1, 0⟩], [1]⟩
def se41 : Se := ⟨⟨-10, 0⟩, 10, 10, 3, 1⟩
def st41 : Pl := ⟨[⟨1, ⟨11, 7⟩⟩, ⟨2, ⟨9, 11⟩⟩], [⟨1, 1, 2, [], 0, 0⟩], []⟩
def pc41 (l : List Pt) : Pc := ⟨1, l, 0, 0⟩
def prt41a : Prt := ⟨1, [pc41 [⟨0, 10⟩, ⟨0, 0⟩]], [⟨1, ⟨0, 0⟩⟩]⟩
def prt41b : Prt := ⟨2, [pc41 [⟨0, 0⟩, ⟨10, 0⟩, ⟨10, 10⟩, ⟨0, 10⟩, ⟨0, 0⟩]], [⟨1, ⟨0, 0⟩⟩]⟩
def prt41c : Prt := ⟨3, [pc41 [⟨10, 0⟩, ⟨10, 10⟩]], []⟩
def stp41 : Pc := ⟨1, [⟨10, 9⟩, ⟨10, 10⟩], 3, 4⟩
theorem sq41_all : allRes sq41 se41 = ([prt41a, prt41b, prt41c], 0) := by decide +kernel
theorem sq41_two : partRes sq41 se41 2 = (prt41b, 0) := by decide +kernel
theorem sq41_four : partRes sq41 se41 4 = (prt0, 7) := by decide +kernel
theorem st41_two : partRes st41 se41 2 = (⟨2, [stp41], []⟩, 0) := by decide +kernel
theorem sq41_arcs : arcsR (prt41b.pieces.map (·.arc)) = [1] := by decide +kernel
theorem sq41_bc : decide (prt41b = prt41b) = true := by simp
theorem sq41_ba : decide (prt41b = prt41a) = false := by decide +kernel
theorem small_pl {p : Pl} (h : (decide (p.arcs.length ≤ 1000) && decide (p.nodes.length ≤ 1000) && p.arcs.all (fun a => decide (a.via.length ≤ 1000))) = true) : SmP p := by
 simp only [Bool.and_eq_true, decide_eq_true_eq, List.all_eq_true] at h
 exact ⟨h.1.1, h.1.2, h.2⟩
theorem sq41_sm : SmP sq41 := small_pl (by decide)
theorem st41_sm : SmP st41 := small_pl (by decide)

def sqA41 : Ar := ⟨1, 1, 1, [⟨10, 0⟩, ⟨10, 10⟩, ⟨0, 10⟩], 1, 0⟩
def RetSq41 (w : World) (e : Ending) (w' : World) : Prop :=
 ∃ g1 g2 g3, e = .returned (.agg #[.slice (some ⟨g1, 0, none⟩) 1 1, .slice (some ⟨g2, 0, none⟩) 1 1, .slice (some ⟨g3, 0, none⟩) 1 1]) ∧ Below w.heap.size w w' ∧ PlV w' (.agg #[.slice (some ⟨g1, 0, none⟩) 1 1, .slice (some ⟨g2, 0, none⟩) 1 1, .slice (some ⟨g3, 0, none⟩) 1 1]) sq41
theorem PlV.blks41 {w : World} {vn va vf : Value} {p : Pl} {al : List (Ar × Value)} (hp : p.arcs = al.map (·.1)) (hn : Nds w vn p.nodes) (ha : Sl w va al.length (al.flatMap arC)) (hv : Vias w al) (hf : Ints w vf p.faces) : PlV w (.agg #[vn, va, vf]) p :=
 ⟨vn, va, vf, al, rfl, hp, hn, ⟨ha, hv⟩, hf⟩
theorem vias_one {w : World} {a : Ar} {v : Value} (h : Pts w v a.via) : Vias w [(a, v)] := fun k hk => by
 have : k = 0 := by simpa using hk
 subst this
 exact h
set_option maxRecDepth 100000 in
set_option maxHeartbeats 2000000 in
theorem square41_spec (w : World) : Calls Tryz.prog 33 #[] w (RetSq41 w) := by
 go_enter Tryz.func33, Tryz.ntmps33
 go_wp2_with fail
 obtain ⟨W, hW⟩ : ∃ W : World, W = ((((w.alloc (.cells #[.slice (some ⟨w.heap.size + 1, 0, none⟩) 1 1, .slice (some ⟨w.heap.size + 1 + 1 + 1, 0, none⟩) 1 1, .slice (some ⟨w.heap.size + 1 + 1 + 1 + 1, 0, none⟩) 1 1] 26)).alloc (.cells #[.int .i64 1, .int .i64 0, .int .i64 0] 59)).alloc (.cells #[.int .i64 10, .int .i64 0, .int .i64 10, .int .i64 10, .int .i64 0, .int .i64 10] 28)).alloc (.cells #[.int .i64 1, .int .i64 1, .int .i64 1, .slice (some ⟨w.heap.size + 1 + 1, 0, none⟩) 3 3, .int .i64 1, .int .i64 0] 63)).alloc (.cells #[.int .i64 1] 3) := ⟨_, rfl⟩
 rw [← hW]
 have X1 : Blk W w.heap.size 26 #[.slice (some ⟨w.heap.size + 1, 0, none⟩) 1 1, .slice (some ⟨w.heap.size + 1 + 1 + 1, 0, none⟩) 1 1, .slice (some ⟨w.heap.size + 1 + 1 + 1 + 1, 0, none⟩) 1 1] := by rw [hW]; exact ((((Blk.made rfl _ _).alloc _).alloc _).alloc _).alloc _
 refine res_cell (t := 26) (g := w.heap.size) (cs := #[.slice (some ⟨w.heap.size + 1, 0, none⟩) 1 1, .slice (some ⟨w.heap.size + 1 + 1 + 1, 0, none⟩) 1 1, .slice (some ⟨w.heap.size + 1 + 1 + 1 + 1, 0, none⟩) 1 1]) rfl struct_pl rfl rfl X1 ⟨w.heap.size + 1, w.heap.size + 1 + 1 + 1, w.heap.size + 1 + 1 + 1 + 1, rfl, ?_, ?_⟩
 · rw [hW]; exact bA (bA (bA (bA (bA (bR w) _) _) _) _) _
 ·
  rw [hW]
  refine PlV.blks41 (al := [(sqA41, .slice (some ⟨w.heap.size + 1 + 1, 0, none⟩) 3 3)]) rfl (Sl.lit (n := 1) ((((Blk.made (by simp) _ _).alloc _).alloc _).alloc _) rfl (le_maxLen (by omega))) (Sl.lit (n := 1) ((Blk.made (by simp) _ _).alloc _) rfl (le_maxLen (by omega))) (vias_one ?_) (Sl.lit (n := 1) (Blk.made (by simp) _ _) rfl (le_maxLen (by omega)))
  exact Sl.lit (n := 3) (((Blk.made (by simp) _ _).alloc _).alloc _) rfl (le_maxLen (by omega))

/-- pieces of the call's own read as pieces -/
def rdP (x : Pc × SV) : Pc × Value := (x.1, .slice x.2.a x.2.n x.2.c)
theorem PcsO.read {w : World} {B : Nat} {v : Value} {L : List (Pc × SV)} (h : PcsO w B v L) : Pcs w v (L.map rdP) := by
 have h1 := h.own.sl
 have e : (L.map rdP).flatMap pcC = L.flatMap pcS := by rw [List.flatMap_map]; rfl
 refine ⟨by rw [e, List.length_map]; exact h1, fun k hk => ?_⟩
 have hk' : k < L.length := by simpa using hk
 rw [show (L.map rdP)[k] = rdP L[k] by simp]
 exact (h.path _ (List.getElem_mem hk')).sl
theorem PrtO.read {w : World} {B : Nat} {x : Prt} {vp vn : Value} (h : PrtO w B x vp vn) : PrtV w (.agg #[.int .i64 x.sheet, vp, vn]) x := by
 obtain ⟨L, h1, h2, h3⟩ := h
 exact ⟨vp, vn, L.map rdP, rfl, by rw [← h2, List.map_map]; rfl, h1.read, h3.sl⟩
def rdX (x : Prt × SV × SV) : Prt × Value × Value := (x.1, .slice x.2.1.a x.2.1.n x.2.1.c, .slice x.2.2.a x.2.2.n x.2.2.c)
theorem PrtsO.read {w : World} {B : Nat} {v : Value} {L : List (Prt × SV × SV)} (h : PrtsO w B v L) : Prts w v (L.map rdX) := by
 have h1 := h.own.sl
 have e : (L.map rdX).flatMap prC = L.flatMap prS := by rw [List.flatMap_map]; rfl
 refine ⟨by rw [e, List.length_map]; exact h1, fun k hk => ?_⟩
 have hk' : k < L.length := by simpa using hk
 rw [show (L.map rdX)[k] = rdX L[k] by simp]
 exact (h.part _ (List.getElem_mem hk')).read
end Go.Proofs.YtfondidmklmonaaGreat
