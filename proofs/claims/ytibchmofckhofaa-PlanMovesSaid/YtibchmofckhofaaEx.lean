/- mapsheetslaw14.example; the closed facts of awake. -/
import Derived.Test.YtibchmofckhofaaPlanChk
import Derived.Test.YtibchmofckhofaaGG
import Derived.Test.YtibchmofckhofaaGF
set_option linter.unusedSimpArgs false
set_option linter.unusedVariables false
namespace Go.Proofs.Ytibchmofckhofaa
open Go.RowKit

def exVia : List Pt := [⟨10, 0⟩, ⟨10, 10⟩, ⟨0, 10⟩]
def exP : Pl := ⟨[⟨1, ⟨0, 0⟩⟩], [⟨1, 1, 1, exVia, 1, 0⟩], [1]⟩
def exQ : Pl := ⟨[⟨1, ⟨0, 0⟩⟩, ⟨2, ⟨10, 5⟩⟩], [⟨1, 1, 1, exVia, 1, 0⟩], [1]⟩
def exS : Pl := ⟨[⟨1, ⟨0, 0⟩⟩], [⟨1, 1, 1, exVia, 2, 0⟩], [1]⟩
def exT : Pl := ⟨[⟨1, ⟨0, 0⟩⟩], [⟨1, 1, 1, [⟨10, 0⟩], 1, 0⟩], [1]⟩
def pl0 : Pl := ⟨[], [], []⟩
theorem ex_c0 : checkS pl0 = 0 := by decide +kernel
theorem ex_cP : checkS exP = 0 := by decide +kernel
theorem ex_cQ : checkS exQ = 11 := by decide +kernel
theorem ex_cS : checkS exS = 12 := by decide +kernel
theorem ex_cT : checkS exT = 11 := by decide +kernel
theorem ex_d : degS exP.arcs 1 = 2 := by decide +kernel
theorem ex_path : pathOf exP 1 = some [⟨0, 0⟩, ⟨10, 0⟩, ⟨10, 10⟩, ⟨0, 10⟩, ⟨0, 0⟩] := by decide +kernel
theorem ex_node : findNd exQ.nodes 2 = some ⟨2, ⟨10, 5⟩⟩ := by decide +kernel
theorem ex_arc : findAr exP.arcs 2 = none := by decide +kernel
theorem ex_bP : boundsS exP = ⟨0, 0, 10, 10⟩ := by decide +kernel
theorem ex_b0 : boundsS pl0 = ⟨0, 0, -1, -1⟩ := by decide +kernel
theorem ex_same : sameS exP exP = true := by decide +kernel
theorem ex_nsame : sameS exP exQ = false := by decide +kernel

def exV (gn ga gf : Nat) : Value := .agg #[.slice (some ⟨gn, 0, none⟩) 1 1, .slice (some ⟨ga, 0, none⟩) 1 1, .slice (some ⟨gf, 0, none⟩) 1 1]
def exN : Array Value := #[.int .i64 1, .int .i64 0, .int .i64 0]
def exVs : Array Value := #[.int .i64 10, .int .i64 0, .int .i64 10, .int .i64 10, .int .i64 0, .int .i64 10]
def exAr (gv nv cv : Nat) (left : Int) : Array Value := #[.int .i64 1, .int .i64 1, .int .i64 1, .slice (some ⟨gv, 0, none⟩) nv cv, .int .i64 left, .int .i64 0]
def RetEx (w : World) (e : Ending) (w' : World) : Prop :=
  ∃ gn gv ga gf, e = .returned (exV gn ga gf) ∧ Below w.heap.size w w' ∧ (w.heap.size ≤ gn ∧ w.heap.size ≤ gv ∧ w.heap.size ≤ ga ∧ w.heap.size ≤ gf) ∧
    Blk w' gn 32 exN ∧ Blk w' gv 30 exVs ∧ Blk w' ga 37 (exAr gv 3 3 1) ∧ Blk w' gf 3 #[.int .i64 1]

set_option maxHeartbeats 1000000 in
theorem example_spec (w : World) : Calls Try.prog 28 #[] w (RetEx w) := by
  go_enter Try.func28, Try.ntmps28
  go_wp2_with fail
  refine res_cell (t := 26) (g := w.heap.size) (cs := #[.slice (some ⟨w.heap.size + 1, 0, none⟩) 1 1, .slice (some ⟨w.heap.size + 1 + 1 + 1, 0, none⟩) 1 1, .slice (some ⟨w.heap.size + 1 + 1 + 1 + 1, 0, none⟩) 1 1]) rfl struct_pl rfl rfl ?_ ⟨w.heap.size + 1, w.heap.size + 1 + 1, w.heap.size + 1 + 1 + 1, w.heap.size + 1 + 1 + 1 + 1, rfl, ?_, by omega, ?_, ?_, ?_, ?_⟩
  · exact ((((Blk.made rfl _ _).alloc _).alloc _).alloc _).alloc _
  · exact bA (bA (bA (bA (bA (bR w) _) _) _) _) _
  · exact (((Blk.made (by simp) _ _).alloc _).alloc _).alloc _
  · exact ((Blk.made (by simp) _ _).alloc _).alloc _
  · exact (Blk.made (by simp) _ _).alloc _
  · exact Blk.made (by simp) _ _

/-- A plan whose lists lie in blocks. -/
theorem PlV.blocks {w : World} {vn va vf : Value} {p : Pl} {al : List (Ar × Value)} (hp : p.arcs = al.map (·.1)) (hn : Nds w vn p.nodes) (ha : Sl w va al.length (al.flatMap arC)) (hv : Vias w al) (hf : Ints w vf p.faces) : PlV w (.agg #[vn, va, vf]) p :=
  ⟨vn, va, vf, al, rfl, hp, hn, ⟨ha, hv⟩, hf⟩
theorem PlV.zero (w : World) : PlV w (.agg #[.slice none 0 0, .slice none 0 0, .slice none 0 0]) pl0 :=
  PlV.blocks (al := []) rfl (Sl.nil w) (Sl.nil w) (fun k hk => by simp at hk) (Sl.nil w)
theorem Sl.pre {w : World} {g n c : Nat} {t : TypeId} {cs : Array Value} {xs : List Value} (h : Blk w g t cs) (hx : ∀ (j : Nat) (v : Value), xs[j]? = some v → cs[j]? = some v) (hn : n ≤ c) (hc : c ≤ maxLen) : Sl w (.slice (some ⟨g, 0, none⟩) n c) n xs :=
  ⟨_, c, rfl, hn, hc, fun _ => ⟨g, 0, rfl, h.lt, fun j v hj => by rw [h.cell, Nat.zero_add]; exact hx j v hj⟩⟩
theorem vias_one {w : World} {a : Ar} {u : Value} (h : Pts w u a.via) : Vias w [(a, u)] := fun k hk => by
  have : k = 0 := by simpa using hk
  subst this
  exact h
theorem PlV.ex {w : World} {vn : Value} {l : List Nd} {a v f n c : Nat} {left : Int} {via : List Pt} (hn : Nds w vn l) (ha : Blk w a 37 (exAr v n c left)) (hv : Pts w (.slice (some ⟨v, 0, none⟩) n c) via) (hf : Blk w f 3 #[.int .i64 1]) :
    PlV w (.agg #[vn, .slice (some ⟨a, 0, none⟩) 1 1, .slice (some ⟨f, 0, none⟩) 1 1]) ⟨l, [⟨1, 1, 1, via, left, 0⟩], [1]⟩ :=
  PlV.blocks (al := [(⟨1, 1, 1, via, left, 0⟩, .slice (some ⟨v, 0, none⟩) n c)]) rfl hn (Sl.lit (n := 1) ha rfl (le_maxLen (by omega))) (vias_one hv) (Sl.lit (n := 1) hf rfl (le_maxLen (by omega)))
theorem exN_nds {w : World} {n : Nat} (h : Blk w n 32 exN) : Nds w (.slice (some ⟨n, 0, none⟩) 1 1) [⟨1, ⟨0, 0⟩⟩] := Sl.lit (n := 1) h rfl (le_maxLen (by omega))
theorem exVs_pts {w : World} {v : Nat} (h : Blk w v 30 exVs) : Pts w (.slice (some ⟨v, 0, none⟩) 3 3) exVia := Sl.lit (n := 3) h rfl (le_maxLen (by omega))
theorem exVs_one {w : World} {v : Nat} (h : Blk w v 30 exVs) : Pts w (.slice (some ⟨v, 0, none⟩) 1 3) [⟨10, 0⟩] := Sl.pre (n := 1) h (fun j u hj => by
  rcases j with _ | _ | j
  · exact hj
  · exact hj
  · simp [ptC] at hj) (by omega) (le_maxLen (by omega))
end Go.Proofs.Ytibchmofckhofaa
