/- The variable sheetgrid.moves: from the row's condition to its cells; the door's own heap meets the condition. -/
import Derived.LaidMore
import Derived.LaidHandle
import Derived.Test.YtfdbidagdjnipaaGreatDoorJ12
import Derived.Test.YtfdbidagdjnipaaGreatDoorJ02
import Derived.Test.YtfdbidagdjnipaaGreatDoorRows
set_option linter.unusedSimpArgs false
set_option linter.unusedVariables false
namespace Go.Proofs.YtfdbidagdjnipaaGreatDoor
open Go.ChangeShapes Go.WideShapes Go.ChangeAt Go.RowKit Go.Joins

def laidL : List (String × DataW Unit) := [("mapsheets/sheetgrid.moves", Rows.laid_mapsheets_sheetgrid_moves)]
theorem gMoves : Tryz.prog.globalNamed "mapsheets/sheetgrid.moves" = some 0 := by kernel_rfl
theorem tMoves : (Tryz.prog.globals[0]?).map (·.type) = some 161 := by kernel_rfl
theorem c_mv : Tryz.prog.cellsOf 161 = 8 := by kernel_rfl
theorem c_ptx : Tryz.prog.cellsOf 28 = 2 := by kernel_rfl
theorem c_inx : Tryz.prog.cellsOf 3 = 1 := by kernel_rfl
theorem lst8 {α : Type} {l : List α} (h : l.length = 8) : ∃ a b c d e f g i, l = [a, b, c, d, e, f, g, i] := by
 match l, h with
 | [a, b, c, d, e, f, g, i], _ => exact ⟨a, b, c, d, e, f, g, i, rfl⟩
theorem pt_cells {H : Type} {enc : TypeId × Value → H} {w : World} {base : Nat} {spare : Nat → Bool} {held : Bool} {fuel : Nat} {c0 c1 : Value} {x : DataW H × List MemPlace} {a b : Int}
  (h : DataW.trod enc Tryz.prog w base spare held fuel 28 [c0, c1] = some x) (hx : x.1 = .agg [.lit (.int .i64 a), .lit (.int .i64 b)]) : c0 = .int .i64 a ∧ c1 = .int .i64 b := by
 obtain ⟨xs, n, e, rfl, hl, hlen, hf⟩ := DataW.trod_struct Tryz.underlying28 h
 match xs, hlen with
 | [y0, y1], _ =>
  have h0 : DataW.trod enc Tryz.prog w base spare held n 3 [c0] = some y0 := by
   have := hf 0 _ rfl
   simpa [c_inx] using this
  have h1 : DataW.trod enc Tryz.prog w base spare held n 3 [c1] = some y1 := by
   have := hf 1 _ rfl
   simpa [c_inx] using this
  obtain ⟨a0, e0, k0, -⟩ := DataW.trod_int Tryz.underlying3 h0
  obtain ⟨a1, e1, k1, -⟩ := DataW.trod_int Tryz.underlying3 h1
  simp only [List.cons.injEq, and_true] at e0 e1
  subst e0 e1 k0 k1
  simp at hx
  rw [hx.1, hx.2]
  exact ⟨rfl, rfl⟩

theorem mv_of_laid {W : World} (h : laidMetH Tryz.prog laidL W) : Mv W := by
 rw [MakeChecks.laidMetH_plain _ _ _ (by kernel_rfl)] at h
 obtain ⟨ps, ⟨g, t, cs, fuel, p, q, hg, ht, hvar, hd, _, _⟩, _⟩ := h
 obtain rfl := Option.some.inj (gMoves.symm.trans hg)
 obtain rfl := Option.some.inj (tMoves.symm.trans ht)
 obtain ⟨xs, m, -, hx, hl, hlen, hf⟩ := DataW.trod_array Tryz.underlying161 hd
 rw [c_mv] at hl
 obtain ⟨l⟩ := cs
 obtain ⟨a, b, c, d, e, f, i, j, rfl⟩ := lst8 hl
 match xs, hlen with
 | [y0, y1, y2, y3], _ =>
  have h0 : DataW.trod (fun _ => ()) Tryz.prog W 0 (fun _ => true) false m 28 [a, b] = some y0 := by
   have := hf 0 (by omega)
   simpa [c_ptx] using this
  have h1 : DataW.trod (fun _ => ()) Tryz.prog W 0 (fun _ => true) false m 28 [c, d] = some y1 := by
   have := hf 1 (by omega)
   simpa [c_ptx] using this
  have h2 : DataW.trod (fun _ => ()) Tryz.prog W 0 (fun _ => true) false m 28 [e, f] = some y2 := by
   have := hf 2 (by omega)
   simpa [c_ptx] using this
  have h3 : DataW.trod (fun _ => ()) Tryz.prog W 0 (fun _ => true) false m 28 [i, j] = some y3 := by
   have := hf 3 (by omega)
   simpa [c_ptx] using this
  simp only [Rows.laid_mapsheets_sheetgrid_moves, List.map_cons, List.map_nil, Prod.mk.injEq, DataW.agg.injEq, List.cons.injEq, and_true] at hx
  obtain ⟨⟨e0, e1, e2, e3⟩, -⟩ := hx
  obtain ⟨rfl, rfl⟩ := pt_cells h0 e0.symm
  obtain ⟨rfl, rfl⟩ := pt_cells h1 e1.symm
  obtain ⟨rfl, rfl⟩ := pt_cells h2 e2.symm
  obtain ⟨rfl, rfl⟩ := pt_cells h3 e3.symm
  refine ⟨?_, fun k => World.var?_cell hg hvar k⟩
  have := World.block_lt_of_cell? W ⟨0, 0, none⟩ (World.var?_cell hg hvar 0)
  exact this
/-- The door's own heap meets the condition. -/
theorem door_met (os : Os) (args : Array Value) : laidMetH Tryz.prog laidL ((World.doorLaid Tryz.prog 18 os).forCall (fun _ _ => 0) ⟨#[], args, []⟩).memory :=
 laidMetH_of_parts3 (fuel := 8) (laidMet_of_run' 8 (by kernel_rfl) (by kernel_rfl)) (by kernel_rfl) (by kernel_rfl)
end Go.Proofs.YtfdbidagdjnipaaGreatDoor
