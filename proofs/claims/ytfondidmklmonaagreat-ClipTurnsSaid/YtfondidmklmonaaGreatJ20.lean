/- mapsheetslaw14.example; the closed facts of awake. -/
import Derived.Test.YtfondidmklmonaaGreatJ14
import Derived.Test.YtfondidmklmonaaGreatGG
import Derived.Test.YtfondidmklmonaaGreatJ07
set_option linter.unusedSimpArgs false
set_option linter.unusedVariables false
namespace Go.Proofs.YtfondidmklmonaaGreat
open Go.RowKit

def pl0 : Pl := ⟨[], [], []⟩
/-- A plan whose lists lie in blocks. -/
theorem PlV.blocks {w : World} {vn va vf : Value} {p : Pl} {al : List (Ar × Value)} (hp : p.arcs = al.map (·.1)) (hn : Nds w vn p.nodes) (ha : Sl w va al.length (al.flatMap arC)) (hv : Vias w al) (hf : Ints w vf p.faces) : PlV w (.agg #[vn, va, vf]) p :=
 ⟨vn, va, vf, al, rfl, hp, hn, ⟨ha, hv⟩, hf⟩
theorem PlV.zero (w : World) : PlV w (.agg #[.slice none 0 0, .slice none 0 0, .slice none 0 0]) pl0 :=
 PlV.blocks (al := []) rfl (Sl.nil w) (Sl.nil w) (fun k hk => by simp at hk) (Sl.nil w)
theorem vias_one {w : World} {a : Ar} {u : Value} (h : Pts w u a.via) : Vias w [(a, u)] := fun k hk => by
 have : k = 0 := by simpa using hk
 subst this
 exact h
end Go.Proofs.YtfondidmklmonaaGreat
