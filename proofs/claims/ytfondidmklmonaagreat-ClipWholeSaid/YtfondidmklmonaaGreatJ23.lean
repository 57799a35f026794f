/- Lists of arcs that a call makes itself: appended, one arc replaced. mapsheetsref14.Reversed. -/
import Derived.Test.YtfondidmklmonaaGreatJ09
import Derived.Test.YtfondidmklmonaaGreatJ07
import Derived.Test.YtfondidmklmonaaGreatJ05
import Derived.Test.YtfondidmklmonaaGreatJ21
import Derived.Test.YtfondidmklmonaaGreatJ20
set_option linter.unusedSimpArgs false
set_option linter.unusedVariables false
namespace Go.Proofs.YtfondidmklmonaaGreat
open Go.RowKit

/-- An arc with the slice value of its Via. -/
def arS (x : Ar × SV) : List Value := [.int .i64 x.1.id, .int .i64 x.1.fr, .int .i64 x.1.dst, .slice x.2.a x.2.n x.2.c, .int .i64 x.1.left, .int .i64 x.1.right]
theorem arS_len (x : Ar × SV) : (arS x).length = 6 := rfl
theorem arS_one (x : Ar × SV) : ∀ u ∈ arS x, u.oneCell' = true := by simp [arS, Value.oneCell']
def svA (x : Ar × SV) : Ar × Value := (x.1, .slice x.2.a x.2.n x.2.c)
def svOf : Value → SV
 | .slice a n c => ⟨a, n, c⟩
 | _ => ⟨none, 0, 0⟩
theorem arS_flat (l : List (Ar × SV)) : (l.map svA).flatMap arC = l.flatMap arS := by rw [List.flatMap_map]; rfl
theorem Vias.sv {w : World} {al : List (Ar × Value)} (h : Vias w al) : ∃ bl : List (Ar × SV), al = bl.map svA := by
 refine ⟨al.map fun x => (x.1, svOf x.2), ?_⟩
 rw [List.map_map]
 have : ∀ x ∈ al, (svA ∘ fun x : Ar × Value => (x.1, svOf x.2)) x = x := fun x hx => by
  obtain ⟨k, hk, rfl⟩ := List.mem_iff_getElem.1 hx
  obtain ⟨A, c, hv, -⟩ := h k hk
  show (al[k].1, Value.slice (svOf al[k].2).a (svOf al[k].2).n (svOf al[k].2).c) = al[k]
  rw [Prod.ext_iff]
  exact ⟨rfl, by rw [hv]; rfl⟩
 exact (List.map_id al).symm.trans (List.map_congr_left fun x hx => (this x hx).symm)
end Go.Proofs.YtfondidmklmonaaGreat
namespace Go.Proofs.YtfondidmklmonaaGreat
open Go.RowKit

theorem Row.as_ {w : World} {A : Option Addr} {l : List (Ar × SV)} (h : Row w A (l.flatMap arS)) {k : Nat} (hk : k < l.length) :
  ∃ b o, A = some ⟨b, o, none⟩ ∧ b < w.heap.size ∧ w.cell? ⟨b, o + k * 6, none⟩ = some (.int .i64 l[k].1.id) ∧ w.cell? ⟨b, o + k * 6 + 1, none⟩ = some (.int .i64 l[k].1.fr) ∧ w.cell? ⟨b, o + k * 6 + 2, none⟩ = some (.int .i64 l[k].1.dst) ∧
   w.cell? ⟨b, o + k * 6 + 3, none⟩ = some (.slice l[k].2.a l[k].2.n l[k].2.c) ∧ w.cell? ⟨b, o + k * 6 + 4, none⟩ = some (.int .i64 l[k].1.left) ∧ w.cell? ⟨b, o + k * 6 + 5, none⟩ = some (.int .i64 l[k].1.right) := by
 obtain ⟨b, o, hA, hb, hc⟩ := h.at_ (n := 6) (fun _ => rfl) hk (by omega)
 exact ⟨b, o, hA, hb, hc 0 _ rfl, hc 1 _ rfl, hc 2 _ rfl, hc 3 _ rfl, hc 4 _ rfl, hc 5 _ rfl⟩
/-- A row of the call's own that is not empty: its block. -/
theorem Own.form {α : Type} {w : World} {base : Nat} {e : TypeId} {size : Nat} {f : α → List Value} {v : Value} {l : List α} (h : Own w base e size f v l) (hl : 0 < l.length) : ∃ g c, v = .slice (some ⟨g, 0, none⟩) l.length c ∧ base ≤ g ∧ g < w.heap.size ∧ l.length ≤ c ∧ c ≤ maxLen ∧ (∃ cur, Blk w g e cur ∧ cur.size = c * size) := by
 rcases h.2 with ⟨_, h0⟩ | ⟨g, cap, cur, hv, hg, hh, hnc, hcm, hcs, _⟩
 · omega
 · exact ⟨g, cap, hv, hg, Blk.lt hh, hnc, hcm, cur, hh, hcs⟩

end Go.Proofs.YtfondidmklmonaaGreat
