/- Lists of arcs that a call makes itself: appended, one arc replaced. -/
import Derived.Test.YtibchmofckhofaaPlanQ
import Derived.Test.YtibchmofckhofaaGF
set_option linter.unusedSimpArgs false
set_option linter.unusedVariables false
namespace Go.Proofs.Ytibchmofckhofaa
open Go.RowKit

theorem bAB {B : Nat} {W w : World} (hB : B ≤ W.heap.size) (h : Below B W w) (o : Obj) : Below B W (w.alloc o) := h.alloc (Nat.le_trans hB h.size) o
theorem bSB {B b i : Nat} {W w : World} (h : Below B W w) (hb : B ≤ b) (u : Value) : Below B W (w.setCell ⟨b, i, none⟩ u) := h.setCell (p := ⟨b, i, none⟩) hb u
/-- An arc with the slice value of its Via. -/
def arS (x : Ar × SV) : List Value := [.int .i64 x.1.id, .int .i64 x.1.fr, .int .i64 x.1.dst, .slice x.2.a x.2.n x.2.c, .int .i64 x.1.left, .int .i64 x.1.right]
theorem arS_len (x : Ar × SV) : (arS x).length = 6 := rfl
theorem arS_one (x : Ar × SV) : ∀ u ∈ arS x, u.oneCell' = true := by simp [arS, Value.oneCell']
def svA (x : Ar × SV) : Ar × Value := (x.1, .slice x.2.a x.2.n x.2.c)
def svOf : Value → SV
  | .slice a n c => ⟨a, n, c⟩
  | _ => ⟨none, 0, 0⟩
theorem arS_flat (l : List (Ar × SV)) : (l.map svA).flatMap arC = l.flatMap arS := by rw [List.flatMap_map]; rfl
theorem Vias.sv {w : World} {al : List (Ar × Value)} (h : Vias w al) : ∃ bl : List (Ar × SV), al = bl.map svA := by
  refine ⟨al.map fun x => (x.1, svOf x.2), ?_⟩
  rw [List.map_map]
  have : ∀ x ∈ al, (svA ∘ fun x : Ar × Value => (x.1, svOf x.2)) x = x := fun x hx => by
    obtain ⟨k, hk, rfl⟩ := List.mem_iff_getElem.1 hx
    obtain ⟨A, c, hv, -⟩ := h k hk
    show (al[k].1, Value.slice (svOf al[k].2).a (svOf al[k].2).n (svOf al[k].2).c) = al[k]
    rw [Prod.ext_iff]
    exact ⟨rfl, by rw [hv]; rfl⟩
  exact (List.map_id al).symm.trans (List.map_congr_left fun x hx => (this x hx).symm)
theorem flat_set {α : Type} (f : α → List Value) (n : Nat) (hn : ∀ a, (f a).length = n) (l : List α) (i : Nat) (hi : i < l.length) (y : α) (m : Nat) (hm : m < l.length * n) :
    ((l.set i y).flatMap f)[m]? = if m / n = i then (f y)[m % n]? else (l.flatMap f)[m]? := by
  have hn0 : 0 < n := by
    rcases Nat.eq_zero_or_pos n with h0 | h0
    · subst h0; omega
    · exact h0
  have h1 : m / n < l.length := Nat.div_lt_of_lt_mul (by rw [Nat.mul_comm]; exact hm)
  have h2 : m % n < n := Nat.mod_lt _ hn0
  have e1 := flat_get f n hn (l.set i y) (m / n) (m % n) (by simpa using h1) h2
  have e2 := flat_get f n hn l (m / n) (m % n) h1 h2
  rw [Nat.div_add_mod'] at e1 e2
  rw [e1, e2, List.getElem_set]
  by_cases e : i = m / n
  · rw [if_pos e, if_pos e.symm]
  · rw [if_neg e, if_neg (fun h => e h.symm)]
/-- One element of a row of the call's own is replaced: its six cells. -/
theorem Own.set6 {w : World} {base g n c i : Nat} {e : TypeId} {l : List (Ar × SV)} (h : Own w base e 6 arS (.slice (some ⟨g, 0, none⟩) n c) l) (hi : i < l.length) (y : Ar × SV) :
    Own ((((((w.setCell ⟨g, i * 6, none⟩ (.int .i64 y.1.id)).setCell ⟨g, i * 6 + 1, none⟩ (.int .i64 y.1.fr)).setCell ⟨g, i * 6 + 2, none⟩ (.int .i64 y.1.dst)).setCell ⟨g, i * 6 + 3, none⟩ (.slice y.2.a y.2.n y.2.c)).setCell ⟨g, i * 6 + 4, none⟩ (.int .i64 y.1.left)).setCell ⟨g, i * 6 + 5, none⟩ (.int .i64 y.1.right)) base e 6 arS (.slice (some ⟨g, 0, none⟩) n c) (l.set i y) := by
  obtain ⟨h1, h2⟩ := h
  rcases h2 with ⟨hv, h0⟩ | ⟨g', cap, cur, hv, hg, hh, hnc, hcm, hcs, hx⟩
  · cases hv
  · injection hv with e1 e2 e3
    injection e1 with e1
    injection e1 with e1 _ _
    subst e1 e3
    have hl : (l.set i y).length = l.length := by simp
    refine ⟨by rw [flat_length arS 6 arS_len], .inr ⟨g, c, _, by rw [hl, e2], hg, Blk.set_ (Blk.set_ (Blk.set_ (Blk.set_ (Blk.set_ (Blk.set_ hh (i * 6) _) (i * 6 + 1) _) (i * 6 + 2) _) (i * 6 + 3) _) (i * 6 + 4) _) (i * 6 + 5) _, by rw [hl]; exact hnc, hcm, by simpa using hcs, ?_⟩⟩
    apply List.ext_getElem?
    intro m
    rw [List.getElem?_take, hl]
    by_cases hm : m < l.length * 6
    · rw [if_pos hm, flat_set arS 6 arS_len l i hi y m hm]
      have hcur : (l.flatMap arS)[m]? = cur[m]? := by
        rw [← hx, List.getElem?_take, if_pos hm]; simp
      have hmc : m < cur.size := by rw [hcs]; have := Nat.mul_le_mul_right 6 hnc; omega
      rw [hcur]
      simp only [Array.getElem?_toList, Array.getElem?_setIfInBounds, Array.size_setIfInBounds]
      by_cases hmi : m / 6 = i
      · rw [if_pos hmi]
        obtain ⟨r, hr, rfl⟩ : ∃ r, r < 6 ∧ m = i * 6 + r := ⟨m % 6, by omega, by omega⟩
        rw [show (i * 6 + r) % 6 = r by omega]
        match r, hr with
        | 0, _ => simp [arS]; omega
        | 1, _ => simp [arS]; omega
        | 2, _ => simp [arS]; omega
        | 3, _ => simp [arS]; omega
        | 4, _ => simp [arS]; omega
        | 5, _ => simp [arS]; omega
      · rw [if_neg hmi, if_neg (by omega), if_neg (by omega), if_neg (by omega), if_neg (by omega), if_neg (by omega), if_neg (by omega)]
    · rw [if_neg hm, List.getElem?_eq_none (by rw [flat_length arS 6 arS_len, hl]; omega)]
end Go.Proofs.Ytibchmofckhofaa
