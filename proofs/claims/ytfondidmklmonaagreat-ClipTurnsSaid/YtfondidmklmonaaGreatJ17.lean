/- slices.Grow, slices.Concat at ints (one list). Sorting ints: words. slices.Sort at ints. PLAIN: the ascending list without repetitions: what clip.Arcs (sorted, then compacted) and mapsheetsref41.Arcs (insertion) return. slices.Compact at ints. idset.collect, idset.Normal (one list), clip.Arcs. mapsheetslaw41: square, the closed facts of awake; lists of parts that read. -/
import Derived.Lib.AppendZerosOnto
import Derived.Test.YtfondidmklmonaaGreatJ16
import Derived.Test.YtfondidmklmonaaGreatJ10
import Derived.Test.YtfondidmklmonaaGreatJ09
import Derived.Test.YtfondidmklmonaaGreatGB
import Derived.Shelf.SortM.Plain
import Derived.Shelf.SortM.SortNone
import Derived.Test.YtfondidmklmonaaGreatJ06
import Derived.Test.YtfondidmklmonaaGreatLaySortN
import Derived.Lib.SlicesCompact
import Derived.Shelf.Slices.CompactI
import Derived.Test.YtfondidmklmonaaGreatLayCompN
set_option linter.unusedSimpArgs false
set_option linter.unusedVariables false
namespace Go.Proofs.YtfondidmklmonaaGreat
open Go.RowKit

theorem info_in : ∃ i, Tryz.prog.info? 3 = some i ∧ i.zero = some (.int .i64 0) ∧ i.size = 1 ∧ i.bytes = 8 := info_parts (by kernel_rfl)
set_option maxRecDepth 100000 in
set_option maxHeartbeats 1000000 in
theorem Grow_in_spec (n : Nat) (w : World) (h2 : n ≤ 2097152) :
  Calls Tryz.prog 142 #[.slice none 0 0, .int .i64 n] w fun e w' => ∃ A c, e = .returned (.slice A 0 c) ∧ Below w.heap.size w w' ∧ Own w' w.heap.size 3 1 inC (.slice A 0 c) [] := by
 rcases Nat.eq_zero_or_pos n with rfl | h1
 ·
  go_enter Tryz.func142, Tryz.ntmps142
  go_wp2_with fail
  go_ret
  exact ⟨none, 0, rfl, bR w, Own.nil _ _ _ _ _⟩
 obtain ⟨i, hi, hz, hs, hb⟩ := info_in
 have hr : ∀ ty, (Builtin.append_ #[24, 3] ty #[.slice none 0 0, .int .i64 n]).run Tryz.prog w = _ := fun ty =>
  Lib.run_append_grow_zeros w 24 3 ty 3 i _ .i64 .i64 Tryz.underlying24 Tryz.underlying3 hi hz none 0 0 [] (by simpa using run_firstCells_none (P := Tryz.prog) (w := w.drew) i.size 0 0 0) n (by omega) (by omega) (by omega) (by omega) (by rw [hb]; omega)
   (by rw [hb]; exact growslice_fits (by omega) (by omega))
 have hge := grownCap_ge w (0 + n) 0 3
 have hle := grownCap_le_maxLen w (0 + n) 0 3 (by unfold maxLen; omega)
 have hle' := hle
 unfold maxLen at hle'
 generalize hG : grownCap w (0 + n) 0 3 = G at *
 have HR := Lib.hid hr
 have Hle := Lib.hid hle
 clear hr hG hle hi hz hs hb
 simp only [Nat.zero_add] at HR
 have q1 : ¬ ((n : Int) < 0) := by omega
 have q2 : 0 < (n : Int) := by omega
 go_enter Tryz.func142, Tryz.ntmps142
 go_wp2_with (at_builtin; refine Lib.wpList_append_run _ rfl _ _ _ _ rfl _ _ rfl rfl _ _ (HR.out _) ?_)
 go_ret
 refine ⟨_, _, rfl, bA (bD (bR w)) _, ?_⟩
 refine ⟨rfl, .inr ⟨w.heap.size, _, _, rfl, Nat.le_refl _, heap_alloc_new _ _, Nat.zero_le _, Hle.out, ?_, by simp⟩⟩
 simp only [Array.size_append, List.size_toArray, List.length_nil, size_zeroCells]
 simp only [Value.cells, List.size_toArray, List.length_cons, List.length_nil]
 omega

set_option maxRecDepth 100000 in
set_option maxHeartbeats 1000000 in
/-- slices.Concat of one list -/
theorem Concat_in_spec (g c1 : Nat) (t : TypeId) (A : Option Addr) (c : Nat) (l : List Int) (w : World) (hv : Blk w g t #[.slice A l.length c]) (hp : Ints w (.slice A l.length c) l) (h2 : l.length ≤ 2097152) :
  Calls Tryz.prog 107 #[.slice (some ⟨g, 0, none⟩) 1 c1] w (RetIn w l) := by
 have HP := Lib.hid hp; clear hp
 have HX := Lib.hid hv
 have hX := hv
 obtain ⟨hXl, hXa, -⟩ := hX.facts1
 have HL := Lib.hid h2
 obtain ⟨N, hN⟩ : ∃ N, l.length = N := ⟨_, rfl⟩
 have HN := Lib.hid hN
 rw [hN] at hXa h2 HX HP
 clear hv hN hX
 unfold RetIn
 go_enter Tryz.func107, Tryz.ntmps107
 go_wp2_with fail
 go_loopw [3, 11] (fun s i wr => ∃ k : Nat, k ≤ 1 ∧ i = .int .i64 k ∧ s = .int .i64 ((k * N : Nat) : Int) ∧ wr = w) (fun _ i _ => 1 - (intOf i).toNat)
 case atStart => exact ⟨0, Nat.zero_le _, rfl, by simp, rfl⟩
 case round =>
  obtain ⟨k, hk, rfl, rfl, rfl⟩ := hrel
  rcases (by omega : k = 0 ∨ k = 1) with rfl | rfl
  ·
   simp only [Nat.zero_mul]
   go_wp2_with fail
   go_roundw
   case rel => exact ⟨1, by omega, by go_num, by simp, trivial⟩
   case measure => simp [intOf]
  simp only [Nat.one_mul]
  go_wp2_with fail
  refine (Grow_in_spec N _ h2).mono ?_
  rintro e w1 ⟨A1, c2, rfl, hb1, hown⟩
  have Hown := Lib.hid hown
  have Hb1 := Lib.hid hb1
  have hY := HX.out.keep hb1
  have HY := Lib.hid hY
  clear hown hb1 h2 hXl hXa hY
  obtain ⟨wo, rfl⟩ : ∃ wo : World, wo = wr := ⟨_, rfl⟩
  go_wp2_with fail
  go_loopw [6, 27] (fun s i wr => ∃ k : Nat, k ≤ 1 ∧ i = .int .i64 k ∧ Own wr wo.heap.size 3 1 inC s (if k = 0 then [] else l) ∧ Below wo.heap.size wo wr) (fun _ i _ => 1 - (intOf i).toNat)
  case atStart => exact ⟨0, Nat.zero_le _, rfl, Hown.out, Hb1.out⟩
  case round =>
   obtain ⟨k, hk, rfl, hown, hb⟩ := hrel
   have Hb := Lib.hid hb
   replace Hown := Lib.hid hown
   have hsz := hb.size
   clear hown
   rcases (by omega : k = 0 ∨ k = 1) with rfl | rfl
   ·
    have hX := HX.out.keep hb
    clear hb
    have ho0 := Hown.out
    rw [if_pos rfl] at ho0
    replace Hown := Lib.hid ho0
    clear ho0
    try clear hXl
    try clear hXa
    obtain ⟨hXl, hXa, -⟩ := hX.facts1
    go_wp2_with
     (at_builtin
      refine wpList_appl _ rfl (.tmp 31) (.tmp 32) _ rfl (base := wo.heap.size) elem_in inC_len inC_one rfl Hown.out rfl (l2 := l) (by have hp := HP.out.mono Hb.out; exact hp) (by have := HL.out; simp only [List.length_nil]; omega) (by have := HL.out; simp only [List.length_nil]; omega) hsz ?_
      intro v1 w1 hown1 hg hat
      have Bw1 := Lib.hid (show Below wo.heap.size wo w1 from bG Hb.out hg (fun g hk => (Hown.out.lt g hk).1))
      clear hg hat
      have Hown1 := Lib.hid hown1; clear hown1)
    go_roundw
    case rel => exact ⟨1, by omega, by go_num, by simpa using Hown1.out, Bw1.out⟩
    case measure => simp [intOf]
   ·
    clear hb
    have ho := Hown.out
    simp only [Nat.one_ne_zero, if_false] at ho
    obtain ⟨A3, c3, rfl, -⟩ := Own.shape_ ho
    replace Hown := Lib.hid ho
    clear ho
    go_wp2_with fail
    go_ret
    exact ⟨_, _, rfl, Hb.out, Hown.out⟩
end Go.Proofs.YtfondidmklmonaaGreat
namespace Go.Proofs.YtfondidmklmonaaGreat
open Go.RowKit

theorem flat_in (l : List Int) (j : Nat) : (l.flatMap inC)[j]? = (l[j]?).map (.int .i64 ·) := by
 induction l generalizing j with
 | nil => simp
 | cons a l ih =>
  rw [List.flatMap_cons]
  cases j with
  | zero => rfl
  | succ j =>
   show (.int .i64 a :: l.flatMap inC)[j + 1]? = _
   rw [List.getElem?_cons_succ, ih, List.getElem?_cons_succ]
theorem flat_in_len (l : List Int) : (l.flatMap inC).length = l.length := by
 have := flat_length inC 1 inC_len l
 omega
def RetSortIn (w : World) (base : Nat) (v : Value) (sl : List Int) (e : Ending) (w' : World) : Prop :=
 e = .returned (.tuple #[]) ∧ Own w' base 3 1 inC v sl ∧ w.grownBy w' v.ownBlock

end Go.Proofs.YtfondidmklmonaaGreat
namespace Go.Proofs.YtfondidmklmonaaGreat
open Go.RowKit Go.Sort

def ascL (l : List Int) : List Int := l.mergeSort fun x y => decide (x ≤ y)
theorem ascL_perm (l : List Int) : (ascL l).Perm l := List.mergeSort_perm _ _
theorem ascL_len (l : List Int) : (ascL l).length = l.length := (ascL_perm l).length_eq
theorem ascL_sorted (l : List Int) : (ascL l).Pairwise (· ≤ ·) := by
 have := List.pairwise_mergeSort (le := fun (x y : Int) => decide (x ≤ y)) (fun a b c h1 h2 => by simp only [decide_eq_true_eq] at *; omega) (fun a b => by simp only [Bool.or_eq_true, decide_eq_true_eq]; omega) l
 exact this.imp (fun h => by simpa using h)
theorem putRow_heap (w : World) (n : Nat) (blk off : Nat) (d : Array Int) (os : Array Obj) : (grow (putRow (Value.int .i64) (Sort.ahead w n) blk off d) os).heap = w.heap.modify blk (onCells (putCells (Value.int .i64) off d)) ++ os := rfl
theorem putRow_grown (w : World) (n : Nat) (blk off : Nat) (d : Array Int) (os : Array Obj) : w.grownBy (grow (putRow (Value.int .i64) (Sort.ahead w n) blk off d) os) (some blk) := by
 refine ⟨rfl, rfl, rfl, ?_, fun i hi hne => ?_⟩
 · rw [putRow_heap]; simp
 ·
  have hne' : blk ≠ i := fun e => hne (by rw [e])
  rw [putRow_heap, Array.getElem?_append_left (by simpa using hi), Array.getElem?_modify, if_neg hne']
set_option maxHeartbeats 1000000 in
theorem SortN_spec (base : Nat) (v : Value) (sl : List Int) (w : World) (hown : Own w base 3 1 inC v sl) (hn : sl.length ≤ 4294967296) :
  Calls Tryz.prog 108 #[v] w (RetSortIn w base v (ascL sl)) := by
 rcases sl with _ | ⟨s0, rest⟩
 ·
  have hv : ∃ p cap, v = .slice p 0 cap := by
   rcases hown.2 with ⟨h, _⟩ | ⟨g, cap, cur, h, _⟩
   · exact ⟨_, _, h⟩
   · exact ⟨_, _, h⟩
  obtain ⟨p, cap, rfl⟩ := hv
  refine Calls.mono (AnyM.slices_Sort_int_none Tryz.sortN p cap w) ?_
  rintro e w' ⟨rfl, rfl⟩
  exact ⟨rfl, by rw [show ascL [] = [] by simp [ascL]]; exact hown, World.grownBy.refl _ _⟩
 generalize hsl : s0 :: rest = sl at *
 have hpos : 0 < sl.length := by rw [← hsl]; simp
 obtain ⟨hlen, hown2⟩ := hown
 rcases hown2 with ⟨_, h0⟩ | ⟨g, cap, cur, rfl, hg, hh, hnc, hcm, hcs, hx⟩
 · omega
 have hcur : ∀ j, j < sl.length → cur[j]? = (sl[j]?).map (.int .i64 ·) := fun j hj => by
  rw [← flat_in, ← hx, List.getElem?_take, if_pos (by omega)]; simp
 have hH : Holds (Value.int .i64) w g 0 sl.toArray := fun j hj => by
  have hj' : j < sl.length := by simpa using hj
  refine ⟨?_, Blk.frozen (t := 3) (cs := cur) hh _⟩
  rw [cell_of_row w g _ cur 3 (0, 0) hh, Nat.zero_add, hcur j hj', getElem!_pos sl.toArray j hj, List.getElem?_eq_getElem hj']
  simp
 refine Calls.mono (AnyM.slices_Sort_int Tryz.sortN g 0 cap sl w hH (Blk.lt hh) (by omega)) ?_
 rintro e w' ⟨rfl, n, os, rfl⟩
 have hl' : (ascL sl).length = sl.length := ascL_len sl
 refine ⟨rfl, ?_, putRow_grown w n g 0 _ os⟩
 unfold Own
 rw [hl']
 refine ⟨by rw [flat_in_len, hl']; omega, .inr ⟨g, cap, putCells (Value.int .i64) 0 (ascL sl).toArray cur, rfl, hg, ?_, hnc, hcm, by simp [putCells, hcs], ?_⟩⟩
 ·
  have hgl : g < w.heap.size := Blk.lt hh
  show (grow (putRow (Value.int .i64) (Sort.ahead w n) g 0 (ascL sl).toArray) os).heap[g]? = _
  rw [putRow_heap, Array.getElem?_append_left (by simpa using hgl), Array.getElem?_modify, if_pos rfl, hh]
  rfl
 ·
  apply List.ext_getElem?
  intro j
  rw [List.getElem?_take]
  by_cases hj : j < sl.length * 1
  ·
   rw [if_pos hj]
   have hjc : j < cur.size := by rw [hcs]; omega
   have hjd : j < (ascL sl).length := by rw [hl']; omega
   rw [flat_in, List.getElem?_eq_getElem hjd]
   have e1 : (putCells (Value.int .i64) 0 (ascL sl).toArray cur).toList[j]? = some (.int .i64 (ascL sl).toArray[j]!) := by
    simp [putCells, hjc, hjd]
   rw [e1, getElem!_pos (ascL sl).toArray j (by simpa using hjd)]
   simp
  · rw [if_neg hj, List.getElem?_eq_none (by rw [flat_in_len, hl']; omega)]
end Go.Proofs.YtfondidmklmonaaGreat
namespace Go.Proofs.YtfondidmklmonaaGreat
open Go.Lib

/-- sorted, without repetitions -/
def normI (ns : List Int) : List Int := compactUpTo (ascL ns).toArray (ascL ns).length

theorem compact_asc (l : List Int) (hl : l.Pairwise (· ≤ ·)) : ∀ m, m ≤ l.length → (compactUpTo l.toArray m).Pairwise (· < ·) ∧ (∀ x, x ∈ compactUpTo l.toArray m ↔ x ∈ l.take m)
 | 0, _ => ⟨by simp [compactUpTo], fun x => by simp [compactUpTo]⟩
 | m + 1, hm => by
  obtain ⟨h1, h2⟩ := compact_asc l hl m (by omega)
  have hg : l.toArray[m]! = l[m] := by rw [getElem!_pos l.toArray m (by simp; omega)]; simp
  have ht : l.take (m + 1) = l.take m ++ [l[m]] := List.take_succ_eq_append_getElem hm
  have hle : ∀ x ∈ l.take m, x ≤ l[m] := fun x hx => by
   obtain ⟨i, hi, rfl⟩ := List.getElem_of_mem hx
   rw [List.length_take] at hi
   rw [List.getElem_take]
   exact List.pairwise_iff_getElem.1 hl i m (by omega) hm (by omega)
  rw [compactUpTo_succ, ht, hg]
  by_cases hk : keeps l.toArray m = true
  ·
   rw [if_pos hk]
   have hlt : ∀ x ∈ l.take m, x < l[m] := fun x hx => by
    obtain ⟨i, hi, rfl⟩ := List.getElem_of_mem hx
    rw [List.length_take] at hi
    rw [List.getElem_take]
    have hm0 : 0 < m := by omega
    have hg' : l.toArray[m - 1]! = l[m - 1] := by rw [getElem!_pos l.toArray (m - 1) (by simp; omega)]; simp
    have hne : l[m] ≠ l[m - 1] := by
     unfold keeps at hk
     rw [decide_eq_true_eq, hg, hg'] at hk
     rcases hk with h | h
     · omega
     · exact h
    have a1 : l[m - 1] ≤ l[m] := List.pairwise_iff_getElem.1 hl (m - 1) m (by omega) hm (by omega)
    have a2 : l[i] ≤ l[m - 1] := by
     rcases Nat.lt_or_ge i (m - 1) with h | h
     · exact List.pairwise_iff_getElem.1 hl i (m - 1) (by omega) (by omega) h
     ·
      have : i = m - 1 := by omega
      subst this; exact Int.le_refl _
    omega
   refine ⟨?_, fun x => by rw [List.mem_append, List.mem_append, h2]⟩
   rw [List.pairwise_append]
   refine ⟨h1, List.pairwise_singleton _ _, fun a ha b hb => ?_⟩
   rw [List.mem_singleton.1 hb]
   exact hlt a ((h2 a).1 ha)
  ·
   have hk' : ¬ (m = 0 ∨ l.toArray[m]! ≠ l.toArray[m - 1]!) := fun h => hk (by unfold keeps; exact decide_eq_true h)
   rw [if_neg hk, List.append_nil]
   refine ⟨h1, fun x => ?_⟩
   rw [h2, List.mem_append, List.mem_singleton]
   constructor
   · exact .inl
   ·
    rintro (h | rfl)
    · exact h
    ·
     have hm0 : 0 < m := by rcases Nat.eq_zero_or_pos m with h | h; exact absurd (.inl h) hk'; exact h
     have hg' : l.toArray[m - 1]! = l[m - 1] := by rw [getElem!_pos l.toArray (m - 1) (by simp; omega)]; simp
     have he : l[m] = l[m - 1] := by
      rw [← hg, ← hg']
      exact Classical.byContradiction fun h => hk' (.inr h)
     rw [he, List.mem_take_iff_getElem]
     exact ⟨m - 1, by omega, rfl⟩
theorem normI_eq (ns : List Int) : normI ns = arcsR ns := by
 obtain ⟨a1, a2⟩ := compact_asc (ascL ns) (ascL_sorted ns) _ (Nat.le_refl _)
 obtain ⟨b1, b2⟩ := foldl_insA ns [] List.Pairwise.nil
 have nd : ∀ {l : List Int}, l.Pairwise (· < ·) → l.Nodup := fun h => h.imp (fun h e => by subst e; exact Int.lt_irrefl _ h)
 have hp : (normI ns).Perm (arcsR ns) := (List.perm_ext_iff_of_nodup (nd a1) (nd b1)).2 fun x => by
  rw [a2, List.take_length, (ascL_perm ns).mem_iff, b2]; simp
 refine sorted_uniq (lt := fun a b => decide (a < b)) hp ?_ ?_ (fun a _ b _ h1 h2 => by simp only [decide_eq_false_iff_not] at *; omega)
 · exact a1.imp (fun h => by simp only [decide_eq_false_iff_not]; omega)
 · exact b1.imp (fun h => by simp only [decide_eq_false_iff_not]; omega)
end Go.Proofs.YtfondidmklmonaaGreat
namespace Go.Proofs.YtfondidmklmonaaGreat
open Go.RowKit Go.Sort

def RetCompN (w : World) (base : Nat) (v : Value) (l : List Int) (e : Ending) (w' : World) : Prop :=
 ∃ A c, e = .returned (.slice A l.length c) ∧ Own w' base 3 1 inC (.slice A l.length c) l ∧ w.grownBy w' v.ownBlock
theorem compact_le (zs : List Int) : (Lib.compact zs).length ≤ zs.length := by
 unfold Lib.compact Lib.compactUpTo
 rw [List.length_map]
 exact Nat.le_trans (List.length_filter_le _ _) (by simp)
theorem grow_nil (w : World) : grow w #[] = w := by unfold grow; simp
set_option maxHeartbeats 1000000 in
theorem CompN_spec (base : Nat) (v : Value) (sl : List Int) (w : World) (hown : Own w base 3 1 inC v sl) (hn : sl.length ≤ 4294967296) :
  Calls Tryz.prog 109 #[v] w (RetCompN w base v (Lib.compact sl)) := by
 rcases sl with _ | ⟨s0, rest⟩
 ·
  have hv : ∃ p cap, v = .slice p 0 cap := by
   rcases hown.2 with ⟨h, _⟩ | ⟨g, cap, cur, h, _⟩
   · exact ⟨_, _, h⟩
   · exact ⟨_, _, h⟩
  obtain ⟨p, cap, rfl⟩ := hv
  refine Calls.mono (Any.slices_Compact_int_empty Tryz.compN p cap w) ?_
  rintro e w' ⟨rfl, rfl⟩
  exact ⟨p, cap, rfl, hown, World.grownBy.refl _ _⟩
 generalize hsl : s0 :: rest = sl at *
 have hpos : 0 < sl.length := by rw [← hsl]; simp
 obtain ⟨hlen, hown2⟩ := hown
 rcases hown2 with ⟨_, h0⟩ | ⟨g, cap, cur, rfl, hg, hh, hnc, hcm, hcs, hx⟩
 · omega
 have hcur : ∀ j, j < sl.length → cur[j]? = (sl[j]?).map (.int .i64 ·) := fun j hj => by
  rw [← flat_in, ← hx, List.getElem?_take, if_pos (by omega)]; simp
 have hH : Holds (Value.int .i64) w g 0 sl.toArray := fun j hj => by
  have hj' : j < sl.length := by simpa using hj
  refine ⟨?_, Blk.frozen (t := 3) (cs := cur) hh _⟩
  rw [cell_of_row w g _ cur 3 (0, 0) hh, Nat.zero_add, hcur j hj', getElem!_pos sl.toArray j hj, List.getElem?_eq_getElem hj']
  simp
 refine Calls.mono (Any.slices_Compact_int Tryz.compN g 0 cap sl w hH (by omega) hnc) ?_
 rintro e w' ⟨rfl, q, rfl⟩
 have hle := compact_le sl
 generalize Lib.compact sl = cl at *
 obtain ⟨D, hD⟩ : ∃ D, cl ++ List.replicate (sl.length - cl.length) 0 = D := ⟨_, rfl⟩
 have hDl : D.length = sl.length := by rw [← hD, List.length_append, List.length_replicate]; omega
 rw [hD]
 have hgr := putRow_grown w q g 0 D.toArray #[]
 rw [grow_nil] at hgr
 refine ⟨some ⟨g, 0, none⟩, cap, rfl, ?_, hgr⟩
 refine ⟨by rw [flat_in_len]; omega, .inr ⟨g, cap, putCells (Value.int .i64) 0 D.toArray cur, rfl, hg, ?_, by omega, hcm, by simp [putCells, hcs], ?_⟩⟩
 ·
  have hgl : g < w.heap.size := Blk.lt hh
  have e0 := putRow_heap w q g 0 D.toArray #[]
  rw [grow_nil] at e0
  show (putRow (Value.int .i64) (Sort.ahead w q) g 0 D.toArray).heap[g]? = _
  rw [e0, Array.getElem?_append_left (by simpa using hgl), Array.getElem?_modify, if_pos rfl, hh]
  rfl
 ·
  apply List.ext_getElem?
  intro j
  rw [List.getElem?_take]
  by_cases hj : j < cl.length * 1
  ·
   rw [if_pos hj]
   have hjc : j < cur.size := by rw [hcs]; omega
   have hjd : j < D.length := by omega
   have hDj : D[j]? = cl[j]? := by rw [← hD, List.getElem?_append_left (by omega)]
   rw [flat_in, ← hDj, List.getElem?_eq_getElem hjd]
   have e1 : (putCells (Value.int .i64) 0 D.toArray cur).toList[j]? = some (.int .i64 D.toArray[j]!) := by
    simp [putCells, hjc, hjd]
   rw [e1, getElem!_pos D.toArray j (by simpa using hjd)]
   simp
  · rw [if_neg hj, List.getElem?_eq_none (by rw [flat_in_len]; omega)]
end Go.Proofs.YtfondidmklmonaaGreat
namespace Go.Proofs.YtfondidmklmonaaGreat
open Go.RowKit

set_option maxRecDepth 100000 in
set_option maxHeartbeats 2000000 in
theorem collect_spec (g c1 : Nat) (t : TypeId) (A : Option Addr) (c : Nat) (l : List Int) (w : World) (hv : Blk w g t #[.slice A l.length c]) (hp : Ints w (.slice A l.length c) l) (h2 : l.length ≤ 2097152) :
  Calls Tryz.prog 72 #[.slice (some ⟨g, 0, none⟩) 1 c1] w (RetIn w (normI l)) := by
 have HC := Lib.hid (Concat_in_spec g c1 t A c l w hv hp h2)
 obtain ⟨q, hq⟩ : ∃ q, normI l = q := ⟨_, rfl⟩
 rw [hq]
 have HQ := Lib.hid (show Lib.compact (ascL l) = q from hq)
 clear hq hv hp
 unfold RetIn
 go_enter Tryz.func72, Tryz.ntmps72
 go_wp2_with fail
 refine HC.out.mono ?_
 rintro e w1 ⟨A1, c2, rfl, hb1, ho1⟩
 have HB1 := Lib.hid hb1; have HO1 := Lib.hid ho1
 clear hb1 ho1
 go_wp2_with fail
 refine (SortN_spec w.heap.size _ l _ HO1.out (by omega)).mono ?_
 rintro e w2 ⟨rfl, ho2, hg2⟩
 have HB2 := Lib.hid (bG HB1.out hg2 (fun k hk => (HO1.out.lt k hk).1)); have HO2 := Lib.hid ho2
 clear hg2 ho2
 go_wp2_with fail
 have hc := CompN_spec w.heap.size _ (ascL l) _ HO2.out (by rw [ascL_len]; omega)
 rw [HQ.out] at hc
 refine hc.mono ?_
 clear hc
 rintro e w3 ⟨A3, c3, rfl, ho3, hg3⟩
 have HB3 := Lib.hid (bG HB2.out hg3 (fun k hk => (HO2.out.lt k hk).1)); have HO3 := Lib.hid ho3
 clear hg3 ho3
 go_wp2_with fail
 go_ret
 exact ⟨A3, c3, rfl, HB3.out, HO3.out⟩
set_option maxRecDepth 100000 in
set_option maxHeartbeats 2000000 in
theorem INormal_spec (v : Value) (l : List Int) (w : World) (h : Ints w v l) (h2 : l.length ≤ 2097152) :
  Calls Tryz.prog 45 #[v] w (RetIn w (normI l)) := by
 have HP := Lib.hid h
 obtain ⟨A, c, rfl, -⟩ := h
 obtain ⟨q, hq⟩ : ∃ q, normI l = q := ⟨_, rfl⟩
 have HC := Lib.hid (fun g c1 t W hv hp => collect_spec g c1 t A c l W hv hp h2)
 rw [hq] at HC ⊢
 clear hq h2
 unfold RetIn at HC ⊢
 go_enter Tryz.func45, Tryz.ntmps45
 go_wp2_with fail
 refine (HC.out _ _ 24 _ (Blk.made rfl _ _) (HP.out.mono (bA (bR w) _))).mono ?_
 rintro e w3 ⟨A3, c3, rfl, hb3, ho3⟩
 have HB3 := Lib.hid (bT (bA (bR w) _) hb3); have HO3 := Lib.hid (ho3.mono_base (b' := w.heap.size) (by simp))
 clear hb3 ho3
 go_wp2_with fail
 go_ret
 exact ⟨A3, c3, rfl, HB3.out, HO3.out⟩
set_option maxRecDepth 100000 in
set_option maxHeartbeats 4000000 in
theorem cArcs_spec (v : Value) (x : Prt) (w : World) (h : PrtV w v x) (hl : x.pieces.length ≤ 1000000) :
  Calls Tryz.prog 21 #[v] w (RetIn w (arcsR (x.pieces.map (·.arc)))) := by
 obtain ⟨vp, vn, al, rfl, hpa, ⟨⟨Aa, ca, rfl, ha1, ha2, hRa⟩, hV⟩, ⟨An, cn, rfl, hn1, hn2, -⟩⟩ := h
 unfold maxLen at ha2
 have hal : al.length ≤ 1000000 := by rw [hpa, List.length_map] at hl; exact hl
 obtain ⟨ns, hns⟩ : ∃ ns, x.pieces.map (·.arc) = ns := ⟨_, rfl⟩
 rw [hns]
 have HNl := Lib.hid (show ns.length = al.length by rw [← hns, hpa]; simp)
 have HG := Lib.hid (show ∀ k (hk : k < al.length) (hk' : k < ns.length), ns[k] = al[k].1.arc by
  intro k hk hk'
  subst hns
  simp [hpa])
 obtain ⟨q, hq⟩ : ∃ q, arcsR ns = q := ⟨_, rfl⟩
 rw [hq]
 have HQ := Lib.hid (show normI ns = q by rw [normI_eq, hq])
 have HRa := Lib.hid hRa; have HV := Lib.hid hV
 generalize x.nodes.length = nn at *
 generalize x.sheet = sh at *
 clear hl hpa hns hq hRa hV
 unfold RetIn
 go_enter Tryz.func21, Tryz.ntmps21
 go_wp2_with fail
 obtain ⟨W0, hW0⟩ : ∃ W0 : World, W0 = w.alloc (.cells #[.int .i64 sh, .slice Aa al.length ca, .slice An nn cn] 35) := ⟨_, rfl⟩
 have Bw0 : Below w.heap.size w W0 := by rw [hW0]; exact bA (bR w) _
 rw [← hW0]
 have HB0 := Lib.hid Bw0
 clear hW0 Bw0
 go_loopw [2, 8] (fun s i wr => ∃ (k : Nat) (L : List Int) (A : Option Addr) (c : Nat), k ≤ al.length ∧ i = .int .i64 k ∧ s = .slice A L.length c ∧ L = ns.take k ∧ L.length ≤ k ∧ Own wr W0.heap.size 3 1 inC (.slice A L.length c) L ∧ Below W0.heap.size W0 wr) (fun _ i _ => al.length - (intOf i).toNat)
 case atStart => exact ⟨0, [], none, 0, Nat.zero_le _, rfl, rfl, rfl, Nat.le_refl _, Own.nil _ _ _ _ _, bR W0⟩
 case round =>
  obtain ⟨k, L, A, c, hk, rfl, rfl, hL, hLl, hown, hb⟩ := hrel
  have Hb := Lib.hid hb
  have HL := Lib.hid hL
  have HOwn := Lib.hid hown
  have hz2 := hb.size
  clear hb hL hown
  by_cases hlt : k < al.length
  case neg =>
   have HLq := Lib.hid (show normI L = q by rw [HL.out, ← HQ.out, List.take_of_length_le (by have := HNl.out; omega)])
   go_wp2_with fail
   have hc := INormal_spec _ L _ HOwn.out.sl (by omega)
   rw [HLq.out] at hc
   refine hc.mono ?_
   clear hc
   rintro e w3 ⟨A3, c3, rfl, hb3, ho3⟩
   have HO3 := Lib.hid (ho3.mono_base (Nat.le_trans HB0.out.size hz2))
   have HB3 := Lib.hid (bT (bT HB0.out Hb.out) hb3)
   clear hb3 ho3
   go_wp2_with fail
   go_ret
   exact ⟨A3, c3, rfl, HB3.out, HO3.out⟩
  obtain ⟨b, o, rfl, hlb, c0, c1, c2, c3⟩ := (HRa.out.mono (bT HB0.out Hb.out)).pc hlt
  obtain ⟨Av, cv, hv, -⟩ := HV.out k hlt
  rw [hv] at c1
  have hkn : k < ns.length := by have := HNl.out; omega
  obtain ⟨n, hn⟩ : ∃ n, al[k].1.arc = n := ⟨_, rfl⟩
  have HT2 := Lib.hid (show L ++ [n] = ns.take (k + 1) by rw [take_snoc_ ns hkn, ← HL.out, HG.out k hlt hkn, hn])
  rw [hn] at c0
  clear hn hkn hv
  go_wp2_with
   (at_builtin
    refine wpList_appl _ rfl (.tmp 12) (.tmp 15) _ rfl (base := W0.heap.size) elem_in inC_len inC_one rfl (Own.alloc (Own.alloc HOwn.out _) _) rfl (l2 := [n]) (Sl.lit (n := 1) (Blk.made (by simp) _ _) rfl (le_maxLen (by omega))) (by simp only [List.length_cons, List.length_nil]; omega) (by simp only [List.length_cons, List.length_nil]; omega) (by simp; omega) ?_
    intro v5 w5 ho5 hg5 hat5
    obtain ⟨A5, c5, hv5, -⟩ := Own.shape_ ho5
    rw [show (L ++ [n]).length = L.length + 1 by simp] at hv5
    subst hv5
    have HB5 := Lib.hid (Below.grown ((Hb.out.alloc hz2 _).alloc (by simp; omega) _) hg5 (by simp; omega) (fun i hi => (HOwn.out.lt i hi).1))
    have HO5 := Lib.hid ho5
    clear ho5 hg5 hat5)
  go_roundw
  case rel => (rw [show (L.length + 1) = (L ++ [n]).length by simp] at *; exact ⟨k + 1, L ++ [n], A5, c5, by omega, by go_num, rfl, HT2.out, by rw [List.length_append, List.length_singleton]; omega, HO5.out, HB5.out⟩)
  case measure => simp [intOf]; omega
end Go.Proofs.YtfondidmklmonaaGreat
namespace Go.Proofs.YtfondidmklmonaaGreat
open Go.RowKit

def sq41 : Pl := ⟨[⟨1, ⟨0, 0⟩⟩], [⟨1, 1, 1, [⟨10, 0⟩, ⟨10, 10⟩, ⟨0, 10⟩], 1, 0⟩], [1]⟩
def se41 : Se := ⟨⟨-10, 0⟩, 10, 10, 3, 1⟩
def st41 : Pl := ⟨[⟨1, ⟨11, 7⟩⟩, ⟨2, ⟨9, 11⟩⟩], [⟨1, 1, 2, [], 0, 0⟩], []⟩
def pc41 (l : List Pt) : Pc := ⟨1, l, 0, 0⟩
def prt41a : Prt := ⟨1, [pc41 [⟨0, 10⟩, ⟨0, 0⟩]], [⟨1, ⟨0, 0⟩⟩]⟩
def prt41b : Prt := ⟨2, [pc41 [⟨0, 0⟩, ⟨10, 0⟩, ⟨10, 10⟩, ⟨0, 10⟩, ⟨0, 0⟩]], [⟨1, ⟨0, 0⟩⟩]⟩
def prt41c : Prt := ⟨3, [pc41 [⟨10, 0⟩, ⟨10, 10⟩]], []⟩
def stp41 : Pc := ⟨1, [⟨10, 9⟩, ⟨10, 10⟩], 3, 4⟩
theorem sq41_all : allRes sq41 se41 = ([prt41a, prt41b, prt41c], 0) := by decide +kernel
theorem sq41_two : partRes sq41 se41 2 = (prt41b, 0) := by decide +kernel
theorem sq41_four : partRes sq41 se41 4 = (prt0, 7) := by decide +kernel
theorem st41_two : partRes st41 se41 2 = (⟨2, [stp41], []⟩, 0) := by decide +kernel
theorem sq41_arcs : arcsR (prt41b.pieces.map (·.arc)) = [1] := by decide +kernel
theorem sq41_bc : decide (prt41b = prt41b) = true := by simp
theorem sq41_ba : decide (prt41b = prt41a) = false := by decide +kernel
theorem small_pl {p : Pl} (h : (decide (p.arcs.length ≤ 1000) && decide (p.nodes.length ≤ 1000) && p.arcs.all (fun a => decide (a.via.length ≤ 1000))) = true) : SmP p := by
 simp only [Bool.and_eq_true, decide_eq_true_eq, List.all_eq_true] at h
 exact ⟨h.1.1, h.1.2, h.2⟩
theorem sq41_sm : SmP sq41 := small_pl (by decide)
theorem st41_sm : SmP st41 := small_pl (by decide)

def sqA41 : Ar := ⟨1, 1, 1, [⟨10, 0⟩, ⟨10, 10⟩, ⟨0, 10⟩], 1, 0⟩
def RetSq41 (w : World) (e : Ending) (w' : World) : Prop :=
 ∃ g1 g2 g3, e = .returned (.agg #[.slice (some ⟨g1, 0, none⟩) 1 1, .slice (some ⟨g2, 0, none⟩) 1 1, .slice (some ⟨g3, 0, none⟩) 1 1]) ∧ Below w.heap.size w w' ∧ PlV w' (.agg #[.slice (some ⟨g1, 0, none⟩) 1 1, .slice (some ⟨g2, 0, none⟩) 1 1, .slice (some ⟨g3, 0, none⟩) 1 1]) sq41
theorem PlV.blks41 {w : World} {vn va vf : Value} {p : Pl} {al : List (Ar × Value)} (hp : p.arcs = al.map (·.1)) (hn : Nds w vn p.nodes) (ha : Sl w va al.length (al.flatMap arC)) (hv : Vias w al) (hf : Ints w vf p.faces) : PlV w (.agg #[vn, va, vf]) p :=
 ⟨vn, va, vf, al, rfl, hp, hn, ⟨ha, hv⟩, hf⟩
theorem vias_one {w : World} {a : Ar} {v : Value} (h : Pts w v a.via) : Vias w [(a, v)] := fun k hk => by
 have : k = 0 := by simpa using hk
 subst this
 exact h
set_option maxRecDepth 100000 in
set_option maxHeartbeats 2000000 in
theorem square41_spec (w : World) : Calls Tryz.prog 33 #[] w (RetSq41 w) := by
 go_enter Tryz.func33, Tryz.ntmps33
 go_wp2_with fail
 obtain ⟨W, hW⟩ : ∃ W : World, W = ((((w.alloc (.cells #[.slice (some ⟨w.heap.size + 1, 0, none⟩) 1 1, .slice (some ⟨w.heap.size + 1 + 1 + 1, 0, none⟩) 1 1, .slice (some ⟨w.heap.size + 1 + 1 + 1 + 1, 0, none⟩) 1 1] 26)).alloc (.cells #[.int .i64 1, .int .i64 0, .int .i64 0] 59)).alloc (.cells #[.int .i64 10, .int .i64 0, .int .i64 10, .int .i64 10, .int .i64 0, .int .i64 10] 28)).alloc (.cells #[.int .i64 1, .int .i64 1, .int .i64 1, .slice (some ⟨w.heap.size + 1 + 1, 0, none⟩) 3 3, .int .i64 1, .int .i64 0] 63)).alloc (.cells #[.int .i64 1] 3) := ⟨_, rfl⟩
 rw [← hW]
 have X1 : Blk W w.heap.size 26 #[.slice (some ⟨w.heap.size + 1, 0, none⟩) 1 1, .slice (some ⟨w.heap.size + 1 + 1 + 1, 0, none⟩) 1 1, .slice (some ⟨w.heap.size + 1 + 1 + 1 + 1, 0, none⟩) 1 1] := by rw [hW]; exact ((((Blk.made rfl _ _).alloc _).alloc _).alloc _).alloc _
 refine res_cell (t := 26) (g := w.heap.size) (cs := #[.slice (some ⟨w.heap.size + 1, 0, none⟩) 1 1, .slice (some ⟨w.heap.size + 1 + 1 + 1, 0, none⟩) 1 1, .slice (some ⟨w.heap.size + 1 + 1 + 1 + 1, 0, none⟩) 1 1]) rfl struct_pl rfl rfl X1 ⟨w.heap.size + 1, w.heap.size + 1 + 1 + 1, w.heap.size + 1 + 1 + 1 + 1, rfl, ?_, ?_⟩
 · rw [hW]; exact bA (bA (bA (bA (bA (bR w) _) _) _) _) _
 ·
  rw [hW]
  refine PlV.blks41 (al := [(sqA41, .slice (some ⟨w.heap.size + 1 + 1, 0, none⟩) 3 3)]) rfl (Sl.lit (n := 1) ((((Blk.made (by simp) _ _).alloc _).alloc _).alloc _) rfl (le_maxLen (by omega))) (Sl.lit (n := 1) ((Blk.made (by simp) _ _).alloc _) rfl (le_maxLen (by omega))) (vias_one ?_) (Sl.lit (n := 1) (Blk.made (by simp) _ _) rfl (le_maxLen (by omega)))
  exact Sl.lit (n := 3) (((Blk.made (by simp) _ _).alloc _).alloc _) rfl (le_maxLen (by omega))

/-- pieces of the call's own read as pieces -/
def rdP (x : Pc × SV) : Pc × Value := (x.1, .slice x.2.a x.2.n x.2.c)
theorem PcsO.read {w : World} {B : Nat} {v : Value} {L : List (Pc × SV)} (h : PcsO w B v L) : Pcs w v (L.map rdP) := by
 have h1 := h.own.sl
 have e : (L.map rdP).flatMap pcC = L.flatMap pcS := by rw [List.flatMap_map]; rfl
 refine ⟨by rw [e, List.length_map]; exact h1, fun k hk => ?_⟩
 have hk' : k < L.length := by simpa using hk
 rw [show (L.map rdP)[k] = rdP L[k] by simp]
 exact (h.path _ (List.getElem_mem hk')).sl
theorem PrtO.read {w : World} {B : Nat} {x : Prt} {vp vn : Value} (h : PrtO w B x vp vn) : PrtV w (.agg #[.int .i64 x.sheet, vp, vn]) x := by
 obtain ⟨L, h1, h2, h3⟩ := h
 exact ⟨vp, vn, L.map rdP, rfl, by rw [← h2, List.map_map]; rfl, h1.read, h3.sl⟩
def rdX (x : Prt × SV × SV) : Prt × Value × Value := (x.1, .slice x.2.1.a x.2.1.n x.2.1.c, .slice x.2.2.a x.2.2.n x.2.2.c)
theorem PrtsO.read {w : World} {B : Nat} {v : Value} {L : List (Prt × SV × SV)} (h : PrtsO w B v L) : Prts w v (L.map rdX) := by
 have h1 := h.own.sl
 have e : (L.map rdX).flatMap prC = L.flatMap prS := by rw [List.flatMap_map]; rfl
 refine ⟨by rw [e, List.length_map]; exact h1, fun k hk => ?_⟩
 have hk' : k < L.length := by simpa using hk
 rw [show (L.map rdX)[k] = rdX L[k] by simp]
 exact (h.part _ (List.getElem_mem hk')).read
end Go.Proofs.YtfondidmklmonaaGreat
