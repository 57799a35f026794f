/- slices.Index (its answer), walk.preceding, walk.Next. slices.Sort at ints. walk.Cycles: memory and plain words. walk.Cycles. -/
import Derived.Test.YtoclnkfeblfpbaaGreatArndB
import Derived.Shelf.SortM.Plain
import Derived.Shelf.SortM.SortNone
import Derived.Test.YtoclnkfeblfpbaaGreatJ09
import Derived.Test.YtoclnkfeblfpbaaGreatJ01
import Derived.Test.YtoclnkfeblfpbaaGreatLaySortN
import Derived.Test.YtoclnkfeblfpbaaGreatJ06
set_option linter.unusedSimpArgs false
set_option linter.unusedVariables false
namespace Go.Proofs.YtoclnkfeblfpbaaGreat
open Go.RowKit Go.Sort

def idxZ (l : List Int) (x : Int) : Int := match l.findIdx? (fun y => y == x) with
 | none => -1
 | some k => k
theorem idx_hit {l : List Int} {x : Int} {k : Nat} (hk : k < l.length) (hno : ∀ j (hj : j < l.length), j < k → (l[j] == x) = false) (he : (l[k] == x) = true) : l.findIdx? (fun y => y == x) = some k := by
 rw [List.findIdx?_eq_some_iff_getElem]
 exact ⟨hk, he, fun j hj => by simpa using hno j (by omega) hj⟩
theorem idx_miss {l : List Int} {x : Int} (hno : ∀ j (hj : j < l.length), (l[j] == x) = false) : l.findIdx? (fun y => y == x) = none := by
 rw [List.findIdx?_eq_none_iff]
 intro y hy
 obtain ⟨j, hj, rfl⟩ := List.mem_iff_getElem.1 hy
 exact hno j hj
set_option maxHeartbeats 400000 in
theorem Index_at_spec (v : Value) (l : List Int) (x : Int) (w : World) (h : Ints w v l) :
  Calls Tryz.prog 57 #[v, .int .i64 x] w fun e w' => e = .returned (.int .i64 (idxZ l x)) ∧ Below w.heap.size w w' := by
 obtain ⟨A, c, rfl, hn, hc, hR⟩ := h
 unfold maxLen at hc
 obtain ⟨q, hq⟩ : ∃ q, idxZ l x = q := ⟨_, rfl⟩
 rw [hq]
 have Hq := Lib.hid hq; clear hq
 go_enter Tryz.func57, Tryz.ntmps57
 go_wp2_with fail
 go_loopw [8] (fun i wr => ∃ k : Nat, k ≤ l.length ∧ i = .int .i64 k ∧ Below w.heap.size w wr ∧ ∀ j (hj : j < l.length), j < k → (l[j] == x) = false) (fun i _ => l.length - (intOf i).toNat)
 case atStart => exact ⟨0, Nat.zero_le _, rfl, bR w, fun j _ h => by omega⟩
 case round =>
  obtain ⟨k, hk, rfl, hb, hno⟩ := hrel
  have Hb := Lib.hid hb
  have Hno := Lib.hid hno
  clear hb hno
  by_cases hlt : k < l.length
  ·
   obtain ⟨b, o, rfl, hlb, c0⟩ := (hR.mono Hb.out).int hlt
   have HR := Lib.hid hR; clear hR
   cases he : (l[k] == x)
   ·
    go_wp2_with fail
    go_roundw
    case rel => exact ⟨k + 1, by omega, by go_num, Hb.out, all_succ (p := fun y => (y == x) = false) Hno.out hlt he⟩
    case measure => simp [intOf]; omega
   ·
    have hf := Lib.hid (idx_hit hlt Hno.out he)
    have he2 : (x == l[k]) = true := by simpa using (beq_iff_eq.1 he).symm
    go_wp2_with fail
    go_ret
    exact ⟨ret_int (by rw [← Hq.out]; unfold idxZ; rw [hf.out]), Hb.out⟩
  ·
   have hf := Lib.hid (idx_miss (fun j hj => Hno.out j hj (by omega)))
   go_wp2_with fail
   go_ret
   exact ⟨ret_int (by rw [← Hq.out]; unfold idxZ; rw [hf.out]), Hb.out⟩

set_option maxHeartbeats 1000000 in
theorem preceding_spec (v : Value) (l : List Int) (d : Int) (w : World) (h : Ints w v l) (hl : l.length ≤ 1000000) :
  Calls Tryz.prog 32 #[v, .int .i64 d] w fun e w' => e = .returned (.int .i64 (precD l d)) ∧ Below w.heap.size w w' := by
 have HI := Lib.hid (Index_at_spec v l d w h)
 obtain ⟨A, c, rfl, hn, hc, hR⟩ := h
 unfold maxLen at hc
 obtain ⟨q, hq⟩ : ∃ q, precD l d = q := ⟨_, rfl⟩
 rw [hq]
 unfold idxZ at HI
 unfold precD at hq
 have HR := Lib.hid hR; clear hR
 cases hi : l.findIdx? (fun y => y == d) with
 | none =>
  rw [hi] at HI hq
  simp only at HI hq
  subst hq
  clear hi
  go_enter Tryz.func32, Tryz.ntmps32
  go_wp2_with fail
  refine HI.out.mono ?_
  rintro e w1 ⟨rfl, hb1⟩
  have B1 := Lib.hid hb1; clear hb1
  go_wp2_with fail
  go_ret
  exact ⟨rfl, B1.out⟩
 | some k =>
  rw [hi] at HI hq
  simp only at HI hq
  have hk : k < l.length := (List.findIdx?_eq_some_iff_getElem.1 hi).1
  clear hi
  have hm : (k + l.length - 1) % l.length < l.length := Nat.mod_lt _ (by omega)
  have hq2 : l[(k + l.length - 1) % l.length] = q := by
   rw [← hq]; simp only [List.getD_eq_getElem?_getD, List.getElem?_eq_getElem hm, Option.getD_some]
  have htm : Int.tmod ((k : Int) + (l.length : Int) - 1) (l.length : Int) = ((k + l.length - 1) % l.length : Nat) := by
   rw [Int.tmod_eq_emod_of_nonneg (by omega), show (k : Int) + (l.length : Int) - 1 = ((k + l.length - 1 : Nat) : Int) by omega]
   exact (Int.natCast_emod _ _).symm
  clear hq
  generalize hM : (k + l.length - 1) % l.length = m at *
  have Hq2 := Lib.hid hq2
  clear hq2 hM
  have h0 : ¬ (k : Int) < 0 := by omega
  have g1 : IntKind.i64.wrap ((k : Int) + (l.length : Int)) = (k : Int) + (l.length : Int) := IntWalk.i64_in _ (by omega)
  have g2 : IntKind.i64.wrap ((k : Int) + (l.length : Int) - 1) = (k : Int) + (l.length : Int) - 1 := IntWalk.i64_in _ (by omega)
  have g3 : ¬ (l.length : Int) = 0 := by omega
  have g4 : IntKind.i64.wrap (m : Int) = m := IntWalk.i64_in _ (by omega)
  have g5 : (m : Int) < l.length := by omega
  have g6 : 0 ≤ (m : Int) := by omega
  have hne : l.length ≠ 0 := by omega
  have hne' : l ≠ [] := by intro e; rw [e] at hne; exact hne rfl
  have Hne := Lib.hid hne
  clear hne
  go_enter Tryz.func32, Tryz.ntmps32
  go_wp2_with fail
  refine HI.out.mono ?_
  rintro e w1 ⟨rfl, hb1⟩
  have B1 := Lib.hid hb1; clear hb1
  obtain ⟨b, o, rfl, hlb, c0⟩ := (HR.out.mono B1.out).int hm
  rw [Hq2.out] at c0
  go_wp2_with fail
  go_ret
  exact ⟨rfl, B1.out⟩

theorem Valid.around_len {p : Pl} (h : Valid p) (n : Int) : (aroundD p n).length ≤ 512 := by
 cases hf : findNd p.nodes n with
 | none => simp [aroundD, hf]
 | some nd =>
  have hm : nd ∈ p.nodes := List.mem_of_find?_eq_some hf
  have hid : nd.id = n := by have := List.find?_some hf; simpa using this
  subst hid
  rw [(h.around_perm hm).length_eq]
  have h1 := dartL_len p.arcs nd.id
  have hl := h.lim
  unfold limS at hl
  simp only [Bool.or_eq_false_iff, decide_eq_false_iff_not] at hl
  omega

set_option maxRecDepth 100000 in
set_option maxHeartbeats 4000000 in
theorem wNext_spec (v : Value) (p : Pl) (d : Int) (w : World) (h : PlV w v p) (hv : Valid p) (hd : wfI d) :
  Calls Tryz.prog 24 #[v, .int .i64 d] w fun e w' => e = .returned (.int .i64 (nextD p d)) ∧ Below w.heap.size w w' := by
 have HA := Lib.hid (fun W (hW : Below w.heap.size w W) => arcOf_spec v p d W (h.mono hW) hv.short.long hd)
 have HS := Lib.hid (fun x (hx : wfI x) W (hW : Below w.heap.size w W) => wStart_spec v p x W (h.mono hW) hv.short.long hx)
 have HAr := Lib.hid (fun n W (hW : Below w.heap.size w W) => Around_spec v p n W (h.mono hW) hv)
 have HLn := Lib.hid hv.around_len
 obtain ⟨_, _, _, al, rfl, hpa, ⟨An, cn, rfl, -⟩, ⟨⟨Aa, ca, rfl, -⟩, -⟩, ⟨Af, cf, rfl, -⟩⟩ := h
 generalize al.length = na at *
 generalize p.nodes.length = nn at *
 generalize p.faces.length = nf at *
 obtain ⟨q, hq⟩ : ∃ q, nextD p d = q := ⟨_, rfl⟩
 rw [hq]
 have Hq := Lib.hid hq
 clear hpa hq hv
 cases har : arcD p d with
 | none =>
  have hf : q = 0 := by rw [← Hq.out]; unfold nextD; rw [har]; rfl
  subst hf
  rw [har] at HA
  clear har
  go_enter Tryz.func24, Tryz.ntmps24
  go_wp2_with fail
  refine (HA.out _ (bA (bR w) _)).mono ?_
  rintro e w1 ⟨A1, n1, c1, rfl, hb1⟩
  have B1 := Lib.hid (bT (bA (bR w) _) hb1); clear hb1
  simp only [Option.isSome_none]
  go_wp2_with fail
  go_ret
  exact ⟨rfl, bA B1.out _⟩
 | some a =>
  rw [har] at HA
  have hne : d ≠ -9223372036854775808 := by intro e; rw [e] at har; unfold arcD at har; rw [if_pos (.inr rfl)] at har; cases har
  have hbd := wfI_bd hd
  have hf : precD (aroundD p (startD p (-d))) (-d) = q := by rw [← Hq.out]; unfold nextD; rw [har]; rfl
  have Hf := Lib.hid hf
  have HSd := Lib.hid (HS.out (-d) (wfI_of (by omega) (by omega)))
  have k1 : IntKind.i64.wrap (-d) = -d := IntWalk.i64_in _ (by omega)
  have HL := Lib.hid (HLn.out (startD p (-d)))
  clear har hf hne hbd HS
  generalize startD p (-d) = n at *
  have HArn := Lib.hid (HAr.out n)
  clear HAr
  generalize aroundD p n = D at *
  go_enter Tryz.func24, Tryz.ntmps24
  go_wp2_with fail
  refine (HA.out _ (bA (bR w) _)).mono ?_
  rintro e w1 ⟨A1, n1, c1, rfl, hb1⟩
  have B1 := Lib.hid (bT (bA (bR w) _) hb1)
  have X2 : Blk w1 w.heap.size 26 #[.slice An nn cn, .slice Aa na ca, .slice Af nf cf] := (Blk.made rfl _ _).keep hb1
  clear hb1
  simp only [Option.isSome_some, Option.getD_some]
  go_upto_region 4 with fail
  obtain ⟨W1, hW⟩ : ∃ W1 : World, W1 = w1.alloc (.cells #[.int .i64 a.id, .int .i64 a.fr, .int .i64 a.dst, .slice A1 n1 c1, .int .i64 a.left, .int .i64 a.right] 47) := ⟨_, rfl⟩
  replace X2 : Blk W1 w.heap.size 26 #[.slice An nn cn, .slice Aa na ca, .slice Af nf cf] := by rw [hW]; exact X2.alloc _
  have B2 := Lib.hid (show Below w.heap.size w W1 by rw [hW]; exact bA B1.out _)
  rw [← hW]
  clear hW B1
  obtain ⟨X2l, X2a, X2b, X2c, -, -, -⟩ := X2.facts3
  refine rg_start (Since W1) (.run 4 0 0 (.take 6 79 (.take 7 207 (.call 4 223 (.call 5 255 (.call 8 511 (.take 9 1023 (.done)))))))) (by kernel_rfl) (bD (bR _)) (by kernel_rfl) (by kernel_rfl) (Nat.le_of_ble_eq_true (by kernel_rfl)) ?_
  intro opsR QR Hops HQrg hS
  iterate 6
   apply rg_p; exact Hops; exact rfl; exact hS; exact rfl
   · intro _ hqc; go_simp; try rfl
   try simp only [pu]
  refine rg_call (i := 4) (get_of Hops rfl) (fun K hK => ?_)
  have HSrg := Lib.hid hS; clear hS
  refine rg_run (wanted_plain rfl) ?_
  go_simp
  refine (HSd.out _ (bT B2.out (bD (bR W1)))).mono ?_
  rintro e wr1 ⟨rfl, hbr1⟩
  have hS : Since W1 wr1 := bT (w := W1) HSrg.out hbr1
  clear HSrg
  refine hK.out _ _ hS (fun _ => ?_)
  clear hK K
  try simp only [pu]
  refine rg_call (i := 5) (get_of Hops rfl) (fun K hK => ?_)
  have HSrg := Lib.hid hS; clear hS
  refine rg_run (wanted_plain rfl) ?_
  go_simp
  refine (HArn.out _ (bT B2.out (bT (bD (bR W1)) hbr1))).mono ?_
  rintro e wr2 ⟨Aq, cq, rfl, hbr2, hoq⟩
  have hS : Since W1 wr2 := bT (w := W1) HSrg.out hbr2
  clear HSrg
  refine hK.out _ _ hS (fun _ => ?_)
  clear hK K
  try simp only [pu]
  refine rg_call (i := 8) (get_of Hops rfl) (fun K hK => ?_)
  have HSrg := Lib.hid hS; clear hS
  refine rg_run (wanted_plain rfl) ?_
  go_simp
  refine (preceding_spec _ D (-d) _ (Sl.of_own hoq) (by have := HL.out; omega)).mono ?_
  rintro e wr3 ⟨rfl, hbr3⟩
  have hS : Since W1 wr3 := bT (w := W1) HSrg.out hbr3
  clear HSrg
  refine hK.out _ _ hS (fun _ => ?_)
  clear hK K
  try simp only [pu]
  apply rg_p; exact Hops; exact rfl; exact hS; exact rfl
  · intro _ hqc; go_simp; try rfl
  try simp only [pu]
  refine rg_done ?_
  refine HQrg.down _ _ ?_
  have hB : Below W1.heap.size W1 wr3 := hS
  clear hS HQrg Hops
  rw [Hf.out]
  go_wp2_with fail
  go_ret
  exact ⟨rfl, bT B2.out hB⟩
end Go.Proofs.YtoclnkfeblfpbaaGreat
namespace Go.Proofs.YtoclnkfeblfpbaaGreat
open Go.RowKit Go.Sort

def ascL (l : List Int) : List Int := l.mergeSort fun x y => decide (x ≤ y)
theorem ascL_perm (l : List Int) : (ascL l).Perm l := List.mergeSort_perm _ _
theorem ascL_len (l : List Int) : (ascL l).length = l.length := (ascL_perm l).length_eq
theorem ascL_sorted (l : List Int) : (ascL l).Pairwise (· ≤ ·) := by
 have := List.pairwise_mergeSort (le := fun (x y : Int) => decide (x ≤ y)) (fun a b c h1 h2 => by simp only [decide_eq_true_eq] at *; omega) (fun a b => by simp only [Bool.or_eq_true, decide_eq_true_eq]; omega) l
 exact this.imp (fun h => by simpa using h)
/-- a strictly ascending list is what sorting gives -/
theorem ascL_of {l m : List Int} (hp : l.Perm m) (hs : m.Pairwise (· < ·)) : ascL l = m := by
 refine sorted_uniq (lt := fun a b => decide (a < b)) ((ascL_perm l).trans hp) ?_ ?_ (fun a _ b _ h1 h2 => by simp only [decide_eq_false_iff_not] at *; omega)
 · exact (ascL_sorted l).imp (fun h => by simpa using h)
 · exact hs.imp (fun h => by simp only [decide_eq_false_iff_not]; omega)
theorem putRow_heap (w : World) (n : Nat) (blk off : Nat) (d : Array Int) (os : Array Obj) : (grow (putRow (Value.int .i64) (Sort.ahead w n) blk off d) os).heap = w.heap.modify blk (onCells (putCells (Value.int .i64) off d)) ++ os := rfl
theorem putRow_grown (w : World) (n : Nat) (blk off : Nat) (d : Array Int) (os : Array Obj) : w.grownBy (grow (putRow (Value.int .i64) (Sort.ahead w n) blk off d) os) (some blk) := by
 refine ⟨rfl, rfl, rfl, ?_, fun i hi hne => ?_⟩
 · rw [putRow_heap]; simp
 ·
  have hne' : blk ≠ i := fun e => hne (by rw [e])
  rw [putRow_heap, Array.getElem?_append_left (by simpa using hi), Array.getElem?_modify, if_neg hne']
set_option maxHeartbeats 1000000 in
theorem SortN_spec (base : Nat) (v : Value) (sl : List Int) (w : World) (hown : Own w base 3 1 inC v sl) (hn : sl.length ≤ 4294967296) :
  Calls Tryz.prog 33 #[v] w (RetSortIn w base v (ascL sl)) := by
 rcases sl with _ | ⟨s0, rest⟩
 ·
  have hv : ∃ p cap, v = .slice p 0 cap := by
   rcases hown.2 with ⟨h, _⟩ | ⟨g, cap, cur, h, _⟩
   · exact ⟨_, _, h⟩
   · exact ⟨_, _, h⟩
  obtain ⟨p, cap, rfl⟩ := hv
  refine Calls.mono (AnyM.slices_Sort_int_none Tryz.sortN p cap w) ?_
  rintro e w' ⟨rfl, rfl⟩
  exact ⟨rfl, by rw [show ascL [] = [] by simp [ascL]]; exact hown, World.grownBy.refl _ _⟩
 generalize hsl : s0 :: rest = sl at *
 have hpos : 0 < sl.length := by rw [← hsl]; simp
 obtain ⟨hlen, hown2⟩ := hown
 rcases hown2 with ⟨_, h0⟩ | ⟨g, cap, cur, rfl, hg, hh, hnc, hcm, hcs, hx⟩
 · omega
 have hcur : ∀ j, j < sl.length → cur[j]? = (sl[j]?).map (.int .i64 ·) := fun j hj => by
  rw [← flat_in, ← hx, List.getElem?_take, if_pos (by omega)]; simp
 have hH : Holds (Value.int .i64) w g 0 sl.toArray := fun j hj => by
  have hj' : j < sl.length := by simpa using hj
  refine ⟨?_, Blk.frozen (t := 3) (cs := cur) hh _⟩
  rw [cell_of_row w g _ cur 3 (0, 0) hh, Nat.zero_add, hcur j hj', getElem!_pos sl.toArray j hj, List.getElem?_eq_getElem hj']
  simp
 refine Calls.mono (AnyM.slices_Sort_int Tryz.sortN g 0 cap sl w hH (Blk.lt hh) (by omega)) ?_
 rintro e w' ⟨rfl, n, os, rfl⟩
 have hl' : (ascL sl).length = sl.length := ascL_len sl
 refine ⟨rfl, ?_, putRow_grown w n g 0 _ os⟩
 unfold Own
 rw [hl']
 refine ⟨by rw [flat_in_len, hl']; omega, .inr ⟨g, cap, putCells (Value.int .i64) 0 (ascL sl).toArray cur, rfl, hg, ?_, hnc, hcm, by simp [putCells, hcs], ?_⟩⟩
 ·
  have hgl : g < w.heap.size := Blk.lt hh
  show (grow (putRow (Value.int .i64) (Sort.ahead w n) g 0 (ascL sl).toArray) os).heap[g]? = _
  rw [putRow_heap, Array.getElem?_append_left (by simpa using hgl), Array.getElem?_modify, if_pos rfl, hh]
  rfl
 ·
  apply List.ext_getElem?
  intro j
  rw [List.getElem?_take]
  by_cases hj : j < sl.length * 1
  ·
   rw [if_pos hj]
   have hjc : j < cur.size := by rw [hcs]; omega
   have hjd : j < (ascL sl).length := by rw [hl']; omega
   rw [flat_in, List.getElem?_eq_getElem hjd]
   have e1 : (putCells (Value.int .i64) 0 (ascL sl).toArray cur).toList[j]? = some (.int .i64 (ascL sl).toArray[j]!) := by
    simp [putCells, hjc, hjd]
   rw [e1, getElem!_pos (ascL sl).toArray j (by simpa using hjd)]
   simp
  · rw [if_neg hj, List.getElem?_eq_none (by rw [flat_in_len, hl']; omega)]
end Go.Proofs.YtoclnkfeblfpbaaGreat
namespace Go.Proofs.YtoclnkfeblfpbaaGreat
open Go.RowKit

/- lists of lists of ints -/
def cyC (x : List Int × SV) : List Value := [.slice x.2.a x.2.n x.2.c]
theorem cyC_len (x : List Int × SV) : (cyC x).length = 1 := rfl
theorem cyC_one (x : List Int × SV) : ∀ u ∈ cyC x, u.oneCell' = true := by simp [cyC, Value.oneCell']
theorem elem_cy : Elem Tryz.prog 31 24 1 24 := Elem.mk_ (z := .slice none 0 0) (by kernel_rfl) (by kernel_rfl) rfl (by omega)
/-- a list of cycles of the call's own (from block B on), each with its own list -/
def CysO (w : World) (B : Nat) (v : Value) (L : List (List Int × SV)) : Prop :=
 Own w B 24 1 cyC v L ∧ ∀ x ∈ L, Own w B 3 1 inC (.slice x.2.a x.2.n x.2.c) x.1
theorem CysO.keep {w w' : World} {B : Nat} {v : Value} {L : List (List Int × SV)} (h : CysO w B v L) (hb : Below w.heap.size w w') : CysO w' B v L :=
 ⟨h.1.keep hb, fun x hx => (h.2 x hx).keep hb⟩
/-- the cycles that a call returns -/
def RetCys (w : World) (l : List (List Int)) (z : Int) (e : Ending) (w' : World) : Prop :=
 ∃ A c L, e = .returned (.tuple #[.slice A l.length c, .int .i64 z]) ∧ Below w.heap.size w w' ∧ L.map (·.1) = l ∧ CysO w' w.heap.size (.slice A l.length c) L

theorem mapII_ne {w : World} {gm n : Nat} {f : Int → Int} (h : MapII w gm n f) {g : Nat} {t : TypeId} {cs : Array Value} (hg : Blk w g t cs) : g ≠ gm := by
 rintro rfl
 obtain ⟨D, h1, -⟩ := h
 obtain ⟨es, clock, h2, -⟩ := h1
 unfold Blk at hg
 rw [hg] at h2
 cases h2
theorem mapII_own {w : World} {gm n : Nat} {f : Int → Int} (h : MapII w gm n f) {base : Nat} {e : TypeId} {size : Nat} {α : Type} {fe : α → List Value} {v : Value} {l : List α} (ho : Own w base e size fe v l) : v.ownBlock ≠ some gm := by
 rcases ho.2 with ⟨rfl, _⟩ | ⟨g, cap, cur, rfl, _, hh, _⟩
 · simp [Value.ownBlock]
 ·
  intro e'
  exact mapII_ne h (cs := cur) (g := g) hh (by simpa [Value.ownBlock] using e')
theorem Own.row_in {w : World} {base : Nat} {A : Option Addr} {n c : Nat} {l : List Int} (h : Own w base 3 1 inC (.slice A n c) l) : Row w A (l.flatMap inC) := by
 obtain ⟨A', c', he, _, _, hr⟩ := h.sl
 injection he with e1 e2 e3
 subst e1
 exact hr

/- the darts of the first nodes -/
def aroundL (p : Pl) (k : Nat) : List Int := (p.nodes.take k).flatMap fun n => aroundD p n.id
def FolOK (p : Pl) (F : Int → Int) (L : List Int) : Prop := ∀ e ∈ L, F (-e) = nextD p (-e)
theorem aroundL_succ (p : Pl) (k : Nat) (hk : k < p.nodes.length) : aroundL p (k + 1) = aroundL p k ++ aroundD p p.nodes[k].id := by
 unfold aroundL
 rw [List.take_succ_eq_append_getElem hk, List.flatMap_append]
 simp
theorem aroundL_len {p : Pl} (h : Valid p) (k : Nat) : (aroundL p k).length ≤ 512 * k := by
 induction k with
 | zero => simp [aroundL]
 | succ k ih =>
  by_cases hk : k < p.nodes.length
  ·
   rw [aroundL_succ p k hk, List.length_append]
   have := h.around_len p.nodes[k].id
   omega
  ·
   have : aroundL p (k + 1) = aroundL p k := by
    unfold aroundL
    rw [List.take_of_length_le (by omega), List.take_of_length_le (by omega)]
   rw [this]; omega
theorem aroundL_all (p : Pl) : aroundL p p.nodes.length = p.nodes.flatMap fun n => aroundD p n.id := by
 unfold aroundL; rw [List.take_length]
theorem FolOK.snoc {p : Pl} {F : Int → Int} {L : List Int} (h : FolOK p F L) {d x : Int} (hx : nextD p (-d) = x) : FolOK p (fun i => if i = -d then x else F i) (L ++ [d]) := by
 intro e he
 by_cases hd : e = d
 · subst hd; simp [hx]
 ·
  have hne : -e ≠ -d := by omega
  simp only [List.mem_append, List.mem_singleton, hd, or_false] at he
  simp only [hne, if_false]
  exact h e he
section
variable {p : Pl} (h : Valid p)
include h
theorem Valid.next_around {n : Nd} (hn : n ∈ p.nodes) {d : Int} (hd : d ∈ aroundD p n.id) : nextD p (-d) = precD (aroundD p n.id) d ∧ d ∈ dartsD p := by
 obtain ⟨h1, h2⟩ := h.dartL_start ((h.around_perm hn).subset hd)
 obtain ⟨n', hn', e, hm, hx⟩ := h.next_eq (neg_dart h1)
 rw [Int.neg_neg] at e hm hx
 exact ⟨by rw [hx, e, h2], h1⟩
theorem Valid.dart_bd {d : Int} (hd : d ∈ dartsD p) : -1073741824 ≤ d ∧ d ≤ 1073741824 := by
 obtain ⟨a, ha, e⟩ := mem_dartsD.1 hd
 have := h.id_pos ha
 omega
theorem Valid.asc_all : ascL (aroundL p p.nodes.length) = dartsD p := by
 rw [aroundL_all]
 exact ascL_of h.all_around h.darts_sorted
theorem Valid.fol_all {F : Int → Int} (hF : FolOK p F (aroundL p p.nodes.length)) {d : Int} (hd : d ∈ dartsD p) : F d = nextD p d := by
 have h1 : -d ∈ aroundL p p.nodes.length := by
  rw [aroundL_all]
  exact h.all_around.symm.subset (neg_dart hd)
 have := hF _ h1
 rwa [Int.neg_neg] at this
theorem Valid.darts_len : (dartsD p).length ≤ 512 := by
 have hl := h.lim
 unfold limS at hl
 simp only [Bool.or_eq_false_iff, decide_eq_false_iff_not] at hl
 unfold dartsD
 simp only [List.length_append, List.length_reverse, List.length_map]
 omega
theorem Valid.nodes_len : p.nodes.length ≤ 256 := by
 have hl := h.lim
 unfold limS at hl
 simp only [Bool.or_eq_false_iff, decide_eq_false_iff_not] at hl
 omega
/-- the cycles behind the first k darts -/
theorem Valid.cyc_k (k : Nat) : Cyc (nextD p) (dartsD p) ((dartsD p).take k) (((dartsD p).take k).foldl (cycStep (nextD p) (dartsD p)) []) := by
 have := cyc_fold (f := nextD p) (D := dartsD p) (fun x hx => (h.next_mem hx).1) (fun x hx y hy => h.next_inj hx hy) ((dartsD p).take k) [] [] (Cyc.nil _ _) (fun x hx => List.mem_of_mem_take hx) (by rw [List.nil_append]; exact h.darts_sorted.sublist (List.take_sublist _ _))
 rwa [List.nil_append] at this
end
theorem cyc_succ (f : Int → Int) (D : List Int) (k : Nat) (hk : k < D.length) : (D.take (k + 1)).foldl (cycStep f D) [] = cycStep f D ((D.take k).foldl (cycStep f D) []) D[k] := by
 rw [List.take_succ_eq_append_getElem hk, List.foldl_append]
 rfl
end Go.Proofs.YtoclnkfeblfpbaaGreat
namespace Go.Proofs.YtoclnkfeblfpbaaGreat
open Go.RowKit

set_option maxRecDepth 100000 in
set_option maxHeartbeats 8000000 in
theorem Cycles_spec (v : Value) (p : Pl) (w : World) (h : PlV w v p) (hv : Valid p) :
  Calls Tryz.prog 15 #[v] w (RetCys w (cyclesD p) 0) := by
 have hck : checkS p = 0 := (check_zero p).2 hv
 have HCk := Lib.hid (fun W (hW : Below w.heap.size w W) => Check_spec v p W (h.mono hW))
 rw [hck] at HCk
 have HAr := Lib.hid (fun n W (hW : Below w.heap.size w W) => Around_spec v p n W (h.mono hW) hv)
 obtain ⟨_, _, _, al, rfl, hpa, ⟨An, cn, rfl, hn1, hn2, hR⟩, ⟨⟨Aa, ca, rfl, -⟩, -⟩, ⟨Af, cf, rfl, -⟩⟩ := h
 unfold maxLen at hn2
 have HR := Lib.hid hR; have HV := Lib.hid hv
 have hnl := hv.nodes_len
 generalize al.length = na at *
 generalize p.faces.length = nf at *
 obtain ⟨nn, hnn⟩ : ∃ nn, p.nodes.length = nn := ⟨_, rfl⟩
 rw [hnn] at hn1 hnl HCk HAr ⊢
 have HNN := Lib.hid hnn
 obtain ⟨q, hq⟩ : ∃ q, cyclesD p = q := ⟨_, rfl⟩
 rw [hq]
 have HQ0 := Lib.hid hq
 clear hpa hR hv hck hnn hq
 go_enter Tryz.func15, Tryz.ntmps15
 go_wp2_with fail
 refine (HCk.out _ (bA (bR w) _)).mono ?_
 rintro e w1 ⟨rfl, hb1⟩
 have X1 : Blk w1 w.heap.size 26 #[.slice An nn cn, .slice Aa na ca, .slice Af nf cf] := (Blk.made rfl _ _).keep hb1
 have B1 := Lib.hid (bT (bA (bR w) _) hb1)
 clear hb1 HCk
 have hmm := @run_makeMap Tryz.prog
 go_upto_region 6 with fail
 obtain ⟨gk, hgk⟩ : ∃ gk, w1.heap.size = gk := ⟨_, rfl⟩
 obtain ⟨W5, hW⟩ : ∃ W : World, W = (w1.alloc (.map #[] 0)).alloc (.cells #[.map (some w1.heap.size)] 54) := ⟨_, rfl⟩
 have hA : Below w1.heap.size w1 W5 := by rw [hW]; exact bA (bA (bR w1) _) _
 have HX5 := Lib.hid (show Blk W5 (w1.heap.size + 1) 54 #[.map (some w1.heap.size)] by rw [hW]; exact Blk.made (by simp) _ _)
 have HM5 := Lib.hid (show MapII W5 w1.heap.size 0 (fun _ => 0) by rw [hW]; exact (MapII.made w1).keep (bA (bR _) _))
 have HX1 := Lib.hid (X1.keep hA)
 have B5 := Lib.hid (bT B1.out hA)
 have hz1 : w.heap.size + 1 ≤ w1.heap.size := X1.lt
 rw [← hW]
 clear hW hA X1 hmm
 rw [hgk] at HX5 HM5 hz1 ⊢
 clear hgk
 have X1 := HX1.out
 obtain ⟨X1l, X1a, X1b, X1c, -, -, -⟩ := X1.facts3
 have HPrec := Lib.hid (@preceding_spec)
 have hz5 : gk + 1 < W5.heap.size := HX5.out.lt
 go_upto_block 0 with fail
 go_wp2_with fail
 go_loopw [4, 24] (fun s i wr => ∃ (k : Nat) (F : Int → Int) (cnt : Nat), k ≤ nn ∧ i = .int .i64 k ∧ (∃ A c, s = .slice A (aroundL p k).length c) ∧ Own wr (w.heap.size + 1) 3 1 inC s (aroundL p k) ∧ cnt ≤ (aroundL p k).length ∧ MapII wr gk cnt F ∧ FolOK p F (aroundL p k) ∧ Blk wr w.heap.size 26 #[.slice An nn cn, .slice Aa na ca, .slice Af nf cf] ∧ Blk wr (gk + 1) 54 #[.map (some gk)] ∧ Below w.heap.size w wr ∧ W5.heap.size ≤ wr.heap.size) (fun _ i _ => nn - (intOf i).toNat)
 case atStart => exact ⟨0, fun _ => 0, 0, Nat.zero_le _, rfl, ⟨none, 0, rfl⟩, Own.nil _ _ _ _ _, Nat.zero_le _, HM5.out, (fun e he => by cases he), X1, HX5.out, B5.out, Nat.le_refl _⟩
 case round =>
  obtain ⟨k, F, cnt, hk, rfl, ⟨A, c, rfl⟩, own, hcnt, mp, fol, X1, X5, hb, hsz⟩ := hrel
  obtain ⟨wo, rfl⟩ : ∃ wo : World, wo = wr := ⟨_, rfl⟩
  have hlk := aroundL_len HV.out k
  have HO := Lib.hid own; have HM := Lib.hid mp; have HFo := Lib.hid fol; have HX1 := Lib.hid X1; have HX5 := Lib.hid X5; have Hb := Lib.hid hb
  clear own mp fol hb X1l X1a X1b X1c
  by_cases hlt : k < nn
  ·
   have hkn : k < p.nodes.length := by have := HNN.out; omega
   obtain ⟨b, o, rfl, hlb, c0, c1, c2⟩ := (HR.out.mono Hb.out).nd hkn
   have hnm : p.nodes[k] ∈ p.nodes := List.getElem_mem hkn
   have hsuc := aroundL_succ p k hkn
   generalize p.nodes[k] = nd at *
   have HNm := Lib.hid hnm; have HSuc := Lib.hid hsuc
   have hql := HV.out.around_len nd.id
   have HAn := Lib.hid (HAr.out nd.id)
   have HNx := Lib.hid (fun d (hd : d ∈ aroundD p nd.id) => HV.out.next_around HNm.out hd)
   clear hnm hsuc
   obtain ⟨L, hL⟩ : ∃ L, aroundL p k = L := ⟨_, rfl⟩
   obtain ⟨Q, hQ⟩ : ∃ Q, aroundD p nd.id = Q := ⟨_, rfl⟩
   rw [hL] at hlk hcnt HSuc HO HFo ⊢
   rw [hQ] at HSuc hql HAn HNx
   clear hL hQ
   try clear X1l
   try clear X1a
   try clear X1b
   try clear X1c
   obtain ⟨X1l, X1a, X1b, X1c, -, -, -⟩ := X1.facts3
   obtain ⟨X5l, X5a, -⟩ := X5.facts1
   go_wp2_with fail
   refine (HAn.out _ (bA Hb.out _)).mono ?_
   rintro e w2 ⟨Aq, cq, rfl, hb2, hoq⟩
   have HW2 := Lib.hid (show Below wo.heap.size wo w2 from bT (bA (bR wo) _) hb2)
   have HOq := Lib.hid (Own.mono_base hoq (b' := wo.heap.size) (by simp))
   have hsep0 : ∀ g, (Value.slice A L.length c).ownBlock = some g → (Value.slice Aq Q.length cq).ownBlock ≠ some g := fun g hg e => by
    have h1 := (HO.out.lt g hg).2
    have h2 := (HOq.out.lt g e).1
    omega
   have HSep0 := Lib.hid hsep0
   have hsz2 := HW2.out.size
   clear hb2 hoq hsep0 c0 c1 c2 hlb X1 X5 X1l X1a X1b X1c X5l X5a HAn
   go_upto_block 2 with fail
   go_wp2_with fail
   go_loopw [4, 34] (fun s i wr => ∃ (j : Nat) (G : Int → Int) (cnt2 : Nat), j ≤ Q.length ∧ i = .int .i64 j ∧ (∃ A c, s = .slice A (L.length + j) c) ∧ Own wr (w.heap.size + 1) 3 1 inC s (L ++ Q.take j) ∧ cnt2 ≤ L.length + j ∧ MapII wr gk cnt2 G ∧ FolOK p G (L ++ Q.take j) ∧ Own wr wo.heap.size 3 1 inC (.slice Aq Q.length cq) Q ∧ (∀ g, s.ownBlock = some g → (Value.slice Aq Q.length cq).ownBlock ≠ some g) ∧ Blk wr w.heap.size 26 #[.slice (some ⟨b, o, none⟩) nn cn, .slice Aa na ca, .slice Af nf cf] ∧ Blk wr (gk + 1) 54 #[.map (some gk)] ∧ Below w.heap.size w wr ∧ wo.heap.size ≤ wr.heap.size) (fun _ i _ => Q.length - (intOf i).toNat)
   case atStart => exact ⟨0, F, cnt, Nat.zero_le _, rfl, ⟨A, c, rfl⟩, by rw [List.take_zero, List.append_nil]; exact HO.out.keep HW2.out, by omega, HM.out.keep HW2.out, by rw [List.take_zero, List.append_nil]; exact HFo.out, HOq.out, HSep0.out, HX1.out.keep HW2.out, HX5.out.keep HW2.out, bT Hb.out HW2.out, hsz2⟩
   case round =>
    obtain ⟨j, G, cnt2, hj, rfl, ⟨A3, c3, rfl⟩, own3, hcnt3, mp3, fol3, oq3, sep3, X1, X5, hb3, hsz3⟩ := hrel
    have HO3 := Lib.hid own3; have HM3 := Lib.hid mp3; have HF3 := Lib.hid fol3; have HQ3 := Lib.hid oq3; have HS3 := Lib.hid sep3; have HX13 := Lib.hid X1; have HX53 := Lib.hid X5; have HB3 := Lib.hid hb3
    clear own3 mp3 fol3 oq3 sep3 hb3
    by_cases hlj : j < Q.length
    ·
     obtain ⟨bq, oq', rfl, hlbq, e0⟩ := (HQ3.out.row_in).int hlj
     have hnx := HNx.out Q[j] (List.getElem_mem hlj)
     have hbd := HV.out.dart_bd hnx.2
     have htk : Q.take (j + 1) = Q.take j ++ [Q[j]] := List.take_succ_eq_append_getElem hlj
     generalize Q[j] = d at *
     have k1 : IntKind.i64.wrap (-d) = -d := IntWalk.i64_in _ (by omega)
     have HTk := Lib.hid htk; have HNd := Lib.hid hnx.1; have HWd := Lib.hid (show wfI (-d) from wfI_of (by omega) (by omega))
     have HLn := Lib.hid (show (L ++ Q.take (j + 1)).length = L.length + (j + 1) by rw [List.length_append, List.length_take]; omega)
     have n1 := Own.ne_blk HO3.out X1 (by decide)
     have n5 := Own.ne_blk HO3.out X5 (by decide)
     have nm := mapII_own HM3.out HO3.out
     clear htk hnx
     go_upto_region 13 with fail
     clear e0 hlbq
     go_upto_region 14 with
      (at_builtin
       refine wpList_appl _ rfl (.tmp 38) (.tmp 40) _ rfl (base := w.heap.size + 1) elem_in inC_len inC_one rfl (Own.alloc HO3.out _) rfl (l2 := [d]) (Sl.lit (n := 1) (Blk.made rfl _ _) rfl (le_maxLen (by omega))) (by simp only [List.length_append, List.length_take, List.length_cons, List.length_nil]; omega) (by simp only [List.length_append, List.length_take, List.length_cons, List.length_nil]; omega) (by simp; omega) ?_
       intro v1 w1 ho1 hg1 hat1
       rw [List.append_assoc, ← HTk.out] at ho1
       obtain ⟨A1, c1, hv1, -⟩ := Own.shape_ ho1
       rw [HLn.out] at hv1
       subst hv1
       have HO1 := Lib.hid ho1
       replace X1 := Blk.grown (X1.alloc _) hg1 (fun e => n1 e.symm)
       replace X5 := Blk.grown (X5.alloc _) hg1 (fun e => n5 e.symm)
       have HM1 := Lib.hid ((HM3.out.keep (bA (bR wr) _)).kept hg1 (fun e => nm e.symm))
       have HQ1 := Lib.hid (Own.grown (HQ3.out.alloc _) hg1 (fun g hg e => HS3.out g e.symm hg))
       have HS1 := Lib.hid (show ∀ g, (Value.slice A1 (L.length + (j + 1)) c1).ownBlock = some g → (Value.slice (some ⟨bq, oq', none⟩) Q.length cq).ownBlock ≠ some g from fun g hg e => by
        rcases hat1 with h | h
        · exact HS3.out g (h.symm.trans hg) e
        ·
         have h1 := (HQ3.out.lt g e).2
         rw [hg] at h
         have := Option.some.inj h
         simp at this
         omega)
       have HB1 := Lib.hid (bG (bA HB3.out _) hg1 (fun g hg => by have := (HO3.out.lt g hg).1; omega))
       have hsz1 : wr.heap.size ≤ w1.heap.size := by have := hg1.size; simp at this; omega
       clear ho1 hg1 hat1
       )
     have HX1a := Lib.hid X1; have HX5a := Lib.hid X5
     have m1 := mapII_ne HM1.out X1
     have m5 := mapII_ne HM1.out X5
     try clear X5l
     try clear X5a
     obtain ⟨X5l, X5a, -⟩ := X5.facts1
     refine rg_start (SinceX w1 (some gk)) (.run 5 0 0 (.call 5 63 (.call 6 127 (.done)))) (by kernel_rfl) (gD (gR _ _)) (by kernel_rfl) (by kernel_rfl) (Nat.le_of_ble_eq_true (by kernel_rfl)) ?_
     intro opsR QR Hops HQrg hS
     iterate 5
      apply rg_pX; exact Hops; exact rfl; exact hS; exact rfl
      · intro _ hqc; go_simp; try rfl
      try simp only [pu]
     refine rg_call (i := 5) (get_of Hops rfl) (fun K hK => ?_)
     have HSrg := Lib.hid hS; clear hS
     refine rg_run (wanted_plain rfl) ?_
     go_simp
     refine (HPrec.out _ Q d _ ((HQ1.out.keep (bD (bR w1))).sl) (by omega)).mono ?_
     rintro e wr1 ⟨rfl, hbr1⟩
     have hS : SinceX w1 (some gk) wr1 := gB (w0 := w1) HSrg.out hbr1
     clear HSrg
     refine hK.out _ _ hS (fun _ => ?_)
     clear hK K
     try simp only [pu]
     refine rg_call (i := 6) (get_of Hops rfl) (fun K hK => ?_)
     have HSrg := Lib.hid hS; clear hS
     refine rg_run (wanted_plain rfl) ?_
     obtain ⟨w6, hr6, hm6, hg6⟩ := (HM1.out.keep (bT (bD (bR w1)) hbr1)).upd (by omega) (-d) HWd.out (precD Q d)
     go_simp
     have hS : SinceX w1 (some gk) w6 := gT HSrg.out hg6
     have HM6 := Lib.hid hm6
     clear hm6 hg6 hr6
     clear HSrg
     refine hK.out _ _ hS (fun _ => ?_)
     clear hK K
     try simp only [pu]
     refine rg_done ?_
     refine HQrg.down _ _ ?_
     have hB : w1.grownBy _ (some gk) := hS
     clear hS HQrg Hops
     go_wp2_with fail
     go_roundw
     case rel => exact ⟨j + 1, _, cnt2 + 1, by omega, by go_num, ⟨A1, c1, rfl⟩, Own.grown HO1.out hB (fun g hg e => mapII_own HM1.out HO1.out (by rw [hg]; exact e)), by omega, HM6.out, by rw [HTk.out, ← List.append_assoc]; exact HF3.out.snoc HNd.out, Own.grown HQ1.out hB (fun g hg e => mapII_own HM1.out HQ1.out (by rw [hg]; exact e)), HS1.out, Blk.grow HX1a.out hB (fun e => m1 (Option.some.inj e)), Blk.grow HX5a.out hB (fun e => m5 (Option.some.inj e)), bG HB1.out hB (fun g hg => by have := Option.some.inj hg; omega), Nat.le_trans (by omega) hB.size⟩
     case measure => simp [intOf]; omega
    ·
     have hjj : j = Q.length := by omega
     subst hjj
     have ho := HO3.out
     have hf := HF3.out
     rw [List.take_length] at ho hf
     have HLs := Lib.hid (show aroundL p (k + 1) = L ++ Q from HSuc.out)
     have HLn := Lib.hid (show (aroundL p (k + 1)).length = L.length + Q.length by rw [HLs.out, List.length_append])
     have HO4 := Lib.hid ho; have HF4 := Lib.hid hf
     clear ho hf
     go_wp2_with fail
     go_roundw
     case rel => exact ⟨k + 1, G, cnt2, by omega, by go_num, ⟨A3, c3, by rw [HLn.out]⟩, by rw [HLs.out]; exact HO4.out, by rw [HLn.out]; omega, HM3.out, by rw [HLs.out]; exact HF4.out, HX13.out, HX53.out, HB3.out, by omega⟩
     case measure => simp [intOf]; omega
  ·
   have hkk : k = nn := by omega
   subst hkk
   have hNN := HNN.out
   subst hNN
   have hperm : (aroundL p p.nodes.length).Perm (dartsD p) := by rw [aroundL_all]; exact HV.out.all_around
   have hDl := HV.out.darts_len
   have hLD := hperm.length_eq
   have hasc := HV.out.asc_all
   have HFa := Lib.hid (fun d (hd : d ∈ dartsD p) => HV.out.fol_all HFo.out hd)
   have HDm := Lib.hid (fun x (hx : x ∈ dartsD p) => (HV.out.next_mem hx).1)
   have HDi := Lib.hid (fun x (hx : x ∈ dartsD p) y (hy : y ∈ dartsD p) => HV.out.next_inj (d := x) (e := y) hx hy)
   have HDw := Lib.hid (fun x (hx : x ∈ dartsD p) => show wfI x from wfI_of (by have := HV.out.dart_bd hx; omega) (by have := HV.out.dart_bd hx; omega))
   have HCk := Lib.hid (fun k => HV.out.cyc_k k)
   have HS := Lib.hid (SortN_spec (w.heap.size + 1) _ (aroundL p p.nodes.length) _ HO.out (by omega))
   have no5 := Own.ne_blk HO.out HX5.out (by decide)
   have nom := mapII_own HM.out HO.out
   have hlo := HO.out.lt
   rw [hasc] at HS
   rw [hLD] at HS hcnt nom no5 hlo ⊢
   have HNm := Lib.hid nom; have HN5 := Lib.hid no5; have HLo := Lib.hid hlo
   have hq := HQ0.out
   unfold cyclesD cycL at hq
   have Hq := Lib.hid hq
   clear HQ0 hperm hLD hasc hlk hq HO HFo HAr HPrec HV nom no5 hlo X1 X5
   generalize dartsD p = D at *
   generalize nextD p = f at *
   go_wp2_with fail
   refine HS.out.mono ?_
   rintro e ws ⟨rfl, hos, hgs⟩
   have HBs := Lib.hid (bG Hb.out hgs (fun g hg => by have := (HLo.out g hg).1; omega))
   have HX5s := Lib.hid (Blk.grown HX5.out hgs (fun e => HN5.out e.symm))
   have HMs := Lib.hid (HM.out.kept hgs (fun e => HNm.out e.symm))
   have HOs := Lib.hid hos
   clear hos hgs HS
   have hmm := @run_makeMap Tryz.prog
   go_upto_region 19 with fail
   obtain ⟨gm, hgm⟩ : ∃ gm, ws.heap.size = gm := ⟨_, rfl⟩
   obtain ⟨W6, hW⟩ : ∃ W : World, W = (ws.alloc (.map #[] 0)).alloc (.cells #[.map (some ws.heap.size)] 57) := ⟨_, rfl⟩
   have hA : Below ws.heap.size ws W6 := by rw [hW]; exact bA (bA (bR ws) _) _
   have HXs := Lib.hid (show Blk W6 (ws.heap.size + 1) 57 #[.map (some ws.heap.size)] by rw [hW]; exact Blk.made (by simp) _ _)
   have HI6 := Lib.hid (show MapIB W6 ws.heap.size 0 (fun _ => false) by rw [hW]; exact (MapIB.made ws).keep (bA (bR _) _))
   have HX56 := Lib.hid (HX5s.out.keep hA)
   have HM6 := Lib.hid (HMs.out.keep hA)
   have HO6 := Lib.hid (HOs.out.keep hA)
   have HB6 := Lib.hid (bT HBs.out hA)
   have hgl := HMs.out.lt
   rw [← hW]
   clear hW hA hmm
   rw [hgm] at HXs HI6 hgl ⊢
   have hws : w.heap.size ≤ gm := by rw [← hgm]; exact HBs.out.size
   clear hgm
   have HFol := Lib.hid (@follow_spec f D HDm.out HDi.out F HFa.out HDw.out (by omega))
   have hz6 : gm + 1 < W6.heap.size := HXs.out.lt
   go_upto_block 4 with fail
   go_wp2_with fail
   go_loopw [2, 56] (fun s i wr => ∃ (k : Nat) (acc : List (List Int × SV)) (S : Int → Bool), k ≤ D.length ∧ i = .int .i64 k ∧ acc.length ≤ k ∧ (∃ A c, s = .slice A acc.length c) ∧ CysO wr w.heap.size s acc ∧ acc.map (·.1) = (D.take k).foldl (cycStep f D) [] ∧ MapIB wr gm (acc.map (·.1)).flatten.length S ∧ (∀ x, S x = decide (x ∈ (acc.map (·.1)).flatten)) ∧ Own wr (w.heap.size + 1) 3 1 inC (.slice A D.length c) D ∧ Blk wr (gm + 1) 57 #[.map (some gm)] ∧ Blk wr (gk + 1) 54 #[.map (some gk)] ∧ MapII wr gk cnt F ∧ Below w.heap.size w wr ∧ gm + 1 < wr.heap.size) (fun _ i _ => D.length - (intOf i).toNat)
   case atStart => exact ⟨0, [], fun _ => false, Nat.zero_le _, rfl, Nat.zero_le _, ⟨none, 0, rfl⟩, ⟨Own.nil _ _ _ _ _, fun x hx => by cases hx⟩, rfl, HI6.out, fun x => by simp, HO6.out, HXs.out, HX56.out, HM6.out, HB6.out, hz6⟩
   case round =>
    obtain ⟨k, acc, S, hk, rfl, hak, ⟨A2, c2, rfl⟩, cys, hacc, mi, hS, od, xs, x5, mk, hb, hsz⟩ := hrel
    have HCy := Lib.hid cys; have HAc := Lib.hid hacc; have HMi := Lib.hid mi; have HSx := Lib.hid hS; have HOd := Lib.hid od; have HX := Lib.hid xs; have HX5 := Lib.hid x5; have HMk := Lib.hid mk; have HB := Lib.hid hb
    have X11 := xs
    clear cys hacc mi hS od xs x5 mk hb
    by_cases hlt : k < D.length
    ·
     obtain ⟨bq, oq', hA, hlbq, e0⟩ := (HOd.out.row_in).int hlt
     subst hA
     have hx : D[k] ∈ D := List.getElem_mem hlt
     have hsucc := cyc_succ f D k hlt
     rw [← HAc.out] at hsucc
     have hcyc := HCk.out k
     rw [← HAc.out] at hcyc
     generalize D[k] = x at *
     have hlk := HMi.out.look x (HDw.out x hx)
     rw [HSx.out x] at hlk
     have HSu := Lib.hid hsucc; have HCyc := Lib.hid hcyc; have HXm := Lib.hid hx
     clear hsucc hcyc hx
     obtain ⟨X11l, X11a, -⟩ := X11.facts1
     by_cases hm : x ∈ (acc.map (·.1)).flatten
     ·
      rw [decide_eq_true hm] at hlk
      have hst := Lib.hid (show cycStep f D (acc.map (·.1)) x = acc.map (·.1) by unfold cycStep; rw [if_pos hm])
      clear hm
      go_wp2_with fail
      go_roundw
      case rel => exact ⟨k + 1, acc, S, by omega, by go_num, by omega, ⟨A2, c2, rfl⟩, HCy.out, by rw [HSu.out, hst.out], HMi.out, HSx.out, HOd.out, HX.out, HX5.out, HMk.out, HB.out, hsz⟩
      case measure => simp [intOf]; omega
     ·
      rw [decide_eq_false hm] at hlk
      have hst := Lib.hid (show cycStep f D (acc.map (·.1)) x = acc.map (·.1) ++ [orb f D x] by unfold cycStep; rw [if_neg hm])
      have hfn : (acc.map (·.1)).flatten.length ≤ D.length := nodup_le HCyc.out.nodup (fun y hy => by
       obtain ⟨l, hl, hy⟩ := List.mem_flatten.1 hy
       obtain ⟨d, h1, h2, -⟩ := HCyc.out.orbs l hl
       subst h2
       exact orb_mem HDm.out (List.mem_of_mem_take h1) hy)
      have HF2 := Lib.hid (HFol.out S x HXm.out (fun y hy => by rw [HSx.out y]; exact decide_eq_false (HCyc.out.apart HDm.out HXm.out hm hy)) (gm + 1) (gk + 1) gm gk (acc.map (·.1)).flatten.length cnt wr (by omega) HX.out HX5.out HMi.out HMk.out (by omega))
      have hol : (orb f D x).length ≤ D.length + 1 := by
       have h := orb_facts HDm.out HDi.out HXm.out
       rw [h.2.2.2.2.2]; exact h.2.1
      clear hm
      generalize orb f D x = o at *
      go_wp2_with fail
      refine HF2.out.mono ?_
      rintro e w4 ⟨A4, c4, rfl, ho4, hm4, hg4⟩
      have hrs := hg4.size
      have ncy := mapIB_own HMi.out HCy.out.1
      have HCo := Lib.hid (Own.grown HCy.out.1 hg4 (fun g hg e => ncy (hg.trans e)))
      have HCe := Lib.hid (show ∀ y ∈ acc, Own w4 w.heap.size 3 1 inC (.slice y.2.a y.2.n y.2.c) y.1 from fun y hy => Own.grown (HCy.out.2 y hy) hg4 (fun g hg e => mapIB_own HMi.out (HCy.out.2 y hy) (hg.trans e)))
      have HO4 := Lib.hid (Own.mono_base ho4 (b' := w.heap.size) (HB.out.size))
      have HM4 := Lib.hid hm4
      have HD4 := Lib.hid (Own.grown HOd.out hg4 (fun g hg e => mapIB_own HMi.out HOd.out (hg.trans e)))
      have HX4 := Lib.hid (Blk.grow HX.out hg4 (fun e => mapIB_ne HMi.out HX.out (Option.some.inj e)))
      have HX54 := Lib.hid (Blk.grow HX5.out hg4 (fun e => mapIB_ne HMi.out HX5.out (Option.some.inj e)))
      have HK4 := Lib.hid (HMk.out.kept hg4 (fun e => by have := Option.some.inj e; omega))
      have HB4 := Lib.hid (bG HB.out hg4 (fun g hg => by have := Option.some.inj hg; omega))
      clear ho4 hm4 hg4 ncy HF2 X11 X11l X11a e0 hlbq
      go_upto_region 25 with
       (at_builtin
        refine wpList_appl _ rfl (.tmp 64) (.tmp 68) _ rfl (base := w.heap.size) elem_cy cyC_len cyC_one rfl (Own.alloc HCo.out _) rfl (l2 := [((o, ⟨A4, o.length, c4⟩) : List Int × SV)]) (Sl.lit (n := 1) (Blk.made rfl _ _) rfl (le_maxLen (by omega))) (by simp only [List.length_cons, List.length_nil]; omega) (by simp only [List.length_cons, List.length_nil]; omega) (by have := HB4.out.size; simp; omega) ?_
        intro v5 w5 ho5 hg5 hat5
        obtain ⟨A5, c5, hv5, -⟩ := Own.shape_ ho5
        rw [show (acc ++ [((o, ⟨A4, o.length, c4⟩) : List Int × SV)]).length = acc.length + 1 by simp] at hv5
        subst hv5
        have ne5 : ∀ {l : List Int} {A' : Option Addr} {n' c' : Nat} {b' : Nat}, Own w4 b' 3 1 inC (.slice A' n' c') l → ∀ g, (Value.slice A' n' c').ownBlock = some g → some g ≠ (Value.slice A2 acc.length c2).ownBlock := fun h g hg => Own.apart h HCo.out (by decide) g hg
        have HCy5 := Lib.hid (show CysO w5 w.heap.size (.slice A5 (acc.length + 1) c5) (acc ++ [((o, ⟨A4, o.length, c4⟩) : List Int × SV)]) from ⟨ho5, fun y hy => by
         rcases List.mem_append.1 hy with hy | hy
         · exact Own.grown (Own.alloc (HCe.out y hy) _) hg5 (ne5 (HCe.out y hy))
         ·
          rw [List.mem_singleton] at hy
          subst hy
          exact Own.grown (Own.alloc HO4.out _) hg5 (ne5 HO4.out)⟩)
        have HD5 := Lib.hid (Own.grown (Own.alloc HD4.out _) hg5 (ne5 HD4.out))
        have HX15 := Lib.hid (Blk.grown (HX4.out.alloc _) hg5 (fun e => Own.ne_blk HCo.out HX4.out (by decide) e.symm))
        have HX55 := Lib.hid (Blk.grown (HX54.out.alloc _) hg5 (fun e => Own.ne_blk HCo.out HX54.out (by decide) e.symm))
        have HK5 := Lib.hid ((HK4.out.keep (bA (bR w4) _)).kept hg5 (fun e => mapII_own HK4.out HCo.out e.symm))
        have HM5' := Lib.hid ((HM4.out.keep (bA (bR w4) _)).kept hg5 (fun e => mapIB_own HM4.out HCo.out e.symm))
        have HB5 := Lib.hid (bG (bA HB4.out _) hg5 (fun g hg => (HCo.out.lt g hg).1))
        have hs5 := hg5.size
        simp only [World.size_alloc] at hs5
        clear ho5 hg5 hat5 ne5
        )
      go_wp2_with fail
      go_roundw
      case rel => exact ⟨k + 1, acc ++ [((o, ⟨A4, o.length, c4⟩) : List Int × SV)], seenL S o, by omega, by go_num, by rw [List.length_append, List.length_singleton]; omega, ⟨A5, c5, by rw [List.length_append, List.length_singleton]⟩, HCy5.out, by rw [HSu.out, hst.out, List.map_append]; rfl, by rw [List.map_append, List.flatten_append, List.length_append]; have h := HM5'.out; simpa using h, (fun y => by unfold seenL; rw [HSx.out y, List.map_append, List.flatten_append, Bool.eq_iff_iff]; simp), HD5.out, HX15.out, HX55.out, HK5.out, HB5.out, by omega⟩
      case measure => simp [intOf]; omega
    ·
     have hkk : k = D.length := by omega
     subst hkk
     have hfin := HAc.out
     rw [List.take_length, Hq.out] at hfin
     have hfl : acc.length = q.length := by rw [← hfin, List.length_map]
     have Hfin := Lib.hid hfin
     have hc := HCy.out
     rw [hfl] at hc ⊢
     have HC := Lib.hid hc
     clear hfin hc hfl
     go_wp2_with fail
     go_ret2
     exact ⟨A2, c2, acc, rfl, HB.out, Hfin.out, HC.out⟩
end Go.Proofs.YtoclnkfeblfpbaaGreat
