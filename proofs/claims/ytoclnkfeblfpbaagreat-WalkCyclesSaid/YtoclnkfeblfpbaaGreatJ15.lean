/- slices.Index (its answer), walk.preceding, walk.Next. slices.Sort at ints. walk.Cycles: memory and plain words. -/
import Derived.Test.YtoclnkfeblfpbaaGreatArndB
import Derived.Shelf.SortM.Plain
import Derived.Shelf.SortM.SortNone
import Derived.Test.YtoclnkfeblfpbaaGreatJ12
import Derived.Test.YtoclnkfeblfpbaaGreatLaySortN
import Derived.Test.YtoclnkfeblfpbaaGreatJ07
set_option linter.unusedSimpArgs false
set_option linter.unusedVariables false
namespace Go.Proofs.YtoclnkfeblfpbaaGreat
open Go.RowKit Go.Sort

def idxZ (l : List Int) (x : Int) : Int := match l.findIdx? (fun y => y == x) with
  | none => -1
  | some k => k
theorem idx_hit {l : List Int} {x : Int} {k : Nat} (hk : k < l.length) (hno : ∀ j (hj : j < l.length), j < k → (l[j] == x) = false) (he : (l[k] == x) = true) : l.findIdx? (fun y => y == x) = some k := by
  rw [List.findIdx?_eq_some_iff_getElem]
  exact ⟨hk, he, fun j hj => by simpa using hno j (by omega) hj⟩
theorem idx_miss {l : List Int} {x : Int} (hno : ∀ j (hj : j < l.length), (l[j] == x) = false) : l.findIdx? (fun y => y == x) = none := by
  rw [List.findIdx?_eq_none_iff]
  intro y hy
  obtain ⟨j, hj, rfl⟩ := List.mem_iff_getElem.1 hy
  exact hno j hj
set_option maxHeartbeats 400000 in
theorem Index_at_spec (v : Value) (l : List Int) (x : Int) (w : World) (h : Ints w v l) :
    Calls Tryz.prog 57 #[v, .int .i64 x] w fun e w' => e = .returned (.int .i64 (idxZ l x)) ∧ Below w.heap.size w w' := by
  obtain ⟨A, c, rfl, hn, hc, hR⟩ := h
  unfold maxLen at hc
  obtain ⟨q, hq⟩ : ∃ q, idxZ l x = q := ⟨_, rfl⟩
  rw [hq]
  have Hq := Lib.hid hq; clear hq
  go_enter Tryz.func57, Tryz.ntmps57
  go_wp2_with fail
  go_loopw [8] (fun i wr => ∃ k : Nat, k ≤ l.length ∧ i = .int .i64 k ∧ Below w.heap.size w wr ∧ ∀ j (hj : j < l.length), j < k → (l[j] == x) = false) (fun i _ => l.length - (intOf i).toNat)
  case atStart => exact ⟨0, Nat.zero_le _, rfl, bR w, fun j _ h => by omega⟩
  case round =>
    obtain ⟨k, hk, rfl, hb, hno⟩ := hrel
    have Hb := Lib.hid hb
    have Hno := Lib.hid hno
    clear hb hno
    by_cases hlt : k < l.length
    · obtain ⟨b, o, rfl, hlb, c0⟩ := (hR.mono Hb.out).int hlt
      have HR := Lib.hid hR; clear hR
      cases he : (l[k] == x)
      · go_wp2_with fail
        go_roundw
        case rel => exact ⟨k + 1, by omega, by go_num, Hb.out, all_succ (p := fun y => (y == x) = false) Hno.out hlt he⟩
        case measure => simp [intOf]; omega
      · have hf := Lib.hid (idx_hit hlt Hno.out he)
        have he2 : (x == l[k]) = true := by simpa using (beq_iff_eq.1 he).symm
        go_wp2_with fail
        go_ret
        exact ⟨ret_int (by rw [← Hq.out]; unfold idxZ; rw [hf.out]), Hb.out⟩
    · have hf := Lib.hid (idx_miss (fun j hj => Hno.out j hj (by omega)))
      go_wp2_with fail
      go_ret
      exact ⟨ret_int (by rw [← Hq.out]; unfold idxZ; rw [hf.out]), Hb.out⟩

set_option maxHeartbeats 1000000 in
theorem preceding_spec (v : Value) (l : List Int) (d : Int) (w : World) (h : Ints w v l) (hl : l.length ≤ 1000000) :
    Calls Tryz.prog 32 #[v, .int .i64 d] w fun e w' => e = .returned (.int .i64 (precD l d)) ∧ Below w.heap.size w w' := by
  have HI := Lib.hid (Index_at_spec v l d w h)
  obtain ⟨A, c, rfl, hn, hc, hR⟩ := h
  unfold maxLen at hc
  obtain ⟨q, hq⟩ : ∃ q, precD l d = q := ⟨_, rfl⟩
  rw [hq]
  unfold idxZ at HI
  unfold precD at hq
  have HR := Lib.hid hR; clear hR
  cases hi : l.findIdx? (fun y => y == d) with
  | none =>
    rw [hi] at HI hq
    simp only at HI hq
    subst hq
    clear hi
    go_enter Tryz.func32, Tryz.ntmps32
    go_wp2_with fail
    refine HI.out.mono ?_
    rintro e w1 ⟨rfl, hb1⟩
    have B1 := Lib.hid hb1; clear hb1
    go_wp2_with fail
    go_ret
    exact ⟨rfl, B1.out⟩
  | some k =>
    rw [hi] at HI hq
    simp only at HI hq
    have hk : k < l.length := (List.findIdx?_eq_some_iff_getElem.1 hi).1
    clear hi
    have hm : (k + l.length - 1) % l.length < l.length := Nat.mod_lt _ (by omega)
    have hq2 : l[(k + l.length - 1) % l.length] = q := by
      rw [← hq]; simp only [List.getD_eq_getElem?_getD, List.getElem?_eq_getElem hm, Option.getD_some]
    have htm : Int.tmod ((k : Int) + (l.length : Int) - 1) (l.length : Int) = ((k + l.length - 1) % l.length : Nat) := by
      rw [Int.tmod_eq_emod_of_nonneg (by omega), show (k : Int) + (l.length : Int) - 1 = ((k + l.length - 1 : Nat) : Int) by omega]
      exact (Int.natCast_emod _ _).symm
    clear hq
    generalize hM : (k + l.length - 1) % l.length = m at *
    have Hq2 := Lib.hid hq2
    clear hq2 hM
    have h0 : ¬ (k : Int) < 0 := by omega
    have g1 : IntKind.i64.wrap ((k : Int) + (l.length : Int)) = (k : Int) + (l.length : Int) := IntWalk.i64_in _ (by omega)
    have g2 : IntKind.i64.wrap ((k : Int) + (l.length : Int) - 1) = (k : Int) + (l.length : Int) - 1 := IntWalk.i64_in _ (by omega)
    have g3 : ¬ (l.length : Int) = 0 := by omega
    have g4 : IntKind.i64.wrap (m : Int) = m := IntWalk.i64_in _ (by omega)
    have g5 : (m : Int) < l.length := by omega
    have g6 : 0 ≤ (m : Int) := by omega
    have hne : l.length ≠ 0 := by omega
    have hne' : l ≠ [] := by intro e; rw [e] at hne; exact hne rfl
    have Hne := Lib.hid hne
    clear hne
    go_enter Tryz.func32, Tryz.ntmps32
    go_wp2_with fail
    refine HI.out.mono ?_
    rintro e w1 ⟨rfl, hb1⟩
    have B1 := Lib.hid hb1; clear hb1
    obtain ⟨b, o, rfl, hlb, c0⟩ := (HR.out.mono B1.out).int hm
    rw [Hq2.out] at c0
    go_wp2_with fail
    go_ret
    exact ⟨rfl, B1.out⟩

theorem Valid.around_len {p : Pl} (h : Valid p) (n : Int) : (aroundD p n).length ≤ 512 := by
  cases hf : findNd p.nodes n with
  | none => simp [aroundD, hf]
  | some nd =>
    have hm : nd ∈ p.nodes := List.mem_of_find?_eq_some hf
    have hid : nd.id = n := by have := List.find?_some hf; simpa using this
    subst hid
    rw [(h.around_perm hm).length_eq]
    have h1 := dartL_len p.arcs nd.id
    have hl := h.lim
    unfold limS at hl
    simp only [Bool.or_eq_false_iff, decide_eq_false_iff_not] at hl
    omega

set_option maxRecDepth 100000 in
set_option maxHeartbeats 4000000 in
theorem wNext_spec (v : Value) (p : Pl) (d : Int) (w : World) (h : PlV w v p) (hv : Valid p) (hd : wfI d) :
    Calls Tryz.prog 24 #[v, .int .i64 d] w fun e w' => e = .returned (.int .i64 (nextD p d)) ∧ Below w.heap.size w w' := by
  have HA := Lib.hid (fun W (hW : Below w.heap.size w W) => arcOf_spec v p d W (h.mono hW) hv.short.long hd)
  have HS := Lib.hid (fun x (hx : wfI x) W (hW : Below w.heap.size w W) => wStart_spec v p x W (h.mono hW) hv.short.long hx)
  have HAr := Lib.hid (fun n W (hW : Below w.heap.size w W) => Around_spec v p n W (h.mono hW) hv)
  have HLn := Lib.hid hv.around_len
  obtain ⟨_, _, _, al, rfl, hpa, ⟨An, cn, rfl, -⟩, ⟨⟨Aa, ca, rfl, -⟩, -⟩, ⟨Af, cf, rfl, -⟩⟩ := h
  generalize al.length = na at *
  generalize p.nodes.length = nn at *
  generalize p.faces.length = nf at *
  obtain ⟨q, hq⟩ : ∃ q, nextD p d = q := ⟨_, rfl⟩
  rw [hq]
  have Hq := Lib.hid hq
  clear hpa hq hv
  cases har : arcD p d with
  | none =>
    have hf : q = 0 := by rw [← Hq.out]; unfold nextD; rw [har]; rfl
    subst hf
    rw [har] at HA
    clear har
    go_enter Tryz.func24, Tryz.ntmps24
    go_wp2_with fail
    refine (HA.out _ (bA (bR w) _)).mono ?_
    rintro e w1 ⟨A1, n1, c1, rfl, hb1⟩
    have B1 := Lib.hid (bT (bA (bR w) _) hb1); clear hb1
    simp only [Option.isSome_none]
    go_wp2_with fail
    go_ret
    exact ⟨rfl, bA B1.out _⟩
  | some a =>
    rw [har] at HA
    have hne : d ≠ -9223372036854775808 := by intro e; rw [e] at har; unfold arcD at har; rw [if_pos (.inr rfl)] at har; cases har
    have hbd := wfI_bd hd
    have hf : precD (aroundD p (startD p (-d))) (-d) = q := by rw [← Hq.out]; unfold nextD; rw [har]; rfl
    have Hf := Lib.hid hf
    have HSd := Lib.hid (HS.out (-d) (wfI_of (by omega) (by omega)))
    have k1 : IntKind.i64.wrap (-d) = -d := IntWalk.i64_in _ (by omega)
    have HL := Lib.hid (HLn.out (startD p (-d)))
    clear har hf hne hbd HS
    generalize startD p (-d) = n at *
    have HArn := Lib.hid (HAr.out n)
    clear HAr
    generalize aroundD p n = D at *
    go_enter Tryz.func24, Tryz.ntmps24
    go_wp2_with fail
    refine (HA.out _ (bA (bR w) _)).mono ?_
    rintro e w1 ⟨A1, n1, c1, rfl, hb1⟩
    have B1 := Lib.hid (bT (bA (bR w) _) hb1)
    have X2 : Blk w1 w.heap.size 26 #[.slice An nn cn, .slice Aa na ca, .slice Af nf cf] := (Blk.made rfl _ _).keep hb1
    clear hb1
    simp only [Option.isSome_some, Option.getD_some]
    go_upto_region 4 with fail
    obtain ⟨W1, hW⟩ : ∃ W1 : World, W1 = w1.alloc (.cells #[.int .i64 a.id, .int .i64 a.fr, .int .i64 a.dst, .slice A1 n1 c1, .int .i64 a.left, .int .i64 a.right] 47) := ⟨_, rfl⟩
    replace X2 : Blk W1 w.heap.size 26 #[.slice An nn cn, .slice Aa na ca, .slice Af nf cf] := by rw [hW]; exact X2.alloc _
    have B2 := Lib.hid (show Below w.heap.size w W1 by rw [hW]; exact bA B1.out _)
    rw [← hW]
    clear hW B1
    try clear X2l
    try clear X2a
    try clear X2b
    try clear X2c
    try clear X2fa
    try clear X2fb
    try clear X2fc
    obtain ⟨X2l, X2a, X2b, X2c, -, -, -⟩ := X2.facts3
    refine rg_start (Since W1) (.take 0 1 (.take 1 3 (.take 2 7 (.take 3 15 (.take 6 79 (.take 7 207 (.call 4 223 (.call 5 255 (.call 8 511 (.take 9 1023 (.done))))))))))) (by kernel_rfl) (bD (bR _)) (by kernel_rfl) (by kernel_rfl) (Nat.le_of_ble_eq_true (by kernel_rfl)) ?_
    intro opsR QR Hops HQrg hS
    apply rg_yp (i := 0) Hops rfl hS rfl
    · intro wq hq; obtain ⟨hqc, -⟩ := bcell (show Below W1.heap.size W1 wq from hq); clear hq; go_simp; try rfl
    try simp only [Act.put, pu1, pu2, pu3]
    apply rg_yp (i := 1) Hops rfl hS rfl
    · intro wq hq; obtain ⟨hqc, -⟩ := bcell (show Below W1.heap.size W1 wq from hq); clear hq; go_simp; try rfl
    try simp only [Act.put, pu1, pu2, pu3]
    apply rg_yp (i := 2) Hops rfl hS rfl
    · intro _ hq; clear hq; go_simp; try rfl
    try simp only [Act.put, pu1, pu2, pu3]
    apply rg_yp (i := 3) Hops rfl hS rfl
    · intro _ hq; clear hq; go_simp; try rfl
    try simp only [Act.put, pu1, pu2, pu3]
    apply rg_yp (i := 6) Hops rfl hS rfl
    · intro _ hq; clear hq; go_simp; try rfl
    try simp only [Act.put, pu1, pu2, pu3]
    apply rg_yp (i := 7) Hops rfl hS rfl
    · intro _ hq; clear hq; go_simp; try rfl
    try simp only [Act.put, pu1, pu2, pu3]
    refine rg_call (i := 4) (get_of Hops rfl) (fun K hK => ?_)
    have HSrg := Lib.hid hS; clear hS
    refine rg_run (wanted_plain rfl) ?_
    go_simp
    refine (HSd.out _ (bT B2.out (bD (bR W1)))).mono ?_
    rintro e wr1 ⟨rfl, hbr1⟩
    have hS : Since W1 wr1 := bT (w := W1) HSrg.out hbr1
    clear HSrg
    refine hK.out _ _ hS (fun _ => ?_)
    clear hK K
    try simp only [Act.put, pu1, pu2, pu3]
    refine rg_call (i := 5) (get_of Hops rfl) (fun K hK => ?_)
    have HSrg := Lib.hid hS; clear hS
    refine rg_run (wanted_plain rfl) ?_
    go_simp
    refine (HArn.out _ (bT B2.out (bT (bD (bR W1)) hbr1))).mono ?_
    rintro e wr2 ⟨Aq, cq, rfl, hbr2, hoq⟩
    have hS : Since W1 wr2 := bT (w := W1) HSrg.out hbr2
    clear HSrg
    refine hK.out _ _ hS (fun _ => ?_)
    clear hK K
    try simp only [Act.put, pu1, pu2, pu3]
    refine rg_call (i := 8) (get_of Hops rfl) (fun K hK => ?_)
    have HSrg := Lib.hid hS; clear hS
    refine rg_run (wanted_plain rfl) ?_
    go_simp
    refine (preceding_spec _ D (-d) _ (Sl.of_own hoq) (by have := HL.out; omega)).mono ?_
    rintro e wr3 ⟨rfl, hbr3⟩
    have hS : Since W1 wr3 := bT (w := W1) HSrg.out hbr3
    clear HSrg
    refine hK.out _ _ hS (fun _ => ?_)
    clear hK K
    try simp only [Act.put, pu1, pu2, pu3]
    apply rg_yp (i := 9) Hops rfl hS rfl
    · intro _ hq; clear hq; go_simp; try rfl
    try simp only [Act.put, pu1, pu2, pu3]
    refine rg_done ?_
    refine HQrg.down _ _ ?_
    have hB : Below W1.heap.size W1 wr3 := hS
    clear hS HQrg Hops
    rw [Hf.out]
    go_wp2_with fail
    go_ret
    exact ⟨rfl, bT B2.out hB⟩
end Go.Proofs.YtoclnkfeblfpbaaGreat
namespace Go.Proofs.YtoclnkfeblfpbaaGreat
open Go.RowKit Go.Sort

def ascL (l : List Int) : List Int := l.mergeSort fun x y => decide (x ≤ y)
theorem ascL_perm (l : List Int) : (ascL l).Perm l := List.mergeSort_perm _ _
theorem ascL_len (l : List Int) : (ascL l).length = l.length := (ascL_perm l).length_eq
theorem ascL_sorted (l : List Int) : (ascL l).Pairwise (· ≤ ·) := by
  have := List.pairwise_mergeSort (le := fun (x y : Int) => decide (x ≤ y)) (fun a b c h1 h2 => by simp only [decide_eq_true_eq] at *; omega) (fun a b => by simp only [Bool.or_eq_true, decide_eq_true_eq]; omega) l
  exact this.imp (fun h => by simpa using h)
/-- a strictly ascending list is what sorting gives -/
theorem ascL_of {l m : List Int} (hp : l.Perm m) (hs : m.Pairwise (· < ·)) : ascL l = m := by
  refine sorted_uniq (lt := fun a b => decide (a < b)) ((ascL_perm l).trans hp) ?_ ?_ (fun a _ b _ h1 h2 => by simp only [decide_eq_false_iff_not] at *; omega)
  · exact (ascL_sorted l).imp (fun h => by simpa using h)
  · exact hs.imp (fun h => by simp only [decide_eq_false_iff_not]; omega)
theorem putRow_heap (w : World) (n : Nat) (blk off : Nat) (d : Array Int) (os : Array Obj) : (grow (putRow (Value.int .i64) (Sort.ahead w n) blk off d) os).heap = w.heap.modify blk (onCells (putCells (Value.int .i64) off d)) ++ os := rfl
theorem putRow_grown (w : World) (n : Nat) (blk off : Nat) (d : Array Int) (os : Array Obj) : w.grownBy (grow (putRow (Value.int .i64) (Sort.ahead w n) blk off d) os) (some blk) := by
  refine ⟨rfl, rfl, rfl, ?_, fun i hi hne => ?_⟩
  · rw [putRow_heap]; simp
  · have hne' : blk ≠ i := fun e => hne (by rw [e])
    rw [putRow_heap, Array.getElem?_append_left (by simpa using hi), Array.getElem?_modify, if_neg hne']
set_option maxHeartbeats 1000000 in
theorem SortN_spec (base : Nat) (v : Value) (sl : List Int) (w : World) (hown : Own w base 3 1 inC v sl) (hn : sl.length ≤ 4294967296) :
    Calls Tryz.prog 33 #[v] w (RetSortIn w base v (ascL sl)) := by
  rcases sl with _ | ⟨s0, rest⟩
  · have hv : ∃ p cap, v = .slice p 0 cap := by
      rcases hown.2 with ⟨h, _⟩ | ⟨g, cap, cur, h, _⟩
      · exact ⟨_, _, h⟩
      · exact ⟨_, _, h⟩
    obtain ⟨p, cap, rfl⟩ := hv
    refine Calls.mono (AnyM.slices_Sort_int_none Tryz.sortN p cap w) ?_
    rintro e w' ⟨rfl, rfl⟩
    exact ⟨rfl, by rw [show ascL [] = [] by simp [ascL]]; exact hown, World.grownBy.refl _ _⟩
  generalize hsl : s0 :: rest = sl at *
  have hpos : 0 < sl.length := by rw [← hsl]; simp
  obtain ⟨hlen, hown2⟩ := hown
  rcases hown2 with ⟨_, h0⟩ | ⟨g, cap, cur, rfl, hg, hh, hnc, hcm, hcs, hx⟩
  · omega
  have hcur : ∀ j, j < sl.length → cur[j]? = (sl[j]?).map (.int .i64 ·) := fun j hj => by
    rw [← flat_in, ← hx, List.getElem?_take, if_pos (by omega)]; simp
  have hH : Holds (Value.int .i64) w g 0 sl.toArray := fun j hj => by
    have hj' : j < sl.length := by simpa using hj
    refine ⟨?_, Blk.frozen (t := 3) (cs := cur) hh _⟩
    rw [cell_of_row w g _ cur 3 (0, 0) hh, Nat.zero_add, hcur j hj', getElem!_pos sl.toArray j hj, List.getElem?_eq_getElem hj']
    simp
  refine Calls.mono (AnyM.slices_Sort_int Tryz.sortN g 0 cap sl w hH (Blk.lt hh) (by omega)) ?_
  rintro e w' ⟨rfl, n, os, rfl⟩
  have hl' : (ascL sl).length = sl.length := ascL_len sl
  refine ⟨rfl, ?_, putRow_grown w n g 0 _ os⟩
  unfold Own
  rw [hl']
  refine ⟨by rw [flat_in_len, hl']; omega, .inr ⟨g, cap, putCells (Value.int .i64) 0 (ascL sl).toArray cur, rfl, hg, ?_, hnc, hcm, by simp [putCells, hcs], ?_⟩⟩
  · have hgl : g < w.heap.size := Blk.lt hh
    show (grow (putRow (Value.int .i64) (Sort.ahead w n) g 0 (ascL sl).toArray) os).heap[g]? = _
    rw [putRow_heap, Array.getElem?_append_left (by simpa using hgl), Array.getElem?_modify, if_pos rfl, hh]
    rfl
  · apply List.ext_getElem?
    intro j
    rw [List.getElem?_take]
    by_cases hj : j < sl.length * 1
    · rw [if_pos hj]
      have hjc : j < cur.size := by rw [hcs]; omega
      have hjd : j < (ascL sl).length := by rw [hl']; omega
      rw [flat_in, List.getElem?_eq_getElem hjd]
      have e1 : (putCells (Value.int .i64) 0 (ascL sl).toArray cur).toList[j]? = some (.int .i64 (ascL sl).toArray[j]!) := by
        simp [putCells, hjc, hjd]
      rw [e1, getElem!_pos (ascL sl).toArray j (by simpa using hjd)]
      simp
    · rw [if_neg hj, List.getElem?_eq_none (by rw [flat_in_len, hl']; omega)]
end Go.Proofs.YtoclnkfeblfpbaaGreat
namespace Go.Proofs.YtoclnkfeblfpbaaGreat
open Go.RowKit

/- lists of lists of ints -/
def cyC (x : List Int × SV) : List Value := [.slice x.2.a x.2.n x.2.c]
theorem cyC_len (x : List Int × SV) : (cyC x).length = 1 := rfl
theorem cyC_one (x : List Int × SV) : ∀ u ∈ cyC x, u.oneCell' = true := by simp [cyC, Value.oneCell']
theorem elem_cy : Elem Tryz.prog 31 24 1 24 := Elem.mk_ (z := .slice none 0 0) (by kernel_rfl) (by kernel_rfl) rfl (by omega)
/-- a list of cycles of the call's own (from block B on), each with its own list -/
def CysO (w : World) (B : Nat) (v : Value) (L : List (List Int × SV)) : Prop :=
  Own w B 24 1 cyC v L ∧ ∀ x ∈ L, Own w B 3 1 inC (.slice x.2.a x.2.n x.2.c) x.1
theorem CysO.keep {w w' : World} {B : Nat} {v : Value} {L : List (List Int × SV)} (h : CysO w B v L) (hb : Below w.heap.size w w') : CysO w' B v L :=
  ⟨h.1.keep hb, fun x hx => (h.2 x hx).keep hb⟩
theorem Own.apart_ty {α β : Type} {w : World} {b b' : Nat} {e e' : TypeId} {s s' : Nat} {f : α → List Value} {f' : β → List Value} {v v' : Value} {l : List α} {l' : List β} (h : Own w b e s f v l) (h' : Own w b' e' s' f' v' l') (hne : e ≠ e') : ∀ g, v.ownBlock = some g → some g ≠ v'.ownBlock :=
  Own.apart h h' hne
/-- the cycles that a call returns -/
def RetCys (w : World) (l : List (List Int)) (z : Int) (e : Ending) (w' : World) : Prop :=
  ∃ A c L, e = .returned (.tuple #[.slice A l.length c, .int .i64 z]) ∧ Below w.heap.size w w' ∧ L.map (·.1) = l ∧ CysO w' w.heap.size (.slice A l.length c) L

theorem mapII_ne {w : World} {gm n : Nat} {f : Int → Int} (h : MapII w gm n f) {g : Nat} {t : TypeId} {cs : Array Value} (hg : Blk w g t cs) : g ≠ gm := by
  rintro rfl
  obtain ⟨D, h1, -⟩ := h
  obtain ⟨es, clock, h2, -⟩ := h1
  unfold Blk at hg
  rw [hg] at h2
  cases h2
theorem mapII_own {w : World} {gm n : Nat} {f : Int → Int} (h : MapII w gm n f) {base : Nat} {e : TypeId} {size : Nat} {α : Type} {fe : α → List Value} {v : Value} {l : List α} (ho : Own w base e size fe v l) : v.ownBlock ≠ some gm := by
  rcases ho.2 with ⟨rfl, _⟩ | ⟨g, cap, cur, rfl, _, hh, _⟩
  · simp [Value.ownBlock]
  · intro e'
    exact mapII_ne h (cs := cur) (g := g) hh (by simpa [Value.ownBlock] using e')
theorem Own.row_in {w : World} {base : Nat} {A : Option Addr} {n c : Nat} {l : List Int} (h : Own w base 3 1 inC (.slice A n c) l) : Row w A (l.flatMap inC) := by
  obtain ⟨A', c', he, _, _, hr⟩ := h.sl
  injection he with e1 e2 e3
  subst e1
  exact hr

/- the darts of the first nodes -/
def aroundL (p : Pl) (k : Nat) : List Int := (p.nodes.take k).flatMap fun n => aroundD p n.id
def FolOK (p : Pl) (F : Int → Int) (L : List Int) : Prop := ∀ e ∈ L, F (-e) = nextD p (-e)
theorem aroundL_succ (p : Pl) (k : Nat) (hk : k < p.nodes.length) : aroundL p (k + 1) = aroundL p k ++ aroundD p p.nodes[k].id := by
  unfold aroundL
  rw [List.take_succ_eq_append_getElem hk, List.flatMap_append]
  simp
theorem aroundL_len {p : Pl} (h : Valid p) (k : Nat) : (aroundL p k).length ≤ 512 * k := by
  induction k with
  | zero => simp [aroundL]
  | succ k ih =>
    by_cases hk : k < p.nodes.length
    · rw [aroundL_succ p k hk, List.length_append]
      have := h.around_len p.nodes[k].id
      omega
    · have : aroundL p (k + 1) = aroundL p k := by
        unfold aroundL
        rw [List.take_of_length_le (by omega), List.take_of_length_le (by omega)]
      rw [this]; omega
theorem aroundL_all (p : Pl) : aroundL p p.nodes.length = p.nodes.flatMap fun n => aroundD p n.id := by
  unfold aroundL; rw [List.take_length]
theorem FolOK.snoc {p : Pl} {F : Int → Int} {L : List Int} (h : FolOK p F L) {d x : Int} (hx : nextD p (-d) = x) : FolOK p (fun i => if i = -d then x else F i) (L ++ [d]) := by
  intro e he
  by_cases hd : e = d
  · subst hd; simp [hx]
  · have hne : -e ≠ -d := by omega
    simp only [List.mem_append, List.mem_singleton, hd, or_false] at he
    simp only [hne, if_false]
    exact h e he
section
variable {p : Pl} (h : Valid p)
include h
theorem Valid.next_around {n : Nd} (hn : n ∈ p.nodes) {d : Int} (hd : d ∈ aroundD p n.id) : nextD p (-d) = precD (aroundD p n.id) d ∧ d ∈ dartsD p := by
  obtain ⟨h1, h2⟩ := h.dartL_start ((h.around_perm hn).subset hd)
  obtain ⟨n', hn', e, hm, hx⟩ := h.next_eq (neg_dart h1)
  rw [Int.neg_neg] at e hm hx
  exact ⟨by rw [hx, e, h2], h1⟩
theorem Valid.dart_bd {d : Int} (hd : d ∈ dartsD p) : -1073741824 ≤ d ∧ d ≤ 1073741824 := by
  obtain ⟨a, ha, e⟩ := mem_dartsD.1 hd
  have := h.id_pos ha
  omega
theorem Valid.asc_all : ascL (aroundL p p.nodes.length) = dartsD p := by
  rw [aroundL_all]
  exact ascL_of h.all_around h.darts_sorted
theorem Valid.fol_all {F : Int → Int} (hF : FolOK p F (aroundL p p.nodes.length)) {d : Int} (hd : d ∈ dartsD p) : F d = nextD p d := by
  have h1 : -d ∈ aroundL p p.nodes.length := by
    rw [aroundL_all]
    exact h.all_around.symm.subset (neg_dart hd)
  have := hF _ h1
  rwa [Int.neg_neg] at this
theorem Valid.darts_len : (dartsD p).length ≤ 512 := by
  have hl := h.lim
  unfold limS at hl
  simp only [Bool.or_eq_false_iff, decide_eq_false_iff_not] at hl
  unfold dartsD
  simp only [List.length_append, List.length_reverse, List.length_map]
  omega
theorem Valid.nodes_len : p.nodes.length ≤ 256 := by
  have hl := h.lim
  unfold limS at hl
  simp only [Bool.or_eq_false_iff, decide_eq_false_iff_not] at hl
  omega
/-- the cycles behind the first k darts -/
theorem Valid.cyc_k (k : Nat) : Cyc (nextD p) (dartsD p) ((dartsD p).take k) (((dartsD p).take k).foldl (cycStep (nextD p) (dartsD p)) []) := by
  have := cyc_fold (f := nextD p) (D := dartsD p) (fun x hx => (h.next_mem hx).1) (fun x hx y hy => h.next_inj hx hy) ((dartsD p).take k) [] [] (Cyc.nil _ _) (fun x hx => List.mem_of_mem_take hx) (by rw [List.nil_append]; exact h.darts_sorted.sublist (List.take_sublist _ _))
  rwa [List.nil_append] at this
end
theorem cyc_succ (f : Int → Int) (D : List Int) (k : Nat) (hk : k < D.length) : (D.take (k + 1)).foldl (cycStep f D) [] = cycStep f D ((D.take k).foldl (cycStep f D) []) D[k] := by
  rw [List.take_succ_eq_append_getElem hk, List.foldl_append]
  rfl
end Go.Proofs.YtoclnkfeblfpbaaGreat
