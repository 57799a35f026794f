/- Plain law: the reference's list of darts and the dart that follows each. No walk here. ref15: Has, Darts. ref15.second. sorting by rank: the element that just k others are below stands at place k of the sorted list. -/
import Derived.Test.YtoclnkfeblfpbaaGreatJ14
import Derived.Test.YtoclnkfeblfpbaaGreatArndB
import Derived.Test.YtoclnkfeblfpbaaGreatJ12
set_option linter.unusedSimpArgs false
set_option linter.unusedVariables false
namespace Go.Proofs.YtoclnkfeblfpbaaGreat
open Go.RowKit

def prN (Q : List Int) : List (Int × Int) := (List.range Q.length).map fun j => (-(Q.getD ((j + 1) % Q.length) 0), Q.getD j 0)
def prL (p : Pl) (k : Nat) : List (Int × Int) := (p.nodes.take k).flatMap fun n => prN (aroundD p n.id)
theorem prN_len (Q : List Int) : (prN Q).length = Q.length := by simp [prN]
theorem prL_succ (p : Pl) (k : Nat) (hk : k < p.nodes.length) : prL p (k + 1) = prL p k ++ prN (aroundD p p.nodes[k].id) := by
 unfold prL
 rw [List.take_succ_eq_append_getElem hk, List.flatMap_append]
 simp
theorem prL_len (p : Pl) (k : Nat) : (prL p k).length = (aroundL p k).length := by
 unfold prL aroundL
 rw [List.length_flatMap, List.length_flatMap]
 congr 1
 exact List.map_congr_left fun n _ => prN_len _
theorem prN_succ (Q : List Int) (j : Nat) (hj : j < Q.length) (hm : (j + 1) % Q.length < Q.length) : (prN Q).take (j + 1) = (prN Q).take j ++ [(-Q[(j + 1) % Q.length], Q[j])] := by
 have h : j < (prN Q).length := by rw [prN_len]; exact hj
 rw [List.take_succ_eq_append_getElem h]
 congr 2
 simp only [prN, List.getElem_map, List.getElem_range, List.getD_eq_getElem?_getD, List.getElem?_eq_getElem hm, List.getElem?_eq_getElem hj, Option.getD_some]
theorem prN_all (Q : List Int) : (prN Q).take Q.length = prN Q := List.take_of_length_le (by rw [prN_len]; exact Nat.le_refl _)
theorem mem_prN {Q : List Int} {x : Int × Int} (h : x ∈ prN Q) : ∃ j, ∃ hj : j < Q.length, ∃ hm : (j + 1) % Q.length < Q.length, x = (-Q[(j + 1) % Q.length], Q[j]) := by
 unfold prN at h
 obtain ⟨j, hj, rfl⟩ := List.mem_map.1 h
 rw [List.mem_range] at hj
 have hm : (j + 1) % Q.length < Q.length := Nat.mod_lt _ (by omega)
 exact ⟨j, hj, hm, by simp only [List.getD_eq_getElem?_getD, List.getElem?_eq_getElem hm, List.getElem?_eq_getElem hj, Option.getD_some]⟩
theorem mod_back {j N : Nat} (hj : j < N) : j = ((j + 1) % N + N - 1) % N := by
 by_cases e : j + 1 = N
 ·
  subst e
  rw [Nat.mod_self]
  have : (0 + (j + 1) - 1) % (j + 1) = j := by rw [show 0 + (j + 1) - 1 = j by omega]; exact Nat.mod_eq_of_lt (by omega)
  exact this.symm
 · rw [Nat.mod_eq_of_lt (show j + 1 < N by omega), show j + 1 + N - 1 = j + N by omega, Nat.add_mod_right, Nat.mod_eq_of_lt hj]
section
variable {p : Pl} (h : Valid p)
include h
theorem Valid.pr_ok {x : Int × Int} (hx : x ∈ prL p p.nodes.length) : x.1 ∈ dartsD p ∧ x.2 = nextD p x.1 := by
 unfold prL at hx
 rw [List.take_length] at hx
 obtain ⟨n, hn, hx⟩ := List.mem_flatMap.1 hx
 obtain ⟨j, hj, hm, rfl⟩ := mem_prN hx
 have hnd := h.around_nodup hn
 have h1 := h.next_around hn (List.getElem_mem hm)
 refine ⟨neg_dart h1.2, ?_⟩
 show (aroundD p n.id)[j] = nextD p (-(aroundD p n.id)[(j + 1) % (aroundD p n.id).length])
 rw [h1.1, precD_at hnd hm]
 congr 1
 exact mod_back hj
theorem Valid.pr_mem {d : Int} (hd : d ∈ dartsD p) : d ∈ (prL p p.nodes.length).map (·.1) := by
 obtain ⟨n, hn, -, hm⟩ := h.start_node (neg_dart hd)
 have hq := (h.around_perm hn).symm.subset hm
 obtain ⟨i, hi, e⟩ := List.mem_iff_getElem.1 hq
 rw [List.mem_map]
 have key : ∃ j, j < (aroundD p n.id).length ∧ (j + 1) % (aroundD p n.id).length = i := by
  by_cases e0 : i = 0
  ·
   subst e0
   exact ⟨(aroundD p n.id).length - 1, by omega, by rw [Nat.sub_add_cancel (by omega), Nat.mod_self]⟩
  · exact ⟨i - 1, by omega, by rw [Nat.sub_add_cancel (by omega), Nat.mod_eq_of_lt hi]⟩
 obtain ⟨j, hj, hji⟩ := key
 refine ⟨(-((aroundD p n.id).getD ((j + 1) % (aroundD p n.id).length) 0), (aroundD p n.id).getD j 0), ?_, ?_⟩
 ·
  unfold prL
  rw [List.take_length, List.mem_flatMap]
  exact ⟨n, hn, List.mem_map.2 ⟨j, List.mem_range.2 hj, rfl⟩⟩
 ·
  show -((aroundD p n.id).getD ((j + 1) % (aroundD p n.id).length) 0) = d
  rw [hji, List.getD_eq_getElem?_getD, List.getElem?_eq_getElem hi, Option.getD_some, e]
  omega
theorem Valid.pr_len : (prL p p.nodes.length).length = (dartsD p).length := by
 rw [prL_len, aroundL_all]; exact h.all_around.length_eq
end
end Go.Proofs.YtoclnkfeblfpbaaGreat
namespace Go.Proofs.YtoclnkfeblfpbaaGreat
open Go.RowKit Go.Sort

set_option maxHeartbeats 400000 in
theorem Has15_spec (v : Value) (l : List Int) (x : Int) (w : World) (h : Ints w v l) :
  Calls Tryz.prog 38 #[v, .int .i64 x] w fun e w' => e = .returned (.bool (l.any fun y => y == x)) ∧ Below w.heap.size w w' := by
 obtain ⟨A, c, rfl, hn, hc, hR⟩ := h
 unfold maxLen at hc
 obtain ⟨q, hq⟩ : ∃ q, (l.any fun y => y == x) = q := ⟨_, rfl⟩
 rw [hq]
 have Hq := Lib.hid hq; clear hq
 go_enter Tryz.func38, Tryz.ntmps38
 go_wp2_with fail
 go_loopw [5] (fun i wr => ∃ k : Nat, k ≤ l.length ∧ i = .int .i64 k ∧ Below w.heap.size w wr ∧ ∀ j (hj : j < l.length), j < k → (fun y => y == x) l[j] = false) (fun i _ => l.length - (intOf i).toNat)
 case atStart => exact ⟨0, Nat.zero_le _, rfl, bR w, fun j _ h => by omega⟩
 case round =>
  obtain ⟨k, hk, rfl, hb, hno⟩ := hrel
  have Hb := Lib.hid hb
  have Hno := Lib.hid hno
  clear hb hno
  by_cases hlt : k < l.length
  ·
   obtain ⟨b, o, rfl, hlb, c0⟩ := (hR.mono Hb.out).int hlt
   have HR := Lib.hid hR; clear hR
   cases he : (l[k] == x)
   ·
    go_wp2_with fail
    go_roundw
    case rel => exact ⟨k + 1, by omega, by go_num, Hb.out, all_succ (p := fun y => (fun y => y == x) y = false) Hno.out hlt he⟩
    case measure => simp [intOf]; omega
   ·
    have hf := any_hit l (fun y => y == x) k hlt he
    rw [Hq.out] at hf
    subst hf
    go_wp2_with fail
    go_ret
    exact ⟨rfl, Hb.out⟩
  ·
   have hf := any_miss l (fun y => y == x) (fun j hj => Hno.out j hj (by omega))
   rw [Hq.out] at hf
   subst hf
   go_wp2_with fail
   go_ret
   exact ⟨rfl, Hb.out⟩

set_option maxRecDepth 100000 in
set_option maxHeartbeats 4000000 in
theorem Darts15_spec (v : Value) (p : Pl) (w : World) (h : PlV w v p) (hv : Valid p) :
  Calls Tryz.prog 37 #[v] w (RetOwnI w (dartsD p)) := by
 obtain ⟨_, _, _, al, rfl, hpa, ⟨An, cn, rfl, -⟩, ⟨⟨Aa, ca, rfl, hn1, hn2, hR⟩, -⟩, ⟨Af, cf, rfl, -⟩⟩ := h
 unfold maxLen at hn2
 have hall : al.length ≤ 256 := by
  have hl := hv.lim
  unfold limS at hl
  simp only [Bool.or_eq_false_iff, decide_eq_false_iff_not] at hl
  have h2 := hl.2
  rw [hpa, List.length_map] at h2
  omega
 have HId := Lib.hid (show ∀ k (hk : k < al.length), 1 ≤ al[k].1.id ∧ al[k].1.id ≤ 1073741824 from fun k hk => hv.id_pos (by rw [hpa]; exact List.mem_map_of_mem (List.getElem_mem hk)))
 obtain ⟨q, hq⟩ : ∃ q, dartsD p = q := ⟨_, rfl⟩
 rw [hq]
 have hq2 : (al.map fun x => -x.1.id).reverse ++ al.map (fun x => x.1.id) = q := by rw [← hq]; unfold dartsD; rw [hpa, List.map_map, List.map_map]; rfl
 have Hq := Lib.hid hq2
 have HR := Lib.hid hR
 generalize p.nodes.length = nn at *
 generalize p.faces.length = nf at *
 have k0 : IntKind.i64.wrap ((al.length : Int) - 1) = (al.length : Int) - 1 := IntWalk.i64_in _ (by omega)
 clear hpa hR hv hq hq2
 go_enter Tryz.func37, Tryz.ntmps37
 go_wp2_with fail
 obtain ⟨W0, hW⟩ : ∃ W0 : World, W0 = w.alloc (.cells #[.slice An nn cn, .slice Aa al.length ca, .slice Af nf cf] 26) := ⟨_, rfl⟩
 have HB0 := Lib.hid (show Below w.heap.size w W0 by rw [hW]; exact bA (bR w) _)
 have HX1 := Lib.hid (show Blk W0 w.heap.size 26 #[.slice An nn cn, .slice Aa al.length ca, .slice Af nf cf] by rw [hW]; exact Blk.made rfl _ _)
 rw [← hW]
 clear hW
 have hz0 := HX1.out.lt
 go_loopw [3, 4] (fun s i wr => ∃ m : Nat, m ≤ al.length ∧ i = .int .i64 ((m : Int) - 1) ∧ Own wr W0.heap.size 3 1 inC s ((al.drop m).map fun x => -x.1.id).reverse ∧ Below W0.heap.size W0 wr) (fun _ i _ => ((intOf i) + 1).toNat)
 case atStart => exact ⟨al.length, Nat.le_refl _, rfl, by rw [List.drop_length]; exact Own.nil _ _ _ _ _, bR W0⟩
 case round =>
  obtain ⟨m, hm, rfl, ho, hb⟩ := hrel
  have Ho := Lib.hid ho
  have Hb := Lib.hid hb
  have X1 := HX1.out.keep hb
  have hzr := hb.size
  clear ho hb
  obtain ⟨X1l, X1a, X1b, X1c, -, -, -⟩ := X1.facts3
  by_cases hlt : 0 < m
  case pos =>
   obtain ⟨j, rfl⟩ : ∃ j, m = j + 1 := ⟨m - 1, by omega⟩
   have hj : j < al.length := by omega
   obtain ⟨b, o, rfl, hlb, c0, -⟩ := (HR.out.mono (bT HB0.out Hb.out)).ar hj
   have hid := HId.out j hj
   have hst : ((al.drop j).map fun x => -x.1.id).reverse = ((al.drop (j + 1)).map fun x => -x.1.id).reverse ++ [-al[j].1.id] := by
    rw [List.drop_eq_getElem_cons hj, List.map_cons, List.reverse_cons]
   have HSt := Lib.hid hst
   have hll : (((al.drop (j + 1)).map fun x => -x.1.id).reverse).length ≤ 256 := by simp; omega
   have HLl := Lib.hid hll
   clear hst hll
   generalize ((al.drop (j + 1)).map fun x => -x.1.id).reverse = L at *
   generalize al[j].1.id = d at *
   have k1 : IntKind.i64.wrap (-d) = -d := IntWalk.i64_in _ (by omega)
   have k2 : ((j + 1 : Nat) : Int) - 1 = (j : Int) := by omega
   have k3 : (0 : Int) ≤ (j : Int) := by omega
   have k4 : (j : Int) < al.length := by omega
   have k5 : IntKind.i64.wrap ((j : Int) - 1) = (j : Int) - 1 := IntWalk.i64_in _ (by omega)
   rw [k2]
   obtain ⟨s, rfl⟩ : ∃ s : Value, s = u3 := ⟨_, rfl⟩
   clear hid
   go_wp2_with
    (at_builtin
     refine wpList_appl _ rfl (.tmp 14) (.tmp 22) _ rfl (base := W0.heap.size) elem_in inC_len inC_one rfl (Own.alloc Ho.out _) rfl (l2 := [-d]) (Sl.lit (n := 1) (Blk.made rfl _ _) rfl (le_maxLen (by omega))) (by have := HLl.out; simp only [List.length_cons, List.length_nil]; omega) (by have := HLl.out; simp only [List.length_cons, List.length_nil]; omega) (by simp; omega) ?_
     intro v1 w1 ho1 hg1 hat1
     have HO1 := Lib.hid ho1
     have HB1 := Lib.hid (Below.grown (Below.alloc Hb.out (by omega) _) hg1 (by simp; omega) (fun g hg => (Ho.out.lt g hg).1))
     clear ho1 hg1 hat1)
   go_roundw
   case rel => exact ⟨j, by omega, rfl, by rw [HSt.out]; exact HO1.out, HB1.out⟩
   case measure => simp [intOf]
  case neg =>
   have h0 : m = 0 := by omega
   subst h0
   have k3 : ¬ (0 : Int) ≤ ((0 : Nat) : Int) - 1 := by omega
   rw [List.drop_zero] at Ho
   generalize hL1 : (al.map fun x => -x.1.id).reverse = L1 at *
   have hl1 : L1.length ≤ 256 := by rw [← hL1]; simp; omega
   have HL1 := Lib.hid hl1
   clear hL1 hl1
   have HQ2 := Lib.hid Hq.out
   clear Hq
   go_wp2_with fail
   obtain ⟨wo, rfl⟩ : ∃ wo : World, wo = wr := ⟨_, rfl⟩
   obtain ⟨s0, rfl⟩ : ∃ s : Value, s = u3 := ⟨_, rfl⟩
   go_loopw [3, 5] (fun s i wr => ∃ k : Nat, k ≤ al.length ∧ i = .int .i64 k ∧ Own wr W0.heap.size 3 1 inC s (L1 ++ (al.take k).map fun x => x.1.id) ∧ Below W0.heap.size W0 wr) (fun _ i _ => al.length - (intOf i).toNat)
   case atStart => exact ⟨0, Nat.zero_le _, rfl, by simpa using Ho.out, Hb.out⟩
   case round =>
    obtain ⟨k, hk, rfl, ho, hb⟩ := hrel
    have Ho2 := Lib.hid ho
    have Hb2 := Lib.hid hb
    replace X1 := HX1.out.keep hb
    have hzr2 := hb.size
    clear ho hb X1l X1a X1b X1c
    try clear X1l
    try clear X1a
    try clear X1b
    try clear X1c
    obtain ⟨X1l, X1a, X1b, X1c, -, -, -⟩ := X1.facts3
    by_cases hlt2 : k < al.length
    case pos =>
     obtain ⟨b, o, rfl, hlb, c0, -⟩ := (HR.out.mono (bT HB0.out Hb2.out)).ar hlt2
     have hst : L1 ++ (al.take (k + 1)).map (fun x => x.1.id) = (L1 ++ (al.take k).map fun x => x.1.id) ++ [al[k].1.id] := by
      rw [List.take_succ_eq_append_getElem hlt2, List.map_append, List.append_assoc]; rfl
     have HSt := Lib.hid hst
     have hll : (L1 ++ (al.take k).map fun x => x.1.id).length ≤ 512 := by
      have := HL1.out
      simp only [List.length_append, List.length_map, List.length_take]; omega
     have HLl := Lib.hid hll
     clear hst hll
     generalize L1 ++ (al.take k).map (fun x => x.1.id) = L at *
     generalize al[k].1.id = d at *
     have k4 : (k : Int) < al.length := by omega
     obtain ⟨s, rfl⟩ : ∃ s : Value, s = u3 := ⟨_, rfl⟩
     go_wp2_with
      (at_builtin
       refine wpList_appl _ rfl (.tmp 31) (.tmp 38) _ rfl (base := W0.heap.size) elem_in inC_len inC_one rfl (Own.alloc Ho2.out _) rfl (l2 := [d]) (Sl.lit (n := 1) (Blk.made rfl _ _) rfl (le_maxLen (by omega))) (by have := HLl.out; simp only [List.length_cons, List.length_nil]; omega) (by have := HLl.out; simp only [List.length_cons, List.length_nil]; omega) (by simp; omega) ?_
       intro v1 w1 ho1 hg1 hat1
       have HO1 := Lib.hid ho1
       have HB1 := Lib.hid (Below.grown (Below.alloc Hb2.out (by omega) _) hg1 (by simp; omega) (fun g hg => (Ho2.out.lt g hg).1))
       clear ho1 hg1 hat1)
     go_roundw
     case rel => exact ⟨k + 1, by omega, by go_num, by rw [HSt.out]; exact HO1.out, HB1.out⟩
     case measure => simp [intOf]; omega
    case neg =>
     have hkk : k = al.length := by omega
     subst hkk
     have ho2 := Ho2.out
     rw [List.take_length, HQ2.out] at ho2
     obtain ⟨A, c, rfl, -⟩ := Own.shape ho2
     have HO2 := Lib.hid ho2
     clear ho2 Ho2
     go_wp2_with fail
     go_ret
     exact ⟨A, c, rfl, bT HB0.out Hb2.out, HO2.out.mono_base (by omega)⟩
end Go.Proofs.YtoclnkfeblfpbaaGreat
namespace Go.Proofs.YtoclnkfeblfpbaaGreat
open Go.RowKit Go.Sort

def secondR (p : Pl) (d : Int) : Pt := (pathR p d).getD 1 pt0
theorem Valid.second_eq {p : Pl} (h : Valid p) {n d : Int} (hd : d ∈ dartL p.arcs n) : secondR p d = toD p d := by
 obtain ⟨a, ha, e⟩ := mem_dartL.1 hd
 have hid := h.id_pos ha
 unfold secondR
 rcases e with ⟨rfl, -⟩ | ⟨rfl, -⟩
 · rw [pathR_eq h (h.arcD_pos ha), if_pos (by omega), h.to_pos ha]
 ·
  rw [pathR_eq h (h.arcD_neg ha), if_neg (by omega), h.to_neg ha]
  have hl := pathS_length p a
  simp only [List.getD_eq_getElem?_getD]
  rw [List.getElem?_reverse (by omega)]
  congr 2
  omega
set_option maxRecDepth 100000 in
set_option maxHeartbeats 4000000 in
theorem second15_spec (v : Value) (p : Pl) (d : Int) (w : World) (h : PlV w v p) (hs : Short p) (hd : -9223372036854775808 < d ∧ d ≤ 9223372036854775807) :
  Calls Tryz.prog 111 #[v, .int .i64 d] w fun e w' => e = .returned (.agg #[.int .i64 (secondR p d).x, .int .i64 (secondR p d).y]) ∧ Below w.heap.size w w' := by
 have HA := Lib.hid (fun W (hW : Below w.heap.size w W) => Path15_spec v p d W (h.mono hW) hs hd)
 obtain ⟨_, _, _, al, rfl, hpa, ⟨An, cn, rfl, -⟩, ⟨⟨Aa, ca, rfl, -⟩, -⟩, ⟨Af, cf, rfl, -⟩⟩ := h
 unfold secondR
 generalize al.length = na at *
 generalize p.nodes.length = nn at *
 generalize p.faces.length = nf at *
 clear hpa hs
 generalize pathR p d = P at *
 obtain ⟨q, hq⟩ : ∃ q, P.getD 1 pt0 = q := ⟨_, rfl⟩
 rw [hq]
 have Hq := Lib.hid hq
 clear hq
 unfold RetPts at HA
 go_enter Tryz.func111, Tryz.ntmps111
 go_wp2_with fail
 refine (HA.out _ (bA (bA (bR w) _) _)).mono ?_
 rintro e w1 ⟨A1, c1, rfl, hb1, ho1⟩
 have B1 := Lib.hid (bT (bA (bA (bR w) _) _) hb1)
 have X4 : Blk w1 (w.heap.size + 1) 41 #[.int .i64 0, .int .i64 0] := (Blk.made (by simp) _ _).keep hb1
 obtain ⟨Aq, cq, he, hq1, hq2, hRP⟩ := ho1.sl
 injection he with e1 e2 e3
 subst e1 e3
 clear e2
 unfold maxLen at hq2
 have HRP := Lib.hid hRP
 clear hb1 ho1 hRP HA hd
 obtain ⟨X4l, X4a, X4b, X4fa, X4fb⟩ := X4.facts2
 by_cases hl : P.length < 2
 case pos =>
  have hg : P.getD 1 pt0 = pt0 := by
   simp only [List.getD_eq_getElem?_getD, List.getElem?_eq_none (show P.length ≤ 1 by omega), Option.getD_none]
  rw [Hq.out] at hg
  subst hg
  have hl' : (P.length : Int) < 2 := by omega
  clear Hq
  generalize P.length = n at *
  go_wp2_with fail
  refine res_cell (t := 41) (g := w.heap.size + 1) (cs := #[.int .i64 0, .int .i64 0]) rfl struct_pt rfl rfl (Blk.put2 X4) ⟨rfl, ?_⟩
  have Bw := B1.out
  repeat (first | with_reducible exact bR _ | with_reducible assumption | with_reducible refine bA ?_ _ | with_reducible refine bD ?_ | with_reducible refine bN ?_ _ | ((with_reducible refine bS ?_ ?_ _); rotate_left; (simp; try omega)) | ((with_reducible refine bT ?_ ?_); rotate_left; with_reducible assumption) | with_reducible refine bT ?_ (by assumption))
 case neg =>
  have hP1 : 1 < P.length := by omega
  obtain ⟨b1, o1, rfl, hlb, e0, e1⟩ := HRP.out.pt hP1
  have hg : P.getD 1 pt0 = P[1] := by simp only [List.getD_eq_getElem?_getD, List.getElem?_eq_getElem hP1, Option.getD_some]
  rw [Hq.out] at hg
  rw [← hg] at e0 e1
  clear hg HRP Hq
  simp only [Nat.one_mul] at e0 e1
  have hl' : ¬ (P.length : Int) < 2 := by omega
  have hl2 : (1 : Int) < (P.length : Int) := by omega
  generalize P.length = n at *
  go_wp2_with fail
  refine res_cell (t := 41) (g := w.heap.size + 1) (cs := #[.int .i64 q.x, .int .i64 q.y]) rfl struct_pt rfl rfl (Blk.put2 X4) ⟨rfl, ?_⟩
  have Bw := B1.out
  repeat (first | with_reducible exact bR _ | with_reducible assumption | with_reducible refine bA ?_ _ | with_reducible refine bD ?_ | with_reducible refine bN ?_ _ | ((with_reducible refine bS ?_ ?_ _); rotate_left; (simp; try omega)) | ((with_reducible refine bT ?_ ?_); rotate_left; with_reducible assumption) | with_reducible refine bT ?_ (by assumption))
end Go.Proofs.YtoclnkfeblfpbaaGreat
namespace Go.Proofs.YtoclnkfeblfpbaaGreat

def rankL (lt : Int → Int → Bool) (D : List Int) (x : Int) : Nat := D.countP (fun y => lt y x)
/-- the first element of rank k -/
def pickL (lt : Int → Int → Bool) (D : List Int) (k : Nat) : Option Int := D.find? (fun x => rankL lt D x == k)
theorem rank_at {lt : Int → Int → Bool} {S : List Int} (hs : S.Pairwise (fun a b => lt a b = true ∧ lt b a = false)) (hir : ∀ x ∈ S, lt x x = false) {k : Nat} (hk : k < S.length) : rankL lt S S[k] = k := by
 have hP := List.pairwise_iff_getElem.1 hs
 obtain ⟨c, hc⟩ : ∃ c, S[k] = c := ⟨_, rfl⟩
 have e : S = S.take k ++ S[k] :: S.drop (k + 1) := by rw [← List.drop_eq_getElem_cons hk, List.take_append_drop]
 have h1 : (S.take k).countP (fun y => lt y S[k]) = k := by
  have h2 : (S.take k).countP (fun y => lt y S[k]) = (S.take k).length := List.countP_eq_length.2 (fun a ha => by
   obtain ⟨j, hj, rfl⟩ := List.mem_iff_getElem.1 ha
   rw [List.length_take] at hj
   rw [List.getElem_take]
   exact (hP j k (by omega) hk (by omega)).1)
  rw [h2, List.length_take]; omega
 have h3 : (S.drop (k + 1)).countP (fun y => lt y S[k]) = 0 := List.countP_eq_zero.2 (fun a ha => by
  obtain ⟨j, hj, rfl⟩ := List.mem_iff_getElem.1 ha
  rw [List.length_drop] at hj
  rw [List.getElem_drop]
  have := (hP k (k + 1 + j) hk (by omega) (by omega)).2
  rw [this]; decide)
 unfold rankL
 rw [hc] at h1 h3 e ⊢
 have hcc := hir c (hc ▸ List.getElem_mem hk)
 conv => lhs; rw [e]
 rw [List.countP_append, List.countP_cons, h1, h3, hcc]
 simp
theorem sortB_strict {lt : Int → Int → Bool} {D : List Int} (ho : OrdOn lt D) (hn : D.Nodup) : (sortB lt D).Pairwise (fun a b => lt a b = true ∧ lt b a = false) := by
 obtain ⟨hp, hs⟩ := sortB_facts ho
 have hn2 : (sortB lt D).Nodup := hp.nodup_iff.2 hn
 rw [List.pairwise_iff_getElem] at hs ⊢
 intro i j hi hj hij
 have h1 := hs i j hi hj hij
 refine ⟨?_, h1⟩
 cases h : lt (sortB lt D)[i] (sortB lt D)[j]
 ·
  have e := ho.tri _ (hp.mem_iff.1 (List.getElem_mem hi)) _ (hp.mem_iff.1 (List.getElem_mem hj)) h h1
  have := (List.pairwise_iff_getElem.1 hn2) i j hi hj hij
  exact absurd e this
 · rfl
theorem pick_at {lt : Int → Int → Bool} {D : List Int} (ho : OrdOn lt D) (hn : D.Nodup) {k : Nat} (hk : k < D.length) : pickL lt D k = (sortB lt D)[k]? := by
 obtain ⟨hp, -⟩ := sortB_facts ho
 have hs := sortB_strict ho hn
 have hir : ∀ x ∈ sortB lt D, lt x x = false := fun x hx => by
  have hx2 := hp.mem_iff.1 hx
  cases h : lt x x
  · rfl
  · have := ho.asym x hx2 x hx2 h; rw [h] at this; cases this
 have hkl : k < (sortB lt D).length := by rw [hp.length_eq]; exact hk
 have hr : ∀ j (hj : j < (sortB lt D).length), rankL lt D (sortB lt D)[j] = j := fun j hj => by
  have := rank_at hs hir hj
  unfold rankL at this ⊢
  rw [← hp.countP_eq]
  exact this
 rw [List.getElem?_eq_getElem hkl]
 unfold pickL
 cases h : D.find? (fun x => rankL lt D x == k) with
 | none =>
  have := List.find?_eq_none.1 h _ (hp.mem_iff.1 (List.getElem_mem hkl))
  rw [hr k hkl] at this
  simp at this
 | some x =>
  have h1 := List.find?_some h
  have h2 := List.mem_of_find?_eq_some h
  obtain ⟨j, hj, rfl⟩ := List.mem_iff_getElem.1 (hp.mem_iff.2 h2)
  rw [hr j hj] at h1
  have : j = k := by simpa using h1
  subst this
  rfl
/-- the order by the reference's second points is the order of the darts -/
theorem ltD_ref (p : Pl) (o : Pt) (d e : Int) : ltD p o d e = rlessS o (toD p d) (toD p e) := less_eq _ _ _
end Go.Proofs.YtoclnkfeblfpbaaGreat
