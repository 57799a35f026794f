/- ref15: Has, Darts. -/
import Derived.Test.YtoclnkfeblfpbaaGreatArndB
set_option linter.unusedSimpArgs false
set_option linter.unusedVariables false
namespace Go.Proofs.YtoclnkfeblfpbaaGreat
open Go.RowKit Go.Sort

set_option maxHeartbeats 400000 in
theorem Has15_spec (v : Value) (l : List Int) (x : Int) (w : World) (h : Ints w v l) :
    Calls Tryz.prog 38 #[v, .int .i64 x] w fun e w' => e = .returned (.bool (l.any fun y => y == x)) ∧ Below w.heap.size w w' := by
  obtain ⟨A, c, rfl, hn, hc, hR⟩ := h
  unfold maxLen at hc
  obtain ⟨q, hq⟩ : ∃ q, (l.any fun y => y == x) = q := ⟨_, rfl⟩
  rw [hq]
  have Hq := Lib.hid hq; clear hq
  go_enter Tryz.func38, Tryz.ntmps38
  go_wp2_with fail
  go_loopw [5] (fun i wr => ∃ k : Nat, k ≤ l.length ∧ i = .int .i64 k ∧ Below w.heap.size w wr ∧ ∀ j (hj : j < l.length), j < k → (fun y => y == x) l[j] = false) (fun i _ => l.length - (intOf i).toNat)
  case atStart => exact ⟨0, Nat.zero_le _, rfl, bR w, fun j _ h => by omega⟩
  case round =>
    obtain ⟨k, hk, rfl, hb, hno⟩ := hrel
    have Hb := Lib.hid hb
    have Hno := Lib.hid hno
    clear hb hno
    by_cases hlt : k < l.length
    · obtain ⟨b, o, rfl, hlb, c0⟩ := (hR.mono Hb.out).int hlt
      have HR := Lib.hid hR; clear hR
      cases he : (l[k] == x)
      · go_wp2_with fail
        go_roundw
        case rel => exact ⟨k + 1, by omega, by go_num, Hb.out, all_succ (p := fun y => (fun y => y == x) y = false) Hno.out hlt he⟩
        case measure => simp [intOf]; omega
      · have hf := any_hit l (fun y => y == x) k hlt he
        rw [Hq.out] at hf
        subst hf
        go_wp2_with fail
        go_ret
        exact ⟨rfl, Hb.out⟩
    · have hf := any_miss l (fun y => y == x) (fun j hj => Hno.out j hj (by omega))
      rw [Hq.out] at hf
      subst hf
      go_wp2_with fail
      go_ret
      exact ⟨rfl, Hb.out⟩

set_option maxRecDepth 100000 in
set_option maxHeartbeats 4000000 in
theorem Darts15_spec (v : Value) (p : Pl) (w : World) (h : PlV w v p) (hv : Valid p) :
    Calls Tryz.prog 37 #[v] w (RetOwnI w (dartsD p)) := by
  obtain ⟨_, _, _, al, rfl, hpa, ⟨An, cn, rfl, -⟩, ⟨⟨Aa, ca, rfl, hn1, hn2, hR⟩, -⟩, ⟨Af, cf, rfl, -⟩⟩ := h
  unfold maxLen at hn2
  have hall : al.length ≤ 256 := by
    have hl := hv.lim
    unfold limS at hl
    simp only [Bool.or_eq_false_iff, decide_eq_false_iff_not] at hl
    have h2 := hl.2
    rw [hpa, List.length_map] at h2
    omega
  have HId := Lib.hid (show ∀ k (hk : k < al.length), 1 ≤ al[k].1.id ∧ al[k].1.id ≤ 1073741824 from fun k hk => hv.id_pos (by rw [hpa]; exact List.mem_map_of_mem (List.getElem_mem hk)))
  obtain ⟨q, hq⟩ : ∃ q, dartsD p = q := ⟨_, rfl⟩
  rw [hq]
  have hq2 : (al.map fun x => -x.1.id).reverse ++ al.map (fun x => x.1.id) = q := by rw [← hq]; unfold dartsD; rw [hpa, List.map_map, List.map_map]; rfl
  have Hq := Lib.hid hq2
  have HR := Lib.hid hR
  generalize p.nodes.length = nn at *
  generalize p.faces.length = nf at *
  have k0 : IntKind.i64.wrap ((al.length : Int) - 1) = (al.length : Int) - 1 := IntWalk.i64_in _ (by omega)
  clear hpa hR hv hq hq2
  go_enter Tryz.func37, Tryz.ntmps37
  go_wp2_with fail
  obtain ⟨W0, hW⟩ : ∃ W0 : World, W0 = w.alloc (.cells #[.slice An nn cn, .slice Aa al.length ca, .slice Af nf cf] 26) := ⟨_, rfl⟩
  have HB0 := Lib.hid (show Below w.heap.size w W0 by rw [hW]; exact bA (bR w) _)
  have HX1 := Lib.hid (show Blk W0 w.heap.size 26 #[.slice An nn cn, .slice Aa al.length ca, .slice Af nf cf] by rw [hW]; exact Blk.made rfl _ _)
  rw [← hW]
  clear hW
  have hz0 := HX1.out.lt
  go_loopw [3, 4] (fun s i wr => ∃ m : Nat, m ≤ al.length ∧ i = .int .i64 ((m : Int) - 1) ∧ Own wr W0.heap.size 3 1 inC s ((al.drop m).map fun x => -x.1.id).reverse ∧ Below W0.heap.size W0 wr) (fun _ i _ => ((intOf i) + 1).toNat)
  case atStart => exact ⟨al.length, Nat.le_refl _, rfl, by rw [List.drop_length]; exact Own.nil _ _ _ _ _, bR W0⟩
  case round =>
    obtain ⟨m, hm, rfl, ho, hb⟩ := hrel
    have Ho := Lib.hid ho
    have Hb := Lib.hid hb
    have X1 := HX1.out.keep hb
    have hzr := hb.size
    clear ho hb
    try clear X1l
    try clear X1a
    try clear X1b
    try clear X1c
    try clear X1fa
    try clear X1fb
    try clear X1fc
    obtain ⟨X1l, X1a, X1b, X1c, -, -, -⟩ := X1.facts3
    by_cases hlt : 0 < m
    case pos =>
      obtain ⟨j, rfl⟩ : ∃ j, m = j + 1 := ⟨m - 1, by omega⟩
      have hj : j < al.length := by omega
      obtain ⟨b, o, rfl, hlb, c0, -⟩ := (HR.out.mono (bT HB0.out Hb.out)).ar hj
      have hid := HId.out j hj
      have hst : ((al.drop j).map fun x => -x.1.id).reverse = ((al.drop (j + 1)).map fun x => -x.1.id).reverse ++ [-al[j].1.id] := by
        rw [List.drop_eq_getElem_cons hj, List.map_cons, List.reverse_cons]
      have HSt := Lib.hid hst
      have hll : (((al.drop (j + 1)).map fun x => -x.1.id).reverse).length ≤ 256 := by simp; omega
      have HLl := Lib.hid hll
      clear hst hll
      generalize ((al.drop (j + 1)).map fun x => -x.1.id).reverse = L at *
      generalize al[j].1.id = d at *
      have k1 : IntKind.i64.wrap (-d) = -d := IntWalk.i64_in _ (by omega)
      have k2 : ((j + 1 : Nat) : Int) - 1 = (j : Int) := by omega
      have k3 : (0 : Int) ≤ (j : Int) := by omega
      have k4 : (j : Int) < al.length := by omega
      have k5 : IntKind.i64.wrap ((j : Int) - 1) = (j : Int) - 1 := IntWalk.i64_in _ (by omega)
      rw [k2]
      obtain ⟨s, rfl⟩ : ∃ s : Value, s = u3 := ⟨_, rfl⟩
      clear hid
      go_wp2_with
        (at_builtin
         refine wpList_appl _ rfl (.tmp 14) (.tmp 22) _ rfl (base := W0.heap.size) elem_in inC_len inC_one rfl (Own.alloc Ho.out _) rfl (l2 := [-d]) (Sl.lit (n := 1) (Blk.made rfl _ _) rfl (le_maxLen (by omega))) (by have := HLl.out; simp only [List.length_cons, List.length_nil]; omega) (by have := HLl.out; simp only [List.length_cons, List.length_nil]; omega) (by simp; omega) ?_
         intro v1 w1 ho1 hg1 hat1
         have HO1 := Lib.hid ho1
         have HB1 := Lib.hid (Below.grown (Below.alloc Hb.out (by omega) _) hg1 (by simp; omega) (fun g hg => (Ho.out.lt g hg).1))
         clear ho1 hg1 hat1)
      go_roundw
      case rel => exact ⟨j, by omega, rfl, by rw [HSt.out]; exact HO1.out, HB1.out⟩
      case measure => simp [intOf]
    case neg =>
      have h0 : m = 0 := by omega
      subst h0
      have k3 : ¬ (0 : Int) ≤ ((0 : Nat) : Int) - 1 := by omega
      rw [List.drop_zero] at Ho
      generalize hL1 : (al.map fun x => -x.1.id).reverse = L1 at *
      have hl1 : L1.length ≤ 256 := by rw [← hL1]; simp; omega
      have HL1 := Lib.hid hl1
      clear hL1 hl1
      have HQ2 := Lib.hid Hq.out
      clear Hq
      go_wp2_with fail
      obtain ⟨wo, rfl⟩ : ∃ wo : World, wo = wr := ⟨_, rfl⟩
      obtain ⟨s0, rfl⟩ : ∃ s : Value, s = u3 := ⟨_, rfl⟩
      go_loopw [3, 5] (fun s i wr => ∃ k : Nat, k ≤ al.length ∧ i = .int .i64 k ∧ Own wr W0.heap.size 3 1 inC s (L1 ++ (al.take k).map fun x => x.1.id) ∧ Below W0.heap.size W0 wr) (fun _ i _ => al.length - (intOf i).toNat)
      case atStart => exact ⟨0, Nat.zero_le _, rfl, by simpa using Ho.out, Hb.out⟩
      case round =>
        obtain ⟨k, hk, rfl, ho, hb⟩ := hrel
        have Ho2 := Lib.hid ho
        have Hb2 := Lib.hid hb
        replace X1 := HX1.out.keep hb
        have hzr2 := hb.size
        clear ho hb X1l X1a X1b X1c
        try clear X1l
        try clear X1a
        try clear X1b
        try clear X1c
        try clear X1fa
        try clear X1fb
        try clear X1fc
        obtain ⟨X1l, X1a, X1b, X1c, -, -, -⟩ := X1.facts3
        by_cases hlt2 : k < al.length
        case pos =>
          obtain ⟨b, o, rfl, hlb, c0, -⟩ := (HR.out.mono (bT HB0.out Hb2.out)).ar hlt2
          have hst : L1 ++ (al.take (k + 1)).map (fun x => x.1.id) = (L1 ++ (al.take k).map fun x => x.1.id) ++ [al[k].1.id] := by
            rw [List.take_succ_eq_append_getElem hlt2, List.map_append, List.append_assoc]; rfl
          have HSt := Lib.hid hst
          have hll : (L1 ++ (al.take k).map fun x => x.1.id).length ≤ 512 := by
            have := HL1.out
            simp only [List.length_append, List.length_map, List.length_take]; omega
          have HLl := Lib.hid hll
          clear hst hll
          generalize L1 ++ (al.take k).map (fun x => x.1.id) = L at *
          generalize al[k].1.id = d at *
          have k4 : (k : Int) < al.length := by omega
          obtain ⟨s, rfl⟩ : ∃ s : Value, s = u3 := ⟨_, rfl⟩
          go_wp2_with
            (at_builtin
             refine wpList_appl _ rfl (.tmp 31) (.tmp 38) _ rfl (base := W0.heap.size) elem_in inC_len inC_one rfl (Own.alloc Ho2.out _) rfl (l2 := [d]) (Sl.lit (n := 1) (Blk.made rfl _ _) rfl (le_maxLen (by omega))) (by have := HLl.out; simp only [List.length_cons, List.length_nil]; omega) (by have := HLl.out; simp only [List.length_cons, List.length_nil]; omega) (by simp; omega) ?_
             intro v1 w1 ho1 hg1 hat1
             have HO1 := Lib.hid ho1
             have HB1 := Lib.hid (Below.grown (Below.alloc Hb2.out (by omega) _) hg1 (by simp; omega) (fun g hg => (Ho2.out.lt g hg).1))
             clear ho1 hg1 hat1)
          go_roundw
          case rel => exact ⟨k + 1, by omega, by go_num, by rw [HSt.out]; exact HO1.out, HB1.out⟩
          case measure => simp [intOf]; omega
        case neg =>
          have hkk : k = al.length := by omega
          subst hkk
          have ho2 := Ho2.out
          rw [List.take_length, HQ2.out] at ho2
          obtain ⟨A, c, rfl, -⟩ := Own.shape ho2
          have HO2 := Lib.hid ho2
          clear ho2 Ho2
          go_wp2_with fail
          go_ret
          exact ⟨A, c, rfl, bT HB0.out Hb2.out, HO2.out.mono_base (by omega)⟩
end Go.Proofs.YtoclnkfeblfpbaaGreat
