/- Opposite (edgematch and mapsheetsref42); mapsheetsref42.Crossings, Small. Lists compared: mapsheetsref42.Same, mapsheetsref04.Same, slices.Equal at crossings. (printed by gen/equale.py) Plain words: sheets that do not agree with a neighbour. No walk here. -/
import Derived.Test.YtbjlnnfmcjbnhaaGreatDoorRefED
import Derived.Test.YtbjlnnfmcjbnhaaGreatDoorJ01
import Derived.Test.YtbjlnnfmcjbnhaaGreatDoorJ03
import Derived.Test.YtbjlnnfmcjbnhaaGreatDoorGB
import Derived.Test.YtbjlnnfmcjbnhaaGreatDoorJ16
set_option linter.unusedSimpArgs false
set_option linter.unusedVariables false
namespace Go.Proofs.YtbjlnnfmcjbnhaaGreatDoor
open Go.RowKit

theorem flip_take (l : List Cr) (k : Nat) (hk : k < l.length) : (l.take (k + 1)).map flipCr = (l.take k).map flipCr ++ [flipCr l[k]] := by
  rw [List.take_succ_eq_append_getElem hk, List.map_append]; rfl

set_option maxRecDepth 100000 in
set_option maxHeartbeats 4000000 in
theorem rOpposite_spec (v : Value) (l : List Cr) (w : World) (h : Crs w v l) (hl : l.length ≤ 1000000) :
    Calls Tryz.prog 14 #[v] w (RetCrsR w (oppS l)) := by
  obtain ⟨A, c, rfl, hn, hc, hR⟩ := h
  unfold maxLen at hc
  have HR := Lib.hid hR; clear hR
  unfold oppS
  have TA : ∀ (v : Value) (m : List Cr) (cr : Cr) (W : World), Crs W v m → m.length ≤ 1000000 → Calls Tryz.prog 23 #[v, crV cr] W _ := fun v m cr W h1 h2 => Add_spec v m cr W h1 h2
  unfold crV at TA
  have HA := Lib.hid TA; clear TA
  go_enter Tryz.func14, Tryz.ntmps14
  go_wp2_with fail
  go_loopw [3, 4] (fun s u wr => ∃ k : Nat, k ≤ l.length ∧ u = .int .i64 k ∧ Below w.heap.size w wr ∧ Crs wr s (sortCr ((l.take k).map flipCr))) (fun _ u _ => l.length - (intOf u).toNat)
  case atStart => exact ⟨0, Nat.zero_le _, rfl, bR w, Sl.nil _⟩
  case round =>
    obtain ⟨k, hk, rfl, hb, hs⟩ := hrel
    have Hb := Lib.hid hb
    obtain ⟨As, cs, rfl⟩ := hs.form
    have Hs := Lib.hid hs
    clear hb hs
    have hsl : (sortCr ((l.take k).map flipCr)).length ≤ 1000000 := by rw [sortCr_len, List.length_map, List.length_take]; omega
    by_cases hlt : k < l.length
    case pos =>
      have hst : sortCr ((l.take (k + 1)).map flipCr) = insCr (sortCr ((l.take k).map flipCr)) (flipCr l[k]) := by rw [flip_take l k hlt, sortCr_snoc]
      have HSt := Lib.hid hst
      clear hst
      generalize sortCr ((l.take k).map flipCr) = L at *
      obtain ⟨b, o, rfl, hlb, c0, c1, c2⟩ := (HR.out.mono Hb.out).cr hlt
      by_cases h0 : l[k].out = 0
      · have h0' : (l[k].out == 0) = true := by simp [h0]
        have hf : flipCr l[k] = ⟨l[k].pos, l[k].arc, 1⟩ := by unfold flipCr; rw [if_pos h0]
        have TK := HA.out (.slice As L.length cs) L (flipCr l[k]) (wr.alloc (.cells #[.int .i64 l[k].pos, .int .i64 l[k].arc, .int .i64 1] 57)) (Hs.out.mono (bA (bR wr) _)) hsl
        rw [hf] at TK
        rw [hf] at HSt
        have HK := Lib.hid TK
        clear TK hf h0 hsl
        go_wp2_with fail
        refine HK.out.mono ?_
        rintro e w1 ⟨A3, c3, rfl, hb1, ho1⟩
        have B1 := Lib.hid (bT (bA Hb.out _) hb1)
        have Ho1 := Lib.hid ho1
        clear hb1 ho1 c0 c1 c2 hlb
        go_wp2_with fail
        go_roundw
        case rel => exact ⟨k + 1, by omega, by go_num, B1.out, by rw [HSt.out]; exact Own.sl Ho1.out⟩
        case measure => simp [intOf]; omega
      · have h0' : (l[k].out == 0) = false := by simp [h0]
        have hf : flipCr l[k] = ⟨l[k].pos, l[k].arc, 0⟩ := by unfold flipCr; rw [if_neg h0]
        have TK := HA.out (.slice As L.length cs) L (flipCr l[k]) (wr.alloc (.cells #[.int .i64 l[k].pos, .int .i64 l[k].arc, .int .i64 0] 57)) (Hs.out.mono (bA (bR wr) _)) hsl
        rw [hf] at TK
        rw [hf] at HSt
        have HK := Lib.hid TK
        clear TK hf h0 hsl
        go_wp2_with fail
        refine HK.out.mono ?_
        rintro e w1 ⟨A3, c3, rfl, hb1, ho1⟩
        have B1 := Lib.hid (bT (bA Hb.out _) hb1)
        have Ho1 := Lib.hid ho1
        clear hb1 ho1 c0 c1 c2 hlb
        go_wp2_with fail
        go_roundw
        case rel => exact ⟨k + 1, by omega, by go_num, B1.out, by rw [HSt.out]; exact Own.sl Ho1.out⟩
        case measure => simp [intOf]; omega
    case neg =>
    have hall : l.take k = l := List.take_of_length_le (by omega)
    rw [hall] at Hs ⊢
    clear hall
    generalize sortCr (l.map flipCr) = L at *
    go_wp2_with fail
    go_ret
    exact ⟨As, cs, rfl, Hb.out, Hs.out⟩

set_option maxRecDepth 100000 in
set_option maxHeartbeats 4000000 in
theorem Opposite_spec (v : Value) (l : List Cr) (w : World) (h : Crs w v l) (hl : l.length ≤ 1000000) :
    Calls Tryz.prog 13 #[v] w (RetCrs1 w (oppS l)) := by
  obtain ⟨A, c, rfl, hn, hc, hR⟩ := h
  unfold maxLen at hc
  have HR := Lib.hid hR; clear hR
  unfold oppS
  go_enter Tryz.func13, Tryz.ntmps13
  go_wp2_with fail
  go_loopw [2, 7] (fun s u wr => ∃ k : Nat, k ≤ l.length ∧ u = .int .i64 k ∧ Below w.heap.size w wr ∧ Own wr w.heap.size 57 3 crC s ((l.take k).map flipCr)) (fun _ u _ => l.length - (intOf u).toNat)
  case atStart => exact ⟨0, Nat.zero_le _, rfl, bR w, Own.nil _ _ _ _ _⟩
  case round =>
    obtain ⟨k, hk, rfl, hb, hs⟩ := hrel
    have Hb := Lib.hid hb
    have Hs := Lib.hid hs
    have hszr := hb.size
    clear hb hs
    have hsl : ((l.take k).map flipCr).length ≤ k := by rw [List.length_map, List.length_take]; omega
    by_cases hlt : k < l.length
    case pos =>
      have hst := flip_take l k hlt
      have HSt := Lib.hid hst
      clear hst
      generalize (l.take k).map flipCr = L at *
      obtain ⟨b, o, rfl, hlb, c0, c1, c2⟩ := (HR.out.mono Hb.out).cr hlt
      by_cases h0 : l[k].out = 0
      · have h0' : (l[k].out == 0) = true := by simp [h0]
        have hf : flipCr l[k] = ⟨l[k].pos, l[k].arc, 1⟩ := by unfold flipCr; rw [if_pos h0]
        rw [hf] at HSt
        clear hf h0
        go_wp2_with
          (at_builtin
           refine wpList_appl _ rfl (.tmp 16) (.tmp 18) _ rfl (base := w.heap.size) elem_cr crC_len crC_one rfl ((Hs.out.alloc _).alloc _) rfl (l2 := [⟨l[k].pos, l[k].arc, 1⟩]) (Sl.lit (n := 1) (Blk.made (by simp) _ _) rfl (le_maxLen (by omega))) (by simp only [List.length_cons, List.length_nil]; omega) (by simp only [List.length_cons, List.length_nil]; omega) (by simp; omega) ?_
           intro v1 w1 ho1 hg1 hat1
           have HO1 := Lib.hid ho1
           have B1 := Lib.hid (bG (bA (bA Hb.out _) _) hg1 (fun g hg => (Hs.out.lt g hg).1))
           clear ho1 hg1 hat1)
        go_roundw
        case rel => exact ⟨k + 1, by omega, by go_num, B1.out, by rw [HSt.out]; exact HO1.out⟩
        case measure => simp [intOf]; omega
      · have h0' : (l[k].out == 0) = false := by simp [h0]
        have hf : flipCr l[k] = ⟨l[k].pos, l[k].arc, 0⟩ := by unfold flipCr; rw [if_neg h0]
        rw [hf] at HSt
        clear hf h0
        go_wp2_with
          (at_builtin
           refine wpList_appl _ rfl (.tmp 16) (.tmp 18) _ rfl (base := w.heap.size) elem_cr crC_len crC_one rfl ((Hs.out.alloc _).alloc _) rfl (l2 := [⟨l[k].pos, l[k].arc, 0⟩]) (Sl.lit (n := 1) (Blk.made (by simp) _ _) rfl (le_maxLen (by omega))) (by simp only [List.length_cons, List.length_nil]; omega) (by simp only [List.length_cons, List.length_nil]; omega) (by simp; omega) ?_
           intro v1 w1 ho1 hg1 hat1
           have HO1 := Lib.hid ho1
           have B1 := Lib.hid (bG (bA (bA Hb.out _) _) hg1 (fun g hg => (Hs.out.lt g hg).1))
           clear ho1 hg1 hat1)
        go_roundw
        case rel => exact ⟨k + 1, by omega, by go_num, B1.out, by rw [HSt.out]; exact HO1.out⟩
        case measure => simp [intOf]; omega
    case neg =>
    have hall : l.take k = l := List.take_of_length_le (by omega)
    rw [hall] at Hs hsl
    clear hall
    generalize l.map flipCr = L at *
    go_wp2_with fail
    refine (order_spec _ _ _ _ Hs.out (by omega)).mono ?_
    rintro e w3 ⟨rfl, ho3, hg3⟩
    have B3 := Lib.hid (bG Hb.out hg3 (fun g hk => (Hs.out.lt g hk).1))
    obtain ⟨A3, c3, rfl, -, -⟩ := Own.form ho3
    have Ho3 := Lib.hid ho3
    clear ho3 hg3
    go_wp2_with fail
    go_ret
    exact ⟨A3, c3, rfl, B3.out, Ho3.out⟩
end Go.Proofs.YtbjlnnfmcjbnhaaGreatDoor
namespace Go.Proofs.YtbjlnnfmcjbnhaaGreatDoor
open Go.RowKit

set_option maxHeartbeats 400000 in
theorem Same42_spec (v u : Value) (l m : List Cr) (w : World) (h : Crs w v l) (h' : Crs w u m) :
    Calls Tryz.prog 12 #[v, u] w fun e w' => e = .returned (.bool (decide (l = m))) ∧ Below w.heap.size w w' := by
  obtain ⟨A, c, rfl, hn, hc, hR⟩ := h
  obtain ⟨A', c', rfl, hn', hc', hR'⟩ := h'
  unfold maxLen at hc hc'
  by_cases hlen : l.length = m.length
  case neg =>
    have hf := Lib.hid (decide_eq_false (fun e : l = m => hlen (congrArg List.length e)))
    have hl1 : ((l.length : Int) != (m.length : Int)) = true := by rw [bne_iff_ne]; omega
    have hl2 : (l.length != m.length) = true := by rw [bne_iff_ne]; omega
    clear hlen
    go_enter Tryz.func12, Tryz.ntmps12
    go_wp2_with fail
    go_ret
    exact ⟨ret_bool hf.out.symm, bR w⟩
  case pos =>
  have hl1 : ((l.length : Int) != (m.length : Int)) = false := by simp [hlen]
  have hl2 : (l.length != m.length) = false := by simp [hlen]
  have Hlen := Lib.hid hlen; clear hlen
  go_enter Tryz.func12, Tryz.ntmps12
  go_wp2_with fail
  go_loopw [5] (fun i wr => ∃ k : Nat, k ≤ l.length ∧ i = .int .i64 k ∧ Below w.heap.size w wr ∧ ∀ j (hj : j < l.length) (hj' : j < m.length), j < k → l[j] = m[j]) (fun i _ => l.length - (intOf i).toNat)
  case atStart => exact ⟨0, Nat.zero_le _, rfl, bR w, fun j _ _ h => by omega⟩
  case round =>
    obtain ⟨k, hk, rfl, hb, hno⟩ := hrel
    have Hb := Lib.hid hb
    have Hno := Lib.hid hno
    clear hb hno hl1 hl2
    by_cases hlt : k < l.length
    · have hlt' : k < m.length := by have := Hlen.out; omega
      obtain ⟨b, o, rfl, hlb, c0, c1, c2⟩ := (hR.mono Hb.out).cr hlt
      obtain ⟨b', o', rfl, hlb', c0q, c1q, c2q⟩ := (hR'.mono Hb.out).cr hlt'
      have HR := Lib.hid hR; have HR' := Lib.hid hR'; clear hR hR'
      have q1 : 0 ≤ (k : Int) := by omega
      have q2 : (k : Int) < l.length := by omega
      have q3 : (k : Int) < m.length := by omega
      by_cases he : l[k] = m[k]
      · have hd : decide (l[k] = m[k]) = true := by simpa using he
        have He := Lib.hid he; clear he
        have hE := run_neq_cr l[k] m[k]
        go_upto_region 6 with fail
        refine rg_start (Since wr) (.take 0 1 (.take 1 3 (.take 2 7 (.take 3 15 (.take 4 31 (.take 5 63 (.take 6 127 (.take 7 255 (.take 8 511 (.done)))))))))) (by kernel_rfl) (bD (bR _)) (by kernel_rfl) (by kernel_rfl) (Nat.le_of_ble_eq_true (by kernel_rfl)) ?_
        intro opsR QR Hops HQrg hS
        apply rg_yp (i := 0) Hops rfl hS rfl
        · intro _ hq; clear hq; go_simp; try rfl
        try simp only [Act.put, pu1, pu2, pu3]
        apply rg_yp (i := 1) Hops rfl hS rfl
        · intro _ hq; clear hq; go_simp; try rfl
        try simp only [Act.put, pu1, pu2, pu3]
        apply rg_yp (i := 2) Hops rfl hS rfl
        · intro _ hq; clear hq; go_simp; try rfl
        try simp only [Act.put, pu1, pu2, pu3]
        apply rg_yp (i := 3) Hops rfl hS rfl
        · intro wq hq; obtain ⟨hqc, -⟩ := bcell (show Below wr.heap.size wr wq from hq); clear hq; go_simp; try rfl
        try simp only [Act.put, pu1, pu2, pu3]
        apply rg_yp (i := 4) Hops rfl hS rfl
        · intro _ hq; clear hq; go_simp; try rfl
        try simp only [Act.put, pu1, pu2, pu3]
        apply rg_yp (i := 5) Hops rfl hS rfl
        · intro _ hq; clear hq; go_simp; try rfl
        try simp only [Act.put, pu1, pu2, pu3]
        apply rg_yp (i := 6) Hops rfl hS rfl
        · intro _ hq; clear hq; go_simp; try rfl
        try simp only [Act.put, pu1, pu2, pu3]
        apply rg_yp (i := 7) Hops rfl hS rfl
        · intro wq hq; obtain ⟨hqc, -⟩ := bcell (show Below wr.heap.size wr wq from hq); clear hq; go_simp; try rfl
        try simp only [Act.put, pu1, pu2, pu3]
        apply rg_yp (i := 8) Hops rfl hS rfl
        · intro _ hq; clear hq; go_simp; try rfl
        try simp only [Act.put, pu1, pu2, pu3]
        refine rg_done ?_
        refine HQrg.down _ _ ?_
        have hB : Below wr.heap.size wr wr.drew := hS
        clear hS HQrg Hops
        have Bw : Below w.heap.size w wr.drew := bT Hb.out hB
        clear hB
        go_wp2_with fail
        go_roundw
        case rel => exact ⟨k + 1, by omega, by go_num, Bw, fun j hj hj' hjk => if e : j < k then Hno.out j hj hj' e else by
            have : j = k := by omega
            subst this; exact He.out⟩
        case measure => simp [intOf]; omega
      · have hd : decide (l[k] = m[k]) = false := by simpa using he
        have He := Lib.hid he; clear he
        have hE := run_neq_cr l[k] m[k]
        go_upto_region 6 with fail
        refine rg_start (Since wr) (.take 0 1 (.take 1 3 (.take 2 7 (.take 3 15 (.take 4 31 (.take 5 63 (.take 6 127 (.take 7 255 (.take 8 511 (.done)))))))))) (by kernel_rfl) (bD (bR _)) (by kernel_rfl) (by kernel_rfl) (Nat.le_of_ble_eq_true (by kernel_rfl)) ?_
        intro opsR QR Hops HQrg hS
        apply rg_yp (i := 0) Hops rfl hS rfl
        · intro _ hq; clear hq; go_simp; try rfl
        try simp only [Act.put, pu1, pu2, pu3]
        apply rg_yp (i := 1) Hops rfl hS rfl
        · intro _ hq; clear hq; go_simp; try rfl
        try simp only [Act.put, pu1, pu2, pu3]
        apply rg_yp (i := 2) Hops rfl hS rfl
        · intro _ hq; clear hq; go_simp; try rfl
        try simp only [Act.put, pu1, pu2, pu3]
        apply rg_yp (i := 3) Hops rfl hS rfl
        · intro wq hq; obtain ⟨hqc, -⟩ := bcell (show Below wr.heap.size wr wq from hq); clear hq; go_simp; try rfl
        try simp only [Act.put, pu1, pu2, pu3]
        apply rg_yp (i := 4) Hops rfl hS rfl
        · intro _ hq; clear hq; go_simp; try rfl
        try simp only [Act.put, pu1, pu2, pu3]
        apply rg_yp (i := 5) Hops rfl hS rfl
        · intro _ hq; clear hq; go_simp; try rfl
        try simp only [Act.put, pu1, pu2, pu3]
        apply rg_yp (i := 6) Hops rfl hS rfl
        · intro _ hq; clear hq; go_simp; try rfl
        try simp only [Act.put, pu1, pu2, pu3]
        apply rg_yp (i := 7) Hops rfl hS rfl
        · intro wq hq; obtain ⟨hqc, -⟩ := bcell (show Below wr.heap.size wr wq from hq); clear hq; go_simp; try rfl
        try simp only [Act.put, pu1, pu2, pu3]
        apply rg_yp (i := 8) Hops rfl hS rfl
        · intro _ hq; clear hq; go_simp; try rfl
        try simp only [Act.put, pu1, pu2, pu3]
        refine rg_done ?_
        refine HQrg.down _ _ ?_
        have hB : Below wr.heap.size wr wr.drew := hS
        clear hS HQrg Hops
        have Bw : Below w.heap.size w wr.drew := bT Hb.out hB
        clear hB
        go_wp2_with fail
        go_ret
        exact ⟨ret_bool (decide_eq_false (ne_of_at k hlt hlt' He.out)).symm, Bw⟩
    · have hf := Lib.hid (decide_eq_true (eq_of_all Hlen.out fun j hj => Hno.out j hj (by have := Hlen.out; omega) (by omega)))
      go_wp2_with fail
      go_ret
      exact ⟨ret_bool hf.out.symm, Hb.out⟩

set_option maxHeartbeats 400000 in
theorem Same04_spec (v u : Value) (l m : List Int) (w : World) (h : Ints w v l) (h' : Ints w u m) :
    Calls Tryz.prog 20 #[v, u] w fun e w' => e = .returned (.bool (decide (l = m))) ∧ Below w.heap.size w w' := by
  obtain ⟨A, c, rfl, hn, hc, hR⟩ := h
  obtain ⟨A', c', rfl, hn', hc', hR'⟩ := h'
  unfold maxLen at hc hc'
  by_cases hlen : l.length = m.length
  case neg =>
    have hf := Lib.hid (decide_eq_false (fun e : l = m => hlen (congrArg List.length e)))
    have hl1 : ((l.length : Int) != (m.length : Int)) = true := by rw [bne_iff_ne]; omega
    have hl2 : (l.length != m.length) = true := by rw [bne_iff_ne]; omega
    clear hlen
    go_enter Tryz.func20, Tryz.ntmps20
    go_wp2_with fail
    go_ret
    exact ⟨ret_bool hf.out.symm, bR w⟩
  case pos =>
  have hl1 : ((l.length : Int) != (m.length : Int)) = false := by simp [hlen]
  have hl2 : (l.length != m.length) = false := by simp [hlen]
  have Hlen := Lib.hid hlen; clear hlen
  go_enter Tryz.func20, Tryz.ntmps20
  go_wp2_with fail
  go_loopw [5] (fun i wr => ∃ k : Nat, k ≤ l.length ∧ i = .int .i64 k ∧ Below w.heap.size w wr ∧ ∀ j (hj : j < l.length) (hj' : j < m.length), j < k → l[j] = m[j]) (fun i _ => l.length - (intOf i).toNat)
  case atStart => exact ⟨0, Nat.zero_le _, rfl, bR w, fun j _ _ h => by omega⟩
  case round =>
    obtain ⟨k, hk, rfl, hb, hno⟩ := hrel
    have Hb := Lib.hid hb
    have Hno := Lib.hid hno
    clear hb hno hl1 hl2
    by_cases hlt : k < l.length
    · have hlt' : k < m.length := by have := Hlen.out; omega
      obtain ⟨b, o, rfl, hlb, c0⟩ := (hR.mono Hb.out).int hlt
      obtain ⟨b', o', rfl, hlb', c0q⟩ := (hR'.mono Hb.out).int hlt'
      have HR := Lib.hid hR; have HR' := Lib.hid hR'; clear hR hR'
      have q1 : 0 ≤ (k : Int) := by omega
      have q2 : (k : Int) < l.length := by omega
      have q3 : (k : Int) < m.length := by omega
      by_cases he : l[k] = m[k]
      · have hd : (l[k] != m[k]) = false := by simpa using he
        have He := Lib.hid he; clear he
        go_upto_region 6 with fail
        refine rg_start (Since wr) (.take 0 1 (.take 1 3 (.take 2 7 (.take 3 15 (.take 4 31 (.take 5 63 (.take 6 127 (.take 7 255 (.take 8 511 (.done)))))))))) (by kernel_rfl) (bD (bR _)) (by kernel_rfl) (by kernel_rfl) (Nat.le_of_ble_eq_true (by kernel_rfl)) ?_
        intro opsR QR Hops HQrg hS
        apply rg_yp (i := 0) Hops rfl hS rfl
        · intro _ hq; clear hq; go_simp; try rfl
        try simp only [Act.put, pu1, pu2, pu3]
        apply rg_yp (i := 1) Hops rfl hS rfl
        · intro _ hq; clear hq; go_simp; try rfl
        try simp only [Act.put, pu1, pu2, pu3]
        apply rg_yp (i := 2) Hops rfl hS rfl
        · intro _ hq; clear hq; go_simp; try rfl
        try simp only [Act.put, pu1, pu2, pu3]
        apply rg_yp (i := 3) Hops rfl hS rfl
        · intro wq hq; obtain ⟨hqc, -⟩ := bcell (show Below wr.heap.size wr wq from hq); clear hq; go_simp; try rfl
        try simp only [Act.put, pu1, pu2, pu3]
        apply rg_yp (i := 4) Hops rfl hS rfl
        · intro _ hq; clear hq; go_simp; try rfl
        try simp only [Act.put, pu1, pu2, pu3]
        apply rg_yp (i := 5) Hops rfl hS rfl
        · intro _ hq; clear hq; go_simp; try rfl
        try simp only [Act.put, pu1, pu2, pu3]
        apply rg_yp (i := 6) Hops rfl hS rfl
        · intro _ hq; clear hq; go_simp; try rfl
        try simp only [Act.put, pu1, pu2, pu3]
        apply rg_yp (i := 7) Hops rfl hS rfl
        · intro wq hq; obtain ⟨hqc, -⟩ := bcell (show Below wr.heap.size wr wq from hq); clear hq; go_simp; try rfl
        try simp only [Act.put, pu1, pu2, pu3]
        apply rg_yp (i := 8) Hops rfl hS rfl
        · intro _ hq; clear hq; go_simp; try rfl
        try simp only [Act.put, pu1, pu2, pu3]
        refine rg_done ?_
        refine HQrg.down _ _ ?_
        have hB : Below wr.heap.size wr wr.drew := hS
        clear hS HQrg Hops
        have Bw : Below w.heap.size w wr.drew := bT Hb.out hB
        clear hB
        go_wp2_with fail
        go_roundw
        case rel => exact ⟨k + 1, by omega, by go_num, Bw, fun j hj hj' hjk => if e : j < k then Hno.out j hj hj' e else by
            have : j = k := by omega
            subst this; exact He.out⟩
        case measure => simp [intOf]; omega
      · have hd : (l[k] != m[k]) = true := by simpa using he
        have He := Lib.hid he; clear he
        go_upto_region 6 with fail
        refine rg_start (Since wr) (.take 0 1 (.take 1 3 (.take 2 7 (.take 3 15 (.take 4 31 (.take 5 63 (.take 6 127 (.take 7 255 (.take 8 511 (.done)))))))))) (by kernel_rfl) (bD (bR _)) (by kernel_rfl) (by kernel_rfl) (Nat.le_of_ble_eq_true (by kernel_rfl)) ?_
        intro opsR QR Hops HQrg hS
        apply rg_yp (i := 0) Hops rfl hS rfl
        · intro _ hq; clear hq; go_simp; try rfl
        try simp only [Act.put, pu1, pu2, pu3]
        apply rg_yp (i := 1) Hops rfl hS rfl
        · intro _ hq; clear hq; go_simp; try rfl
        try simp only [Act.put, pu1, pu2, pu3]
        apply rg_yp (i := 2) Hops rfl hS rfl
        · intro _ hq; clear hq; go_simp; try rfl
        try simp only [Act.put, pu1, pu2, pu3]
        apply rg_yp (i := 3) Hops rfl hS rfl
        · intro wq hq; obtain ⟨hqc, -⟩ := bcell (show Below wr.heap.size wr wq from hq); clear hq; go_simp; try rfl
        try simp only [Act.put, pu1, pu2, pu3]
        apply rg_yp (i := 4) Hops rfl hS rfl
        · intro _ hq; clear hq; go_simp; try rfl
        try simp only [Act.put, pu1, pu2, pu3]
        apply rg_yp (i := 5) Hops rfl hS rfl
        · intro _ hq; clear hq; go_simp; try rfl
        try simp only [Act.put, pu1, pu2, pu3]
        apply rg_yp (i := 6) Hops rfl hS rfl
        · intro _ hq; clear hq; go_simp; try rfl
        try simp only [Act.put, pu1, pu2, pu3]
        apply rg_yp (i := 7) Hops rfl hS rfl
        · intro wq hq; obtain ⟨hqc, -⟩ := bcell (show Below wr.heap.size wr wq from hq); clear hq; go_simp; try rfl
        try simp only [Act.put, pu1, pu2, pu3]
        apply rg_yp (i := 8) Hops rfl hS rfl
        · intro _ hq; clear hq; go_simp; try rfl
        try simp only [Act.put, pu1, pu2, pu3]
        refine rg_done ?_
        refine HQrg.down _ _ ?_
        have hB : Below wr.heap.size wr wr.drew := hS
        clear hS HQrg Hops
        have Bw : Below w.heap.size w wr.drew := bT Hb.out hB
        clear hB
        go_wp2_with fail
        go_ret
        exact ⟨ret_bool (decide_eq_false (ne_of_at k hlt hlt' He.out)).symm, Bw⟩
    · have hf := Lib.hid (decide_eq_true (eq_of_all Hlen.out fun j hj => Hno.out j hj (by have := Hlen.out; omega) (by omega)))
      go_wp2_with fail
      go_ret
      exact ⟨ret_bool hf.out.symm, Hb.out⟩

set_option maxHeartbeats 400000 in
theorem Equal_cr_spec (v u : Value) (l m : List Cr) (w : World) (h : Crs w v l) (h' : Crs w u m) :
    Calls Tryz.prog 92 #[v, u] w fun e w' => e = .returned (.bool (decide (l = m))) ∧ Below w.heap.size w w' := by
  obtain ⟨A, c, rfl, hn, hc, hR⟩ := h
  obtain ⟨A', c', rfl, hn', hc', hR'⟩ := h'
  unfold maxLen at hc hc'
  by_cases hlen : l.length = m.length
  case neg =>
    have hf := Lib.hid (decide_eq_false (fun e : l = m => hlen (congrArg List.length e)))
    have hl1 : ((l.length : Int) != (m.length : Int)) = true := by rw [bne_iff_ne]; omega
    have hl2 : (l.length != m.length) = true := by rw [bne_iff_ne]; omega
    clear hlen
    go_enter Tryz.func92, Tryz.ntmps92
    go_wp2_with fail
    go_ret
    exact ⟨ret_bool hf.out.symm, bR w⟩
  case pos =>
  have hl1 : ((l.length : Int) != (m.length : Int)) = false := by simp [hlen]
  have hl2 : (l.length != m.length) = false := by simp [hlen]
  have Hlen := Lib.hid hlen; clear hlen
  go_enter Tryz.func92, Tryz.ntmps92
  go_wp2_with fail
  go_loopw [13] (fun i wr => ∃ k : Nat, k ≤ l.length ∧ i = .int .i64 k ∧ Below w.heap.size w wr ∧ ∀ j (hj : j < l.length) (hj' : j < m.length), j < k → l[j] = m[j]) (fun i _ => l.length - (intOf i).toNat)
  case atStart => exact ⟨0, Nat.zero_le _, rfl, bR w, fun j _ _ h => by omega⟩
  case round =>
    obtain ⟨k, hk, rfl, hb, hno⟩ := hrel
    have Hb := Lib.hid hb
    have Hno := Lib.hid hno
    clear hb hno hl1 hl2
    by_cases hlt : k < l.length
    · have hlt' : k < m.length := by have := Hlen.out; omega
      obtain ⟨b, o, rfl, hlb, c0, c1, c2⟩ := (hR.mono Hb.out).cr hlt
      obtain ⟨b', o', rfl, hlb', c0q, c1q, c2q⟩ := (hR'.mono Hb.out).cr hlt'
      have HR := Lib.hid hR; have HR' := Lib.hid hR'; clear hR hR'
      have q1 : 0 ≤ (k : Int) := by omega
      have q2 : (k : Int) < l.length := by omega
      have q3 : (k : Int) < m.length := by omega
      by_cases he : l[k] = m[k]
      · have hd : decide (l[k] = m[k]) = true := by simpa using he
        have He := Lib.hid he; clear he
        have hE := run_neq_cr l[k] m[k]
        go_upto_region 6 with fail
        refine rg_start (Since wr) (.take 0 1 (.take 1 3 (.take 2 7 (.take 3 15 (.take 4 31 (.take 5 63 (.take 6 127 (.take 7 255 (.take 8 511 (.done)))))))))) (by kernel_rfl) (bD (bR _)) (by kernel_rfl) (by kernel_rfl) (Nat.le_of_ble_eq_true (by kernel_rfl)) ?_
        intro opsR QR Hops HQrg hS
        apply rg_yp (i := 0) Hops rfl hS rfl
        · intro _ hq; clear hq; go_simp; try rfl
        try simp only [Act.put, pu1, pu2, pu3]
        apply rg_yp (i := 1) Hops rfl hS rfl
        · intro _ hq; clear hq; go_simp; try rfl
        try simp only [Act.put, pu1, pu2, pu3]
        apply rg_yp (i := 2) Hops rfl hS rfl
        · intro _ hq; clear hq; go_simp; try rfl
        try simp only [Act.put, pu1, pu2, pu3]
        apply rg_yp (i := 3) Hops rfl hS rfl
        · intro wq hq; obtain ⟨hqc, -⟩ := bcell (show Below wr.heap.size wr wq from hq); clear hq; go_simp; try rfl
        try simp only [Act.put, pu1, pu2, pu3]
        apply rg_yp (i := 4) Hops rfl hS rfl
        · intro _ hq; clear hq; go_simp; try rfl
        try simp only [Act.put, pu1, pu2, pu3]
        apply rg_yp (i := 5) Hops rfl hS rfl
        · intro _ hq; clear hq; go_simp; try rfl
        try simp only [Act.put, pu1, pu2, pu3]
        apply rg_yp (i := 6) Hops rfl hS rfl
        · intro _ hq; clear hq; go_simp; try rfl
        try simp only [Act.put, pu1, pu2, pu3]
        apply rg_yp (i := 7) Hops rfl hS rfl
        · intro wq hq; obtain ⟨hqc, -⟩ := bcell (show Below wr.heap.size wr wq from hq); clear hq; go_simp; try rfl
        try simp only [Act.put, pu1, pu2, pu3]
        apply rg_yp (i := 8) Hops rfl hS rfl
        · intro _ hq; clear hq; go_simp; try rfl
        try simp only [Act.put, pu1, pu2, pu3]
        refine rg_done ?_
        refine HQrg.down _ _ ?_
        have hB : Below wr.heap.size wr wr.drew := hS
        clear hS HQrg Hops
        have Bw : Below w.heap.size w wr.drew := bT Hb.out hB
        clear hB
        go_wp2_with fail
        go_roundw
        case rel => exact ⟨k + 1, by omega, by go_num, Bw, fun j hj hj' hjk => if e : j < k then Hno.out j hj hj' e else by
            have : j = k := by omega
            subst this; exact He.out⟩
        case measure => simp [intOf]; omega
      · have hd : decide (l[k] = m[k]) = false := by simpa using he
        have He := Lib.hid he; clear he
        have hE := run_neq_cr l[k] m[k]
        go_upto_region 6 with fail
        refine rg_start (Since wr) (.take 0 1 (.take 1 3 (.take 2 7 (.take 3 15 (.take 4 31 (.take 5 63 (.take 6 127 (.take 7 255 (.take 8 511 (.done)))))))))) (by kernel_rfl) (bD (bR _)) (by kernel_rfl) (by kernel_rfl) (Nat.le_of_ble_eq_true (by kernel_rfl)) ?_
        intro opsR QR Hops HQrg hS
        apply rg_yp (i := 0) Hops rfl hS rfl
        · intro _ hq; clear hq; go_simp; try rfl
        try simp only [Act.put, pu1, pu2, pu3]
        apply rg_yp (i := 1) Hops rfl hS rfl
        · intro _ hq; clear hq; go_simp; try rfl
        try simp only [Act.put, pu1, pu2, pu3]
        apply rg_yp (i := 2) Hops rfl hS rfl
        · intro _ hq; clear hq; go_simp; try rfl
        try simp only [Act.put, pu1, pu2, pu3]
        apply rg_yp (i := 3) Hops rfl hS rfl
        · intro wq hq; obtain ⟨hqc, -⟩ := bcell (show Below wr.heap.size wr wq from hq); clear hq; go_simp; try rfl
        try simp only [Act.put, pu1, pu2, pu3]
        apply rg_yp (i := 4) Hops rfl hS rfl
        · intro _ hq; clear hq; go_simp; try rfl
        try simp only [Act.put, pu1, pu2, pu3]
        apply rg_yp (i := 5) Hops rfl hS rfl
        · intro _ hq; clear hq; go_simp; try rfl
        try simp only [Act.put, pu1, pu2, pu3]
        apply rg_yp (i := 6) Hops rfl hS rfl
        · intro _ hq; clear hq; go_simp; try rfl
        try simp only [Act.put, pu1, pu2, pu3]
        apply rg_yp (i := 7) Hops rfl hS rfl
        · intro wq hq; obtain ⟨hqc, -⟩ := bcell (show Below wr.heap.size wr wq from hq); clear hq; go_simp; try rfl
        try simp only [Act.put, pu1, pu2, pu3]
        apply rg_yp (i := 8) Hops rfl hS rfl
        · intro _ hq; clear hq; go_simp; try rfl
        try simp only [Act.put, pu1, pu2, pu3]
        refine rg_done ?_
        refine HQrg.down _ _ ?_
        have hB : Below wr.heap.size wr wr.drew := hS
        clear hS HQrg Hops
        have Bw : Below w.heap.size w wr.drew := bT Hb.out hB
        clear hB
        go_wp2_with fail
        go_ret
        exact ⟨ret_bool (decide_eq_false (ne_of_at k hlt hlt' He.out)).symm, Bw⟩
    · have hf := Lib.hid (decide_eq_true (eq_of_all Hlen.out fun j hj => Hno.out j hj (by have := Hlen.out; omega) (by omega)))
      go_wp2_with fail
      go_ret
      exact ⟨ret_bool hf.out.symm, Hb.out⟩

end Go.Proofs.YtbjlnnfmcjbnhaaGreatDoor
namespace Go.Proofs.YtbjlnnfmcjbnhaaGreatDoor
open Go.RowKit

/-- Does a sheet agree with its neighbour on a side? -/
def prtAt (l : List Prt) (n : Int) : Prt := l.getD (n - 1).toNat ⟨0, [], []⟩
def agS (l : List Prt) (s : Se) (n side : Int) : Bool :=
  match nbS s n side with
  | none => true
  | some m => decide ((crossResS (prtAt l n) (boxOf s n) side).1 = oppS (crossResS (prtAt l m) (boxOf s m) (facS side)).1)
def agAll (l : List Prt) (s : Se) (n : Int) : Bool := agS l s n 1 && (agS l s n 2 && (agS l s n 3 && agS l s n 4))
def badOne (l : List Prt) (s : Se) (k : Nat) : List Int := if agAll l s ((k : Int) + 1) then [] else [(k : Int) + 1]
def badUp (l : List Prt) (s : Se) : Nat → List Int
  | 0 => []
  | k + 1 => badUp l s k ++ badOne l s k
def dupSide (l : List Prt) (s : Se) (n side : Int) : List Int := if agS l s n side then [] else [n]
/-- the reference's list: a number for each side that does not agree; behind k sheets -/
def dupUp (l : List Prt) (s : Se) : Nat → List Int
  | 0 => []
  | k + 1 => dupUp l s k ++ (dupSide l s ((k : Int) + 1) 1 ++ dupSide l s ((k : Int) + 1) 2 ++ dupSide l s ((k : Int) + 1) 3 ++ dupSide l s ((k : Int) + 1) 4)
def numbered : List Prt → Nat → Bool
  | [], _ => true
  | x :: l, k => decide (x.sheet = (k : Int) + 1) && numbered l (k + 1)
/-- Match: the list and the error. -/
def matchS (l : List Prt) (s : Se) : List Int × Int :=
  if seOk s = true then (if (l.length : Int) = s.cols * s.rows ∧ numbered l 0 = true then (badUp l s l.length, 0) else ([], 1)) else ([], 2)

def withS (l : List Int) (n : Int) : List Int := if l.any (fun y => decide (y = n)) then l else l.takeWhile (fun y => decide (y < n)) ++ n :: l.dropWhile (fun y => decide (y < n))
def normS (l : List Int) : List Int := l.foldl withS []

theorem numbered_at {l : List Prt} {k : Nat} (h : numbered l k = true) (j : Nat) (hj : j < l.length) : l[j].sheet = ((k + j : Nat) : Int) + 1 := by
  induction l generalizing k j with
  | nil => simp at hj
  | cons x l ih =>
    unfold numbered at h
    rw [Bool.and_eq_true, decide_eq_true_eq] at h
    cases j with
    | zero => simpa using h.1
    | succ j =>
      have := ih h.2 j (by simpa using hj)
      simp only [List.getElem_cons_succ]
      rw [this]
      omega
theorem numbered_all {l : List Prt} {k : Nat} (h : ∀ j (hj : j < l.length), l[j].sheet = ((k + j : Nat) : Int) + 1) : numbered l k = true := by
  induction l generalizing k with
  | nil => rfl
  | cons x l ih =>
    unfold numbered
    rw [Bool.and_eq_true, decide_eq_true_eq]
    refine ⟨h 0 (by simp), ih fun j hj => ?_⟩
    have := h (j + 1) (by simpa using hj)
    simp only [List.getElem_cons_succ] at this
    rw [this]
    omega
theorem numbered_not {l : List Prt} {j : Nat} (hj : j < l.length) (h : l[j].sheet ≠ (j : Int) + 1) : numbered l 0 = false := by
  rw [Bool.eq_false_iff]
  intro e
  have := numbered_at e j hj
  simp only [Nat.zero_add] at this
  exact h this

theorem while_at {α : Type} {l : List α} {q : α → Bool} {k : Nat} (h : ∀ j (hj : j < l.length), j < k → q l[j] = true) (he : k = l.length ∨ ∃ hk : k < l.length, q l[k] = false) : l.takeWhile q = l.take k ∧ l.dropWhile q = l.drop k := by
  induction l generalizing k with
  | nil => simp
  | cons a l ih =>
    cases k with
    | zero =>
      rcases he with h0 | ⟨hk, h0⟩
      · simp at h0
      · simp only [List.getElem_cons_zero] at h0
        rw [List.takeWhile_cons, List.dropWhile_cons]
        simp [h0]
    | succ k =>
      have h0 := h 0 (by simp) (by omega)
      simp only [List.getElem_cons_zero] at h0
      rw [List.takeWhile_cons, List.dropWhile_cons]
      simp only [h0, if_true]
      rw [List.take_succ_cons, List.drop_succ_cons]
      obtain ⟨e1, e2⟩ := ih (k := k) (fun j hj hjk => by have h1 := h (j + 1) (by simpa using hj) (by omega); simpa only [List.getElem_cons_succ] using h1) (by
        rcases he with h1 | ⟨hk, h1⟩
        · left; simpa using h1
        · right; exact ⟨by simpa using hk, by simpa only [List.getElem_cons_succ] using h1⟩)
      rw [e1, e2]
      exact ⟨rfl, rfl⟩
theorem withS_in {l : List Int} {n : Int} (h : n ∈ l) : withS l n = l := by
  unfold withS
  rw [if_pos]
  rw [List.any_eq_true]
  exact ⟨n, h, by simp⟩
theorem withS_new {l : List Int} {n : Int} (h : ∀ y ∈ l, y < n) : withS l n = l ++ [n] := by
  unfold withS
  rw [if_neg]
  · obtain ⟨h1, h2⟩ := while_at (l := l) (q := fun y => decide (y < n)) (k := l.length) (fun j hj _ => by simpa using h l[j] (List.getElem_mem hj)) (.inl rfl)
    rw [List.take_length] at h1
    rw [List.drop_length] at h2
    rw [h1, h2]
  · simp only [List.any_eq_true, decide_eq_true_eq]
    rintro ⟨y, hy, rfl⟩
    have := h y hy
    omega
theorem normS_append (l m : List Int) : normS (l ++ m) = m.foldl withS (normS l) := by
  unfold normS; rw [List.foldl_append]
theorem badUp_lt (l : List Prt) (s : Se) (k : Nat) : ∀ y ∈ badUp l s k, y < (k : Int) + 1 := by
  induction k with
  | zero => intro y hy; cases hy
  | succ k ih =>
    intro y hy
    rcases List.mem_append.1 hy with hy | hy
    · have := ih y hy; omega
    · unfold badOne at hy
      split at hy
      · cases hy
      · rw [List.mem_singleton] at hy; omega
theorem norm_dup (l : List Prt) (s : Se) (k : Nat) : normS (dupUp l s k) = badUp l s k := by
  induction k with
  | zero => rfl
  | succ k ih =>
    rw [dupUp, normS_append, ih, badUp]
    have hlt := badUp_lt l s k
    generalize badUp l s k = b at *
    have hn := withS_new hlt
    have hi : withS (b ++ [(k : Int) + 1]) ((k : Int) + 1) = b ++ [(k : Int) + 1] := withS_in (by simp)
    unfold badOne agAll dupSide
    cases agS l s ((k : Int) + 1) 1 <;> cases agS l s ((k : Int) + 1) 2 <;> cases agS l s ((k : Int) + 1) 3 <;> cases agS l s ((k : Int) + 1) 4 <;> simp [hn, hi]
theorem dupUp_len (l : List Prt) (s : Se) (k : Nat) : (dupUp l s k).length ≤ 4 * k := by
  have h1 : ∀ n side, (dupSide l s n side).length ≤ 1 := fun n side => by unfold dupSide; split <;> simp
  induction k with
  | zero => simp [dupUp]
  | succ k ih =>
    rw [dupUp]
    simp only [List.length_append]
    have a := h1 ((k : Int) + 1) 1
    have b := h1 ((k : Int) + 1) 2
    have c := h1 ((k : Int) + 1) 3
    have d := h1 ((k : Int) + 1) 4
    omega
theorem badUp_len (l : List Prt) (s : Se) (k : Nat) : (badUp l s k).length ≤ k := by
  induction k with
  | zero => simp [badUp]
  | succ k ih =>
    rw [badUp, List.length_append]
    have : (badOne l s k).length ≤ 1 := by unfold badOne; split <;> simp
    omega
end Go.Proofs.YtbjlnnfmcjbnhaaGreatDoor
