/- Opposite (edgematch and mapsheetsref42); mapsheetsref42.Crossings, Small. Lists compared: mapsheetsref42.Same, mapsheetsref04.Same, slices.Equal at crossings. (printed by gen/equale.py) Plain words: sheets that do not agree with a neighbour. No walk here. -/
import Derived.Test.YtfdbidagdjnipaaGreatDoorJ15
import Derived.Test.YtfdbidagdjnipaaGreatDoorJ01
import Derived.Test.YtfdbidagdjnipaaGreatDoorJ03
import Derived.Test.YtfdbidagdjnipaaGreatDoorGB
import Derived.Test.YtfdbidagdjnipaaGreatDoorJ14
set_option linter.unusedSimpArgs false
set_option linter.unusedVariables false
namespace Go.Proofs.YtfdbidagdjnipaaGreatDoor
open Go.RowKit

theorem flip_take (l : List Cr) (k : Nat) (hk : k < l.length) : (l.take (k + 1)).map flipCr = (l.take k).map flipCr ++ [flipCr l[k]] := by
 rw [List.take_succ_eq_append_getElem hk, List.map_append]; rfl

set_option maxRecDepth 100000 in
set_option maxHeartbeats 4000000 in
theorem Opposite_spec (v : Value) (l : List Cr) (w : World) (h : Crs w v l) (hl : l.length ≤ 1000000) :
  Calls Tryz.prog 27 #[v] w (RetCrs1 w (oppS l)) := by
 obtain ⟨A, c, rfl, hn, hc, hR⟩ := h
 unfold maxLen at hc
 have HR := Lib.hid hR; clear hR
 unfold oppS
 go_enter Tryz.func27, Tryz.ntmps27
 go_wp2_with fail
 go_loopw [2, 7] (fun s u wr => ∃ k : Nat, k ≤ l.length ∧ u = .int .i64 k ∧ Below w.heap.size w wr ∧ Own wr w.heap.size 70 3 crC s ((l.take k).map flipCr)) (fun _ u _ => l.length - (intOf u).toNat)
 case atStart => exact ⟨0, Nat.zero_le _, rfl, bR w, Own.nil _ _ _ _ _⟩
 case round =>
  obtain ⟨k, hk, rfl, hb, hs⟩ := hrel
  have Hb := Lib.hid hb
  have Hs := Lib.hid hs
  have hszr := hb.size
  clear hb hs
  have hsl : ((l.take k).map flipCr).length ≤ k := by rw [List.length_map, List.length_take]; omega
  by_cases hlt : k < l.length
  case pos =>
   have hst := flip_take l k hlt
   have HSt := Lib.hid hst
   clear hst
   generalize (l.take k).map flipCr = L at *
   obtain ⟨b, o, rfl, hlb, c0, c1, c2⟩ := (HR.out.mono Hb.out).cr hlt
   by_cases h0 : l[k].out = 0
   ·
    have h0' : (l[k].out == 0) = true := by simp [h0]
    have hf : flipCr l[k] = ⟨l[k].pos, l[k].arc, 1⟩ := by unfold flipCr; rw [if_pos h0]
    rw [hf] at HSt
    clear hf h0
    go_wp2_with
     (at_builtin
      refine wpList_appl _ rfl (.tmp 16) (.tmp 18) _ rfl (base := w.heap.size) elem_cr crC_len crC_one rfl ((Hs.out.alloc _).alloc _) rfl (l2 := [⟨l[k].pos, l[k].arc, 1⟩]) (Sl.lit (n := 1) (Blk.made (by simp) _ _) rfl (le_maxLen (by omega))) (by simp only [List.length_cons, List.length_nil]; omega) (by simp only [List.length_cons, List.length_nil]; omega) (by simp; omega) ?_
      intro v1 w1 ho1 hg1 hat1
      have HO1 := Lib.hid ho1
      have B1 := Lib.hid (bG (bA (bA Hb.out _) _) hg1 (fun g hg => (Hs.out.lt g hg).1))
      clear ho1 hg1 hat1)
    go_roundw
    case rel => exact ⟨k + 1, by omega, by go_num, B1.out, by rw [HSt.out]; exact HO1.out⟩
    case measure => simp [intOf]; omega
   ·
    have h0' : (l[k].out == 0) = false := by simp [h0]
    have hf : flipCr l[k] = ⟨l[k].pos, l[k].arc, 0⟩ := by unfold flipCr; rw [if_neg h0]
    rw [hf] at HSt
    clear hf h0
    go_wp2_with
     (at_builtin
      refine wpList_appl _ rfl (.tmp 16) (.tmp 18) _ rfl (base := w.heap.size) elem_cr crC_len crC_one rfl ((Hs.out.alloc _).alloc _) rfl (l2 := [⟨l[k].pos, l[k].arc, 0⟩]) (Sl.lit (n := 1) (Blk.made (by simp) _ _) rfl (le_maxLen (by omega))) (by simp only [List.length_cons, List.length_nil]; omega) (by simp only [List.length_cons, List.length_nil]; omega) (by simp; omega) ?_
      intro v1 w1 ho1 hg1 hat1
      have HO1 := Lib.hid ho1
      have B1 := Lib.hid (bG (bA (bA Hb.out _) _) hg1 (fun g hg => (Hs.out.lt g hg).1))
      clear ho1 hg1 hat1)
    go_roundw
    case rel => exact ⟨k + 1, by omega, by go_num, B1.out, by rw [HSt.out]; exact HO1.out⟩
    case measure => simp [intOf]; omega
  case neg =>
  have hall : l.take k = l := List.take_of_length_le (by omega)
  rw [hall] at Hs hsl
  clear hall
  generalize l.map flipCr = L at *
  go_wp2_with fail
  refine (order_spec _ _ _ _ Hs.out (by omega)).mono ?_
  rintro e w3 ⟨rfl, ho3, hg3⟩
  have B3 := Lib.hid (bG Hb.out hg3 (fun g hk => (Hs.out.lt g hk).1))
  obtain ⟨A3, c3, rfl, -, -⟩ := Own.form ho3
  have Ho3 := Lib.hid ho3
  clear ho3 hg3
  go_wp2_with fail
  go_ret
  exact ⟨A3, c3, rfl, B3.out, Ho3.out⟩
end Go.Proofs.YtfdbidagdjnipaaGreatDoor
namespace Go.Proofs.YtfdbidagdjnipaaGreatDoor
open Go.RowKit

set_option maxHeartbeats 400000 in
theorem Same42_spec (v u : Value) (l m : List Cr) (w : World) (h : Crs w v l) (h' : Crs w u m) :
  Calls Tryz.prog 13 #[v, u] w fun e w' => e = .returned (.bool (decide (l = m))) ∧ Below w.heap.size w w' := by
 obtain ⟨A, c, rfl, hn, hc, hR⟩ := h
 obtain ⟨A', c', rfl, hn', hc', hR'⟩ := h'
 unfold maxLen at hc hc'
 by_cases hlen : l.length = m.length
 case neg =>
  have hf := Lib.hid (decide_eq_false (fun e : l = m => hlen (congrArg List.length e)))
  have hl1 : ((l.length : Int) != (m.length : Int)) = true := by rw [bne_iff_ne]; omega
  have hl2 : (l.length != m.length) = true := by rw [bne_iff_ne]; omega
  clear hlen
  go_enter Tryz.func13, Tryz.ntmps13
  go_wp2_with fail
  go_ret
  exact ⟨ret_bool hf.out.symm, bR w⟩
 case pos =>
 have hl1 : ((l.length : Int) != (m.length : Int)) = false := by simp [hlen]
 have hl2 : (l.length != m.length) = false := by simp [hlen]
 have Hlen := Lib.hid hlen; clear hlen
 go_enter Tryz.func13, Tryz.ntmps13
 go_wp2_with fail
 go_loopw [5] (fun i wr => ∃ k : Nat, k ≤ l.length ∧ i = .int .i64 k ∧ Below w.heap.size w wr ∧ ∀ j (hj : j < l.length) (hj' : j < m.length), j < k → l[j] = m[j]) (fun i _ => l.length - (intOf i).toNat)
 case atStart => exact ⟨0, Nat.zero_le _, rfl, bR w, fun j _ _ h => by omega⟩
 case round =>
  obtain ⟨k, hk, rfl, hb, hno⟩ := hrel
  have Hb := Lib.hid hb
  have Hno := Lib.hid hno
  clear hb hno hl1 hl2
  by_cases hlt : k < l.length
  ·
   have hlt' : k < m.length := by have := Hlen.out; omega
   obtain ⟨b, o, rfl, hlb, c0, c1, c2⟩ := (hR.mono Hb.out).cr hlt
   obtain ⟨b', o', rfl, hlb', c0q, c1q, c2q⟩ := (hR'.mono Hb.out).cr hlt'
   have HR := Lib.hid hR; have HR' := Lib.hid hR'; clear hR hR'
   have q1 : 0 ≤ (k : Int) := by omega
   have q2 : (k : Int) < l.length := by omega
   have q3 : (k : Int) < m.length := by omega
   by_cases he : l[k] = m[k]
   ·
    have hd : decide (l[k] = m[k]) = true := by simpa using he
    have He := Lib.hid he; clear he
    have hE := run_neq_cr l[k] m[k]
    go_upto_region 6 with fail
    refine rg_start (Since wr) (.run 9 0 0 (.done)) (by kernel_rfl) (bD (bR _)) (by kernel_rfl) (by kernel_rfl) (Nat.le_of_ble_eq_true (by kernel_rfl)) ?_
    intro opsR QR Hops HQrg hS
    iterate 9
     apply rg_p; exact Hops; exact rfl; exact hS; exact rfl
     · intro _ hqc; go_simp; try rfl
     try simp only [pu]
    refine rg_done ?_
    refine HQrg.down _ _ ?_
    have hB : Below wr.heap.size wr wr.drew := hS
    clear hS HQrg Hops
    have Bw : Below w.heap.size w wr.drew := bT Hb.out hB
    clear hB
    go_wp2_with fail
    go_roundw
    case rel => exact ⟨k + 1, by omega, by go_num, Bw, fun j hj hj' hjk => if e : j < k then Hno.out j hj hj' e else by
      have : j = k := by omega
      subst this; exact He.out⟩
    case measure => simp [intOf]; omega
   ·
    have hd : decide (l[k] = m[k]) = false := by simpa using he
    have He := Lib.hid he; clear he
    have hE := run_neq_cr l[k] m[k]
    go_upto_region 6 with fail
    refine rg_start (Since wr) (.run 9 0 0 (.done)) (by kernel_rfl) (bD (bR _)) (by kernel_rfl) (by kernel_rfl) (Nat.le_of_ble_eq_true (by kernel_rfl)) ?_
    intro opsR QR Hops HQrg hS
    iterate 9
     apply rg_p; exact Hops; exact rfl; exact hS; exact rfl
     · intro _ hqc; go_simp; try rfl
     try simp only [pu]
    refine rg_done ?_
    refine HQrg.down _ _ ?_
    have hB : Below wr.heap.size wr wr.drew := hS
    clear hS HQrg Hops
    have Bw : Below w.heap.size w wr.drew := bT Hb.out hB
    clear hB
    go_wp2_with fail
    go_ret
    exact ⟨ret_bool (decide_eq_false (ne_of_at k hlt hlt' He.out)).symm, Bw⟩
  ·
   have hf := Lib.hid (decide_eq_true (eq_of_all Hlen.out fun j hj => Hno.out j hj (by have := Hlen.out; omega) (by omega)))
   go_wp2_with fail
   go_ret
   exact ⟨ret_bool hf.out.symm, Hb.out⟩

set_option maxHeartbeats 400000 in
theorem Same04_spec (v u : Value) (l m : List Int) (w : World) (h : Ints w v l) (h' : Ints w u m) :
  Calls Tryz.prog 26 #[v, u] w fun e w' => e = .returned (.bool (decide (l = m))) ∧ Below w.heap.size w w' := by
 obtain ⟨A, c, rfl, hn, hc, hR⟩ := h
 obtain ⟨A', c', rfl, hn', hc', hR'⟩ := h'
 unfold maxLen at hc hc'
 by_cases hlen : l.length = m.length
 case neg =>
  have hf := Lib.hid (decide_eq_false (fun e : l = m => hlen (congrArg List.length e)))
  have hl1 : ((l.length : Int) != (m.length : Int)) = true := by rw [bne_iff_ne]; omega
  have hl2 : (l.length != m.length) = true := by rw [bne_iff_ne]; omega
  clear hlen
  go_enter Tryz.func26, Tryz.ntmps26
  go_wp2_with fail
  go_ret
  exact ⟨ret_bool hf.out.symm, bR w⟩
 case pos =>
 have hl1 : ((l.length : Int) != (m.length : Int)) = false := by simp [hlen]
 have hl2 : (l.length != m.length) = false := by simp [hlen]
 have Hlen := Lib.hid hlen; clear hlen
 go_enter Tryz.func26, Tryz.ntmps26
 go_wp2_with fail
 go_loopw [5] (fun i wr => ∃ k : Nat, k ≤ l.length ∧ i = .int .i64 k ∧ Below w.heap.size w wr ∧ ∀ j (hj : j < l.length) (hj' : j < m.length), j < k → l[j] = m[j]) (fun i _ => l.length - (intOf i).toNat)
 case atStart => exact ⟨0, Nat.zero_le _, rfl, bR w, fun j _ _ h => by omega⟩
 case round =>
  obtain ⟨k, hk, rfl, hb, hno⟩ := hrel
  have Hb := Lib.hid hb
  have Hno := Lib.hid hno
  clear hb hno hl1 hl2
  by_cases hlt : k < l.length
  ·
   have hlt' : k < m.length := by have := Hlen.out; omega
   obtain ⟨b, o, rfl, hlb, c0⟩ := (hR.mono Hb.out).int hlt
   obtain ⟨b', o', rfl, hlb', c0q⟩ := (hR'.mono Hb.out).int hlt'
   have HR := Lib.hid hR; have HR' := Lib.hid hR'; clear hR hR'
   have q1 : 0 ≤ (k : Int) := by omega
   have q2 : (k : Int) < l.length := by omega
   have q3 : (k : Int) < m.length := by omega
   by_cases he : l[k] = m[k]
   ·
    have hd : (l[k] != m[k]) = false := by simpa using he
    have He := Lib.hid he; clear he
    go_upto_region 6 with fail
    refine rg_start (Since wr) (.run 9 0 0 (.done)) (by kernel_rfl) (bD (bR _)) (by kernel_rfl) (by kernel_rfl) (Nat.le_of_ble_eq_true (by kernel_rfl)) ?_
    intro opsR QR Hops HQrg hS
    iterate 9
     apply rg_p; exact Hops; exact rfl; exact hS; exact rfl
     · intro _ hqc; go_simp; try rfl
     try simp only [pu]
    refine rg_done ?_
    refine HQrg.down _ _ ?_
    have hB : Below wr.heap.size wr wr.drew := hS
    clear hS HQrg Hops
    have Bw : Below w.heap.size w wr.drew := bT Hb.out hB
    clear hB
    go_wp2_with fail
    go_roundw
    case rel => exact ⟨k + 1, by omega, by go_num, Bw, fun j hj hj' hjk => if e : j < k then Hno.out j hj hj' e else by
      have : j = k := by omega
      subst this; exact He.out⟩
    case measure => simp [intOf]; omega
   ·
    have hd : (l[k] != m[k]) = true := by simpa using he
    have He := Lib.hid he; clear he
    go_upto_region 6 with fail
    refine rg_start (Since wr) (.run 9 0 0 (.done)) (by kernel_rfl) (bD (bR _)) (by kernel_rfl) (by kernel_rfl) (Nat.le_of_ble_eq_true (by kernel_rfl)) ?_
    intro opsR QR Hops HQrg hS
    iterate 9
     apply rg_p; exact Hops; exact rfl; exact hS; exact rfl
     · intro _ hqc; go_simp; try rfl
     try simp only [pu]
    refine rg_done ?_
    refine HQrg.down _ _ ?_
    have hB : Below wr.heap.size wr wr.drew := hS
    clear hS HQrg Hops
    have Bw : Below w.heap.size w wr.drew := bT Hb.out hB
    clear hB
    go_wp2_with fail
    go_ret
    exact ⟨ret_bool (decide_eq_false (ne_of_at k hlt hlt' He.out)).symm, Bw⟩
  ·
   have hf := Lib.hid (decide_eq_true (eq_of_all Hlen.out fun j hj => Hno.out j hj (by have := Hlen.out; omega) (by omega)))
   go_wp2_with fail
   go_ret
   exact ⟨ret_bool hf.out.symm, Hb.out⟩

set_option maxHeartbeats 400000 in
theorem Equal_cr_spec (v u : Value) (l m : List Cr) (w : World) (h : Crs w v l) (h' : Crs w u m) :
  Calls Tryz.prog 77 #[v, u] w fun e w' => e = .returned (.bool (decide (l = m))) ∧ Below w.heap.size w w' := by
 obtain ⟨A, c, rfl, hn, hc, hR⟩ := h
 obtain ⟨A', c', rfl, hn', hc', hR'⟩ := h'
 unfold maxLen at hc hc'
 by_cases hlen : l.length = m.length
 case neg =>
  have hf := Lib.hid (decide_eq_false (fun e : l = m => hlen (congrArg List.length e)))
  have hl1 : ((l.length : Int) != (m.length : Int)) = true := by rw [bne_iff_ne]; omega
  have hl2 : (l.length != m.length) = true := by rw [bne_iff_ne]; omega
  clear hlen
  go_enter Tryz.func77, Tryz.ntmps77
  go_wp2_with fail
  go_ret
  exact ⟨ret_bool hf.out.symm, bR w⟩
 case pos =>
 have hl1 : ((l.length : Int) != (m.length : Int)) = false := by simp [hlen]
 have hl2 : (l.length != m.length) = false := by simp [hlen]
 have Hlen := Lib.hid hlen; clear hlen
 go_enter Tryz.func77, Tryz.ntmps77
 go_wp2_with fail
 go_loopw [13] (fun i wr => ∃ k : Nat, k ≤ l.length ∧ i = .int .i64 k ∧ Below w.heap.size w wr ∧ ∀ j (hj : j < l.length) (hj' : j < m.length), j < k → l[j] = m[j]) (fun i _ => l.length - (intOf i).toNat)
 case atStart => exact ⟨0, Nat.zero_le _, rfl, bR w, fun j _ _ h => by omega⟩
 case round =>
  obtain ⟨k, hk, rfl, hb, hno⟩ := hrel
  have Hb := Lib.hid hb
  have Hno := Lib.hid hno
  clear hb hno hl1 hl2
  by_cases hlt : k < l.length
  ·
   have hlt' : k < m.length := by have := Hlen.out; omega
   obtain ⟨b, o, rfl, hlb, c0, c1, c2⟩ := (hR.mono Hb.out).cr hlt
   obtain ⟨b', o', rfl, hlb', c0q, c1q, c2q⟩ := (hR'.mono Hb.out).cr hlt'
   have HR := Lib.hid hR; have HR' := Lib.hid hR'; clear hR hR'
   have q1 : 0 ≤ (k : Int) := by omega
   have q2 : (k : Int) < l.length := by omega
   have q3 : (k : Int) < m.length := by omega
   by_cases he : l[k] = m[k]
   ·
    have hd : decide (l[k] = m[k]) = true := by simpa using he
    have He := Lib.hid he; clear he
    have hE := run_neq_cr l[k] m[k]
    go_upto_region 6 with fail
    refine rg_start (Since wr) (.run 9 0 0 (.done)) (by kernel_rfl) (bD (bR _)) (by kernel_rfl) (by kernel_rfl) (Nat.le_of_ble_eq_true (by kernel_rfl)) ?_
    intro opsR QR Hops HQrg hS
    iterate 9
     apply rg_p; exact Hops; exact rfl; exact hS; exact rfl
     · intro _ hqc; go_simp; try rfl
     try simp only [pu]
    refine rg_done ?_
    refine HQrg.down _ _ ?_
    have hB : Below wr.heap.size wr wr.drew := hS
    clear hS HQrg Hops
    have Bw : Below w.heap.size w wr.drew := bT Hb.out hB
    clear hB
    go_wp2_with fail
    go_roundw
    case rel => exact ⟨k + 1, by omega, by go_num, Bw, fun j hj hj' hjk => if e : j < k then Hno.out j hj hj' e else by
      have : j = k := by omega
      subst this; exact He.out⟩
    case measure => simp [intOf]; omega
   ·
    have hd : decide (l[k] = m[k]) = false := by simpa using he
    have He := Lib.hid he; clear he
    have hE := run_neq_cr l[k] m[k]
    go_upto_region 6 with fail
    refine rg_start (Since wr) (.run 9 0 0 (.done)) (by kernel_rfl) (bD (bR _)) (by kernel_rfl) (by kernel_rfl) (Nat.le_of_ble_eq_true (by kernel_rfl)) ?_
    intro opsR QR Hops HQrg hS
    iterate 9
     apply rg_p; exact Hops; exact rfl; exact hS; exact rfl
     · intro _ hqc; go_simp; try rfl
     try simp only [pu]
    refine rg_done ?_
    refine HQrg.down _ _ ?_
    have hB : Below wr.heap.size wr wr.drew := hS
    clear hS HQrg Hops
    have Bw : Below w.heap.size w wr.drew := bT Hb.out hB
    clear hB
    go_wp2_with fail
    go_ret
    exact ⟨ret_bool (decide_eq_false (ne_of_at k hlt hlt' He.out)).symm, Bw⟩
  ·
   have hf := Lib.hid (decide_eq_true (eq_of_all Hlen.out fun j hj => Hno.out j hj (by have := Hlen.out; omega) (by omega)))
   go_wp2_with fail
   go_ret
   exact ⟨ret_bool hf.out.symm, Hb.out⟩

end Go.Proofs.YtfdbidagdjnipaaGreatDoor
namespace Go.Proofs.YtfdbidagdjnipaaGreatDoor
open Go.RowKit

/-- Does a sheet agree with its neighbour on a side? -/
def prtAt (l : List Prt) (n : Int) : Prt := l.getD (n - 1).toNat ⟨0, [], []⟩
def agS (l : List Prt) (s : Se) (n side : Int) : Bool :=
 match nbS s n side with
 | none => true
 | some m => decide ((crossResS (prtAt l n) (boxOf s n) side).1 = oppS (crossResS (prtAt l m) (boxOf s m) (facS side)).1)
def agAll (l : List Prt) (s : Se) (n : Int) : Bool := agS l s n 1 && (agS l s n 2 && (agS l s n 3 && agS l s n 4))
def badOne (l : List Prt) (s : Se) (k : Nat) : List Int := if agAll l s ((k : Int) + 1) then [] else [(k : Int) + 1]
def badUp (l : List Prt) (s : Se) : Nat → List Int
 | 0 => []
 | k + 1 => badUp l s k ++ badOne l s k
def numbered : List Prt → Nat → Bool
 | [], _ => true
 | x :: l, k => decide (x.sheet = (k : Int) + 1) && numbered l (k + 1)
/-- Match: the list and the error. -/
def matchS (l : List Prt) (s : Se) : List Int × Int :=
 if seOk s = true then (if (l.length : Int) = s.cols * s.rows ∧ numbered l 0 = true then (badUp l s l.length, 0) else ([], 1)) else ([], 2)

theorem numbered_at {l : List Prt} {k : Nat} (h : numbered l k = true) (j : Nat) (hj : j < l.length) : l[j].sheet = ((k + j : Nat) : Int) + 1 := by
 induction l generalizing k j with
 | nil => simp at hj
 | cons x l ih =>
  unfold numbered at h
  rw [Bool.and_eq_true, decide_eq_true_eq] at h
  cases j with
  | zero => simpa using h.1
  | succ j =>
   have := ih h.2 j (by simpa using hj)
   simp only [List.getElem_cons_succ]
   rw [this]
   omega
theorem numbered_all {l : List Prt} {k : Nat} (h : ∀ j (hj : j < l.length), l[j].sheet = ((k + j : Nat) : Int) + 1) : numbered l k = true := by
 induction l generalizing k with
 | nil => rfl
 | cons x l ih =>
  unfold numbered
  rw [Bool.and_eq_true, decide_eq_true_eq]
  refine ⟨h 0 (by simp), ih fun j hj => ?_⟩
  have := h (j + 1) (by simpa using hj)
  simp only [List.getElem_cons_succ] at this
  rw [this]
  omega
theorem numbered_not {l : List Prt} {j : Nat} (hj : j < l.length) (h : l[j].sheet ≠ (j : Int) + 1) : numbered l 0 = false := by
 rw [Bool.eq_false_iff]
 intro e
 have := numbered_at e j hj
 simp only [Nat.zero_add] at this
 exact h this

theorem badUp_len (l : List Prt) (s : Se) (k : Nat) : (badUp l s k).length ≤ k := by
 induction k with
 | zero => simp [badUp]
 | succ k ih =>
  rw [badUp, List.length_append]
  have : (badOne l s k).length ≤ 1 := by unfold badOne; split <;> simp
  omega
end Go.Proofs.YtfdbidagdjnipaaGreatDoor
