/- mapsheetsref41.Few. -/
import Derived.Test.YtfondidmklmonaaGreatJ02
import Derived.Test.YtfondidmklmonaaGreatGD
set_option linter.unusedSimpArgs false
set_option linter.unusedVariables false
namespace Go.Proofs.YtfondidmklmonaaGreat
open Go.RowKit

def fewX (x : Prt) (M : Nat) : Bool := decide (x.pieces.length ≤ M ∧ x.nodes.length ≤ M ∧ (x.pieces.flatMap (·.path)).length ≤ M)
set_option maxRecDepth 100000 in
set_option maxHeartbeats 2000000 in
theorem Few41_spec (v : Value) (x : Prt) (M : Nat) (w : World) (h : PrtV w v x) (hM : M ≤ 1000000) :
  Calls Tryz.prog 18 #[v, .int .i64 M] w fun e w' => e = .returned (.bool (fewX x M)) ∧ Below w.heap.size w w' := by
 obtain ⟨vp, vn, al, rfl, hpa, ⟨⟨Aa, ca, rfl, ha1, ha2, hRa⟩, hV⟩, ⟨An, cn, rfl, hn1, hn2, -⟩⟩ := h
 unfold maxLen at hn2 ha2
 have hS : fewX x M = decide (al.length ≤ M ∧ x.nodes.length ≤ M ∧ (al.flatMap (fun a => a.1.path)).length ≤ M) := by
  rw [fewX, hpa, List.flatMap_map, List.length_map]
 rw [hS]
 clear hS hpa
 generalize x.nodes.length = nn at *
 generalize x.sheet = sh at *
 have HV := Lib.hid hV; clear hV
 have HRa := Lib.hid hRa; clear hRa
 obtain ⟨q, hq⟩ : ∃ q, decide (al.length ≤ M ∧ nn ≤ M ∧ (al.flatMap (fun a => a.1.path)).length ≤ M) = q := ⟨_, rfl⟩
 rw [hq]
 have Hq := Lib.hid hq; clear hq
 by_cases hc : al.length ≤ M ∧ nn ≤ M
 case neg =>
  have hf := Lib.hid (decide_eq_false (fun e : al.length ≤ M ∧ nn ≤ M ∧ (al.flatMap (fun a => a.1.path)).length ≤ M => hc ⟨e.1, e.2.1⟩))
  have Hc := Lib.hid hc; clear hc
  by_cases h1 : M < al.length
  ·
   go_enter Tryz.func18, Tryz.ntmps18
   go_wp2_with fail
   go_ret
   exact ⟨ret_bool (hf.out.symm.trans Hq.out), bA (bR w) _⟩
  ·
   have h3 : M < nn := by
    rcases Nat.lt_or_ge M nn with h | h
    · exact h
    · exact absurd ⟨by omega, h⟩ Hc.out
   go_enter Tryz.func18, Tryz.ntmps18
   go_wp2_with fail
   go_ret
   exact ⟨ret_bool (hf.out.symm.trans Hq.out), bA (bR w) _⟩
 case pos =>
  obtain ⟨h1, h2⟩ := hc
  go_enter Tryz.func18, Tryz.ntmps18
  go_wp2_with fail
  obtain ⟨W0, hW0⟩ : ∃ W0 : World, W0 = w.alloc (.cells #[.int .i64 sh, .slice Aa al.length ca, .slice An nn cn] 35) := ⟨_, rfl⟩
  have X1 : Blk W0 w.heap.size 35 #[.int .i64 sh, .slice Aa al.length ca, .slice An nn cn] := by rw [hW0]; exact Blk.made rfl _ _
  have Bw0 : Below w.heap.size w W0 := by rw [hW0]; exact bA (bR w) _
  rw [← hW0]
  have HX0 := Lib.hid X1
  clear hW0 X1
  go_loopw [5, 6] (fun s i wr => ∃ (k : Nat) (n : Int), k ≤ al.length ∧ i = .int .i64 k ∧ s = .int .i64 n ∧ 0 ≤ n ∧ n ≤ 2 * M + 1 ∧ Below W0.heap.size W0 wr ∧ ((n ≤ M ∧ (((al.take k).flatMap (fun a => a.1.path)).length : Int) = n) ∨ ((M : Int) < n ∧ (M : Int) < ((al.take k).flatMap (fun a => a.1.path)).length))) (fun _ i _ => al.length - (intOf i).toNat)
  case atStart => exact ⟨0, 0, Nat.zero_le _, rfl, rfl, by omega, by omega, bR W0, .inl ⟨by omega, by simp⟩⟩
  case round =>
   obtain ⟨k, n, hk, rfl, rfl, hn0, hnm, hb, hinv⟩ := hrel
   have Hb := Lib.hid hb
   have Hinv := Lib.hid hinv
   have X1 : Blk wr w.heap.size 35 #[.int .i64 sh, .slice Aa al.length ca, .slice An nn cn] := HX0.out.keep hb
   clear hb hinv
   obtain ⟨X1l, X1a, X1b, X1c, -, -, -⟩ := X1.facts3
   by_cases hlt : k < al.length
   ·
    by_cases hnM : n ≤ M
    ·
     obtain ⟨b, o, rfl, hlb, c0, c1, c2, c3⟩ := (HRa.out.mono (bT Bw0 Hb.out)).pc hlt
     obtain ⟨Av, cv, hv, hvc, hvm, -⟩ := HV.out k hlt
     rw [hv] at c1
     clear hv
     unfold maxLen at hvm
     have ht : ((al.take (k + 1)).flatMap (fun a => a.1.path)).length = ((al.take k).flatMap (fun a => a.1.path)).length + al[k].1.path.length := by
      rw [List.take_succ_eq_append_getElem hlt, List.flatMap_append, List.length_append]; simp
     have Ht := Lib.hid ht; clear ht
     go_wp2_with fail
     all_goals
      go_roundw
      case rel =>
       have ht := Ht.out
       have hi := Hinv.out
       refine ⟨k + 1, _, by omega, by go_num, rfl, by omega, by omega, Hb.out, ?_⟩
       rw [ht]
       omega
      case measure => simp [intOf]; omega
    ·
     have hf := Lib.hid (decide_eq_false (fun e : al.length ≤ M ∧ nn ≤ M ∧ (al.flatMap (fun a => a.1.path)).length ≤ M => by
      have h4 := e.2.2
      have h5 := flat_take_le al (fun a => a.1.path) k
      have := Hinv.out
      omega))
     go_wp2_with fail
     go_ret
     exact ⟨ret_bool (hf.out.symm.trans Hq.out), bT Bw0 Hb.out⟩
   ·
    have hE : al.take k = al := List.take_of_length_le (by omega)
    have hi := Hinv.out
    rw [hE] at hi
    replace Hinv := Lib.hid hi
    clear hi hE
    by_cases hnM : n ≤ M
    ·
     have hf := Lib.hid (decide_eq_true (show al.length ≤ M ∧ nn ≤ M ∧ (al.flatMap (fun a => a.1.path)).length ≤ M from ⟨h1, h2, by have := Hinv.out; omega⟩))
     go_wp2_with fail
     go_ret
     exact ⟨ret_bool (hf.out.symm.trans Hq.out), bT Bw0 Hb.out⟩
    ·
     have hf := Lib.hid (decide_eq_false (fun e : al.length ≤ M ∧ nn ≤ M ∧ (al.flatMap (fun a => a.1.path)).length ≤ M => by
      have h4 := e.2.2
      have := Hinv.out
      omega))
     go_wp2_with fail
     go_ret
     exact ⟨ret_bool (hf.out.symm.trans Hq.out), bT Bw0 Hb.out⟩
end Go.Proofs.YtfondidmklmonaaGreat
