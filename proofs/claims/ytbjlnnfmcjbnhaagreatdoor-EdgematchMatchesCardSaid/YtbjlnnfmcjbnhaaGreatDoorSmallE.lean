/- mapsheetsref42.Small, mapsheetsref15.Small. (printed by gen/smalle.py) -/
import Derived.Test.YtbjlnnfmcjbnhaaGreatDoorJ01
import Derived.Test.YtbjlnnfmcjbnhaaGreatDoorGB
set_option linter.unusedSimpArgs false
set_option linter.unusedVariables false
namespace Go.Proofs.YtbjlnnfmcjbnhaaGreatDoor
open Go.RowKit

theorem total_step {α β : Type} (f : α → List β) (l : List α) (k : Nat) (hk : k < l.length) : ((l.take (k + 1)).flatMap f).length = ((l.take k).flatMap f).length + (f l[k]).length := by
  rw [List.take_succ_eq_append_getElem hk, List.flatMap_append, List.length_append]; simp
/-- A part with at most 60 pieces, 600 points and 100 nodes. -/
def smallS (x : Prt) : Bool := (decide (x.pieces.length ≤ 60) && decide (x.nodes.length ≤ 100)) && (x.pieces.all (fun y => decide (y.path.length ≤ 600)) && decide ((x.pieces.flatMap (·.path)).length ≤ 600))
/-- A plan with at most 40 nodes and arcs, 80 faces and 300 inner points. -/
def small15 (p : Pl) : Bool := (decide (p.nodes.length ≤ 40) && (decide (p.arcs.length ≤ 40) && decide (p.faces.length ≤ 80))) && (p.arcs.all (fun y => decide (y.via.length ≤ 300)) && decide ((p.arcs.flatMap (·.via)).length ≤ 300))

set_option maxRecDepth 100000 in
set_option maxHeartbeats 2000000 in
theorem Small42_spec (v : Value) (x : Prt) (w : World) (h : PrtV w v x) :
    Calls Tryz.prog 8 #[v] w fun e w' => e = .returned (.bool (smallS x)) ∧ Below w.heap.size w w' := by
  obtain ⟨_, _, al, rfl, hpa, ⟨⟨Aa, ca, rfl, ha1, ha2, hRa⟩, hV⟩, ⟨An, cn, rfl, hn1, hn2, -⟩⟩ := h
  unfold maxLen at hn2 ha2
  have hS : smallS x = ((decide (al.length ≤ 60) && decide (x.nodes.length ≤ 100)) && (al.all (fun y => decide (y.1.path.length ≤ 600)) && decide ((al.flatMap (fun a => a.1.path)).length ≤ 600))) := by
    rw [smallS, hpa, List.flatMap_map, List.length_map, List.all_map]; rfl
  rw [hS]
  clear hS hpa
  generalize x.nodes.length = nn at *
  generalize x.sheet = sh at *
  have HV := Lib.hid hV; clear hV
  have HRa := Lib.hid hRa; clear hRa
  by_cases hc1 : 60 < al.length
  case pos =>
    have h1' : (60 : Int) < (al.length : Int) := by omega
    have hf := Lib.hid (decide_eq_false (show ¬ al.length ≤ 60 by omega))
    clear hc1
    go_enter Tryz.func8, Tryz.ntmps8
    go_wp2_with fail
    go_ret
    exact ⟨ret_bool (by rw [hf.out]; rfl), bA (bR w) _⟩
  by_cases hc2 : 100 < nn
  case pos =>
    have h1' : ¬ (60 : Int) < (al.length : Int) := by omega
    have h2' : (100 : Int) < (nn : Int) := by omega
    have hf := Lib.hid (decide_eq_false (show ¬ nn ≤ 100 by omega))
    clear hc1 hc2
    go_enter Tryz.func8, Tryz.ntmps8
    go_wp2_with fail
    go_ret
    exact ⟨ret_bool (by rw [hf.out, Bool.and_false]; rfl), bA (bR w) _⟩
  have h1' : ¬ (60 : Int) < (al.length : Int) := by omega
  have h2' : ¬ (100 : Int) < (nn : Int) := by omega
  rw [decide_eq_true (show al.length ≤ 60 by omega), decide_eq_true (show nn ≤ 100 by omega), Bool.true_and, Bool.true_and]
  obtain ⟨q, hq⟩ : ∃ q, (al.all (fun y => decide (y.1.path.length ≤ 600)) && decide ((al.flatMap (fun a => a.1.path)).length ≤ 600)) = q := ⟨_, rfl⟩
  rw [hq]
  have Hq := Lib.hid hq; clear hq
  go_enter Tryz.func8, Tryz.ntmps8
  go_wp2_with fail
  obtain ⟨W0, hW0⟩ : ∃ W0 : World, W0 = w.alloc (.cells #[.int .i64 sh, .slice Aa al.length ca, .slice An nn cn] 25) := ⟨_, rfl⟩
  have HX0 := Lib.hid (show Blk W0 w.heap.size 25 #[.int .i64 sh, .slice Aa al.length ca, .slice An nn cn] by rw [hW0]; exact Blk.made rfl _ _)
  have HB0 := Lib.hid (show Below w.heap.size w W0 by rw [hW0]; exact bA (bR w) _)
  rw [← hW0]
  clear hW0
  go_loopw [3, 4] (fun s i wr => ∃ k : Nat, k ≤ al.length ∧ i = .int .i64 k ∧ s = .int .i64 (((al.take k).flatMap (fun a => a.1.path)).length : Nat) ∧ Below W0.heap.size W0 wr ∧ ((al.take k).flatMap (fun a => a.1.path)).length ≤ 600 * k ∧ ∀ j (hj : j < al.length), j < k → decide (al[j].1.path.length ≤ 600) = true) (fun _ i _ => al.length - (intOf i).toNat)
  case atStart => exact ⟨0, Nat.zero_le _, rfl, by simp, bR W0, by simp, fun _ _ h => by omega⟩
  case round =>
    obtain ⟨k, hk, rfl, rfl, hb, hM, hno⟩ := hrel
    have Hb := Lib.hid hb
    have Hno := Lib.hid hno
    have X1 := HX0.out.keep hb
    clear hb hno
    try clear X1l
    try clear X1a
    try clear X1b
    try clear X1c
    try clear X1fa
    try clear X1fb
    try clear X1fc
    obtain ⟨X1l, X1a, X1b, X1c, -, -, -⟩ := X1.facts3
    by_cases hlt : k < al.length
    case pos =>
      obtain ⟨b, o, rfl, hlb, c0, c1, c2, c3⟩ := (HRa.out.mono (bT HB0.out Hb.out)).pc hlt
      obtain ⟨Av, cv, hv, hvc, hvm, -⟩ := HV.out k hlt
      rw [hv] at c1
      clear hv
      unfold maxLen at hvm
      have ht := total_step (fun a : Pc × Value => a.1.path) al k hlt
      have Ht := Lib.hid ht
      clear ht
      generalize hT : ((al.take k).flatMap (fun a => a.1.path)).length = T at *
      have HT := Lib.hid hT
      clear hT
      by_cases h1 : 600 < al[k].1.path.length
      · have h1' : (600 : Int) < (al[k].1.path.length : Int) := by omega
        have hf : q = false := by
          rw [← Hq.out]
          have : (al.all fun a => decide (a.1.path.length ≤ 600)) = false := by
            rw [List.all_eq_false]
            exact ⟨al[k], List.getElem_mem hlt, by simp; omega⟩
          rw [this]; simp
        have HF := Lib.hid hf
        clear hf
        go_wp2_with fail
        go_ret
        exact ⟨ret_bool HF.out.symm, bT HB0.out Hb.out⟩
      · have h1' : ¬ (600 : Int) < (al[k].1.path.length : Int) := by omega
        have hd := Lib.hid (show decide (al[k].1.path.length ≤ 600) = true by simp; omega)
        have hq : IntKind.i64.wrap ((T : Int) + (al[k].1.path.length : Int)) = (T : Int) + (al[k].1.path.length : Int) := IntWalk.i64_in _ (by have h0 : k ≤ 100 := (by omega); omega)
        go_wp2_with fail
        go_roundw
        case rel => exact ⟨k + 1, by omega, by go_num, by rw [Ht.out]; go_num, Hb.out, by rw [Ht.out]; omega, all_succ (p := fun n : Pc × Value => decide (n.1.path.length ≤ 600) = true) Hno.out hlt hd.out⟩
        case measure => simp [intOf]; omega
    case neg =>
    have hall : al.take k = al := List.take_of_length_le (by omega)
    have hf : q = decide ((al.flatMap (fun a => a.1.path)).length ≤ 600) := by
      rw [← Hq.out]
      have : (al.all fun a => decide (a.1.path.length ≤ 600)) = true := by
        rw [List.all_eq_true]
        intro x hx
        obtain ⟨j, hj, rfl⟩ := List.mem_iff_getElem.1 hx
        exact Hno.out j hj (by omega)
      rw [this, Bool.true_and]
    have HF := Lib.hid hf
    rw [hall] at hM ⊢
    clear hall hf
    generalize (al.flatMap (fun a => a.1.path)).length = T at *
    go_wp2_with fail
    go_ret
    refine ⟨ret_bool ?_, bT HB0.out Hb.out⟩
    rw [HF.out]
    first | rfl | (rw [Bool.eq_iff_iff]; simp; done) | (rw [Bool.eq_iff_iff]; simp; omega)

set_option maxRecDepth 100000 in
set_option maxHeartbeats 2000000 in
theorem Small15_spec (v : Value) (p : Pl) (w : World) (h : PlV w v p) :
    Calls Tryz.prog 15 #[v] w fun e w' => e = .returned (.bool (small15 p)) ∧ Below w.heap.size w w' := by
  obtain ⟨_, _, _, al, rfl, hpa, ⟨An, cn, rfl, hn1, hn2, -⟩, ⟨⟨Aa, ca, rfl, ha1, ha2, hRa⟩, hV⟩, ⟨Af, cf, rfl, hf1, hf2, -⟩⟩ := h
  unfold maxLen at hn2 ha2 hf2
  have hS : small15 p = ((decide (p.nodes.length ≤ 40) && (decide (al.length ≤ 40) && decide (p.faces.length ≤ 80))) && (al.all (fun y => decide (y.1.via.length ≤ 300)) && decide ((al.flatMap (fun a => a.1.via)).length ≤ 300))) := by
    rw [small15, hpa, List.flatMap_map, List.length_map, List.all_map]; rfl
  rw [hS]
  clear hS hpa
  generalize p.nodes.length = nn at *
  generalize p.faces.length = nf at *
  have HV := Lib.hid hV; clear hV
  have HRa := Lib.hid hRa; clear hRa
  by_cases hc1 : 40 < nn
  case pos =>
    have h1' : (40 : Int) < (nn : Int) := by omega
    have hf := Lib.hid (decide_eq_false (show ¬ nn ≤ 40 by omega))
    clear hc1
    go_enter Tryz.func15, Tryz.ntmps15
    go_wp2_with fail
    go_ret
    exact ⟨ret_bool (by rw [hf.out]; rfl), bA (bR w) _⟩
  by_cases hc2 : 40 < al.length
  case pos =>
    have h1' : ¬ (40 : Int) < (nn : Int) := by omega
    have h2' : (40 : Int) < (al.length : Int) := by omega
    have hf := Lib.hid (decide_eq_false (show ¬ al.length ≤ 40 by omega))
    clear hc1 hc2
    go_enter Tryz.func15, Tryz.ntmps15
    go_wp2_with fail
    go_ret
    exact ⟨ret_bool (by rw [hf.out, Bool.false_and, Bool.and_false]; rfl), bA (bR w) _⟩
  by_cases hc3 : 80 < nf
  case pos =>
    have h1' : ¬ (40 : Int) < (nn : Int) := by omega
    have h2' : ¬ (40 : Int) < (al.length : Int) := by omega
    have h3' : (80 : Int) < (nf : Int) := by omega
    have hf := Lib.hid (decide_eq_false (show ¬ nf ≤ 80 by omega))
    clear hc1 hc2 hc3
    go_enter Tryz.func15, Tryz.ntmps15
    go_wp2_with fail
    go_ret
    exact ⟨ret_bool (by rw [hf.out, Bool.and_false, Bool.and_false]; rfl), bA (bR w) _⟩
  have h1' : ¬ (40 : Int) < (nn : Int) := by omega
  have h2' : ¬ (40 : Int) < (al.length : Int) := by omega
  have h3' : ¬ (80 : Int) < (nf : Int) := by omega
  rw [decide_eq_true (show al.length ≤ 40 by omega), decide_eq_true (show nn ≤ 40 by omega), decide_eq_true (show nf ≤ 80 by omega), Bool.true_and, Bool.true_and, Bool.true_and]
  obtain ⟨q, hq⟩ : ∃ q, (al.all (fun y => decide (y.1.via.length ≤ 300)) && decide ((al.flatMap (fun a => a.1.via)).length ≤ 300)) = q := ⟨_, rfl⟩
  rw [hq]
  have Hq := Lib.hid hq; clear hq
  go_enter Tryz.func15, Tryz.ntmps15
  go_wp2_with fail
  obtain ⟨W0, hW0⟩ : ∃ W0 : World, W0 = w.alloc (.cells #[.slice An nn cn, .slice Aa al.length ca, .slice Af nf cf] 40) := ⟨_, rfl⟩
  have HX0 := Lib.hid (show Blk W0 w.heap.size 40 #[.slice An nn cn, .slice Aa al.length ca, .slice Af nf cf] by rw [hW0]; exact Blk.made rfl _ _)
  have HB0 := Lib.hid (show Below w.heap.size w W0 by rw [hW0]; exact bA (bR w) _)
  rw [← hW0]
  clear hW0
  go_loopw [3, 4] (fun s i wr => ∃ k : Nat, k ≤ al.length ∧ i = .int .i64 k ∧ s = .int .i64 (((al.take k).flatMap (fun a => a.1.via)).length : Nat) ∧ Below W0.heap.size W0 wr ∧ ((al.take k).flatMap (fun a => a.1.via)).length ≤ 300 * k ∧ ∀ j (hj : j < al.length), j < k → decide (al[j].1.via.length ≤ 300) = true) (fun _ i _ => al.length - (intOf i).toNat)
  case atStart => exact ⟨0, Nat.zero_le _, rfl, by simp, bR W0, by simp, fun _ _ h => by omega⟩
  case round =>
    obtain ⟨k, hk, rfl, rfl, hb, hM, hno⟩ := hrel
    have Hb := Lib.hid hb
    have Hno := Lib.hid hno
    have X1 := HX0.out.keep hb
    clear hb hno
    try clear X1l
    try clear X1a
    try clear X1b
    try clear X1c
    try clear X1fa
    try clear X1fb
    try clear X1fc
    obtain ⟨X1l, X1a, X1b, X1c, -, -, -⟩ := X1.facts3
    by_cases hlt : k < al.length
    case pos =>
      obtain ⟨b, o, rfl, hlb, c0, c1, c2, c3, c4, c5⟩ := (HRa.out.mono (bT HB0.out Hb.out)).ar hlt
      obtain ⟨Av, cv, hv, hvc, hvm, -⟩ := HV.out k hlt
      rw [hv] at c3
      clear hv
      unfold maxLen at hvm
      have ht := total_step (fun a : Ar × Value => a.1.via) al k hlt
      have Ht := Lib.hid ht
      clear ht
      generalize hT : ((al.take k).flatMap (fun a => a.1.via)).length = T at *
      have HT := Lib.hid hT
      clear hT
      by_cases h1 : 300 < al[k].1.via.length
      · have h1' : (300 : Int) < (al[k].1.via.length : Int) := by omega
        have hf : q = false := by
          rw [← Hq.out]
          have : (al.all fun a => decide (a.1.via.length ≤ 300)) = false := by
            rw [List.all_eq_false]
            exact ⟨al[k], List.getElem_mem hlt, by simp; omega⟩
          rw [this]; simp
        have HF := Lib.hid hf
        clear hf
        go_wp2_with fail
        go_ret
        exact ⟨ret_bool HF.out.symm, bT HB0.out Hb.out⟩
      · have h1' : ¬ (300 : Int) < (al[k].1.via.length : Int) := by omega
        have hd := Lib.hid (show decide (al[k].1.via.length ≤ 300) = true by simp; omega)
        have hq : IntKind.i64.wrap ((T : Int) + (al[k].1.via.length : Int)) = (T : Int) + (al[k].1.via.length : Int) := IntWalk.i64_in _ (by have h0 : k ≤ 100 := (by omega); omega)
        go_wp2_with fail
        go_roundw
        case rel => exact ⟨k + 1, by omega, by go_num, by rw [Ht.out]; go_num, Hb.out, by rw [Ht.out]; omega, all_succ (p := fun n : Ar × Value => decide (n.1.via.length ≤ 300) = true) Hno.out hlt hd.out⟩
        case measure => simp [intOf]; omega
    case neg =>
    have hall : al.take k = al := List.take_of_length_le (by omega)
    have hf : q = decide ((al.flatMap (fun a => a.1.via)).length ≤ 300) := by
      rw [← Hq.out]
      have : (al.all fun a => decide (a.1.via.length ≤ 300)) = true := by
        rw [List.all_eq_true]
        intro x hx
        obtain ⟨j, hj, rfl⟩ := List.mem_iff_getElem.1 hx
        exact Hno.out j hj (by omega)
      rw [this, Bool.true_and]
    have HF := Lib.hid hf
    rw [hall] at hM ⊢
    clear hall hf
    generalize (al.flatMap (fun a => a.1.via)).length = T at *
    go_wp2_with fail
    go_ret
    refine ⟨ret_bool ?_, bT HB0.out Hb.out⟩
    rw [HF.out]
    first | rfl | (rw [Bool.eq_iff_iff]; simp; done) | (rw [Bool.eq_iff_iff]; simp; omega)

end Go.Proofs.YtbjlnnfmcjbnhaaGreatDoor
