/- Small tests of lists: ascending (both), SamePath, Few. -/
import Derived.Test.YtibchmofckhofaaPlanC
import Derived.Test.YtibchmofckhofaaGB
set_option linter.unusedSimpArgs false
set_option linter.unusedVariables false
namespace Go.Proofs.Ytibchmofckhofaa
open Go.RowKit

def asc (l : List Int) : Bool := (List.range (l.length - 1)).all fun j => decide (l.getD j 0 < l.getD (j + 1) 0)
theorem asc_yes (l : List Int) (h : ∀ j (hj : j + 1 < l.length), l[j] < l[j + 1]) : asc l = true := by
  unfold asc
  rw [List.all_eq_true]
  intro j hj
  have hj' : j + 1 < l.length := by have := List.mem_range.1 hj; omega
  have := h j hj'
  simp [List.getD, List.getElem?_eq_getElem hj', List.getElem?_eq_getElem (show j < l.length by omega), this]
theorem asc_no (l : List Int) (j : Nat) (hj : j + 1 < l.length) (h : ¬ l[j] < l[j + 1]) : asc l = false := by
  unfold asc
  rw [List.all_eq_false]
  refine ⟨j, List.mem_range.2 (by omega), ?_⟩
  simp [List.getD, List.getElem?_eq_getElem hj, List.getElem?_eq_getElem (show j < l.length by omega)]
  omega

set_option maxHeartbeats 400000 in
theorem ascending_spec (v : Value) (l : List Int) (w : World) (h : Ints w v l) :
    Calls Try.prog 35 #[v] w fun e w' => e = .returned (.bool (asc l)) ∧ Below w.heap.size w w' := by
  obtain ⟨A, c, rfl, hn, hc, hR⟩ := h
  unfold maxLen at hc
  go_enter Try.func35, Try.ntmps35
  go_wp2_with fail
  go_loopw [3] (fun i wr => ∃ m : Nat, i = .int .i64 ((m : Int) + 1) ∧ (m = 0 ∨ m + 1 ≤ l.length) ∧ Below w.heap.size w wr ∧ ∀ j (hj : j + 1 < l.length), j < m → l[j] < l[j + 1]) (fun i _ => l.length + 1 - (intOf i).toNat)
  case atStart => exact ⟨0, rfl, .inl rfl, bR w, fun j _ h => by omega⟩
  case round =>
    obtain ⟨m, rfl, hm, hb, hno⟩ := hrel
    have Hb := Lib.hid hb
    have Hno := Lib.hid hno
    clear hb hno
    by_cases hlt : m + 1 < l.length
    · obtain ⟨b, o, rfl, hlb, c1⟩ := (hR.mono Hb.out).int hlt
      obtain ⟨b', o', e, hlb', c0⟩ := (hR.mono Hb.out).int (show m < l.length by omega)
      simp only [Option.some.injEq, Addr.mk.injEq, and_true] at e
      obtain ⟨rfl, rfl⟩ := e
      have HR := Lib.hid hR; clear hR hm
      have q1 : IntKind.i64.wrap (m : Int) = m := IntWalk.i64_in _ (by omega)
      have q2 : 0 ≤ (m : Int) := by omega
      have q3 : (m : Int) < l.length := by omega
      have q4 : (m : Int) + 1 < l.length := by omega
      have q5 : 0 ≤ (m : Int) + 1 := by omega
      have q6 : ((m : Int) + 1).toNat = m + 1 := by omega
      go_upto_region 4 with fail
      refine rg_start (Since wr) (.take 0 1 (.take 1 3 (.take 2 7 (.take 3 15 (.take 4 31 (.take 5 63 (.take 6 127 (.take 7 255 (.take 8 511 (.take 9 1023 (.done))))))))))) (by kernel_rfl) (bD (bR _)) (by kernel_rfl) (by kernel_rfl) (Nat.le_of_ble_eq_true (by kernel_rfl)) ?_
      intro opsR QR Hops HQrg hS
      refine rg_take (i := 0) (get_of Hops rfl) hS ?_
      apply Exists.intro
      apply And.intro
      · refine .inl ⟨(wanted_plain rfl), fun wq hq => ?_⟩
        clear hq
        go_simp
        try rfl
      try simp only [Act.put, List.setIfInBounds_toArray, List.set_cons_zero, List.set_cons_succ]
      refine rg_take (i := 1) (get_of Hops rfl) hS ?_
      apply Exists.intro
      apply And.intro
      · refine .inl ⟨(wanted_plain rfl), fun wq hq => ?_⟩
        clear hq
        go_simp
        try rfl
      try simp only [Act.put, List.setIfInBounds_toArray, List.set_cons_zero, List.set_cons_succ]
      refine rg_take (i := 2) (get_of Hops rfl) hS ?_
      apply Exists.intro
      apply And.intro
      · refine .inl ⟨(wanted_plain rfl), fun wq hq => ?_⟩
        clear hq
        go_simp
        try rfl
      try simp only [Act.put, List.setIfInBounds_toArray, List.set_cons_zero, List.set_cons_succ]
      refine rg_take (i := 3) (get_of Hops rfl) hS ?_
      apply Exists.intro
      apply And.intro
      · refine .inl ⟨(wanted_plain rfl), fun wq hq => ?_⟩
        clear hq
        go_simp
        try rfl
      try simp only [Act.put, List.setIfInBounds_toArray, List.set_cons_zero, List.set_cons_succ]
      refine rg_take (i := 4) (get_of Hops rfl) hS ?_
      apply Exists.intro
      apply And.intro
      · refine .inl ⟨(wanted_plain rfl), fun wq hq => ?_⟩
        have hq' : Below wr.heap.size wr wq := hq
        obtain ⟨hqc, -⟩ := bcell hq'
        clear hq hq'
        go_simp
        try rfl
      try simp only [Act.put, List.setIfInBounds_toArray, List.set_cons_zero, List.set_cons_succ]
      refine rg_take (i := 5) (get_of Hops rfl) hS ?_
      apply Exists.intro
      apply And.intro
      · refine .inl ⟨(wanted_plain rfl), fun wq hq => ?_⟩
        clear hq
        go_simp
        try rfl
      try simp only [Act.put, List.setIfInBounds_toArray, List.set_cons_zero, List.set_cons_succ]
      refine rg_take (i := 6) (get_of Hops rfl) hS ?_
      apply Exists.intro
      apply And.intro
      · refine .inl ⟨(wanted_plain rfl), fun wq hq => ?_⟩
        clear hq
        go_simp
        try rfl
      try simp only [Act.put, List.setIfInBounds_toArray, List.set_cons_zero, List.set_cons_succ]
      refine rg_take (i := 7) (get_of Hops rfl) hS ?_
      apply Exists.intro
      apply And.intro
      · refine .inl ⟨(wanted_plain rfl), fun wq hq => ?_⟩
        clear hq
        go_simp
        try rfl
      try simp only [Act.put, List.setIfInBounds_toArray, List.set_cons_zero, List.set_cons_succ]
      refine rg_take (i := 8) (get_of Hops rfl) hS ?_
      apply Exists.intro
      apply And.intro
      · refine .inl ⟨(wanted_plain rfl), fun wq hq => ?_⟩
        have hq' : Below wr.heap.size wr wq := hq
        obtain ⟨hqc, -⟩ := bcell hq'
        clear hq hq'
        go_simp
        try rfl
      try simp only [Act.put, List.setIfInBounds_toArray, List.set_cons_zero, List.set_cons_succ]
      refine rg_take (i := 9) (get_of Hops rfl) hS ?_
      apply Exists.intro
      apply And.intro
      · refine .inl ⟨(wanted_plain rfl), fun wq hq => ?_⟩
        clear hq
        go_simp
        try rfl
      try simp only [Act.put, List.setIfInBounds_toArray, List.set_cons_zero, List.set_cons_succ]
      refine rg_done ?_
      refine HQrg.down _ _ ?_
      have hB : Below wr.heap.size wr wr.drew := hS
      clear hS HQrg Hops
      have Bw : Below w.heap.size w wr.drew := bT Hb.out hB
      clear hB
      by_cases hlt2 : l[m] < l[m + 1]
      · go_wp2_with fail
        go_roundw
        case rel => exact ⟨m + 1, by go_num, .inr (by omega), Bw, fun j hj hjm => if e : j < m then Hno.out j hj e else by
            have : j = m := by omega
            subst this; exact hlt2⟩
        case measure => simp [intOf]; omega
      · have hf := Lib.hid (asc_no l m hlt hlt2)
        go_wp2_with fail
        go_ret
        exact ⟨ret_bool hf.out.symm, Bw⟩
    · have hf := Lib.hid (asc_yes l fun j hj => Hno.out j hj (by omega))
      go_wp2_with fail
      go_ret
      exact ⟨ret_bool hf.out.symm, Hb.out⟩
end Go.Proofs.Ytibchmofckhofaa
