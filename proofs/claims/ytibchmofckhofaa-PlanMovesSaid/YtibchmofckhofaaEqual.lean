/- Lists compared: mapsheetsref14.SamePath, slices.Equal (points, nodes, ints). -/
import Derived.Test.YtibchmofckhofaaPlanD
set_option linter.unusedSimpArgs false
set_option linter.unusedVariables false
namespace Go.Proofs.Ytibchmofckhofaa
open Go.RowKit

theorem eq_of_all {α : Type} {a b : List α} (hl : a.length = b.length) (h : ∀ j (hj : j < a.length), a[j] = b[j]) : a = b :=
  List.ext_getElem hl fun j h1 _ => h j h1
theorem ne_of_at {α : Type} {a b : List α} (j : Nat) (hj : j < a.length) (hj' : j < b.length) (h : ¬ a[j] = b[j]) : ¬ a = b := by
  rintro rfl; exact h rfl

set_option maxHeartbeats 400000 in
theorem SamePath_spec (v u : Value) (l m : List Pt) (w : World) (h : Pts w v l) (h' : Pts w u m) :
    Calls Try.prog 18 #[v, u] w fun e w' => e = .returned (.bool (decide (l = m))) ∧ Below w.heap.size w w' := by
  obtain ⟨A, c, rfl, hn, hc, hR⟩ := h
  obtain ⟨A', c', rfl, hn', hc', hR'⟩ := h'
  unfold maxLen at hc hc'
  by_cases hlen : l.length = m.length
  case neg =>
    have hf := Lib.hid (decide_eq_false (fun e : l = m => hlen (congrArg List.length e)))
    have hl1 : ((l.length : Int) != (m.length : Int)) = true := by rw [bne_iff_ne]; omega
    have hl2 : (l.length != m.length) = true := by rw [bne_iff_ne]; omega
    clear hlen
    go_enter Try.func18, Try.ntmps18
    go_wp2_with fail
    go_ret
    exact ⟨ret_bool hf.out.symm, bR w⟩
  case pos =>
  have hl1 : ((l.length : Int) != (m.length : Int)) = false := by simp [hlen]
  have hl2 : (l.length != m.length) = false := by simp [hlen]
  have Hlen := Lib.hid hlen; clear hlen
  go_enter Try.func18, Try.ntmps18
  go_wp2_with fail
  go_loopw [5] (fun i wr => ∃ k : Nat, k ≤ l.length ∧ i = .int .i64 k ∧ Below w.heap.size w wr ∧ ∀ j (hj : j < l.length) (hj' : j < m.length), j < k → l[j] = m[j]) (fun i _ => l.length - (intOf i).toNat)
  case atStart => exact ⟨0, Nat.zero_le _, rfl, bR w, fun j _ _ h => by omega⟩
  case round =>
    obtain ⟨k, hk, rfl, hb, hno⟩ := hrel
    have Hb := Lib.hid hb
    have Hno := Lib.hid hno
    clear hb hno hl1 hl2
    by_cases hlt : k < l.length
    · have hlt' : k < m.length := by have := Hlen.out; omega
      obtain ⟨b, o, rfl, hlb, c0, c1⟩ := (hR.mono Hb.out).pt hlt
      obtain ⟨b', o', rfl, hlb', c0q, c1q⟩ := (hR'.mono Hb.out).pt hlt'
      have HR := Lib.hid hR; have HR' := Lib.hid hR'; clear hR hR'
      have q1 : 0 ≤ (k : Int) := by omega
      have q2 : (k : Int) < l.length := by omega
      have q3 : (k : Int) < m.length := by omega
      by_cases he : l[k] = m[k]
      · have hd : decide (l[k] = m[k]) = true := by simpa using he
        have He := Lib.hid he; clear he
        have hE := run_neq_pt l[k] m[k]
        go_upto_region 6 with fail
        refine rg_start (Since wr) (.take 0 1 (.take 1 3 (.take 2 7 (.take 3 15 (.take 4 31 (.take 5 63 (.take 6 127 (.take 7 255 (.take 8 511 (.done)))))))))) (by kernel_rfl) (bD (bR _)) (by kernel_rfl) (by kernel_rfl) (Nat.le_of_ble_eq_true (by kernel_rfl)) ?_
        intro opsR QR Hops HQrg hS
        refine rg_take (i := 0) (get_of Hops rfl) hS ?_
        apply Exists.intro
        apply And.intro
        · refine .inl ⟨(wanted_plain rfl), fun wq hq => ?_⟩
          clear hq
          go_simp
          try rfl
        try simp only [Act.put, List.setIfInBounds_toArray, List.set_cons_zero, List.set_cons_succ]
        refine rg_take (i := 1) (get_of Hops rfl) hS ?_
        apply Exists.intro
        apply And.intro
        · refine .inl ⟨(wanted_plain rfl), fun wq hq => ?_⟩
          clear hq
          go_simp
          try rfl
        try simp only [Act.put, List.setIfInBounds_toArray, List.set_cons_zero, List.set_cons_succ]
        refine rg_take (i := 2) (get_of Hops rfl) hS ?_
        apply Exists.intro
        apply And.intro
        · refine .inl ⟨(wanted_plain rfl), fun wq hq => ?_⟩
          clear hq
          go_simp
          try rfl
        try simp only [Act.put, List.setIfInBounds_toArray, List.set_cons_zero, List.set_cons_succ]
        refine rg_take (i := 3) (get_of Hops rfl) hS ?_
        apply Exists.intro
        apply And.intro
        · refine .inl ⟨(wanted_plain rfl), fun wq hq => ?_⟩
          have hq' : Below wr.heap.size wr wq := hq
          obtain ⟨hqc, -⟩ := bcell hq'
          clear hq hq'
          go_simp
          try rfl
        try simp only [Act.put, List.setIfInBounds_toArray, List.set_cons_zero, List.set_cons_succ]
        refine rg_take (i := 4) (get_of Hops rfl) hS ?_
        apply Exists.intro
        apply And.intro
        · refine .inl ⟨(wanted_plain rfl), fun wq hq => ?_⟩
          clear hq
          go_simp
          try rfl
        try simp only [Act.put, List.setIfInBounds_toArray, List.set_cons_zero, List.set_cons_succ]
        refine rg_take (i := 5) (get_of Hops rfl) hS ?_
        apply Exists.intro
        apply And.intro
        · refine .inl ⟨(wanted_plain rfl), fun wq hq => ?_⟩
          clear hq
          go_simp
          try rfl
        try simp only [Act.put, List.setIfInBounds_toArray, List.set_cons_zero, List.set_cons_succ]
        refine rg_take (i := 6) (get_of Hops rfl) hS ?_
        apply Exists.intro
        apply And.intro
        · refine .inl ⟨(wanted_plain rfl), fun wq hq => ?_⟩
          clear hq
          go_simp
          try rfl
        try simp only [Act.put, List.setIfInBounds_toArray, List.set_cons_zero, List.set_cons_succ]
        refine rg_take (i := 7) (get_of Hops rfl) hS ?_
        apply Exists.intro
        apply And.intro
        · refine .inl ⟨(wanted_plain rfl), fun wq hq => ?_⟩
          have hq' : Below wr.heap.size wr wq := hq
          obtain ⟨hqc, -⟩ := bcell hq'
          clear hq hq'
          go_simp
          try rfl
        try simp only [Act.put, List.setIfInBounds_toArray, List.set_cons_zero, List.set_cons_succ]
        refine rg_take (i := 8) (get_of Hops rfl) hS ?_
        apply Exists.intro
        apply And.intro
        · refine .inl ⟨(wanted_plain rfl), fun wq hq => ?_⟩
          clear hq
          go_simp
          try rfl
        try simp only [Act.put, List.setIfInBounds_toArray, List.set_cons_zero, List.set_cons_succ]
        refine rg_done ?_
        refine HQrg.down _ _ ?_
        have hB : Below wr.heap.size wr wr.drew := hS
        clear hS HQrg Hops
        have Bw : Below w.heap.size w wr.drew := bT Hb.out hB
        clear hB
        go_wp2_with fail
        go_roundw
        case rel => exact ⟨k + 1, by omega, by go_num, Bw, fun j hj hj' hjk => if e : j < k then Hno.out j hj hj' e else by
            have : j = k := by omega
            subst this; exact He.out⟩
        case measure => simp [intOf]; omega
      · have hd : decide (l[k] = m[k]) = false := by simpa using he
        have He := Lib.hid he; clear he
        have hE := run_neq_pt l[k] m[k]
        go_upto_region 6 with fail
        refine rg_start (Since wr) (.take 0 1 (.take 1 3 (.take 2 7 (.take 3 15 (.take 4 31 (.take 5 63 (.take 6 127 (.take 7 255 (.take 8 511 (.done)))))))))) (by kernel_rfl) (bD (bR _)) (by kernel_rfl) (by kernel_rfl) (Nat.le_of_ble_eq_true (by kernel_rfl)) ?_
        intro opsR QR Hops HQrg hS
        refine rg_take (i := 0) (get_of Hops rfl) hS ?_
        apply Exists.intro
        apply And.intro
        · refine .inl ⟨(wanted_plain rfl), fun wq hq => ?_⟩
          clear hq
          go_simp
          try rfl
        try simp only [Act.put, List.setIfInBounds_toArray, List.set_cons_zero, List.set_cons_succ]
        refine rg_take (i := 1) (get_of Hops rfl) hS ?_
        apply Exists.intro
        apply And.intro
        · refine .inl ⟨(wanted_plain rfl), fun wq hq => ?_⟩
          clear hq
          go_simp
          try rfl
        try simp only [Act.put, List.setIfInBounds_toArray, List.set_cons_zero, List.set_cons_succ]
        refine rg_take (i := 2) (get_of Hops rfl) hS ?_
        apply Exists.intro
        apply And.intro
        · refine .inl ⟨(wanted_plain rfl), fun wq hq => ?_⟩
          clear hq
          go_simp
          try rfl
        try simp only [Act.put, List.setIfInBounds_toArray, List.set_cons_zero, List.set_cons_succ]
        refine rg_take (i := 3) (get_of Hops rfl) hS ?_
        apply Exists.intro
        apply And.intro
        · refine .inl ⟨(wanted_plain rfl), fun wq hq => ?_⟩
          have hq' : Below wr.heap.size wr wq := hq
          obtain ⟨hqc, -⟩ := bcell hq'
          clear hq hq'
          go_simp
          try rfl
        try simp only [Act.put, List.setIfInBounds_toArray, List.set_cons_zero, List.set_cons_succ]
        refine rg_take (i := 4) (get_of Hops rfl) hS ?_
        apply Exists.intro
        apply And.intro
        · refine .inl ⟨(wanted_plain rfl), fun wq hq => ?_⟩
          clear hq
          go_simp
          try rfl
        try simp only [Act.put, List.setIfInBounds_toArray, List.set_cons_zero, List.set_cons_succ]
        refine rg_take (i := 5) (get_of Hops rfl) hS ?_
        apply Exists.intro
        apply And.intro
        · refine .inl ⟨(wanted_plain rfl), fun wq hq => ?_⟩
          clear hq
          go_simp
          try rfl
        try simp only [Act.put, List.setIfInBounds_toArray, List.set_cons_zero, List.set_cons_succ]
        refine rg_take (i := 6) (get_of Hops rfl) hS ?_
        apply Exists.intro
        apply And.intro
        · refine .inl ⟨(wanted_plain rfl), fun wq hq => ?_⟩
          clear hq
          go_simp
          try rfl
        try simp only [Act.put, List.setIfInBounds_toArray, List.set_cons_zero, List.set_cons_succ]
        refine rg_take (i := 7) (get_of Hops rfl) hS ?_
        apply Exists.intro
        apply And.intro
        · refine .inl ⟨(wanted_plain rfl), fun wq hq => ?_⟩
          have hq' : Below wr.heap.size wr wq := hq
          obtain ⟨hqc, -⟩ := bcell hq'
          clear hq hq'
          go_simp
          try rfl
        try simp only [Act.put, List.setIfInBounds_toArray, List.set_cons_zero, List.set_cons_succ]
        refine rg_take (i := 8) (get_of Hops rfl) hS ?_
        apply Exists.intro
        apply And.intro
        · refine .inl ⟨(wanted_plain rfl), fun wq hq => ?_⟩
          clear hq
          go_simp
          try rfl
        try simp only [Act.put, List.setIfInBounds_toArray, List.set_cons_zero, List.set_cons_succ]
        refine rg_done ?_
        refine HQrg.down _ _ ?_
        have hB : Below wr.heap.size wr wr.drew := hS
        clear hS HQrg Hops
        have Bw : Below w.heap.size w wr.drew := bT Hb.out hB
        clear hB
        go_wp2_with fail
        go_ret
        exact ⟨ret_bool (decide_eq_false (ne_of_at k hlt hlt' He.out)).symm, Bw⟩
    · have hf := Lib.hid (decide_eq_true (eq_of_all Hlen.out fun j hj => Hno.out j hj (by have := Hlen.out; omega) (by omega)))
      go_wp2_with fail
      go_ret
      exact ⟨ret_bool hf.out.symm, Hb.out⟩

set_option maxHeartbeats 400000 in
theorem Equal_pt_spec (v u : Value) (l m : List Pt) (w : World) (h : Pts w v l) (h' : Pts w u m) :
    Calls Try.prog 50 #[v, u] w fun e w' => e = .returned (.bool (decide (l = m))) ∧ Below w.heap.size w w' := by
  obtain ⟨A, c, rfl, hn, hc, hR⟩ := h
  obtain ⟨A', c', rfl, hn', hc', hR'⟩ := h'
  unfold maxLen at hc hc'
  by_cases hlen : l.length = m.length
  case neg =>
    have hf := Lib.hid (decide_eq_false (fun e : l = m => hlen (congrArg List.length e)))
    have hl1 : ((l.length : Int) != (m.length : Int)) = true := by rw [bne_iff_ne]; omega
    have hl2 : (l.length != m.length) = true := by rw [bne_iff_ne]; omega
    clear hlen
    go_enter Try.func50, Try.ntmps50
    go_wp2_with fail
    go_ret
    exact ⟨ret_bool hf.out.symm, bR w⟩
  case pos =>
  have hl1 : ((l.length : Int) != (m.length : Int)) = false := by simp [hlen]
  have hl2 : (l.length != m.length) = false := by simp [hlen]
  have Hlen := Lib.hid hlen; clear hlen
  go_enter Try.func50, Try.ntmps50
  go_wp2_with fail
  go_loopw [13] (fun i wr => ∃ k : Nat, k ≤ l.length ∧ i = .int .i64 k ∧ Below w.heap.size w wr ∧ ∀ j (hj : j < l.length) (hj' : j < m.length), j < k → l[j] = m[j]) (fun i _ => l.length - (intOf i).toNat)
  case atStart => exact ⟨0, Nat.zero_le _, rfl, bR w, fun j _ _ h => by omega⟩
  case round =>
    obtain ⟨k, hk, rfl, hb, hno⟩ := hrel
    have Hb := Lib.hid hb
    have Hno := Lib.hid hno
    clear hb hno hl1 hl2
    by_cases hlt : k < l.length
    · have hlt' : k < m.length := by have := Hlen.out; omega
      obtain ⟨b, o, rfl, hlb, c0, c1⟩ := (hR.mono Hb.out).pt hlt
      obtain ⟨b', o', rfl, hlb', c0q, c1q⟩ := (hR'.mono Hb.out).pt hlt'
      have HR := Lib.hid hR; have HR' := Lib.hid hR'; clear hR hR'
      have q1 : 0 ≤ (k : Int) := by omega
      have q2 : (k : Int) < l.length := by omega
      have q3 : (k : Int) < m.length := by omega
      by_cases he : l[k] = m[k]
      · have hd : decide (l[k] = m[k]) = true := by simpa using he
        have He := Lib.hid he; clear he
        have hE := run_neq_pt l[k] m[k]
        go_upto_region 6 with fail
        refine rg_start (Since wr) (.take 0 1 (.take 1 3 (.take 2 7 (.take 3 15 (.take 4 31 (.take 5 63 (.take 6 127 (.take 7 255 (.take 8 511 (.done)))))))))) (by kernel_rfl) (bD (bR _)) (by kernel_rfl) (by kernel_rfl) (Nat.le_of_ble_eq_true (by kernel_rfl)) ?_
        intro opsR QR Hops HQrg hS
        refine rg_take (i := 0) (get_of Hops rfl) hS ?_
        apply Exists.intro
        apply And.intro
        · refine .inl ⟨(wanted_plain rfl), fun wq hq => ?_⟩
          clear hq
          go_simp
          try rfl
        try simp only [Act.put, List.setIfInBounds_toArray, List.set_cons_zero, List.set_cons_succ]
        refine rg_take (i := 1) (get_of Hops rfl) hS ?_
        apply Exists.intro
        apply And.intro
        · refine .inl ⟨(wanted_plain rfl), fun wq hq => ?_⟩
          clear hq
          go_simp
          try rfl
        try simp only [Act.put, List.setIfInBounds_toArray, List.set_cons_zero, List.set_cons_succ]
        refine rg_take (i := 2) (get_of Hops rfl) hS ?_
        apply Exists.intro
        apply And.intro
        · refine .inl ⟨(wanted_plain rfl), fun wq hq => ?_⟩
          clear hq
          go_simp
          try rfl
        try simp only [Act.put, List.setIfInBounds_toArray, List.set_cons_zero, List.set_cons_succ]
        refine rg_take (i := 3) (get_of Hops rfl) hS ?_
        apply Exists.intro
        apply And.intro
        · refine .inl ⟨(wanted_plain rfl), fun wq hq => ?_⟩
          have hq' : Below wr.heap.size wr wq := hq
          obtain ⟨hqc, -⟩ := bcell hq'
          clear hq hq'
          go_simp
          try rfl
        try simp only [Act.put, List.setIfInBounds_toArray, List.set_cons_zero, List.set_cons_succ]
        refine rg_take (i := 4) (get_of Hops rfl) hS ?_
        apply Exists.intro
        apply And.intro
        · refine .inl ⟨(wanted_plain rfl), fun wq hq => ?_⟩
          clear hq
          go_simp
          try rfl
        try simp only [Act.put, List.setIfInBounds_toArray, List.set_cons_zero, List.set_cons_succ]
        refine rg_take (i := 5) (get_of Hops rfl) hS ?_
        apply Exists.intro
        apply And.intro
        · refine .inl ⟨(wanted_plain rfl), fun wq hq => ?_⟩
          clear hq
          go_simp
          try rfl
        try simp only [Act.put, List.setIfInBounds_toArray, List.set_cons_zero, List.set_cons_succ]
        refine rg_take (i := 6) (get_of Hops rfl) hS ?_
        apply Exists.intro
        apply And.intro
        · refine .inl ⟨(wanted_plain rfl), fun wq hq => ?_⟩
          clear hq
          go_simp
          try rfl
        try simp only [Act.put, List.setIfInBounds_toArray, List.set_cons_zero, List.set_cons_succ]
        refine rg_take (i := 7) (get_of Hops rfl) hS ?_
        apply Exists.intro
        apply And.intro
        · refine .inl ⟨(wanted_plain rfl), fun wq hq => ?_⟩
          have hq' : Below wr.heap.size wr wq := hq
          obtain ⟨hqc, -⟩ := bcell hq'
          clear hq hq'
          go_simp
          try rfl
        try simp only [Act.put, List.setIfInBounds_toArray, List.set_cons_zero, List.set_cons_succ]
        refine rg_take (i := 8) (get_of Hops rfl) hS ?_
        apply Exists.intro
        apply And.intro
        · refine .inl ⟨(wanted_plain rfl), fun wq hq => ?_⟩
          clear hq
          go_simp
          try rfl
        try simp only [Act.put, List.setIfInBounds_toArray, List.set_cons_zero, List.set_cons_succ]
        refine rg_done ?_
        refine HQrg.down _ _ ?_
        have hB : Below wr.heap.size wr wr.drew := hS
        clear hS HQrg Hops
        have Bw : Below w.heap.size w wr.drew := bT Hb.out hB
        clear hB
        go_wp2_with fail
        go_roundw
        case rel => exact ⟨k + 1, by omega, by go_num, Bw, fun j hj hj' hjk => if e : j < k then Hno.out j hj hj' e else by
            have : j = k := by omega
            subst this; exact He.out⟩
        case measure => simp [intOf]; omega
      · have hd : decide (l[k] = m[k]) = false := by simpa using he
        have He := Lib.hid he; clear he
        have hE := run_neq_pt l[k] m[k]
        go_upto_region 6 with fail
        refine rg_start (Since wr) (.take 0 1 (.take 1 3 (.take 2 7 (.take 3 15 (.take 4 31 (.take 5 63 (.take 6 127 (.take 7 255 (.take 8 511 (.done)))))))))) (by kernel_rfl) (bD (bR _)) (by kernel_rfl) (by kernel_rfl) (Nat.le_of_ble_eq_true (by kernel_rfl)) ?_
        intro opsR QR Hops HQrg hS
        refine rg_take (i := 0) (get_of Hops rfl) hS ?_
        apply Exists.intro
        apply And.intro
        · refine .inl ⟨(wanted_plain rfl), fun wq hq => ?_⟩
          clear hq
          go_simp
          try rfl
        try simp only [Act.put, List.setIfInBounds_toArray, List.set_cons_zero, List.set_cons_succ]
        refine rg_take (i := 1) (get_of Hops rfl) hS ?_
        apply Exists.intro
        apply And.intro
        · refine .inl ⟨(wanted_plain rfl), fun wq hq => ?_⟩
          clear hq
          go_simp
          try rfl
        try simp only [Act.put, List.setIfInBounds_toArray, List.set_cons_zero, List.set_cons_succ]
        refine rg_take (i := 2) (get_of Hops rfl) hS ?_
        apply Exists.intro
        apply And.intro
        · refine .inl ⟨(wanted_plain rfl), fun wq hq => ?_⟩
          clear hq
          go_simp
          try rfl
        try simp only [Act.put, List.setIfInBounds_toArray, List.set_cons_zero, List.set_cons_succ]
        refine rg_take (i := 3) (get_of Hops rfl) hS ?_
        apply Exists.intro
        apply And.intro
        · refine .inl ⟨(wanted_plain rfl), fun wq hq => ?_⟩
          have hq' : Below wr.heap.size wr wq := hq
          obtain ⟨hqc, -⟩ := bcell hq'
          clear hq hq'
          go_simp
          try rfl
        try simp only [Act.put, List.setIfInBounds_toArray, List.set_cons_zero, List.set_cons_succ]
        refine rg_take (i := 4) (get_of Hops rfl) hS ?_
        apply Exists.intro
        apply And.intro
        · refine .inl ⟨(wanted_plain rfl), fun wq hq => ?_⟩
          clear hq
          go_simp
          try rfl
        try simp only [Act.put, List.setIfInBounds_toArray, List.set_cons_zero, List.set_cons_succ]
        refine rg_take (i := 5) (get_of Hops rfl) hS ?_
        apply Exists.intro
        apply And.intro
        · refine .inl ⟨(wanted_plain rfl), fun wq hq => ?_⟩
          clear hq
          go_simp
          try rfl
        try simp only [Act.put, List.setIfInBounds_toArray, List.set_cons_zero, List.set_cons_succ]
        refine rg_take (i := 6) (get_of Hops rfl) hS ?_
        apply Exists.intro
        apply And.intro
        · refine .inl ⟨(wanted_plain rfl), fun wq hq => ?_⟩
          clear hq
          go_simp
          try rfl
        try simp only [Act.put, List.setIfInBounds_toArray, List.set_cons_zero, List.set_cons_succ]
        refine rg_take (i := 7) (get_of Hops rfl) hS ?_
        apply Exists.intro
        apply And.intro
        · refine .inl ⟨(wanted_plain rfl), fun wq hq => ?_⟩
          have hq' : Below wr.heap.size wr wq := hq
          obtain ⟨hqc, -⟩ := bcell hq'
          clear hq hq'
          go_simp
          try rfl
        try simp only [Act.put, List.setIfInBounds_toArray, List.set_cons_zero, List.set_cons_succ]
        refine rg_take (i := 8) (get_of Hops rfl) hS ?_
        apply Exists.intro
        apply And.intro
        · refine .inl ⟨(wanted_plain rfl), fun wq hq => ?_⟩
          clear hq
          go_simp
          try rfl
        try simp only [Act.put, List.setIfInBounds_toArray, List.set_cons_zero, List.set_cons_succ]
        refine rg_done ?_
        refine HQrg.down _ _ ?_
        have hB : Below wr.heap.size wr wr.drew := hS
        clear hS HQrg Hops
        have Bw : Below w.heap.size w wr.drew := bT Hb.out hB
        clear hB
        go_wp2_with fail
        go_ret
        exact ⟨ret_bool (decide_eq_false (ne_of_at k hlt hlt' He.out)).symm, Bw⟩
    · have hf := Lib.hid (decide_eq_true (eq_of_all Hlen.out fun j hj => Hno.out j hj (by have := Hlen.out; omega) (by omega)))
      go_wp2_with fail
      go_ret
      exact ⟨ret_bool hf.out.symm, Hb.out⟩

set_option maxHeartbeats 400000 in
theorem Equal_nd_spec (v u : Value) (l m : List Nd) (w : World) (h : Nds w v l) (h' : Nds w u m) :
    Calls Try.prog 51 #[v, u] w fun e w' => e = .returned (.bool (decide (l = m))) ∧ Below w.heap.size w w' := by
  obtain ⟨A, c, rfl, hn, hc, hR⟩ := h
  obtain ⟨A', c', rfl, hn', hc', hR'⟩ := h'
  unfold maxLen at hc hc'
  by_cases hlen : l.length = m.length
  case neg =>
    have hf := Lib.hid (decide_eq_false (fun e : l = m => hlen (congrArg List.length e)))
    have hl1 : ((l.length : Int) != (m.length : Int)) = true := by rw [bne_iff_ne]; omega
    have hl2 : (l.length != m.length) = true := by rw [bne_iff_ne]; omega
    clear hlen
    go_enter Try.func51, Try.ntmps51
    go_wp2_with fail
    go_ret
    exact ⟨ret_bool hf.out.symm, bR w⟩
  case pos =>
  have hl1 : ((l.length : Int) != (m.length : Int)) = false := by simp [hlen]
  have hl2 : (l.length != m.length) = false := by simp [hlen]
  have Hlen := Lib.hid hlen; clear hlen
  go_enter Try.func51, Try.ntmps51
  go_wp2_with fail
  go_loopw [13] (fun i wr => ∃ k : Nat, k ≤ l.length ∧ i = .int .i64 k ∧ Below w.heap.size w wr ∧ ∀ j (hj : j < l.length) (hj' : j < m.length), j < k → l[j] = m[j]) (fun i _ => l.length - (intOf i).toNat)
  case atStart => exact ⟨0, Nat.zero_le _, rfl, bR w, fun j _ _ h => by omega⟩
  case round =>
    obtain ⟨k, hk, rfl, hb, hno⟩ := hrel
    have Hb := Lib.hid hb
    have Hno := Lib.hid hno
    clear hb hno hl1 hl2
    by_cases hlt : k < l.length
    · have hlt' : k < m.length := by have := Hlen.out; omega
      obtain ⟨b, o, rfl, hlb, c0, c1, c2⟩ := (hR.mono Hb.out).nd hlt
      obtain ⟨b', o', rfl, hlb', c0q, c1q, c2q⟩ := (hR'.mono Hb.out).nd hlt'
      have HR := Lib.hid hR; have HR' := Lib.hid hR'; clear hR hR'
      have q1 : 0 ≤ (k : Int) := by omega
      have q2 : (k : Int) < l.length := by omega
      have q3 : (k : Int) < m.length := by omega
      by_cases he : l[k] = m[k]
      · have hd : decide (l[k] = m[k]) = true := by simpa using he
        have He := Lib.hid he; clear he
        have hE := run_neq_nd l[k] m[k]
        go_upto_region 6 with fail
        refine rg_start (Since wr) (.take 0 1 (.take 1 3 (.take 2 7 (.take 3 15 (.take 4 31 (.take 5 63 (.take 6 127 (.take 7 255 (.take 8 511 (.done)))))))))) (by kernel_rfl) (bD (bR _)) (by kernel_rfl) (by kernel_rfl) (Nat.le_of_ble_eq_true (by kernel_rfl)) ?_
        intro opsR QR Hops HQrg hS
        refine rg_take (i := 0) (get_of Hops rfl) hS ?_
        apply Exists.intro
        apply And.intro
        · refine .inl ⟨(wanted_plain rfl), fun wq hq => ?_⟩
          clear hq
          go_simp
          try rfl
        try simp only [Act.put, List.setIfInBounds_toArray, List.set_cons_zero, List.set_cons_succ]
        refine rg_take (i := 1) (get_of Hops rfl) hS ?_
        apply Exists.intro
        apply And.intro
        · refine .inl ⟨(wanted_plain rfl), fun wq hq => ?_⟩
          clear hq
          go_simp
          try rfl
        try simp only [Act.put, List.setIfInBounds_toArray, List.set_cons_zero, List.set_cons_succ]
        refine rg_take (i := 2) (get_of Hops rfl) hS ?_
        apply Exists.intro
        apply And.intro
        · refine .inl ⟨(wanted_plain rfl), fun wq hq => ?_⟩
          clear hq
          go_simp
          try rfl
        try simp only [Act.put, List.setIfInBounds_toArray, List.set_cons_zero, List.set_cons_succ]
        refine rg_take (i := 3) (get_of Hops rfl) hS ?_
        apply Exists.intro
        apply And.intro
        · refine .inl ⟨(wanted_plain rfl), fun wq hq => ?_⟩
          have hq' : Below wr.heap.size wr wq := hq
          obtain ⟨hqc, -⟩ := bcell hq'
          clear hq hq'
          go_simp
          try rfl
        try simp only [Act.put, List.setIfInBounds_toArray, List.set_cons_zero, List.set_cons_succ]
        refine rg_take (i := 4) (get_of Hops rfl) hS ?_
        apply Exists.intro
        apply And.intro
        · refine .inl ⟨(wanted_plain rfl), fun wq hq => ?_⟩
          clear hq
          go_simp
          try rfl
        try simp only [Act.put, List.setIfInBounds_toArray, List.set_cons_zero, List.set_cons_succ]
        refine rg_take (i := 5) (get_of Hops rfl) hS ?_
        apply Exists.intro
        apply And.intro
        · refine .inl ⟨(wanted_plain rfl), fun wq hq => ?_⟩
          clear hq
          go_simp
          try rfl
        try simp only [Act.put, List.setIfInBounds_toArray, List.set_cons_zero, List.set_cons_succ]
        refine rg_take (i := 6) (get_of Hops rfl) hS ?_
        apply Exists.intro
        apply And.intro
        · refine .inl ⟨(wanted_plain rfl), fun wq hq => ?_⟩
          clear hq
          go_simp
          try rfl
        try simp only [Act.put, List.setIfInBounds_toArray, List.set_cons_zero, List.set_cons_succ]
        refine rg_take (i := 7) (get_of Hops rfl) hS ?_
        apply Exists.intro
        apply And.intro
        · refine .inl ⟨(wanted_plain rfl), fun wq hq => ?_⟩
          have hq' : Below wr.heap.size wr wq := hq
          obtain ⟨hqc, -⟩ := bcell hq'
          clear hq hq'
          go_simp
          try rfl
        try simp only [Act.put, List.setIfInBounds_toArray, List.set_cons_zero, List.set_cons_succ]
        refine rg_take (i := 8) (get_of Hops rfl) hS ?_
        apply Exists.intro
        apply And.intro
        · refine .inl ⟨(wanted_plain rfl), fun wq hq => ?_⟩
          clear hq
          go_simp
          try rfl
        try simp only [Act.put, List.setIfInBounds_toArray, List.set_cons_zero, List.set_cons_succ]
        refine rg_done ?_
        refine HQrg.down _ _ ?_
        have hB : Below wr.heap.size wr wr.drew := hS
        clear hS HQrg Hops
        have Bw : Below w.heap.size w wr.drew := bT Hb.out hB
        clear hB
        go_wp2_with fail
        go_roundw
        case rel => exact ⟨k + 1, by omega, by go_num, Bw, fun j hj hj' hjk => if e : j < k then Hno.out j hj hj' e else by
            have : j = k := by omega
            subst this; exact He.out⟩
        case measure => simp [intOf]; omega
      · have hd : decide (l[k] = m[k]) = false := by simpa using he
        have He := Lib.hid he; clear he
        have hE := run_neq_nd l[k] m[k]
        go_upto_region 6 with fail
        refine rg_start (Since wr) (.take 0 1 (.take 1 3 (.take 2 7 (.take 3 15 (.take 4 31 (.take 5 63 (.take 6 127 (.take 7 255 (.take 8 511 (.done)))))))))) (by kernel_rfl) (bD (bR _)) (by kernel_rfl) (by kernel_rfl) (Nat.le_of_ble_eq_true (by kernel_rfl)) ?_
        intro opsR QR Hops HQrg hS
        refine rg_take (i := 0) (get_of Hops rfl) hS ?_
        apply Exists.intro
        apply And.intro
        · refine .inl ⟨(wanted_plain rfl), fun wq hq => ?_⟩
          clear hq
          go_simp
          try rfl
        try simp only [Act.put, List.setIfInBounds_toArray, List.set_cons_zero, List.set_cons_succ]
        refine rg_take (i := 1) (get_of Hops rfl) hS ?_
        apply Exists.intro
        apply And.intro
        · refine .inl ⟨(wanted_plain rfl), fun wq hq => ?_⟩
          clear hq
          go_simp
          try rfl
        try simp only [Act.put, List.setIfInBounds_toArray, List.set_cons_zero, List.set_cons_succ]
        refine rg_take (i := 2) (get_of Hops rfl) hS ?_
        apply Exists.intro
        apply And.intro
        · refine .inl ⟨(wanted_plain rfl), fun wq hq => ?_⟩
          clear hq
          go_simp
          try rfl
        try simp only [Act.put, List.setIfInBounds_toArray, List.set_cons_zero, List.set_cons_succ]
        refine rg_take (i := 3) (get_of Hops rfl) hS ?_
        apply Exists.intro
        apply And.intro
        · refine .inl ⟨(wanted_plain rfl), fun wq hq => ?_⟩
          have hq' : Below wr.heap.size wr wq := hq
          obtain ⟨hqc, -⟩ := bcell hq'
          clear hq hq'
          go_simp
          try rfl
        try simp only [Act.put, List.setIfInBounds_toArray, List.set_cons_zero, List.set_cons_succ]
        refine rg_take (i := 4) (get_of Hops rfl) hS ?_
        apply Exists.intro
        apply And.intro
        · refine .inl ⟨(wanted_plain rfl), fun wq hq => ?_⟩
          clear hq
          go_simp
          try rfl
        try simp only [Act.put, List.setIfInBounds_toArray, List.set_cons_zero, List.set_cons_succ]
        refine rg_take (i := 5) (get_of Hops rfl) hS ?_
        apply Exists.intro
        apply And.intro
        · refine .inl ⟨(wanted_plain rfl), fun wq hq => ?_⟩
          clear hq
          go_simp
          try rfl
        try simp only [Act.put, List.setIfInBounds_toArray, List.set_cons_zero, List.set_cons_succ]
        refine rg_take (i := 6) (get_of Hops rfl) hS ?_
        apply Exists.intro
        apply And.intro
        · refine .inl ⟨(wanted_plain rfl), fun wq hq => ?_⟩
          clear hq
          go_simp
          try rfl
        try simp only [Act.put, List.setIfInBounds_toArray, List.set_cons_zero, List.set_cons_succ]
        refine rg_take (i := 7) (get_of Hops rfl) hS ?_
        apply Exists.intro
        apply And.intro
        · refine .inl ⟨(wanted_plain rfl), fun wq hq => ?_⟩
          have hq' : Below wr.heap.size wr wq := hq
          obtain ⟨hqc, -⟩ := bcell hq'
          clear hq hq'
          go_simp
          try rfl
        try simp only [Act.put, List.setIfInBounds_toArray, List.set_cons_zero, List.set_cons_succ]
        refine rg_take (i := 8) (get_of Hops rfl) hS ?_
        apply Exists.intro
        apply And.intro
        · refine .inl ⟨(wanted_plain rfl), fun wq hq => ?_⟩
          clear hq
          go_simp
          try rfl
        try simp only [Act.put, List.setIfInBounds_toArray, List.set_cons_zero, List.set_cons_succ]
        refine rg_done ?_
        refine HQrg.down _ _ ?_
        have hB : Below wr.heap.size wr wr.drew := hS
        clear hS HQrg Hops
        have Bw : Below w.heap.size w wr.drew := bT Hb.out hB
        clear hB
        go_wp2_with fail
        go_ret
        exact ⟨ret_bool (decide_eq_false (ne_of_at k hlt hlt' He.out)).symm, Bw⟩
    · have hf := Lib.hid (decide_eq_true (eq_of_all Hlen.out fun j hj => Hno.out j hj (by have := Hlen.out; omega) (by omega)))
      go_wp2_with fail
      go_ret
      exact ⟨ret_bool hf.out.symm, Hb.out⟩

set_option maxHeartbeats 400000 in
theorem Equal_int_spec (v u : Value) (l m : List Int) (w : World) (h : Ints w v l) (h' : Ints w u m) :
    Calls Try.prog 53 #[v, u] w fun e w' => e = .returned (.bool (decide (l = m))) ∧ Below w.heap.size w w' := by
  obtain ⟨A, c, rfl, hn, hc, hR⟩ := h
  obtain ⟨A', c', rfl, hn', hc', hR'⟩ := h'
  unfold maxLen at hc hc'
  by_cases hlen : l.length = m.length
  case neg =>
    have hf := Lib.hid (decide_eq_false (fun e : l = m => hlen (congrArg List.length e)))
    have hl1 : ((l.length : Int) != (m.length : Int)) = true := by rw [bne_iff_ne]; omega
    have hl2 : (l.length != m.length) = true := by rw [bne_iff_ne]; omega
    clear hlen
    go_enter Try.func53, Try.ntmps53
    go_wp2_with fail
    go_ret
    exact ⟨ret_bool hf.out.symm, bR w⟩
  case pos =>
  have hl1 : ((l.length : Int) != (m.length : Int)) = false := by simp [hlen]
  have hl2 : (l.length != m.length) = false := by simp [hlen]
  have Hlen := Lib.hid hlen; clear hlen
  go_enter Try.func53, Try.ntmps53
  go_wp2_with fail
  go_loopw [13] (fun i wr => ∃ k : Nat, k ≤ l.length ∧ i = .int .i64 k ∧ Below w.heap.size w wr ∧ ∀ j (hj : j < l.length) (hj' : j < m.length), j < k → l[j] = m[j]) (fun i _ => l.length - (intOf i).toNat)
  case atStart => exact ⟨0, Nat.zero_le _, rfl, bR w, fun j _ _ h => by omega⟩
  case round =>
    obtain ⟨k, hk, rfl, hb, hno⟩ := hrel
    have Hb := Lib.hid hb
    have Hno := Lib.hid hno
    clear hb hno hl1 hl2
    by_cases hlt : k < l.length
    · have hlt' : k < m.length := by have := Hlen.out; omega
      obtain ⟨b, o, rfl, hlb, c0⟩ := (hR.mono Hb.out).int hlt
      obtain ⟨b', o', rfl, hlb', c0q⟩ := (hR'.mono Hb.out).int hlt'
      have HR := Lib.hid hR; have HR' := Lib.hid hR'; clear hR hR'
      have q1 : 0 ≤ (k : Int) := by omega
      have q2 : (k : Int) < l.length := by omega
      have q3 : (k : Int) < m.length := by omega
      by_cases he : l[k] = m[k]
      · have hd : (l[k] != m[k]) = false := by simpa using he
        have He := Lib.hid he; clear he
        go_upto_region 6 with fail
        refine rg_start (Since wr) (.take 0 1 (.take 1 3 (.take 2 7 (.take 3 15 (.take 4 31 (.take 5 63 (.take 6 127 (.take 7 255 (.take 8 511 (.done)))))))))) (by kernel_rfl) (bD (bR _)) (by kernel_rfl) (by kernel_rfl) (Nat.le_of_ble_eq_true (by kernel_rfl)) ?_
        intro opsR QR Hops HQrg hS
        refine rg_take (i := 0) (get_of Hops rfl) hS ?_
        apply Exists.intro
        apply And.intro
        · refine .inl ⟨(wanted_plain rfl), fun wq hq => ?_⟩
          clear hq
          go_simp
          try rfl
        try simp only [Act.put, List.setIfInBounds_toArray, List.set_cons_zero, List.set_cons_succ]
        refine rg_take (i := 1) (get_of Hops rfl) hS ?_
        apply Exists.intro
        apply And.intro
        · refine .inl ⟨(wanted_plain rfl), fun wq hq => ?_⟩
          clear hq
          go_simp
          try rfl
        try simp only [Act.put, List.setIfInBounds_toArray, List.set_cons_zero, List.set_cons_succ]
        refine rg_take (i := 2) (get_of Hops rfl) hS ?_
        apply Exists.intro
        apply And.intro
        · refine .inl ⟨(wanted_plain rfl), fun wq hq => ?_⟩
          clear hq
          go_simp
          try rfl
        try simp only [Act.put, List.setIfInBounds_toArray, List.set_cons_zero, List.set_cons_succ]
        refine rg_take (i := 3) (get_of Hops rfl) hS ?_
        apply Exists.intro
        apply And.intro
        · refine .inl ⟨(wanted_plain rfl), fun wq hq => ?_⟩
          have hq' : Below wr.heap.size wr wq := hq
          obtain ⟨hqc, -⟩ := bcell hq'
          clear hq hq'
          go_simp
          try rfl
        try simp only [Act.put, List.setIfInBounds_toArray, List.set_cons_zero, List.set_cons_succ]
        refine rg_take (i := 4) (get_of Hops rfl) hS ?_
        apply Exists.intro
        apply And.intro
        · refine .inl ⟨(wanted_plain rfl), fun wq hq => ?_⟩
          clear hq
          go_simp
          try rfl
        try simp only [Act.put, List.setIfInBounds_toArray, List.set_cons_zero, List.set_cons_succ]
        refine rg_take (i := 5) (get_of Hops rfl) hS ?_
        apply Exists.intro
        apply And.intro
        · refine .inl ⟨(wanted_plain rfl), fun wq hq => ?_⟩
          clear hq
          go_simp
          try rfl
        try simp only [Act.put, List.setIfInBounds_toArray, List.set_cons_zero, List.set_cons_succ]
        refine rg_take (i := 6) (get_of Hops rfl) hS ?_
        apply Exists.intro
        apply And.intro
        · refine .inl ⟨(wanted_plain rfl), fun wq hq => ?_⟩
          clear hq
          go_simp
          try rfl
        try simp only [Act.put, List.setIfInBounds_toArray, List.set_cons_zero, List.set_cons_succ]
        refine rg_take (i := 7) (get_of Hops rfl) hS ?_
        apply Exists.intro
        apply And.intro
        · refine .inl ⟨(wanted_plain rfl), fun wq hq => ?_⟩
          have hq' : Below wr.heap.size wr wq := hq
          obtain ⟨hqc, -⟩ := bcell hq'
          clear hq hq'
          go_simp
          try rfl
        try simp only [Act.put, List.setIfInBounds_toArray, List.set_cons_zero, List.set_cons_succ]
        refine rg_take (i := 8) (get_of Hops rfl) hS ?_
        apply Exists.intro
        apply And.intro
        · refine .inl ⟨(wanted_plain rfl), fun wq hq => ?_⟩
          clear hq
          go_simp
          try rfl
        try simp only [Act.put, List.setIfInBounds_toArray, List.set_cons_zero, List.set_cons_succ]
        refine rg_done ?_
        refine HQrg.down _ _ ?_
        have hB : Below wr.heap.size wr wr.drew := hS
        clear hS HQrg Hops
        have Bw : Below w.heap.size w wr.drew := bT Hb.out hB
        clear hB
        go_wp2_with fail
        go_roundw
        case rel => exact ⟨k + 1, by omega, by go_num, Bw, fun j hj hj' hjk => if e : j < k then Hno.out j hj hj' e else by
            have : j = k := by omega
            subst this; exact He.out⟩
        case measure => simp [intOf]; omega
      · have hd : (l[k] != m[k]) = true := by simpa using he
        have He := Lib.hid he; clear he
        go_upto_region 6 with fail
        refine rg_start (Since wr) (.take 0 1 (.take 1 3 (.take 2 7 (.take 3 15 (.take 4 31 (.take 5 63 (.take 6 127 (.take 7 255 (.take 8 511 (.done)))))))))) (by kernel_rfl) (bD (bR _)) (by kernel_rfl) (by kernel_rfl) (Nat.le_of_ble_eq_true (by kernel_rfl)) ?_
        intro opsR QR Hops HQrg hS
        refine rg_take (i := 0) (get_of Hops rfl) hS ?_
        apply Exists.intro
        apply And.intro
        · refine .inl ⟨(wanted_plain rfl), fun wq hq => ?_⟩
          clear hq
          go_simp
          try rfl
        try simp only [Act.put, List.setIfInBounds_toArray, List.set_cons_zero, List.set_cons_succ]
        refine rg_take (i := 1) (get_of Hops rfl) hS ?_
        apply Exists.intro
        apply And.intro
        · refine .inl ⟨(wanted_plain rfl), fun wq hq => ?_⟩
          clear hq
          go_simp
          try rfl
        try simp only [Act.put, List.setIfInBounds_toArray, List.set_cons_zero, List.set_cons_succ]
        refine rg_take (i := 2) (get_of Hops rfl) hS ?_
        apply Exists.intro
        apply And.intro
        · refine .inl ⟨(wanted_plain rfl), fun wq hq => ?_⟩
          clear hq
          go_simp
          try rfl
        try simp only [Act.put, List.setIfInBounds_toArray, List.set_cons_zero, List.set_cons_succ]
        refine rg_take (i := 3) (get_of Hops rfl) hS ?_
        apply Exists.intro
        apply And.intro
        · refine .inl ⟨(wanted_plain rfl), fun wq hq => ?_⟩
          have hq' : Below wr.heap.size wr wq := hq
          obtain ⟨hqc, -⟩ := bcell hq'
          clear hq hq'
          go_simp
          try rfl
        try simp only [Act.put, List.setIfInBounds_toArray, List.set_cons_zero, List.set_cons_succ]
        refine rg_take (i := 4) (get_of Hops rfl) hS ?_
        apply Exists.intro
        apply And.intro
        · refine .inl ⟨(wanted_plain rfl), fun wq hq => ?_⟩
          clear hq
          go_simp
          try rfl
        try simp only [Act.put, List.setIfInBounds_toArray, List.set_cons_zero, List.set_cons_succ]
        refine rg_take (i := 5) (get_of Hops rfl) hS ?_
        apply Exists.intro
        apply And.intro
        · refine .inl ⟨(wanted_plain rfl), fun wq hq => ?_⟩
          clear hq
          go_simp
          try rfl
        try simp only [Act.put, List.setIfInBounds_toArray, List.set_cons_zero, List.set_cons_succ]
        refine rg_take (i := 6) (get_of Hops rfl) hS ?_
        apply Exists.intro
        apply And.intro
        · refine .inl ⟨(wanted_plain rfl), fun wq hq => ?_⟩
          clear hq
          go_simp
          try rfl
        try simp only [Act.put, List.setIfInBounds_toArray, List.set_cons_zero, List.set_cons_succ]
        refine rg_take (i := 7) (get_of Hops rfl) hS ?_
        apply Exists.intro
        apply And.intro
        · refine .inl ⟨(wanted_plain rfl), fun wq hq => ?_⟩
          have hq' : Below wr.heap.size wr wq := hq
          obtain ⟨hqc, -⟩ := bcell hq'
          clear hq hq'
          go_simp
          try rfl
        try simp only [Act.put, List.setIfInBounds_toArray, List.set_cons_zero, List.set_cons_succ]
        refine rg_take (i := 8) (get_of Hops rfl) hS ?_
        apply Exists.intro
        apply And.intro
        · refine .inl ⟨(wanted_plain rfl), fun wq hq => ?_⟩
          clear hq
          go_simp
          try rfl
        try simp only [Act.put, List.setIfInBounds_toArray, List.set_cons_zero, List.set_cons_succ]
        refine rg_done ?_
        refine HQrg.down _ _ ?_
        have hB : Below wr.heap.size wr wr.drew := hS
        clear hS HQrg Hops
        have Bw : Below w.heap.size w wr.drew := bT Hb.out hB
        clear hB
        go_wp2_with fail
        go_ret
        exact ⟨ret_bool (decide_eq_false (ne_of_at k hlt hlt' He.out)).symm, Bw⟩
    · have hf := Lib.hid (decide_eq_true (eq_of_all Hlen.out fun j hj => Hno.out j hj (by have := Hlen.out; omega) (by omega)))
      go_wp2_with fail
      go_ret
      exact ⟨ret_bool hf.out.symm, Hb.out⟩

end Go.Proofs.Ytibchmofckhofaa
