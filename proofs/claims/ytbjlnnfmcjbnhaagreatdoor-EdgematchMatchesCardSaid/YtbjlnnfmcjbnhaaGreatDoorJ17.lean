/- mapsheetsref42: all, Add, add. mapsheetsref42: add, entering, leaving. -/
import Derived.Test.YtbjlnnfmcjbnhaaGreatDoorJ16
set_option linter.unusedSimpArgs false
set_option linter.unusedVariables false
namespace Go.Proofs.YtbjlnnfmcjbnhaaGreatDoor
open Go.RowKit

theorem insCr_at {l : List Cr} {c : Cr} {k : Nat} (h : ∀ j (hj : j < l.length), j < k → crLt c l[j] = false) (he : k = l.length ∨ ∃ hk : k < l.length, crLt c l[k] = true) : insCr l c = l.take k ++ c :: l.drop k := by
  unfold insCr
  induction l generalizing k with
  | nil => simp
  | cons a l ih =>
    cases k with
    | zero =>
      rcases he with h0 | ⟨hk, h0⟩
      · simp at h0
      · simp only [List.getElem_cons_zero] at h0
        rw [List.takeWhile_cons, List.dropWhile_cons]
        simp [h0]
    | succ k =>
      have h0 := h 0 (by simp) (by omega)
      simp only [List.getElem_cons_zero] at h0
      rw [List.takeWhile_cons, List.dropWhile_cons]
      simp only [h0, Bool.not_false, if_true]
      rw [List.take_succ_cons, List.drop_succ_cons, List.cons_append, List.cons_append]
      congr 1
      refine ih (fun j hj hjk => by have h1 := h (j + 1) (by simpa using hj) (by omega); simpa only [List.getElem_cons_succ] using h1) ?_
      rcases he with h1 | ⟨hk, h1⟩
      · left; simpa using h1
      · right; exact ⟨by simpa using hk, by simpa only [List.getElem_cons_succ] using h1⟩

set_option maxRecDepth 100000 in
set_option maxHeartbeats 2000000 in
theorem all_spec (g : Ed) (v : Value) (l : List Pt) (w : World) (h : Pts w v l) : Calls Tryz.prog 68 #[redV g, v] w fun e w' => e = .returned (.bool (l.all (onE g))) ∧ Below w.heap.size w w' := by
  obtain ⟨A, c, rfl, hn, hc, hR⟩ := h
  unfold maxLen at hc
  have HR := Lib.hid hR; clear hR
  have TA := ron_spec g
  unfold redV ptV at TA
  unfold redV
  have HA := Lib.hid TA; clear TA
  obtain ⟨q, hq⟩ : ∃ q, l.all (onE g) = q := ⟨_, rfl⟩
  rw [hq]
  have Hq := Lib.hid hq; clear hq
  go_enter Tryz.func68, Tryz.ntmps68
  go_wp2_with fail
  obtain ⟨W0, hW⟩ : ∃ W : World, W = w.alloc (.cells #[.bool g.upright, .int .i64 g.line, .int .i64 g.lo, .int .i64 g.hi, .bool (posS g)] 76) := ⟨_, rfl⟩
  have HB0 := Lib.hid (show Below w.heap.size w W0 by rw [hW]; exact bA (bR w) _)
  have HX1 := Lib.hid (show Blk W0 w.heap.size 76 #[.bool g.upright, .int .i64 g.line, .int .i64 g.lo, .int .i64 g.hi, .bool (posS g)] by rw [hW]; exact Blk.made rfl _ _)
  rw [← hW]
  clear hW
  go_loopw [5] (fun u wr => ∃ k : Nat, k ≤ l.length ∧ u = .int .i64 k ∧ Below W0.heap.size W0 wr ∧ ∀ j (hj : j < l.length), j < k → onE g l[j] = true) (fun u _ => l.length - (intOf u).toNat)
  case atStart => exact ⟨0, Nat.zero_le _, rfl, bR W0, fun _ _ h => by omega⟩
  case round =>
    obtain ⟨k, hk, rfl, hb, hno⟩ := hrel
    have Hb := Lib.hid hb
    have Hno := Lib.hid hno
    have X1 := HX1.out.keep hb
    clear hb hno
    by_cases hlt : k < l.length
    case pos =>
      obtain ⟨b, o, rfl, hlb, c0, c1⟩ := (HR.out.mono (bT HB0.out Hb.out)).pt hlt
      try clear X1l
      try clear X1a
      try clear X1b
      try clear X1c
      try clear X1d
      try clear X1e
      try clear X1fa
      try clear X1fb
      try clear X1fc
      try clear X1fd
      try clear X1fe
      obtain ⟨X1l, X1a, X1b, X1c, X1d, X1e, -, -, -, -, -⟩ := X1.facts5
      have q1 : 0 ≤ (k : Int) := by omega
      have q2 : (k : Int) < l.length := by omega
      have TK := HA.out l[k]
      cases hz : onE g l[k]
      case true =>
        rw [hz] at TK
        have HK := Lib.hid TK
        have Hz := Lib.hid hz
        clear TK hz
        go_upto_region 4 with fail
        refine rg_start (Since wr) (.take 0 1 (.take 1 3 (.take 2 7 (.take 3 15 (.take 4 31 (.call 5 63 (.take 6 127 (.done)))))))) (by kernel_rfl) (bD (bR _)) (by kernel_rfl) (by kernel_rfl) (Nat.le_of_ble_eq_true (by kernel_rfl)) ?_
        intro opsR QR Hops HQrg hS
        apply rg_yp (i := 0) Hops rfl hS rfl
        · intro wq hq; obtain ⟨hqc, -⟩ := bcell (show Below wr.heap.size wr wq from hq); clear hq; go_simp; try rfl
        try simp only [Act.put, pu1, pu2, pu3]
        apply rg_yp (i := 1) Hops rfl hS rfl
        · intro _ hq; clear hq; go_simp; try rfl
        try simp only [Act.put, pu1, pu2, pu3]
        apply rg_yp (i := 2) Hops rfl hS rfl
        · intro _ hq; clear hq; go_simp; try rfl
        try simp only [Act.put, pu1, pu2, pu3]
        apply rg_yp (i := 3) Hops rfl hS rfl
        · intro _ hq; clear hq; go_simp; try rfl
        try simp only [Act.put, pu1, pu2, pu3]
        apply rg_yp (i := 4) Hops rfl hS rfl
        · intro wq hq; obtain ⟨hqc, -⟩ := bcell (show Below wr.heap.size wr wq from hq); clear hq; go_simp; try rfl
        try simp only [Act.put, pu1, pu2, pu3]
        refine rg_call (i := 5) (get_of Hops rfl) (fun K hK => ?_)
        have HSrg := Lib.hid hS; clear hS
        refine rg_run (wanted_plain rfl) ?_
        go_simp
        refine (HK.out _).mono ?_
        rintro e wr1 ⟨rfl, hbr1⟩
        have hS : Since wr wr1 := bT (w := wr) HSrg.out hbr1
        clear HSrg
        refine hK.out _ _ hS (fun _ => ?_)
        clear hK K
        try simp only [Act.put, pu1, pu2, pu3]
        apply rg_yp (i := 6) Hops rfl hS rfl
        · intro _ hq; clear hq; go_simp; try rfl
        try simp only [Act.put, pu1, pu2, pu3]
        refine rg_done ?_
        refine HQrg.down _ _ ?_
        have hB : Below wr.heap.size wr wr1 := hS
        clear hS HQrg Hops
        have Bn := Lib.hid (bT Hb.out hB)
        clear hB
        go_wp2_with fail
        go_roundw
        case rel => exact ⟨k + 1, by omega, by go_num, Bn.out, all_succ (p := fun n => onE g n = true) Hno.out hlt Hz.out⟩
        case measure => simp [intOf]; omega
      case false =>
        rw [hz] at TK
        have HK := Lib.hid TK
        have hf : l.all (onE g) = false := by
          rw [List.all_eq_false]
          exact ⟨l[k], List.getElem_mem hlt, by simp [hz]⟩
        have Hf := Lib.hid hf
        clear TK hz hf
        go_upto_region 4 with fail
        refine rg_start (Since wr) (.take 0 1 (.take 1 3 (.take 2 7 (.take 3 15 (.take 4 31 (.call 5 63 (.take 6 127 (.done)))))))) (by kernel_rfl) (bD (bR _)) (by kernel_rfl) (by kernel_rfl) (Nat.le_of_ble_eq_true (by kernel_rfl)) ?_
        intro opsR QR Hops HQrg hS
        apply rg_yp (i := 0) Hops rfl hS rfl
        · intro wq hq; obtain ⟨hqc, -⟩ := bcell (show Below wr.heap.size wr wq from hq); clear hq; go_simp; try rfl
        try simp only [Act.put, pu1, pu2, pu3]
        apply rg_yp (i := 1) Hops rfl hS rfl
        · intro _ hq; clear hq; go_simp; try rfl
        try simp only [Act.put, pu1, pu2, pu3]
        apply rg_yp (i := 2) Hops rfl hS rfl
        · intro _ hq; clear hq; go_simp; try rfl
        try simp only [Act.put, pu1, pu2, pu3]
        apply rg_yp (i := 3) Hops rfl hS rfl
        · intro _ hq; clear hq; go_simp; try rfl
        try simp only [Act.put, pu1, pu2, pu3]
        apply rg_yp (i := 4) Hops rfl hS rfl
        · intro wq hq; obtain ⟨hqc, -⟩ := bcell (show Below wr.heap.size wr wq from hq); clear hq; go_simp; try rfl
        try simp only [Act.put, pu1, pu2, pu3]
        refine rg_call (i := 5) (get_of Hops rfl) (fun K hK => ?_)
        have HSrg := Lib.hid hS; clear hS
        refine rg_run (wanted_plain rfl) ?_
        go_simp
        refine (HK.out _).mono ?_
        rintro e wr1 ⟨rfl, hbr1⟩
        have hS : Since wr wr1 := bT (w := wr) HSrg.out hbr1
        clear HSrg
        refine hK.out _ _ hS (fun _ => ?_)
        clear hK K
        try simp only [Act.put, pu1, pu2, pu3]
        apply rg_yp (i := 6) Hops rfl hS rfl
        · intro _ hq; clear hq; go_simp; try rfl
        try simp only [Act.put, pu1, pu2, pu3]
        refine rg_done ?_
        refine HQrg.down _ _ ?_
        have hB : Below wr.heap.size wr wr1 := hS
        clear hS HQrg Hops
        go_wp2_with fail
        go_ret
        exact ⟨ret_bool (by rw [← Hq.out, Hf.out]), bT HB0.out (bT Hb.out hB)⟩
    case neg =>
    have hf : l.all (onE g) = true := by
      rw [List.all_eq_true]
      intro x hx
      obtain ⟨j, hj, rfl⟩ := List.mem_iff_getElem.1 hx
      exact Hno.out j hj (by omega)
    have Hf := Lib.hid hf
    clear hf
    go_wp2_with fail
    go_ret
    exact ⟨ret_bool (by rw [← Hq.out, Hf.out]), bT HB0.out Hb.out⟩

set_option maxRecDepth 100000 in
set_option maxHeartbeats 4000000 in
theorem Add_spec (v : Value) (l : List Cr) (cr : Cr) (w : World) (h : Crs w v l) (hl : l.length ≤ 1000000) : Calls Tryz.prog 23 #[v, crV cr] w (RetCrs1 w (insCr l cr)) := by
  obtain ⟨A, c, rfl, hn, hc, hR⟩ := h
  have HC := Lib.hid (show Crs w (.slice A l.length c) l from ⟨A, c, rfl, hn, hc, hR⟩)
  unfold maxLen at hc
  have HR := Lib.hid hR; clear hR
  have TA := beforeCr_spec cr
  unfold crV at TA
  unfold crV
  have HA := Lib.hid TA; clear TA
  obtain ⟨q, hq⟩ : ∃ q, insCr l cr = q := ⟨_, rfl⟩
  rw [hq]
  have Hq := Lib.hid hq; clear hq
  go_enter Tryz.func23, Tryz.ntmps23
  go_wp2_with fail
  obtain ⟨W0, hW⟩ : ∃ W : World, W = w.alloc (.cells #[.int .i64 cr.pos, .int .i64 cr.arc, .int .i64 cr.out] 57) := ⟨_, rfl⟩
  have HB0 := Lib.hid (show Below w.heap.size w W0 by rw [hW]; exact bA (bR w) _)
  have HX1 := Lib.hid (show Blk W0 w.heap.size 57 #[.int .i64 cr.pos, .int .i64 cr.arc, .int .i64 cr.out] by rw [hW]; exact Blk.made rfl _ _)
  rw [← hW]
  clear hW
  go_loopw [5] (fun u wr => ∃ k : Nat, k ≤ l.length ∧ u = .int .i64 k ∧ Below W0.heap.size W0 wr ∧ ∀ j (hj : j < l.length), j < k → crLt cr l[j] = false) (fun u _ => l.length - (intOf u).toNat)
  case atStart => exact ⟨0, Nat.zero_le _, rfl, bR W0, fun _ _ h => by omega⟩
  case round =>
    obtain ⟨k, hk, rfl, hb, hno⟩ := hrel
    have Hb := Lib.hid hb
    have Hno := Lib.hid hno
    have X1 := HX1.out.keep hb
    clear hb hno
    try clear X1l
    try clear X1a
    try clear X1b
    try clear X1c
    try clear X1fa
    try clear X1fb
    try clear X1fc
    obtain ⟨X1l, X1a, X1b, X1c, -, -, -⟩ := X1.facts3
    have q1 : 0 ≤ (k : Int) := by omega
    by_cases hgo : ∃ hlt : k < l.length, crLt cr l[k] = false
    case pos =>
      obtain ⟨hlt, hz⟩ := hgo
      have q2 : (k : Int) < l.length := by omega
      obtain ⟨b, o, rfl, hlb, c0, c1, c2⟩ := (HR.out.mono (bT HB0.out Hb.out)).cr hlt
      have TK := HA.out l[k]
      rw [hz] at TK
      have HK := Lib.hid TK
      have Hz := Lib.hid hz
      clear TK hz
      go_upto_region 2 with fail
      refine rg_start (Since wr) (.take 0 1 (.take 1 3 (.take 2 7 (.take 3 15 (.take 4 31 (.take 5 63 (.take 6 127 (.take 7 255 (.take 8 511 (.take 9 1023 (.call 10 2047 (.take 11 4095 (.take 12 8191 (.done)))))))))))))) (by kernel_rfl) (bD (bR _)) (by kernel_rfl) (by kernel_rfl) (Nat.le_of_ble_eq_true (by kernel_rfl)) ?_
      intro opsR QR Hops HQrg hS
      apply rg_yp (i := 0) Hops rfl hS rfl
      · intro _ hq; clear hq; go_simp; try rfl
      try simp only [Act.put, pu1, pu2, pu3]
      apply rg_yp (i := 1) Hops rfl hS rfl
      · intro _ hq; clear hq; go_simp; try rfl
      try simp only [Act.put, pu1, pu2, pu3]
      apply rg_yp (i := 2) Hops rfl hS rfl
      · intro _ hq; clear hq; go_simp; try rfl
      try simp only [Act.put, pu1, pu2, pu3]
      apply rg_yp (i := 3) Hops rfl hS rfl
      · intro _ hq; clear hq; go_simp; try rfl
      try simp only [Act.put, pu1, pu2, pu3]
      apply rg_yp (i := 4) Hops rfl hS rfl
      · intro _ hq; clear hq; go_simp; try rfl
      try simp only [Act.put, pu1, pu2, pu3]
      apply rg_yg (i := 5) Hops rfl hS rfl rfl rfl rfl
      · intro wq hq; obtain ⟨hqc, -⟩ := bcell (show Below wr.heap.size wr wq from hq); clear hq; go_simp; try rfl
      try simp only [Act.put, pu1, pu2, pu3]
      apply rg_yg (i := 6) Hops rfl hS rfl rfl rfl rfl
      · intro _ hq; clear hq; go_simp; try rfl
      try simp only [Act.put, pu1, pu2, pu3]
      apply rg_yg (i := 7) Hops rfl hS rfl rfl rfl rfl
      · intro _ hq; clear hq; go_simp; try rfl
      try simp only [Act.put, pu1, pu2, pu3]
      apply rg_yg (i := 8) Hops rfl hS rfl rfl rfl rfl
      · intro _ hq; clear hq; go_simp; try rfl
      try simp only [Act.put, pu1, pu2, pu3]
      apply rg_yg (i := 9) Hops rfl hS rfl rfl rfl rfl
      · intro wq hq; obtain ⟨hqc, -⟩ := bcell (show Below wr.heap.size wr wq from hq); clear hq; go_simp; try rfl
      try simp only [Act.put, pu1, pu2, pu3]
      refine rg_call (i := 10) (get_of Hops rfl) (fun K hK => ?_)
      have HSrg := Lib.hid hS; clear hS
      refine rg_run (wanted_yes rfl (get_of Hops rfl) rfl rfl) ?_
      go_simp
      refine (HK.out _).mono ?_
      rintro e wr1 ⟨rfl, hbr1⟩
      have hS : Since wr wr1 := bT (w := wr) HSrg.out hbr1
      clear HSrg
      refine hK.out _ _ hS (fun _ => ?_)
      clear hK K
      try simp only [Act.put, pu1, pu2, pu3]
      apply rg_yg (i := 11) Hops rfl hS rfl rfl rfl rfl
      · intro _ hq; clear hq; go_simp; try rfl
      try simp only [Act.put, pu1, pu2, pu3]
      apply rg_yp (i := 12) Hops rfl hS rfl
      · intro _ hq; clear hq; go_simp; try rfl
      try simp only [Act.put, pu1, pu2, pu3]
      refine rg_done ?_
      refine HQrg.down _ _ ?_
      have hB : Below wr.heap.size wr wr1 := hS
      clear hS HQrg Hops
      have Bn := Lib.hid (bT Hb.out hB)
      clear hB
      go_wp2_with fail
      go_roundw
      case rel => exact ⟨k + 1, by omega, by go_num, Bn.out, all_succ (p := fun n => crLt cr n = false) Hno.out hlt Hz.out⟩
      case measure => simp [intOf]; omega
    case neg =>
    have he : k = l.length ∨ ∃ hk : k < l.length, crLt cr l[k] = true := by
      by_cases h1 : k < l.length
      · right
        refine ⟨h1, ?_⟩
        cases h2 : crLt cr l[k]
        · exact absurd ⟨h1, h2⟩ hgo
        · rfl
      · left; omega
    have hins := insCr_at (fun j hj hjk => Hno.out j hj hjk) he
    rw [Hq.out] at hins
    have HIns := Lib.hid hins
    clear hins hgo
    have hrun1 := run_pre Tryz.underlying30 sizeOf_cr A l.length c k hk hn
    have hrun2 := run_cut Tryz.underlying30 sizeOf_cr A l.length c k hk (k : Int) rfl
    have HTk := Lib.hid (show Sl w (.slice A k c) (l.take k).length ((l.take k).flatMap crC) from Sl.pre_ HC.out k hk)
    have HDr := Lib.hid (show Sl w (.slice (cutA A c k 3) (l.length - k) (c - k)) (l.drop k).length ((l.drop k).flatMap crC) from Sl.from_ crC_len HC.out k hk)
    have htl : (l.take k).length ≤ 1000000 := by rw [List.length_take]; omega
    have hdl : (l.drop k).length ≤ 1000000 := by rw [List.length_drop]; omega
    have HTl := Lib.hid htl; have HDl := Lib.hid hdl
    clear htl hdl
    have HBr := Lib.hid (bT HB0.out Hb.out)
    have Hrun1 := Lib.hid hrun1; have Hrun2 := Lib.hid hrun2
    clear hrun1 hrun2
    rcases he with hke | ⟨hkl, hz⟩
    case inl =>
      have q2 : ¬ (k : Int) < l.length := by omega
      clear hke
      go_upto_region 2 with fail
      refine rg_start (Since wr) (.take 0 1 (.take 1 3 (.take 2 7 (.take 3 15 (.take 4 31 (.take 5 63 (.take 6 127 (.take 7 255 (.take 8 511 (.take 9 1023 (.take 10 2047 (.take 11 4095 (.take 12 8191 (.done)))))))))))))) (by kernel_rfl) (bD (bR _)) (by kernel_rfl) (by kernel_rfl) (Nat.le_of_ble_eq_true (by kernel_rfl)) ?_
      intro opsR QR Hops HQrg hS
      apply rg_yp (i := 0) Hops rfl hS rfl
      · intro _ hq; clear hq; go_simp; try rfl
      try simp only [Act.put, pu1, pu2, pu3]
      apply rg_yp (i := 1) Hops rfl hS rfl
      · intro _ hq; clear hq; go_simp; try rfl
      try simp only [Act.put, pu1, pu2, pu3]
      apply rg_yp (i := 2) Hops rfl hS rfl
      · intro _ hq; clear hq; go_simp; try rfl
      try simp only [Act.put, pu1, pu2, pu3]
      apply rg_yp (i := 3) Hops rfl hS rfl
      · intro _ hq; clear hq; go_simp; try rfl
      try simp only [Act.put, pu1, pu2, pu3]
      apply rg_yp (i := 4) Hops rfl hS rfl
      · intro _ hq; clear hq; go_simp; try rfl
      try simp only [Act.put, pu1, pu2, pu3]
      refine rg_yn (i := 5) Hops rfl hS rfl rfl rfl rfl rfl ?_
      try simp only [Act.put, pu1, pu2, pu3]
      refine rg_yn (i := 6) Hops rfl hS rfl rfl rfl rfl rfl ?_
      try simp only [Act.put, pu1, pu2, pu3]
      refine rg_yn (i := 7) Hops rfl hS rfl rfl rfl rfl rfl ?_
      try simp only [Act.put, pu1, pu2, pu3]
      refine rg_yn (i := 8) Hops rfl hS rfl rfl rfl rfl rfl ?_
      try simp only [Act.put, pu1, pu2, pu3]
      refine rg_yn (i := 9) Hops rfl hS rfl rfl rfl rfl rfl ?_
      try simp only [Act.put, pu1, pu2, pu3]
      refine rg_yn (i := 10) Hops rfl hS rfl rfl rfl rfl rfl ?_
      try simp only [Act.put, pu1, pu2, pu3]
      refine rg_yn (i := 11) Hops rfl hS rfl rfl rfl rfl rfl ?_
      try simp only [Act.put, pu1, pu2, pu3]
      apply rg_yp (i := 12) Hops rfl hS rfl
      · intro _ hq; clear hq; go_simp; try rfl
      try simp only [Act.put, pu1, pu2, pu3]
      refine rg_done ?_
      refine HQrg.down _ _ ?_
      have hB : Below wr.heap.size wr wr.drew := hS
      clear hS HQrg Hops
      have B0 := Lib.hid (bT Hb.out hB)
      have X1 := X1.keep hB
      clear hB X1l X1a X1b X1c
      try clear X1l
      try clear X1a
      try clear X1b
      try clear X1c
      try clear X1fa
      try clear X1fb
      try clear X1fc
      obtain ⟨X1l, X1a, X1b, X1c, -, -, -⟩ := X1.facts3
      have hrun1 := Hrun1.out
      have hrun2 := Hrun2.out
      go_upto_region 6 with
        (at_builtin
         refine wpList_appl _ rfl (.tmp 22) (.tmp 25) _ rfl (base := W0.heap.size) elem_cr crC_len crC_one rfl (Own.nil _ _ _ _ _) rfl (l2 := l.take k) (HTk.out.mono (bT HB0.out B0.out)) (by have := HTl.out; simp only [List.length_nil]; omega) (by have := HTl.out; simp only [List.length_nil]; omega) B0.out.size ?_
         intro v1 w1 ho1 hg1 hat1
         rw [List.nil_append] at ho1
         have HO1 := Lib.hid ho1
         have B1 := Lib.hid (show Below W0.heap.size W0 w1 from bG B0.out (show World.grownBy _ w1 none from hg1) (fun g hg => by cases hg))
         have X1' := X1.grown (show World.grownBy _ w1 none from hg1) (fun e => by cases e)
         clear ho1 hg1 hat1 X1 X1l X1a X1b X1c)
      try clear X1'l
      try clear X1'a
      try clear X1'b
      try clear X1'c
      try clear X1'fa
      try clear X1'fb
      try clear X1'fc
      obtain ⟨X1'l, X1'a, X1'b, X1'c, -, -, -⟩ := X1'.facts3
      go_upto_region 7 with
        (at_builtin
         refine wpList_appl _ rfl (.tmp 27) (.tmp 29) _ rfl (base := W0.heap.size) elem_cr crC_len crC_one rfl (HO1.out.alloc _) rfl (l2 := [cr]) (Sl.lit (n := 1) (Blk.made rfl _ _) rfl (le_maxLen (by omega))) (by have := HTl.out; simp only [List.length_cons, List.length_nil]; omega) (by have := HTl.out; simp only [List.length_cons, List.length_nil]; omega) (by have := B1.out.size; simp; omega) ?_
         intro v2 w2 ho2 hg2 hat2
         have HO2 := Lib.hid ho2
         have B2 := Lib.hid (show Below W0.heap.size W0 w2 from bG (bA B1.out _) hg2 (fun g hg => (HO1.out.lt g hg).1))
         clear ho2 hg2 hat2 X1' X1'l X1'a X1'b X1'c)
      go_wp2_with
        (at_builtin
         refine wpList_appl _ rfl (.tmp 31) (.tmp 34) _ rfl (base := W0.heap.size) elem_cr crC_len crC_one rfl HO2.out rfl (l2 := l.drop k) (HDr.out.mono (bT HB0.out B2.out)) (by have := HTl.out; have := HDl.out; simp only [List.length_append, List.length_cons, List.length_nil]; omega) (by have := HTl.out; have := HDl.out; simp only [List.length_append, List.length_cons, List.length_nil]; omega) B2.out.size ?_
         intro v3 w3 ho3 hg3 hat3
         rw [List.append_assoc, List.singleton_append, ← HIns.out] at ho3
         have B3 := Lib.hid (show Below W0.heap.size W0 w3 from bG B2.out hg3 (fun g hg => (HO2.out.lt g hg).1))
         obtain ⟨A3, c3, rfl, -, -⟩ := Own.form ho3
         have HO3 := Lib.hid ho3
         clear ho3 hg3 hat3)
      go_ret
      exact ⟨A3, c3, rfl, bT HB0.out B3.out, Own.mono_base HO3.out HB0.out.size⟩
    case inr =>
      have q2 : (k : Int) < l.length := by omega
      obtain ⟨b, o, rfl, hlb, c0, c1, c2⟩ := (HR.out.mono (bT HB0.out Hb.out)).cr hkl
      have TK := HA.out l[k]
      rw [hz] at TK
      have HK := Lib.hid TK
      clear TK hz
      go_upto_region 2 with fail
      refine rg_start (Since wr) (.take 0 1 (.take 1 3 (.take 2 7 (.take 3 15 (.take 4 31 (.take 5 63 (.take 6 127 (.take 7 255 (.take 8 511 (.take 9 1023 (.call 10 2047 (.take 11 4095 (.take 12 8191 (.done)))))))))))))) (by kernel_rfl) (bD (bR _)) (by kernel_rfl) (by kernel_rfl) (Nat.le_of_ble_eq_true (by kernel_rfl)) ?_
      intro opsR QR Hops HQrg hS
      apply rg_yp (i := 0) Hops rfl hS rfl
      · intro _ hq; clear hq; go_simp; try rfl
      try simp only [Act.put, pu1, pu2, pu3]
      apply rg_yp (i := 1) Hops rfl hS rfl
      · intro _ hq; clear hq; go_simp; try rfl
      try simp only [Act.put, pu1, pu2, pu3]
      apply rg_yp (i := 2) Hops rfl hS rfl
      · intro _ hq; clear hq; go_simp; try rfl
      try simp only [Act.put, pu1, pu2, pu3]
      apply rg_yp (i := 3) Hops rfl hS rfl
      · intro _ hq; clear hq; go_simp; try rfl
      try simp only [Act.put, pu1, pu2, pu3]
      apply rg_yp (i := 4) Hops rfl hS rfl
      · intro _ hq; clear hq; go_simp; try rfl
      try simp only [Act.put, pu1, pu2, pu3]
      apply rg_yg (i := 5) Hops rfl hS rfl rfl rfl rfl
      · intro wq hq; obtain ⟨hqc, -⟩ := bcell (show Below wr.heap.size wr wq from hq); clear hq; go_simp; try rfl
      try simp only [Act.put, pu1, pu2, pu3]
      apply rg_yg (i := 6) Hops rfl hS rfl rfl rfl rfl
      · intro _ hq; clear hq; go_simp; try rfl
      try simp only [Act.put, pu1, pu2, pu3]
      apply rg_yg (i := 7) Hops rfl hS rfl rfl rfl rfl
      · intro _ hq; clear hq; go_simp; try rfl
      try simp only [Act.put, pu1, pu2, pu3]
      apply rg_yg (i := 8) Hops rfl hS rfl rfl rfl rfl
      · intro _ hq; clear hq; go_simp; try rfl
      try simp only [Act.put, pu1, pu2, pu3]
      apply rg_yg (i := 9) Hops rfl hS rfl rfl rfl rfl
      · intro wq hq; obtain ⟨hqc, -⟩ := bcell (show Below wr.heap.size wr wq from hq); clear hq; go_simp; try rfl
      try simp only [Act.put, pu1, pu2, pu3]
      refine rg_call (i := 10) (get_of Hops rfl) (fun K hK => ?_)
      have HSrg := Lib.hid hS; clear hS
      refine rg_run (wanted_yes rfl (get_of Hops rfl) rfl rfl) ?_
      go_simp
      refine (HK.out _).mono ?_
      rintro e wr1 ⟨rfl, hbr1⟩
      have hS : Since wr wr1 := bT (w := wr) HSrg.out hbr1
      clear HSrg
      refine hK.out _ _ hS (fun _ => ?_)
      clear hK K
      try simp only [Act.put, pu1, pu2, pu3]
      apply rg_yg (i := 11) Hops rfl hS rfl rfl rfl rfl
      · intro _ hq; clear hq; go_simp; try rfl
      try simp only [Act.put, pu1, pu2, pu3]
      apply rg_yp (i := 12) Hops rfl hS rfl
      · intro _ hq; clear hq; go_simp; try rfl
      try simp only [Act.put, pu1, pu2, pu3]
      refine rg_done ?_
      refine HQrg.down _ _ ?_
      have hB : Below wr.heap.size wr wr1 := hS
      clear hS HQrg Hops
      clear c0 c1 c2 hlb
      have B0 := Lib.hid (bT Hb.out hB)
      have X1 := X1.keep hB
      clear hB X1l X1a X1b X1c
      try clear X1l
      try clear X1a
      try clear X1b
      try clear X1c
      try clear X1fa
      try clear X1fb
      try clear X1fc
      obtain ⟨X1l, X1a, X1b, X1c, -, -, -⟩ := X1.facts3
      have hrun1 := Hrun1.out
      have hrun2 := Hrun2.out
      go_upto_region 6 with
        (at_builtin
         refine wpList_appl _ rfl (.tmp 22) (.tmp 25) _ rfl (base := W0.heap.size) elem_cr crC_len crC_one rfl (Own.nil _ _ _ _ _) rfl (l2 := l.take k) (HTk.out.mono (bT HB0.out B0.out)) (by have := HTl.out; simp only [List.length_nil]; omega) (by have := HTl.out; simp only [List.length_nil]; omega) B0.out.size ?_
         intro v1 w1 ho1 hg1 hat1
         rw [List.nil_append] at ho1
         have HO1 := Lib.hid ho1
         have B1 := Lib.hid (show Below W0.heap.size W0 w1 from bG B0.out (show World.grownBy _ w1 none from hg1) (fun g hg => by cases hg))
         have X1' := X1.grown (show World.grownBy _ w1 none from hg1) (fun e => by cases e)
         clear ho1 hg1 hat1 X1 X1l X1a X1b X1c)
      try clear X1'l
      try clear X1'a
      try clear X1'b
      try clear X1'c
      try clear X1'fa
      try clear X1'fb
      try clear X1'fc
      obtain ⟨X1'l, X1'a, X1'b, X1'c, -, -, -⟩ := X1'.facts3
      go_upto_region 7 with
        (at_builtin
         refine wpList_appl _ rfl (.tmp 27) (.tmp 29) _ rfl (base := W0.heap.size) elem_cr crC_len crC_one rfl (HO1.out.alloc _) rfl (l2 := [cr]) (Sl.lit (n := 1) (Blk.made rfl _ _) rfl (le_maxLen (by omega))) (by have := HTl.out; simp only [List.length_cons, List.length_nil]; omega) (by have := HTl.out; simp only [List.length_cons, List.length_nil]; omega) (by have := B1.out.size; simp; omega) ?_
         intro v2 w2 ho2 hg2 hat2
         have HO2 := Lib.hid ho2
         have B2 := Lib.hid (show Below W0.heap.size W0 w2 from bG (bA B1.out _) hg2 (fun g hg => (HO1.out.lt g hg).1))
         clear ho2 hg2 hat2 X1' X1'l X1'a X1'b X1'c)
      go_wp2_with
        (at_builtin
         refine wpList_appl _ rfl (.tmp 31) (.tmp 34) _ rfl (base := W0.heap.size) elem_cr crC_len crC_one rfl HO2.out rfl (l2 := l.drop k) (HDr.out.mono (bT HB0.out B2.out)) (by have := HTl.out; have := HDl.out; simp only [List.length_append, List.length_cons, List.length_nil]; omega) (by have := HTl.out; have := HDl.out; simp only [List.length_append, List.length_cons, List.length_nil]; omega) B2.out.size ?_
         intro v3 w3 ho3 hg3 hat3
         rw [List.append_assoc, List.singleton_append, ← HIns.out] at ho3
         have B3 := Lib.hid (show Below W0.heap.size W0 w3 from bG B2.out hg3 (fun g hg => (HO2.out.lt g hg).1))
         obtain ⟨A3, c3, rfl, -, -⟩ := Own.form ho3
         have HO3 := Lib.hid ho3
         clear ho3 hg3 hat3)
      go_ret
      exact ⟨A3, c3, rfl, bT HB0.out B3.out, Own.mono_base HO3.out HB0.out.size⟩
end Go.Proofs.YtbjlnnfmcjbnhaaGreatDoor
namespace Go.Proofs.YtbjlnnfmcjbnhaaGreatDoor
open Go.RowKit

def RetCrsR (w : World) (l : List Cr) (e : Ending) (w' : World) : Prop :=
  ∃ A c, e = .returned (.slice A l.length c) ∧ Below w.heap.size w w' ∧ Crs w' (.slice A l.length c) l
theorem Crs.form {w : World} {v : Value} {l : List Cr} (h : Crs w v l) : ∃ A c, v = .slice A l.length c := by
  obtain ⟨A, c, rfl, -⟩ := h
  exact ⟨A, c, rfl⟩

set_option maxRecDepth 100000 in
set_option maxHeartbeats 4000000 in
theorem addCr_spec (g : Ed) (v vr vn : Value) (l : List Cr) (run : List Pt) (ns : List Nd) (arc out : Int) (w : World) (h : Crs w v l) (hl : l.length ≤ 1000000) (hr : Pts w vr run) (hn : Nds w vn ns) (hpos : 0 < run.length) :
    Calls Tryz.prog 35 #[v, redV g, vr, vn, .int .i64 arc, .int .i64 out] w (RetCrsR w (if openS g ns run = true then insCr l ⟨alongS g (lastP run), arc, out⟩ else l)) := by
  obtain ⟨Al, cl, rfl⟩ := h.form
  have HL := Lib.hid h; clear h
  have HN := Lib.hid hn
  obtain ⟨An, cn, rfl, -⟩ := hn
  obtain ⟨A, c, rfl, hn, hc, hR⟩ := hr
  unfold maxLen at hc
  unfold openS firstP lastP
  obtain ⟨b1, o1, rfl, hlb, c0, c1⟩ := hR.pt hpos
  obtain ⟨b2, o2, e2, -, d0, d1⟩ := hR.pt (k := run.length - 1) (by omega)
  simp only [Option.some.injEq, Addr.mk.injEq, and_true] at e2
  obtain ⟨rfl, rfl⟩ := e2
  have e1 : run.getD 0 ⟨0, 0⟩ = run[0] := by simp [List.getD, List.getElem?_eq_getElem hpos]
  have e2 : run.getD (run.length - 1) ⟨0, 0⟩ = run[run.length - 1] := by simp [List.getD, List.getElem?_eq_getElem (show run.length - 1 < run.length by omega)]
  rw [e1, e2, decide_eq_true hpos, Bool.true_and]
  clear e1 e2 hR
  generalize run[0] = P0 at *
  generalize run[run.length - 1] = P1 at *
  obtain ⟨N, hN⟩ : ∃ N, run.length = N + 1 := ⟨run.length - 1, by omega⟩
  rw [hN] at d0 d1 hn ⊢
  simp only [Nat.add_sub_cancel] at d0 d1
  simp only [Nat.zero_mul, Nat.add_zero] at c0 c1
  clear hN hpos
  have TS : ∀ (p : Pt) (W : World), Below w.heap.size w W → Calls Tryz.prog 69 #[redV g, ptV p, .slice An ns.length cn] W _ := fun p W hb => strict_spec g p _ ns W (HN.out.mono hb)
  have TA := ralong_spec g P1
  unfold redV ptV at TS TA
  unfold redV
  have HS := Lib.hid TS; have HA := Lib.hid TA
  clear TS TA
  have q1 : 0 ≤ (N : Int) := by omega
  have q2 : (N : Int) < (N : Int) + 1 := by omega
  have q3 : 0 < (N : Int) + 1 := by omega
  have q6 : IntKind.i64.wrap (N : Int) = (N : Int) := IntWalk.i64_in _ (by omega)
  obtain ⟨r, hr⟩ : ∃ r, (if (strictS g ns P0 && strictS g ns P1) = true then insCr l ⟨alongS g P1, arc, out⟩ else l) = r := ⟨_, rfl⟩
  rw [hr]
  have Hr := Lib.hid hr
  clear hr
  have HS0 := HS.out P0; have HS1 := HS.out P1
  generalize strictS g ns P0 = z0 at *
  generalize strictS g ns P1 = z1 at *
  generalize alongS g P1 = zz at *
  clear HS
  have HK0 := Lib.hid HS0; have HK1 := Lib.hid HS1
  clear HS0 HS1
  go_enter Tryz.func35, Tryz.ntmps35
  go_upto_region 2 with fail
  obtain ⟨W0, hW⟩ : ∃ W : World, W = (w.alloc (.cells #[.bool g.upright, .int .i64 g.line, .int .i64 g.lo, .int .i64 g.hi, .bool (posS g)] 76)).alloc (.cells #[.int .i64 P1.x, .int .i64 P1.y] 42) := ⟨_, rfl⟩
  have HB0 := Lib.hid (show Below w.heap.size w W0 by rw [hW]; exact bA (bA (bR w) _) _)
  have X1 : Blk W0 w.heap.size 76 #[.bool g.upright, .int .i64 g.line, .int .i64 g.lo, .int .i64 g.hi, .bool (posS g)] := by rw [hW]; exact (Blk.made rfl _ _).alloc _
  have X2 : Blk W0 (w.heap.size + 1) 42 #[.int .i64 P1.x, .int .i64 P1.y] := by rw [hW]; exact Blk.made (by simp) _ _
  rw [← hW]
  clear hW
  obtain ⟨bc, -⟩ := bcell HB0.out
  replace c0 := (bc b1 _ hlb).trans c0
  replace c1 := (bc b1 _ hlb).trans c1
  have hbl : b1 < W0.heap.size := Nat.lt_of_lt_of_le hlb HB0.out.size
  clear d0 d1 bc hlb q6
  have HX1 := Lib.hid X1; have HX2 := Lib.hid X2
  clear X1 X2
  have X1 := HX1.out; have X2 := HX2.out
  try clear X1l
  try clear X1a
  try clear X1b
  try clear X1c
  try clear X1d
  try clear X1e
  try clear X1fa
  try clear X1fb
  try clear X1fc
  try clear X1fd
  try clear X1fe
  obtain ⟨X1l, X1a, X1b, X1c, X1d, X1e, -, -, -, -, -⟩ := X1.facts5
  try clear X2l
  try clear X2a
  try clear X2b
  try clear X2fa
  try clear X2fb
  obtain ⟨X2l, X2a, X2b, -, -⟩ := X2.facts2
  cases z0
  case false =>
    go_upto_region 2 with fail
    refine rg_start (Since W0) (.take 0 1 (.take 1 3 (.take 2 7 (.take 3 15 (.take 4 31 (.call 5 63 (.take 6 127 (.take 7 255 (.take 8 511 (.take 9 1023 (.take 10 2047 (.take 11 4095 (.take 12 8191 (.take 13 16383 (.done))))))))))))))) (by kernel_rfl) (bD (bR _)) (by kernel_rfl) (by kernel_rfl) (Nat.le_of_ble_eq_true (by kernel_rfl)) ?_
    intro opsR QR Hops HQrg hS
    apply rg_yp (i := 0) Hops rfl hS rfl
    · intro wq hq; obtain ⟨hqc, -⟩ := bcell (show Below W0.heap.size W0 wq from hq); clear hq; go_simp; try rfl
    try simp only [Act.put, pu1, pu2, pu3]
    apply rg_yp (i := 1) Hops rfl hS rfl
    · intro _ hq; clear hq; go_simp; try rfl
    try simp only [Act.put, pu1, pu2, pu3]
    apply rg_yp (i := 2) Hops rfl hS rfl
    · intro _ hq; clear hq; go_simp; try rfl
    try simp only [Act.put, pu1, pu2, pu3]
    apply rg_yp (i := 3) Hops rfl hS rfl
    · intro wq hq; obtain ⟨hqc, -⟩ := bcell (show Below W0.heap.size W0 wq from hq); clear hq; go_simp; try rfl
    try simp only [Act.put, pu1, pu2, pu3]
    apply rg_yp (i := 4) Hops rfl hS rfl
    · intro _ hq; clear hq; go_simp; try rfl
    try simp only [Act.put, pu1, pu2, pu3]
    refine rg_call (i := 5) (get_of Hops rfl) (fun K hK => ?_)
    have HSrg := Lib.hid hS; clear hS
    refine rg_run (wanted_plain rfl) ?_
    go_simp
    refine (HK0.out _ (bT HB0.out HSrg.out)).mono ?_
    rintro e wr1 ⟨rfl, hbr1⟩
    have hS : Since W0 wr1 := bT (w := W0) HSrg.out hbr1
    clear HSrg
    refine hK.out _ _ hS (fun _ => ?_)
    clear hK K
    try simp only [Act.put, pu1, pu2, pu3]
    apply rg_yp (i := 6) Hops rfl hS rfl
    · intro _ hq; clear hq; go_simp; try rfl
    try simp only [Act.put, pu1, pu2, pu3]
    apply rg_yp (i := 7) Hops rfl hS rfl
    · intro _ hq; clear hq; go_simp; try rfl
    try simp only [Act.put, pu1, pu2, pu3]
    refine rg_yn (i := 8) Hops rfl hS rfl rfl rfl rfl rfl ?_
    try simp only [Act.put, pu1, pu2, pu3]
    refine rg_yn (i := 9) Hops rfl hS rfl rfl rfl rfl rfl ?_
    try simp only [Act.put, pu1, pu2, pu3]
    refine rg_yn (i := 10) Hops rfl hS rfl rfl rfl rfl rfl ?_
    try simp only [Act.put, pu1, pu2, pu3]
    refine rg_yn (i := 11) Hops rfl hS rfl rfl rfl rfl rfl ?_
    try simp only [Act.put, pu1, pu2, pu3]
    refine rg_yn (i := 12) Hops rfl hS rfl rfl rfl rfl rfl ?_
    try simp only [Act.put, pu1, pu2, pu3]
    apply rg_yp (i := 13) Hops rfl hS rfl
    · intro _ hq; clear hq; go_simp; try rfl
    try simp only [Act.put, pu1, pu2, pu3]
    refine rg_done ?_
    refine HQrg.down _ _ ?_
    have hB : Below W0.heap.size W0 wr1 := hS
    clear hS HQrg Hops
    have hr := Hr.out
    simp only [Bool.false_and, Bool.false_eq_true, if_false] at hr
    subst hr
    go_wp2_with fail
    go_ret
    exact ⟨Al, cl, rfl, bT HB0.out hB, HL.out.mono (bT HB0.out hB)⟩
  case true =>
  cases z1
  case false =>
    go_upto_region 2 with fail
    refine rg_start (Since W0) (.take 0 1 (.take 1 3 (.take 2 7 (.take 3 15 (.take 4 31 (.call 5 63 (.take 6 127 (.take 7 255 (.take 8 511 (.take 9 1023 (.take 10 2047 (.call 11 4095 (.take 12 8191 (.take 13 16383 (.done))))))))))))))) (by kernel_rfl) (bD (bR _)) (by kernel_rfl) (by kernel_rfl) (Nat.le_of_ble_eq_true (by kernel_rfl)) ?_
    intro opsR QR Hops HQrg hS
    apply rg_yp (i := 0) Hops rfl hS rfl
    · intro wq hq; obtain ⟨hqc, -⟩ := bcell (show Below W0.heap.size W0 wq from hq); clear hq; go_simp; try rfl
    try simp only [Act.put, pu1, pu2, pu3]
    apply rg_yp (i := 1) Hops rfl hS rfl
    · intro _ hq; clear hq; go_simp; try rfl
    try simp only [Act.put, pu1, pu2, pu3]
    apply rg_yp (i := 2) Hops rfl hS rfl
    · intro _ hq; clear hq; go_simp; try rfl
    try simp only [Act.put, pu1, pu2, pu3]
    apply rg_yp (i := 3) Hops rfl hS rfl
    · intro wq hq; obtain ⟨hqc, -⟩ := bcell (show Below W0.heap.size W0 wq from hq); clear hq; go_simp; try rfl
    try simp only [Act.put, pu1, pu2, pu3]
    apply rg_yp (i := 4) Hops rfl hS rfl
    · intro _ hq; clear hq; go_simp; try rfl
    try simp only [Act.put, pu1, pu2, pu3]
    refine rg_call (i := 5) (get_of Hops rfl) (fun K hK => ?_)
    have HSrg := Lib.hid hS; clear hS
    refine rg_run (wanted_plain rfl) ?_
    go_simp
    refine (HK0.out _ (bT HB0.out HSrg.out)).mono ?_
    rintro e wr1 ⟨rfl, hbr1⟩
    have hS : Since W0 wr1 := bT (w := W0) HSrg.out hbr1
    clear HSrg
    refine hK.out _ _ hS (fun _ => ?_)
    clear hK K
    try simp only [Act.put, pu1, pu2, pu3]
    apply rg_yp (i := 6) Hops rfl hS rfl
    · intro _ hq; clear hq; go_simp; try rfl
    try simp only [Act.put, pu1, pu2, pu3]
    apply rg_yp (i := 7) Hops rfl hS rfl
    · intro _ hq; clear hq; go_simp; try rfl
    try simp only [Act.put, pu1, pu2, pu3]
    apply rg_yg (i := 8) Hops rfl hS rfl rfl rfl rfl
    · intro wq hq; obtain ⟨hqc, -⟩ := bcell (show Below W0.heap.size W0 wq from hq); clear hq; go_simp; try rfl
    try simp only [Act.put, pu1, pu2, pu3]
    apply rg_yg (i := 9) Hops rfl hS rfl rfl rfl rfl
    · intro wq hq; obtain ⟨hqc, -⟩ := bcell (show Below W0.heap.size W0 wq from hq); clear hq; go_simp; try rfl
    try simp only [Act.put, pu1, pu2, pu3]
    apply rg_yg (i := 10) Hops rfl hS rfl rfl rfl rfl
    · intro _ hq; clear hq; go_simp; try rfl
    try simp only [Act.put, pu1, pu2, pu3]
    refine rg_call (i := 11) (get_of Hops rfl) (fun K hK => ?_)
    have HSrg := Lib.hid hS; clear hS
    refine rg_run (wanted_yes rfl (get_of Hops rfl) rfl rfl) ?_
    go_simp
    refine (HK1.out _ (bT HB0.out HSrg.out)).mono ?_
    rintro e wr2 ⟨rfl, hbr2⟩
    have hS : Since W0 wr2 := bT (w := W0) HSrg.out hbr2
    clear HSrg
    refine hK.out _ _ hS (fun _ => ?_)
    clear hK K
    try simp only [Act.put, pu1, pu2, pu3]
    apply rg_yg (i := 12) Hops rfl hS rfl rfl rfl rfl
    · intro _ hq; clear hq; go_simp; try rfl
    try simp only [Act.put, pu1, pu2, pu3]
    apply rg_yp (i := 13) Hops rfl hS rfl
    · intro _ hq; clear hq; go_simp; try rfl
    try simp only [Act.put, pu1, pu2, pu3]
    refine rg_done ?_
    refine HQrg.down _ _ ?_
    have hB : Below W0.heap.size W0 wr2 := hS
    clear hS HQrg Hops
    have hr := Hr.out
    simp only [Bool.and_false, Bool.false_eq_true, if_false] at hr
    subst hr
    go_wp2_with fail
    go_ret
    exact ⟨Al, cl, rfl, bT HB0.out hB, HL.out.mono (bT HB0.out hB)⟩
  case true =>
    go_upto_region 2 with fail
    refine rg_start (Since W0) (.take 0 1 (.take 1 3 (.take 2 7 (.take 3 15 (.take 4 31 (.call 5 63 (.take 6 127 (.take 7 255 (.take 8 511 (.take 9 1023 (.take 10 2047 (.call 11 4095 (.take 12 8191 (.take 13 16383 (.done))))))))))))))) (by kernel_rfl) (bD (bR _)) (by kernel_rfl) (by kernel_rfl) (Nat.le_of_ble_eq_true (by kernel_rfl)) ?_
    intro opsR QR Hops HQrg hS
    apply rg_yp (i := 0) Hops rfl hS rfl
    · intro wq hq; obtain ⟨hqc, -⟩ := bcell (show Below W0.heap.size W0 wq from hq); clear hq; go_simp; try rfl
    try simp only [Act.put, pu1, pu2, pu3]
    apply rg_yp (i := 1) Hops rfl hS rfl
    · intro _ hq; clear hq; go_simp; try rfl
    try simp only [Act.put, pu1, pu2, pu3]
    apply rg_yp (i := 2) Hops rfl hS rfl
    · intro _ hq; clear hq; go_simp; try rfl
    try simp only [Act.put, pu1, pu2, pu3]
    apply rg_yp (i := 3) Hops rfl hS rfl
    · intro wq hq; obtain ⟨hqc, -⟩ := bcell (show Below W0.heap.size W0 wq from hq); clear hq; go_simp; try rfl
    try simp only [Act.put, pu1, pu2, pu3]
    apply rg_yp (i := 4) Hops rfl hS rfl
    · intro _ hq; clear hq; go_simp; try rfl
    try simp only [Act.put, pu1, pu2, pu3]
    refine rg_call (i := 5) (get_of Hops rfl) (fun K hK => ?_)
    have HSrg := Lib.hid hS; clear hS
    refine rg_run (wanted_plain rfl) ?_
    go_simp
    refine (HK0.out _ (bT HB0.out HSrg.out)).mono ?_
    rintro e wr1 ⟨rfl, hbr1⟩
    have hS : Since W0 wr1 := bT (w := W0) HSrg.out hbr1
    clear HSrg
    refine hK.out _ _ hS (fun _ => ?_)
    clear hK K
    try simp only [Act.put, pu1, pu2, pu3]
    apply rg_yp (i := 6) Hops rfl hS rfl
    · intro _ hq; clear hq; go_simp; try rfl
    try simp only [Act.put, pu1, pu2, pu3]
    apply rg_yp (i := 7) Hops rfl hS rfl
    · intro _ hq; clear hq; go_simp; try rfl
    try simp only [Act.put, pu1, pu2, pu3]
    apply rg_yg (i := 8) Hops rfl hS rfl rfl rfl rfl
    · intro wq hq; obtain ⟨hqc, -⟩ := bcell (show Below W0.heap.size W0 wq from hq); clear hq; go_simp; try rfl
    try simp only [Act.put, pu1, pu2, pu3]
    apply rg_yg (i := 9) Hops rfl hS rfl rfl rfl rfl
    · intro wq hq; obtain ⟨hqc, -⟩ := bcell (show Below W0.heap.size W0 wq from hq); clear hq; go_simp; try rfl
    try simp only [Act.put, pu1, pu2, pu3]
    apply rg_yg (i := 10) Hops rfl hS rfl rfl rfl rfl
    · intro _ hq; clear hq; go_simp; try rfl
    try simp only [Act.put, pu1, pu2, pu3]
    refine rg_call (i := 11) (get_of Hops rfl) (fun K hK => ?_)
    have HSrg := Lib.hid hS; clear hS
    refine rg_run (wanted_yes rfl (get_of Hops rfl) rfl rfl) ?_
    go_simp
    refine (HK1.out _ (bT HB0.out HSrg.out)).mono ?_
    rintro e wr2 ⟨rfl, hbr2⟩
    have hS : Since W0 wr2 := bT (w := W0) HSrg.out hbr2
    clear HSrg
    refine hK.out _ _ hS (fun _ => ?_)
    clear hK K
    try simp only [Act.put, pu1, pu2, pu3]
    apply rg_yg (i := 12) Hops rfl hS rfl rfl rfl rfl
    · intro _ hq; clear hq; go_simp; try rfl
    try simp only [Act.put, pu1, pu2, pu3]
    apply rg_yp (i := 13) Hops rfl hS rfl
    · intro _ hq; clear hq; go_simp; try rfl
    try simp only [Act.put, pu1, pu2, pu3]
    refine rg_done ?_
    refine HQrg.down _ _ ?_
    have hB : Below W0.heap.size W0 wr2 := hS
    clear hS HQrg Hops
    have hr := Hr.out
    simp only [Bool.and_self, if_true] at hr
    subst hr
    have B1 := Lib.hid (bT HB0.out hB)
    have X1 := HX1.out.keep hB
    have X2 := HX2.out.keep hB
    clear X1l X1a X1b X1c X1d X1e X2l X2a X2b c0 c1 hbl hB
    try clear X1l
    try clear X1a
    try clear X1b
    try clear X1c
    try clear X1d
    try clear X1e
    try clear X1fa
    try clear X1fb
    try clear X1fc
    try clear X1fd
    try clear X1fe
    obtain ⟨X1l, X1a, X1b, X1c, X1d, X1e, -, -, -, -, -⟩ := X1.facts5
    try clear X2l
    try clear X2a
    try clear X2b
    try clear X2fa
    try clear X2fb
    obtain ⟨X2l, X2a, X2b, -, -⟩ := X2.facts2
    go_wp2_with fail
    refine (HA.out _).mono ?_
    rintro e wb ⟨rfl, hb2⟩
    have B2 := Lib.hid (bT B1.out hb2)
    have TAd := Add_spec _ l ⟨zz, arc, out⟩ wb (HL.out.mono B2.out) hl
    unfold crV at TAd
    have HAd := Lib.hid TAd
    clear TAd hb2
    go_wp2_with fail
    refine HAd.out.mono ?_
    rintro e wc ⟨A3, c3, rfl, hb3, ho3⟩
    have Ho3 := Lib.hid ho3
    have B3 := Lib.hid (bT B2.out hb3)
    clear ho3 hb3
    go_wp2_with fail
    go_ret
    exact ⟨A3, c3, rfl, B3.out, Own.sl Ho3.out⟩
end Go.Proofs.YtbjlnnfmcjbnhaaGreatDoor
