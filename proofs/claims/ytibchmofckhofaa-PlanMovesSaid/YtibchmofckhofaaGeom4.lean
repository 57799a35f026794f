/- Package geom, at last: Meet. -/
import Derived.Test.YtibchmofckhofaaGeom3
import Derived.Test.YtibchmofckhofaaGB
set_option linter.unusedSimpArgs false
set_option linter.unusedVariables false
namespace Go.Proofs.Ytibchmofckhofaa
open Go.RowKit

def meetS (a b c d : Pt) : Int :=
  if nears [a, b, c, d] = true then
    if a = b then (if onS c d a then 1 else 0)
    else if c = d then (if onS a b c then 1 else 0)
    else if sideS a b c = 0 ∧ sideS a b d = 0 then sharedS a b c d
    else if sideS a b c * sideS a b d ≤ 0 ∧ sideS c d a * sideS c d b ≤ 0 then 1 else 0
  else 0

theorem side3 (a b c : Pt) : -1 ≤ sideS a b c ∧ sideS a b c ≤ 1 := by
  unfold sideS
  split
  · omega
  · split <;> omega

set_option maxRecDepth 100000 in
set_option maxHeartbeats 4000000 in
theorem Meet_spec (a b c d : Pt) (w : World) :
    Calls Try.prog 81 #[ptV a, ptV b, ptV c, ptV d] w fun e w' => e = .returned (.int .i64 (meetS a b c d)) ∧ Below w.heap.size w w' := by
  have TS : ∀ p q r : Pt, ∀ W, Calls Try.prog 97 #[ptV p, ptV q, ptV r] W _ := fun p q r W => Side_spec p q r W
  have TO : ∀ p q r : Pt, ∀ W, Calls Try.prog 68 #[ptV p, ptV q, ptV r] W _ := fun p q r W => On_spec p q r W
  have TH : ∀ p q r s : Pt, ∀ W, Calls Try.prog 98 #[ptV p, ptV q, ptV r, ptV s] W _ := fun p q r s W => shared_spec p q r s W
  unfold ptV at TS TO TH ⊢
  have HS := Lib.hid TS; clear TS
  have HO := Lib.hid TO; clear TO
  have HH := Lib.hid TH; clear TH
  by_cases hn : nears [a, b, c, d] = true
  case neg =>
    have hn' : nears [a, b, c, d] = false := by simpa using hn
    have hm : meetS a b c d = 0 := by simp [meetS, hn']
    have Hm := Lib.hid hm
    clear hn hm
    go_enter Try.func81, Try.ntmps81
    go_wp2_with fail
    refine (near_spec _ [a, b, c, d] _ (Pts.lit4 (Blk.made (by simp) _ _))).mono ?_
    rintro e w1 ⟨rfl, hb1⟩
    go_wp2_with fail
    go_ret
    refine ⟨ret_int Hm.out.symm, ?_⟩
    repeat (first | with_reducible exact bR _ | with_reducible assumption | with_reducible refine bA ?_ _ | with_reducible refine bD ?_ | with_reducible refine bN ?_ _ | ((with_reducible refine bS ?_ ?_ _); rotate_left; (simp; try omega)) | ((with_reducible refine bT ?_ ?_); rotate_left; with_reducible assumption) | with_reducible refine bT ?_ (by assumption))
  case pos =>
  have Hn := Lib.hid hn
  go_enter Try.func81, Try.ntmps81
  go_wp2_with fail
  refine (near_spec _ [a, b, c, d] _ (Pts.lit4 (Blk.made (by simp) _ _))).mono ?_
  rintro e w1 ⟨rfl, hb1⟩
  have Bw : Below w.heap.size w w1 := by
    repeat (first | with_reducible exact bR _ | with_reducible assumption | with_reducible refine bA ?_ _ | with_reducible refine bD ?_ | with_reducible refine bN ?_ _ | ((with_reducible refine bS ?_ ?_ _); rotate_left; (simp; try omega)) | ((with_reducible refine bT ?_ ?_); rotate_left; with_reducible assumption) | with_reducible refine bT ?_ (by assumption))
  have X4 : Boxed w1 w.heap.size a := (((((Boxed.new _ a rfl).alloc _).alloc _).alloc _).alloc _).keep hb1
  have X5 : Boxed w1 (w.heap.size + 1) b := ((((Boxed.new _ b (by simp)).alloc _).alloc _).alloc _).keep hb1
  have X6 : Boxed w1 (w.heap.size + 1 + 1) c := (((Boxed.new _ c (by simp)).alloc _).alloc _).keep hb1
  have X7 : Boxed w1 (w.heap.size + 1 + 1 + 1) d := ((Boxed.new _ d (by simp)).alloc _).keep hb1
  clear hb1
  obtain ⟨x4l, x40, x41, -, -⟩ := X4.facts
  obtain ⟨x5l, x50, x51, -, -⟩ := X5.facts
  obtain ⟨x6l, x60, x61, -, -⟩ := X6.facts
  obtain ⟨x7l, x70, x71, -, -⟩ := X7.facts
  have hE1 := run_eql_pt a b
  have hE2 := run_eql_pt c d
  have hs1 := side3 a b c
  have hs2 := side3 a b d
  have hs3 := side3 c d a
  have hs4 := side3 c d b
  by_cases hab : a = b
  · have hm : meetS a b c d = if onS c d a then 1 else 0 := by rw [meetS, if_pos Hn.out, if_pos hab]
    have Hm := Lib.hid hm; clear hm
    have hab' : decide (a = b) = true := by simpa using hab
    have Hab := Lib.hid hab
    clear hab
    go_wp2_with fail
    refine (HO.out c d a _).mono ?_
    rintro e w2 ⟨rfl, hb2⟩
    cases h : onS c d a
    · rw [h] at Hm
      go_wp2_with fail
      go_ret
      refine ⟨ret_int Hm.out.symm, ?_⟩
      repeat (first | with_reducible exact bR _ | with_reducible assumption | with_reducible refine bA ?_ _ | with_reducible refine bD ?_ | with_reducible refine bN ?_ _ | ((with_reducible refine bS ?_ ?_ _); rotate_left; (simp; try omega)) | ((with_reducible refine bT ?_ ?_); rotate_left; with_reducible assumption) | with_reducible refine bT ?_ (by assumption))
    · rw [h] at Hm
      go_wp2_with fail
      go_ret
      refine ⟨ret_int Hm.out.symm, ?_⟩
      repeat (first | with_reducible exact bR _ | with_reducible assumption | with_reducible refine bA ?_ _ | with_reducible refine bD ?_ | with_reducible refine bN ?_ _ | ((with_reducible refine bS ?_ ?_ _); rotate_left; (simp; try omega)) | ((with_reducible refine bT ?_ ?_); rotate_left; with_reducible assumption) | with_reducible refine bT ?_ (by assumption))
  by_cases hcd : c = d
  · have hm : meetS a b c d = if onS a b c then 1 else 0 := by rw [meetS, if_pos Hn.out, if_neg hab, if_pos hcd]
    have Hm := Lib.hid hm; clear hm
    have hab' : decide (a = b) = false := by simpa using hab
    have hcd' : decide (c = d) = true := by simpa using hcd
    have Hcd := Lib.hid hcd
    clear hab hcd
    go_wp2_with fail
    refine (HO.out a b c _).mono ?_
    rintro e w2 ⟨rfl, hb2⟩
    cases h : onS a b c
    · rw [h] at Hm
      go_wp2_with fail
      go_ret
      refine ⟨ret_int Hm.out.symm, ?_⟩
      repeat (first | with_reducible exact bR _ | with_reducible assumption | with_reducible refine bA ?_ _ | with_reducible refine bD ?_ | with_reducible refine bN ?_ _ | ((with_reducible refine bS ?_ ?_ _); rotate_left; (simp; try omega)) | ((with_reducible refine bT ?_ ?_); rotate_left; with_reducible assumption) | with_reducible refine bT ?_ (by assumption))
    · rw [h] at Hm
      go_wp2_with fail
      go_ret
      refine ⟨ret_int Hm.out.symm, ?_⟩
      repeat (first | with_reducible exact bR _ | with_reducible assumption | with_reducible refine bA ?_ _ | with_reducible refine bD ?_ | with_reducible refine bN ?_ _ | ((with_reducible refine bS ?_ ?_ _); rotate_left; (simp; try omega)) | ((with_reducible refine bT ?_ ?_); rotate_left; with_reducible assumption) | with_reducible refine bT ?_ (by assumption))
  by_cases hl : sideS a b c = 0 ∧ sideS a b d = 0
  · have hm : meetS a b c d = sharedS a b c d := by rw [meetS, if_pos Hn.out, if_neg hab, if_neg hcd, if_pos hl]
    have Hm := Lib.hid hm; clear hm
    have hab' : decide (a = b) = false := by simpa using hab
    have hcd' : decide (c = d) = false := by simpa using hcd
    obtain ⟨l1, l2⟩ := hl
    have L1 := Lib.hid l1; have L2 := Lib.hid l2
    clear hab hcd l1 l2
    go_wp2_with fail
    refine (HS.out a b c _).mono ?_
    rintro e w2 ⟨rfl, hb2⟩
    rw [L1.out]
    replace Bw : Below w.heap.size w w2 := bT Bw hb2
    replace X4 := X4.keep hb2
    replace X5 := X5.keep hb2
    replace X6 := X6.keep hb2
    replace X7 := X7.keep hb2
    clear hb2 x4l x40 x41 x5l x50 x51 x6l x60 x61 x7l x70 x71
    obtain ⟨x4l, x40, x41, -, -⟩ := X4.facts
    obtain ⟨x5l, x50, x51, -, -⟩ := X5.facts
    obtain ⟨x7l, x70, x71, -, -⟩ := X7.facts
    go_wp2_with fail
    refine (HS.out a b d _).mono ?_
    rintro e w3 ⟨rfl, hb3⟩
    rw [L2.out]
    replace Bw : Below w.heap.size w w3 := bT Bw hb3
    replace X4 := X4.keep hb3
    replace X5 := X5.keep hb3
    replace X6 := X6.keep hb3
    replace X7 := X7.keep hb3
    clear hb3 x4l x40 x41 x5l x50 x51 x7l x70 x71
    obtain ⟨x4l, x40, x41, -, -⟩ := X4.facts
    obtain ⟨x5l, x50, x51, -, -⟩ := X5.facts
    obtain ⟨x6l, x60, x61, -, -⟩ := X6.facts
    obtain ⟨x7l, x70, x71, -, -⟩ := X7.facts
    go_wp2_with fail
    refine (HH.out a b c d _).mono ?_
    rintro e w4 ⟨rfl, hb4⟩
    go_wp2_with fail
    go_ret
    refine ⟨ret_int Hm.out.symm, ?_⟩
    repeat (first | with_reducible exact bR _ | with_reducible assumption | with_reducible refine bA ?_ _ | with_reducible refine bD ?_ | with_reducible refine bN ?_ _ | ((with_reducible refine bS ?_ ?_ _); rotate_left; (simp; try omega)) | ((with_reducible refine bT ?_ ?_); rotate_left; with_reducible assumption) | with_reducible refine bT ?_ (by assumption))
  have hm : meetS a b c d = if sideS a b c * sideS a b d ≤ 0 ∧ sideS c d a * sideS c d b ≤ 0 then 1 else 0 := by rw [meetS, if_pos Hn.out, if_neg hab, if_neg hcd, if_neg hl]
  have Hm := Lib.hid hm; clear hm
  have hab' : decide (a = b) = false := by simpa using hab
  have hcd' : decide (c = d) = false := by simpa using hcd
  have Hl := Lib.hid hl
  clear hab hcd hl
  go_upto_region 9 with fail
  go_cut [55] (fun s55 wx => s55 = .bool false ∧ Boxed wx w.heap.size a ∧ Boxed wx (w.heap.size + 1) b ∧ Boxed wx (w.heap.size + 1 + 1) c ∧ Boxed wx (w.heap.size + 1 + 1 + 1) d ∧ Below w.heap.size w wx)
  case first =>
    go_wp2_with fail
    refine (HS.out a b c _).mono ?_
    rintro e w2 ⟨rfl, hb2⟩
    replace Bw : Below w.heap.size w w2 := bT Bw hb2
    replace X4 := X4.keep hb2
    replace X5 := X5.keep hb2
    replace X6 := X6.keep hb2
    replace X7 := X7.keep hb2
    clear hb2 x4l x40 x41 x5l x50 x51 x6l x60 x61 x7l x70 x71
    by_cases hz : sideS a b c = 0
    · have hz2 : ¬ sideS a b d = 0 := fun h => Hl.out ⟨hz, h⟩
      have hz2' : (sideS a b d == 0) = false := by simpa using hz2
      have Hz2 := Lib.hid hz2; clear hz2
      rw [hz]
      clear hz
      obtain ⟨x4l, x40, x41, -, -⟩ := X4.facts
      obtain ⟨x5l, x50, x51, -, -⟩ := X5.facts
      obtain ⟨x7l, x70, x71, -, -⟩ := X7.facts
      go_wp2_with fail
      refine (HS.out a b d _).mono ?_
      rintro e w3 ⟨rfl, hb3⟩
      replace Bw : Below w.heap.size w w3 := bT Bw hb3
      replace X4 := X4.keep hb3
      replace X5 := X5.keep hb3
      replace X6 := X6.keep hb3
      replace X7 := X7.keep hb3
      clear hb3 x4l x40 x41 x5l x50 x51 x7l x70 x71
      go_wp2_with fail
      go_meet
      case rel => exact ⟨rfl, X4, X5, X6, X7, Bw⟩
    · have hz' : (sideS a b c == 0) = false := by simpa using hz
      have Hz := Lib.hid hz; clear hz
      go_wp2_with fail
      go_meet
      case rel => exact ⟨rfl, X4, X5, X6, X7, Bw⟩
  case rest =>
    clear X4 X5 X6 X7 Bw x4l x40 x41 x5l x50 x51 x6l x60 x61 x7l x70 x71 Hl
    obtain ⟨rfl, X4, X5, X6, X7, Bw⟩ := hcut
    obtain ⟨x4l, x40, x41, -, -⟩ := X4.facts
    obtain ⟨x5l, x50, x51, -, -⟩ := X5.facts
    obtain ⟨x6l, x60, x61, -, -⟩ := X6.facts
    obtain ⟨x7l, x70, x71, -, -⟩ := X7.facts
    go_upto_region 4 with fail
    obtain ⟨p1, p2⟩ := mul_bd (sideS a b c) (sideS a b d) 1 (by omega) (by omega) (by omega) (by omega)
    obtain ⟨p3, p4⟩ := mul_bd (sideS c d a) (sideS c d b) 1 (by omega) (by omega) (by omega) (by omega)
    simp only [Int.reduceMul, Int.reduceNeg] at p1 p2 p3 p4
    have hw1 : IntKind.i64.wrap (sideS a b c * sideS a b d) = sideS a b c * sideS a b d := IntWalk.i64_in _ (by omega)
    have hw2 : IntKind.i64.wrap (sideS c d a * sideS c d b) = sideS c d a * sideS c d b := IntWalk.i64_in _ (by omega)
    by_cases hg : sideS a b c * sideS a b d ≤ 0
    · have hg' : decide (sideS a b c * sideS a b d ≤ 0) = true := by simpa using hg
      clear hs1 hs2 hs3 hs4
      go_region_held3 (fun W => W.cell? ⟨w.heap.size, 0, none⟩ = some (.int .i64 a.x) ∧ W.cell? ⟨w.heap.size, 1, none⟩ = some (.int .i64 a.y) ∧ W.cell? ⟨w.heap.size + 1, 0, none⟩ = some (.int .i64 b.x) ∧ W.cell? ⟨w.heap.size + 1, 1, none⟩ = some (.int .i64 b.y) ∧ W.cell? ⟨w.heap.size + 1 + 1, 0, none⟩ = some (.int .i64 c.x) ∧ W.cell? ⟨w.heap.size + 1 + 1, 1, none⟩ = some (.int .i64 c.y) ∧ W.cell? ⟨w.heap.size + 1 + 1 + 1, 0, none⟩ = some (.int .i64 d.x) ∧ W.cell? ⟨w.heap.size + 1 + 1 + 1, 1, none⟩ = some (.int .i64 d.y)) ((repeat' apply And.intro) <;> (repeat (refine keepc (by assumption) ?_)) <;> (first | assumption | simp [*]))
          (first | (go_at_call 97; refine (HS.out _ _ _ _).mono ?_; rintro e w' ⟨rfl, hb'⟩))
      by_cases hg2 : sideS c d a * sideS c d b ≤ 0
      · have hq : meetS a b c d = 1 := by rw [Hm.out, if_pos ⟨hg, hg2⟩]
        have Hq := Lib.hid hq; clear hq Hm
        go_wp2_with fail
        go_ret
        refine ⟨ret_int Hq.out.symm, ?_⟩
        repeat (first | with_reducible exact bR _ | with_reducible assumption | with_reducible refine bA ?_ _ | with_reducible refine bD ?_ | with_reducible refine bN ?_ _ | ((with_reducible refine bS ?_ ?_ _); rotate_left; (simp; try omega)) | ((with_reducible refine bT ?_ ?_); rotate_left; with_reducible assumption) | with_reducible refine bT ?_ (by assumption))
      · have hq : meetS a b c d = 0 := by rw [Hm.out, if_neg (fun h => hg2 h.2)]
        have Hq := Lib.hid hq; clear hq Hm
        go_wp2_with fail
        go_ret
        refine ⟨ret_int Hq.out.symm, ?_⟩
        repeat (first | with_reducible exact bR _ | with_reducible assumption | with_reducible refine bA ?_ _ | with_reducible refine bD ?_ | with_reducible refine bN ?_ _ | ((with_reducible refine bS ?_ ?_ _); rotate_left; (simp; try omega)) | ((with_reducible refine bT ?_ ?_); rotate_left; with_reducible assumption) | with_reducible refine bT ?_ (by assumption))
    · have hg' : decide (sideS a b c * sideS a b d ≤ 0) = false := by simpa using hg
      have hq : meetS a b c d = 0 := by rw [Hm.out, if_neg (fun h => hg h.1)]
      have Hq := Lib.hid hq; clear hq Hm
      clear hs1 hs2 hs3 hs4
      refine rg_start (Since wc) (.take 0 1 (.take 1 3 (.take 2 7 (.take 4 23 (.take 5 55 (.take 6 119 (.call 3 127 (.call 7 255 (.take 8 511 (.take 9 1023 (.take 10 2047 (.take 11 4095 (.take 12 8191 (.take 13 16383 (.take 14 32767 (.take 15 65535 (.take 16 131071 (.take 17 262143 (.take 18 524287 (.take 19 1048575 (.take 20 2097151 (.take 21 4194303 (.take 22 8388607 (.done)))))))))))))))))))))))) (by kernel_rfl) (bD (bR _)) (by kernel_rfl) (by kernel_rfl) (Nat.le_of_ble_eq_true (by kernel_rfl)) ?_
      intro opsR QR Hops HQrg hS
      refine rg_take (i := 0) (get_of Hops rfl) hS ?_
      apply Exists.intro
      apply And.intro
      · refine .inl ⟨(wanted_plain rfl), fun wq hq => ?_⟩
        have hq' : Below wc.heap.size wc wq := hq
        obtain ⟨hqc, -⟩ := bcell hq'
        clear hq hq'
        go_simp
        try rfl
      try simp only [Act.put, List.setIfInBounds_toArray, List.set_cons_zero, List.set_cons_succ]
      refine rg_take (i := 1) (get_of Hops rfl) hS ?_
      apply Exists.intro
      apply And.intro
      · refine .inl ⟨(wanted_plain rfl), fun wq hq => ?_⟩
        have hq' : Below wc.heap.size wc wq := hq
        obtain ⟨hqc, -⟩ := bcell hq'
        clear hq hq'
        go_simp
        try rfl
      try simp only [Act.put, List.setIfInBounds_toArray, List.set_cons_zero, List.set_cons_succ]
      refine rg_take (i := 2) (get_of Hops rfl) hS ?_
      apply Exists.intro
      apply And.intro
      · refine .inl ⟨(wanted_plain rfl), fun wq hq => ?_⟩
        have hq' : Below wc.heap.size wc wq := hq
        obtain ⟨hqc, -⟩ := bcell hq'
        clear hq hq'
        go_simp
        try rfl
      try simp only [Act.put, List.setIfInBounds_toArray, List.set_cons_zero, List.set_cons_succ]
      refine rg_take (i := 4) (get_of Hops rfl) hS ?_
      apply Exists.intro
      apply And.intro
      · refine .inl ⟨(wanted_plain rfl), fun wq hq => ?_⟩
        have hq' : Below wc.heap.size wc wq := hq
        obtain ⟨hqc, -⟩ := bcell hq'
        clear hq hq'
        go_simp
        try rfl
      try simp only [Act.put, List.setIfInBounds_toArray, List.set_cons_zero, List.set_cons_succ]
      refine rg_take (i := 5) (get_of Hops rfl) hS ?_
      apply Exists.intro
      apply And.intro
      · refine .inl ⟨(wanted_plain rfl), fun wq hq => ?_⟩
        have hq' : Below wc.heap.size wc wq := hq
        obtain ⟨hqc, -⟩ := bcell hq'
        clear hq hq'
        go_simp
        try rfl
      try simp only [Act.put, List.setIfInBounds_toArray, List.set_cons_zero, List.set_cons_succ]
      refine rg_take (i := 6) (get_of Hops rfl) hS ?_
      apply Exists.intro
      apply And.intro
      · refine .inl ⟨(wanted_plain rfl), fun wq hq => ?_⟩
        have hq' : Below wc.heap.size wc wq := hq
        obtain ⟨hqc, -⟩ := bcell hq'
        clear hq hq'
        go_simp
        try rfl
      try simp only [Act.put, List.setIfInBounds_toArray, List.set_cons_zero, List.set_cons_succ]
      refine rg_call (i := 3) (get_of Hops rfl) (fun K hK => ?_)
      have HSrg := Lib.hid hS; clear hS
      refine rg_run (wanted_plain rfl) ?_
      go_simp
      refine (HS.out a b c _).mono ?_
      rintro e wr1 ⟨rfl, hbr1⟩
      have hS : Since wc wr1 := bT (w := wc) HSrg.out hbr1
      clear HSrg
      refine hK.out _ _ hS (fun _ => ?_)
      clear hK K
      try simp only [Act.put, List.setIfInBounds_toArray, List.set_cons_zero, List.set_cons_succ]
      refine rg_call (i := 7) (get_of Hops rfl) (fun K hK => ?_)
      have HSrg := Lib.hid hS; clear hS
      refine rg_run (wanted_plain rfl) ?_
      go_simp
      refine (HS.out a b d _).mono ?_
      rintro e wr2 ⟨rfl, hbr2⟩
      have hS : Since wc wr2 := bT (w := wc) HSrg.out hbr2
      clear HSrg
      refine hK.out _ _ hS (fun _ => ?_)
      clear hK K
      try simp only [Act.put, List.setIfInBounds_toArray, List.set_cons_zero, List.set_cons_succ]
      refine rg_take (i := 8) (get_of Hops rfl) hS ?_
      apply Exists.intro
      apply And.intro
      · refine .inl ⟨(wanted_plain rfl), fun wq hq => ?_⟩
        clear hq
        go_simp
        try rfl
      try simp only [Act.put, List.setIfInBounds_toArray, List.set_cons_zero, List.set_cons_succ]
      refine rg_take (i := 9) (get_of Hops rfl) hS ?_
      apply Exists.intro
      apply And.intro
      · refine .inl ⟨(wanted_plain rfl), fun wq hq => ?_⟩
        clear hq
        go_simp
        try rfl
      try simp only [Act.put, List.setIfInBounds_toArray, List.set_cons_zero, List.set_cons_succ]
      refine rg_take (i := 10) (get_of Hops rfl) hS ?_
      apply Exists.intro
      apply And.intro
      · refine .inl ⟨(wanted_plain rfl), fun wq hq => ?_⟩
        clear hq
        go_simp
        try rfl
      try simp only [Act.put, List.setIfInBounds_toArray, List.set_cons_zero, List.set_cons_succ]
      refine rg_take (i := 11) (get_of Hops rfl) hS ?_
      apply Exists.intro
      apply And.intro
      · exact .inr ⟨wanted_no rfl (get_of Hops rfl) rfl rfl rfl, rfl⟩
      try simp only [Act.put, List.setIfInBounds_toArray, List.set_cons_zero, List.set_cons_succ]
      refine rg_take (i := 12) (get_of Hops rfl) hS ?_
      apply Exists.intro
      apply And.intro
      · exact .inr ⟨wanted_no rfl (get_of Hops rfl) rfl rfl rfl, rfl⟩
      try simp only [Act.put, List.setIfInBounds_toArray, List.set_cons_zero, List.set_cons_succ]
      refine rg_take (i := 13) (get_of Hops rfl) hS ?_
      apply Exists.intro
      apply And.intro
      · exact .inr ⟨wanted_no rfl (get_of Hops rfl) rfl rfl rfl, rfl⟩
      try simp only [Act.put, List.setIfInBounds_toArray, List.set_cons_zero, List.set_cons_succ]
      refine rg_take (i := 14) (get_of Hops rfl) hS ?_
      apply Exists.intro
      apply And.intro
      · exact .inr ⟨wanted_no rfl (get_of Hops rfl) rfl rfl rfl, rfl⟩
      try simp only [Act.put, List.setIfInBounds_toArray, List.set_cons_zero, List.set_cons_succ]
      refine rg_take (i := 15) (get_of Hops rfl) hS ?_
      apply Exists.intro
      apply And.intro
      · exact .inr ⟨wanted_no rfl (get_of Hops rfl) rfl rfl rfl, rfl⟩
      try simp only [Act.put, List.setIfInBounds_toArray, List.set_cons_zero, List.set_cons_succ]
      refine rg_take (i := 16) (get_of Hops rfl) hS ?_
      apply Exists.intro
      apply And.intro
      · exact .inr ⟨wanted_no rfl (get_of Hops rfl) rfl rfl rfl, rfl⟩
      try simp only [Act.put, List.setIfInBounds_toArray, List.set_cons_zero, List.set_cons_succ]
      refine rg_take (i := 17) (get_of Hops rfl) hS ?_
      apply Exists.intro
      apply And.intro
      · exact .inr ⟨wanted_no rfl (get_of Hops rfl) rfl rfl rfl, rfl⟩
      try simp only [Act.put, List.setIfInBounds_toArray, List.set_cons_zero, List.set_cons_succ]
      refine rg_take (i := 18) (get_of Hops rfl) hS ?_
      apply Exists.intro
      apply And.intro
      · exact .inr ⟨wanted_no rfl (get_of Hops rfl) rfl rfl rfl, rfl⟩
      try simp only [Act.put, List.setIfInBounds_toArray, List.set_cons_zero, List.set_cons_succ]
      refine rg_take (i := 19) (get_of Hops rfl) hS ?_
      apply Exists.intro
      apply And.intro
      · exact .inr ⟨wanted_no rfl (get_of Hops rfl) rfl rfl rfl, rfl⟩
      try simp only [Act.put, List.setIfInBounds_toArray, List.set_cons_zero, List.set_cons_succ]
      refine rg_take (i := 20) (get_of Hops rfl) hS ?_
      apply Exists.intro
      apply And.intro
      · exact .inr ⟨wanted_no rfl (get_of Hops rfl) rfl rfl rfl, rfl⟩
      try simp only [Act.put, List.setIfInBounds_toArray, List.set_cons_zero, List.set_cons_succ]
      refine rg_take (i := 21) (get_of Hops rfl) hS ?_
      apply Exists.intro
      apply And.intro
      · refine .inl ⟨(wanted_plain rfl), fun wq hq => ?_⟩
        clear hq
        go_simp
        try rfl
      try simp only [Act.put, List.setIfInBounds_toArray, List.set_cons_zero, List.set_cons_succ]
      refine rg_take (i := 22) (get_of Hops rfl) hS ?_
      apply Exists.intro
      apply And.intro
      · refine .inl ⟨(wanted_plain rfl), fun wq hq => ?_⟩
        clear hq
        go_simp
        try rfl
      try simp only [Act.put, List.setIfInBounds_toArray, List.set_cons_zero, List.set_cons_succ]
      refine rg_done ?_
      refine HQrg.down _ _ ?_
      have hB : Below wc.heap.size wc wr2 := hS
      clear hS HQrg Hops
      go_wp2_with fail
      go_ret
      refine ⟨ret_int Hq.out.symm, ?_⟩
      repeat (first | with_reducible exact bR _ | with_reducible assumption | with_reducible refine bA ?_ _ | with_reducible refine bD ?_ | with_reducible refine bN ?_ _ | ((with_reducible refine bS ?_ ?_ _); rotate_left; (simp; try omega)) | ((with_reducible refine bT ?_ ?_); rotate_left; with_reducible assumption) | with_reducible refine bT ?_ (by assumption))
end Go.Proofs.Ytibchmofckhofaa
