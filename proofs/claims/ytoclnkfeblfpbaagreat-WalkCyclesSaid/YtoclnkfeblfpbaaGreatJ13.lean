/- geom: near, twice, lower, Less (draws counted); mapsheetsref08: quarter, Less. slices.Clone at points, plan.Arc, mapsheetsref14.Arc for lists of up to 2^43 points. (printed by gen/arcl.py) -/
import Derived.Test.YtoclnkfeblfpbaaGreatPAng0
import Derived.Test.YtoclnkfeblfpbaaGreatJ04
import Derived.Test.YtoclnkfeblfpbaaGreatGB
import Derived.Test.YtoclnkfeblfpbaaGreatJ02
set_option linter.unusedSimpArgs false
set_option linter.unusedVariables false
namespace Go.Proofs.YtoclnkfeblfpbaaGreat
open Go.RowKit

set_option maxHeartbeats 400000 in
theorem near_specD (v : Value) (l : List Pt) (w : World) (h : Pts w v l) :
    Calls Tryz.prog 74 #[v] w fun e w' => e = .returned (.bool (nears l)) ∧ BelowD w w' := by
  obtain ⟨A, c, rfl, hn, hc, hR⟩ := h
  unfold maxLen at hc
  go_enter Tryz.func74, Tryz.ntmps74
  go_wp2_with fail
  go_loopw [7] (fun i wr => ∃ k : Nat, k ≤ l.length ∧ i = .int .i64 k ∧ BelowD w wr ∧ ∀ j (hj : j < l.length), j < k → near1 l[j] = true) (fun i _ => l.length - (intOf i).toNat)
  case atStart => exact ⟨0, Nat.zero_le _, rfl, ⟨Below.refl _ _, dR w⟩, fun j _ h => by omega⟩
  case round =>
    obtain ⟨k, hk, rfl, hb, hno⟩ := hrel
    have Hb := Lib.hid hb.1
    have Hd := Lib.hid hb.2
    have Hno := Lib.hid hno
    have hs := hb.1.size
    clear hb hno
    by_cases hlt : k < l.length
    · obtain ⟨b, o, rfl, hlb, c0, c1⟩ := (hR.mono Hb.out).pt hlt
      have HR := Lib.hid hR; clear hR
      by_cases hnr : near1 l[k] = true
      · have Hn := Lib.hid hnr
        obtain ⟨n1, n2, n3, n4⟩ := (near1_iff _).1 hnr
        clear hnr
        go_wp2
        go_roundw
        case rel => exact ⟨k + 1, by omega, by go_num, ⟨Hb.out.alloc hs _, dA Hd.out _⟩, all_succ (p := fun x => near1 x = true) Hno.out hlt Hn.out⟩
        case measure => simp [intOf]; omega
      · have hn' : near1 l[k] = false := by simpa using hnr
        have Hf := Lib.hid (nears_hit l k hlt hn')
        clear hn'
        have Hnr := Lib.hid hnr; clear hnr
        go_wp2
        all_goals first
          | (go_ret; exact ⟨ret_bool Hf.out.symm, Hb.out.alloc hs _, dA Hd.out _⟩)
          | (exfalso; exact Hnr.out ((near1_iff _).2 ⟨by omega, by omega, by omega, by omega⟩))
    · go_wp2
      go_ret
      exact ⟨ret_bool (nears_all l fun j hj => Hno.out j hj (by omega)).symm, Hb.out, Hd.out⟩
set_option maxHeartbeats 400000 in
theorem twice_specD (a b c : Pt) (w : World) (ha : lim a) (hb : lim b) (hc : lim c) :
    Calls Tryz.prog 76 #[ptV a, ptV b, ptV c] w fun e w' => e = .returned (.int .i64 (tw a b c)) ∧ BelowD w w' := by
  obtain ⟨a1, a2, a3, a4⟩ := ha
  obtain ⟨b1, b2, b3, b4⟩ := hb
  obtain ⟨c1, c2, c3, c4⟩ := hc
  obtain ⟨m1, m2⟩ := mul_bd (b.x - a.x) (c.y - a.y) 4194304 (by omega) (by omega) (by omega) (by omega)
  obtain ⟨m3, m4⟩ := mul_bd (b.y - a.y) (c.x - a.x) 4194304 (by omega) (by omega) (by omega) (by omega)
  simp only [Int.reduceMul, Int.reduceNeg] at m1 m2 m3 m4
  unfold ptV
  go_enter Tryz.func76, Tryz.ntmps76
  go_wp2
  go_ret
  exact ⟨ret_int rfl, (((Below.refl _ _).alloc (Nat.le_refl _) _).alloc (by simp) _).alloc (by simp; omega) _, dA (dA (dA (dR w) _) _) _⟩
set_option maxHeartbeats 1000000 in
theorem lower_spec (o p : Pt) (w : World) : Calls Tryz.prog 75 #[ptV o, ptV p] w fun e w' => e = .returned (.bool (lowS o p)) ∧ BelowD w w' := by
  unfold ptV lowS
  by_cases h1 : p.y < o.y
  · go_enter Tryz.func75, Tryz.ntmps75
    go_wp2_with fail
    go_ret
    exact ⟨ret_bool (by simp [h1]), bA (bA (bR w) _) _, dA (dA (dR w) _) _⟩
  · by_cases h2 : p.y = o.y
    · have h2' : (p.y == o.y) = true := by simpa using h2
      have H2 := Lib.hid h2
      clear h2
      by_cases h3 : p.x < o.x
      · go_enter Tryz.func75, Tryz.ntmps75
        go_wp2_with fail
        go_ret
        exact ⟨ret_bool (by simp [h1, H2.out, h3]), bA (bA (bR w) _) _, dA (dA (dR w) _) _⟩
      · go_enter Tryz.func75, Tryz.ntmps75
        go_wp2_with fail
        go_ret
        exact ⟨ret_bool (by simp [h1, H2.out, h3]), bA (bA (bR w) _) _, dA (dA (dR w) _) _⟩
    · have h2' : (p.y == o.y) = false := by simpa using h2
      have H2 := Lib.hid h2
      clear h2
      go_enter Tryz.func75, Tryz.ntmps75
      go_wp2_with fail
      go_ret
      exact ⟨ret_bool (by simp [h1, H2.out]), bA (bA (bR w) _) _, dA (dA (dR w) _) _⟩
theorem lim_near {p : Pt} (h : near1 p = true) : lim p := (near1_iff p).1 h
theorem nears_lim {a b c : Pt} (h : nears [a, b, c] = true) : lim a ∧ lim b ∧ lim c := by
  simp only [nears, List.all_cons, List.all_nil, Bool.and_true, Bool.and_eq_true] at h
  exact ⟨lim_near h.1, lim_near h.2.1, lim_near h.2.2⟩

set_option maxRecDepth 100000 in
set_option maxHeartbeats 4000000 in
theorem Less_spec (o a b : Pt) (w : World) : Calls Tryz.prog 50 #[ptV o, ptV a, ptV b] w fun e w' => e = .returned (.bool (lessS o a b)) ∧ BelowD w w' := by
  have TN := fun (v : Value) W => near_specD v [o, a, b] W
  have TL1 := fun W => lower_spec o a W
  have TL2 := fun W => lower_spec o b W
  have TT := fun (h : nears [o, a, b] = true) W => twice_specD o a b W (nears_lim h).1 (nears_lim h).2.1 (nears_lim h).2.2
  have E1 := run_eql_pt a o
  have E2 := run_eql_pt b o
  obtain ⟨r, hr⟩ : ∃ r, lessS o a b = r := ⟨_, rfl⟩
  rw [hr]
  unfold lessS at hr
  unfold ptV at TL1 TL2 TT ⊢
  have HN := Lib.hid TN; have H1 := Lib.hid TL1; have H2 := Lib.hid TL2; have HT := Lib.hid TT
  clear TN TL1 TL2 TT
  generalize hz : nears [o, a, b] = z at *
  generalize decide (a = o) = z1 at *
  generalize decide (b = o) = z2 at *
  generalize hl1 : lowS o a = l1 at *
  generalize hl2 : lowS o b = l2 at *
  generalize hq : decide (0 < tw o a b) = q at *
  have Hr := Lib.hid hr; have Hq := Lib.hid hq; have Hz := Lib.hid hz
  clear hr hq hz hl1 hl2
  go_enter Tryz.func50, Tryz.ntmps50
  go_wp2_with fail
  have HPts : Hid (Pts ((((w.alloc (.cells #[.int .i64 o.x, .int .i64 o.y] 41)).alloc (.cells #[.int .i64 a.x, .int .i64 a.y] 41)).alloc (.cells #[.int .i64 b.x, .int .i64 b.y] 41)).alloc (.cells #[.int .i64 o.x, .int .i64 o.y, .int .i64 a.x, .int .i64 a.y, .int .i64 b.x, .int .i64 b.y] 41)) (.slice (some ⟨w.heap.size + 1 + 1 + 1, 0, none⟩) 3 3) [o, a, b]) := Lib.hid (Pts.lit3 (Blk.made (by simp) _ _))
  refine (HN.out _ _ HPts.out).mono ?_
  rintro e w1 ⟨rfl, hb1, hd1⟩
  have B1 := Lib.hid (bT (bA (bA (bA (bA (bR w) _) _) _) _) hb1)
  have D1 := Lib.hid (dT (dA (dA (dA (dA (dR w) _) _) _) _) hd1)
  have HX3 := Lib.hid (show Blk w1 w.heap.size 41 #[.int .i64 o.x, .int .i64 o.y] from ((((Blk.made rfl _ _).alloc _).alloc _).alloc _).keep hb1)
  have HX4 := Lib.hid (show Blk w1 (w.heap.size + 1) 41 #[.int .i64 a.x, .int .i64 a.y] from (((Blk.made (by simp) _ _).alloc _).alloc _).keep hb1)
  have HX5 := Lib.hid (show Blk w1 (w.heap.size + 1 + 1) 41 #[.int .i64 b.x, .int .i64 b.y] from ((Blk.made (by simp) _ _).alloc _).keep hb1)
  clear hb1 hd1 HPts HN
  have X3 := HX3.out; have X4 := HX4.out; have X5 := HX5.out
  try clear X3l
  try clear X3a
  try clear X3b
  try clear X3fa
  try clear X3fb
  obtain ⟨X3l, X3a, X3b, -, -⟩ := X3.facts2
  try clear X4l
  try clear X4a
  try clear X4b
  try clear X4fa
  try clear X4fb
  obtain ⟨X4l, X4a, X4b, -, -⟩ := X4.facts2
  try clear X5l
  try clear X5a
  try clear X5b
  try clear X5fa
  try clear X5fb
  obtain ⟨X5l, X5a, X5b, -, -⟩ := X5.facts2
  cases z
  case false =>
    go_wp2_with fail
    go_ret
    exact ⟨ret_bool (by rw [← Hr.out]; rfl), B1.out, D1.out⟩
  cases z1
  case true =>
    go_wp2_with fail
    go_ret
    exact ⟨ret_bool (by rw [← Hr.out]; rfl), B1.out, D1.out⟩
  cases z2
  case true =>
    go_wp2_with fail
    go_ret
    exact ⟨ret_bool (by rw [← Hr.out]; rfl), B1.out, D1.out⟩
  have hr := Hr.out
  simp only [Bool.true_and, Bool.not_false] at hr
  have HT2 := Lib.hid (HT.out rfl)
  clear HT Hr Hz
  go_upto_region 3 with fail
  refine rg_start (Since w1) (.take 0 1 (.take 1 3 (.take 3 11 (.take 4 27 (.call 2 31 (.call 5 63 (.take 6 127 (.done)))))))) (by kernel_rfl) (bD (bR _)) (by kernel_rfl) (by kernel_rfl) (Nat.le_of_ble_eq_true (by kernel_rfl)) ?_
  intro opsR QR Hops HQrg hS
  apply rg_yp (i := 0) Hops rfl hS rfl
  · intro wq hq; obtain ⟨hqc, -⟩ := bcell (show Below w1.heap.size w1 wq from hq); clear hq; go_simp; try rfl
  try simp only [Act.put, pu1, pu2, pu3]
  apply rg_yp (i := 1) Hops rfl hS rfl
  · intro wq hq; obtain ⟨hqc, -⟩ := bcell (show Below w1.heap.size w1 wq from hq); clear hq; go_simp; try rfl
  try simp only [Act.put, pu1, pu2, pu3]
  apply rg_yp (i := 3) Hops rfl hS rfl
  · intro wq hq; obtain ⟨hqc, -⟩ := bcell (show Below w1.heap.size w1 wq from hq); clear hq; go_simp; try rfl
  try simp only [Act.put, pu1, pu2, pu3]
  apply rg_yp (i := 4) Hops rfl hS rfl
  · intro wq hq; obtain ⟨hqc, -⟩ := bcell (show Below w1.heap.size w1 wq from hq); clear hq; go_simp; try rfl
  try simp only [Act.put, pu1, pu2, pu3]
  refine rg_call (i := 2) (get_of Hops rfl) (fun K hK => ?_)
  have HSrg := Lib.hid hS; clear hS
  refine rg_run (wanted_plain rfl) ?_
  go_simp
  refine (H1.out _).mono ?_
  rintro e wr1 ⟨rfl, hbr1, hdr1⟩
  have hS : Since w1 wr1 := bT (w := w1) HSrg.out hbr1
  clear HSrg
  refine hK.out _ _ hS (fun _ => ?_)
  clear hK K
  try simp only [Act.put, pu1, pu2, pu3]
  refine rg_call (i := 5) (get_of Hops rfl) (fun K hK => ?_)
  have HSrg := Lib.hid hS; clear hS
  refine rg_run (wanted_plain rfl) ?_
  go_simp
  refine (H2.out _).mono ?_
  rintro e wr2 ⟨rfl, hbr2, hdr2⟩
  have hS : Since w1 wr2 := bT (w := w1) HSrg.out hbr2
  clear HSrg
  refine hK.out _ _ hS (fun _ => ?_)
  clear hK K
  try simp only [Act.put, pu1, pu2, pu3]
  apply rg_yp (i := 6) Hops rfl hS rfl
  · intro _ hq; clear hq; go_simp; try rfl
  try simp only [Act.put, pu1, pu2, pu3]
  refine rg_done ?_
  refine HQrg.down _ _ ?_
  have hB : Below w1.heap.size w1 wr2 := hS
  clear hS HQrg Hops
  have B2 := Lib.hid (bT B1.out hB)
  have D2 := Lib.hid (dT (dT (dD D1.out) hdr1) hdr2)
  replace HX3 := Lib.hid (HX3.out.keep hB)
  replace HX4 := Lib.hid (HX4.out.keep hB)
  replace HX5 := Lib.hid (HX5.out.keep hB)
  clear hB hdr1 hdr2 X3 X4 X5 X3l X3a X3b X4l X4a X4b X5l X5a X5b
  have X3 := HX3.out; have X4 := HX4.out; have X5 := HX5.out
  try clear X3l
  try clear X3a
  try clear X3b
  try clear X3fa
  try clear X3fb
  obtain ⟨X3l, X3a, X3b, -, -⟩ := X3.facts2
  try clear X4l
  try clear X4a
  try clear X4b
  try clear X4fa
  try clear X4fb
  obtain ⟨X4l, X4a, X4b, -, -⟩ := X4.facts2
  try clear X5l
  try clear X5a
  try clear X5b
  try clear X5fa
  try clear X5fb
  obtain ⟨X5l, X5a, X5b, -, -⟩ := X5.facts2
  by_cases hl : l1 = l2
  · subst hl
    rw [if_pos rfl] at hr
    have Hr := Lib.hid hr
    clear hr
    cases l1
    all_goals
      go_wp2_with fail
      refine (HT2.out _).mono ?_
      rintro e w3 ⟨rfl, hb3, hd3⟩
      have B3 := Lib.hid (bT B2.out hb3)
      have D3 := Lib.hid (dT D2.out hd3)
      clear hb3 hd3
      go_wp2_with fail
      go_ret
      exact ⟨ret_bool (by rw [← Hr.out, ← Hq.out]), B3.out, D3.out⟩
  · rw [if_neg hl] at hr
    have Hr := Lib.hid hr
    have hl2 : l2 = !l1 := by cases l1 <;> cases l2 <;> simp_all
    clear hl hr
    subst hl2
    cases l1
    all_goals
      go_wp2_with fail
      refine (H2.out _).mono ?_
      rintro e w3 ⟨rfl, hb3, hd3⟩
      have B3 := Lib.hid (bT B2.out hb3)
      have D3 := Lib.hid (dT D2.out hd3)
      clear hb3 hd3
      go_wp2_with fail
      go_ret
      exact ⟨ret_bool Hr.out, B3.out, D3.out⟩

theorem quart_spec_aux (o a : Pt) : quartS o a = quartV (a.x - o.x) (a.y - o.y) := rfl
set_option maxRecDepth 100000 in
set_option maxHeartbeats 2000000 in
theorem quarter_spec (o a : Pt) (w : World) (ho : lim o) (ha : lim a) : Calls Tryz.prog 136 #[ptV o, ptV a] w fun e w' => e = .returned (.int .i64 (quartS o a)) ∧ Below w.heap.size w w' := by
  obtain ⟨o1, o2, o3, o4⟩ := ho
  obtain ⟨a1, a2, a3, a4⟩ := ha
  have k1 : IntKind.i64.wrap (a.x - o.x) = a.x - o.x := IntWalk.i64_in _ (by omega)
  have k2 : IntKind.i64.wrap (a.y - o.y) = a.y - o.y := IntWalk.i64_in _ (by omega)
  obtain ⟨q, hq⟩ : ∃ q, quartS o a = q := ⟨_, rfl⟩
  rw [hq]
  have Hq := Lib.hid hq
  unfold ptV
  clear o1 o2 o3 o4 a1 a2 a3 a4 hq
  go_enter Tryz.func136, Tryz.ntmps136
  go_upto_region 1 with fail
  obtain ⟨W, hW⟩ : ∃ W : World, W = (w.alloc (.cells #[.int .i64 o.x, .int .i64 o.y] 41)).alloc (.cells #[.int .i64 a.x, .int .i64 a.y] 41) := ⟨_, rfl⟩
  have BW : Below w.heap.size w W := by rw [hW]; exact bA (bA (bR w) _) _
  have X2 : Blk W w.heap.size 41 #[.int .i64 o.x, .int .i64 o.y] := by rw [hW]; exact (Blk.made rfl _ _).alloc _
  have X3 : Blk W (w.heap.size + 1) 41 #[.int .i64 a.x, .int .i64 a.y] := by rw [hW]; exact Blk.made (by simp) _ _
  rw [← hW]
  clear hW
  try clear X2l
  try clear X2a
  try clear X2b
  try clear X2fa
  try clear X2fb
  obtain ⟨X2l, X2a, X2b, -, -⟩ := X2.facts2
  try clear X3l
  try clear X3a
  try clear X3b
  try clear X3fa
  try clear X3fb
  obtain ⟨X3l, X3a, X3b, -, -⟩ := X3.facts2
  refine rg_start (Since W) (.take 0 1 (.take 1 3 (.take 2 7 (.take 3 15 (.take 4 31 (.take 5 63 (.take 6 127 (.take 7 255 (.take 8 511 (.take 9 1023 (.take 10 2047 (.take 11 4095 (.done))))))))))))) (by kernel_rfl) (bD (bR _)) (by kernel_rfl) (by kernel_rfl) (Nat.le_of_ble_eq_true (by kernel_rfl)) ?_
  intro opsR QR Hops HQrg hS
  apply rg_yp (i := 0) Hops rfl hS rfl
  · intro _ hq; clear hq; go_simp; try rfl
  try simp only [Act.put, pu1, pu2, pu3]
  apply rg_yp (i := 1) Hops rfl hS rfl
  · intro wq hq; obtain ⟨hqc, -⟩ := bcell (show Below W.heap.size W wq from hq); clear hq; go_simp; try rfl
  try simp only [Act.put, pu1, pu2, pu3]
  apply rg_yp (i := 2) Hops rfl hS rfl
  · intro _ hq; clear hq; go_simp; try rfl
  try simp only [Act.put, pu1, pu2, pu3]
  apply rg_yp (i := 3) Hops rfl hS rfl
  · intro wq hq; obtain ⟨hqc, -⟩ := bcell (show Below W.heap.size W wq from hq); clear hq; go_simp; try rfl
  try simp only [Act.put, pu1, pu2, pu3]
  apply rg_yp (i := 4) Hops rfl hS rfl
  · intro _ hq; clear hq; go_simp; try rfl
  try simp only [Act.put, pu1, pu2, pu3]
  apply rg_yp (i := 5) Hops rfl hS rfl
  · intro _ hq; clear hq; go_simp; try rfl
  try simp only [Act.put, pu1, pu2, pu3]
  apply rg_yp (i := 6) Hops rfl hS rfl
  · intro wq hq; obtain ⟨hqc, -⟩ := bcell (show Below W.heap.size W wq from hq); clear hq; go_simp; try rfl
  try simp only [Act.put, pu1, pu2, pu3]
  apply rg_yp (i := 7) Hops rfl hS rfl
  · intro _ hq; clear hq; go_simp; try rfl
  try simp only [Act.put, pu1, pu2, pu3]
  apply rg_yp (i := 8) Hops rfl hS rfl
  · intro wq hq; obtain ⟨hqc, -⟩ := bcell (show Below W.heap.size W wq from hq); clear hq; go_simp; try rfl
  try simp only [Act.put, pu1, pu2, pu3]
  apply rg_yp (i := 9) Hops rfl hS rfl
  · intro _ hq; clear hq; go_simp; try rfl
  try simp only [Act.put, pu1, pu2, pu3]
  apply rg_yp (i := 10) Hops rfl hS rfl
  · intro _ hq; clear hq; go_simp; try rfl
  try simp only [Act.put, pu1, pu2, pu3]
  apply rg_yp (i := 11) Hops rfl hS rfl
  · intro _ hq; clear hq; go_simp; try rfl
  try simp only [Act.put, pu1, pu2, pu3]
  refine rg_done ?_
  refine HQrg.down _ _ ?_
  have hB : Below W.heap.size W W.drew := hS
  clear hS HQrg Hops
  have B1 := Lib.hid (bT BW hB)
  clear hB BW X2 X3 X2l X2a X2b X3l X3a X3b
  have hqq := Hq.out
  unfold quartS at hqq
  generalize a.x - o.x = x at *
  generalize a.y - o.y = y at *
  replace Hq := Lib.hid hqq
  clear hqq
  by_cases h1 : 0 < x
  · by_cases h2 : 0 ≤ y
    · go_wp2_with fail
      go_ret
      exact ⟨ret_int (by rw [← Hq.out, if_pos (by omega)]), B1.out⟩
    · have h3 : ¬ x ≤ 0 := by omega
      have h4 : ¬ x < 0 := by omega
      go_wp2_with fail
      go_ret
      exact ⟨ret_int (by rw [← Hq.out, if_neg (by omega), if_neg (by omega), if_neg (by omega)]), B1.out⟩
  · have h3 : x ≤ 0 := by omega
    by_cases h2 : 0 < y
    · go_wp2_with fail
      go_ret
      exact ⟨ret_int (by rw [← Hq.out, if_neg (by omega), if_pos (by omega)]), B1.out⟩
    · by_cases h4 : x < 0
      · go_wp2_with fail
        go_ret
        exact ⟨ret_int (by rw [← Hq.out, if_neg (by omega), if_neg (by omega), if_pos (by omega)]), B1.out⟩
      · go_wp2_with fail
        go_ret
        exact ⟨ret_int (by rw [← Hq.out, if_neg (by omega), if_neg (by omega), if_neg (by omega)]), B1.out⟩

set_option maxRecDepth 100000 in
set_option maxHeartbeats 4000000 in
theorem rLess_spec (o a b : Pt) (w : World) : Calls Tryz.prog 112 #[ptV o, ptV a, ptV b] w fun e w' => e = .returned (.bool (rlessS o a b)) ∧ Below w.heap.size w w' := by
  have TN := fun (v : Value) W => RNear_spec v [o, a, b] W
  have TL1 := fun (h : nears [o, a, b] = true) W => quarter_spec o a W (nears_lim h).1 (nears_lim h).2.1
  have TL2 := fun (h : nears [o, a, b] = true) W => quarter_spec o b W (nears_lim h).1 (nears_lim h).2.2
  have TT := fun (h : nears [o, a, b] = true) W => cross_spec o a o b W (nears_lim h).1 (nears_lim h).2.1 (nears_lim h).1 (nears_lim h).2.2
  have E1 := run_eql_pt a o
  have E2 := run_eql_pt b o
  obtain ⟨r, hr⟩ : ∃ r, rlessS o a b = r := ⟨_, rfl⟩
  rw [hr]
  unfold rlessS at hr
  unfold ptV at TL1 TL2 TT ⊢
  have HN := Lib.hid TN; have H1 := Lib.hid TL1; have H2 := Lib.hid TL2; have HT := Lib.hid TT
  clear TN TL1 TL2 TT
  generalize hz : nears [o, a, b] = z at *
  generalize decide (a = o) = z1 at *
  generalize decide (b = o) = z2 at *
  generalize hl1 : quartS o a = l1 at *
  generalize hl2 : quartS o b = l2 at *
  generalize hq : crossS o a o b = q at *
  have Hr := Lib.hid hr
  clear hr hq hz hl1 hl2
  go_enter Tryz.func112, Tryz.ntmps112
  go_wp2_with fail
  have HPts : Hid (Pts ((((w.alloc (.cells #[.int .i64 o.x, .int .i64 o.y] 41)).alloc (.cells #[.int .i64 a.x, .int .i64 a.y] 41)).alloc (.cells #[.int .i64 b.x, .int .i64 b.y] 41)).alloc (.cells #[.int .i64 o.x, .int .i64 o.y, .int .i64 a.x, .int .i64 a.y, .int .i64 b.x, .int .i64 b.y] 41)) (.slice (some ⟨w.heap.size + 1 + 1 + 1, 0, none⟩) 3 3) [o, a, b]) := Lib.hid (Pts.lit3 (Blk.made (by simp) _ _))
  refine (HN.out _ _ HPts.out).mono ?_
  rintro e w1 ⟨rfl, hb1⟩
  have B1 := Lib.hid (bT (bA (bA (bA (bA (bR w) _) _) _) _) hb1)
  have HX3 := Lib.hid (show Blk w1 w.heap.size 41 #[.int .i64 o.x, .int .i64 o.y] from ((((Blk.made rfl _ _).alloc _).alloc _).alloc _).keep hb1)
  have HX4 := Lib.hid (show Blk w1 (w.heap.size + 1) 41 #[.int .i64 a.x, .int .i64 a.y] from (((Blk.made (by simp) _ _).alloc _).alloc _).keep hb1)
  have HX5 := Lib.hid (show Blk w1 (w.heap.size + 1 + 1) 41 #[.int .i64 b.x, .int .i64 b.y] from ((Blk.made (by simp) _ _).alloc _).keep hb1)
  clear hb1 HPts HN
  have X3 := HX3.out; have X4 := HX4.out; have X5 := HX5.out
  try clear X3l
  try clear X3a
  try clear X3b
  try clear X3fa
  try clear X3fb
  obtain ⟨X3l, X3a, X3b, -, -⟩ := X3.facts2
  try clear X4l
  try clear X4a
  try clear X4b
  try clear X4fa
  try clear X4fb
  obtain ⟨X4l, X4a, X4b, -, -⟩ := X4.facts2
  try clear X5l
  try clear X5a
  try clear X5b
  try clear X5fa
  try clear X5fb
  obtain ⟨X5l, X5a, X5b, -, -⟩ := X5.facts2
  cases z
  case false =>
    go_wp2_with fail
    go_ret
    exact ⟨ret_bool (by rw [← Hr.out]; rfl), B1.out⟩
  cases z1
  case true =>
    go_wp2_with fail
    go_ret
    exact ⟨ret_bool (by rw [← Hr.out]; rfl), B1.out⟩
  cases z2
  case true =>
    go_wp2_with fail
    go_ret
    exact ⟨ret_bool (by rw [← Hr.out]; rfl), B1.out⟩
  have hr := Hr.out
  simp only [Bool.true_and, Bool.not_false] at hr
  have HT2 := Lib.hid (HT.out rfl)
  have HQ1 := Lib.hid (H1.out rfl)
  have HQ2 := Lib.hid (H2.out rfl)
  clear HT Hr H1 H2
  go_upto_region 3 with fail
  refine rg_start (Since w1) (.take 0 1 (.take 1 3 (.take 3 11 (.take 4 27 (.call 2 31 (.call 5 63 (.take 6 127 (.take 7 255 (.done))))))))) (by kernel_rfl) (bD (bR _)) (by kernel_rfl) (by kernel_rfl) (Nat.le_of_ble_eq_true (by kernel_rfl)) ?_
  intro opsR QR Hops HQrg hS
  apply rg_yp (i := 0) Hops rfl hS rfl
  · intro wq hq; obtain ⟨hqc, -⟩ := bcell (show Below w1.heap.size w1 wq from hq); clear hq; go_simp; try rfl
  try simp only [Act.put, pu1, pu2, pu3]
  apply rg_yp (i := 1) Hops rfl hS rfl
  · intro wq hq; obtain ⟨hqc, -⟩ := bcell (show Below w1.heap.size w1 wq from hq); clear hq; go_simp; try rfl
  try simp only [Act.put, pu1, pu2, pu3]
  apply rg_yp (i := 3) Hops rfl hS rfl
  · intro wq hq; obtain ⟨hqc, -⟩ := bcell (show Below w1.heap.size w1 wq from hq); clear hq; go_simp; try rfl
  try simp only [Act.put, pu1, pu2, pu3]
  apply rg_yp (i := 4) Hops rfl hS rfl
  · intro wq hq; obtain ⟨hqc, -⟩ := bcell (show Below w1.heap.size w1 wq from hq); clear hq; go_simp; try rfl
  try simp only [Act.put, pu1, pu2, pu3]
  refine rg_call (i := 2) (get_of Hops rfl) (fun K hK => ?_)
  have HSrg := Lib.hid hS; clear hS
  refine rg_run (wanted_plain rfl) ?_
  go_simp
  refine (HQ1.out _).mono ?_
  rintro e wr1 ⟨rfl, hbr1⟩
  have hS : Since w1 wr1 := bT (w := w1) HSrg.out hbr1
  clear HSrg
  refine hK.out _ _ hS (fun _ => ?_)
  clear hK K
  try simp only [Act.put, pu1, pu2, pu3]
  refine rg_call (i := 5) (get_of Hops rfl) (fun K hK => ?_)
  have HSrg := Lib.hid hS; clear hS
  refine rg_run (wanted_plain rfl) ?_
  go_simp
  refine (HQ2.out _).mono ?_
  rintro e wr2 ⟨rfl, hbr2⟩
  have hS : Since w1 wr2 := bT (w := w1) HSrg.out hbr2
  clear HSrg
  refine hK.out _ _ hS (fun _ => ?_)
  clear hK K
  try simp only [Act.put, pu1, pu2, pu3]
  apply rg_yp (i := 6) Hops rfl hS rfl
  · intro _ hq; clear hq; go_simp; try rfl
  try simp only [Act.put, pu1, pu2, pu3]
  apply rg_yp (i := 7) Hops rfl hS rfl
  · intro _ hq; clear hq; go_simp; try rfl
  try simp only [Act.put, pu1, pu2, pu3]
  refine rg_done ?_
  refine HQrg.down _ _ ?_
  have hB : Below w1.heap.size w1 wr2 := hS
  clear hS HQrg Hops
  have B2 := Lib.hid (bT B1.out hB)
  replace HX3 := Lib.hid (HX3.out.keep hB)
  replace HX4 := Lib.hid (HX4.out.keep hB)
  replace HX5 := Lib.hid (HX5.out.keep hB)
  clear hB X3 X4 X5 X3l X3a X3b X4l X4a X4b X5l X5a X5b
  have X3 := HX3.out; have X4 := HX4.out; have X5 := HX5.out
  try clear X3l
  try clear X3a
  try clear X3b
  try clear X3fa
  try clear X3fb
  obtain ⟨X3l, X3a, X3b, -, -⟩ := X3.facts2
  try clear X4l
  try clear X4a
  try clear X4b
  try clear X4fa
  try clear X4fb
  obtain ⟨X4l, X4a, X4b, -, -⟩ := X4.facts2
  try clear X5l
  try clear X5a
  try clear X5b
  try clear X5fa
  try clear X5fb
  obtain ⟨X5l, X5a, X5b, -, -⟩ := X5.facts2
  by_cases hlt : l1 < l2
  · rw [decide_eq_true hlt] at hr
    have Hr := Lib.hid hr
    clear hr
    go_wp2_with fail
    go_ret
    exact ⟨ret_bool (by rw [← Hr.out]; rfl), B2.out⟩
  · rw [decide_eq_false hlt, Bool.false_or] at hr
    by_cases hl : l1 = l2
    · have hl' : (l1 == l2) = true := by simpa using hl
      rw [decide_eq_true hl, Bool.true_and] at hr
      have Hr := Lib.hid hr
      clear hl hr
      go_wp2_with fail
      refine (HT2.out _).mono ?_
      rintro e w3 ⟨rfl, hb3⟩
      have B3 := Lib.hid (bT B2.out hb3)
      clear hb3
      go_wp2_with fail
      go_ret
      exact ⟨ret_bool Hr.out, B3.out⟩
    · have hl' : (l1 == l2) = false := by simpa using hl
      rw [decide_eq_false hl, Bool.false_and] at hr
      have Hr := Lib.hid hr
      clear hl hr
      go_wp2_with fail
      go_ret
      exact ⟨ret_bool Hr.out, B2.out⟩
end Go.Proofs.YtoclnkfeblfpbaaGreat
namespace Go.Proofs.YtoclnkfeblfpbaaGreat
open Go.RowKit

theorem le_maxL {n : Nat} (h : n ≤ 8796093022208) : n ≤ maxLen := by
  have : maxLen = 9223372036854775807 := rfl
  omega
/-- No Via takes more than 2^47 bytes. -/
def ShortL (p : Pl) : Prop := ∀ a ∈ p.arcs, a.via.length ≤ 8796093022208
theorem wpList_applL {P : Program} (w : World) {ops : Array Oper} {rest : List Oper} {o : Oper} {a : Act} {Q : Exit → Act → World → Prop} (hgd : o.guard = none) (s x : Operand) (t : TypeId)
    (ho : o.op = .call { callee := .builtin .append, args := #[s, x], argTypes := #[t, t] })
    {α : Type} {f : α → List Value} {base : Nat} {e : TypeId} {size bytes : Nat} (hE : Elem P t e size bytes) (hf : ∀ a, (f a).length = size) (hone : ∀ a, ∀ u ∈ f a, u.oneCell' = true)
    {v : Value} {l : List α} (hs : a.eval s = v) (hown : Own w base e size f v l)
    {src : Value} {l2 : List α} (hx : a.eval x = src) (hr : Sl w src l2.length (l2.flatMap f))
    (hbytes : (l.length + l2.length) * bytes ≤ 140737488355328) (h32 : l.length + l2.length ≤ 8796093022208) (hbase : base ≤ w.heap.size)
    (h : ∀ v' w', Own w' base e size f v' (l ++ l2) → w.grownBy w' v.ownBlock → (v'.ownBlock = v.ownBlock ∨ v'.ownBlock = some w.heap.size) → wpList P ops Q rest (a.put o.dst v') w') : wpList P ops Q (o :: rest) a w := by
  obtain ⟨ht, i, z, hi, hz, hsize, hby, hzs, hsz⟩ := hE
  refine wpList_app w hgd s x t ho base e i z size bytes ht hi hz hsize hby hzs hsz v l.length (l.flatMap f) hs hown src l2.length (l2.flatMap f) hx hr (flat_length f size hf l2)
    (fun u hu => ?_) (le_maxL h32) hbytes hbase (fun v' w' h1 h2 h3 => h v' w' ?_ h2 h3)
  · obtain ⟨a, _, hu⟩ := List.mem_flatMap.1 hu
    exact hone a u hu
  · unfold Own
    rw [List.length_append, List.flatMap_append]
    exact h1
set_option maxHeartbeats 400000 in
theorem Clone_pt_specL (v : Value) (l : List Pt) (w : World) (h : Pts w v l) (hl : l.length ≤ 8796093022208) :
    Calls Tryz.prog 72 #[v] w (RetPts w l) := by
  have H := h
  obtain ⟨A, c, rfl, hn, hc, hR⟩ := h
  have hE := Lib.run_eql_slice_nil (P := Tryz.prog) (t := 45) (e := 41)
  rcases A with _ | ad
  · have hl0 : l = [] := by
      rcases l with _ | ⟨a, l⟩
      · rfl
      · obtain ⟨b, o, e, _⟩ := hR (by simp [ptC])
        cases e
    subst hl0
    clear hR H
    simp only [List.length_nil] at hn ⊢
    have hE1 : ∀ W : World, (binOp .eql 45 (.slice none 0 c) (.slice none 0 0)).run Tryz.prog W = .ok (.bool true) W := fun W => Lib.run_eql_slice_nil W _ 41 none _ c 0 0 Tryz.underlying45
    clear hE
    go_enter Tryz.func72, Tryz.ntmps72
    go_wp2
    go_ret
    exact ⟨_, _, rfl, bR w, Own.nil _ _ _ _ _⟩
  · have hE1 : ∀ W : World, (binOp .eql 45 (.slice (some ad) l.length c) (.slice none 0 0)).run Tryz.prog W = .ok (.bool false) W := fun W => Lib.run_eql_slice_nil W _ 41 (some ad) _ c 0 0 Tryz.underlying45
    clear hE hR
    have HH := Lib.hid H; clear H
    go_enter Tryz.func72, Tryz.ntmps72
    go_wp2_with
      (at_builtin
       refine wpList_applL _ rfl (.tmp 5) (.tmp 6) _ rfl (base := w.heap.size) elem_pt ptC_len ptC_one rfl (Own.lit _ _ _ _ ptC [] _ 0 _ rfl rfl (Nat.le_refl _) (le_maxLen (by omega)) rfl rfl) rfl (HH.out.mono (bA (bR w) _)) (by simp only [List.length_nil]; omega) (by simp only [List.length_nil]; omega) (by simp) ?_
       intro v1 w1 hown hg hat)
    go_ret
    obtain ⟨A1, c1, rfl, -⟩ := Own.sl hown
    simp only [List.nil_append] at hown ⊢
    exact ⟨A1, c1, rfl, bG (bA (bR w) _) hg (fun k hk => by have : w.heap.size = k := Option.some.inj hk; omega), hown⟩

set_option maxHeartbeats 4000000 in
theorem Arc_specL (v : Value) (p : Pl) (id : Int) (w : World) (h : PlV w v p) (hsh : ShortL p) :
    Calls Tryz.prog 45 #[v, .int .i64 id] w (ArRes w (findAr p.arcs id)) := by
  obtain ⟨vn, _, vf, al, rfl, hpa, -, ⟨⟨An, cn, rfl, hn1, hn2, hR⟩, hV⟩, -⟩ := h
  unfold maxLen at hn2
  unfold ShortL at hsh
  rw [hpa] at hsh ⊢
  clear hpa
  have hsh' : ∀ k (hk : k < al.length), al[k].1.via.length ≤ 8796093022208 := fun k hk => hsh _ (List.mem_map_of_mem (List.getElem_mem hk))
  have HV := Lib.hid hV; clear hV hsh
  have HSh := Lib.hid hsh'; clear hsh'
  go_enter Tryz.func45, Tryz.ntmps45
  go_wp2_with fail
  go_loopw [11] (fun i wr => ∃ k : Nat, k ≤ al.length ∧ i = .int .i64 k ∧ Below w.heap.size w wr ∧ Blk wr (w.heap.size + 1) 47 #[.int .i64 0, .int .i64 0, .int .i64 0, .slice none 0 0, .int .i64 0, .int .i64 0] ∧ ∀ j (hj : j < al.length), j < k → (al[j].1.id == id) = false) (fun i _ => al.length - (intOf i).toNat)
  case atStart => exact ⟨0, Nat.zero_le _, rfl, bA (bA (bR w) _) _, Blk.made (by simp) _ _, fun j _ h => by omega⟩
  case round =>
    obtain ⟨k, hk, rfl, hb, X4, hno⟩ := hrel
    have Hb := Lib.hid hb
    have Hno := Lib.hid hno
    clear hb hno
    try clear X4l
    try clear X4a
    try clear X4b
    try clear X4c
    try clear X4d
    try clear X4e
    try clear X4f
    try clear X4fa
    try clear X4fb
    try clear X4fc
    try clear X4fd
    try clear X4fe
    try clear X4ff
    obtain ⟨X4l, X4a, X4b, X4c, X4d, X4e, X4f, X4fa, X4fb, X4fc, X4fd, X4fe, X4ff⟩ := X4.facts6
    by_cases hlt : k < al.length
    · obtain ⟨b, o, rfl, hlb, c0, c1, c2, c3, c4, c5⟩ := (hR.mono Hb.out).ar hlt
      have HR := Lib.hid hR; clear hR
      have hvk := (HV.out k hlt)
      obtain ⟨Av, cv, hv, -⟩ := hvk
      have hvk := (HV.out k hlt)
      rw [hv] at c3 hvk
      generalize hvl : al[k].1.via.length = vl at *
      have Hvl := Lib.hid hvl
      have Hvk := Lib.hid hvk; clear hvk hv hvl
      cases he : (al[k].1.id == id)
      · go_wp2
        go_roundw
        case rel => exact ⟨k + 1, by omega, by go_num, bA Hb.out _, X4.alloc _, all_succ (p := fun x => (x.1.id == id) = false) Hno.out hlt he⟩
        case measure => simp [intOf]; omega
      · have hf := findAr_hit al id k hlt Hno.out he
        have Hf := Lib.hid hf; clear hf
        go_wp2_with fail
        refine (Clone_pt_specL _ _ _ (Hvk.out.mono (bA Hb.out _)) (HSh.out k hlt)).mono ?_
        rintro e w1 ⟨A1, cc1, rfl, hb1, hown⟩
        have Bw : Below w.heap.size w w1 := bT (bA Hb.out _) hb1
        have X7 : Blk w1 wr.heap.size 47 #[.int .i64 al[k].1.id, .int .i64 al[k].1.fr,   .int .i64 al[k].1.dst, .slice Av vl cv, .int .i64 al[k].1.left, .int .i64 al[k].1.right] := (Blk.made rfl _ _).keep hb1
        have hw8 : w.heap.size + 1 < wr.heap.size := by omega
        have hw7 : w.heap.size + 1 ≠ wr.heap.size := by omega
        replace X4 := (X4.alloc _).keep hb1
        have hown' := hown.mono_base (b' := wr.heap.size + 1) (by simp)
        have hP := Own.sl hown
        have Hown := Lib.hid hown'
        clear hb1 c0 c1 c2 c3 c4 c5 hlb hown hown' hP
        try clear X4l
        try clear X4a
        try clear X4b
        try clear X4c
        try clear X4d
        try clear X4e
        try clear X4f
        try clear X4fa
        try clear X4fb
        try clear X4fc
        try clear X4fd
        try clear X4fe
        try clear X4ff
        obtain ⟨X4l, X4a, X4b, X4c, X4d, X4e, X4f, X4fa, X4fb, X4fc, X4fd, X4fe, X4ff⟩ := X4.facts6
        try clear X7l
        try clear X7a
        try clear X7b
        try clear X7c
        try clear X7d
        try clear X7e
        try clear X7f
        try clear X7fa
        try clear X7fb
        try clear X7fc
        try clear X7fd
        try clear X7fe
        try clear X7ff
        obtain ⟨X7l, X7a, X7b, X7c, X7d, X7e, X7f, X7fa, X7fb, X7fc, X7fd, X7fe, X7ff⟩ := X7.facts6
        go_wp2_with fail
        have hszr := Hb.out.size
        have ne7 : (Value.slice A1 al[k].1.via.length cc1).ownBlock ≠ some wr.heap.size := fun e => by have := (Hown.out.lt _ e).1; omega
        have ne4 : (Value.slice A1 al[k].1.via.length cc1).ownBlock ≠ some (w.heap.size + 1) := fun e => by have := (Hown.out.lt _ e).1; omega
        have HP := Own.sl (((((((Hown.out.far (p := ⟨wr.heap.size, 3, none⟩) ne7 (.slice A1 al[k].1.via.length cc1)).far (p := ⟨w.heap.size + 1, 0, none⟩) ne4 (.int .i64 al[k].1.id)).far (p := ⟨w.heap.size + 1, 1, none⟩) ne4 (.int .i64 al[k].1.fr)).far (p := ⟨w.heap.size + 1, 2, none⟩) ne4 (.int .i64 al[k].1.dst)).far (p := ⟨w.heap.size + 1, 3, none⟩) ne4 (.slice A1 al[k].1.via.length cc1)).far (p := ⟨w.heap.size + 1, 4, none⟩) ne4 (.int .i64 al[k].1.left)).far (p := ⟨w.heap.size + 1, 5, none⟩) ne4 (.int .i64 al[k].1.right))
        refine res_cell_tmp (g := w.heap.size + 1) (cs := #[.int .i64 al[k].1.id, .int .i64 al[k].1.fr, .int .i64 al[k].1.dst, .slice A1 al[k].1.via.length cc1, .int .i64 al[k].1.left, .int .i64 al[k].1.right]) rfl struct_ar rfl rfl (Blk.put6 (X4.far (p := ⟨wr.heap.size, 3, none⟩) hw7 _)) ⟨.slice A1 al[k].1.via.length cc1, by rw [Hf.out]; rfl, ?_, by rw [Hf.out]; exact HP⟩
        repeat (first | with_reducible exact bR _ | with_reducible assumption | with_reducible refine bA ?_ _ | with_reducible refine bD ?_ | with_reducible refine bN ?_ _ | ((with_reducible refine bS ?_ ?_ _); rotate_left; (simp; try omega)) | ((with_reducible refine bT ?_ ?_); rotate_left; with_reducible assumption) | with_reducible refine bT ?_ (by assumption))
    · have hf := findAr_miss al id (fun j hj => Hno.out j hj (by omega))
      have Hf := Lib.hid hf; clear hf
      go_wp2
      have Bw := Hb.out
      refine res_cell_tmp (g := w.heap.size + 1) (cs := #[.int .i64 0, .int .i64 0, .int .i64 0, .slice none 0 0, .int .i64 0, .int .i64 0]) rfl struct_ar rfl rfl (Blk.put6 X4) ⟨.slice none 0 0, by rw [Hf.out]; rfl, ?_, by rw [Hf.out]; exact Sl.nil _⟩
      repeat (first | with_reducible exact bR _ | with_reducible assumption | with_reducible refine bA ?_ _ | with_reducible refine bD ?_ | with_reducible refine bN ?_ _ | ((with_reducible refine bS ?_ ?_ _); rotate_left; (simp; try omega)) | ((with_reducible refine bT ?_ ?_); rotate_left; with_reducible assumption) | with_reducible refine bT ?_ (by assumption))

set_option maxHeartbeats 1000000 in
theorem RArc_specL (v : Value) (p : Pl) (id : Int) (w : World) (h : PlV w v p) (hsh : ShortL p) :
    Calls Tryz.prog 27 #[v, .int .i64 id] w (ArRes w (findAr p.arcs id)) := by
  obtain ⟨vn, _, vf, al, rfl, hpa, -, ⟨⟨An, cn, rfl, hn1, hn2, hR⟩, hV⟩, -⟩ := h
  unfold maxLen at hn2
  unfold ShortL at hsh
  rw [hpa] at hsh ⊢
  clear hpa
  have hsh' : ∀ k (hk : k < al.length), al[k].1.via.length ≤ 8796093022208 := fun k hk => hsh _ (List.mem_map_of_mem (List.getElem_mem hk))
  have HV := Lib.hid hV; clear hV hsh
  have HSh := Lib.hid hsh'; clear hsh'
  go_enter Tryz.func27, Tryz.ntmps27
  go_wp2_with fail
  go_loopw [6] (fun i wr => ∃ k : Nat, k ≤ al.length ∧ i = .int .i64 k ∧ Below w.heap.size w wr ∧ Blk wr w.heap.size 26 #[vn, .slice An al.length cn, vf] ∧ Blk wr (w.heap.size + 1) 47 #[.int .i64 0, .int .i64 0, .int .i64 0, .slice none 0 0, .int .i64 0, .int .i64 0] ∧ ∀ j (hj : j < al.length), j < k → (al[j].1.id == id) = false) (fun i _ => al.length - (intOf i).toNat)
  case atStart => exact ⟨0, Nat.zero_le _, rfl, bA (bA (bR w) _) _, (Blk.made rfl _ _).alloc _, Blk.made (by simp) _ _, fun j _ h => by omega⟩
  case round =>
    obtain ⟨k, hk, rfl, hb, X2, X4, hno⟩ := hrel
    have Hb := Lib.hid hb
    have Hno := Lib.hid hno
    clear hb hno
    try clear X2l
    try clear X2a
    try clear X2b
    try clear X2c
    try clear X2fa
    try clear X2fb
    try clear X2fc
    obtain ⟨X2l, X2a, X2b, X2c, -, -, -⟩ := X2.facts3
    try clear X4l
    try clear X4a
    try clear X4b
    try clear X4c
    try clear X4d
    try clear X4e
    try clear X4f
    try clear X4fa
    try clear X4fb
    try clear X4fc
    try clear X4fd
    try clear X4fe
    try clear X4ff
    obtain ⟨X4l, X4a, X4b, X4c, X4d, X4e, X4f, X4fa, X4fb, X4fc, X4fd, X4fe, X4ff⟩ := X4.facts6
    by_cases hlt : k < al.length
    · obtain ⟨b, o, rfl, hlb, c0, c1, c2, c3, c4, c5⟩ := (hR.mono Hb.out).ar hlt
      have HR := Lib.hid hR; clear hR
      have hvk := (HV.out k hlt)
      obtain ⟨Av, cv, hv, -⟩ := hvk
      have hvk := (HV.out k hlt)
      rw [hv] at c3 hvk
      have Hvk := Lib.hid hvk; clear hvk hv
      cases he : (al[k].1.id == id)
      · go_wp2
        go_roundw
        case rel => exact ⟨k + 1, by omega, by go_num, Hb.out, X2, X4, all_succ (p := fun x => (x.1.id == id) = false) Hno.out hlt he⟩
        case measure => simp [intOf]; omega
      · have hf := findAr_hit al id k hlt Hno.out he
        have Hf := Lib.hid hf; clear hf
        have hsv := HSh.out k hlt
        go_wp2_with
          (at_builtin
           refine wpList_applL _ rfl (.tmp 28) (.tmp 30) _ rfl (base := wr.heap.size + 1) elem_pt ptC_len ptC_one rfl (Own.lit _ _ _ _ ptC [] _ 0 _ (by simp) rfl (by simp) (le_maxLen (by omega)) rfl rfl) rfl (Hvk.out.mono (bA (bA Hb.out _) _)) (by simp only [List.length_nil]; omega) (by simp only [List.length_nil]; omega) (by simp) ?_
           intro v1 w1 hown hg hat
           have hb1 : Below (wr.alloc (.cells #[.int .i64 al[k].1.id, .int .i64 al[k].1.fr, .int .i64 al[k].1.dst, .slice Av al[k].1.via.length cv, .int .i64 al[k].1.left, .int .i64 al[k].1.right] 47)).heap.size (wr.alloc (.cells #[.int .i64 al[k].1.id, .int .i64 al[k].1.fr, .int .i64 al[k].1.dst, .slice Av al[k].1.via.length cv, .int .i64 al[k].1.left, .int .i64 al[k].1.right] 47)) w1 := bG (bA (bR _) _) hg (fun g hk => by have : wr.heap.size + 1 = g := Option.some.inj hk; simp; omega)
           simp only [List.nil_append] at hown
           obtain ⟨A1, cc1, rfl, -⟩ := Own.sl hown
           have Hown := Lib.hid hown
           have Bw : Below w.heap.size w w1 := bT (bA Hb.out _) hb1
           have X7 : Blk w1 wr.heap.size 47 #[.int .i64 al[k].1.id, .int .i64 al[k].1.fr, .int .i64 al[k].1.dst, .slice Av al[k].1.via.length cv, .int .i64 al[k].1.left, .int .i64 al[k].1.right] := (Blk.made rfl _ _).keep hb1
           have hw8 : w.heap.size + 1 < wr.heap.size := by omega
           have hw7 : w.heap.size + 1 ≠ wr.heap.size := by omega
           replace X4 := (X4.alloc _).keep hb1
           clear hb1 c0 c1 c2 c3 c4 c5 hlb hown hg hat
           try clear X4l
           try clear X4a
           try clear X4b
           try clear X4c
           try clear X4d
           try clear X4e
           try clear X4f
           try clear X4fa
           try clear X4fb
           try clear X4fc
           try clear X4fd
           try clear X4fe
           try clear X4ff
           obtain ⟨X4l, X4a, X4b, X4c, X4d, X4e, X4f, X4fa, X4fb, X4fc, X4fd, X4fe, X4ff⟩ := X4.facts6
           try clear X7l
           try clear X7a
           try clear X7b
           try clear X7c
           try clear X7d
           try clear X7e
           try clear X7f
           try clear X7fa
           try clear X7fb
           try clear X7fc
           try clear X7fd
           try clear X7fe
           try clear X7ff
           obtain ⟨X7l, X7a, X7b, X7c, X7d, X7e, X7f, X7fa, X7fb, X7fc, X7fd, X7fe, X7ff⟩ := X7.facts6
           )
        have hszr := Hb.out.size
        have ne7 : (Value.slice A1 al[k].1.via.length cc1).ownBlock ≠ some wr.heap.size := fun e => by have := (Hown.out.lt _ e).1; omega
        have ne4 : (Value.slice A1 al[k].1.via.length cc1).ownBlock ≠ some (w.heap.size + 1) := fun e => by have := (Hown.out.lt _ e).1; omega
        have HP := Own.sl (((((((Hown.out.far (p := ⟨wr.heap.size, 3, none⟩) ne7 (.slice A1 al[k].1.via.length cc1)).far (p := ⟨w.heap.size + 1, 0, none⟩) ne4 (.int .i64 al[k].1.id)).far (p := ⟨w.heap.size + 1, 1, none⟩) ne4 (.int .i64 al[k].1.fr)).far (p := ⟨w.heap.size + 1, 2, none⟩) ne4 (.int .i64 al[k].1.dst)).far (p := ⟨w.heap.size + 1, 3, none⟩) ne4 (.slice A1 al[k].1.via.length cc1)).far (p := ⟨w.heap.size + 1, 4, none⟩) ne4 (.int .i64 al[k].1.left)).far (p := ⟨w.heap.size + 1, 5, none⟩) ne4 (.int .i64 al[k].1.right))
        refine res_cell_tmp (g := w.heap.size + 1) (cs := #[.int .i64 al[k].1.id, .int .i64 al[k].1.fr, .int .i64 al[k].1.dst, .slice A1 al[k].1.via.length cc1, .int .i64 al[k].1.left, .int .i64 al[k].1.right]) rfl struct_ar rfl rfl (Blk.put6 (X4.far (p := ⟨wr.heap.size, 3, none⟩) hw7 _)) ⟨.slice A1 al[k].1.via.length cc1, by rw [Hf.out]; rfl, ?_, by rw [Hf.out]; exact HP⟩
        repeat (first | with_reducible exact bR _ | with_reducible assumption | with_reducible refine bA ?_ _ | with_reducible refine bD ?_ | with_reducible refine bN ?_ _ | ((with_reducible refine bS ?_ ?_ _); rotate_left; (simp; try omega)) | ((with_reducible refine bT ?_ ?_); rotate_left; with_reducible assumption) | with_reducible refine bT ?_ (by assumption))
    · have hf := findAr_miss al id (fun j hj => Hno.out j hj (by omega))
      have Hf := Lib.hid hf; clear hf
      go_wp2
      have Bw := Hb.out
      refine res_cell_tmp (g := w.heap.size + 1) (cs := #[.int .i64 0, .int .i64 0, .int .i64 0, .slice none 0 0, .int .i64 0, .int .i64 0]) rfl struct_ar rfl rfl (Blk.put6 X4) ⟨.slice none 0 0, by rw [Hf.out]; rfl, ?_, by rw [Hf.out]; exact Sl.nil _⟩
      repeat (first | with_reducible exact bR _ | with_reducible assumption | with_reducible refine bA ?_ _ | with_reducible refine bD ?_ | with_reducible refine bN ?_ _ | ((with_reducible refine bS ?_ ?_ _); rotate_left; (simp; try omega)) | ((with_reducible refine bT ?_ ?_); rotate_left; with_reducible assumption) | with_reducible refine bT ?_ (by assumption))
end Go.Proofs.YtoclnkfeblfpbaaGreat
