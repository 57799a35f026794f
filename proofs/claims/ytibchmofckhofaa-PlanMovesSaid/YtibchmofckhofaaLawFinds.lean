/- mapsheetslaw14.PlanFinds: true. -/
import Derived.Test.YtibchmofckhofaaAwake
set_option linter.unusedSimpArgs false
set_option linter.unusedVariables false
namespace Go.Proofs.Ytibchmofckhofaa
open Go.RowKit

theorem few_short {p : Pl} {M : Nat} (h : fewS p M = true) : p.nodes.length ≤ M ∧ p.arcs.length ≤ M ∧ p.faces.length ≤ M ∧ (p.arcs.flatMap (·.via)).length ≤ M := by
  unfold fewS at h
  exact of_decide_eq_true h
theorem via_le {p : Pl} {M : Nat} (h : (p.arcs.flatMap (·.via)).length ≤ M) : ∀ a ∈ p.arcs, a.via.length ≤ M := fun a ha => by
  obtain ⟨i, hi, rfl⟩ := List.mem_iff_getElem.1 ha
  have := flat_take_succ_le p.arcs (·.via) i hi
  omega
theorem run_eql_b (b : Bool) (W : World) : (binOp .eql 4 (.bool b) (.bool b)).run Try.prog W = .ok (.bool true) W := by
  cases b <;> go_simp

theorem run_eql_nd_self (n : Nd) (W : World) : (binOp .eql 32 (.agg #[.int .i64 n.id, .int .i64 n.pt.x, .int .i64 n.pt.y]) (.agg #[.int .i64 n.id, .int .i64 n.pt.x, .int .i64 n.pt.y])).run Try.prog W = .ok (.bool true) W := by go_simp

set_option maxRecDepth 100000 in
set_option maxHeartbeats 8000000 in
theorem PlanFinds_spec (v : Value) (p : Pl) (id : Int) (w : World) (h : PlV w v p) :
    Calls Try.prog 3 #[v, .int .i64 id] w fun e w' => e = .returned (.bool true) ∧ Below w.heap.size w w' := by
  have TFew : ∀ W, Below w.heap.size w W → Calls Try.prog 9 #[v, .int .i64 1000] W _ := fun W hW => Few_spec v p 1000 W (h.mono hW) (by omega)
  have HFew := Lib.hid TFew
  have HP := Lib.hid h
  have HAw := Lib.hid awake_spec
  obtain ⟨vn, va, vf, al, rfl, -⟩ := h
  clear TFew
  go_enter Try.func3, Try.ntmps3
  go_wp2_with fail
  refine (HFew.out _ (bA (bR w) _)).mono ?_
  rintro e w1 ⟨rfl, hb1⟩
  have Bw : Below w.heap.size w w1 := bT (bA (bR w) _) hb1
  have X2 : Blk w1 w.heap.size 26 #[vn, va, vf] := (Blk.made rfl _ _).keep hb1
  clear hb1
  cases hf : fewS p 1000
  case false =>
    clear hf
    go_wp2_with fail
    refine (HAw.out _).mono ?_
    rintro e w2 ⟨rfl, hb2⟩
    go_wp2_with fail
    go_ret
    exact ⟨rfl, bT Bw hb2⟩
  have hfw := few_short hf
  have hsh : Short p := fun a ha => by have := via_le hfw.2.2.2 a ha; omega
  have HFw := Lib.hid hfw
  have HSh := Lib.hid hsh
  clear hf hfw hsh
  try clear X2l
  try clear X2a
  try clear X2b
  try clear X2c
  try clear X2fa
  try clear X2fb
  try clear X2fc
  obtain ⟨X2l, X2a, X2b, X2c, -, -, -⟩ := X2.facts3
  go_wp2_with fail
  refine (Node_spec _ p _ _ (HP.out.mono Bw)).mono ?_
  rintro e w2 ⟨rfl, hb2⟩
  unfold ndRes ndV
  generalize hn : (findNd p.nodes id).getD nd0 = n
  generalize hnb : (findNd p.nodes id).isSome = nb
  have HN := Lib.hid hn; have HNb := Lib.hid hnb
  have B2 := Lib.hid (show Below w1.heap.size w1 (w2.alloc (.cells #[.int .i64 n.id, .int .i64 n.pt.x, .int .i64 n.pt.y] 32)) from bA hb2 _)
  have X5 : Blk (w2.alloc (.cells #[.int .i64 n.id, .int .i64 n.pt.x, .int .i64 n.pt.y] 32)) w2.heap.size 32 #[.int .i64 n.id, .int .i64 n.pt.x, .int .i64 n.pt.y] := Blk.made rfl _ _
  replace X2 := X2.keep B2.out
  clear hb2 hn hnb
  go_upto_region 4 with fail
  generalize hW2 : (w2.alloc (.cells #[.int .i64 n.id, .int .i64 n.pt.x, .int .i64 n.pt.y] 32)) = W2 at *
  clear hW2
  have Bw2 := Lib.hid (bT Bw B2.out)
  clear X2l X2a X2b X2c B2
  try clear X2l
  try clear X2a
  try clear X2b
  try clear X2c
  try clear X2fa
  try clear X2fb
  try clear X2fc
  obtain ⟨X2l, X2a, X2b, X2c, -, -, -⟩ := X2.facts3
  go_wp2_with fail
  refine (RNode_spec _ p _ _ (HP.out.mono Bw2.out)).mono ?_
  rintro e w3 ⟨rfl, hb3⟩
  unfold ndRes ndV
  rw [HN.out, HNb.out]
  have B3 := Lib.hid (show Below W2.heap.size W2 (w3.alloc (.cells #[.int .i64 n.id, .int .i64 n.pt.x, .int .i64 n.pt.y] 32)) from bA hb3 _)
  have X7 : Blk (w3.alloc (.cells #[.int .i64 n.id, .int .i64 n.pt.x, .int .i64 n.pt.y] 32)) w3.heap.size 32 #[.int .i64 n.id, .int .i64 n.pt.x, .int .i64 n.pt.y] := Blk.made rfl _ _
  replace X2 := X2.keep B3.out
  replace X5 := X5.keep B3.out
  clear hb3
  go_upto_region 5 with fail
  generalize hW3 : (w3.alloc (.cells #[.int .i64 n.id, .int .i64 n.pt.x, .int .i64 n.pt.y] 32)) = W3 at *
  clear hW3
  replace Bw2 := Lib.hid (bT Bw2.out B3.out)
  clear X2l X2a X2b X2c B3
  try clear X2l
  try clear X2a
  try clear X2b
  try clear X2c
  try clear X2fa
  try clear X2fb
  try clear X2fc
  obtain ⟨X2l, X2a, X2b, X2c, -, -, -⟩ := X2.facts3
  go_wp2_with fail
  refine (Arc_spec _ p _ _ (HP.out.mono Bw2.out) HSh.out).mono ?_
  rintro e w4 ⟨v4, rfl, hb4, hp4⟩
  generalize ha : (findAr p.arcs id).getD ar0 = a at *
  generalize hab : (findAr p.arcs id).isSome = ab at *
  have HAr := Lib.hid ha; have HAb := Lib.hid hab
  have HP4 := Lib.hid hp4
  obtain ⟨A4, c4, rfl, -⟩ := hp4
  unfold arV
  obtain ⟨W4, hW4⟩ : ∃ W4 : World, W4 = (w4.alloc (.cells #[.int .i64 a.id, .int .i64 a.fr, .int .i64 a.dst, .slice A4 a.via.length c4, .int .i64 a.left, .int .i64 a.right] 37)) := ⟨_, rfl⟩
  have B4 := Lib.hid (show Below W3.heap.size W3 W4 by rw [hW4]; exact bA hb4 _)
  have B4' := Lib.hid (show Below w4.heap.size w4 W4 by rw [hW4]; exact bA (bR w4) _)
  have X9 : Blk W4 w4.heap.size 37 #[.int .i64 a.id, .int .i64 a.fr, .int .i64 a.dst, .slice A4 a.via.length c4, .int .i64 a.left, .int .i64 a.right] := by rw [hW4]; exact Blk.made rfl _ _
  replace X2 := X2.keep B4.out
  replace X5 := X5.keep B4.out
  replace X7 := X7.keep B4.out
  replace HP4 := Lib.hid (HP4.out.mono B4'.out)
  clear hb4 ha hab
  go_upto_region 6 with fail
  rw [← hW4]
  clear hW4
  replace Bw2 := Lib.hid (bT Bw2.out B4.out)
  clear X2l X2a X2b X2c B4 B4'
  try clear X2l
  try clear X2a
  try clear X2b
  try clear X2c
  try clear X2fa
  try clear X2fb
  try clear X2fc
  obtain ⟨X2l, X2a, X2b, X2c, -, -, -⟩ := X2.facts3
  go_wp2_with fail
  refine (RArc_spec _ p _ _ (HP.out.mono Bw2.out) HSh.out).mono ?_
  rintro e w5 ⟨v5, rfl, hb5, hp5⟩
  rw [HAr.out] at hp5 ⊢
  rw [HAb.out]
  have HP5 := Lib.hid hp5
  obtain ⟨A5, c5, rfl, -⟩ := hp5
  unfold arV
  obtain ⟨W5, hW5⟩ : ∃ W5 : World, W5 = (w5.alloc (.cells #[.int .i64 a.id, .int .i64 a.fr, .int .i64 a.dst, .slice A5 a.via.length c5, .int .i64 a.left, .int .i64 a.right] 37)) := ⟨_, rfl⟩
  have B5 := Lib.hid (show Below W4.heap.size W4 W5 by rw [hW5]; exact bA hb5 _)
  have B5' := Lib.hid (show Below w5.heap.size w5 W5 by rw [hW5]; exact bA (bR w5) _)
  have X11 : Blk W5 w5.heap.size 37 #[.int .i64 a.id, .int .i64 a.fr, .int .i64 a.dst, .slice A5 a.via.length c5, .int .i64 a.left, .int .i64 a.right] := by rw [hW5]; exact Blk.made rfl _ _
  replace X2 := X2.keep B5.out
  replace X5 := X5.keep B5.out
  replace X7 := X7.keep B5.out
  replace X9 := X9.keep B5.out
  replace HP4 := Lib.hid (HP4.out.mono B5.out)
  replace HP5 := Lib.hid (HP5.out.mono B5'.out)
  clear hb5
  go_upto_region 7 with fail
  rw [← hW5]
  clear hW5
  replace Bw2 := Lib.hid (bT Bw2.out B5.out)
  clear X2l X2a X2b X2c B5 B5'
  try clear X2l
  try clear X2a
  try clear X2b
  try clear X2c
  try clear X2fa
  try clear X2fb
  try clear X2fc
  obtain ⟨X2l, X2a, X2b, X2c, -, -, -⟩ := X2.facts3
  go_wp2_with fail
  refine (Path_spec _ p _ _ (HP.out.mono Bw2.out) HSh.out).mono ?_
  rintro e w6 ⟨A6, c6, rfl, hb6, ho6⟩
  generalize hr : pathOf p id = r at *
  have HRr := Lib.hid hr
  generalize hr1 : (if r.isSome = true then (0 : Int) else 7) = r1 at *
  have HR1 := Lib.hid hr1
  have HL6 := Lib.hid (Own.sl ho6)
  replace X2 := X2.keep hb6
  replace X5 := X5.keep hb6
  replace X7 := X7.keep hb6
  replace X9 := X9.keep hb6
  replace X11 := X11.keep hb6
  replace HP4 := Lib.hid (HP4.out.mono hb6)
  replace HP5 := Lib.hid (HP5.out.mono hb6)
  replace Bw2 := Lib.hid (bT Bw2.out hb6)
  clear hb6 ho6 hr hr1 X2l X2a X2b X2c
  try clear X2l
  try clear X2a
  try clear X2b
  try clear X2c
  try clear X2fa
  try clear X2fb
  try clear X2fc
  obtain ⟨X2l, X2a, X2b, X2c, -, -, -⟩ := X2.facts3
  go_wp2_with fail
  refine (RPath_spec _ p _ _ (HP.out.mono Bw2.out) HSh.out).mono ?_
  rintro e w7 ⟨A7, c7, rfl, hb7, ho7⟩
  rw [HRr.out] at ho7 ⊢
  rw [HR1.out]
  have HL7 := Lib.hid (Own.sl ho7)
  replace X2 := X2.keep hb7
  replace X5 := X5.keep hb7
  replace X7 := X7.keep hb7
  replace X9 := X9.keep hb7
  replace X11 := X11.keep hb7
  replace HP4 := Lib.hid (HP4.out.mono hb7)
  replace HP5 := Lib.hid (HP5.out.mono hb7)
  replace HL6 := Lib.hid (HL6.out.mono hb7)
  replace Bw2 := Lib.hid (bT Bw2.out hb7)
  clear hb7 ho7 X2l X2a X2b X2c
  go_upto_region 9 with fail
  try clear X2l
  try clear X2a
  try clear X2b
  try clear X2c
  try clear X2fa
  try clear X2fb
  try clear X2fc
  obtain ⟨X2l, X2a, X2b, X2c, -, -, -⟩ := X2.facts3
  try clear X5l
  try clear X5a
  try clear X5b
  try clear X5c
  try clear X5fa
  try clear X5fb
  try clear X5fc
  obtain ⟨X5l, X5a, X5b, X5c, -, -, -⟩ := X5.facts3
  try clear X7l
  try clear X7a
  try clear X7b
  try clear X7c
  try clear X7fa
  try clear X7fb
  try clear X7fc
  obtain ⟨X7l, X7a, X7b, X7c, -, -, -⟩ := X7.facts3
  try clear X9l
  try clear X9a
  try clear X9b
  try clear X9c
  try clear X9d
  try clear X9e
  try clear X9f
  try clear X9fa
  try clear X9fb
  try clear X9fc
  try clear X9fd
  try clear X9fe
  try clear X9ff
  obtain ⟨X9l, X9a, X9b, X9c, X9d, X9e, X9f, -, -, -, -, -, -⟩ := X9.facts6
  try clear X11l
  try clear X11a
  try clear X11b
  try clear X11c
  try clear X11d
  try clear X11e
  try clear X11f
  try clear X11fa
  try clear X11fb
  try clear X11fc
  try clear X11fd
  try clear X11fe
  try clear X11ff
  obtain ⟨X11l, X11a, X11b, X11c, X11d, X11e, X11f, -, -, -, -, -, -⟩ := X11.facts6
  have hE := run_eql_nd_self n
  have hEb1 := run_eql_b nb
  have hEb2 := run_eql_b ab
  have TSA : Hid (∀ W, Below w7.heap.size w7 W → Calls Try.prog 17 #[.agg #[.int .i64 a.id, .int .i64 a.fr, .int .i64 a.dst, .slice A4 a.via.length c4, .int .i64 a.left, .int .i64 a.right], .agg #[.int .i64 a.id, .int .i64 a.fr, .int .i64 a.dst, .slice A5 a.via.length c5, .int .i64 a.left, .int .i64 a.right]] W fun e w' => e = .returned (.bool true) ∧ Below W.heap.size W w') := Lib.hid fun W hW => by
    have h := SameArc_spec a a _ _ W (HP4.out.mono hW) (HP5.out.mono hW)
    rw [decide_eq_true rfl] at h
    exact h
  have TSP : Hid (∀ W, Below w7.heap.size w7 W → Calls Try.prog 18 #[.slice A6 (r.getD []).length c6, .slice A7 (r.getD []).length c7] W fun e w' => e = .returned (.bool true) ∧ Below W.heap.size W w') := Lib.hid fun W hW => by
    have h := SamePath_spec _ _ (r.getD []) (r.getD []) W (HL6.out.mono hW) (HL7.out.mono hW)
    rw [decide_eq_true rfl] at h
    exact h
  have hdeg : p.arcs.length ≤ 1099511627776 := by have := HFw.out; omega
  refine rg_start (Since w7) (.take 0 1 (.take 1 3 (.take 2 7 (.take 3 15 (.take 4 31 (.take 5 63 (.take 6 127 (.take 7 255 (.take 8 511 (.take 9 1023 (.take 10 2047 (.call 11 4095 (.take 12 8191 (.take 13 16383 (.take 14 32767 (.take 15 65535 (.take 16 131071 (.take 17 262143 (.take 18 524287 (.take 19 1048575 (.take 20 2097151 (.call 21 4194303 (.take 22 8388607 (.take 23 16777215 (.take 24 33554431 (.take 25 67108863 (.take 26 134217727 (.take 27 268435455 (.take 28 536870911 (.take 29 1073741823 (.take 30 2147483647 (.take 32 6442450943 (.take 33 15032385535 (.call 31 17179869183 (.call 34 34359738367 (.take 35 68719476735 (.take 36 137438953471 (.take 37 274877906943 (.call 38 549755813887 (.take 39 1099511627775 (.take 40 2199023255551 (.done)))))))))))))))))))))))))))))))))))))))))) (by kernel_rfl) (bD (bR _)) (by kernel_rfl) (by kernel_rfl) (Nat.le_of_ble_eq_true (by kernel_rfl)) ?_
  intro opsR QR Hops HQrg hS
  refine rg_take (i := 0) (get_of Hops rfl) hS ?_
  apply Exists.intro
  apply And.intro
  · refine .inl ⟨(wanted_plain rfl), fun wq hq => ?_⟩
    have hq' : Below w7.heap.size w7 wq := hq
    obtain ⟨hqc, -⟩ := bcell hq'
    clear hq hq'
    go_simp
    try rfl
  try simp only [Act.put, List.setIfInBounds_toArray, List.set_cons_zero, List.set_cons_succ]
  refine rg_take (i := 1) (get_of Hops rfl) hS ?_
  apply Exists.intro
  apply And.intro
  · refine .inl ⟨(wanted_plain rfl), fun wq hq => ?_⟩
    have hq' : Below w7.heap.size w7 wq := hq
    obtain ⟨hqc, -⟩ := bcell hq'
    clear hq hq'
    go_simp
    try rfl
  try simp only [Act.put, List.setIfInBounds_toArray, List.set_cons_zero, List.set_cons_succ]
  refine rg_take (i := 2) (get_of Hops rfl) hS ?_
  apply Exists.intro
  apply And.intro
  · refine .inl ⟨(wanted_plain rfl), fun wq hq => ?_⟩
    clear hq
    go_simp
    try rfl
  try simp only [Act.put, List.setIfInBounds_toArray, List.set_cons_zero, List.set_cons_succ]
  refine rg_take (i := 3) (get_of Hops rfl) hS ?_
  apply Exists.intro
  apply And.intro
  · refine .inl ⟨(wanted_plain rfl), fun wq hq => ?_⟩
    clear hq
    go_simp
    try rfl
  try simp only [Act.put, List.setIfInBounds_toArray, List.set_cons_zero, List.set_cons_succ]
  refine rg_take (i := 4) (get_of Hops rfl) hS ?_
  apply Exists.intro
  apply And.intro
  · refine .inl ⟨(wanted_yes rfl (get_of Hops rfl) rfl rfl), fun wq hq => ?_⟩
    clear hq
    go_simp
    try rfl
  try simp only [Act.put, List.setIfInBounds_toArray, List.set_cons_zero, List.set_cons_succ]
  refine rg_take (i := 5) (get_of Hops rfl) hS ?_
  apply Exists.intro
  apply And.intro
  · refine .inl ⟨(wanted_yes rfl (get_of Hops rfl) rfl rfl), fun wq hq => ?_⟩
    clear hq
    go_simp
    try rfl
  try simp only [Act.put, List.setIfInBounds_toArray, List.set_cons_zero, List.set_cons_succ]
  refine rg_take (i := 6) (get_of Hops rfl) hS ?_
  apply Exists.intro
  apply And.intro
  · refine .inl ⟨(wanted_yes rfl (get_of Hops rfl) rfl rfl), fun wq hq => ?_⟩
    clear hq
    go_simp
    try rfl
  try simp only [Act.put, List.setIfInBounds_toArray, List.set_cons_zero, List.set_cons_succ]
  refine rg_take (i := 7) (get_of Hops rfl) hS ?_
  apply Exists.intro
  apply And.intro
  · refine .inl ⟨(wanted_plain rfl), fun wq hq => ?_⟩
    clear hq
    go_simp
    try rfl
  try simp only [Act.put, List.setIfInBounds_toArray, List.set_cons_zero, List.set_cons_succ]
  refine rg_take (i := 8) (get_of Hops rfl) hS ?_
  apply Exists.intro
  apply And.intro
  · refine .inl ⟨(wanted_plain rfl), fun wq hq => ?_⟩
    clear hq
    go_simp
    try rfl
  try simp only [Act.put, List.setIfInBounds_toArray, List.set_cons_zero, List.set_cons_succ]
  refine rg_take (i := 9) (get_of Hops rfl) hS ?_
  apply Exists.intro
  apply And.intro
  · refine .inl ⟨(wanted_yes rfl (get_of Hops rfl) rfl rfl), fun wq hq => ?_⟩
    have hq' : Below w7.heap.size w7 wq := hq
    obtain ⟨hqc, -⟩ := bcell hq'
    clear hq hq'
    go_simp
    try rfl
  try simp only [Act.put, List.setIfInBounds_toArray, List.set_cons_zero, List.set_cons_succ]
  refine rg_take (i := 10) (get_of Hops rfl) hS ?_
  apply Exists.intro
  apply And.intro
  · refine .inl ⟨(wanted_yes rfl (get_of Hops rfl) rfl rfl), fun wq hq => ?_⟩
    have hq' : Below w7.heap.size w7 wq := hq
    obtain ⟨hqc, -⟩ := bcell hq'
    clear hq hq'
    go_simp
    try rfl
  try simp only [Act.put, List.setIfInBounds_toArray, List.set_cons_zero, List.set_cons_succ]
  refine rg_call (i := 11) (get_of Hops rfl) (fun K hK => ?_)
  have HSrg := Lib.hid hS; clear hS
  refine rg_run (wanted_yes rfl (get_of Hops rfl) rfl rfl) ?_
  go_simp
  refine (TSA.out _ HSrg.out).mono ?_
  rintro e wr1 ⟨rfl, hbr1⟩
  have hS : Since w7 wr1 := bT (w := w7) HSrg.out hbr1
  clear HSrg
  refine hK.out _ _ hS (fun _ => ?_)
  clear hK K
  try simp only [Act.put, List.setIfInBounds_toArray, List.set_cons_zero, List.set_cons_succ]
  refine rg_take (i := 12) (get_of Hops rfl) hS ?_
  apply Exists.intro
  apply And.intro
  · refine .inl ⟨(wanted_plain rfl), fun wq hq => ?_⟩
    clear hq
    go_simp
    try rfl
  try simp only [Act.put, List.setIfInBounds_toArray, List.set_cons_zero, List.set_cons_succ]
  refine rg_take (i := 13) (get_of Hops rfl) hS ?_
  apply Exists.intro
  apply And.intro
  · refine .inl ⟨(wanted_plain rfl), fun wq hq => ?_⟩
    clear hq
    go_simp
    try rfl
  try simp only [Act.put, List.setIfInBounds_toArray, List.set_cons_zero, List.set_cons_succ]
  refine rg_take (i := 14) (get_of Hops rfl) hS ?_
  apply Exists.intro
  apply And.intro
  · refine .inl ⟨(wanted_yes rfl (get_of Hops rfl) rfl rfl), fun wq hq => ?_⟩
    clear hq
    go_simp
    try rfl
  try simp only [Act.put, List.setIfInBounds_toArray, List.set_cons_zero, List.set_cons_succ]
  refine rg_take (i := 15) (get_of Hops rfl) hS ?_
  apply Exists.intro
  apply And.intro
  · refine .inl ⟨(wanted_yes rfl (get_of Hops rfl) rfl rfl), fun wq hq => ?_⟩
    clear hq
    go_simp
    try rfl
  try simp only [Act.put, List.setIfInBounds_toArray, List.set_cons_zero, List.set_cons_succ]
  refine rg_take (i := 16) (get_of Hops rfl) hS ?_
  apply Exists.intro
  apply And.intro
  · refine .inl ⟨(wanted_yes rfl (get_of Hops rfl) rfl rfl), fun wq hq => ?_⟩
    clear hq
    go_simp
    try rfl
  try simp only [Act.put, List.setIfInBounds_toArray, List.set_cons_zero, List.set_cons_succ]
  refine rg_take (i := 17) (get_of Hops rfl) hS ?_
  apply Exists.intro
  apply And.intro
  · refine .inl ⟨(wanted_plain rfl), fun wq hq => ?_⟩
    clear hq
    go_simp
    try rfl
  try simp only [Act.put, List.setIfInBounds_toArray, List.set_cons_zero, List.set_cons_succ]
  refine rg_take (i := 18) (get_of Hops rfl) hS ?_
  apply Exists.intro
  apply And.intro
  · refine .inl ⟨(wanted_plain rfl), fun wq hq => ?_⟩
    clear hq
    go_simp
    try rfl
  try simp only [Act.put, List.setIfInBounds_toArray, List.set_cons_zero, List.set_cons_succ]
  refine rg_take (i := 19) (get_of Hops rfl) hS ?_
  apply Exists.intro
  apply And.intro
  · refine .inl ⟨(wanted_yes rfl (get_of Hops rfl) rfl rfl), fun wq hq => ?_⟩
    clear hq
    go_simp
    try rfl
  try simp only [Act.put, List.setIfInBounds_toArray, List.set_cons_zero, List.set_cons_succ]
  refine rg_take (i := 20) (get_of Hops rfl) hS ?_
  apply Exists.intro
  apply And.intro
  · refine .inl ⟨(wanted_yes rfl (get_of Hops rfl) rfl rfl), fun wq hq => ?_⟩
    clear hq
    go_simp
    try rfl
  try simp only [Act.put, List.setIfInBounds_toArray, List.set_cons_zero, List.set_cons_succ]
  refine rg_call (i := 21) (get_of Hops rfl) (fun K hK => ?_)
  have HSrg := Lib.hid hS; clear hS
  refine rg_run (wanted_yes rfl (get_of Hops rfl) rfl rfl) ?_
  go_simp
  refine (TSP.out _ HSrg.out).mono ?_
  rintro e wr2 ⟨rfl, hbr2⟩
  have hS : Since w7 wr2 := bT (w := w7) HSrg.out hbr2
  clear HSrg
  refine hK.out _ _ hS (fun _ => ?_)
  clear hK K
  try simp only [Act.put, List.setIfInBounds_toArray, List.set_cons_zero, List.set_cons_succ]
  refine rg_take (i := 22) (get_of Hops rfl) hS ?_
  apply Exists.intro
  apply And.intro
  · refine .inl ⟨(wanted_plain rfl), fun wq hq => ?_⟩
    clear hq
    go_simp
    try rfl
  try simp only [Act.put, List.setIfInBounds_toArray, List.set_cons_zero, List.set_cons_succ]
  refine rg_take (i := 23) (get_of Hops rfl) hS ?_
  apply Exists.intro
  apply And.intro
  · refine .inl ⟨(wanted_plain rfl), fun wq hq => ?_⟩
    clear hq
    go_simp
    try rfl
  try simp only [Act.put, List.setIfInBounds_toArray, List.set_cons_zero, List.set_cons_succ]
  refine rg_take (i := 24) (get_of Hops rfl) hS ?_
  apply Exists.intro
  apply And.intro
  · refine .inl ⟨(wanted_yes rfl (get_of Hops rfl) rfl rfl), fun wq hq => ?_⟩
    clear hq
    go_simp
    try rfl
  try simp only [Act.put, List.setIfInBounds_toArray, List.set_cons_zero, List.set_cons_succ]
  refine rg_take (i := 25) (get_of Hops rfl) hS ?_
  apply Exists.intro
  apply And.intro
  · refine .inl ⟨(wanted_yes rfl (get_of Hops rfl) rfl rfl), fun wq hq => ?_⟩
    clear hq
    go_simp
    try rfl
  try simp only [Act.put, List.setIfInBounds_toArray, List.set_cons_zero, List.set_cons_succ]
  refine rg_take (i := 26) (get_of Hops rfl) hS ?_
  apply Exists.intro
  apply And.intro
  · refine .inl ⟨(wanted_yes rfl (get_of Hops rfl) rfl rfl), fun wq hq => ?_⟩
    clear hq
    go_simp
    try rfl
  try simp only [Act.put, List.setIfInBounds_toArray, List.set_cons_zero, List.set_cons_succ]
  refine rg_take (i := 27) (get_of Hops rfl) hS ?_
  apply Exists.intro
  apply And.intro
  · refine .inl ⟨(wanted_plain rfl), fun wq hq => ?_⟩
    clear hq
    go_simp
    try rfl
  try simp only [Act.put, List.setIfInBounds_toArray, List.set_cons_zero, List.set_cons_succ]
  refine rg_take (i := 28) (get_of Hops rfl) hS ?_
  apply Exists.intro
  apply And.intro
  · refine .inl ⟨(wanted_plain rfl), fun wq hq => ?_⟩
    clear hq
    go_simp
    try rfl
  try simp only [Act.put, List.setIfInBounds_toArray, List.set_cons_zero, List.set_cons_succ]
  refine rg_take (i := 29) (get_of Hops rfl) hS ?_
  apply Exists.intro
  apply And.intro
  · refine .inl ⟨(wanted_yes rfl (get_of Hops rfl) rfl rfl), fun wq hq => ?_⟩
    have hq' : Below w7.heap.size w7 wq := hq
    obtain ⟨hqc, -⟩ := bcell hq'
    clear hq hq'
    go_simp
    try rfl
  try simp only [Act.put, List.setIfInBounds_toArray, List.set_cons_zero, List.set_cons_succ]
  refine rg_take (i := 30) (get_of Hops rfl) hS ?_
  apply Exists.intro
  apply And.intro
  · refine .inl ⟨(wanted_yes rfl (get_of Hops rfl) rfl rfl), fun wq hq => ?_⟩
    clear hq
    go_simp
    try rfl
  try simp only [Act.put, List.setIfInBounds_toArray, List.set_cons_zero, List.set_cons_succ]
  refine rg_take (i := 32) (get_of Hops rfl) hS ?_
  apply Exists.intro
  apply And.intro
  · refine .inl ⟨(wanted_yes rfl (get_of Hops rfl) rfl rfl), fun wq hq => ?_⟩
    have hq' : Below w7.heap.size w7 wq := hq
    obtain ⟨hqc, -⟩ := bcell hq'
    clear hq hq'
    go_simp
    try rfl
  try simp only [Act.put, List.setIfInBounds_toArray, List.set_cons_zero, List.set_cons_succ]
  refine rg_take (i := 33) (get_of Hops rfl) hS ?_
  apply Exists.intro
  apply And.intro
  · refine .inl ⟨(wanted_yes rfl (get_of Hops rfl) rfl rfl), fun wq hq => ?_⟩
    clear hq
    go_simp
    try rfl
  try simp only [Act.put, List.setIfInBounds_toArray, List.set_cons_zero, List.set_cons_succ]
  refine rg_call (i := 31) (get_of Hops rfl) (fun K hK => ?_)
  have HSrg := Lib.hid hS; clear hS
  refine rg_run (wanted_yes rfl (get_of Hops rfl) rfl rfl) ?_
  go_simp
  refine (Degree_spec _ p id _ (HP.out.mono (bT Bw2.out HSrg.out)) hdeg).mono ?_
  rintro e wr3 ⟨rfl, hbr3⟩
  have hS : Since w7 wr3 := bT (w := w7) HSrg.out hbr3
  clear HSrg
  refine hK.out _ _ hS (fun _ => ?_)
  clear hK K
  try simp only [Act.put, List.setIfInBounds_toArray, List.set_cons_zero, List.set_cons_succ]
  refine rg_call (i := 34) (get_of Hops rfl) (fun K hK => ?_)
  have HSrg := Lib.hid hS; clear hS
  refine rg_run (wanted_yes rfl (get_of Hops rfl) rfl rfl) ?_
  go_simp
  refine (RDegree_spec _ p id _ (HP.out.mono (bT Bw2.out HSrg.out)) hdeg).mono ?_
  rintro e wr4 ⟨rfl, hbr4⟩
  have hS : Since w7 wr4 := bT (w := w7) HSrg.out hbr4
  clear HSrg
  refine hK.out _ _ hS (fun _ => ?_)
  clear hK K
  try simp only [Act.put, List.setIfInBounds_toArray, List.set_cons_zero, List.set_cons_succ]
  refine rg_take (i := 35) (get_of Hops rfl) hS ?_
  apply Exists.intro
  apply And.intro
  · refine .inl ⟨(wanted_yes rfl (get_of Hops rfl) rfl rfl), fun wq hq => ?_⟩
    clear hq
    go_simp
    try rfl
  try simp only [Act.put, List.setIfInBounds_toArray, List.set_cons_zero, List.set_cons_succ]
  refine rg_take (i := 36) (get_of Hops rfl) hS ?_
  apply Exists.intro
  apply And.intro
  · refine .inl ⟨(wanted_plain rfl), fun wq hq => ?_⟩
    clear hq
    go_simp
    try rfl
  try simp only [Act.put, List.setIfInBounds_toArray, List.set_cons_zero, List.set_cons_succ]
  refine rg_take (i := 37) (get_of Hops rfl) hS ?_
  apply Exists.intro
  apply And.intro
  · refine .inl ⟨(wanted_plain rfl), fun wq hq => ?_⟩
    clear hq
    go_simp
    try rfl
  try simp only [Act.put, List.setIfInBounds_toArray, List.set_cons_zero, List.set_cons_succ]
  refine rg_call (i := 38) (get_of Hops rfl) (fun K hK => ?_)
  have HSrg := Lib.hid hS; clear hS
  refine rg_run (wanted_yes rfl (get_of Hops rfl) rfl rfl) ?_
  go_simp
  refine (HAw.out _).mono ?_
  rintro e wr5 ⟨rfl, hbr5⟩
  have hS : Since w7 wr5 := bT (w := w7) HSrg.out hbr5
  clear HSrg
  refine hK.out _ _ hS (fun _ => ?_)
  clear hK K
  try simp only [Act.put, List.setIfInBounds_toArray, List.set_cons_zero, List.set_cons_succ]
  refine rg_take (i := 39) (get_of Hops rfl) hS ?_
  apply Exists.intro
  apply And.intro
  · refine .inl ⟨(wanted_plain rfl), fun wq hq => ?_⟩
    clear hq
    go_simp
    try rfl
  try simp only [Act.put, List.setIfInBounds_toArray, List.set_cons_zero, List.set_cons_succ]
  refine rg_take (i := 40) (get_of Hops rfl) hS ?_
  apply Exists.intro
  apply And.intro
  · refine .inl ⟨(wanted_plain rfl), fun wq hq => ?_⟩
    clear hq
    go_simp
    try rfl
  try simp only [Act.put, List.setIfInBounds_toArray, List.set_cons_zero, List.set_cons_succ]
  refine rg_done ?_
  refine HQrg.down _ _ ?_
  have hB : Below w7.heap.size w7 wr5 := hS
  clear hS HQrg Hops
  go_wp2_with fail
  go_ret
  exact ⟨rfl, bT Bw2.out hB⟩
end Go.Proofs.Ytibchmofckhofaa
