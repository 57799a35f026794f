/- mapsheetslaw42: sheets, line, awake (true). mapsheetsref42.Crossings. -/
import Derived.Test.YtbjlnnfmcjbnhaaGreatDoorJ19
import Derived.Test.YtbjlnnfmcjbnhaaGreatDoorExpA
import Derived.Test.YtbjlnnfmcjbnhaaGreatDoorJ18
set_option linter.unusedSimpArgs false
set_option linter.unusedVariables false
namespace Go.Proofs.YtbjlnnfmcjbnhaaGreatDoor
open Go.RowKit

theorem struct_se : StructOf Tryz.prog 44 6 := .mk_ Tryz.underlying44 (by kernel_rfl)
def ser (c r : Int) : Se := ⟨⟨0, 0⟩, 10, 10, c, r⟩
set_option maxHeartbeats 1000000 in
theorem ser_spec (c r : Int) (w : World) : Calls Tryz.prog 24 #[.int .i64 c, .int .i64 r] w fun e w' => e = .returned (.agg #[.int .i64 0, .int .i64 0, .int .i64 10, .int .i64 10, .int .i64 c, .int .i64 r]) ∧ Below w.heap.size w w' := by
  go_enter Tryz.func24, Tryz.ntmps24
  go_wp2_with fail
  refine res_cell (t := 44) (g := w.heap.size) (cs := #[.int .i64 0, .int .i64 0, .int .i64 10, .int .i64 10, .int .i64 c, .int .i64 r]) rfl struct_se rfl rfl ?_ ⟨rfl, ?_⟩
  · exact Blk.made rfl _ _
  · exact bA (bR w) _
def lineP (q : Pt) (via : List Pt) : Pl := ⟨[⟨1, ⟨5, 5⟩⟩, ⟨2, q⟩], [⟨4, 1, 2, via, 0, 0⟩], []⟩
set_option maxHeartbeats 1000000 in
theorem lineP_spec (q : Pt) (v : Value) (via : List Pt) (w : World) (h : Pts w v via) : Calls Tryz.prog 25 #[.agg #[.int .i64 q.x, .int .i64 q.y], v] w fun e w' => ∃ u, e = .returned u ∧ Below w.heap.size w w' ∧ PlV w' u (lineP q via) := by
  have HV := Lib.hid h
  obtain ⟨Av, cv, rfl, -⟩ := h
  go_enter Tryz.func25, Tryz.ntmps25
  go_wp2_with fail
  refine res_cell (t := 40) (g := w.heap.size + 1) (cs := #[.slice (some ⟨w.heap.size + 1 + 1, 0, none⟩) 2 2, .slice (some ⟨w.heap.size + 1 + 1 + 1, 0, none⟩) 1 1, .slice none 0 0]) rfl struct_pl rfl rfl ?_ ⟨_, rfl, ?_, ?_⟩
  · exact ((Blk.made (by simp) _ _).alloc _).alloc _
  · exact bA (bA (bA (bA (bR w) _) _) _) _
  · refine ⟨_, _, _, [(⟨4, 1, 2, via, 0, 0⟩, .slice Av via.length cv)], rfl, rfl, ?_, ⟨?_, ?_⟩, Sl.nil _⟩
    · exact Sl.lit (n := 2) ((Blk.made (by simp) _ _).alloc _) rfl (le_maxLen (by omega))
    · exact Sl.lit (n := 1) (Blk.made (by simp) _ _) rfl (le_maxLen (by omega))
    · intro k hk
      have : k = 0 := by simpa using hk
      subst this
      exact HV.out.mono (bA (bA (bA (bA (bR w) _) _) _) _)
theorem exE1 : expectedS (lineP ⟨15, 8⟩ []) (ser 2 1) 1 3 = ([⟨7, 4, 1⟩], 0) := by decide +kernel
theorem exE2 : expectedS (lineP ⟨15, 5⟩ [⟨10, 4⟩, ⟨10, 6⟩]) (ser 2 1) 2 1 = ([⟨6, 4, 0⟩], 0) := by decide +kernel
theorem exE3 : expectedS (lineP ⟨5, 7⟩ [⟨10, 5⟩]) (ser 2 1) 1 3 = ([], 0) := by decide +kernel
def exX : Prt := ⟨1, [⟨4, [⟨5, 5⟩, ⟨10, 7⟩], 0, 3⟩], []⟩
def exY : Prt := ⟨2, [], []⟩
theorem exC1 : crossResS exX ⟨0, 0, 10, 10⟩ 3 = ([⟨7, 4, 1⟩], 0) := by decide +kernel
theorem exC2 : crossResS exX ⟨0, 0, 0, 0⟩ 5 = ([], 1) := by decide +kernel
theorem exM : matchS [exX, exY] (ser 2 1) = ([1, 2], 0) := by decide +kernel
theorem exO : oppS [⟨7, 4, 1⟩] = [⟨7, 4, 0⟩] := by decide +kernel

/-- n crossings that read as a list, and an error -/
def RetCrN (w : World) (n : Nat) (l : List Cr) (z : Int) (e : Ending) (w' : World) : Prop :=
  ∃ A c, e = .returned (.tuple #[.slice A n c, .int .i64 z]) ∧ Below w.heap.size w w' ∧ Crs w' (.slice A n c) l
theorem ex_expected {v : Value} {p : Pl} {s : Se} {n side : Int} {w : World} {l : List Cr} {z : Int} {m : Nat} (h : PlV w v p) (hwf : wfPl p) (hsm : p.nodes.length ≤ 1000 ∧ p.arcs.length ≤ 1000 ∧ (p.arcs.flatMap (·.via)).length ≤ 100000) (he : expectedS p s n side = (l, z)) (hm : l.length = m) :
    Calls Tryz.prog 16 #[v, seV s, .int .i64 n, .int .i64 side] w (RetCrN w m l z) := by
  subst hm
  refine (Expected_spec v p s n side w h hwf hsm).mono ?_
  rintro e w' ⟨A, c, h1, hb, ho⟩
  rw [he] at h1 ho
  exact ⟨A, c, h1, hb, ho.sl⟩
theorem wf_lineP (q : Pt) (via : List Pt) (hq : wfPt q) (hv : ∀ x ∈ via, wfPt x) : wfPl (lineP q via) := by
  have h0 : ∀ x : Int, -1000 ≤ x → x ≤ 1000 → wfI x := fun x h1 h2 => wfI_of (by omega) (by omega)
  refine ⟨fun n hn => ?_, fun a ha => ?_, fun f hf => by cases hf⟩
  · simp only [lineP, List.mem_cons, List.not_mem_nil, or_false] at hn
    rcases hn with rfl | rfl
    · exact ⟨h0 _ (by decide) (by decide), h0 _ (by decide) (by decide), h0 _ (by decide) (by decide)⟩
    · exact ⟨h0 2 (by decide) (by decide), hq⟩
  · simp only [lineP, List.mem_cons, List.not_mem_nil, or_false] at ha
    subst ha
    exact ⟨h0 4 (by decide) (by decide), h0 1 (by decide) (by decide), h0 2 (by decide) (by decide), h0 0 (by decide) (by decide), h0 0 (by decide) (by decide), hv⟩

theorem ex_crossings {v : Value} {x : Prt} {b : Bx} {side : Int} {w : World} {l : List Cr} {z : Int} {m : Nat} (h : PrtV w v x) (hw : wfPrt x) (hl1 : x.pieces.length ≤ 60000) (hl2 : x.nodes.length ≤ 60000) (he : crossResS x b side = (l, z)) (hm : l.length = m) :
    Calls Tryz.prog 10 #[v, bxV b, .int .i64 side] w (RetCrN w m l z) := by
  subst hm
  refine (Crossings_spec v x b side w h hw hl1 hl2).mono ?_
  rintro e w' ⟨A, c, h1, hb, ho⟩
  rw [he] at h1 ho
  exact ⟨A, c, h1, hb, ho.sl⟩
theorem wf_exX : wfPrt exX := by
  have h0 : ∀ x : Int, -1000 ≤ x → x ≤ 1000 → wfI x := fun x h1 h2 => wfI_of (by omega) (by omega)
  refine ⟨h0 1 (by decide) (by decide), fun y hy => ?_, fun n hn => by cases hn⟩
  simp only [exX, List.mem_cons, List.not_mem_nil, or_false] at hy
  subst hy
  refine ⟨h0 4 (by decide) (by decide), h0 0 (by decide) (by decide), h0 3 (by decide) (by decide), fun q hq => ?_⟩
  simp only [List.mem_cons, List.not_mem_nil, or_false] at hq
  rcases hq with rfl | rfl
  · exact ⟨h0 5 (by decide) (by decide), h0 5 (by decide) (by decide)⟩
  · exact ⟨h0 10 (by decide) (by decide), h0 7 (by decide) (by decide)⟩
theorem wf_exY : wfPrt exY := by
  have h0 : ∀ x : Int, -1000 ≤ x → x ≤ 1000 → wfI x := fun x h1 h2 => wfI_of (by omega) (by omega)
  refine ⟨h0 2 (by decide) (by decide), fun y hy => ?_, fun n hn => ?_⟩
  · cases hy
  · cases hn

set_option maxRecDepth 100000 in
set_option maxHeartbeats 8000000 in
theorem awake42_spec (w : World) (hm : Mv w) : Calls Tryz.prog 9 #[] w fun e w' => e = .returned (.bool true) ∧ Below w.heap.size w w' := by
  have HS := Lib.hid ser_spec
  have HL := Lib.hid (@lineP_spec)
  have h0 : ∀ x : Int, -1000 ≤ x → x ≤ 1000 → wfI x := fun x h1 h2 => wfI_of (by omega) (by omega)
  have wq : ∀ x y : Int, -1000 ≤ x → x ≤ 1000 → -1000 ≤ y → y ≤ 1000 → wfPt ⟨x, y⟩ := fun x y h1 h2 h3 h4 => ⟨h0 _ h1 h2, h0 _ h3 h4⟩
  have T1 : ∀ v W, PlV W v (lineP ⟨15, 8⟩ []) → Calls Tryz.prog 16 #[v, seV (ser 2 1), .int .i64 1, .int .i64 3] W (RetCrN W 1 [⟨7, 4, 1⟩] 0) := fun v W h => ex_expected h (wf_lineP _ _ (wq _ _ (by omega) (by omega) (by omega) (by omega)) (fun x hx => by cases hx)) (by decide) exE1 rfl
  have T2 : ∀ v W, PlV W v (lineP ⟨15, 5⟩ [⟨10, 4⟩, ⟨10, 6⟩]) → Calls Tryz.prog 16 #[v, seV (ser 2 1), .int .i64 2, .int .i64 1] W (RetCrN W 1 [⟨6, 4, 0⟩] 0) := fun v W h => ex_expected h (wf_lineP _ _ (wq _ _ (by omega) (by omega) (by omega) (by omega)) (fun x hx => by
    simp only [List.mem_cons, List.not_mem_nil, or_false] at hx
    rcases hx with rfl | rfl
    · exact wq _ _ (by omega) (by omega) (by omega) (by omega)
    · exact wq _ _ (by omega) (by omega) (by omega) (by omega))) (by decide) exE2 rfl
  have T3 : ∀ v W, PlV W v (lineP ⟨5, 7⟩ [⟨10, 5⟩]) → Calls Tryz.prog 16 #[v, seV (ser 2 1), .int .i64 1, .int .i64 3] W (RetCrN W 0 [] 0) := fun v W h => ex_expected h (wf_lineP _ _ (wq _ _ (by omega) (by omega) (by omega) (by omega)) (fun x hx => by
    simp only [List.mem_cons, List.not_mem_nil, or_false] at hx
    subst hx
    exact wq _ _ (by omega) (by omega) (by omega) (by omega))) (by decide) exE3 rfl
  unfold seV ser at T1 T2 T3
  have H1 := Lib.hid T1; have H2 := Lib.hid T2; have H3 := Lib.hid T3
  have HMv := Lib.hid hm
  clear T1 T2 T3 h0 wq hm
  go_enter Tryz.func9, Tryz.ntmps9
  go_wp2_with fail
  refine (HS.out _ _ _).mono ?_
  rintro e w1 ⟨rfl, hb1⟩
  go_upto_region 2 with fail
  obtain ⟨W2, hW⟩ : ∃ W2 : World, W2 = w1.alloc (.cells #[.int .i64 0, .int .i64 0, .int .i64 10, .int .i64 10, .int .i64 2, .int .i64 1] 44) := ⟨_, rfl⟩
  have HX1 := Lib.hid (show Blk W2 w1.heap.size 44 #[.int .i64 0, .int .i64 0, .int .i64 10, .int .i64 10, .int .i64 2, .int .i64 1] by rw [hW]; exact Blk.made rfl _ _)
  have HB2 := Lib.hid (show Below w.heap.size w W2 by rw [hW]; exact bA hb1 _)
  obtain ⟨g1, hg1⟩ : ∃ g1, w1.heap.size = g1 := ⟨_, rfl⟩
  rw [hg1] at HX1 ⊢
  rw [← hW]
  clear hW hb1 hg1
  have X1 := HX1.out
  try clear X1l
  try clear X1a
  try clear X1b
  try clear X1c
  try clear X1d
  try clear X1e
  try clear X1f
  try clear X1fa
  try clear X1fb
  try clear X1fc
  try clear X1fd
  try clear X1fe
  try clear X1ff
  obtain ⟨X1l, X1a, X1b, X1c, X1d, X1e, X1f, -, -, -, -, -, -⟩ := X1.facts6
  refine rg_start (Since W2) (.take 0 1 (.take 2 5 (.call 1 7 (.call 3 15 (.take 4 31 (.take 5 63 (.take 6 127 (.take 7 255 (.take 8 511 (.done)))))))))) (by kernel_rfl) (bD (bR _)) (by kernel_rfl) (by kernel_rfl) (Nat.le_of_ble_eq_true (by kernel_rfl)) ?_
  intro opsR QR Hops HQrg hS
  apply rg_yp (i := 0) Hops rfl hS rfl
  · intro _ hq; clear hq; go_simp; try rfl
  try simp only [Act.put, pu1, pu2, pu3]
  apply rg_yp (i := 2) Hops rfl hS rfl
  · intro wq hq; obtain ⟨hqc, -⟩ := bcell (show Below W2.heap.size W2 wq from hq); clear hq; go_simp; try rfl
  try simp only [Act.put, pu1, pu2, pu3]
  refine rg_call (i := 1) (get_of Hops rfl) (fun K hK => ?_)
  have HSrg := Lib.hid hS; clear hS
  refine rg_run (wanted_plain rfl) ?_
  go_simp
  refine (HL.out ⟨15, 8⟩ _ [] _ (Sl.nil _)).mono ?_
  rintro e wr1 ⟨v1, rfl, hbr1, hp1⟩
  have hS : Since W2 wr1 := bT (w := W2) HSrg.out hbr1
  clear HSrg
  refine hK.out _ _ hS (fun _ => ?_)
  clear hK K
  try simp only [Act.put, pu1, pu2, pu3]
  refine rg_call (i := 3) (get_of Hops rfl) (fun K hK => ?_)
  have HSrg := Lib.hid hS; clear hS
  refine rg_run (wanted_plain rfl) ?_
  go_simp
  refine (H1.out _ _ hp1).mono ?_
  rintro e wr2 ⟨A1, c1, rfl, hbr2, ho1⟩
  have hS : Since W2 wr2 := bT (w := W2) HSrg.out hbr2
  clear HSrg
  refine hK.out _ _ hS (fun _ => ?_)
  clear hK K
  try simp only [Act.put, pu1, pu2, pu3]
  apply rg_yp (i := 4) Hops rfl hS rfl
  · intro _ hq; clear hq; go_simp; try rfl
  try simp only [Act.put, pu1, pu2, pu3]
  apply rg_yp (i := 5) Hops rfl hS rfl
  · intro _ hq; clear hq; go_simp; try rfl
  try simp only [Act.put, pu1, pu2, pu3]
  apply rg_yp (i := 6) Hops rfl hS rfl
  · intro _ hq; clear hq; go_simp; try rfl
  try simp only [Act.put, pu1, pu2, pu3]
  apply rg_yp (i := 7) Hops rfl hS rfl
  · intro _ hq; clear hq; go_simp; try rfl
  try simp only [Act.put, pu1, pu2, pu3]
  apply rg_yp (i := 8) Hops rfl hS rfl
  · intro _ hq; clear hq; go_simp; try rfl
  try simp only [Act.put, pu1, pu2, pu3]
  refine rg_done ?_
  refine HQrg.down _ _ ?_
  have hB : Below W2.heap.size W2 wr2 := hS
  clear hS HQrg Hops
  have B3 := Lib.hid (bT HB2.out hB)
  have HO1 := Lib.hid ho1
  replace HX1 := Lib.hid (HX1.out.keep hB)
  clear hB ho1 hp1 X1 X1l X1a X1b X1c X1d X1e X1f
  obtain ⟨W3, rfl⟩ : ∃ W3 : World, W3 = wr2 := ⟨_, rfl⟩
  have X1 := HX1.out
  try clear X1l
  try clear X1a
  try clear X1b
  try clear X1c
  try clear X1d
  try clear X1e
  try clear X1f
  try clear X1fa
  try clear X1fb
  try clear X1fc
  try clear X1fd
  try clear X1fe
  try clear X1ff
  obtain ⟨X1l, X1a, X1b, X1c, X1d, X1e, X1f, -, -, -, -, -, -⟩ := X1.facts6
  have HV3 := Lib.hid (show Pts (W3.alloc (.cells #[.int .i64 10, .int .i64 4, .int .i64 10, .int .i64 6] 42)).drew (.slice (some ⟨W3.heap.size, 0, none⟩) 2 2) [⟨10, 4⟩, ⟨10, 6⟩] from Sl.lit (n := 2) (Blk.drew (Blk.made rfl _ _)) rfl (le_maxLen (by omega)))
  go_upto_region 3 with fail
  refine rg_start (Since W3) (.take 0 1 (.take 1 3 (.take 2 7 (.take 5 39 (.call 3 47 (.call 4 63 (.call 6 127 (.take 7 255 (.take 8 511 (.take 9 1023 (.take 10 2047 (.take 11 4095 (.done))))))))))))) (by kernel_rfl) (bD (bR _)) (by kernel_rfl) (by kernel_rfl) (Nat.le_of_ble_eq_true (by kernel_rfl)) ?_
  intro opsR QR Hops HQrg hS
  apply rg_yp (i := 0) Hops rfl hS rfl
  · intro _ hq; clear hq; go_simp; try rfl
  try simp only [Act.put, pu1, pu2, pu3]
  apply rg_yp (i := 1) Hops rfl hS rfl
  · intro _ hq; clear hq; go_simp; try rfl
  try simp only [Act.put, pu1, pu2, pu3]
  apply rg_yp (i := 2) Hops rfl hS rfl
  · intro _ hq; clear hq; go_simp; try rfl
  try simp only [Act.put, pu1, pu2, pu3]
  apply rg_yp (i := 5) Hops rfl hS rfl
  · intro wq hq; obtain ⟨hqc, -⟩ := bcell (show Below W3.heap.size W3 wq from hq); clear hq; go_simp; try rfl
  try simp only [Act.put, pu1, pu2, pu3]
  refine rg_call (i := 3) (get_of Hops rfl) (fun K hK => ?_)
  have HSrg := Lib.hid hS; clear hS
  refine rg_run (wanted_plain rfl) ?_
  go_simp
  refine hK.out _ _ (bA HSrg.out _) (fun hS => ?_)
  clear hK K HSrg
  try simp only [Act.put, pu1, pu2, pu3]
  refine rg_call (i := 4) (get_of Hops rfl) (fun K hK => ?_)
  have HSrg := Lib.hid hS; clear hS
  refine rg_run (wanted_plain rfl) ?_
  go_simp
  refine (HL.out ⟨15, 5⟩ _ [⟨10, 4⟩, ⟨10, 6⟩] _ HV3.out).mono ?_
  rintro e wr1 ⟨v1, rfl, hbr1, hp1⟩
  have hS : Since W3 wr1 := bT (w := W3) HSrg.out hbr1
  clear HSrg
  refine hK.out _ _ hS (fun _ => ?_)
  clear hK K
  try simp only [Act.put, pu1, pu2, pu3]
  refine rg_call (i := 6) (get_of Hops rfl) (fun K hK => ?_)
  have HSrg := Lib.hid hS; clear hS
  refine rg_run (wanted_plain rfl) ?_
  go_simp
  refine (H2.out _ _ hp1).mono ?_
  rintro e wr2 ⟨A2, c2, rfl, hbr2, ho2⟩
  have hS : Since W3 wr2 := bT (w := W3) HSrg.out hbr2
  clear HSrg
  refine hK.out _ _ hS (fun _ => ?_)
  clear hK K
  try simp only [Act.put, pu1, pu2, pu3]
  apply rg_yp (i := 7) Hops rfl hS rfl
  · intro _ hq; clear hq; go_simp; try rfl
  try simp only [Act.put, pu1, pu2, pu3]
  apply rg_yp (i := 8) Hops rfl hS rfl
  · intro _ hq; clear hq; go_simp; try rfl
  try simp only [Act.put, pu1, pu2, pu3]
  apply rg_yp (i := 9) Hops rfl hS rfl
  · intro _ hq; clear hq; go_simp; try rfl
  try simp only [Act.put, pu1, pu2, pu3]
  apply rg_yp (i := 10) Hops rfl hS rfl
  · intro _ hq; clear hq; go_simp; try rfl
  try simp only [Act.put, pu1, pu2, pu3]
  apply rg_yp (i := 11) Hops rfl hS rfl
  · intro _ hq; clear hq; go_simp; try rfl
  try simp only [Act.put, pu1, pu2, pu3]
  refine rg_done ?_
  refine HQrg.down _ _ ?_
  have hB : Below W3.heap.size W3 wr2 := hS
  clear hS HQrg Hops
  have B4 := Lib.hid (bT B3.out hB)
  have HO2 := Lib.hid ho2
  replace HO1 := Lib.hid (HO1.out.mono hB)
  replace HX1 := Lib.hid (HX1.out.keep hB)
  clear hB ho2 hp1 X1 X1l X1a X1b X1c X1d X1e X1f
  obtain ⟨W4, rfl⟩ : ∃ W4 : World, W4 = wr2 := ⟨_, rfl⟩
  have X1 := HX1.out
  try clear X1l
  try clear X1a
  try clear X1b
  try clear X1c
  try clear X1d
  try clear X1e
  try clear X1f
  try clear X1fa
  try clear X1fb
  try clear X1fc
  try clear X1fd
  try clear X1fe
  try clear X1ff
  obtain ⟨X1l, X1a, X1b, X1c, X1d, X1e, X1f, -, -, -, -, -, -⟩ := X1.facts6
  have HV4 := Lib.hid (show Pts (W4.alloc (.cells #[.int .i64 10, .int .i64 5] 42)).drew (.slice (some ⟨W4.heap.size, 0, none⟩) 1 1) [⟨10, 5⟩] from Sl.lit (n := 1) (Blk.drew (Blk.made rfl _ _)) rfl (le_maxLen (by omega)))
  go_upto_region 4 with fail
  refine rg_start (Since W4) (.take 0 1 (.take 1 3 (.take 4 19 (.call 2 23 (.call 3 31 (.call 5 63 (.take 6 127 (.take 7 255 (.take 8 511 (.take 9 1023 (.take 10 2047 (.done)))))))))))) (by kernel_rfl) (bD (bR _)) (by kernel_rfl) (by kernel_rfl) (Nat.le_of_ble_eq_true (by kernel_rfl)) ?_
  intro opsR QR Hops HQrg hS
  apply rg_yp (i := 0) Hops rfl hS rfl
  · intro _ hq; clear hq; go_simp; try rfl
  try simp only [Act.put, pu1, pu2, pu3]
  apply rg_yp (i := 1) Hops rfl hS rfl
  · intro _ hq; clear hq; go_simp; try rfl
  try simp only [Act.put, pu1, pu2, pu3]
  apply rg_yp (i := 4) Hops rfl hS rfl
  · intro wq hq; obtain ⟨hqc, -⟩ := bcell (show Below W4.heap.size W4 wq from hq); clear hq; go_simp; try rfl
  try simp only [Act.put, pu1, pu2, pu3]
  refine rg_call (i := 2) (get_of Hops rfl) (fun K hK => ?_)
  have HSrg := Lib.hid hS; clear hS
  refine rg_run (wanted_plain rfl) ?_
  go_simp
  refine hK.out _ _ (bA HSrg.out _) (fun hS => ?_)
  clear hK K HSrg
  try simp only [Act.put, pu1, pu2, pu3]
  refine rg_call (i := 3) (get_of Hops rfl) (fun K hK => ?_)
  have HSrg := Lib.hid hS; clear hS
  refine rg_run (wanted_plain rfl) ?_
  go_simp
  refine (HL.out ⟨5, 7⟩ _ [⟨10, 5⟩] _ HV4.out).mono ?_
  rintro e wr1 ⟨v1, rfl, hbr1, hp1⟩
  have hS : Since W4 wr1 := bT (w := W4) HSrg.out hbr1
  clear HSrg
  refine hK.out _ _ hS (fun _ => ?_)
  clear hK K
  try simp only [Act.put, pu1, pu2, pu3]
  refine rg_call (i := 5) (get_of Hops rfl) (fun K hK => ?_)
  have HSrg := Lib.hid hS; clear hS
  refine rg_run (wanted_plain rfl) ?_
  go_simp
  refine (H3.out _ _ hp1).mono ?_
  rintro e wr2 ⟨A3, c3, rfl, hbr2, ho3⟩
  have hS : Since W4 wr2 := bT (w := W4) HSrg.out hbr2
  clear HSrg
  refine hK.out _ _ hS (fun _ => ?_)
  clear hK K
  try simp only [Act.put, pu1, pu2, pu3]
  apply rg_yp (i := 6) Hops rfl hS rfl
  · intro _ hq; clear hq; go_simp; try rfl
  try simp only [Act.put, pu1, pu2, pu3]
  apply rg_yp (i := 7) Hops rfl hS rfl
  · intro _ hq; clear hq; go_simp; try rfl
  try simp only [Act.put, pu1, pu2, pu3]
  apply rg_yp (i := 8) Hops rfl hS rfl
  · intro _ hq; clear hq; go_simp; try rfl
  try simp only [Act.put, pu1, pu2, pu3]
  apply rg_yp (i := 9) Hops rfl hS rfl
  · intro _ hq; clear hq; go_simp; try rfl
  try simp only [Act.put, pu1, pu2, pu3]
  apply rg_yp (i := 10) Hops rfl hS rfl
  · intro _ hq; clear hq; go_simp; try rfl
  try simp only [Act.put, pu1, pu2, pu3]
  refine rg_done ?_
  refine HQrg.down _ _ ?_
  have hB : Below W4.heap.size W4 wr2 := hS
  clear hS HQrg Hops
  have B5 := Lib.hid (bT B4.out hB)
  have HO3 := Lib.hid ho3
  replace HO1 := Lib.hid (HO1.out.mono hB)
  replace HO2 := Lib.hid (HO2.out.mono hB)
  replace HX1 := Lib.hid (HX1.out.keep hB)
  clear hB ho3 hp1 X1 X1l X1a X1b X1c X1d X1e X1f
  obtain ⟨W5, rfl⟩ : ∃ W5 : World, W5 = wr2 := ⟨_, rfl⟩
  go_upto_region 6 with fail
  obtain ⟨W6, hW⟩ : ∃ W6 : World, W6 = ((W5.alloc (.cells #[.int .i64 5, .int .i64 5, .int .i64 10, .int .i64 7] 42)).alloc (.cells #[.int .i64 4, .slice (some ⟨W5.heap.size, 0, none⟩) 2 2, .int .i64 0, .int .i64 3] 62)).alloc (.cells #[.int .i64 1, .slice (some ⟨W5.heap.size + 1, 0, none⟩) 1 1, .slice none 0 0] 25) := ⟨_, rfl⟩
  have hB6 : Below W5.heap.size W5 W6 := by rw [hW]; exact bA (bA (bA (bR W5) _) _) _
  have hY1 : Blk W6 W5.heap.size 42 #[.int .i64 5, .int .i64 5, .int .i64 10, .int .i64 7] := by rw [hW]; exact ((Blk.made rfl _ _).alloc _).alloc _
  have hY2 : Blk W6 (W5.heap.size + 1) 62 #[.int .i64 4, .slice (some ⟨W5.heap.size, 0, none⟩) 2 2, .int .i64 0, .int .i64 3] := by rw [hW]; exact (Blk.made (by simp) _ _).alloc _
  have hY3 : Blk W6 (W5.heap.size + 1 + 1) 25 #[.int .i64 1, .slice (some ⟨W5.heap.size + 1, 0, none⟩) 1 1, .slice none 0 0] := by rw [hW]; exact Blk.made (by simp) _ _
  rw [← hW]
  have hPX : PrtV W6 (.agg #[.int .i64 1, .slice (some ⟨W5.heap.size + 1, 0, none⟩) 1 1, .slice none 0 0]) exX := by
    refine ⟨_, _, [(⟨4, [⟨5, 5⟩, ⟨10, 7⟩], 0, 3⟩, .slice (some ⟨W5.heap.size, 0, none⟩) 2 2)], rfl, rfl, ⟨?_, ?_⟩, Sl.nil _⟩
    · exact Sl.lit (n := 1) hY2 rfl (le_maxLen (by omega))
    · intro k hk
      have : k = 0 := by simpa using hk
      subst this
      exact Sl.lit (n := 2) hY1 rfl (le_maxLen (by omega))
  obtain ⟨g5, hg5⟩ : ∃ g, W5.heap.size + 1 = g := ⟨_, rfl⟩
  rw [hg5] at hPX hY3 ⊢
  have HPX := Lib.hid hPX
  have HX8 := Lib.hid hY3
  have B6 := Lib.hid (bT B5.out hB6)
  replace HO1 := Lib.hid (HO1.out.mono hB6)
  replace HO2 := Lib.hid (HO2.out.mono hB6)
  replace HO3 := Lib.hid (HO3.out.mono hB6)
  replace HX1 := Lib.hid (HX1.out.keep hB6)
  clear hW hB6 hY1 hY2 hY3 hPX hg5
  have T4 : ∀ W, Below W6.heap.size W6 W → Calls Tryz.prog 10 #[.agg #[.int .i64 1, .slice (some ⟨g5, 0, none⟩) 1 1, .slice none 0 0], bxV ⟨0, 0, 10, 10⟩, .int .i64 3] W (RetCrN W 1 [⟨7, 4, 1⟩] 0) := fun W hW => ex_crossings (HPX.out.mono hW) wf_exX (by decide) (by decide) exC1 rfl
  have T5 : ∀ W, Below W6.heap.size W6 W → Calls Tryz.prog 10 #[.agg #[.int .i64 1, .slice (some ⟨g5, 0, none⟩) 1 1, .slice none 0 0], bxV ⟨0, 0, 0, 0⟩, .int .i64 5] W (RetCrN W 0 [] 1) := fun W hW => ex_crossings (HPX.out.mono hW) wf_exX (by decide) (by decide) exC2 rfl
  have T6 : ∀ u W, Prts W u [(exX, .slice (some ⟨g5, 0, none⟩) 1 1, .slice none 0 0), (exY, .slice none 0 0, .slice none 0 0)] → Below w.heap.size w W → Calls Tryz.prog 18 #[u, seV (ser 2 1)] W (fun e w' => ∃ A c, e = .returned (.tuple #[.slice A 2 c, .int .i64 0]) ∧ Below W.heap.size W w' ∧ Ints w' (.slice A 2 c) [1, 2]) := fun u W h hW => by
    refine (Match_spec u _ (ser 2 1) W h (HMv.out.keep hW) (fun x hx => ?_) (fun x hx => ?_) (by simp)).mono ?_
    · simp only [List.mem_cons, List.not_mem_nil, or_false] at hx
      rcases hx with rfl | rfl
      · exact wf_exX
      · exact wf_exY
    · simp only [List.mem_cons, List.not_mem_nil, or_false] at hx
      rcases hx with rfl | rfl
      · exact ⟨show exX.pieces.length ≤ 60000 by decide, show exX.nodes.length ≤ 60000 by decide⟩
      · exact ⟨show exY.pieces.length ≤ 60000 by decide, show exY.nodes.length ≤ 60000 by decide⟩
    · rintro e w' ⟨A, c, h1, hb, ho⟩
      simp only [List.map_cons, List.map_nil] at h1 ho
      rw [exM] at h1 ho
      exact ⟨A, c, h1, hb, ho⟩
  unfold bxV at T4 T5
  unfold seV ser at T6
  have H4 := Lib.hid T4; have H5 := Lib.hid T5; have H6 := Lib.hid T6
  clear T4 T5 T6
  have X8 := HX8.out
  try clear X8l
  try clear X8a
  try clear X8b
  try clear X8c
  try clear X8fa
  try clear X8fb
  try clear X8fc
  obtain ⟨X8l, X8a, X8b, X8c, -, -, -⟩ := X8.facts3
  go_wp2_with fail
  refine (H4.out _ (bR W6)).mono ?_
  rintro e W7 ⟨A4, c4, rfl, hb7, ho4⟩
  have HO4 := Lib.hid ho4
  have B7 := Lib.hid hb7
  have HX1' := Lib.hid (HX1.out.keep hb7)
  have HX8' := Lib.hid (HX8.out.keep hb7)
  clear hb7 ho4 X8 X8l X8a X8b X8c
  have X8 := HX8'.out
  have X1 := HX1'.out
  try clear X8l
  try clear X8a
  try clear X8b
  try clear X8c
  try clear X8fa
  try clear X8fb
  try clear X8fc
  obtain ⟨X8l, X8a, X8b, X8c, -, -, -⟩ := X8.facts3
  try clear X1l
  try clear X1a
  try clear X1b
  try clear X1c
  try clear X1d
  try clear X1e
  try clear X1f
  try clear X1fa
  try clear X1fb
  try clear X1fc
  try clear X1fd
  try clear X1fe
  try clear X1ff
  obtain ⟨X1l, X1a, X1b, X1c, X1d, X1e, X1f, -, -, -, -, -, -⟩ := X1.facts6
  go_wp2_with fail
  refine (H6.out _ _ ?_ (bA (bT B6.out B7.out) _)).mono ?_
  · refine ⟨Sl.lit (n := 2) (Blk.made rfl _ _) rfl (le_maxLen (by omega)), fun k hk => ?_⟩
    have hk2 : k = 0 ∨ k = 1 := by simp only [List.length_cons, List.length_nil] at hk; omega
    rcases hk2 with rfl | rfl
    · exact HPX.out.mono (bA B7.out _)
    · exact ⟨_, _, [], rfl, rfl, ⟨Sl.nil _, fun k hk => by simp at hk⟩, Sl.nil _⟩
  rintro e W8 ⟨A5, c5, rfl, hb8, ho5⟩
  have HO5 := Lib.hid ho5
  have B8 := Lib.hid (bT (bA B7.out _) hb8)
  replace HO4 := Lib.hid (HO4.out.mono (bT (bA (bR W7) _) hb8))
  have HX8'' := Lib.hid ((HX8'.out.alloc _).keep hb8)
  clear hb8 ho5 X8 X8l X8a X8b X8c X1 X1l X1a X1b X1c X1d X1e X1f
  have X8 := HX8''.out
  try clear X8l
  try clear X8a
  try clear X8b
  try clear X8c
  try clear X8fa
  try clear X8fb
  try clear X8fc
  obtain ⟨X8l, X8a, X8b, X8c, -, -, -⟩ := X8.facts3
  go_wp2_with fail
  refine (H5.out _ B8.out).mono ?_
  rintro e W9 ⟨A6, c6, rfl, hb9, -⟩
  have B9 := Lib.hid (bT B8.out hb9)
  replace HO4 := Lib.hid (HO4.out.mono hb9)
  replace HO5 := Lib.hid (HO5.out.mono hb9)
  clear hb9 X8 X8l X8a X8b X8c
  have BW9 := Lib.hid (bT B6.out B9.out)
  replace HO1 := Lib.hid (HO1.out.mono B9.out)
  replace HO2 := Lib.hid (HO2.out.mono B9.out)
  clear HX1 HX1' HX8 HX8' HX8'' H1 H2 H3 H4 H5 H6 HPX HS HL HO3 HB2 B3 B4 B5 B6 B7 B8 HV3 HV4
  have HS1 := Lib.hid (fun v u l m W (h : Crs W v l) (h' : Crs W u m) (e : l = m) => by
    have := Same42_spec v u l m W h h'
    rw [decide_eq_true e] at this
    exact this)
  have HS2 := Lib.hid (fun v u l m W (h : Ints W v l) (h' : Ints W u m) (e : l = m) => by
    have := Same04_spec v u l m W h h'
    rw [decide_eq_true e] at this
    exact this)
  have HOp := Lib.hid (fun v W (h : Crs W v [⟨7, 4, 1⟩]) => by
    have := Opposite_spec v _ W h (by simp)
    rw [exO] at this
    exact (this : Calls _ _ _ _ (RetCrs1 W [⟨7, 4, 0⟩])))
  have HW := Lib.hid (show Crs (W9.alloc (.cells #[.int .i64 7, .int .i64 4, .int .i64 1] 57)) (.slice (some ⟨W9.heap.size, 0, none⟩) 1 1) [⟨7, 4, 1⟩] from Sl.lit (n := 1) (Blk.made rfl _ _) rfl (le_maxLen (by omega)))
  go_wp2_with fail
  refine (HS1.out _ _ [⟨7, 4, 1⟩] _ _ (HO1.out.mono (bA (bR W9) _)) HW.out rfl).mono ?_
  rintro e Wa ⟨rfl, hba⟩
  have Ba := Lib.hid (bT (bA (bR W9) _) hba)
  replace HW := Lib.hid (HW.out.mono hba)
  clear hba
  go_wp2_with fail
  refine (HS1.out _ _ [⟨6, 4, 0⟩] [⟨6, 4, 0⟩] _ (HO2.out.mono (bA Ba.out _)) (Sl.lit (n := 1) (Blk.made rfl _ _) rfl (le_maxLen (by omega))) rfl).mono ?_
  rintro e Wb ⟨rfl, hbb⟩
  have Bb := Lib.hid (bT (bA Ba.out _) hbb)
  replace HW := Lib.hid (HW.out.mono (bT (bA (bR Wa) _) hbb))
  clear hbb
  go_wp2_with fail
  refine (HS1.out _ _ [⟨7, 4, 1⟩] _ _ (HO4.out.mono Bb.out) HW.out rfl).mono ?_
  rintro e Wc ⟨rfl, hbc⟩
  have Bc := Lib.hid (bT Bb.out hbc)
  replace HW := Lib.hid (HW.out.mono hbc)
  clear hbc
  go_wp2_with fail
  refine (HS2.out _ _ [1, 2] [1, 2] _ (HO5.out.mono (bA Bc.out _)) (Sl.lit (n := 2) (Blk.made rfl _ _) rfl (le_maxLen (by omega))) rfl).mono ?_
  rintro e Wd ⟨rfl, hbd⟩
  have Bd := Lib.hid (bT (bA Bc.out _) hbd)
  replace HW := Lib.hid (HW.out.mono (bT (bA (bR Wc) _) hbd))
  clear hbd
  go_wp2_with fail
  refine (HOp.out _ _ HW.out).mono ?_
  rintro e We ⟨A7, c7, rfl, hbe, ho7⟩
  have Be := Lib.hid (bT Bd.out hbe)
  have HO7 := Lib.hid ho7.sl
  clear hbe ho7
  go_wp2_with fail
  refine (HS1.out _ _ [⟨7, 4, 0⟩] [⟨7, 4, 0⟩] _ (HO7.out.mono (bA (bR We) _)) (Sl.lit (n := 1) (Blk.made rfl _ _) rfl (le_maxLen (by omega))) rfl).mono ?_
  rintro e Wf ⟨rfl, hbf⟩
  have Bf := Lib.hid (bT (bA Be.out _) hbf)
  clear hbf
  go_wp2_with fail
  go_ret
  exact ⟨rfl, bT BW9.out Bf.out⟩
end Go.Proofs.YtbjlnnfmcjbnhaaGreatDoor
namespace Go.Proofs.YtbjlnnfmcjbnhaaGreatDoor
open Go.RowKit

/-- a list of crossings that reads, and an error -/
def RetCrsE (w : World) (r : List Cr × Int) (e : Ending) (w' : World) : Prop :=
  ∃ A c, e = .returned (.tuple #[.slice A r.1.length c, .int .i64 r.2]) ∧ Below w.heap.size w w' ∧ Crs w' (.slice A r.1.length c) r.1
theorem insCr_len (l : List Cr) (c : Cr) : (insCr l c).length = l.length + 1 := by
  have := (insCr_perm l c).length_eq
  simpa using this

set_option maxRecDepth 100000 in
set_option maxHeartbeats 8000000 in
theorem rCrossings_spec (v : Value) (x : Prt) (b : Bx) (side : Int) (w : World) (h : PrtV w v x) (hl1 : x.pieces.length ≤ 60000) :
    Calls Tryz.prog 11 #[v, bxV b, .int .i64 side] w (RetCrsE w (crossResS x b side)) := by
  obtain ⟨_, vn, pl, rfl, hpl, ⟨⟨Ap, cp, rfl, hp1, hp2, hR⟩, hP⟩, hN⟩ := h
  unfold maxLen at hp2
  rw [hpl] at hl1
  rw [List.length_map] at hl1
  have HN := Lib.hid hN
  obtain ⟨An, cn, rfl, -⟩ := hN
  have HR := Lib.hid hR; have HPth := Lib.hid hP
  have TE := sided_spec b side
  unfold bxV redRes redV at TE
  unfold bxV
  have HE := Lib.hid TE; clear TE
  have hside : ∀ g, edOf b side = some g → side = g.side := fun g hg => by
    unfold edOf at hg
    split at hg
    · injection hg with hg; subst hg; assumption
    split at hg
    · injection hg with hg; subst hg; assumption
    split at hg
    · injection hg with hg; subst hg; assumption
    split at hg
    · injection hg with hg; subst hg; assumption
    · cases hg
  obtain ⟨r, hr⟩ : ∃ r, crossResS x b side = r := ⟨_, rfl⟩
  rw [hr]
  unfold crossResS crossL at hr
  generalize x.nodes = ns at *
  generalize x.pieces = ps at *
  generalize x.sheet = sh at *
  have HPl := Lib.hid hpl
  clear hR hP hpl
  generalize edOf b side = oe at *
  have Hr := Lib.hid hr; have HSide := Lib.hid hside
  clear hr hside
  go_enter Tryz.func11, Tryz.ntmps11
  go_wp2_with fail
  refine (HE.out _).mono ?_
  rintro e w1 ⟨rfl, hb1⟩
  have Bw := bT (bA (bA (bR w) _) _) hb1
  have X3 : Blk w1 w.heap.size 25 #[.int .i64 sh, .slice Ap pl.length cp, .slice An ns.length cn] := ((Blk.made rfl _ _).alloc _).keep hb1
  clear hb1
  cases oe
  case none =>
    have Hf := Lib.hid Hr.out
    simp only [Option.isSome_none, Option.getD_none]
    go_wp2_with fail
    go_ret2
    have h := Hf.out
    subst h
    exact ⟨none, 0, rfl, bA Bw _, Sl.nil _⟩
  rename_i g
  simp only [Option.isSome_some, Option.getD_some]
  have hs := HSide.out g rfl
  subst hs
  have HX3 := Lib.hid X3
  have HB1 := Lib.hid Bw
  clear X3 Bw HSide
  obtain ⟨w2, hw2⟩ : ∃ w2 : World, w2 = w1.alloc (.cells #[.bool g.upright, .int .i64 g.line, .int .i64 g.lo, .int .i64 g.hi, .bool (posS g)] 76) := ⟨_, rfl⟩
  have HX8 : Hid (Blk w2 w1.heap.size 76 #[.bool g.upright, .int .i64 g.line, .int .i64 g.lo, .int .i64 g.hi, .bool (posS g)]) := Lib.hid (by rw [hw2]; exact Blk.made rfl _ _)
  have HX3' : Hid (Blk w2 w.heap.size 25 #[.int .i64 sh, .slice Ap pl.length cp, .slice An ns.length cn]) := Lib.hid (by rw [hw2]; exact HX3.out.alloc _)
  have HB2 : Hid (Below w.heap.size w w2) := Lib.hid (by rw [hw2]; exact bA HB1.out _)
  have X3 := HX3'.out
  obtain ⟨g8, hg8⟩ : ∃ g8, g8 = w1.heap.size := ⟨_, rfl⟩
  have TN := @rentering_spec g
  have TL := @rleaving_spec g
  have TO := @addCr_spec g
  unfold redV pcV at TN TL
  unfold redV at TO
  have HEn := Lib.hid TN; have HLv := Lib.hid TL; have HOp := Lib.hid TO
  clear TN TL TO
  go_upto_region 4 with fail
  rw [← hw2]
  rw [← hg8] at HX8 ⊢
  clear hw2 hg8 X3
  go_wp2_with fail
  go_loopw [10, 11] (fun s i wr => ∃ k : Nat, k ≤ pl.length ∧ i = .int .i64 k ∧ Below w2.heap.size w2 wr ∧ Crs wr s (sortCr ((ps.take k).flatMap (pieceS g ns)))) (fun _ i _ => pl.length - (intOf i).toNat)
  case atStart => exact ⟨0, Nat.zero_le _, rfl, bR w2, Sl.nil _⟩
  case round =>
    obtain ⟨k, hk, rfl, hb, hs⟩ := hrel
    have Hb := Lib.hid hb
    obtain ⟨As, cs, rfl⟩ := hs.form
    have Hs := Lib.hid hs
    have X3 := HX3'.out.keep hb
    have X8 := HX8.out.keep hb
    clear hb hs
    have hll := pieces_len g ns ps k
    have hsl : (sortCr ((ps.take k).flatMap (pieceS g ns))).length ≤ 2 * k := by rw [sortCr_len]; exact hll
    clear hll
    try clear X3l
    try clear X3a
    try clear X3b
    try clear X3c
    try clear X3fa
    try clear X3fb
    try clear X3fc
    obtain ⟨X3l, X3a, X3b, X3c, -, -, -⟩ := X3.facts3
    try clear X8l
    try clear X8a
    try clear X8b
    try clear X8c
    try clear X8d
    try clear X8e
    try clear X8fa
    try clear X8fb
    try clear X8fc
    try clear X8fd
    try clear X8fe
    obtain ⟨X8l, X8a, X8b, X8c, X8d, X8e, -, -, -, -, -⟩ := X8.facts5
    by_cases hlt : k < pl.length
    case neg =>
      have hall : ps.take k = ps := List.take_of_length_le (by rw [HPl.out, List.length_map]; omega)
      rw [hall] at Hs ⊢
      clear hall
      have hr := Hr.out
      try simp only [] at hr
      have HR' := Lib.hid hr
      clear hr
      generalize sortCr (ps.flatMap (pieceS g ns)) = L at *
      go_wp2_with fail
      go_ret2
      have hr := HR'.out
      subst hr
      exact ⟨As, cs, rfl, bT HB2.out Hb.out, Hs.out⟩
    obtain ⟨bb, oo, rfl, hlb, c0, c1, c2, c3⟩ := (HR.out.mono (bT HB2.out Hb.out)).pc hlt
    have hpk := HPth.out k hlt
    have hst : sortCr ((ps.take (k + 1)).flatMap (pieceS g ns)) = (pieceS g ns pl[k].1).foldl insCr (sortCr ((ps.take k).flatMap (pieceS g ns))) := by
      have hlt' : k < ps.length := by rw [HPl.out, List.length_map]; exact hlt
      have e : ps[k] = pl[k].1 := by simp [HPl.out]
      rw [List.take_succ_eq_append_getElem hlt', List.flatMap_append, e]
      simp [sortCr, List.foldl_append]
    generalize sortCr ((ps.take k).flatMap (pieceS g ns)) = L at *
    generalize pl[k] = yy at *
    obtain ⟨y, vy⟩ := yy
    dsimp only at hpk c0 c1 c2 c3 hst
    obtain ⟨Ay, cy, rfl, hy1, hy2, hyR⟩ := hpk
    unfold maxLen at hy2
    have HPk := Lib.hid (show Pts w (.slice Ay y.path.length cy) y.path from ⟨Ay, cy, rfl, hy1, hy2, hyR⟩)
    have HSt : Hid (sortCr ((ps.take (k + 1)).flatMap (pieceS g ns)) = List.foldl insCr (List.foldl insCr L (if openS g ns (enterS g y) = true then [⟨alongS g (lastP (enterS g y)), y.arc, 0⟩] else [])) (if openS g ns (leaveS g y) = true then [⟨alongS g (lastP (leaveS g y)), y.arc, 1⟩] else [])) := Lib.hid (by
      rw [hst]; unfold pieceS; rw [List.foldl_append])
    clear hyR hst
    go_upto_region 9 with fail
    obtain ⟨WA, hWA⟩ : ∃ WA : World, WA = wr.alloc (.cells #[.int .i64 y.arc, .slice Ay y.path.length cy, .int .i64 y.enter, .int .i64 y.leave] 62) := ⟨_, rfl⟩
    have HX12 : Hid (Blk WA wr.heap.size 62 #[.int .i64 y.arc, .slice Ay y.path.length cy, .int .i64 y.enter, .int .i64 y.leave]) := Lib.hid (by rw [hWA]; exact Blk.made rfl _ _)
    have HBA := Lib.hid (show Below w2.heap.size w2 WA by rw [hWA]; exact bA Hb.out _)
    have HLA := Lib.hid (show Crs WA (.slice As L.length cs) L by rw [hWA]; exact Hs.out.mono (bA (bR wr) _))
    obtain ⟨g12, hg12⟩ : ∃ g12, g12 = wr.heap.size := ⟨_, rfl⟩
    rw [← hg12] at HX12 ⊢
    rw [← hWA]
    clear hWA hg12 c0 c1 c2 c3 hlb X3 X8 X3l X3a X3b X3c X8l X8a X8b X8c X8d X8e
    have X8 := HX8.out.keep HBA.out
    have X12 := HX12.out
    try clear X8l
    try clear X8a
    try clear X8b
    try clear X8c
    try clear X8d
    try clear X8e
    try clear X8fa
    try clear X8fb
    try clear X8fc
    try clear X8fd
    try clear X8fe
    obtain ⟨X8l, X8a, X8b, X8c, X8d, X8e, -, -, -, -, -⟩ := X8.facts5
    try clear X12l
    try clear X12a
    try clear X12b
    try clear X12c
    try clear X12d
    try clear X12fa
    try clear X12fb
    try clear X12fc
    try clear X12fd
    obtain ⟨X12l, X12a, X12b, X12c, X12d, -, -, -, -⟩ := X12.facts4
    go_wp2_with fail
    refine (HEn.out y _ _ (HPk.out.mono (bT HB2.out HBA.out))).mono ?_
    rintro e wB ⟨vr, rfl, hb, hrun⟩
    have hpr := hrun w HPk.out
    obtain ⟨rn, hrn⟩ : ∃ rn, enterS g y = rn := ⟨_, rfl⟩
    rw [hrn] at hpr HSt
    obtain ⟨Ar, cr, rfl, hr1, hr2, hrR⟩ := hpr
    have HPr := Lib.hid (show Pts w (.slice Ar rn.length cr) rn from ⟨Ar, cr, rfl, hr1, hr2, hrR⟩)
    have HBB := Lib.hid (bT HBA.out hb)
    have HLB := Lib.hid (HLA.out.mono hb)
    have HX12B := Lib.hid (X12.keep hb)
    unfold maxLen at hr2
    clear hb hrun hrn hrR X8 X12 X8l X8a X8b X8c X8d X8e X12l X12a X12b X12c X12d
    have X3 := HX3'.out.keep HBB.out
    have X8 := HX8.out.keep HBB.out
    have X12 := HX12B.out
    try clear X3l
    try clear X3a
    try clear X3b
    try clear X3c
    try clear X3fa
    try clear X3fb
    try clear X3fc
    obtain ⟨X3l, X3a, X3b, X3c, -, -, -⟩ := X3.facts3
    try clear X8l
    try clear X8a
    try clear X8b
    try clear X8c
    try clear X8d
    try clear X8e
    try clear X8fa
    try clear X8fb
    try clear X8fc
    try clear X8fd
    try clear X8fe
    obtain ⟨X8l, X8a, X8b, X8c, X8d, X8e, -, -, -, -, -⟩ := X8.facts5
    try clear X12l
    try clear X12a
    try clear X12b
    try clear X12c
    try clear X12d
    try clear X12fa
    try clear X12fb
    try clear X12fc
    try clear X12fd
    obtain ⟨X12l, X12a, X12b, X12c, X12d, -, -, -, -⟩ := X12.facts4
    go_upto_if 41 with fail
    go_cut [10] (fun s' wx => ∃ L2 A2 c2, s' = .slice A2 (List.length L2) c2 ∧ L2 = List.foldl insCr L (if openS g ns rn = true then [⟨alongS g (lastP rn), y.arc, 0⟩] else []) ∧ L2.length ≤ 2 * k + 1 ∧ Crs wx (.slice A2 (List.length L2) c2) L2 ∧ Below w2.heap.size w2 wx ∧ Blk wx g12 62 #[.int .i64 y.arc, .slice Ay y.path.length cy, .int .i64 y.enter, .int .i64 y.leave])
    case first =>
      by_cases hpos : 0 < rn.length
      case neg =>
        have hz : openS g ns rn = false := by
          unfold openS; rw [decide_eq_false hpos]; rfl
        have h0 : ¬ 0 < (rn.length : Int) := by omega
        have Hz := Lib.hid hz
        clear hz
        go_wp2_with fail
        go_meet
        case rel => exact ⟨L, As, cs, rfl, by rw [Hz.out]; rfl, by omega, HLB.out, HBB.out, HX12B.out⟩
      case pos =>
        have h0 : 0 < (rn.length : Int) := by omega
        have TAd := HOp.out (.slice As L.length cs) (.slice Ar rn.length cr) (.slice An ns.length cn) L rn ns y.arc 0 wB HLB.out (by omega) (HPr.out.mono (bT HB2.out HBB.out)) (HN.out.mono (bT HB2.out HBB.out)) hpos
        have HAd := Lib.hid TAd
        clear TAd
        go_wp2_with fail
        refine HAd.out.mono ?_
        rintro e wC ⟨A3, c3, rfl, hb3, ho3⟩
        have B3 := Lib.hid (bT HBB.out hb3)
        have X12' := Lib.hid (HX12B.out.keep hb3)
        have Ho3 := Lib.hid ho3
        clear hb3 ho3
        have hln : (if openS g ns rn = true then insCr L ⟨alongS g (lastP rn), y.arc, 0⟩ else L).length ≤ 2 * k + 1 := by
          split
          · rw [insCr_len]; omega
          · omega
        have heq : (if openS g ns rn = true then insCr L ⟨alongS g (lastP rn), y.arc, 0⟩ else L) = List.foldl insCr L (if openS g ns rn = true then [⟨alongS g (lastP rn), y.arc, 0⟩] else []) := by
          split <;> rfl
        have HLn := Lib.hid hln; have HEq := Lib.hid heq
        clear hln heq
        generalize (if openS g ns rn = true then insCr L ⟨alongS g (lastP rn), y.arc, 0⟩ else L) = L2 at *
        go_wp2_with fail
        go_meet
        case rel => exact ⟨L2, A3, c3, rfl, HEq.out, HLn.out, Ho3.out, B3.out, X12'.out⟩
    case rest =>
    obtain ⟨L2, A2, c2, rfl, hL2, hln2, ho2, hb2, hx2⟩ := hcut
    rw [← hL2] at HSt
    have Ho2 := Lib.hid ho2; have HB2' := Lib.hid hb2; have HX2 := Lib.hid hx2
    clear ho2 hb2 hx2 hL2 X3 X8 X12 X3l X3a X3b X3c X8l X8a X8b X8c X8d X8e X12l X12a X12b X12c X12d HPr HBB HLB HX12B hr1 hr2
    obtain ⟨wD, rfl⟩ : ∃ wD : World, wD = wc := ⟨_, rfl⟩
    have X8 := HX8.out.keep HB2'.out
    have X12 := HX2.out
    try clear X8l
    try clear X8a
    try clear X8b
    try clear X8c
    try clear X8d
    try clear X8e
    try clear X8fa
    try clear X8fb
    try clear X8fc
    try clear X8fd
    try clear X8fe
    obtain ⟨X8l, X8a, X8b, X8c, X8d, X8e, -, -, -, -, -⟩ := X8.facts5
    try clear X12l
    try clear X12a
    try clear X12b
    try clear X12c
    try clear X12d
    try clear X12fa
    try clear X12fb
    try clear X12fc
    try clear X12fd
    obtain ⟨X12l, X12a, X12b, X12c, X12d, -, -, -, -⟩ := X12.facts4
    go_wp2_with fail
    refine (HLv.out y _ _ (HPk.out.mono (bT HB2.out HB2'.out))).mono ?_
    rintro e wE ⟨vr, rfl, hb, hrun⟩
    have hpr := hrun w HPk.out
    obtain ⟨rm, hrm⟩ : ∃ rm, leaveS g y = rm := ⟨_, rfl⟩
    rw [hrm] at hpr HSt
    obtain ⟨Aq, cq, rfl, hr1, hr2, hrR⟩ := hpr
    have HPr := Lib.hid (show Pts w (.slice Aq rm.length cq) rm from ⟨Aq, cq, rfl, hr1, hr2, hrR⟩)
    have HBE := Lib.hid (bT HB2'.out hb)
    have HLE := Lib.hid (Ho2.out.mono hb)
    have HX12E := Lib.hid (X12.keep hb)
    unfold maxLen at hr2
    clear hb hrun hrm hrR X8 X12 X8l X8a X8b X8c X8d X8e X12l X12a X12b X12c X12d
    have X3 := HX3'.out.keep HBE.out
    have X8 := HX8.out.keep HBE.out
    have X12 := HX12E.out
    try clear X3l
    try clear X3a
    try clear X3b
    try clear X3c
    try clear X3fa
    try clear X3fb
    try clear X3fc
    obtain ⟨X3l, X3a, X3b, X3c, -, -, -⟩ := X3.facts3
    try clear X8l
    try clear X8a
    try clear X8b
    try clear X8c
    try clear X8d
    try clear X8e
    try clear X8fa
    try clear X8fb
    try clear X8fc
    try clear X8fd
    try clear X8fe
    obtain ⟨X8l, X8a, X8b, X8c, X8d, X8e, -, -, -, -, -⟩ := X8.facts5
    try clear X12l
    try clear X12a
    try clear X12b
    try clear X12c
    try clear X12d
    try clear X12fa
    try clear X12fb
    try clear X12fc
    try clear X12fd
    obtain ⟨X12l, X12a, X12b, X12c, X12d, -, -, -, -⟩ := X12.facts4
    by_cases hpos : 0 < rm.length
    case neg =>
      have hz : openS g ns rm = false := by
        unfold openS; rw [decide_eq_false hpos]; rfl
      rw [hz] at HSt
      have h0 : ¬ 0 < (rm.length : Int) := by omega
      clear hz
      go_wp2_with fail
      go_roundw
      case rel => exact ⟨k + 1, by omega, by go_num, HBE.out, by rw [HSt.out]; exact HLE.out⟩
      case measure => simp [intOf]; omega
    case pos =>
      have h0 : 0 < (rm.length : Int) := by omega
      have TAd := HOp.out (.slice A2 L2.length c2) (.slice Aq rm.length cq) (.slice An ns.length cn) L2 rm ns y.arc 1 wE HLE.out (by omega) (HPr.out.mono (bT HB2.out HBE.out)) (HN.out.mono (bT HB2.out HBE.out)) hpos
      have HAd := Lib.hid TAd
      clear TAd
      go_wp2_with fail
      refine HAd.out.mono ?_
      rintro e wF ⟨A3, c3, rfl, hb3, ho3⟩
      have B3 := Lib.hid (bT HBE.out hb3)
      have Ho3 := Lib.hid ho3
      clear hb3 ho3
      have heq : (if openS g ns rm = true then insCr L2 ⟨alongS g (lastP rm), y.arc, 1⟩ else L2) = List.foldl insCr L2 (if openS g ns rm = true then [⟨alongS g (lastP rm), y.arc, 1⟩] else []) := by
        split <;> rfl
      rw [← heq] at HSt
      clear heq
      generalize (if openS g ns rm = true then insCr L2 ⟨alongS g (lastP rm), y.arc, 1⟩ else L2) = L3 at *
      go_wp2_with fail
      go_roundw
      case rel => exact ⟨k + 1, by omega, by go_num, B3.out, by rw [HSt.out]; exact Ho3.out⟩
      case measure => simp [intOf]; omega
end Go.Proofs.YtbjlnnfmcjbnhaaGreatDoor
