/- mapsheetslaw42: sheets, line, awake (true). -/
import Derived.Test.YtfdbidagdjnipaaGreatDoorJ17
import Derived.Test.YtfdbidagdjnipaaGreatDoorExpA
set_option linter.unusedSimpArgs false
set_option linter.unusedVariables false
namespace Go.Proofs.YtfdbidagdjnipaaGreatDoor
open Go.RowKit

theorem struct_se : StructOf Tryz.prog 30 6 := .mk_ Tryz.underlying30 (by kernel_rfl)
def ser (c r : Int) : Se := ⟨⟨0, 0⟩, 10, 10, c, r⟩
set_option maxHeartbeats 1000000 in
theorem ser_spec (c r : Int) (w : World) : Calls Tryz.prog 24 #[.int .i64 c, .int .i64 r] w fun e w' => e = .returned (.agg #[.int .i64 0, .int .i64 0, .int .i64 10, .int .i64 10, .int .i64 c, .int .i64 r]) ∧ Below w.heap.size w w' := by
 go_enter Tryz.func24, Tryz.ntmps24
 go_wp2_with fail
 refine res_cell (t := 30) (g := w.heap.size) (cs := #[.int .i64 0, .int .i64 0, .int .i64 10, .int .i64 10, .int .i64 c, .int .i64 r]) rfl struct_se rfl rfl ?_ ⟨rfl, ?_⟩
 · exact Blk.made rfl _ _
 · exact bA (bR w) _
def lineP (q : Pt) (via : List Pt) : Pl := ⟨[⟨1, ⟨5, 5⟩⟩, ⟨2, q⟩], [⟨4, 1, 2, via, 0, 0⟩], []⟩
set_option maxHeartbeats 1000000 in
theorem lineP_spec (q : Pt) (v : Value) (via : List Pt) (w : World) (h : Pts w v via) : Calls Tryz.prog 25 #[.agg #[.int .i64 q.x, .int .i64 q.y], v] w fun e w' => ∃ u, e = .returned u ∧ Below w.heap.size w w' ∧ PlV w' u (lineP q via) := by
 have HV := Lib.hid h
 obtain ⟨Av, cv, rfl, -⟩ := h
 go_enter Tryz.func25, Tryz.ntmps25
 go_wp2_with fail
 refine res_cell (t := 26) (g := w.heap.size + 1) (cs := #[.slice (some ⟨w.heap.size + 1 + 1, 0, none⟩) 2 2, .slice (some ⟨w.heap.size + 1 + 1 + 1, 0, none⟩) 1 1, .slice none 0 0]) rfl struct_pl rfl rfl ?_ ⟨_, rfl, ?_, ?_⟩
 · exact ((Blk.made (by simp) _ _).alloc _).alloc _
 · exact bA (bA (bA (bA (bR w) _) _) _) _
 ·
  refine ⟨_, _, _, [(⟨4, 1, 2, via, 0, 0⟩, .slice Av via.length cv)], rfl, rfl, ?_, ⟨?_, ?_⟩, Sl.nil _⟩
  · exact Sl.lit (n := 2) ((Blk.made (by simp) _ _).alloc _) rfl (le_maxLen (by omega))
  · exact Sl.lit (n := 1) (Blk.made (by simp) _ _) rfl (le_maxLen (by omega))
  ·
   intro k hk
   have : k = 0 := by simpa using hk
   subst this
   exact HV.out.mono (bA (bA (bA (bA (bR w) _) _) _) _)
theorem exE1 : expectedS (lineP ⟨15, 8⟩ []) (ser 2 1) 1 3 = ([⟨7, 4, 1⟩], 0) := by decide +kernel
theorem exE2 : expectedS (lineP ⟨15, 5⟩ [⟨10, 4⟩, ⟨10, 6⟩]) (ser 2 1) 2 1 = ([⟨6, 4, 0⟩], 0) := by decide +kernel
theorem exE3 : expectedS (lineP ⟨5, 7⟩ [⟨10, 5⟩]) (ser 2 1) 1 3 = ([], 0) := by decide +kernel
def exX : Prt := ⟨1, [⟨4, [⟨5, 5⟩, ⟨10, 7⟩], 0, 3⟩], []⟩
def exY : Prt := ⟨2, [], []⟩
theorem exC1 : crossResS exX ⟨0, 0, 10, 10⟩ 3 = ([⟨7, 4, 1⟩], 0) := by decide +kernel
theorem exC2 : crossResS exX ⟨0, 0, 0, 0⟩ 5 = ([], 1) := by decide +kernel
theorem exM : matchS [exX, exY] (ser 2 1) = ([1, 2], 0) := by decide +kernel
theorem exO : oppS [⟨7, 4, 1⟩] = [⟨7, 4, 0⟩] := by decide +kernel

/-- n crossings that read as a list, and an error -/
def RetCrN (w : World) (n : Nat) (l : List Cr) (z : Int) (e : Ending) (w' : World) : Prop :=
 ∃ A c, e = .returned (.tuple #[.slice A n c, .int .i64 z]) ∧ Below w.heap.size w w' ∧ Crs w' (.slice A n c) l
theorem ex_expected {v : Value} {p : Pl} {s : Se} {n side : Int} {w : World} {l : List Cr} {z : Int} {m : Nat} (h : PlV w v p) (hwf : wfPl p) (hsm : p.nodes.length ≤ 1000 ∧ p.arcs.length ≤ 1000 ∧ (p.arcs.flatMap (·.via)).length ≤ 100000) (he : expectedS p s n side = (l, z)) (hm : l.length = m) :
  Calls Tryz.prog 12 #[v, seV s, .int .i64 n, .int .i64 side] w (RetCrN w m l z) := by
 subst hm
 refine (Expected_spec v p s n side w h hwf hsm).mono ?_
 rintro e w' ⟨A, c, h1, hb, ho⟩
 rw [he] at h1 ho
 exact ⟨A, c, h1, hb, ho.sl⟩
theorem wf_lineP (q : Pt) (via : List Pt) (hq : wfPt q) (hv : ∀ x ∈ via, wfPt x) : wfPl (lineP q via) := by
 have h0 : ∀ x : Int, -1000 ≤ x → x ≤ 1000 → wfI x := fun x h1 h2 => wfI_of (by omega) (by omega)
 refine ⟨fun n hn => ?_, fun a ha => ?_, fun f hf => by cases hf⟩
 ·
  simp only [lineP, List.mem_cons, List.not_mem_nil, or_false] at hn
  rcases hn with rfl | rfl
  · exact ⟨h0 _ (by decide) (by decide), h0 _ (by decide) (by decide), h0 _ (by decide) (by decide)⟩
  · exact ⟨h0 2 (by decide) (by decide), hq⟩
 ·
  simp only [lineP, List.mem_cons, List.not_mem_nil, or_false] at ha
  subst ha
  exact ⟨h0 4 (by decide) (by decide), h0 1 (by decide) (by decide), h0 2 (by decide) (by decide), h0 0 (by decide) (by decide), h0 0 (by decide) (by decide), hv⟩

theorem ex_crossings {v : Value} {x : Prt} {b : Bx} {side : Int} {w : World} {l : List Cr} {z : Int} {m : Nat} (h : PrtV w v x) (hw : wfPrt x) (hl1 : x.pieces.length ≤ 60000) (hl2 : x.nodes.length ≤ 60000) (he : crossResS x b side = (l, z)) (hm : l.length = m) :
  Calls Tryz.prog 11 #[v, bxV b, .int .i64 side] w (RetCrN w m l z) := by
 subst hm
 refine (Crossings_spec v x b side w h hw hl1 hl2).mono ?_
 rintro e w' ⟨A, c, h1, hb, ho⟩
 rw [he] at h1 ho
 exact ⟨A, c, h1, hb, ho.sl⟩
theorem wf_exX : wfPrt exX := by
 have h0 : ∀ x : Int, -1000 ≤ x → x ≤ 1000 → wfI x := fun x h1 h2 => wfI_of (by omega) (by omega)
 refine ⟨h0 1 (by decide) (by decide), fun y hy => ?_, fun n hn => by cases hn⟩
 simp only [exX, List.mem_cons, List.not_mem_nil, or_false] at hy
 subst hy
 refine ⟨h0 4 (by decide) (by decide), h0 0 (by decide) (by decide), h0 3 (by decide) (by decide), fun q hq => ?_⟩
 simp only [List.mem_cons, List.not_mem_nil, or_false] at hq
 rcases hq with rfl | rfl
 · exact ⟨h0 5 (by decide) (by decide), h0 5 (by decide) (by decide)⟩
 · exact ⟨h0 10 (by decide) (by decide), h0 7 (by decide) (by decide)⟩
theorem wf_exY : wfPrt exY := by
 have h0 : ∀ x : Int, -1000 ≤ x → x ≤ 1000 → wfI x := fun x h1 h2 => wfI_of (by omega) (by omega)
 refine ⟨h0 2 (by decide) (by decide), fun y hy => ?_, fun n hn => ?_⟩
 · cases hy
 · cases hn

set_option maxRecDepth 100000 in
set_option maxHeartbeats 8000000 in
theorem awake42_spec (w : World) (hm : Mv w) : Calls Tryz.prog 7 #[] w fun e w' => e = .returned (.bool true) ∧ Below w.heap.size w w' := by
 have HS := Lib.hid ser_spec
 have HL := Lib.hid (@lineP_spec)
 have h0 : ∀ x : Int, -1000 ≤ x → x ≤ 1000 → wfI x := fun x h1 h2 => wfI_of (by omega) (by omega)
 have wq : ∀ x y : Int, -1000 ≤ x → x ≤ 1000 → -1000 ≤ y → y ≤ 1000 → wfPt ⟨x, y⟩ := fun x y h1 h2 h3 h4 => ⟨h0 _ h1 h2, h0 _ h3 h4⟩
 have T1 : ∀ v W, PlV W v (lineP ⟨15, 8⟩ []) → Calls Tryz.prog 12 #[v, seV (ser 2 1), .int .i64 1, .int .i64 3] W (RetCrN W 1 [⟨7, 4, 1⟩] 0) := fun v W h => ex_expected h (wf_lineP _ _ (wq _ _ (by omega) (by omega) (by omega) (by omega)) (fun x hx => by cases hx)) (by decide) exE1 rfl
 have T2 : ∀ v W, PlV W v (lineP ⟨15, 5⟩ [⟨10, 4⟩, ⟨10, 6⟩]) → Calls Tryz.prog 12 #[v, seV (ser 2 1), .int .i64 2, .int .i64 1] W (RetCrN W 1 [⟨6, 4, 0⟩] 0) := fun v W h => ex_expected h (wf_lineP _ _ (wq _ _ (by omega) (by omega) (by omega) (by omega)) (fun x hx => by
  simp only [List.mem_cons, List.not_mem_nil, or_false] at hx
  rcases hx with rfl | rfl
  · exact wq _ _ (by omega) (by omega) (by omega) (by omega)
  · exact wq _ _ (by omega) (by omega) (by omega) (by omega))) (by decide) exE2 rfl
 have T3 : ∀ v W, PlV W v (lineP ⟨5, 7⟩ [⟨10, 5⟩]) → Calls Tryz.prog 12 #[v, seV (ser 2 1), .int .i64 1, .int .i64 3] W (RetCrN W 0 [] 0) := fun v W h => ex_expected h (wf_lineP _ _ (wq _ _ (by omega) (by omega) (by omega) (by omega)) (fun x hx => by
  simp only [List.mem_cons, List.not_mem_nil, or_false] at hx
  subst hx
  exact wq _ _ (by omega) (by omega) (by omega) (by omega))) (by decide) exE3 rfl
 unfold seV ser at T1 T2 T3
 have H1 := Lib.hid T1; have H2 := Lib.hid T2; have H3 := Lib.hid T3
 have HMv := Lib.hid hm
 clear T1 T2 T3 h0 wq hm
 go_enter Tryz.func7, Tryz.ntmps7
 go_wp2_with fail
 refine (HS.out _ _ _).mono ?_
 rintro e w1 ⟨rfl, hb1⟩
 go_upto_region 2 with fail
 obtain ⟨W2, hW⟩ : ∃ W2 : World, W2 = w1.alloc (.cells #[.int .i64 0, .int .i64 0, .int .i64 10, .int .i64 10, .int .i64 2, .int .i64 1] 30) := ⟨_, rfl⟩
 have HX1 := Lib.hid (show Blk W2 w1.heap.size 30 #[.int .i64 0, .int .i64 0, .int .i64 10, .int .i64 10, .int .i64 2, .int .i64 1] by rw [hW]; exact Blk.made rfl _ _)
 have HB2 := Lib.hid (show Below w.heap.size w W2 by rw [hW]; exact bA hb1 _)
 obtain ⟨g1, hg1⟩ : ∃ g1, w1.heap.size = g1 := ⟨_, rfl⟩
 rw [hg1] at HX1 ⊢
 rw [← hW]
 clear hW hb1 hg1
 have X1 := HX1.out
 obtain ⟨X1l, X1a, X1b, X1c, X1d, X1e, X1f, -, -, -, -, -, -⟩ := X1.facts6
 refine rg_start (Since W2) (.take 0 1 (.take 2 5 (.call 1 7 (.call 3 15 (.run 5 4 15 (.done)))))) (by kernel_rfl) (bD (bR _)) (by kernel_rfl) (by kernel_rfl) (Nat.le_of_ble_eq_true (by kernel_rfl)) ?_
 intro opsR QR Hops HQrg hS
 iterate 2
  apply rg_p; exact Hops; exact rfl; exact hS; exact rfl
  · intro _ hqc; go_simp; try rfl
  try simp only [pu]
 refine rg_call (i := 1) (get_of Hops rfl) (fun K hK => ?_)
 have HSrg := Lib.hid hS; clear hS
 refine rg_run (wanted_plain rfl) ?_
 go_simp
 refine (HL.out ⟨15, 8⟩ _ [] _ (Sl.nil _)).mono ?_
 rintro e wr1 ⟨v1, rfl, hbr1, hp1⟩
 have hS : Since W2 wr1 := bT (w := W2) HSrg.out hbr1
 clear HSrg
 refine hK.out _ _ hS (fun _ => ?_)
 clear hK K
 try simp only [pu]
 refine rg_call (i := 3) (get_of Hops rfl) (fun K hK => ?_)
 have HSrg := Lib.hid hS; clear hS
 refine rg_run (wanted_plain rfl) ?_
 go_simp
 refine (H1.out _ _ hp1).mono ?_
 rintro e wr2 ⟨A1, c1, rfl, hbr2, ho1⟩
 have hS : Since W2 wr2 := bT (w := W2) HSrg.out hbr2
 clear HSrg
 refine hK.out _ _ hS (fun _ => ?_)
 clear hK K
 try simp only [pu]
 iterate 5
  apply rg_p; exact Hops; exact rfl; exact hS; exact rfl
  · intro _ hqc; go_simp; try rfl
  try simp only [pu]
 refine rg_done ?_
 refine HQrg.down _ _ ?_
 have hB : Below W2.heap.size W2 wr2 := hS
 clear hS HQrg Hops
 have B3 := Lib.hid (bT HB2.out hB)
 have HO1 := Lib.hid ho1
 replace HX1 := Lib.hid (HX1.out.keep hB)
 clear hB ho1 hp1 X1 X1l X1a X1b X1c X1d X1e X1f
 obtain ⟨W3, rfl⟩ : ∃ W3 : World, W3 = wr2 := ⟨_, rfl⟩
 have X1 := HX1.out
 try clear X1l
 try clear X1a
 try clear X1b
 try clear X1c
 try clear X1d
 try clear X1e
 try clear X1f
 obtain ⟨X1l, X1a, X1b, X1c, X1d, X1e, X1f, -, -, -, -, -, -⟩ := X1.facts6
 have HV3 := Lib.hid (show Pts (W3.alloc (.cells #[.int .i64 10, .int .i64 4, .int .i64 10, .int .i64 6] 28)).drew (.slice (some ⟨W3.heap.size, 0, none⟩) 2 2) [⟨10, 4⟩, ⟨10, 6⟩] from Sl.lit (n := 2) (Blk.drew (Blk.made rfl _ _)) rfl (le_maxLen (by omega)))
 go_upto_region 3 with fail
 refine rg_start (Since W3) (.run 3 0 0 (.take 5 39 (.call 3 47 (.call 4 63 (.call 6 127 (.run 5 7 127 (.done))))))) (by kernel_rfl) (bD (bR _)) (by kernel_rfl) (by kernel_rfl) (Nat.le_of_ble_eq_true (by kernel_rfl)) ?_
 intro opsR QR Hops HQrg hS
 iterate 4
  apply rg_p; exact Hops; exact rfl; exact hS; exact rfl
  · intro _ hqc; go_simp; try rfl
  try simp only [pu]
 refine rg_call (i := 3) (get_of Hops rfl) (fun K hK => ?_)
 have HSrg := Lib.hid hS; clear hS
 refine rg_run (wanted_plain rfl) ?_
 go_simp
 refine hK.out _ _ (bA HSrg.out _) (fun hS => ?_)
 clear hK K HSrg
 try simp only [pu]
 refine rg_call (i := 4) (get_of Hops rfl) (fun K hK => ?_)
 have HSrg := Lib.hid hS; clear hS
 refine rg_run (wanted_plain rfl) ?_
 go_simp
 refine (HL.out ⟨15, 5⟩ _ [⟨10, 4⟩, ⟨10, 6⟩] _ HV3.out).mono ?_
 rintro e wr1 ⟨v1, rfl, hbr1, hp1⟩
 have hS : Since W3 wr1 := bT (w := W3) HSrg.out hbr1
 clear HSrg
 refine hK.out _ _ hS (fun _ => ?_)
 clear hK K
 try simp only [pu]
 refine rg_call (i := 6) (get_of Hops rfl) (fun K hK => ?_)
 have HSrg := Lib.hid hS; clear hS
 refine rg_run (wanted_plain rfl) ?_
 go_simp
 refine (H2.out _ _ hp1).mono ?_
 rintro e wr2 ⟨A2, c2, rfl, hbr2, ho2⟩
 have hS : Since W3 wr2 := bT (w := W3) HSrg.out hbr2
 clear HSrg
 refine hK.out _ _ hS (fun _ => ?_)
 clear hK K
 try simp only [pu]
 iterate 5
  apply rg_p; exact Hops; exact rfl; exact hS; exact rfl
  · intro _ hqc; go_simp; try rfl
  try simp only [pu]
 refine rg_done ?_
 refine HQrg.down _ _ ?_
 have hB : Below W3.heap.size W3 wr2 := hS
 clear hS HQrg Hops
 have B4 := Lib.hid (bT B3.out hB)
 have HO2 := Lib.hid ho2
 replace HO1 := Lib.hid (HO1.out.mono hB)
 replace HX1 := Lib.hid (HX1.out.keep hB)
 clear hB ho2 hp1 X1 X1l X1a X1b X1c X1d X1e X1f
 obtain ⟨W4, rfl⟩ : ∃ W4 : World, W4 = wr2 := ⟨_, rfl⟩
 have X1 := HX1.out
 try clear X1l
 try clear X1a
 try clear X1b
 try clear X1c
 try clear X1d
 try clear X1e
 try clear X1f
 obtain ⟨X1l, X1a, X1b, X1c, X1d, X1e, X1f, -, -, -, -, -, -⟩ := X1.facts6
 have HV4 := Lib.hid (show Pts (W4.alloc (.cells #[.int .i64 10, .int .i64 5] 28)).drew (.slice (some ⟨W4.heap.size, 0, none⟩) 1 1) [⟨10, 5⟩] from Sl.lit (n := 1) (Blk.drew (Blk.made rfl _ _)) rfl (le_maxLen (by omega)))
 go_upto_region 4 with fail
 refine rg_start (Since W4) (.take 0 1 (.take 1 3 (.take 4 19 (.call 2 23 (.call 3 31 (.call 5 63 (.run 5 6 63 (.done)))))))) (by kernel_rfl) (bD (bR _)) (by kernel_rfl) (by kernel_rfl) (Nat.le_of_ble_eq_true (by kernel_rfl)) ?_
 intro opsR QR Hops HQrg hS
 iterate 3
  apply rg_p; exact Hops; exact rfl; exact hS; exact rfl
  · intro _ hqc; go_simp; try rfl
  try simp only [pu]
 refine rg_call (i := 2) (get_of Hops rfl) (fun K hK => ?_)
 have HSrg := Lib.hid hS; clear hS
 refine rg_run (wanted_plain rfl) ?_
 go_simp
 refine hK.out _ _ (bA HSrg.out _) (fun hS => ?_)
 clear hK K HSrg
 try simp only [pu]
 refine rg_call (i := 3) (get_of Hops rfl) (fun K hK => ?_)
 have HSrg := Lib.hid hS; clear hS
 refine rg_run (wanted_plain rfl) ?_
 go_simp
 refine (HL.out ⟨5, 7⟩ _ [⟨10, 5⟩] _ HV4.out).mono ?_
 rintro e wr1 ⟨v1, rfl, hbr1, hp1⟩
 have hS : Since W4 wr1 := bT (w := W4) HSrg.out hbr1
 clear HSrg
 refine hK.out _ _ hS (fun _ => ?_)
 clear hK K
 try simp only [pu]
 refine rg_call (i := 5) (get_of Hops rfl) (fun K hK => ?_)
 have HSrg := Lib.hid hS; clear hS
 refine rg_run (wanted_plain rfl) ?_
 go_simp
 refine (H3.out _ _ hp1).mono ?_
 rintro e wr2 ⟨A3, c3, rfl, hbr2, ho3⟩
 have hS : Since W4 wr2 := bT (w := W4) HSrg.out hbr2
 clear HSrg
 refine hK.out _ _ hS (fun _ => ?_)
 clear hK K
 try simp only [pu]
 iterate 5
  apply rg_p; exact Hops; exact rfl; exact hS; exact rfl
  · intro _ hqc; go_simp; try rfl
  try simp only [pu]
 refine rg_done ?_
 refine HQrg.down _ _ ?_
 have hB : Below W4.heap.size W4 wr2 := hS
 clear hS HQrg Hops
 have B5 := Lib.hid (bT B4.out hB)
 have HO3 := Lib.hid ho3
 replace HO1 := Lib.hid (HO1.out.mono hB)
 replace HO2 := Lib.hid (HO2.out.mono hB)
 replace HX1 := Lib.hid (HX1.out.keep hB)
 clear hB ho3 hp1 X1 X1l X1a X1b X1c X1d X1e X1f
 obtain ⟨W5, rfl⟩ : ∃ W5 : World, W5 = wr2 := ⟨_, rfl⟩
 go_upto_region 6 with fail
 obtain ⟨W6, hW⟩ : ∃ W6 : World, W6 = ((W5.alloc (.cells #[.int .i64 5, .int .i64 5, .int .i64 10, .int .i64 7] 28)).alloc (.cells #[.int .i64 4, .slice (some ⟨W5.heap.size, 0, none⟩) 2 2, .int .i64 0, .int .i64 3] 68)).alloc (.cells #[.int .i64 1, .slice (some ⟨W5.heap.size + 1, 0, none⟩) 1 1, .slice none 0 0] 45) := ⟨_, rfl⟩
 have hB6 : Below W5.heap.size W5 W6 := by rw [hW]; exact bA (bA (bA (bR W5) _) _) _
 have hY1 : Blk W6 W5.heap.size 28 #[.int .i64 5, .int .i64 5, .int .i64 10, .int .i64 7] := by rw [hW]; exact ((Blk.made rfl _ _).alloc _).alloc _
 have hY2 : Blk W6 (W5.heap.size + 1) 68 #[.int .i64 4, .slice (some ⟨W5.heap.size, 0, none⟩) 2 2, .int .i64 0, .int .i64 3] := by rw [hW]; exact (Blk.made (by simp) _ _).alloc _
 have hY3 : Blk W6 (W5.heap.size + 1 + 1) 45 #[.int .i64 1, .slice (some ⟨W5.heap.size + 1, 0, none⟩) 1 1, .slice none 0 0] := by rw [hW]; exact Blk.made (by simp) _ _
 rw [← hW]
 have hPX : PrtV W6 (.agg #[.int .i64 1, .slice (some ⟨W5.heap.size + 1, 0, none⟩) 1 1, .slice none 0 0]) exX := by
  refine ⟨_, _, [(⟨4, [⟨5, 5⟩, ⟨10, 7⟩], 0, 3⟩, .slice (some ⟨W5.heap.size, 0, none⟩) 2 2)], rfl, rfl, ⟨?_, ?_⟩, Sl.nil _⟩
  · exact Sl.lit (n := 1) hY2 rfl (le_maxLen (by omega))
  ·
   intro k hk
   have : k = 0 := by simpa using hk
   subst this
   exact Sl.lit (n := 2) hY1 rfl (le_maxLen (by omega))
 obtain ⟨g5, hg5⟩ : ∃ g, W5.heap.size + 1 = g := ⟨_, rfl⟩
 rw [hg5] at hPX hY3 ⊢
 have HPX := Lib.hid hPX
 have HX8 := Lib.hid hY3
 have B6 := Lib.hid (bT B5.out hB6)
 replace HO1 := Lib.hid (HO1.out.mono hB6)
 replace HO2 := Lib.hid (HO2.out.mono hB6)
 replace HO3 := Lib.hid (HO3.out.mono hB6)
 replace HX1 := Lib.hid (HX1.out.keep hB6)
 clear hW hB6 hY1 hY2 hY3 hPX hg5
 have T4 : ∀ W, Below W6.heap.size W6 W → Calls Tryz.prog 11 #[.agg #[.int .i64 1, .slice (some ⟨g5, 0, none⟩) 1 1, .slice none 0 0], bxV ⟨0, 0, 10, 10⟩, .int .i64 3] W (RetCrN W 1 [⟨7, 4, 1⟩] 0) := fun W hW => ex_crossings (HPX.out.mono hW) wf_exX (by decide) (by decide) exC1 rfl
 have T5 : ∀ W, Below W6.heap.size W6 W → Calls Tryz.prog 11 #[.agg #[.int .i64 1, .slice (some ⟨g5, 0, none⟩) 1 1, .slice none 0 0], bxV ⟨0, 0, 0, 0⟩, .int .i64 5] W (RetCrN W 0 [] 1) := fun W hW => ex_crossings (HPX.out.mono hW) wf_exX (by decide) (by decide) exC2 rfl
 have T6 : ∀ u W, Prts W u [(exX, .slice (some ⟨g5, 0, none⟩) 1 1, .slice none 0 0), (exY, .slice none 0 0, .slice none 0 0)] → Below w.heap.size w W → Calls Tryz.prog 14 #[u, seV (ser 2 1)] W (fun e w' => ∃ A c, e = .returned (.tuple #[.slice A 2 c, .int .i64 0]) ∧ Below W.heap.size W w' ∧ Ints w' (.slice A 2 c) [1, 2]) := fun u W h hW => by
  refine (Match_spec u _ (ser 2 1) W h (HMv.out.keep hW) (fun x hx => ?_) (fun x hx => ?_) (by simp)).mono ?_
  ·
   simp only [List.mem_cons, List.not_mem_nil, or_false] at hx
   rcases hx with rfl | rfl
   · exact wf_exX
   · exact wf_exY
  ·
   simp only [List.mem_cons, List.not_mem_nil, or_false] at hx
   rcases hx with rfl | rfl
   · exact ⟨show exX.pieces.length ≤ 60000 by decide, show exX.nodes.length ≤ 60000 by decide⟩
   · exact ⟨show exY.pieces.length ≤ 60000 by decide, show exY.nodes.length ≤ 60000 by decide⟩
  ·
   rintro e w' ⟨A, c, h1, hb, ho⟩
   simp only [List.map_cons, List.map_nil] at h1 ho
   rw [exM] at h1 ho
   exact ⟨A, c, h1, hb, ho⟩
 unfold bxV at T4 T5
 unfold seV ser at T6
 have H4 := Lib.hid T4; have H5 := Lib.hid T5; have H6 := Lib.hid T6
 clear T4 T5 T6
 have X8 := HX8.out
 obtain ⟨X8l, X8a, X8b, X8c, -, -, -⟩ := X8.facts3
 go_wp2_with fail
 refine (H4.out _ (bR W6)).mono ?_
 rintro e W7 ⟨A4, c4, rfl, hb7, ho4⟩
 have HO4 := Lib.hid ho4
 have B7 := Lib.hid hb7
 have HX1' := Lib.hid (HX1.out.keep hb7)
 have HX8' := Lib.hid (HX8.out.keep hb7)
 clear hb7 ho4 X8 X8l X8a X8b X8c
 have X8 := HX8'.out
 have X1 := HX1'.out
 try clear X8l
 try clear X8a
 try clear X8b
 try clear X8c
 obtain ⟨X8l, X8a, X8b, X8c, -, -, -⟩ := X8.facts3
 try clear X1l
 try clear X1a
 try clear X1b
 try clear X1c
 try clear X1d
 try clear X1e
 try clear X1f
 obtain ⟨X1l, X1a, X1b, X1c, X1d, X1e, X1f, -, -, -, -, -, -⟩ := X1.facts6
 go_wp2_with fail
 refine (H6.out _ _ ?_ (bA (bT B6.out B7.out) _)).mono ?_
 ·
  refine ⟨Sl.lit (n := 2) (Blk.made rfl _ _) rfl (le_maxLen (by omega)), fun k hk => ?_⟩
  have hk2 : k = 0 ∨ k = 1 := by simp only [List.length_cons, List.length_nil] at hk; omega
  rcases hk2 with rfl | rfl
  · exact HPX.out.mono (bA B7.out _)
  · exact ⟨_, _, [], rfl, rfl, ⟨Sl.nil _, fun k hk => by simp at hk⟩, Sl.nil _⟩
 rintro e W8 ⟨A5, c5, rfl, hb8, ho5⟩
 have HO5 := Lib.hid ho5
 have B8 := Lib.hid (bT (bA B7.out _) hb8)
 replace HO4 := Lib.hid (HO4.out.mono (bT (bA (bR W7) _) hb8))
 have HX8'' := Lib.hid ((HX8'.out.alloc _).keep hb8)
 clear hb8 ho5 X8 X8l X8a X8b X8c X1 X1l X1a X1b X1c X1d X1e X1f
 have X8 := HX8''.out
 try clear X8l
 try clear X8a
 try clear X8b
 try clear X8c
 obtain ⟨X8l, X8a, X8b, X8c, -, -, -⟩ := X8.facts3
 go_wp2_with fail
 refine (H5.out _ B8.out).mono ?_
 rintro e W9 ⟨A6, c6, rfl, hb9, -⟩
 have B9 := Lib.hid (bT B8.out hb9)
 replace HO4 := Lib.hid (HO4.out.mono hb9)
 replace HO5 := Lib.hid (HO5.out.mono hb9)
 clear hb9 X8 X8l X8a X8b X8c
 have BW9 := Lib.hid (bT B6.out B9.out)
 replace HO1 := Lib.hid (HO1.out.mono B9.out)
 replace HO2 := Lib.hid (HO2.out.mono B9.out)
 clear HX1 HX1' HX8 HX8' HX8'' H1 H2 H3 H4 H5 H6 HPX HS HL HO3 HB2 B3 B4 B5 B6 B7 B8 HV3 HV4
 have HS1 := Lib.hid (fun v u l m W (h : Crs W v l) (h' : Crs W u m) (e : l = m) => by
  have := Same42_spec v u l m W h h'
  rw [decide_eq_true e] at this
  exact this)
 have HS2 := Lib.hid (fun v u l m W (h : Ints W v l) (h' : Ints W u m) (e : l = m) => by
  have := Same04_spec v u l m W h h'
  rw [decide_eq_true e] at this
  exact this)
 have HOp := Lib.hid (fun v W (h : Crs W v [⟨7, 4, 1⟩]) => by
  have := Opposite_spec v _ W h (by simp)
  rw [exO] at this
  exact (this : Calls _ _ _ _ (RetCrs1 W [⟨7, 4, 0⟩])))
 have HW := Lib.hid (show Crs (W9.alloc (.cells #[.int .i64 7, .int .i64 4, .int .i64 1] 70)) (.slice (some ⟨W9.heap.size, 0, none⟩) 1 1) [⟨7, 4, 1⟩] from Sl.lit (n := 1) (Blk.made rfl _ _) rfl (le_maxLen (by omega)))
 go_wp2_with fail
 refine (HS1.out _ _ [⟨7, 4, 1⟩] _ _ (HO1.out.mono (bA (bR W9) _)) HW.out rfl).mono ?_
 rintro e Wa ⟨rfl, hba⟩
 have Ba := Lib.hid (bT (bA (bR W9) _) hba)
 replace HW := Lib.hid (HW.out.mono hba)
 clear hba
 go_wp2_with fail
 refine (HS1.out _ _ [⟨6, 4, 0⟩] [⟨6, 4, 0⟩] _ (HO2.out.mono (bA Ba.out _)) (Sl.lit (n := 1) (Blk.made rfl _ _) rfl (le_maxLen (by omega))) rfl).mono ?_
 rintro e Wb ⟨rfl, hbb⟩
 have Bb := Lib.hid (bT (bA Ba.out _) hbb)
 replace HW := Lib.hid (HW.out.mono (bT (bA (bR Wa) _) hbb))
 clear hbb
 go_wp2_with fail
 refine (HS1.out _ _ [⟨7, 4, 1⟩] _ _ (HO4.out.mono Bb.out) HW.out rfl).mono ?_
 rintro e Wc ⟨rfl, hbc⟩
 have Bc := Lib.hid (bT Bb.out hbc)
 replace HW := Lib.hid (HW.out.mono hbc)
 clear hbc
 go_wp2_with fail
 refine (HS2.out _ _ [1, 2] [1, 2] _ (HO5.out.mono (bA Bc.out _)) (Sl.lit (n := 2) (Blk.made rfl _ _) rfl (le_maxLen (by omega))) rfl).mono ?_
 rintro e Wd ⟨rfl, hbd⟩
 have Bd := Lib.hid (bT (bA Bc.out _) hbd)
 replace HW := Lib.hid (HW.out.mono (bT (bA (bR Wc) _) hbd))
 clear hbd
 go_wp2_with fail
 refine (HOp.out _ _ HW.out).mono ?_
 rintro e We ⟨A7, c7, rfl, hbe, ho7⟩
 have Be := Lib.hid (bT Bd.out hbe)
 have HO7 := Lib.hid ho7.sl
 clear hbe ho7
 go_wp2_with fail
 refine (HS1.out _ _ [⟨7, 4, 0⟩] [⟨7, 4, 0⟩] _ (HO7.out.mono (bA (bR We) _)) (Sl.lit (n := 1) (Blk.made rfl _ _) rfl (le_maxLen (by omega))) rfl).mono ?_
 rintro e Wf ⟨rfl, hbf⟩
 have Bf := Lib.hid (bT (bA Be.out _) hbf)
 clear hbf
 go_wp2_with fail
 go_ret
 exact ⟨rfl, bT BW9.out Bf.out⟩
end Go.Proofs.YtfdbidagdjnipaaGreatDoor
