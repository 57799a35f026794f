/- cut.Clip. -/
import Derived.Test.YtfdbidagdjnipaaGreatDoorClipWE
import Derived.Test.YtfdbidagdjnipaaGreatDoorJ17
set_option linter.unusedSimpArgs false
set_option linter.unusedVariables false
namespace Go.Proofs.YtfdbidagdjnipaaGreatDoor
open Go.RowKit

theorem isAgg_bool : ∀ w, (isAgg 4).run Tryz.prog w = .ok false w := fun _ => by kernel_rfl
theorem res_cell3 {P : Program} {fn : Func} {p q r : Tmp} {ty ty' ty'' : TypeId} {R : Ending → World → Prop} {a : Act} {w : World} {g g' g'' : Nat} {cs cs' : Array Value} {t3 : TypeId} {v : Value} (h : fn.results = #[.cell p ty, .cell q ty', .cell r ty''])
  (hS : StructOf P ty cs.size) (hS' : StructOf P ty' cs'.size) (hS'' : ∀ w, (isAgg ty'').run P w = .ok false w) (hp : a.tmps.getD p undef = .pointer (some ⟨g, 0, none⟩)) (hq : a.tmps.getD q undef = .pointer (some ⟨g', 0, none⟩)) (hr : a.tmps.getD r undef = .pointer (some ⟨g'', 0, none⟩)) (hd : a.defers = []) (hb : Blk w g ty cs) (hb' : Blk w g' ty' cs') (hb'' : Blk w g'' t3 #[v]) (hR : R (.returned (.tuple #[.agg cs, .agg cs', v])) w) : bodyPost P fn R .ret a w := by
 obtain ⟨fs, h1, h3⟩ := hS
 obtain ⟨fs', h1', h3'⟩ := hS'
 refine bodyPost_ret ?_ hd hR
 have e1 := run_loadVar_row (P := P) w g ty ty cs (0, 0) (.struct fs) hb h1 rfl h3
 have e2 := run_loadVar_row (P := P) w g' ty' ty' cs' (0, 0) (.struct fs') hb' h1' rfl h3'
 have hp' : a.tmps[p]?.getD undef = .pointer (some ⟨g, 0, none⟩) := by simpa using hp
 have hq' : a.tmps[q]?.getD undef = .pointer (some ⟨g', 0, none⟩) := by simpa using hq
 have hr' : a.tmps[r]?.getD undef = .pointer (some ⟨g'', 0, none⟩) := by simpa using hr
 have hc : w.cell? ⟨g'', 0, none⟩ = some v := hb''.cell 0
 have e3 : (loadVar ty'' ⟨g'', 0, none⟩).run P w = .ok v w := by
  simp [loadVar, hS'', Sem.run_bind, Sem.run_pure, Result.andThen, hc]
 simp only [results, h]
 simp [hp', hq', hr', asAddr, Sem.run_bind, Sem.run_pure, Result.andThen, e1, e2, e3]

theorem limit_sm {st : ClS} (h : ClSm st) {s u f t : Int} (hu : sm23 u) (q : Int → Pt) : ClSm (limitS st s u f t q) := by
 unfold limitS
 split
 · exact ⟨h.f1, h.f2, h.l1, h.l2⟩
 ·
  generalize (if u < 0 then t else f) = en
  generalize (if u < 0 then f else t) = lv
  have r1 := reach_sm (s := s) (v := en) hu
  have r2 := reach_sm (s := s) (v := lv) hu
  generalize reachS s u en = z1 at *
  generalize reachS s u lv = z2 at *
  have e1 : sm23 (clEnter st.first st.ok z1 (q en)).1.n ∧ sm23 (clEnter st.first st.ok z1 (q en)).1.d := by
   unfold clEnter
   split
   ·
    split
    · exact r1
    · exact ⟨h.f1, h.f2⟩
   · exact ⟨h.f1, h.f2⟩
  generalize (clEnter st.first st.ok z1 (q en)) = z3 at *
  have e2 : sm23 (clLeave st.last z3.2 z2 (q lv)).1.n ∧ sm23 (clLeave st.last z3.2 z2 (q lv)).1.d := by
   unfold clLeave
   split
   ·
    split
    · exact r2
    · exact ⟨h.l1, h.l2⟩
   · exact ⟨h.l1, h.l2⟩
  exact ⟨e1.1, e1.2, e2.1, e2.2⟩
def clR : Option (Pt × Pt) → Value
 | none => .tuple #[.agg #[.int .i64 0, .int .i64 0], .agg #[.int .i64 0, .int .i64 0], .bool false]
 | some (c, d) => .tuple #[ptV c, ptV d, .bool true]
def sm22 (n : Int) : Prop := -4194304 ≤ n ∧ n ≤ 4194304
theorem sm_23 {n : Int} (h : sm22 n) : sm23 n := by unfold sm22 sm23 at *; omega
def smB (x : Bx) : Prop := (sm22 x.x0 ∧ sm22 x.x1) ∧ sm22 x.y0 ∧ sm22 x.y1
set_option maxRecDepth 100000 in
set_option maxHeartbeats 8000000 in
theorem sClip_spec (a b : Pt) (x : Bx) (w : World) (ha : bdP a) (hb : bdP b) (hx : smB x) : Calls Tryz.prog 98 #[ptV a, ptV b, bxV x] w fun e w' => e = .returned (clR (clipS a b x)) ∧ Below w.heap.size w w' := by
 obtain ⟨q, hq⟩ : ∃ q, clR (clipS a b x) = q := ⟨_, rfl⟩
 rw [hq]
 have Hq := Lib.hid hq
 have Ha := Lib.hid ha; have Hb := Lib.hid hb; have Hx := Lib.hid hx
 have HAc := Lib.hid (fun (v : Value) (w : World) hp => accepted_spec v a b w hp ha hb)
 clear hq ha hb hx
 unfold ptV bxV
 go_enter Tryz.func98, Tryz.ntmps98
 obtain ⟨W1, hW1⟩ : ∃ W1 : World, W1 = (((((((w.alloc (.cells #[.int .i64 a.x, .int .i64 a.y] 28)).alloc (.cells #[.int .i64 b.x, .int .i64 b.y] 28)).alloc (.cells #[.int .i64 x.x0, .int .i64 x.y0, .int .i64 x.x1, .int .i64 x.y1] 40)).alloc (.cells #[.int .i64 0, .int .i64 0] 28)).alloc (.cells #[.int .i64 0, .int .i64 0] 28)).alloc (.cells #[.bool false] 4)).alloc (.cells #[.int .i64 a.x, .int .i64 a.y, .int .i64 b.x, .int .i64 b.y] 28)) := ⟨_, rfl⟩
 go_wp2_with fail
 rw [← hW1]
 have B1 : Below w.heap.size w W1 := by rw [hW1]; exact bA (bA (bA (bA (bA (bA (bA (bR w) _) _) _) _) _) _) _
 have X3 : Blk W1 w.heap.size 28 #[.int .i64 a.x, .int .i64 a.y] := by rw [hW1]; exact (((((((Blk.made rfl _ _).alloc _).alloc _).alloc _).alloc _).alloc _).alloc _)
 have X4 : Blk W1 (w.heap.size + 1) 28 #[.int .i64 b.x, .int .i64 b.y] := by rw [hW1]; exact ((((((Blk.made (by simp) _ _).alloc _).alloc _).alloc _).alloc _).alloc _)
 have X5 : Blk W1 (w.heap.size + 1 + 1) 40 #[.int .i64 x.x0, .int .i64 x.y0, .int .i64 x.x1, .int .i64 x.y1] := by rw [hW1]; exact (((((Blk.made (by simp) _ _).alloc _).alloc _).alloc _).alloc _)
 have X6 : Blk W1 (w.heap.size + 1 + 1 + 1) 28 #[.int .i64 0, .int .i64 0] := by rw [hW1]; exact ((((Blk.made (by simp) _ _).alloc _).alloc _).alloc _)
 have X7 : Blk W1 (w.heap.size + 1 + 1 + 1 + 1) 28 #[.int .i64 0, .int .i64 0] := by rw [hW1]; exact (((Blk.made (by simp) _ _).alloc _).alloc _)
 have X8 : Blk W1 (w.heap.size + 1 + 1 + 1 + 1 + 1) 4 #[.bool false] := by rw [hW1]; exact ((Blk.made (by simp) _ _).alloc _)
 have hsl : Pts W1 (.slice (some ⟨w.heap.size + 1 + 1 + 1 + 1 + 1 + 1, 0, none⟩) 2 2) [a, b] := Sl.lit (n := 2) (g := w.heap.size + 1 + 1 + 1 + 1 + 1 + 1) (t := 28) (cs := #[.int .i64 a.x, .int .i64 a.y, .int .i64 b.x, .int .i64 b.y]) (by rw [hW1]; exact Blk.made (by simp) _ _) rfl (le_maxLen (by omega))
 clear hW1
 refine (HAc.out _ _ hsl).mono ?_
 rintro e w1 ⟨rfl, hb1⟩
 replace B1 := bT B1 hb1
 replace X3 := X3.keep hb1
 replace X4 := X4.keep hb1
 replace X5 := X5.keep hb1
 replace X6 := X6.keep hb1
 replace X7 := X7.keep hb1
 replace X8 := X8.keep hb1
 clear hb1 hsl
 obtain ⟨s0, hs0⟩ : ∃ s0, w.heap.size = s0 := ⟨_, rfl⟩
 obtain ⟨g4, h4⟩ : ∃ g, s0 + 1 = g := ⟨_, rfl⟩
 obtain ⟨g5, h5⟩ : ∃ g, g4 + 1 = g := ⟨_, rfl⟩
 obtain ⟨g6, h6⟩ : ∃ g, g5 + 1 = g := ⟨_, rfl⟩
 obtain ⟨g7, h7⟩ : ∃ g, g6 + 1 = g := ⟨_, rfl⟩
 obtain ⟨g8, h8⟩ : ∃ g, g7 + 1 = g := ⟨_, rfl⟩
 rw [hs0] at X3 X4 X5 X6 X7 X8
 rw [h4] at X4 X5 X6 X7 X8
 rw [h5] at X5 X6 X7 X8
 rw [h6] at X6 X7 X8
 rw [h7] at X7 X8
 rw [h8] at X8
 obtain ⟨X3l, X3a, X3b, -, -⟩ := X3.facts2
 obtain ⟨X4l, X4a, X4b, -, -⟩ := X4.facts2
 obtain ⟨X8l, X8a, X8fa⟩ := X8.facts1
 go_upto_region 3 with fail
 have HB1 := Lib.hid B1
 have HS0 := Lib.hid (show w.heap.size = s0 ∧ s0 + 1 = g4 ∧ g4 + 1 = g5 ∧ g5 + 1 = g6 ∧ g6 + 1 = g7 ∧ g7 + 1 = g8 from ⟨hs0, h4, h5, h6, h7, h8⟩)
 have q3 : s0 < g8 := by omega
 have q4 : g4 < g8 := by omega
 have q8 : g8 < w1.heap.size + 1 := by omega
 have q5 : g5 < g8 := by omega
 have q6 : g6 < g7 := by omega
 have q7 : g7 < g8 := by omega
 have qw : w.heap.size ≤ g6 := by omega
 clear hs0 h4 h5 h6 h7 h8 B1
 go_cut [9, 10] (fun u v wx => ∃ g9 g10 : Nat, u = .pointer (some ⟨g9, 0, none⟩) ∧ v = .pointer (some ⟨g10, 0, none⟩) ∧ g9 ≠ g10 ∧ w1.heap.size ≤ g9 ∧ w1.heap.size ≤ g10 ∧ ClB wx g8 g9 g10 ⟨⟨0, 1, a⟩, ⟨1, 1, b⟩, true⟩ ∧ Below g8 w1 wx ∧ ∀ g ty cs, Blk w1 g ty cs → g ≠ g8 → Blk wx g ty cs)
 case first =>
  refine rg_start (SinceB (g8) w1) (.run 4 0 0 (.two 4 31 (.call 5 63 (.call 6 127 (.call 7 255 (.call 8 511 (.done))))) 5 47 (.call 4 63 (.call 6 127 (.call 7 255 (.call 8 511 (.done))))))) (by kernel_rfl) (Below.drew (Below.refl _ _)) (by kernel_rfl) (by kernel_rfl) (Nat.le_of_ble_eq_true (by kernel_rfl)) ?_
  intro opsR QR Hops HQrg hS
  iterate 4
   apply rg_pB; exact Hops; exact rfl; exact hS; exact rfl
   · intro _ hqc; go_simp; try rfl
   try simp only [pu]
  refine rg_two (i := 4) (j := 5) (get_of Hops rfl) (get_of Hops rfl) (fun K hK => ?_) (fun K hK => ?_)
  -- operation 4 first
  ·
   have HSrg := Lib.hid hS; clear hS
   refine rg_run (wanted_plain rfl) ?_
   go_simp
   refine hK.out _ _ (bAB (by omega) HSrg.out _) (fun hS => ?_)
   clear hK K HSrg
   try simp only [pu]
   refine rg_call (i := 5) (get_of Hops rfl) (fun K hK => ?_)
   have HSrg := Lib.hid hS; clear hS
   refine rg_run (wanted_plain rfl) ?_
   go_simp
   refine hK.out _ _ (bAB (by omega) HSrg.out _) (fun hS => ?_)
   clear hK K HSrg
   try simp only [pu]
   refine rg_call (i := 6) (get_of Hops rfl) (fun K hK => ?_)
   have HSrg := Lib.hid hS; clear hS
   refine rg_run (wanted_plain rfl) ?_
   go_simp
   refine hK.out _ _ (by unfold SinceB; have h : Below _ _ _ := HSrg.out; repeat (first | with_reducible assumption | with_reducible exact Below.refl _ _ | with_reducible refine bSB ?_ (by first | omega | (simp; omega)) _ | with_reducible refine Below.drew ?_ | with_reducible refine bAB (by omega) ?_ _ | exact h)) ?_
   intro hS
   clear hK K HSrg
   try simp only [pu]
   refine rg_call (i := 7) (get_of Hops rfl) (fun K hK => ?_)
   have HSrg := Lib.hid hS; clear hS
   refine rg_run (wanted_plain rfl) ?_
   go_simp
   refine hK.out _ _ (by unfold SinceB; have h : Below _ _ _ := HSrg.out; repeat (first | with_reducible assumption | with_reducible exact Below.refl _ _ | with_reducible refine bSB ?_ (by first | omega | (simp; omega)) _ | with_reducible refine Below.drew ?_ | with_reducible refine bAB (by omega) ?_ _ | exact h)) ?_
   intro hS
   clear hK K HSrg
   try simp only [pu]
   refine rg_call (i := 8) (get_of Hops rfl) (fun K hK => ?_)
   have HSrg := Lib.hid hS; clear hS
   refine rg_run (wanted_plain rfl) ?_
   go_simp
   refine hK.out _ _ (by unfold SinceB; have h : Below _ _ _ := HSrg.out; repeat (first | with_reducible assumption | with_reducible exact Below.refl _ _ | with_reducible refine bSB ?_ (by first | omega | (simp; omega)) _ | with_reducible refine Below.drew ?_ | with_reducible refine bAB (by omega) ?_ _ | exact h)) ?_
   intro hS
   clear hK K HSrg
   try simp only [pu]
   refine rg_done ?_
   refine HQrg.down _ _ ?_
   have hB : Below (g8) w1 _ := hS
   clear hS HQrg Hops
   go_wp2_with fail
   go_meet
   case rel => first | exact ⟨w1.heap.size, w1.heap.size + 1, rfl, rfl, by omega, by omega, by omega, ⟨(((Blk.put1 X8).alloc _).alloc _).drew, ((Blk.made (by simp) _ _).alloc _).drew, (Blk.made (by simp) _ _).drew⟩, hB, fun g ty cs h hg => (((h.far hg _).alloc _).alloc _).drew⟩ | exact ⟨w1.heap.size + 1, w1.heap.size, rfl, rfl, by omega, by omega, by omega, ⟨(((Blk.put1 X8).alloc _).alloc _).drew, (Blk.made (by simp) _ _).drew, ((Blk.made (by simp) _ _).alloc _).drew⟩, hB, fun g ty cs h hg => (((h.far hg _).alloc _).alloc _).drew⟩
  -- operation 5 first
  ·
   have HSrg := Lib.hid hS; clear hS
   refine rg_run (wanted_plain rfl) ?_
   go_simp
   refine hK.out _ _ (bAB (by omega) HSrg.out _) (fun hS => ?_)
   clear hK K HSrg
   try simp only [pu]
   refine rg_call (i := 4) (get_of Hops rfl) (fun K hK => ?_)
   have HSrg := Lib.hid hS; clear hS
   refine rg_run (wanted_plain rfl) ?_
   go_simp
   refine hK.out _ _ (bAB (by omega) HSrg.out _) (fun hS => ?_)
   clear hK K HSrg
   try simp only [pu]
   refine rg_call (i := 6) (get_of Hops rfl) (fun K hK => ?_)
   have HSrg := Lib.hid hS; clear hS
   refine rg_run (wanted_plain rfl) ?_
   go_simp
   refine hK.out _ _ (by unfold SinceB; have h : Below _ _ _ := HSrg.out; repeat (first | with_reducible assumption | with_reducible exact Below.refl _ _ | with_reducible refine bSB ?_ (by first | omega | (simp; omega)) _ | with_reducible refine Below.drew ?_ | with_reducible refine bAB (by omega) ?_ _ | exact h)) ?_
   intro hS
   clear hK K HSrg
   try simp only [pu]
   refine rg_call (i := 7) (get_of Hops rfl) (fun K hK => ?_)
   have HSrg := Lib.hid hS; clear hS
   refine rg_run (wanted_plain rfl) ?_
   go_simp
   refine hK.out _ _ (by unfold SinceB; have h : Below _ _ _ := HSrg.out; repeat (first | with_reducible assumption | with_reducible exact Below.refl _ _ | with_reducible refine bSB ?_ (by first | omega | (simp; omega)) _ | with_reducible refine Below.drew ?_ | with_reducible refine bAB (by omega) ?_ _ | exact h)) ?_
   intro hS
   clear hK K HSrg
   try simp only [pu]
   refine rg_call (i := 8) (get_of Hops rfl) (fun K hK => ?_)
   have HSrg := Lib.hid hS; clear hS
   refine rg_run (wanted_plain rfl) ?_
   go_simp
   refine hK.out _ _ (by unfold SinceB; have h : Below _ _ _ := HSrg.out; repeat (first | with_reducible assumption | with_reducible exact Below.refl _ _ | with_reducible refine bSB ?_ (by first | omega | (simp; omega)) _ | with_reducible refine Below.drew ?_ | with_reducible refine bAB (by omega) ?_ _ | exact h)) ?_
   intro hS
   clear hK K HSrg
   try simp only [pu]
   refine rg_done ?_
   refine HQrg.down _ _ ?_
   have hB : Below (g8) w1 _ := hS
   clear hS HQrg Hops
   go_wp2_with fail
   go_meet
   case rel => first | exact ⟨w1.heap.size, w1.heap.size + 1, rfl, rfl, by omega, by omega, by omega, ⟨(((Blk.put1 X8).alloc _).alloc _).drew, ((Blk.made (by simp) _ _).alloc _).drew, (Blk.made (by simp) _ _).drew⟩, hB, fun g ty cs h hg => (((h.far hg _).alloc _).alloc _).drew⟩ | exact ⟨w1.heap.size + 1, w1.heap.size, rfl, rfl, by omega, by omega, by omega, ⟨(((Blk.put1 X8).alloc _).alloc _).drew, (Blk.made (by simp) _ _).drew, ((Blk.made (by simp) _ _).alloc _).drew⟩, hB, fun g ty cs h hg => (((h.far hg _).alloc _).alloc _).drew⟩
 case rest =>
 obtain ⟨g9, g10, rfl, rfl, n9, n9l, n10l, hcl, hbc, hk⟩ := hcut
 have HK0 := Lib.hid hk
 replace X3 := hk _ _ _ X3 (by omega)
 replace X4 := hk _ _ _ X4 (by omega)
 have HS := HS0.out
 replace X5 := hk _ _ _ X5 (by omega)
 replace X6 := hk _ _ _ X6 (by omega)
 replace X7 := hk _ _ _ X7 (by omega)
 have B2 : Below w.heap.size w wc := HB1.out.trans (hbc.mono (by omega))
 have HC0 := Lib.hid hcl
 have hz1 := HB1.out.size; have hzc := hbc.size
 clear hk hbc X8 hcl HS
 obtain ⟨⟨a1, a2⟩, a3, a4⟩ := Ha.out
 obtain ⟨⟨b1, b2⟩, b3, b4⟩ := Hb.out
 have k1 : IntKind.i64.wrap (b.x - a.x) = b.x - a.x := IntWalk.i64_in _ (by omega)
 have k2 : IntKind.i64.wrap (b.y - a.y) = b.y - a.y := IntWalk.i64_in _ (by omega)
 have s0m : ClSm ⟨⟨0, 1, a⟩, ⟨1, 1, b⟩, true⟩ := ⟨by unfold sm23; simp only; omega, by unfold sm23; simp only; omega, by unfold sm23; simp only; omega, by unfold sm23; simp only; omega⟩
 have hux : sm23 (b.x - a.x) := by unfold sm23; omega
 have huy : sm23 (b.y - a.y) := by unfold sm23; omega
 have HL1 := Lib.hid (fun (W : World) hB hst h3 h4 => limit2_spec a b a.x (b.x - a.x) x.x0 x.x1 ⟨⟨0, 1, a⟩, ⟨1, 1, b⟩, true⟩ g8 s0 g4 g8 g9 g10 W hB hst s0m h3 h4 (by unfold sm23; omega) hux (sm_23 Hx.out.1.1) (sm_23 Hx.out.1.2) (Nat.le_refl _) (by omega) (by omega) (by omega) (by omega) n9 (by omega) (by omega)
  (fun h v hv => ⟨Ha.out, Hb.out, by omega, by unfold btwX; omega⟩))
 obtain ⟨st1, hst1⟩ : ∃ st1, limitS ⟨⟨0, 1, a⟩, ⟨1, 1, b⟩, true⟩ a.x (b.x - a.x) x.x0 x.x1 (atX a b) = st1 := ⟨_, rfl⟩
 have s1m : ClSm st1 := by rw [← hst1]; exact limit_sm s0m hux _
 rw [hst1] at HL1
 have HL2 := Lib.hid (fun (W : World) hB hst h3 h4 => limit3_spec a b a.y (b.y - a.y) x.y0 x.y1 st1 g8 s0 g4 g8 g9 g10 W hB hst s1m h3 h4 (by unfold sm23; omega) huy (sm_23 Hx.out.2.1) (sm_23 Hx.out.2.2) (Nat.le_refl _) (by omega) (by omega) (by omega) (by omega) n9 (by omega) (by omega)
  (fun h v hv => ⟨bdP_turn Ha.out, bdP_turn Hb.out, by unfold turnP; simp only; omega, by unfold btwX turnP; simp only; omega⟩))
 obtain ⟨st2, hst2⟩ : ∃ st2, limitS st1 a.y (b.y - a.y) x.y0 x.y1 (atY a b) = st2 := ⟨_, rfl⟩
 have s2m : ClSm st2 := by rw [← hst2]; exact limit_sm s1m huy _
 rw [hst2] at HL2
 have HCl : Hid (clipS a b x = if st2.ok = false ∨ st2.last.n * st2.first.d < st2.first.n * st2.last.d then none else some (st2.first.at_, st2.last.at_)) := Lib.hid (by
  rw [← hst2, ← hst1]; rfl)
 have HLs := Lib.hid (fun W => less_spec st2.last st2.first W s2m.l1 s2m.l2 s2m.f1 s2m.f2)
 unfold plV at HLs
 have HXX := Lib.hid (show Blk wc s0 28 #[.int .i64 a.x, .int .i64 a.y] ∧ Blk wc g4 28 #[.int .i64 b.x, .int .i64 b.y] from ⟨X3, X4⟩)
 clear hst1 hst2 s0m s1m s2m hux huy
 clear a1 a2 a3 a4 b1 b2 b3 b4
 try clear X3l
 try clear X3a
 try clear X3b
 obtain ⟨X3l, X3a, X3b, -, -⟩ := X3.facts2
 try clear X4l
 try clear X4a
 try clear X4b
 obtain ⟨X4l, X4a, X4b, -, -⟩ := X4.facts2
 obtain ⟨X5l, X5a, X5b, X5c, X5d, -, -, -, -⟩ := X5.facts4
 go_wp2_with fail
 refine (HL1.out _ (by omega) HC0.out HXX.out.1 HXX.out.2).mono ?_
 rintro e w3 ⟨rfl, hc3, hb3, hk3⟩
 replace X3 := hk3 _ _ _ X3 (by omega) (by omega) (by omega)
 replace X4 := hk3 _ _ _ X4 (by omega) (by omega) (by omega)
 replace X5 := hk3 _ _ _ X5 (by omega) (by omega) (by omega)
 replace X6 := hk3 _ _ _ X6 (by omega) (by omega) (by omega)
 replace X7 := hk3 _ _ _ X7 (by omega) (by omega) (by omega)
 have HXX3 := Lib.hid (show Blk w3 s0 28 #[.int .i64 a.x, .int .i64 a.y] ∧ Blk w3 g4 28 #[.int .i64 b.x, .int .i64 b.y] from ⟨X3, X4⟩)
 have HC3 := Lib.hid hc3
 have hz3 := hb3.size
 replace B2 := B2.trans (hb3.mono (show w.heap.size ≤ g8 by omega))
 clear hc3 hb3 hk3 HXX HC0 HL1 k1
 try clear X3l
 try clear X3a
 try clear X3b
 obtain ⟨X3l, X3a, X3b, -, -⟩ := X3.facts2
 try clear X4l
 try clear X4a
 try clear X4b
 obtain ⟨X4l, X4a, X4b, -, -⟩ := X4.facts2
 try clear X5l
 try clear X5a
 try clear X5b
 try clear X5c
 try clear X5d
 obtain ⟨X5l, X5a, X5b, X5c, X5d, -, -, -, -⟩ := X5.facts4
 go_wp2_with fail
 refine (HL2.out _ (by omega) HC3.out HXX3.out.1 HXX3.out.2).mono ?_
 rintro e w4 ⟨rfl, hc4, hb4, hk4⟩
 replace X6 := hk4 _ _ _ X6 (by omega) (by omega) (by omega)
 replace X7 := hk4 _ _ _ X7 (by omega) (by omega) (by omega)
 have HX6 := Lib.hid X6; have HX7 := Lib.hid X7
 replace B2 := B2.trans (hb4.mono (show w.heap.size ≤ g8 by omega))
 have hz4 := hb4.size
 obtain ⟨X8, X9, X10⟩ := hc4
 unfold plB at X9 X10
 have HX8 := Lib.hid X8
 clear HL2 HXX3 HC3 hk4 hb4 k2 X3 X4 X5 X3l X3a X3b X4l X4a X4b X5l X5a X5b X5c X5d
 obtain ⟨ok2, hok2⟩ : ∃ o, st2.ok = o := ⟨_, rfl⟩
 rw [hok2] at X8
 obtain ⟨lb, hlb⟩ : ∃ lb, decide (st2.last.n * st2.first.d < st2.first.n * st2.last.d) = lb := ⟨_, rfl⟩
 rw [hlb] at HLs
 have HOk := Lib.hid hok2; have HLb := Lib.hid hlb
 clear hok2 hlb
 have HFin0 : Hid (ok2 = false ∨ lb = true → q = clR none) := Lib.hid (fun h => by
  rw [← Hq.out, HCl.out, if_pos]
  rcases h with h | h
  · exact .inl (HOk.out.trans h)
  · exact .inr (by have := HLb.out; rw [h] at this; simpa using this))
 have HFin1 : Hid (ok2 = true → lb = false → q = clR (some (st2.first.at_, st2.last.at_))) := Lib.hid (fun h1 h2 => by
  rw [← Hq.out, HCl.out, if_neg]
  rintro (h | h)
  · rw [HOk.out, h1] at h; cases h
  · have := HLb.out; rw [h2] at this; simp at this; omega)
 obtain ⟨X6l, X6a, X6b, X6fa, X6fb⟩ := X6.facts2
 obtain ⟨X7l, X7a, X7b, X7fa, X7fb⟩ := X7.facts2
 try clear X8l
 try clear X8a
 try clear X8fa
 obtain ⟨X8l, X8a, X8fa⟩ := X8.facts1
 obtain ⟨X9l, X9a, X9b, X9c, X9d, -, -, -, -⟩ := X9.facts4
 obtain ⟨X10l, X10a, X10b, X10c, X10d, -, -, -, -⟩ := X10.facts4
 have HB2 := Lib.hid B2
 clear B2
 cases ok2
 ·
  go_wp2_with fail
  have B2 := HB2.out
  refine res_cell3 (g := g6) (g' := g7) (g'' := g8) (t3 := 4) (cs := #[.int .i64 0, .int .i64 0]) (cs' := #[.int .i64 0, .int .i64 0]) (v := .bool false) rfl struct_pt struct_pt isAgg_bool rfl rfl rfl rfl ?_ ?_ ?_ ⟨?_, ?_⟩
  · exact ((((HX6.out.put2).far (by first | omega | (simp; done) | (simp; omega)) _).far (by first | omega | (simp; done) | (simp; omega)) _).far (by first | omega | (simp; done) | (simp; omega)) _)
  · exact (((HX7.out.far (by first | omega | (simp; done) | (simp; omega)) _).far (by first | omega | (simp; done) | (simp; omega)) _).put2.far (by first | omega | (simp; done) | (simp; omega)) _)
  · exact (((((HX8.out.far (by first | omega | (simp; done) | (simp; omega)) _).far (by first | omega | (simp; done) | (simp; omega)) _).far (by first | omega | (simp; done) | (simp; omega)) _).far (by first | omega | (simp; done) | (simp; omega)) _).put1)
  · rw [HFin0.out (.inl trivial)]; rfl
  · exact (((((B2.setCell (p := ⟨g6, 0, none⟩) (by simp; omega) _).setCell (p := ⟨g6, 1, none⟩) (by simp; omega) _).setCell (p := ⟨g7, 0, none⟩) (by simp; omega) _).setCell (p := ⟨g7, 1, none⟩) (by simp; omega) _).setCell (p := ⟨g8, 0, none⟩) (by simp; omega) _)
 ·
  go_wp2_with fail
  refine (HLs.out _).mono ?_
  rintro e w5 ⟨rfl, hb5⟩
  replace HX6 := Lib.hid (HX6.out.keep hb5); replace HX7 := Lib.hid (HX7.out.keep hb5)
  replace HX8 := Lib.hid (HX8.out.keep hb5); replace X9 := X9.keep hb5; replace X10 := X10.keep hb5
  replace HB2 := Lib.hid (bT HB2.out hb5)
  clear hb5 X6l X6a X6b X6fa X6fb X7l X7a X7b X7fa X7fb X8l X8a X8fa X6 X7 X8
  have X6 := HX6.out; have X7 := HX7.out; have X8 := HX8.out
  try clear X6l
  try clear X6a
  try clear X6b
  try clear X6fa
  try clear X6fb
  obtain ⟨X6l, X6a, X6b, X6fa, X6fb⟩ := X6.facts2
  try clear X7l
  try clear X7a
  try clear X7b
  try clear X7fa
  try clear X7fb
  obtain ⟨X7l, X7a, X7b, X7fa, X7fb⟩ := X7.facts2
  try clear X8l
  try clear X8a
  try clear X8fa
  obtain ⟨X8l, X8a, X8fa⟩ := X8.facts1
  try clear X9l
  try clear X9a
  try clear X9b
  try clear X9c
  try clear X9d
  obtain ⟨X9l, X9a, X9b, X9c, X9d, -, -, -, -⟩ := X9.facts4
  try clear X10l
  try clear X10a
  try clear X10b
  try clear X10c
  try clear X10d
  obtain ⟨X10l, X10a, X10b, X10c, X10d, -, -, -, -⟩ := X10.facts4
  cases lb
  ·
   have hfin : ∀ (w9 : World), w9 = (((((w5.setCell ⟨g6, 0, none⟩ (.int .i64 st2.first.at_.x)).setCell ⟨g6, 1, none⟩ (.int .i64 st2.first.at_.y)).setCell ⟨g7, 0, none⟩ (.int .i64 st2.last.at_.x)).setCell ⟨g7, 1, none⟩ (.int .i64 st2.last.at_.y)).setCell ⟨g8, 0, none⟩ (.bool true)).drew →
     Blk w9 g6 28 #[.int .i64 st2.first.at_.x, .int .i64 st2.first.at_.y] ∧ Blk w9 g7 28 #[.int .i64 st2.last.at_.x, .int .i64 st2.last.at_.y] ∧ Blk w9 g8 4 #[.bool true] ∧
     (Ending.returned (.tuple #[.agg #[.int .i64 st2.first.at_.x, .int .i64 st2.first.at_.y], .agg #[.int .i64 st2.last.at_.x, .int .i64 st2.last.at_.y], .bool true]) = .returned q ∧ Below w.heap.size w w9) := by
    rintro w9 rfl
    have B2 := HB2.out
    refine ⟨?_, ?_, ?_, ?_, ?_⟩
    · exact ((((HX6.out.put2).far (by first | omega | (simp; done) | (simp; omega)) _).far (by first | omega | (simp; done) | (simp; omega)) _).far (by first | omega | (simp; done) | (simp; omega)) _).drew
    · exact ((((HX7.out.far (by first | omega | (simp; done) | (simp; omega)) _).far (by first | omega | (simp; done) | (simp; omega)) _).put2).far (by first | omega | (simp; done) | (simp; omega)) _).drew
    · exact (((((HX8.out.far (by first | omega | (simp; done) | (simp; omega)) _).far (by first | omega | (simp; done) | (simp; omega)) _).far (by first | omega | (simp; done) | (simp; omega)) _).far (by first | omega | (simp; done) | (simp; omega)) _).put1).drew
    · rw [HFin1.out (by trivial) (by trivial)]; rfl
    · exact ((((((B2.setCell (p := ⟨g6, 0, none⟩) (by simp; omega) _).setCell (p := ⟨g6, 1, none⟩) (by simp; omega) _).setCell (p := ⟨g7, 0, none⟩) (by simp; omega) _).setCell (p := ⟨g7, 1, none⟩) (by simp; omega) _).setCell (p := ⟨g8, 0, none⟩) (by simp; omega) _)).drew
   have HFin2 := Lib.hid (fun w9 h => hfin w9 h)
   clear hfin
   go_upto_region 9 with fail
   refine rg_start (SinceB (g6) w5) (.take 0 1 (.take 2 5 (.two 1 7 (.two 3 15 (.call 4 31 (.call 5 63 (.call 6 127 (.done)))) 4 23 (.call 3 31 (.call 5 63 (.call 6 127 (.done))))) 3 13 (.call 1 15 (.call 4 31 (.call 5 63 (.call 6 127 (.done)))))))) (by kernel_rfl) (Below.drew (Below.refl _ _)) (by kernel_rfl) (by kernel_rfl) (Nat.le_of_ble_eq_true (by kernel_rfl)) ?_
   intro opsR QR Hops HQrg hS
   iterate 2
    apply rg_pB; exact Hops; exact rfl; exact hS; exact rfl
    · intro _ hqc; go_simp; try rfl
    try simp only [pu]
   refine rg_two (i := 1) (j := 3) (get_of Hops rfl) (get_of Hops rfl) (fun K hK => ?_) (fun K hK => ?_)
   -- operation 1 first
   ·
    have HSrg := Lib.hid hS; clear hS
    refine rg_run (wanted_plain rfl) ?_
    go_simp
    refine hK.out _ _ HSrg.out (fun hS => ?_)
    clear hK K HSrg
    try simp only [pu]
    refine rg_two (i := 3) (j := 4) (get_of Hops rfl) (get_of Hops rfl) (fun K hK => ?_) (fun K hK => ?_)
    -- operation 3 first
    ·
     have HSrg := Lib.hid hS; clear hS
     refine rg_run (wanted_plain rfl) ?_
     go_simp
     refine hK.out _ _ HSrg.out (fun hS => ?_)
     clear hK K HSrg
     try simp only [pu]
     refine rg_call (i := 4) (get_of Hops rfl) (fun K hK => ?_)
     have HSrg := Lib.hid hS; clear hS
     refine rg_run (wanted_plain rfl) ?_
     go_simp
     refine hK.out _ _ (by unfold SinceB; have h : Below _ _ _ := HSrg.out; repeat (first | with_reducible assumption | with_reducible exact Below.refl _ _ | with_reducible refine bSB ?_ (by first | omega | (simp; omega)) _ | with_reducible refine Below.drew ?_ | with_reducible refine bAB (by omega) ?_ _ | exact h)) ?_
     intro hS
     clear hK K HSrg
     try simp only [pu]
     refine rg_call (i := 5) (get_of Hops rfl) (fun K hK => ?_)
     have HSrg := Lib.hid hS; clear hS
     refine rg_run (wanted_plain rfl) ?_
     go_simp
     refine hK.out _ _ (by unfold SinceB; have h : Below _ _ _ := HSrg.out; repeat (first | with_reducible assumption | with_reducible exact Below.refl _ _ | with_reducible refine bSB ?_ (by first | omega | (simp; omega)) _ | with_reducible refine Below.drew ?_ | with_reducible refine bAB (by omega) ?_ _ | exact h)) ?_
     intro hS
     clear hK K HSrg
     try simp only [pu]
     refine rg_call (i := 6) (get_of Hops rfl) (fun K hK => ?_)
     have HSrg := Lib.hid hS; clear hS
     refine rg_run (wanted_plain rfl) ?_
     go_simp
     refine hK.out _ _ (by unfold SinceB; have h : Below _ _ _ := HSrg.out; repeat (first | with_reducible assumption | with_reducible exact Below.refl _ _ | with_reducible refine bSB ?_ (by first | omega | (simp; omega)) _ | with_reducible refine Below.drew ?_ | with_reducible refine bAB (by omega) ?_ _ | exact h)) ?_
     intro hS
     clear hK K HSrg
     try simp only [pu]
     refine rg_done ?_
     refine HQrg.down _ _ ?_
     have hB : Below (g6) w5 _ := hS
     clear hS HQrg Hops
     go_wp2_with fail
     obtain ⟨f1, f2, f3, f4⟩ := HFin2.out _ rfl
     exact res_cell3 (g := g6) (g' := g7) (g'' := g8) (t3 := 4) (cs := #[.int .i64 st2.first.at_.x, .int .i64 st2.first.at_.y]) (cs' := #[.int .i64 st2.last.at_.x, .int .i64 st2.last.at_.y]) (v := .bool true) rfl struct_pt struct_pt isAgg_bool rfl rfl rfl rfl f1 f2 f3 f4
    -- operation 4 first
    ·
     have HSrg := Lib.hid hS; clear hS
     refine rg_run (wanted_plain rfl) ?_
     go_simp
     refine hK.out _ _ (by unfold SinceB; have h : Below _ _ _ := HSrg.out; repeat (first | with_reducible assumption | with_reducible exact Below.refl _ _ | with_reducible refine bSB ?_ (by first | omega | (simp; omega)) _ | with_reducible refine Below.drew ?_ | with_reducible refine bAB (by omega) ?_ _ | exact h)) ?_
     intro hS
     clear hK K HSrg
     try simp only [pu]
     refine rg_call (i := 3) (get_of Hops rfl) (fun K hK => ?_)
     have HSrg := Lib.hid hS; clear hS
     refine rg_run (wanted_plain rfl) ?_
     go_simp
     refine hK.out _ _ HSrg.out (fun hS => ?_)
     clear hK K HSrg
     try simp only [pu]
     refine rg_call (i := 5) (get_of Hops rfl) (fun K hK => ?_)
     have HSrg := Lib.hid hS; clear hS
     refine rg_run (wanted_plain rfl) ?_
     go_simp
     refine hK.out _ _ (by unfold SinceB; have h : Below _ _ _ := HSrg.out; repeat (first | with_reducible assumption | with_reducible exact Below.refl _ _ | with_reducible refine bSB ?_ (by first | omega | (simp; omega)) _ | with_reducible refine Below.drew ?_ | with_reducible refine bAB (by omega) ?_ _ | exact h)) ?_
     intro hS
     clear hK K HSrg
     try simp only [pu]
     refine rg_call (i := 6) (get_of Hops rfl) (fun K hK => ?_)
     have HSrg := Lib.hid hS; clear hS
     refine rg_run (wanted_plain rfl) ?_
     go_simp
     refine hK.out _ _ (by unfold SinceB; have h : Below _ _ _ := HSrg.out; repeat (first | with_reducible assumption | with_reducible exact Below.refl _ _ | with_reducible refine bSB ?_ (by first | omega | (simp; omega)) _ | with_reducible refine Below.drew ?_ | with_reducible refine bAB (by omega) ?_ _ | exact h)) ?_
     intro hS
     clear hK K HSrg
     try simp only [pu]
     refine rg_done ?_
     refine HQrg.down _ _ ?_
     have hB : Below (g6) w5 _ := hS
     clear hS HQrg Hops
     go_wp2_with fail
     obtain ⟨f1, f2, f3, f4⟩ := HFin2.out _ rfl
     exact res_cell3 (g := g6) (g' := g7) (g'' := g8) (t3 := 4) (cs := #[.int .i64 st2.first.at_.x, .int .i64 st2.first.at_.y]) (cs' := #[.int .i64 st2.last.at_.x, .int .i64 st2.last.at_.y]) (v := .bool true) rfl struct_pt struct_pt isAgg_bool rfl rfl rfl rfl f1 f2 f3 f4
   -- operation 3 first
   ·
    have HSrg := Lib.hid hS; clear hS
    refine rg_run (wanted_plain rfl) ?_
    go_simp
    refine hK.out _ _ HSrg.out (fun hS => ?_)
    clear hK K HSrg
    try simp only [pu]
    refine rg_call (i := 1) (get_of Hops rfl) (fun K hK => ?_)
    have HSrg := Lib.hid hS; clear hS
    refine rg_run (wanted_plain rfl) ?_
    go_simp
    refine hK.out _ _ HSrg.out (fun hS => ?_)
    clear hK K HSrg
    try simp only [pu]
    refine rg_call (i := 4) (get_of Hops rfl) (fun K hK => ?_)
    have HSrg := Lib.hid hS; clear hS
    refine rg_run (wanted_plain rfl) ?_
    go_simp
    refine hK.out _ _ (by unfold SinceB; have h : Below _ _ _ := HSrg.out; repeat (first | with_reducible assumption | with_reducible exact Below.refl _ _ | with_reducible refine bSB ?_ (by first | omega | (simp; omega)) _ | with_reducible refine Below.drew ?_ | with_reducible refine bAB (by omega) ?_ _ | exact h)) ?_
    intro hS
    clear hK K HSrg
    try simp only [pu]
    refine rg_call (i := 5) (get_of Hops rfl) (fun K hK => ?_)
    have HSrg := Lib.hid hS; clear hS
    refine rg_run (wanted_plain rfl) ?_
    go_simp
    refine hK.out _ _ (by unfold SinceB; have h : Below _ _ _ := HSrg.out; repeat (first | with_reducible assumption | with_reducible exact Below.refl _ _ | with_reducible refine bSB ?_ (by first | omega | (simp; omega)) _ | with_reducible refine Below.drew ?_ | with_reducible refine bAB (by omega) ?_ _ | exact h)) ?_
    intro hS
    clear hK K HSrg
    try simp only [pu]
    refine rg_call (i := 6) (get_of Hops rfl) (fun K hK => ?_)
    have HSrg := Lib.hid hS; clear hS
    refine rg_run (wanted_plain rfl) ?_
    go_simp
    refine hK.out _ _ (by unfold SinceB; have h : Below _ _ _ := HSrg.out; repeat (first | with_reducible assumption | with_reducible exact Below.refl _ _ | with_reducible refine bSB ?_ (by first | omega | (simp; omega)) _ | with_reducible refine Below.drew ?_ | with_reducible refine bAB (by omega) ?_ _ | exact h)) ?_
    intro hS
    clear hK K HSrg
    try simp only [pu]
    refine rg_done ?_
    refine HQrg.down _ _ ?_
    have hB : Below (g6) w5 _ := hS
    clear hS HQrg Hops
    go_wp2_with fail
    obtain ⟨f1, f2, f3, f4⟩ := HFin2.out _ rfl
    exact res_cell3 (g := g6) (g' := g7) (g'' := g8) (t3 := 4) (cs := #[.int .i64 st2.first.at_.x, .int .i64 st2.first.at_.y]) (cs' := #[.int .i64 st2.last.at_.x, .int .i64 st2.last.at_.y]) (v := .bool true) rfl struct_pt struct_pt isAgg_bool rfl rfl rfl rfl f1 f2 f3 f4
  ·
   go_wp2_with fail
   have B2 := HB2.out
   refine res_cell3 (g := g6) (g' := g7) (g'' := g8) (t3 := 4) (cs := #[.int .i64 0, .int .i64 0]) (cs' := #[.int .i64 0, .int .i64 0]) (v := .bool false) rfl struct_pt struct_pt isAgg_bool rfl rfl rfl rfl ?_ ?_ ?_ ⟨?_, ?_⟩
   · exact ((((HX6.out.put2).far (by first | omega | (simp; done) | (simp; omega)) _).far (by first | omega | (simp; done) | (simp; omega)) _).far (by first | omega | (simp; done) | (simp; omega)) _)
   · exact (((HX7.out.far (by first | omega | (simp; done) | (simp; omega)) _).far (by first | omega | (simp; done) | (simp; omega)) _).put2.far (by first | omega | (simp; done) | (simp; omega)) _)
   · exact (((((HX8.out.far (by first | omega | (simp; done) | (simp; omega)) _).far (by first | omega | (simp; done) | (simp; omega)) _).far (by first | omega | (simp; done) | (simp; omega)) _).far (by first | omega | (simp; done) | (simp; omega)) _).put1)
   · rw [HFin0.out (.inr trivial)]; rfl
   · exact (((((B2.setCell (p := ⟨g6, 0, none⟩) (by simp; omega) _).setCell (p := ⟨g6, 1, none⟩) (by simp; omega) _).setCell (p := ⟨g7, 0, none⟩) (by simp; omega) _).setCell (p := ⟨g7, 1, none⟩) (by simp; omega) _).setCell (p := ⟨g8, 0, none⟩) (by simp; omega) _)
end Go.Proofs.YtfdbidagdjnipaaGreatDoor
