/- cmp.Compare at ints; the comparison of plan.planar. -/
import Derived.Test.YtibchmofckhofaaPlanZ
set_option linter.unusedSimpArgs false
set_option linter.unusedVariables false
namespace Go.Proofs.Ytibchmofckhofaa
open Go.RowKit

set_option maxHeartbeats 400000 in
theorem isNaN_int_spec (x : Int) (w : World) : Calls Try.prog 80 #[.int .i64 x] w fun e w' => e = .returned (.bool false) ∧ w = w' := by
  have hx : (x != x) = false := by simp
  go_enter Try.func80, Try.ntmps80
  go_wp2_with fail
  go_ret
  exact ⟨by simp, rfl⟩

def cmpI (x y : Int) : Int := if x < y then -1 else if y < x then 1 else 0
set_option maxHeartbeats 400000 in
theorem Compare_int_spec (x y : Int) (w : World) : Calls Try.prog 63 #[.int .i64 x, .int .i64 y] w fun e w' => e = .returned (.int .i64 (cmpI x y)) ∧ w = w' := by
  have HN := Lib.hid (fun (z : Int) (W : World) => isNaN_int_spec z W)
  obtain ⟨q, hq⟩ : ∃ q, cmpI x y = q := ⟨_, rfl⟩
  rw [hq]
  have Hq := Lib.hid hq; clear hq
  go_enter Try.func63, Try.ntmps63
  go_wp2_with fail
  refine (HN.out _ _).mono ?_
  rintro e w' ⟨rfl, rfl⟩
  go_wp2_with fail
  refine (HN.out _ _).mono ?_
  rintro e w' ⟨rfl, rfl⟩
  go_wp2_with fail
  all_goals
    go_ret
    refine ⟨ret_int ?_, rfl⟩
    rw [← Hq.out]
    unfold cmpI
    first | rw [if_pos (by assumption)] | (rw [if_neg (by assumption), if_pos (by assumption)]) | (rw [if_neg (by assumption), if_neg (by assumption)]) | (split <;> (try split) <;> omega)

theorem Compare_int_spec' (x y : Int) (w : World) : Calls Try.prog 63 #[.int .i64 x, .int .i64 y] w fun e w' => e = .returned (.int .i64 (cmpI x y)) ∧ BelowD w w' :=
  (Compare_int_spec x y w).mono fun e w' h => ⟨h.1, by rw [← h.2]; exact ⟨bR w, dR w⟩⟩

set_option maxRecDepth 100000 in
set_option maxHeartbeats 1000000 in
theorem cmpSeg_spec (s t : PSg) (w : World) (hs : SgOk w s) (ht : SgOk w t) :
    Calls Try.prog 62 #[psgV s, psgV t] w fun e w' => e = .returned (.int .i64 (cmpI (westS s) (westS t))) ∧ BelowD w w' := by
  have TS : ∀ W, Below w.heap.size w W → Calls Try.prog 64 #[psgV s] W _ := fun W hW => west_spec s W (hs.keep hW)
  have TT : ∀ W, Below w.heap.size w W → Calls Try.prog 64 #[psgV t] W _ := fun W hW => west_spec t W (ht.keep hW)
  unfold psgV at TS TT ⊢
  have HS := Lib.hid TS; have HT := Lib.hid TT
  clear TS TT hs ht
  generalize westS s = x at *
  generalize westS t = y at *
  generalize s.k = k at *
  generalize t.k = m at *
  generalize s.ln.g = g at *
  generalize t.ln.g = h at *
  go_enter Try.func62, Try.ntmps62
  go_upto_region 1 with fail
  obtain ⟨W, hW⟩ : ∃ W : World, W = (w.alloc (.cells #[.pointer (some ⟨g, 0, none⟩), .int .i64 k] 88)).alloc (.cells #[.pointer (some ⟨h, 0, none⟩), .int .i64 m] 88) := ⟨_, rfl⟩
  have Bw : Below w.heap.size w W := by rw [hW]; exact bA (bA (bR w) _) _
  have Dw := Lib.hid (show w.drawn ≤ W.drawn by rw [hW]; exact dA (dA (dR w) _) _)
  have X1 : Blk W w.heap.size 88 #[.pointer (some ⟨g, 0, none⟩), .int .i64 k] := by rw [hW]; exact (Blk.made rfl _ _).alloc _
  have X2 : Blk W (w.heap.size + 1) 88 #[.pointer (some ⟨h, 0, none⟩), .int .i64 m] := by rw [hW]; exact Blk.made (by simp) _ _
  rw [← hW]
  clear hW
  try clear X1l
  try clear X1a
  try clear X1b
  try clear X1fa
  try clear X1fb
  obtain ⟨X1l, X1a, X1b, -, -⟩ := X1.facts2
  try clear X2l
  try clear X2a
  try clear X2b
  try clear X2fa
  try clear X2fb
  obtain ⟨X2l, X2a, X2b, -, -⟩ := X2.facts2
  refine rg_start (Since W) (.take 0 1 (.take 2 5 (.call 1 7 (.call 3 15 (.call 4 31 (.take 5 63 (.done))))))) (by kernel_rfl) (bD (bR _)) (by kernel_rfl) (by kernel_rfl) (Nat.le_of_ble_eq_true (by kernel_rfl)) ?_
  intro opsR QR Hops HQrg hS
  refine rg_take (i := 0) (get_of Hops rfl) hS ?_
  apply Exists.intro
  apply And.intro
  · refine .inl ⟨(wanted_plain rfl), fun wq hq => ?_⟩
    have hq' : Below W.heap.size W wq := hq
    obtain ⟨hqc, -⟩ := bcell hq'
    clear hq hq'
    go_simp
    try rfl
  try simp only [Act.put, List.setIfInBounds_toArray, List.set_cons_zero, List.set_cons_succ]
  refine rg_take (i := 2) (get_of Hops rfl) hS ?_
  apply Exists.intro
  apply And.intro
  · refine .inl ⟨(wanted_plain rfl), fun wq hq => ?_⟩
    have hq' : Below W.heap.size W wq := hq
    obtain ⟨hqc, -⟩ := bcell hq'
    clear hq hq'
    go_simp
    try rfl
  try simp only [Act.put, List.setIfInBounds_toArray, List.set_cons_zero, List.set_cons_succ]
  refine rg_call (i := 1) (get_of Hops rfl) (fun K hK => ?_)
  have HSrg := Lib.hid hS; clear hS
  refine rg_run (wanted_plain rfl) ?_
  go_simp
  refine (HS.out _ (bT Bw HSrg.out)).mono ?_
  rintro e wr1 ⟨rfl, hbr1, hd1⟩
  have hS : Since W wr1 := bT (w := W) HSrg.out hbr1
  clear HSrg
  refine hK.out _ _ hS (fun _ => ?_)
  clear hK K
  try simp only [Act.put, List.setIfInBounds_toArray, List.set_cons_zero, List.set_cons_succ]
  refine rg_call (i := 3) (get_of Hops rfl) (fun K hK => ?_)
  have HSrg := Lib.hid hS; clear hS
  refine rg_run (wanted_plain rfl) ?_
  go_simp
  refine (HT.out _ (bT Bw HSrg.out)).mono ?_
  rintro e wr2 ⟨rfl, hbr2, hd2⟩
  have hS : Since W wr2 := bT (w := W) HSrg.out hbr2
  clear HSrg
  refine hK.out _ _ hS (fun _ => ?_)
  clear hK K
  try simp only [Act.put, List.setIfInBounds_toArray, List.set_cons_zero, List.set_cons_succ]
  refine rg_call (i := 4) (get_of Hops rfl) (fun K hK => ?_)
  have HSrg := Lib.hid hS; clear hS
  refine rg_run (wanted_plain rfl) ?_
  go_simp
  refine (Compare_int_spec' x y _).mono ?_
  rintro e wr3 ⟨rfl, hbr3, hd3⟩
  have hS : Since W wr3 := bT (w := W) HSrg.out hbr3
  clear HSrg
  refine hK.out _ _ hS (fun _ => ?_)
  clear hK K
  try simp only [Act.put, List.setIfInBounds_toArray, List.set_cons_zero, List.set_cons_succ]
  refine rg_take (i := 5) (get_of Hops rfl) hS ?_
  apply Exists.intro
  apply And.intro
  · refine .inl ⟨(wanted_plain rfl), fun wq hq => ?_⟩
    clear hq
    go_simp
    try rfl
  try simp only [Act.put, List.setIfInBounds_toArray, List.set_cons_zero, List.set_cons_succ]
  refine rg_done ?_
  refine HQrg.down _ _ ?_
  have hB : Below W.heap.size W wr3 := hS
  clear hS HQrg Hops
  have D3 := Lib.hid (dT (dT (dT (dD Dw.out) hd1) hd2) hd3)
  go_wp2_with fail
  go_ret
  exact ⟨rfl, bT Bw hB, D3.out⟩
end Go.Proofs.Ytibchmofckhofaa
