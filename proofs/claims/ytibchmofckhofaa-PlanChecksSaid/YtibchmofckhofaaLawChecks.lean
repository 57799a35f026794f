/- mapsheetslaw14.PlanChecks: true. -/
import Derived.Test.YtibchmofckhofaaLawFinds
set_option linter.unusedSimpArgs false
set_option linter.unusedVariables false
namespace Go.Proofs.Ytibchmofckhofaa
open Go.RowKit

set_option maxRecDepth 100000 in
set_option maxHeartbeats 8000000 in
theorem PlanChecks_spec (v : Value) (p : Pl) (w : World) (h : PlV w v p) :
    Calls Try.prog 4 #[v] w fun e w' => e = .returned (.bool true) ∧ Below w.heap.size w w' := by
  have TFew : ∀ W, Below w.heap.size w W → Calls Try.prog 9 #[v, .int .i64 300] W _ := fun W hW => Few_spec v p 300 W (h.mono hW) (by omega)
  have HFew := Lib.hid TFew
  have HP := Lib.hid h
  have HAw := Lib.hid awake_spec
  obtain ⟨vn, va, vf, al, rfl, -⟩ := h
  clear TFew
  go_enter Try.func4, Try.ntmps4
  go_wp2_with fail
  refine (HFew.out _ (bA (bR w) _)).mono ?_
  rintro e w1 ⟨rfl, hb1⟩
  have Bw : Below w.heap.size w w1 := bT (bA (bR w) _) hb1
  have X1 : Blk w1 w.heap.size 26 #[vn, va, vf] := (Blk.made rfl _ _).keep hb1
  clear hb1
  cases hf : fewS p 300
  case false =>
    clear hf
    go_wp2_with fail
    refine (HAw.out _).mono ?_
    rintro e w2 ⟨rfl, hb2⟩
    go_wp2_with fail
    go_ret
    exact ⟨rfl, bT Bw hb2⟩
  clear hf
  try clear X1l
  try clear X1a
  try clear X1b
  try clear X1c
  try clear X1fa
  try clear X1fb
  try clear X1fc
  obtain ⟨X1l, X1a, X1b, X1c, -, -, -⟩ := X1.facts3
  go_upto_region 3 with fail
  refine rg_start (Since w1) (.take 0 1 (.take 2 5 (.call 1 7 (.call 3 15 (.take 4 31 (.take 5 63 (.call 6 127 (.take 7 255 (.take 8 511 (.done)))))))))) (by kernel_rfl) (bD (bR _)) (by kernel_rfl) (by kernel_rfl) (Nat.le_of_ble_eq_true (by kernel_rfl)) ?_
  intro opsR QR Hops HQrg hS
  refine rg_take (i := 0) (get_of Hops rfl) hS ?_
  apply Exists.intro
  apply And.intro
  · refine .inl ⟨(wanted_plain rfl), fun wq hq => ?_⟩
    have hq' : Below w1.heap.size w1 wq := hq
    obtain ⟨hqc, -⟩ := bcell hq'
    clear hq hq'
    go_simp
    try rfl
  try simp only [Act.put, List.setIfInBounds_toArray, List.set_cons_zero, List.set_cons_succ]
  refine rg_take (i := 2) (get_of Hops rfl) hS ?_
  apply Exists.intro
  apply And.intro
  · refine .inl ⟨(wanted_plain rfl), fun wq hq => ?_⟩
    have hq' : Below w1.heap.size w1 wq := hq
    obtain ⟨hqc, -⟩ := bcell hq'
    clear hq hq'
    go_simp
    try rfl
  try simp only [Act.put, List.setIfInBounds_toArray, List.set_cons_zero, List.set_cons_succ]
  refine rg_call (i := 1) (get_of Hops rfl) (fun K hK => ?_)
  have HSrg := Lib.hid hS; clear hS
  refine rg_run (wanted_plain rfl) ?_
  go_simp
  refine (Check_spec _ p _ (HP.out.mono (bT Bw HSrg.out))).mono ?_
  rintro e wr1 ⟨rfl, hbr1⟩
  have hS : Since w1 wr1 := bT (w := w1) HSrg.out hbr1
  clear HSrg
  refine hK.out _ _ hS (fun _ => ?_)
  clear hK K
  try simp only [Act.put, List.setIfInBounds_toArray, List.set_cons_zero, List.set_cons_succ]
  refine rg_call (i := 3) (get_of Hops rfl) (fun K hK => ?_)
  have HSrg := Lib.hid hS; clear hS
  refine rg_run (wanted_plain rfl) ?_
  go_simp
  refine (RCheck_spec _ p _ (HP.out.mono (bT Bw HSrg.out))).mono ?_
  rintro e wr2 ⟨rfl, hbr2⟩
  have hS : Since w1 wr2 := bT (w := w1) HSrg.out hbr2
  clear HSrg
  refine hK.out _ _ hS (fun _ => ?_)
  clear hK K
  try simp only [Act.put, List.setIfInBounds_toArray, List.set_cons_zero, List.set_cons_succ]
  refine rg_take (i := 4) (get_of Hops rfl) hS ?_
  apply Exists.intro
  apply And.intro
  · refine .inl ⟨(wanted_plain rfl), fun wq hq => ?_⟩
    clear hq
    go_simp
    try rfl
  try simp only [Act.put, List.setIfInBounds_toArray, List.set_cons_zero, List.set_cons_succ]
  refine rg_take (i := 5) (get_of Hops rfl) hS ?_
  apply Exists.intro
  apply And.intro
  · refine .inl ⟨(wanted_plain rfl), fun wq hq => ?_⟩
    clear hq
    go_simp
    try rfl
  try simp only [Act.put, List.setIfInBounds_toArray, List.set_cons_zero, List.set_cons_succ]
  refine rg_call (i := 6) (get_of Hops rfl) (fun K hK => ?_)
  have HSrg := Lib.hid hS; clear hS
  refine rg_run (wanted_yes rfl (get_of Hops rfl) rfl rfl) ?_
  go_simp
  refine (HAw.out _).mono ?_
  rintro e wr3 ⟨rfl, hbr3⟩
  have hS : Since w1 wr3 := bT (w := w1) HSrg.out hbr3
  clear HSrg
  refine hK.out _ _ hS (fun _ => ?_)
  clear hK K
  try simp only [Act.put, List.setIfInBounds_toArray, List.set_cons_zero, List.set_cons_succ]
  refine rg_take (i := 7) (get_of Hops rfl) hS ?_
  apply Exists.intro
  apply And.intro
  · refine .inl ⟨(wanted_plain rfl), fun wq hq => ?_⟩
    clear hq
    go_simp
    try rfl
  try simp only [Act.put, List.setIfInBounds_toArray, List.set_cons_zero, List.set_cons_succ]
  refine rg_take (i := 8) (get_of Hops rfl) hS ?_
  apply Exists.intro
  apply And.intro
  · refine .inl ⟨(wanted_plain rfl), fun wq hq => ?_⟩
    clear hq
    go_simp
    try rfl
  try simp only [Act.put, List.setIfInBounds_toArray, List.set_cons_zero, List.set_cons_succ]
  refine rg_done ?_
  refine HQrg.down _ _ ?_
  have hB : Below w1.heap.size w1 wr3 := hS
  clear hS HQrg Hops
  go_wp2_with fail
  go_ret
  exact ⟨rfl, bT Bw hB⟩
end Go.Proofs.Ytibchmofckhofaa
