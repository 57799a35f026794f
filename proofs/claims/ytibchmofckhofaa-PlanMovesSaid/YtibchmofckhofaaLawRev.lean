/- mapsheetslaw14.PlanReverses: true. -/
import Derived.Test.YtibchmofckhofaaRev
import Derived.Test.YtibchmofckhofaaLawFinds
set_option linter.unusedSimpArgs false
set_option linter.unusedVariables false
namespace Go.Proofs.Ytibchmofckhofaa
open Go.RowKit

theorem u8_bd {a : Int} (h : (Lit.int .u8 a).wf = true) : 0 ≤ a ∧ a ≤ 255 := by
  simp [Lit.wf, IntKind.min, IntKind.max, IntKind.signed, IntKind.bits] at h
  omega
theorem rem_facts (a : Int) (n : Nat) (ha : 0 ≤ a ∧ a ≤ 255) (hn : 0 < n) : ∃ i : Nat, i < n ∧ IntKind.i64.wrap a = a ∧ a.tmod (n : Int) = (i : Int) := by
  obtain ⟨m, rfl⟩ : ∃ m : Nat, a = m := ⟨a.toNat, by omega⟩
  exact ⟨m % n, Nat.mod_lt _ hn, IntWalk.i64_in _ (by omega), by rw [Int.tmod_eq_emod_of_nonneg (by omega)]; rfl⟩

set_option maxRecDepth 100000 in
set_option maxHeartbeats 8000000 in
theorem PlanReverses_spec (v : Value) (p : Pl) (a : Int) (w : World) (h : PlV w v p) (hu : (Lit.int .u8 a).wf = true) :
    Calls Try.prog 6 #[v, .int .u8 a] w fun e w' => e = .returned (.bool true) ∧ Below w.heap.size w w' := by
  have hab := u8_bd hu
  clear hu
  have TFew : ∀ W, Below w.heap.size w W → Calls Try.prog 9 #[v, .int .i64 100] W _ := fun W hW => Few_spec v p 100 W (h.mono hW) (by omega)
  have HFew := Lib.hid TFew
  have HP := Lib.hid h
  have HAw := Lib.hid awake_spec
  obtain ⟨vn, _, vf, al, rfl, hpa, hN, ⟨⟨Aa, ca, rfl, ha1, ha2, hRa⟩, hV⟩, hF⟩ := h
  have Hpl := Lib.hid (show p.arcs.length = al.length by rw [hpa, List.length_map])
  unfold maxLen at ha2
  clear TFew hN hRa hV hF hpa
  go_enter Try.func6, Try.ntmps6
  go_wp2_with fail
  refine (HFew.out _ (bA (bR w) _)).mono ?_
  rintro e w1 ⟨rfl, hb1⟩
  have Bw : Below w.heap.size w w1 := bT (bA (bR w) _) hb1
  have X2 : Blk w1 w.heap.size 26 #[vn, .slice Aa al.length ca, vf] := (Blk.made rfl _ _).keep hb1
  clear hb1
  cases hf : fewS p 100
  case false =>
    clear hf
    go_wp2_with fail
    refine (HAw.out _).mono ?_
    rintro e w2 ⟨rfl, hb2⟩
    go_wp2_with fail
    go_ret
    exact ⟨rfl, bT Bw hb2⟩
  have hfw := few_short hf
  have HVl := Lib.hid (via_le hfw.2.2.2)
  have hal : al.length ≤ 100 := by have := hfw.2.1; have := Hpl.out; omega
  clear hf hfw
  try clear X2l
  try clear X2a
  try clear X2b
  try clear X2c
  try clear X2fa
  try clear X2fb
  try clear X2fc
  obtain ⟨X2l, X2a, X2b, X2c, -, -, -⟩ := X2.facts3
  by_cases hz : al.length = 0
  · have hz' : ((al.length : Int) == 0) = true := beq_iff_eq.2 (by omega)
    clear hz
    go_wp2_with fail
    refine (HAw.out _).mono ?_
    rintro e w2 ⟨rfl, hb2⟩
    go_wp2_with fail
    go_ret
    exact ⟨rfl, bT Bw hb2⟩
  have hz' : ((al.length : Int) == 0) = false := beq_eq_false_iff_ne.2 (by omega)
  obtain ⟨i, hi0, hwr, hmod⟩ := rem_facts a al.length hab (by omega)
  have Hwr := Lib.hid hwr; have Hmod := Lib.hid hmod
  have hi : i < p.arcs.length := by rw [Hpl.out]; exact hi0
  have hne : ¬ al = [] := fun e => hz (by rw [e]; rfl)
  clear hz hwr hmod
  have TR : Hid (∀ W, Below w1.heap.size w1 W → Calls Try.prog 25 #[.agg #[vn, .slice Aa al.length ca, vf], .int .i64 i] W (RetPlan W (revP p i hi))) := Lib.hid fun W hW => Reversed_spec _ p i W (HP.out.mono (bT Bw hW)) hi (by have := Hpl.out; omega) (fun x hx => by have := HVl.out x hx; omega)
  have TC2 : Hid (∀ W v', PlV W v' (revP p i hi) → Calls Try.prog 21 #[v'] W fun e w' => e = .returned (.int .i64 (checkS p)) ∧ Below W.heap.size W w') := Lib.hid fun W v' hv => by
    have h := Check_spec v' (revP p i hi) W hv
    rw [check_rev] at h
    exact h
  go_upto_region 3 with fail
  have hwr := Hwr.out; have hmod := Hmod.out
  refine rg_start (Since w1) (.take 0 1 (.take 1 3 (.take 2 7 (.take 3 15 (.take 4 31 (.take 5 63 (.take 6 127 (.take 9 639 (.call 7 767 (.call 8 1023 (.call 10 2047 (.take 11 4095 (.take 12 8191 (.call 13 16383 (.take 14 32767 (.take 15 65535 (.done))))))))))))))))) (by kernel_rfl) (bD (bR _)) (by kernel_rfl) (by kernel_rfl) (Nat.le_of_ble_eq_true (by kernel_rfl)) ?_
  intro opsR QR Hops HQrg hS
  refine rg_take (i := 0) (get_of Hops rfl) hS ?_
  apply Exists.intro
  apply And.intro
  · refine .inl ⟨(wanted_plain rfl), fun wq hq => ?_⟩
    have hq' : Below w1.heap.size w1 wq := hq
    obtain ⟨hqc, -⟩ := bcell hq'
    clear hq hq'
    go_simp
    try rfl
  try simp only [Act.put, List.setIfInBounds_toArray, List.set_cons_zero, List.set_cons_succ]
  refine rg_take (i := 1) (get_of Hops rfl) hS ?_
  apply Exists.intro
  apply And.intro
  · refine .inl ⟨(wanted_plain rfl), fun wq hq => ?_⟩
    clear hq
    go_simp
    try rfl
  try simp only [Act.put, List.setIfInBounds_toArray, List.set_cons_zero, List.set_cons_succ]
  refine rg_take (i := 2) (get_of Hops rfl) hS ?_
  apply Exists.intro
  apply And.intro
  · refine .inl ⟨(wanted_plain rfl), fun wq hq => ?_⟩
    clear hq
    go_simp
    try rfl
  try simp only [Act.put, List.setIfInBounds_toArray, List.set_cons_zero, List.set_cons_succ]
  refine rg_take (i := 3) (get_of Hops rfl) hS ?_
  apply Exists.intro
  apply And.intro
  · refine .inl ⟨(wanted_plain rfl), fun wq hq => ?_⟩
    clear hq
    go_simp
    try rfl
  try simp only [Act.put, List.setIfInBounds_toArray, List.set_cons_zero, List.set_cons_succ]
  refine rg_take (i := 4) (get_of Hops rfl) hS ?_
  apply Exists.intro
  apply And.intro
  · refine .inl ⟨(wanted_plain rfl), fun wq hq => ?_⟩
    have hq' : Below w1.heap.size w1 wq := hq
    obtain ⟨hqc, -⟩ := bcell hq'
    clear hq hq'
    go_simp
    try rfl
  try simp only [Act.put, List.setIfInBounds_toArray, List.set_cons_zero, List.set_cons_succ]
  refine rg_take (i := 5) (get_of Hops rfl) hS ?_
  apply Exists.intro
  apply And.intro
  · refine .inl ⟨(wanted_plain rfl), fun wq hq => ?_⟩
    clear hq
    go_simp
    try rfl
  try simp only [Act.put, List.setIfInBounds_toArray, List.set_cons_zero, List.set_cons_succ]
  refine rg_take (i := 6) (get_of Hops rfl) hS ?_
  apply Exists.intro
  apply And.intro
  · refine .inl ⟨(wanted_plain rfl), fun wq hq => ?_⟩
    clear hq
    go_simp
    try rfl
  try simp only [Act.put, List.setIfInBounds_toArray, List.set_cons_zero, List.set_cons_succ]
  refine rg_take (i := 9) (get_of Hops rfl) hS ?_
  apply Exists.intro
  apply And.intro
  · refine .inl ⟨(wanted_plain rfl), fun wq hq => ?_⟩
    have hq' : Below w1.heap.size w1 wq := hq
    obtain ⟨hqc, -⟩ := bcell hq'
    clear hq hq'
    go_simp
    try rfl
  try simp only [Act.put, List.setIfInBounds_toArray, List.set_cons_zero, List.set_cons_succ]
  refine rg_call (i := 7) (get_of Hops rfl) (fun K hK => ?_)
  have HSrg := Lib.hid hS; clear hS
  refine rg_run (wanted_plain rfl) ?_
  go_simp
  refine (TR.out _ HSrg.out).mono ?_
  rintro e wr1 ⟨v7, rfl, hbr1, hv7⟩
  have hS : Since w1 wr1 := bT (w := w1) HSrg.out hbr1
  clear HSrg
  refine hK.out _ _ hS (fun _ => ?_)
  clear hK K
  try simp only [Act.put, List.setIfInBounds_toArray, List.set_cons_zero, List.set_cons_succ]
  refine rg_call (i := 8) (get_of Hops rfl) (fun K hK => ?_)
  have HSrg := Lib.hid hS; clear hS
  refine rg_run (wanted_plain rfl) ?_
  go_simp
  refine (TC2.out _ _ hv7).mono ?_
  rintro e wr2 ⟨rfl, hbr2⟩
  have hS : Since w1 wr2 := bT (w := w1) HSrg.out hbr2
  clear HSrg
  refine hK.out _ _ hS (fun _ => ?_)
  clear hK K
  try simp only [Act.put, List.setIfInBounds_toArray, List.set_cons_zero, List.set_cons_succ]
  refine rg_call (i := 10) (get_of Hops rfl) (fun K hK => ?_)
  have HSrg := Lib.hid hS; clear hS
  refine rg_run (wanted_plain rfl) ?_
  go_simp
  refine (Check_spec _ p _ (HP.out.mono (bT Bw HSrg.out))).mono ?_
  rintro e wr3 ⟨rfl, hbr3⟩
  have hS : Since w1 wr3 := bT (w := w1) HSrg.out hbr3
  clear HSrg
  refine hK.out _ _ hS (fun _ => ?_)
  clear hK K
  try simp only [Act.put, List.setIfInBounds_toArray, List.set_cons_zero, List.set_cons_succ]
  refine rg_take (i := 11) (get_of Hops rfl) hS ?_
  apply Exists.intro
  apply And.intro
  · refine .inl ⟨(wanted_plain rfl), fun wq hq => ?_⟩
    clear hq
    go_simp
    try rfl
  try simp only [Act.put, List.setIfInBounds_toArray, List.set_cons_zero, List.set_cons_succ]
  refine rg_take (i := 12) (get_of Hops rfl) hS ?_
  apply Exists.intro
  apply And.intro
  · refine .inl ⟨(wanted_plain rfl), fun wq hq => ?_⟩
    clear hq
    go_simp
    try rfl
  try simp only [Act.put, List.setIfInBounds_toArray, List.set_cons_zero, List.set_cons_succ]
  refine rg_call (i := 13) (get_of Hops rfl) (fun K hK => ?_)
  have HSrg := Lib.hid hS; clear hS
  refine rg_run (wanted_yes rfl (get_of Hops rfl) rfl rfl) ?_
  go_simp
  refine (HAw.out _).mono ?_
  rintro e wr4 ⟨rfl, hbr4⟩
  have hS : Since w1 wr4 := bT (w := w1) HSrg.out hbr4
  clear HSrg
  refine hK.out _ _ hS (fun _ => ?_)
  clear hK K
  try simp only [Act.put, List.setIfInBounds_toArray, List.set_cons_zero, List.set_cons_succ]
  refine rg_take (i := 14) (get_of Hops rfl) hS ?_
  apply Exists.intro
  apply And.intro
  · refine .inl ⟨(wanted_plain rfl), fun wq hq => ?_⟩
    clear hq
    go_simp
    try rfl
  try simp only [Act.put, List.setIfInBounds_toArray, List.set_cons_zero, List.set_cons_succ]
  refine rg_take (i := 15) (get_of Hops rfl) hS ?_
  apply Exists.intro
  apply And.intro
  · refine .inl ⟨(wanted_plain rfl), fun wq hq => ?_⟩
    clear hq
    go_simp
    try rfl
  try simp only [Act.put, List.setIfInBounds_toArray, List.set_cons_zero, List.set_cons_succ]
  refine rg_done ?_
  refine HQrg.down _ _ ?_
  have hB : Below w1.heap.size w1 wr4 := hS
  clear hS HQrg Hops
  go_wp2_with fail
  go_ret
  exact ⟨rfl, bT Bw hB⟩
end Go.Proofs.Ytibchmofckhofaa
