/- mapsheetslaw14.awake: true. -/
import Derived.Test.YtibchmofckhofaaEx
set_option linter.unusedSimpArgs false
set_option linter.unusedVariables false
namespace Go.Proofs.Ytibchmofckhofaa
open Go.RowKit

theorem Own.of_blk {α : Type} {w : World} {g n : Nat} {e : TypeId} {cs : Array Value} {base size : Nat} {f : α → List Value} {l : List α} (h : Blk w g e cs) (hb : base ≤ g) (hn : n = l.length) (hl : (l.flatMap f).length = l.length * size) (hx : cs.toList = l.flatMap f) (hm : n ≤ maxLen) : Own w base e size f (.slice (some ⟨g, 0, none⟩) n n) l := by
  subst hn
  unfold Own
  have hs : cs.size = l.length * size := by rw [← hl, ← hx]; simp
  exact ⟨hl, .inr ⟨g, l.length, cs, rfl, hb, h, Nat.le_refl _, hm, hs, by rw [hx, ← hl]; exact List.take_length⟩⟩

set_option maxRecDepth 100000 in
set_option maxHeartbeats 8000000 in
theorem awake_spec (w : World) : Calls Try.prog 10 #[] w fun e w' => e = .returned (.bool true) ∧ Below w.heap.size w w' := by
  have HE := Lib.hid example_spec
  go_enter Try.func10, Try.ntmps10
  go_wp2_with fail
  refine (HE.out _).mono ?_
  rintro e w1 ⟨n1, v1, a1, f1, rfl, hb1, hx1, hn1, hv1, ha1, hf1⟩
  have B1 := Lib.hid hb1
  have N1 := Lib.hid hn1; have V1 := Lib.hid hv1; have A1 := Lib.hid ha1; have F1 := Lib.hid hf1
  have l1 : n1 < w1.heap.size ∧ v1 < w1.heap.size ∧ a1 < w1.heap.size ∧ f1 < w1.heap.size := ⟨hn1.lt, hv1.lt, ha1.lt, hf1.lt⟩
  clear hb1 hn1 hv1 ha1 hf1
  unfold exV
  go_wp2_with fail
  refine (HE.out _).mono ?_
  rintro e w2 ⟨n2, v2, a2, f2, rfl, hb2, hx2, hn2, hv2, ha2, hf2⟩
  have B2 := Lib.hid hb2
  have N2 := Lib.hid hn2; have V2 := Lib.hid hv2; have A2 := Lib.hid ha2; have F2 := Lib.hid hf2
  have l2 : n2 < w2.heap.size ∧ v2 < w2.heap.size ∧ a2 < w2.heap.size ∧ f2 < w2.heap.size := ⟨hn2.lt, hv2.lt, ha2.lt, hf2.lt⟩
  clear hb2 hn2 hv2 ha2 hf2
  unfold exV
  go_wp2_with fail
  refine (HE.out _).mono ?_
  rintro e w3 ⟨n3, v3, a3, f3, rfl, hb3, hx3, hn3, hv3, ha3, hf3⟩
  have B3 := Lib.hid hb3
  have N3 := Lib.hid hn3; have V3 := Lib.hid hv3; have A3 := Lib.hid ha3; have F3 := Lib.hid hf3
  have l3 : n3 < w3.heap.size ∧ v3 < w3.heap.size ∧ a3 < w3.heap.size ∧ f3 < w3.heap.size := ⟨hn3.lt, hv3.lt, ha3.lt, hf3.lt⟩
  clear hb3 hn3 hv3 ha3 hf3
  unfold exV
  go_wp2_with fail
  refine (HE.out _).mono ?_
  rintro e w4 ⟨n4, v4, a4, f4, rfl, hb4, hx4, hn4, hv4, ha4, hf4⟩
  have B4 := Lib.hid hb4
  have N4 := Lib.hid hn4; have V4 := Lib.hid hv4; have A4 := Lib.hid ha4; have F4 := Lib.hid hf4
  have l4 : n4 < w4.heap.size ∧ v4 < w4.heap.size ∧ a4 < w4.heap.size ∧ f4 < w4.heap.size := ⟨hn4.lt, hv4.lt, ha4.lt, hf4.lt⟩
  clear hb4 hn4 hv4 ha4 hf4
  unfold exV
  have hz1 := B1.out.size
  have hz2 := B2.out.size
  have hz3 := B3.out.size
  have hz4 := B4.out.size
  have hzw := hz1
  go_upto_region 2 with fail
  obtain ⟨W5, hW5⟩ : ∃ W5 : World, W5 = (((w4.alloc (.cells #[.slice (some ⟨n1, 0, none⟩) 1 1, .slice (some ⟨a1, 0, none⟩) 1 1, .slice (some ⟨f1, 0, none⟩) 1 1] 26)).alloc (.cells #[.slice (some ⟨n2, 0, none⟩) 1 1, .slice (some ⟨a2, 0, none⟩) 1 1, .slice (some ⟨f2, 0, none⟩) 1 1] 26)).alloc (.cells #[.slice (some ⟨n3, 0, none⟩) 1 1, .slice (some ⟨a3, 0, none⟩) 1 1, .slice (some ⟨f3, 0, none⟩) 1 1] 26)).alloc (.cells #[.slice (some ⟨n4, 0, none⟩) 1 1, .slice (some ⟨a4, 0, none⟩) 1 1, .slice (some ⟨f4, 0, none⟩) 1 1] 26) := ⟨_, rfl⟩
  have hA5 : Below w4.heap.size w4 W5 := by rw [hW5]; exact bA (bA (bA (bA (bR w4) _) _) _) _
  have hs5 : W5.heap.size = w4.heap.size + 4 := by rw [hW5]; simp
  have T1 : Blk W5 w4.heap.size 26 #[.slice (some ⟨n1, 0, none⟩) 1 1, .slice (some ⟨a1, 0, none⟩) 1 1, .slice (some ⟨f1, 0, none⟩) 1 1] := by rw [hW5]; exact (((Blk.made rfl _ _).alloc _).alloc _).alloc _
  have T2 : Blk W5 (w4.heap.size + 1) 26 #[.slice (some ⟨n2, 0, none⟩) 1 1, .slice (some ⟨a2, 0, none⟩) 1 1, .slice (some ⟨f2, 0, none⟩) 1 1] := by rw [hW5]; exact ((Blk.made (by simp) _ _).alloc _).alloc _
  have T3 : Blk W5 (w4.heap.size + 1 + 1) 26 #[.slice (some ⟨n3, 0, none⟩) 1 1, .slice (some ⟨a3, 0, none⟩) 1 1, .slice (some ⟨f3, 0, none⟩) 1 1] := by rw [hW5]; exact (Blk.made (by simp) _ _).alloc _
  have T4 : Blk W5 (w4.heap.size + 1 + 1 + 1) 26 #[.slice (some ⟨n4, 0, none⟩) 1 1, .slice (some ⟨a4, 0, none⟩) 1 1, .slice (some ⟨f4, 0, none⟩) 1 1] := by rw [hW5]; exact Blk.made (by simp) _ _
  rw [← hW5]
  have BW5 := Lib.hid (bT (bT (bT (bT B1.out B2.out) B3.out) B4.out) hA5)
  have HB45 := Lib.hid hA5
  have HK1 : Hid (∀ g t cs, Blk w1 g t cs → Blk W5 g t cs) := Lib.hid fun g t cs h => (((h.keep B2.out).keep B3.out).keep B4.out).keep hA5
  have HK2 : Hid (∀ g t cs, Blk w2 g t cs → Blk W5 g t cs) := Lib.hid fun g t cs h => ((h.keep B3.out).keep B4.out).keep hA5
  have HK3 : Hid (∀ g t cs, Blk w3 g t cs → Blk W5 g t cs) := Lib.hid fun g t cs h => (h.keep B4.out).keep hA5
  have HK4 : Hid (∀ g t cs, Blk w4 g t cs → Blk W5 g t cs) := Lib.hid fun g t cs h => h.keep hA5
  have HT1 := Lib.hid T1; have HT2 := Lib.hid T2; have HT3 := Lib.hid T3; have HT4 := Lib.hid T4
  clear hW5 hA5 T1 T3 T4
  try clear T2l
  try clear T2a
  try clear T2b
  try clear T2c
  try clear T2fa
  try clear T2fb
  try clear T2fc
  obtain ⟨T2l, T2a, T2b, T2c, T2fa, T2fb, T2fc⟩ := T2.facts3
  have HS5 := Lib.hid hs5
  clear hs5
  go_upto_region 3 with
    (at_builtin
     refine wpList_appl _ rfl (.tmp 16) (.tmp 19) _ rfl (base := n2) elem_nd ndC_len ndC_one rfl (Own.of_blk (l := [(⟨1, ⟨0, 0⟩⟩ : Nd)]) ((HK2.out _ _ _ N2.out).alloc _) (Nat.le_refl _) rfl rfl rfl (le_maxLen (by omega))) rfl (l2 := [(⟨2, ⟨10, 5⟩⟩ : Nd)]) (Sl.lit (n := 1) (Blk.made (by have := HS5.out; omega) _ _) rfl (le_maxLen (by omega))) (by simp only [List.length_cons, List.length_nil]; omega) (by simp only [List.length_cons, List.length_nil]; omega) (by have := HS5.out; simp; omega) ?_
     intro v5 w5 ho5 hg5 hat5
     replace ho5 : Own w5 n2 32 3 ndC v5 exQ.nodes := ho5
     have hs5 : Sl w5 v5 2 (exQ.nodes.flatMap ndC) := Own.sl ho5
     obtain ⟨A5, c5, rfl, h52, h5c, -⟩ := hs5
     have HO5 := Lib.hid ho5
     have HG5 := Lib.hid hg5
     have HAt5 := Lib.hid hat5
     have T2' := (HT2.out.alloc (.cells #[.int .i64 2, .int .i64 10, .int .i64 5] 32)).grown hg5 (fun e => by have h := Option.some.inj e; change w4.heap.size + 1 = n2 at h; omega)
     clear T2 T2l T2a T2b T2c T2fa T2fb T2fc ho5 hg5 hat5
     obtain ⟨T2'l, T2'a, -, -, T2'fa, -, -⟩ := T2'.facts3
     clear T2')
  obtain ⟨W7, hW7⟩ : ∃ W7 : World, W7 = w5.setCell ⟨w4.heap.size + 1, 0, none⟩ (.slice A5 2 c5) := ⟨_, rfl⟩
  have HK7 : Hid (∀ g t cs, g ≠ n2 → g ≠ w4.heap.size + 1 → Blk W5 g t cs → Blk W7 g t cs) := Lib.hid fun g t cs h1 h2 h => by
    rw [hW7]
    exact Blk.far (Blk.grown (h.alloc (.cells #[.int .i64 2, .int .i64 10, .int .i64 5] 32)) HG5.out (fun e => by have h := Option.some.inj e; exact h1 h)) h2 _
  have HT2' : Hid (Blk W7 (w4.heap.size + 1) 26 #[.slice A5 2 c5, .slice (some ⟨a2, 0, none⟩) 1 1, .slice (some ⟨f2, 0, none⟩) 1 1]) := Lib.hid (by
    rw [hW7]
    have h := Blk.set_ (Blk.grown (HT2.out.alloc (.cells #[.int .i64 2, .int .i64 10, .int .i64 5] 32)) HG5.out (fun e => by have h := Option.some.inj e; change w4.heap.size + 1 = n2 at h; omega)) 0 (.slice A5 2 c5)
    simpa using h)
  have HOB : Hid (∀ g, (Value.slice A5 2 c5).ownBlock = some g → g = n2 ∨ w4.heap.size + 4 ≤ g) := Lib.hid fun g e => by
    rcases HAt5.out with h | h
    · rw [h] at e; have h := Option.some.inj e; change n2 = g at h; omega
    · rw [h] at e; have h := Option.some.inj e; have := HS5.out; simp at h; omega
  have HNq : Hid (Own W7 n2 32 3 ndC (.slice A5 2 c5) exQ.nodes) := Lib.hid (by
    rw [hW7]
    exact HO5.out.far (p := ⟨w4.heap.size + 1, 0, none⟩) (fun e => by have := HOB.out _ e; simp at this; omega) _)
  have hB7 : Below w1.heap.size w1 W7 := by
    rw [hW7]
    exact ((bG (bA (bT (bT (bT B2.out B3.out) B4.out) HB45.out) _) HG5.out (fun g hg => by have h := Option.some.inj hg; change n2 = g at h; omega))).setCell (p := ⟨w4.heap.size + 1, 0, none⟩) (by simp; omega) _
  have hAp : Below w4.heap.size w4 W7 → True := fun _ => trivial
  rw [← hW7]
  have HB7 := Lib.hid hB7
  have hl7 : w4.heap.size + 4 ≤ W7.heap.size := by
    have h1 := HG5.out.size
    have h2 := HS5.out
    rw [hW7]
    simp at h1 ⊢
    omega
  have hT3 := HK7.out _ _ _ (by omega) (by omega) HT3.out
  have hA3 := HK7.out _ _ _ (by omega) (by omega) (HK3.out _ _ _ A3.out)
  have HA3 := Lib.hid hA3
  clear hW7 hB7 hAp T2'l T2'a T2'fa h52
  unfold exAr at hA3
  try clear hT3l
  try clear hT3a
  try clear hT3b
  try clear hT3c
  try clear hT3fa
  try clear hT3fb
  try clear hT3fc
  obtain ⟨hT3l, hT3a, hT3b, hT3c, -, -, -⟩ := hT3.facts3
  try clear hA3l
  try clear hA3a
  try clear hA3b
  try clear hA3c
  try clear hA3d
  try clear hA3e
  try clear hA3f
  try clear hA3fa
  try clear hA3fb
  try clear hA3fc
  try clear hA3fd
  try clear hA3fe
  try clear hA3ff
  obtain ⟨hA3l, hA3a, hA3b, hA3c, hA3d, hA3e, hA3f, hA3fa, hA3fb, hA3fc, hA3fd, hA3fe, hA3ff⟩ := hA3.facts6
  go_upto_region 4 with fail
  obtain ⟨W8, hW8⟩ : ∃ W8 : World, W8 = W7.setCell ⟨a3, 4, none⟩ (.int .i64 2) := ⟨_, rfl⟩
  rw [← hW8]
  have HK8 : Hid (∀ g t cs, g ≠ a3 → Blk W7 g t cs → Blk W8 g t cs) := Lib.hid fun g t cs h1 h => by
    rw [hW8]; exact h.far h1 _
  have HA3' : Hid (Blk W8 a3 37 (exAr v3 3 3 2)) := Lib.hid (by
    rw [hW8]
    have h := Blk.set_ hA3 4 (.int .i64 2)
    unfold exAr
    simpa using h)
  have HB8 : Hid (Below w1.heap.size w1 W8) := Lib.hid (by
    rw [hW8]
    exact HB7.out.setCell (p := ⟨a3, 4, none⟩) (by simp; omega) _)
  have HNq8 : Hid (Own W8 n2 32 3 ndC (.slice A5 2 c5) exQ.nodes) := Lib.hid (by
    rw [hW8]
    exact HNq.out.far (p := ⟨a3, 4, none⟩) (fun e => by have := HOB.out _ e; simp at this; omega) _)
  have hl8 : w4.heap.size + 4 ≤ W8.heap.size := by rw [hW8]; simp; omega
  clear hW8 hT3 hA3 hT3l hT3a hT3b hT3c hA3l hA3a hA3b hA3c hA3d hA3e hA3f hA3fa hA3fb hA3fc hA3fd hA3fe hA3ff
  have hT4 := HK8.out _ _ _ (by omega) (HK7.out _ _ _ (by omega) (by omega) HT4.out)
  have hA4 := HK8.out _ _ _ (by omega) (HK7.out _ _ _ (by omega) (by omega) (HK4.out _ _ _ A4.out))
  have HA4 := Lib.hid hA4
  unfold exAr at hA4
  try clear hT4l
  try clear hT4a
  try clear hT4b
  try clear hT4c
  try clear hT4fa
  try clear hT4fb
  try clear hT4fc
  obtain ⟨hT4l, hT4a, hT4b, hT4c, -, -, -⟩ := hT4.facts3
  try clear hA4l
  try clear hA4a
  try clear hA4b
  try clear hA4c
  try clear hA4d
  try clear hA4e
  try clear hA4f
  try clear hA4fa
  try clear hA4fb
  try clear hA4fc
  try clear hA4fd
  try clear hA4fe
  try clear hA4ff
  obtain ⟨hA4l, hA4a, hA4b, hA4c, hA4d, hA4e, hA4f, hA4fa, hA4fb, hA4fc, hA4fd, hA4fe, hA4ff⟩ := hA4.facts6
  have hne4 : ¬ w4.heap.size + 1 + 1 + 1 = a4 := by omega
  refine rg_start (SinceX W8 (some a4)) (.take 0 1 (.take 1 3 (.take 2 7 (.take 3 15 (.take 4 31 (.take 5 63 (.call 6 127 (.take 7 255 (.take 8 511 (.take 9 1023 (.call 10 2047 (.done)))))))))))) (by kernel_rfl) (gD (gR _ _)) (by kernel_rfl) (by kernel_rfl) (Nat.le_of_ble_eq_true (by kernel_rfl)) ?_
  intro opsR QR Hops HQrg hS
  refine rg_take (i := 0) (get_of Hops rfl) hS ?_
  apply Exists.intro
  apply And.intro
  · refine .inl ⟨(wanted_plain rfl), fun wq hq => ?_⟩
    clear hq
    go_simp
    try rfl
  try simp only [Act.put, List.setIfInBounds_toArray, List.set_cons_zero, List.set_cons_succ]
  refine rg_take (i := 1) (get_of Hops rfl) hS ?_
  apply Exists.intro
  apply And.intro
  · refine .inl ⟨(wanted_plain rfl), fun wq hq => ?_⟩
    have hq' : W8.grownBy wq (some a4) := hq
    obtain ⟨hqc, -⟩ := xcell hq'
    clear hq hq'
    go_simp
    try rfl
  try simp only [Act.put, List.setIfInBounds_toArray, List.set_cons_zero, List.set_cons_succ]
  refine rg_take (i := 2) (get_of Hops rfl) hS ?_
  apply Exists.intro
  apply And.intro
  · refine .inl ⟨(wanted_plain rfl), fun wq hq => ?_⟩
    clear hq
    go_simp
    try rfl
  try simp only [Act.put, List.setIfInBounds_toArray, List.set_cons_zero, List.set_cons_succ]
  refine rg_take (i := 3) (get_of Hops rfl) hS ?_
  apply Exists.intro
  apply And.intro
  · refine .inl ⟨(wanted_plain rfl), fun wq hq => ?_⟩
    have hq' : W8.grownBy wq (some a4) := hq
    obtain ⟨hqc, -⟩ := xcell hq'
    clear hq hq'
    go_simp
    try rfl
  try simp only [Act.put, List.setIfInBounds_toArray, List.set_cons_zero, List.set_cons_succ]
  refine rg_take (i := 4) (get_of Hops rfl) hS ?_
  apply Exists.intro
  apply And.intro
  · refine .inl ⟨(wanted_plain rfl), fun wq hq => ?_⟩
    clear hq
    go_simp
    try rfl
  try simp only [Act.put, List.setIfInBounds_toArray, List.set_cons_zero, List.set_cons_succ]
  refine rg_take (i := 5) (get_of Hops rfl) hS ?_
  apply Exists.intro
  apply And.intro
  · refine .inl ⟨(wanted_plain rfl), fun wq hq => ?_⟩
    clear hq
    go_simp
    try rfl
  try simp only [Act.put, List.setIfInBounds_toArray, List.set_cons_zero, List.set_cons_succ]
  refine rg_call (i := 6) (get_of Hops rfl) (fun K hK => ?_)
  have HSrg := Lib.hid hS; clear hS
  refine rg_run (wanted_plain rfl) ?_
  go_simp
  refine hK.out _ _ HSrg.out (fun hS => ?_)
  clear hK K HSrg
  try simp only [Act.put, List.setIfInBounds_toArray, List.set_cons_zero, List.set_cons_succ]
  refine rg_take (i := 7) (get_of Hops rfl) hS ?_
  apply Exists.intro
  apply And.intro
  · refine .inl ⟨(wanted_plain rfl), fun wq hq => ?_⟩
    clear hq
    go_simp
    try rfl
  try simp only [Act.put, List.setIfInBounds_toArray, List.set_cons_zero, List.set_cons_succ]
  refine rg_take (i := 8) (get_of Hops rfl) hS ?_
  apply Exists.intro
  apply And.intro
  · refine .inl ⟨(wanted_plain rfl), fun wq hq => ?_⟩
    clear hq
    go_simp
    try rfl
  try simp only [Act.put, List.setIfInBounds_toArray, List.set_cons_zero, List.set_cons_succ]
  refine rg_take (i := 9) (get_of Hops rfl) hS ?_
  apply Exists.intro
  apply And.intro
  · refine .inl ⟨(wanted_plain rfl), fun wq hq => ?_⟩
    clear hq
    go_simp
    try rfl
  try simp only [Act.put, List.setIfInBounds_toArray, List.set_cons_zero, List.set_cons_succ]
  refine rg_call (i := 10) (get_of Hops rfl) (fun K hK => ?_)
  have HSrg := Lib.hid hS; clear hS
  refine rg_run (wanted_plain rfl) ?_
  go_simp
  refine hK.out _ _ (gS HSrg.out _ _) (fun hS => ?_)
  clear hK K HSrg
  try simp only [Act.put, List.setIfInBounds_toArray, List.set_cons_zero, List.set_cons_succ]
  refine rg_done ?_
  refine HQrg.down _ _ ?_
  have hB : W8.grownBy _ (some a4) := hS
  clear hS HQrg Hops
  obtain ⟨W9, hW9⟩ : ∃ W9 : World, W9 = (W8.setCell ⟨a4, 3, none⟩ (.slice (some ⟨v4, 0, none⟩) 1 3)).drew := ⟨_, rfl⟩
  rw [← hW9]
  have HK9 : Hid (∀ g t cs, g ≠ a4 → Blk W8 g t cs → Blk W9 g t cs) := Lib.hid fun g t cs h1 h => by
    rw [hW9]; exact (h.far h1 _).drew
  have HA4' : Hid (Blk W9 a4 37 (exAr v4 1 3 1)) := Lib.hid (by
    rw [hW9]
    have h := Blk.set_ hA4 3 (.slice (some ⟨v4, 0, none⟩) 1 3)
    refine Blk.drew ?_
    unfold exAr
    simpa using h)
  have HNq9 : Hid (Own W9 n2 32 3 ndC (.slice A5 2 c5) exQ.nodes) := Lib.hid (by
    rw [hW9]
    exact HNq8.out.far (p := ⟨a4, 3, none⟩) (fun e => by have := HOB.out _ e; simp at this; omega) _)
  have BW9 : Below w.heap.size w W9 := by
    rw [hW9]
    exact bT B1.out ((HB8.out.setCell (p := ⟨a4, 3, none⟩) (by simp; omega) _).drew)
  clear hB hW9 hT4 hA4 hT4l hT4a hT4b hT4c hA4l hA4a hA4b hA4c hA4d hA4e hA4f hA4fa hA4fb hA4fc hA4fd hA4fe hA4ff
  have P1 : PlV W9 (.agg #[.slice (some ⟨n1, 0, none⟩) 1 1, .slice (some ⟨a1, 0, none⟩) 1 1, .slice (some ⟨f1, 0, none⟩) 1 1]) exP := by
    have K : ∀ g t cs, g < w1.heap.size → Blk w1 g t cs → Blk W9 g t cs := fun g t cs h0 h => HK9.out _ _ _ (by omega) (HK8.out _ _ _ (by omega) (HK7.out _ _ _ (by omega) (by omega) (HK1.out _ _ _ h)))
    exact PlV.ex (exN_nds (K _ _ _ l1.1 N1.out)) (K _ _ _ l1.2.2.1 A1.out) (exVs_pts (K _ _ _ l1.2.1 V1.out)) (K _ _ _ l1.2.2.2 F1.out)
  have P2 : PlV W9 (.agg #[.slice A5 2 c5, .slice (some ⟨a2, 0, none⟩) 1 1, .slice (some ⟨f2, 0, none⟩) 1 1]) exQ := by
    have K : ∀ g t cs, g ≠ n2 → g < w2.heap.size → Blk w2 g t cs → Blk W9 g t cs := fun g t cs hn h0 h => HK9.out _ _ _ (by omega) (HK8.out _ _ _ (by omega) (HK7.out _ _ _ hn (by omega) (HK2.out _ _ _ h)))
    have q1 := Blk.ne_ A2.out N2.out (by decide)
    have q2 := Blk.ne_ V2.out N2.out (by decide)
    have q3 := Blk.ne_ F2.out N2.out (by decide)
    exact PlV.ex (Own.sl HNq9.out) (K _ _ _ q1 l2.2.2.1 A2.out) (exVs_pts (K _ _ _ q2 l2.2.1 V2.out)) (K _ _ _ q3 l2.2.2.2 F2.out)
  have P3 : PlV W9 (.agg #[.slice (some ⟨n3, 0, none⟩) 1 1, .slice (some ⟨a3, 0, none⟩) 1 1, .slice (some ⟨f3, 0, none⟩) 1 1]) exS := by
    have K : ∀ g t cs, g ≠ a3 → g < w3.heap.size ∧ w2.heap.size ≤ g → Blk w3 g t cs → Blk W9 g t cs := fun g t cs hn h0 h => HK9.out _ _ _ (by omega) (HK8.out _ _ _ hn (HK7.out _ _ _ (by omega) (by omega) (HK3.out _ _ _ h)))
    have q1 := Blk.ne_ N3.out A3.out (by decide)
    have q2 := Blk.ne_ V3.out A3.out (by decide)
    have q3 := Blk.ne_ F3.out A3.out (by decide)
    exact PlV.ex (exN_nds (K _ _ _ q1 (by omega) N3.out)) (HK9.out _ _ _ (by omega) HA3'.out) (exVs_pts (K _ _ _ q2 (by omega) V3.out)) (K _ _ _ q3 (by omega) F3.out)
  have P4 : PlV W9 (.agg #[.slice (some ⟨n4, 0, none⟩) 1 1, .slice (some ⟨a4, 0, none⟩) 1 1, .slice (some ⟨f4, 0, none⟩) 1 1]) exT := by
    have K : ∀ g t cs, g ≠ a4 → g < w4.heap.size ∧ w3.heap.size ≤ g → Blk w4 g t cs → Blk W9 g t cs := fun g t cs hn h0 h => HK9.out _ _ _ hn (HK8.out _ _ _ (by omega) (HK7.out _ _ _ (by omega) (by omega) (HK4.out _ _ _ h)))
    have q1 := Blk.ne_ N4.out A4.out (by decide)
    have q2 := Blk.ne_ V4.out A4.out (by decide)
    have q3 := Blk.ne_ F4.out A4.out (by decide)
    exact PlV.ex (exN_nds (K _ _ _ q1 (by omega) N4.out)) HA4'.out (exVs_one (K _ _ _ q2 (by omega) V4.out)) (K _ _ _ q3 (by omega) F4.out)
  have T1 := HK9.out _ _ _ (by omega) (HK8.out _ _ _ (by omega) (HK7.out _ _ _ (by omega) (by omega) HT1.out))
  have T2 := HK9.out _ _ _ (by omega) (HK8.out _ _ _ (by omega) HT2'.out)
  have T3 := HK9.out _ _ _ (by omega) (HK8.out _ _ _ (by omega) (HK7.out _ _ _ (by omega) (by omega) HT3.out))
  have T4 := HK9.out _ _ _ (by omega) (HK8.out _ _ _ (by omega) (HK7.out _ _ _ (by omega) (by omega) HT4.out))
  have HP1 := Lib.hid P1; have HP2 := Lib.hid P2; have HP3 := Lib.hid P3; have HP4 := Lib.hid P4
  have HBW := Lib.hid BW9
  clear P1 P2 P3 P4 BW9 HK1 HK2 HK3 HK4 HK7 HK8 HK9 HA3 HA3' HA4 HA4' HNq HNq8 HNq9 HT1 HT2 HT2' HT3 HT4 HOB HO5 HG5 HAt5 HS5 HB7 HB8 HB45 BW5 B2 B3 B4 N1 N2 N3 N4 V1 V2 V3 V4 A1 A2 A3 A4 F1 F2 F3 F4 hne4 hl7 hl8 hzw
  try clear B1
  have hsP : Short exP := fun a ha => by
    have : a = ⟨1, 1, 1, exVia, 1, 0⟩ := by simpa [exP] using ha
    subst this; decide
  have TPath : Hid (∀ W, Below W9.heap.size W9 W → Calls Try.prog 15 #[.agg #[.slice (some ⟨n1, 0, none⟩) 1 1, .slice (some ⟨a1, 0, none⟩) 1 1, .slice (some ⟨f1, 0, none⟩) 1 1], .int .i64 1] W fun e w' => ∃ A c, e = .returned (.tuple #[.slice A 5 c, .int .i64 0]) ∧ Below W.heap.size W w' ∧ Pts w' (.slice A 5 c) [⟨0, 0⟩, ⟨10, 0⟩, ⟨10, 10⟩, ⟨0, 10⟩, ⟨0, 0⟩]) := Lib.hid fun W hW => (show Calls _ _ _ _ (RetPathE W (some [⟨0, 0⟩, ⟨10, 0⟩, ⟨10, 10⟩, ⟨0, 10⟩, ⟨0, 0⟩])) from (by have h := Path_spec (.agg #[.slice (some ⟨n1, 0, none⟩) 1 1, .slice (some ⟨a1, 0, none⟩) 1 1, .slice (some ⟨f1, 0, none⟩) 1 1]) exP 1 W (HP1.out.mono hW) hsP; rw [ex_path] at h; exact h)).mono fun e w' h => by obtain ⟨A, c, rfl, hb, ho⟩ := h; exact ⟨A, c, rfl, hb, Own.sl ho⟩
  have TNode : Hid (∀ W, Below W9.heap.size W9 W → Calls Try.prog 11 #[.agg #[.slice A5 2 c5, .slice (some ⟨a2, 0, none⟩) 1 1, .slice (some ⟨f2, 0, none⟩) 1 1], .int .i64 2] W fun e w' => e = .returned (.tuple #[.agg #[.int .i64 2, .int .i64 10, .int .i64 5], .bool true]) ∧ Below W.heap.size W w') := Lib.hid fun W hW => (by have h := Node_spec (.agg #[.slice A5 2 c5, .slice (some ⟨a2, 0, none⟩) 1 1, .slice (some ⟨f2, 0, none⟩) 1 1]) exQ 2 W (HP2.out.mono hW); rw [ex_node] at h; exact h)
  have TArc : Hid (∀ W, Below W9.heap.size W9 W → Calls Try.prog 13 #[.agg #[.slice (some ⟨n1, 0, none⟩) 1 1, .slice (some ⟨a1, 0, none⟩) 1 1, .slice (some ⟨f1, 0, none⟩) 1 1], .int .i64 2] W fun e w' => ∃ A c, e = .returned (.tuple #[.agg #[.int .i64 0, .int .i64 0, .int .i64 0, .slice A 0 c, .int .i64 0, .int .i64 0], .bool false]) ∧ Below W.heap.size W w') := Lib.hid fun W hW => (show Calls _ _ _ _ (ArRes W none) from (by have h := Arc_spec (.agg #[.slice (some ⟨n1, 0, none⟩) 1 1, .slice (some ⟨a1, 0, none⟩) 1 1, .slice (some ⟨f1, 0, none⟩) 1 1]) exP 2 W (HP1.out.mono hW) hsP; rw [ex_arc] at h; exact h)).mono fun e w' h => by obtain ⟨v', rfl, hb, ho⟩ := h; obtain ⟨A, c, rfl, -⟩ := ho; exact ⟨A, c, rfl, hb⟩
  have TC0 : Hid (∀ W, Below W9.heap.size W9 W → Calls Try.prog 21 #[.agg #[.slice none 0 0, .slice none 0 0, .slice none 0 0]] W fun e w' => e = .returned (.int .i64 0) ∧ Below W.heap.size W w') := Lib.hid fun W hW => (by have h := Check_spec (.agg #[.slice none 0 0, .slice none 0 0, .slice none 0 0]) pl0 W (PlV.zero W); rw [ex_c0] at h; exact h)
  have TC1 : Hid (∀ W, Below W9.heap.size W9 W → Calls Try.prog 21 #[.agg #[.slice (some ⟨n1, 0, none⟩) 1 1, .slice (some ⟨a1, 0, none⟩) 1 1, .slice (some ⟨f1, 0, none⟩) 1 1]] W fun e w' => e = .returned (.int .i64 0) ∧ Below W.heap.size W w') := Lib.hid fun W hW => (by have h := Check_spec (.agg #[.slice (some ⟨n1, 0, none⟩) 1 1, .slice (some ⟨a1, 0, none⟩) 1 1, .slice (some ⟨f1, 0, none⟩) 1 1]) exP W (HP1.out.mono hW); rw [ex_cP] at h; exact h)
  have TC2 : Hid (∀ W, Below W9.heap.size W9 W → Calls Try.prog 21 #[.agg #[.slice A5 2 c5, .slice (some ⟨a2, 0, none⟩) 1 1, .slice (some ⟨f2, 0, none⟩) 1 1]] W fun e w' => e = .returned (.int .i64 11) ∧ Below W.heap.size W w') := Lib.hid fun W hW => (by have h := Check_spec (.agg #[.slice A5 2 c5, .slice (some ⟨a2, 0, none⟩) 1 1, .slice (some ⟨f2, 0, none⟩) 1 1]) exQ W (HP2.out.mono hW); rw [ex_cQ] at h; exact h)
  have TC3 : Hid (∀ W, Below W9.heap.size W9 W → Calls Try.prog 21 #[.agg #[.slice (some ⟨n3, 0, none⟩) 1 1, .slice (some ⟨a3, 0, none⟩) 1 1, .slice (some ⟨f3, 0, none⟩) 1 1]] W fun e w' => e = .returned (.int .i64 12) ∧ Below W.heap.size W w') := Lib.hid fun W hW => (by have h := Check_spec (.agg #[.slice (some ⟨n3, 0, none⟩) 1 1, .slice (some ⟨a3, 0, none⟩) 1 1, .slice (some ⟨f3, 0, none⟩) 1 1]) exS W (HP3.out.mono hW); rw [ex_cS] at h; exact h)
  have TC4 : Hid (∀ W, Below W9.heap.size W9 W → Calls Try.prog 21 #[.agg #[.slice (some ⟨n4, 0, none⟩) 1 1, .slice (some ⟨a4, 0, none⟩) 1 1, .slice (some ⟨f4, 0, none⟩) 1 1]] W fun e w' => e = .returned (.int .i64 11) ∧ Below W.heap.size W w') := Lib.hid fun W hW => (by have h := Check_spec (.agg #[.slice (some ⟨n4, 0, none⟩) 1 1, .slice (some ⟨a4, 0, none⟩) 1 1, .slice (some ⟨f4, 0, none⟩) 1 1]) exT W (HP4.out.mono hW); rw [ex_cT] at h; exact h)
  have TDeg : Hid (∀ W, Below W9.heap.size W9 W → Calls Try.prog 19 #[.agg #[.slice (some ⟨n1, 0, none⟩) 1 1, .slice (some ⟨a1, 0, none⟩) 1 1, .slice (some ⟨f1, 0, none⟩) 1 1], .int .i64 1] W fun e w' => e = .returned (.int .i64 2) ∧ Below W.heap.size W w') := Lib.hid fun W hW => (by have h := Degree_spec (.agg #[.slice (some ⟨n1, 0, none⟩) 1 1, .slice (some ⟨a1, 0, none⟩) 1 1, .slice (some ⟨f1, 0, none⟩) 1 1]) exP 1 W (HP1.out.mono hW) (by decide); rw [ex_d] at h; exact h)
  have TB1 : Hid (∀ W, Below W9.heap.size W9 W → Calls Try.prog 29 #[.agg #[.slice (some ⟨n1, 0, none⟩) 1 1, .slice (some ⟨a1, 0, none⟩) 1 1, .slice (some ⟨f1, 0, none⟩) 1 1]] W fun e w' => e = .returned (.agg #[.int .i64 0, .int .i64 0, .int .i64 10, .int .i64 10]) ∧ Below W.heap.size W w') := Lib.hid fun W hW => (by have h := Bounds_spec (.agg #[.slice (some ⟨n1, 0, none⟩) 1 1, .slice (some ⟨a1, 0, none⟩) 1 1, .slice (some ⟨f1, 0, none⟩) 1 1]) exP W (HP1.out.mono hW); rw [ex_bP] at h; exact h)
  have TB0 : Hid (∀ W, Below W9.heap.size W9 W → Calls Try.prog 29 #[.agg #[.slice none 0 0, .slice none 0 0, .slice none 0 0]] W fun e w' => e = .returned (.agg #[.int .i64 0, .int .i64 0, .int .i64 (-1), .int .i64 (-1)]) ∧ Below W.heap.size W w') := Lib.hid fun W hW => (by have h := Bounds_spec (.agg #[.slice none 0 0, .slice none 0 0, .slice none 0 0]) pl0 W (PlV.zero W); rw [ex_b0] at h; exact h)
  have TS1 : Hid (∀ W v, Below W9.heap.size W9 W → PlV W v exP → Calls Try.prog 30 #[.agg #[.slice (some ⟨n1, 0, none⟩) 1 1, .slice (some ⟨a1, 0, none⟩) 1 1, .slice (some ⟨f1, 0, none⟩) 1 1], v] W fun e w' => e = .returned (.bool true) ∧ Below W.heap.size W w') := Lib.hid fun W v hW hv => (by have h := Same_spec (.agg #[.slice (some ⟨n1, 0, none⟩) 1 1, .slice (some ⟨a1, 0, none⟩) 1 1, .slice (some ⟨f1, 0, none⟩) 1 1]) v exP exP W (HP1.out.mono hW) hv; rw [ex_same] at h; exact h)
  have TS2 : Hid (∀ W, Below W9.heap.size W9 W → Calls Try.prog 30 #[.agg #[.slice (some ⟨n1, 0, none⟩) 1 1, .slice (some ⟨a1, 0, none⟩) 1 1, .slice (some ⟨f1, 0, none⟩) 1 1], .agg #[.slice A5 2 c5, .slice (some ⟨a2, 0, none⟩) 1 1, .slice (some ⟨f2, 0, none⟩) 1 1]] W fun e w' => e = .returned (.bool false) ∧ Below W.heap.size W w') := Lib.hid fun W hW => (by have h := Same_spec (.agg #[.slice (some ⟨n1, 0, none⟩) 1 1, .slice (some ⟨a1, 0, none⟩) 1 1, .slice (some ⟨f1, 0, none⟩) 1 1]) (.agg #[.slice A5 2 c5, .slice (some ⟨a2, 0, none⟩) 1 1, .slice (some ⟨f2, 0, none⟩) 1 1]) exP exQ W (HP1.out.mono hW) (HP2.out.mono hW); rw [ex_nsame] at h; exact h)
  have hsz9 : w.heap.size ≤ W9.heap.size := HBW.out.size
  clear hsP HP1 HP2 HP3 HP4
  try clear T1l
  try clear T1a
  try clear T1b
  try clear T1c
  try clear T1fa
  try clear T1fb
  try clear T1fc
  obtain ⟨T1l, T1a, T1b, T1c, -, -, -⟩ := T1.facts3
  try clear T2l
  try clear T2a
  try clear T2b
  try clear T2c
  try clear T2fa
  try clear T2fb
  try clear T2fc
  obtain ⟨T2l, T2a, T2b, T2c, -, -, -⟩ := T2.facts3
  go_wp2_with fail
  refine (TPath.out _ (bR W9)).mono ?_
  rintro e w10 ⟨A6, c6, rfl, hb10, hp10⟩
  have B10 := Lib.hid hb10
  have HPa := Lib.hid hp10
  obtain ⟨-, -, e6, h56, h5c6, -⟩ := hp10
  replace T1 := T1.keep hb10
  replace T2 := T2.keep hb10
  clear hb10
  clear T1l T1a T1b T1c T2l T2a T2b T2c
  try clear T2l
  try clear T2a
  try clear T2b
  try clear T2c
  try clear T2fa
  try clear T2fb
  try clear T2fc
  obtain ⟨T2l, T2a, T2b, T2c, -, -, -⟩ := T2.facts3
  go_wp2_with fail
  refine (TNode.out _ B10.out).mono ?_
  rintro e w11 ⟨rfl, hb11⟩
  have hw11 : Below w10.heap.size w10 (w11.alloc (.cells #[.int .i64 2, .int .i64 10, .int .i64 5] 32)) := bA hb11 _
  have X7 : Blk (w11.alloc (.cells #[.int .i64 2, .int .i64 10, .int .i64 5] 32)) w11.heap.size 32 #[.int .i64 2, .int .i64 10, .int .i64 5] := Blk.made rfl _ _
  replace T1 := T1.keep hw11
  replace T2 := T2.keep hw11
  have B11 := Lib.hid (bT B10.out hw11)
  replace HPa := Lib.hid (HPa.out.mono hw11)
  clear hw11 hb11 T2l T2a T2b T2c
  try clear T1l
  try clear T1a
  try clear T1b
  try clear T1c
  try clear T1fa
  try clear T1fb
  try clear T1fc
  obtain ⟨T1l, T1a, T1b, T1c, -, -, -⟩ := T1.facts3
  go_upto_region 7 with fail
  generalize (w11.alloc (.cells #[.int .i64 2, .int .i64 10, .int .i64 5] 32)) = W11 at *
  go_wp2_with fail
  refine (TArc.out _ B11.out).mono ?_
  rintro e w12 ⟨A7, c7, rfl, hb12⟩
  clear T1l T1a T1b T1c
  go_upto_region 8 with fail
  obtain ⟨W12, hW12⟩ : ∃ W12 : World, W12 = w12.alloc (.cells #[.int .i64 0, .int .i64 0, .int .i64 0, .slice A7 0 c7, .int .i64 0, .int .i64 0] 37) := ⟨_, rfl⟩
  have hA12 : Below W11.heap.size W11 W12 := by rw [hW12]; exact bA hb12 _
  rw [← hW12]
  replace T1 := T1.keep hA12
  replace T2 := T2.keep hA12
  replace X7 := X7.keep hA12
  have T3' := T3.keep (bT B11.out hA12)
  have T4' := T4.keep (bT B11.out hA12)
  replace HPa := Lib.hid (HPa.out.mono hA12)
  have B12 := Lib.hid (bT B11.out hA12)
  clear hW12 hA12 hb12 T3 T4
  try clear T1l
  try clear T1a
  try clear T1b
  try clear T1c
  try clear T1fa
  try clear T1fb
  try clear T1fc
  obtain ⟨T1l, T1a, T1b, T1c, -, -, -⟩ := T1.facts3
  try clear T2l
  try clear T2a
  try clear T2b
  try clear T2c
  try clear T2fa
  try clear T2fb
  try clear T2fc
  obtain ⟨T2l, T2a, T2b, T2c, -, -, -⟩ := T2.facts3
  try clear T3'l
  try clear T3'a
  try clear T3'b
  try clear T3'c
  try clear T3'fa
  try clear T3'fb
  try clear T3'fc
  obtain ⟨T3'l, T3'a, T3'b, T3'c, -, -, -⟩ := T3'.facts3
  try clear T4'l
  try clear T4'a
  try clear T4'b
  try clear T4'c
  try clear T4'fa
  try clear T4'fb
  try clear T4'fc
  obtain ⟨T4'l, T4'a, T4'b, T4'c, -, -, -⟩ := T4'.facts3
  try clear X7l
  try clear X7a
  try clear X7b
  try clear X7c
  try clear X7fa
  try clear X7fb
  try clear X7fc
  obtain ⟨X7l, X7a, X7b, X7c, -, -, -⟩ := X7.facts3
  have TSP : Hid (∀ W u, Below W12.heap.size W12 W → Pts W u [⟨0, 0⟩, ⟨10, 0⟩, ⟨10, 10⟩, ⟨0, 10⟩, ⟨0, 0⟩] → Calls Try.prog 18 #[.slice A6 5 c6, u] W fun e w' => e = .returned (.bool true) ∧ Below W.heap.size W w') := Lib.hid fun W u hW hu => by
    have h := SamePath_spec (.slice A6 5 c6) u _ _ W (HPa.out.mono hW) hu
    rw [show decide (([⟨0, 0⟩, ⟨10, 0⟩, ⟨10, 10⟩, ⟨0, 10⟩, ⟨0, 0⟩] : List Pt) = [⟨0, 0⟩, ⟨10, 0⟩, ⟨10, 10⟩, ⟨0, 10⟩, ⟨0, 0⟩]) = true by decide] at h
    exact h
  refine rg_start (Since W12) (.take 0 1 (.call 1 3 (.take 2 7 (.take 3 15 (.take 4 31 (.call 5 63 (.take 6 127 (.take 7 255 (.take 8 511 (.take 9 1023 (.call 10 2047 (.take 11 4095 (.take 12 8191 (.take 13 16383 (.take 14 32767 (.call 15 65535 (.take 16 131071 (.take 17 262143 (.take 18 524287 (.take 19 1048575 (.call 20 2097151 (.take 21 4194303 (.take 22 8388607 (.take 23 16777215 (.take 24 33554431 (.call 25 67108863 (.take 26 134217727 (.take 27 268435455 (.take 28 536870911 (.take 29 1073741823 (.take 30 2147483647 (.take 31 4294967295 (.take 32 8589934591 (.take 33 17179869183 (.take 34 34359738367 (.take 35 68719476735 (.take 36 137438953471 (.take 37 274877906943 (.take 38 549755813887 (.call 39 1099511627775 (.call 40 2199023255551 (.take 41 4398046511103 (.take 42 8796093022207 (.take 43 17592186044415 (.take 44 35184372088831 (.take 45 70368744177663 (.take 46 140737488355327 (.take 47 281474976710655 (.take 48 562949953421311 (.take 49 1125899906842623 (.take 50 2251799813685247 (.take 51 4503599627370495 (.take 52 9007199254740991 (.take 53 18014398509481983 (.take 54 36028797018963967 (.take 55 72057594037927935 (.take 56 144115188075855871 (.take 58 432345564227567615 (.call 57 576460752303423487 (.take 59 1152921504606846975 (.take 60 2305843009213693951 (.take 61 4611686018427387903 (.take 62 9223372036854775807 (.take 64 27670116110564327423 (.call 63 36893488147419103231 (.take 65 73786976294838206463 (.take 66 147573952589676412927 (.take 67 295147905179352825855 (.take 68 590295810358705651711 (.call 69 1180591620717411303423 (.call 70 2361183241434822606847 (.take 71 4722366482869645213695 (.take 72 9444732965739290427391 (.take 73 18889465931478580854783 (.take 74 37778931862957161709567 (.call 75 75557863725914323419135 (.take 76 151115727451828646838271 (.take 77 302231454903657293676543 (.take 78 604462909807314587353087 (.done)))))))))))))))))))))))))))))))))))))))))))))))))))))))))))))))))))))))))))))))) (by kernel_rfl) (bD (bR _)) (by kernel_rfl) (by kernel_rfl) (Nat.le_of_ble_eq_true (by kernel_rfl)) ?_
  intro opsR QR Hops HQrg hS
  refine rg_take (i := 0) (get_of Hops rfl) hS ?_
  apply Exists.intro
  apply And.intro
  · refine .inl ⟨(wanted_plain rfl), fun wq hq => ?_⟩
    clear hq
    go_simp
    try rfl
  try simp only [Act.put, List.setIfInBounds_toArray, List.set_cons_zero, List.set_cons_succ]
  refine rg_call (i := 1) (get_of Hops rfl) (fun K hK => ?_)
  have HSrg := Lib.hid hS; clear hS
  refine rg_run (wanted_plain rfl) ?_
  go_simp
  refine (TC0.out _ (bT B12.out HSrg.out)).mono ?_
  rintro e wr1 ⟨rfl, hbr1⟩
  have hS : Since W12 wr1 := bT (w := W12) HSrg.out hbr1
  clear HSrg
  refine hK.out _ _ hS (fun _ => ?_)
  clear hK K
  try simp only [Act.put, List.setIfInBounds_toArray, List.set_cons_zero, List.set_cons_succ]
  refine rg_take (i := 2) (get_of Hops rfl) hS ?_
  apply Exists.intro
  apply And.intro
  · refine .inl ⟨(wanted_plain rfl), fun wq hq => ?_⟩
    clear hq
    go_simp
    try rfl
  try simp only [Act.put, List.setIfInBounds_toArray, List.set_cons_zero, List.set_cons_succ]
  refine rg_take (i := 3) (get_of Hops rfl) hS ?_
  apply Exists.intro
  apply And.intro
  · refine .inl ⟨(wanted_plain rfl), fun wq hq => ?_⟩
    clear hq
    go_simp
    try rfl
  try simp only [Act.put, List.setIfInBounds_toArray, List.set_cons_zero, List.set_cons_succ]
  refine rg_take (i := 4) (get_of Hops rfl) hS ?_
  apply Exists.intro
  apply And.intro
  · refine .inl ⟨(wanted_yes rfl (get_of Hops rfl) rfl rfl), fun wq hq => ?_⟩
    have hq' : Below W12.heap.size W12 wq := hq
    obtain ⟨hqc, -⟩ := bcell hq'
    clear hq hq'
    go_simp
    try rfl
  try simp only [Act.put, List.setIfInBounds_toArray, List.set_cons_zero, List.set_cons_succ]
  refine rg_call (i := 5) (get_of Hops rfl) (fun K hK => ?_)
  have HSrg := Lib.hid hS; clear hS
  refine rg_run (wanted_yes rfl (get_of Hops rfl) rfl rfl) ?_
  go_simp
  refine (TC1.out _ (bT B12.out HSrg.out)).mono ?_
  rintro e wr2 ⟨rfl, hbr2⟩
  have hS : Since W12 wr2 := bT (w := W12) HSrg.out hbr2
  clear HSrg
  refine hK.out _ _ hS (fun _ => ?_)
  clear hK K
  try simp only [Act.put, List.setIfInBounds_toArray, List.set_cons_zero, List.set_cons_succ]
  refine rg_take (i := 6) (get_of Hops rfl) hS ?_
  apply Exists.intro
  apply And.intro
  · refine .inl ⟨(wanted_yes rfl (get_of Hops rfl) rfl rfl), fun wq hq => ?_⟩
    clear hq
    go_simp
    try rfl
  try simp only [Act.put, List.setIfInBounds_toArray, List.set_cons_zero, List.set_cons_succ]
  refine rg_take (i := 7) (get_of Hops rfl) hS ?_
  apply Exists.intro
  apply And.intro
  · refine .inl ⟨(wanted_plain rfl), fun wq hq => ?_⟩
    clear hq
    go_simp
    try rfl
  try simp only [Act.put, List.setIfInBounds_toArray, List.set_cons_zero, List.set_cons_succ]
  refine rg_take (i := 8) (get_of Hops rfl) hS ?_
  apply Exists.intro
  apply And.intro
  · refine .inl ⟨(wanted_plain rfl), fun wq hq => ?_⟩
    clear hq
    go_simp
    try rfl
  try simp only [Act.put, List.setIfInBounds_toArray, List.set_cons_zero, List.set_cons_succ]
  refine rg_take (i := 9) (get_of Hops rfl) hS ?_
  apply Exists.intro
  apply And.intro
  · refine .inl ⟨(wanted_yes rfl (get_of Hops rfl) rfl rfl), fun wq hq => ?_⟩
    have hq' : Below W12.heap.size W12 wq := hq
    obtain ⟨hqc, -⟩ := bcell hq'
    clear hq hq'
    go_simp
    try rfl
  try simp only [Act.put, List.setIfInBounds_toArray, List.set_cons_zero, List.set_cons_succ]
  refine rg_call (i := 10) (get_of Hops rfl) (fun K hK => ?_)
  have HSrg := Lib.hid hS; clear hS
  refine rg_run (wanted_yes rfl (get_of Hops rfl) rfl rfl) ?_
  go_simp
  refine (TC2.out _ (bT B12.out HSrg.out)).mono ?_
  rintro e wr3 ⟨rfl, hbr3⟩
  have hS : Since W12 wr3 := bT (w := W12) HSrg.out hbr3
  clear HSrg
  refine hK.out _ _ hS (fun _ => ?_)
  clear hK K
  try simp only [Act.put, List.setIfInBounds_toArray, List.set_cons_zero, List.set_cons_succ]
  refine rg_take (i := 11) (get_of Hops rfl) hS ?_
  apply Exists.intro
  apply And.intro
  · refine .inl ⟨(wanted_yes rfl (get_of Hops rfl) rfl rfl), fun wq hq => ?_⟩
    clear hq
    go_simp
    try rfl
  try simp only [Act.put, List.setIfInBounds_toArray, List.set_cons_zero, List.set_cons_succ]
  refine rg_take (i := 12) (get_of Hops rfl) hS ?_
  apply Exists.intro
  apply And.intro
  · refine .inl ⟨(wanted_plain rfl), fun wq hq => ?_⟩
    clear hq
    go_simp
    try rfl
  try simp only [Act.put, List.setIfInBounds_toArray, List.set_cons_zero, List.set_cons_succ]
  refine rg_take (i := 13) (get_of Hops rfl) hS ?_
  apply Exists.intro
  apply And.intro
  · refine .inl ⟨(wanted_plain rfl), fun wq hq => ?_⟩
    clear hq
    go_simp
    try rfl
  try simp only [Act.put, List.setIfInBounds_toArray, List.set_cons_zero, List.set_cons_succ]
  refine rg_take (i := 14) (get_of Hops rfl) hS ?_
  apply Exists.intro
  apply And.intro
  · refine .inl ⟨(wanted_yes rfl (get_of Hops rfl) rfl rfl), fun wq hq => ?_⟩
    have hq' : Below W12.heap.size W12 wq := hq
    obtain ⟨hqc, -⟩ := bcell hq'
    clear hq hq'
    go_simp
    try rfl
  try simp only [Act.put, List.setIfInBounds_toArray, List.set_cons_zero, List.set_cons_succ]
  refine rg_call (i := 15) (get_of Hops rfl) (fun K hK => ?_)
  have HSrg := Lib.hid hS; clear hS
  refine rg_run (wanted_yes rfl (get_of Hops rfl) rfl rfl) ?_
  go_simp
  refine (TC3.out _ (bT B12.out HSrg.out)).mono ?_
  rintro e wr4 ⟨rfl, hbr4⟩
  have hS : Since W12 wr4 := bT (w := W12) HSrg.out hbr4
  clear HSrg
  refine hK.out _ _ hS (fun _ => ?_)
  clear hK K
  try simp only [Act.put, List.setIfInBounds_toArray, List.set_cons_zero, List.set_cons_succ]
  refine rg_take (i := 16) (get_of Hops rfl) hS ?_
  apply Exists.intro
  apply And.intro
  · refine .inl ⟨(wanted_yes rfl (get_of Hops rfl) rfl rfl), fun wq hq => ?_⟩
    clear hq
    go_simp
    try rfl
  try simp only [Act.put, List.setIfInBounds_toArray, List.set_cons_zero, List.set_cons_succ]
  refine rg_take (i := 17) (get_of Hops rfl) hS ?_
  apply Exists.intro
  apply And.intro
  · refine .inl ⟨(wanted_plain rfl), fun wq hq => ?_⟩
    clear hq
    go_simp
    try rfl
  try simp only [Act.put, List.setIfInBounds_toArray, List.set_cons_zero, List.set_cons_succ]
  refine rg_take (i := 18) (get_of Hops rfl) hS ?_
  apply Exists.intro
  apply And.intro
  · refine .inl ⟨(wanted_plain rfl), fun wq hq => ?_⟩
    clear hq
    go_simp
    try rfl
  try simp only [Act.put, List.setIfInBounds_toArray, List.set_cons_zero, List.set_cons_succ]
  refine rg_take (i := 19) (get_of Hops rfl) hS ?_
  apply Exists.intro
  apply And.intro
  · refine .inl ⟨(wanted_yes rfl (get_of Hops rfl) rfl rfl), fun wq hq => ?_⟩
    have hq' : Below W12.heap.size W12 wq := hq
    obtain ⟨hqc, -⟩ := bcell hq'
    clear hq hq'
    go_simp
    try rfl
  try simp only [Act.put, List.setIfInBounds_toArray, List.set_cons_zero, List.set_cons_succ]
  refine rg_call (i := 20) (get_of Hops rfl) (fun K hK => ?_)
  have HSrg := Lib.hid hS; clear hS
  refine rg_run (wanted_yes rfl (get_of Hops rfl) rfl rfl) ?_
  go_simp
  refine (TC4.out _ (bT B12.out HSrg.out)).mono ?_
  rintro e wr5 ⟨rfl, hbr5⟩
  have hS : Since W12 wr5 := bT (w := W12) HSrg.out hbr5
  clear HSrg
  refine hK.out _ _ hS (fun _ => ?_)
  clear hK K
  try simp only [Act.put, List.setIfInBounds_toArray, List.set_cons_zero, List.set_cons_succ]
  refine rg_take (i := 21) (get_of Hops rfl) hS ?_
  apply Exists.intro
  apply And.intro
  · refine .inl ⟨(wanted_yes rfl (get_of Hops rfl) rfl rfl), fun wq hq => ?_⟩
    clear hq
    go_simp
    try rfl
  try simp only [Act.put, List.setIfInBounds_toArray, List.set_cons_zero, List.set_cons_succ]
  refine rg_take (i := 22) (get_of Hops rfl) hS ?_
  apply Exists.intro
  apply And.intro
  · refine .inl ⟨(wanted_plain rfl), fun wq hq => ?_⟩
    clear hq
    go_simp
    try rfl
  try simp only [Act.put, List.setIfInBounds_toArray, List.set_cons_zero, List.set_cons_succ]
  refine rg_take (i := 23) (get_of Hops rfl) hS ?_
  apply Exists.intro
  apply And.intro
  · refine .inl ⟨(wanted_plain rfl), fun wq hq => ?_⟩
    clear hq
    go_simp
    try rfl
  try simp only [Act.put, List.setIfInBounds_toArray, List.set_cons_zero, List.set_cons_succ]
  refine rg_take (i := 24) (get_of Hops rfl) hS ?_
  apply Exists.intro
  apply And.intro
  · refine .inl ⟨(wanted_yes rfl (get_of Hops rfl) rfl rfl), fun wq hq => ?_⟩
    have hq' : Below W12.heap.size W12 wq := hq
    obtain ⟨hqc, -⟩ := bcell hq'
    clear hq hq'
    go_simp
    try rfl
  try simp only [Act.put, List.setIfInBounds_toArray, List.set_cons_zero, List.set_cons_succ]
  refine rg_call (i := 25) (get_of Hops rfl) (fun K hK => ?_)
  have HSrg := Lib.hid hS; clear hS
  refine rg_run (wanted_yes rfl (get_of Hops rfl) rfl rfl) ?_
  go_simp
  refine (TDeg.out _ (bT B12.out HSrg.out)).mono ?_
  rintro e wr6 ⟨rfl, hbr6⟩
  have hS : Since W12 wr6 := bT (w := W12) HSrg.out hbr6
  clear HSrg
  refine hK.out _ _ hS (fun _ => ?_)
  clear hK K
  try simp only [Act.put, List.setIfInBounds_toArray, List.set_cons_zero, List.set_cons_succ]
  refine rg_take (i := 26) (get_of Hops rfl) hS ?_
  apply Exists.intro
  apply And.intro
  · refine .inl ⟨(wanted_yes rfl (get_of Hops rfl) rfl rfl), fun wq hq => ?_⟩
    clear hq
    go_simp
    try rfl
  try simp only [Act.put, List.setIfInBounds_toArray, List.set_cons_zero, List.set_cons_succ]
  refine rg_take (i := 27) (get_of Hops rfl) hS ?_
  apply Exists.intro
  apply And.intro
  · refine .inl ⟨(wanted_plain rfl), fun wq hq => ?_⟩
    clear hq
    go_simp
    try rfl
  try simp only [Act.put, List.setIfInBounds_toArray, List.set_cons_zero, List.set_cons_succ]
  refine rg_take (i := 28) (get_of Hops rfl) hS ?_
  apply Exists.intro
  apply And.intro
  · refine .inl ⟨(wanted_plain rfl), fun wq hq => ?_⟩
    clear hq
    go_simp
    try rfl
  try simp only [Act.put, List.setIfInBounds_toArray, List.set_cons_zero, List.set_cons_succ]
  refine rg_take (i := 29) (get_of Hops rfl) hS ?_
  apply Exists.intro
  apply And.intro
  · refine .inl ⟨(wanted_yes rfl (get_of Hops rfl) rfl rfl), fun wq hq => ?_⟩
    clear hq
    go_simp
    try rfl
  try simp only [Act.put, List.setIfInBounds_toArray, List.set_cons_zero, List.set_cons_succ]
  refine rg_take (i := 30) (get_of Hops rfl) hS ?_
  apply Exists.intro
  apply And.intro
  · refine .inl ⟨(wanted_yes rfl (get_of Hops rfl) rfl rfl), fun wq hq => ?_⟩
    clear hq
    go_simp
    try rfl
  try simp only [Act.put, List.setIfInBounds_toArray, List.set_cons_zero, List.set_cons_succ]
  refine rg_take (i := 31) (get_of Hops rfl) hS ?_
  apply Exists.intro
  apply And.intro
  · refine .inl ⟨(wanted_plain rfl), fun wq hq => ?_⟩
    clear hq
    go_simp
    try rfl
  try simp only [Act.put, List.setIfInBounds_toArray, List.set_cons_zero, List.set_cons_succ]
  refine rg_take (i := 32) (get_of Hops rfl) hS ?_
  apply Exists.intro
  apply And.intro
  · refine .inl ⟨(wanted_plain rfl), fun wq hq => ?_⟩
    clear hq
    go_simp
    try rfl
  try simp only [Act.put, List.setIfInBounds_toArray, List.set_cons_zero, List.set_cons_succ]
  refine rg_take (i := 33) (get_of Hops rfl) hS ?_
  apply Exists.intro
  apply And.intro
  · refine .inl ⟨(wanted_yes rfl (get_of Hops rfl) rfl rfl), fun wq hq => ?_⟩
    clear hq
    go_simp
    try rfl
  try simp only [Act.put, List.setIfInBounds_toArray, List.set_cons_zero, List.set_cons_succ]
  refine rg_take (i := 34) (get_of Hops rfl) hS ?_
  apply Exists.intro
  apply And.intro
  · refine .inl ⟨(wanted_yes rfl (get_of Hops rfl) rfl rfl), fun wq hq => ?_⟩
    clear hq
    go_simp
    try rfl
  try simp only [Act.put, List.setIfInBounds_toArray, List.set_cons_zero, List.set_cons_succ]
  refine rg_take (i := 35) (get_of Hops rfl) hS ?_
  apply Exists.intro
  apply And.intro
  · refine .inl ⟨(wanted_yes rfl (get_of Hops rfl) rfl rfl), fun wq hq => ?_⟩
    clear hq
    go_simp
    try rfl
  try simp only [Act.put, List.setIfInBounds_toArray, List.set_cons_zero, List.set_cons_succ]
  refine rg_take (i := 36) (get_of Hops rfl) hS ?_
  apply Exists.intro
  apply And.intro
  · refine .inl ⟨(wanted_yes rfl (get_of Hops rfl) rfl rfl), fun wq hq => ?_⟩
    clear hq
    go_simp
    try rfl
  try simp only [Act.put, List.setIfInBounds_toArray, List.set_cons_zero, List.set_cons_succ]
  refine rg_take (i := 37) (get_of Hops rfl) hS ?_
  apply Exists.intro
  apply And.intro
  · refine .inl ⟨(wanted_yes rfl (get_of Hops rfl) rfl rfl), fun wq hq => ?_⟩
    clear hq
    go_simp
    try rfl
  try simp only [Act.put, List.setIfInBounds_toArray, List.set_cons_zero, List.set_cons_succ]
  refine rg_take (i := 38) (get_of Hops rfl) hS ?_
  apply Exists.intro
  apply And.intro
  · refine .inl ⟨(wanted_yes rfl (get_of Hops rfl) rfl rfl), fun wq hq => ?_⟩
    clear hq
    go_simp
    try rfl
  try simp only [Act.put, List.setIfInBounds_toArray, List.set_cons_zero, List.set_cons_succ]
  refine rg_call (i := 39) (get_of Hops rfl) (fun K hK => ?_)
  have HSrg := Lib.hid hS; clear hS
  refine rg_run (wanted_yes rfl (get_of Hops rfl) rfl rfl) ?_
  go_simp
  refine hK.out _ _ (bA HSrg.out _) (fun hS => ?_)
  clear hK K HSrg
  try simp only [Act.put, List.setIfInBounds_toArray, List.set_cons_zero, List.set_cons_succ]
  refine rg_call (i := 40) (get_of Hops rfl) (fun K hK => ?_)
  have HSrg := Lib.hid hS; clear hS
  refine rg_run (wanted_yes rfl (get_of Hops rfl) rfl rfl) ?_
  go_simp
  refine (TSP.out _ _ HSrg.out (Sl.lit (n := 5) (Blk.made rfl _ _) rfl (le_maxLen (by omega)))).mono ?_
  rintro e wr7 ⟨rfl, hbr7⟩
  have hS : Since W12 wr7 := bT (w := W12) HSrg.out hbr7
  clear HSrg
  refine hK.out _ _ hS (fun _ => ?_)
  clear hK K
  try simp only [Act.put, List.setIfInBounds_toArray, List.set_cons_zero, List.set_cons_succ]
  refine rg_take (i := 41) (get_of Hops rfl) hS ?_
  apply Exists.intro
  apply And.intro
  · refine .inl ⟨(wanted_plain rfl), fun wq hq => ?_⟩
    clear hq
    go_simp
    try rfl
  try simp only [Act.put, List.setIfInBounds_toArray, List.set_cons_zero, List.set_cons_succ]
  refine rg_take (i := 42) (get_of Hops rfl) hS ?_
  apply Exists.intro
  apply And.intro
  · refine .inl ⟨(wanted_plain rfl), fun wq hq => ?_⟩
    clear hq
    go_simp
    try rfl
  try simp only [Act.put, List.setIfInBounds_toArray, List.set_cons_zero, List.set_cons_succ]
  refine rg_take (i := 43) (get_of Hops rfl) hS ?_
  apply Exists.intro
  apply And.intro
  · refine .inl ⟨(wanted_yes rfl (get_of Hops rfl) rfl rfl), fun wq hq => ?_⟩
    clear hq
    go_simp
    try rfl
  try simp only [Act.put, List.setIfInBounds_toArray, List.set_cons_zero, List.set_cons_succ]
  refine rg_take (i := 44) (get_of Hops rfl) hS ?_
  apply Exists.intro
  apply And.intro
  · refine .inl ⟨(wanted_plain rfl), fun wq hq => ?_⟩
    clear hq
    go_simp
    try rfl
  try simp only [Act.put, List.setIfInBounds_toArray, List.set_cons_zero, List.set_cons_succ]
  refine rg_take (i := 45) (get_of Hops rfl) hS ?_
  apply Exists.intro
  apply And.intro
  · refine .inl ⟨(wanted_plain rfl), fun wq hq => ?_⟩
    clear hq
    go_simp
    try rfl
  try simp only [Act.put, List.setIfInBounds_toArray, List.set_cons_zero, List.set_cons_succ]
  refine rg_take (i := 46) (get_of Hops rfl) hS ?_
  apply Exists.intro
  apply And.intro
  · refine .inl ⟨(wanted_yes rfl (get_of Hops rfl) rfl rfl), fun wq hq => ?_⟩
    clear hq
    go_simp
    try rfl
  try simp only [Act.put, List.setIfInBounds_toArray, List.set_cons_zero, List.set_cons_succ]
  refine rg_take (i := 47) (get_of Hops rfl) hS ?_
  apply Exists.intro
  apply And.intro
  · refine .inl ⟨(wanted_yes rfl (get_of Hops rfl) rfl rfl), fun wq hq => ?_⟩
    have hq' : Below W12.heap.size W12 wq := hq
    obtain ⟨hqc, -⟩ := bcell hq'
    clear hq hq'
    go_simp
    try rfl
  try simp only [Act.put, List.setIfInBounds_toArray, List.set_cons_zero, List.set_cons_succ]
  refine rg_take (i := 48) (get_of Hops rfl) hS ?_
  apply Exists.intro
  apply And.intro
  · refine .inl ⟨(wanted_yes rfl (get_of Hops rfl) rfl rfl), fun wq hq => ?_⟩
    clear hq
    go_simp
    try rfl
  try simp only [Act.put, List.setIfInBounds_toArray, List.set_cons_zero, List.set_cons_succ]
  refine rg_take (i := 49) (get_of Hops rfl) hS ?_
  apply Exists.intro
  apply And.intro
  · refine .inl ⟨(wanted_yes rfl (get_of Hops rfl) rfl rfl), fun wq hq => ?_⟩
    clear hq
    go_simp
    try rfl
  try simp only [Act.put, List.setIfInBounds_toArray, List.set_cons_zero, List.set_cons_succ]
  refine rg_take (i := 50) (get_of Hops rfl) hS ?_
  apply Exists.intro
  apply And.intro
  · refine .inl ⟨(wanted_plain rfl), fun wq hq => ?_⟩
    clear hq
    go_simp
    try rfl
  try simp only [Act.put, List.setIfInBounds_toArray, List.set_cons_zero, List.set_cons_succ]
  refine rg_take (i := 51) (get_of Hops rfl) hS ?_
  apply Exists.intro
  apply And.intro
  · refine .inl ⟨(wanted_plain rfl), fun wq hq => ?_⟩
    clear hq
    go_simp
    try rfl
  try simp only [Act.put, List.setIfInBounds_toArray, List.set_cons_zero, List.set_cons_succ]
  refine rg_take (i := 52) (get_of Hops rfl) hS ?_
  apply Exists.intro
  apply And.intro
  · refine .inl ⟨(wanted_yes rfl (get_of Hops rfl) rfl rfl), fun wq hq => ?_⟩
    clear hq
    go_simp
    try rfl
  try simp only [Act.put, List.setIfInBounds_toArray, List.set_cons_zero, List.set_cons_succ]
  refine rg_take (i := 53) (get_of Hops rfl) hS ?_
  apply Exists.intro
  apply And.intro
  · refine .inl ⟨(wanted_yes rfl (get_of Hops rfl) rfl rfl), fun wq hq => ?_⟩
    clear hq
    go_simp
    try rfl
  try simp only [Act.put, List.setIfInBounds_toArray, List.set_cons_zero, List.set_cons_succ]
  refine rg_take (i := 54) (get_of Hops rfl) hS ?_
  apply Exists.intro
  apply And.intro
  · refine .inl ⟨(wanted_plain rfl), fun wq hq => ?_⟩
    clear hq
    go_simp
    try rfl
  try simp only [Act.put, List.setIfInBounds_toArray, List.set_cons_zero, List.set_cons_succ]
  refine rg_take (i := 55) (get_of Hops rfl) hS ?_
  apply Exists.intro
  apply And.intro
  · refine .inl ⟨(wanted_plain rfl), fun wq hq => ?_⟩
    clear hq
    go_simp
    try rfl
  try simp only [Act.put, List.setIfInBounds_toArray, List.set_cons_zero, List.set_cons_succ]
  refine rg_take (i := 56) (get_of Hops rfl) hS ?_
  apply Exists.intro
  apply And.intro
  · refine .inl ⟨(wanted_yes rfl (get_of Hops rfl) rfl rfl), fun wq hq => ?_⟩
    have hq' : Below W12.heap.size W12 wq := hq
    obtain ⟨hqc, -⟩ := bcell hq'
    clear hq hq'
    go_simp
    try rfl
  try simp only [Act.put, List.setIfInBounds_toArray, List.set_cons_zero, List.set_cons_succ]
  refine rg_take (i := 58) (get_of Hops rfl) hS ?_
  apply Exists.intro
  apply And.intro
  · refine .inl ⟨(wanted_yes rfl (get_of Hops rfl) rfl rfl), fun wq hq => ?_⟩
    clear hq
    go_simp
    try rfl
  try simp only [Act.put, List.setIfInBounds_toArray, List.set_cons_zero, List.set_cons_succ]
  refine rg_call (i := 57) (get_of Hops rfl) (fun K hK => ?_)
  have HSrg := Lib.hid hS; clear hS
  refine rg_run (wanted_yes rfl (get_of Hops rfl) rfl rfl) ?_
  go_simp
  refine (TB1.out _ (bT B12.out HSrg.out)).mono ?_
  rintro e wr8 ⟨rfl, hbr8⟩
  have hS : Since W12 wr8 := bT (w := W12) HSrg.out hbr8
  clear HSrg
  refine hK.out _ _ hS (fun _ => ?_)
  clear hK K
  try simp only [Act.put, List.setIfInBounds_toArray, List.set_cons_zero, List.set_cons_succ]
  refine rg_take (i := 59) (get_of Hops rfl) hS ?_
  apply Exists.intro
  apply And.intro
  · refine .inl ⟨(wanted_yes rfl (get_of Hops rfl) rfl rfl), fun wq hq => ?_⟩
    clear hq
    go_simp
    try rfl
  try simp only [Act.put, List.setIfInBounds_toArray, List.set_cons_zero, List.set_cons_succ]
  refine rg_take (i := 60) (get_of Hops rfl) hS ?_
  apply Exists.intro
  apply And.intro
  · refine .inl ⟨(wanted_plain rfl), fun wq hq => ?_⟩
    clear hq
    go_simp
    try rfl
  try simp only [Act.put, List.setIfInBounds_toArray, List.set_cons_zero, List.set_cons_succ]
  refine rg_take (i := 61) (get_of Hops rfl) hS ?_
  apply Exists.intro
  apply And.intro
  · refine .inl ⟨(wanted_plain rfl), fun wq hq => ?_⟩
    clear hq
    go_simp
    try rfl
  try simp only [Act.put, List.setIfInBounds_toArray, List.set_cons_zero, List.set_cons_succ]
  refine rg_take (i := 62) (get_of Hops rfl) hS ?_
  apply Exists.intro
  apply And.intro
  · refine .inl ⟨(wanted_yes rfl (get_of Hops rfl) rfl rfl), fun wq hq => ?_⟩
    clear hq
    go_simp
    try rfl
  try simp only [Act.put, List.setIfInBounds_toArray, List.set_cons_zero, List.set_cons_succ]
  refine rg_take (i := 64) (get_of Hops rfl) hS ?_
  apply Exists.intro
  apply And.intro
  · refine .inl ⟨(wanted_yes rfl (get_of Hops rfl) rfl rfl), fun wq hq => ?_⟩
    clear hq
    go_simp
    try rfl
  try simp only [Act.put, List.setIfInBounds_toArray, List.set_cons_zero, List.set_cons_succ]
  refine rg_call (i := 63) (get_of Hops rfl) (fun K hK => ?_)
  have HSrg := Lib.hid hS; clear hS
  refine rg_run (wanted_yes rfl (get_of Hops rfl) rfl rfl) ?_
  go_simp
  refine (TB0.out _ (bT B12.out HSrg.out)).mono ?_
  rintro e wr9 ⟨rfl, hbr9⟩
  have hS : Since W12 wr9 := bT (w := W12) HSrg.out hbr9
  clear HSrg
  refine hK.out _ _ hS (fun _ => ?_)
  clear hK K
  try simp only [Act.put, List.setIfInBounds_toArray, List.set_cons_zero, List.set_cons_succ]
  refine rg_take (i := 65) (get_of Hops rfl) hS ?_
  apply Exists.intro
  apply And.intro
  · refine .inl ⟨(wanted_yes rfl (get_of Hops rfl) rfl rfl), fun wq hq => ?_⟩
    clear hq
    go_simp
    try rfl
  try simp only [Act.put, List.setIfInBounds_toArray, List.set_cons_zero, List.set_cons_succ]
  refine rg_take (i := 66) (get_of Hops rfl) hS ?_
  apply Exists.intro
  apply And.intro
  · refine .inl ⟨(wanted_plain rfl), fun wq hq => ?_⟩
    clear hq
    go_simp
    try rfl
  try simp only [Act.put, List.setIfInBounds_toArray, List.set_cons_zero, List.set_cons_succ]
  refine rg_take (i := 67) (get_of Hops rfl) hS ?_
  apply Exists.intro
  apply And.intro
  · refine .inl ⟨(wanted_plain rfl), fun wq hq => ?_⟩
    clear hq
    go_simp
    try rfl
  try simp only [Act.put, List.setIfInBounds_toArray, List.set_cons_zero, List.set_cons_succ]
  refine rg_take (i := 68) (get_of Hops rfl) hS ?_
  apply Exists.intro
  apply And.intro
  · refine .inl ⟨(wanted_yes rfl (get_of Hops rfl) rfl rfl), fun wq hq => ?_⟩
    have hq' : Below W12.heap.size W12 wq := hq
    obtain ⟨hqc, -⟩ := bcell hq'
    clear hq hq'
    go_simp
    try rfl
  try simp only [Act.put, List.setIfInBounds_toArray, List.set_cons_zero, List.set_cons_succ]
  refine rg_call (i := 69) (get_of Hops rfl) (fun K hK => ?_)
  have HSrg := Lib.hid hS; clear hS
  refine rg_run (wanted_yes rfl (get_of Hops rfl) rfl rfl) ?_
  go_simp
  refine (HE.out _).mono ?_
  rintro e wr10 ⟨n9, v9, a9, f9, rfl, hbr10, -, hn9, hv9, ha9, hf9⟩
  have hS : Since W12 wr10 := bT (w := W12) HSrg.out hbr10
  clear HSrg
  refine hK.out _ _ hS (fun _ => ?_)
  clear hK K
  try simp only [Act.put, List.setIfInBounds_toArray, List.set_cons_zero, List.set_cons_succ]
  refine rg_call (i := 70) (get_of Hops rfl) (fun K hK => ?_)
  have HSrg := Lib.hid hS; clear hS
  refine rg_run (wanted_yes rfl (get_of Hops rfl) rfl rfl) ?_
  go_simp
  refine (TS1.out _ _ (bT B12.out HSrg.out) (PlV.ex (exN_nds hn9) ha9 (exVs_pts hv9) hf9)).mono ?_
  rintro e wr11 ⟨rfl, hbr11⟩
  have hS : Since W12 wr11 := bT (w := W12) HSrg.out hbr11
  clear HSrg
  refine hK.out _ _ hS (fun _ => ?_)
  clear hK K
  try simp only [Act.put, List.setIfInBounds_toArray, List.set_cons_zero, List.set_cons_succ]
  refine rg_take (i := 71) (get_of Hops rfl) hS ?_
  apply Exists.intro
  apply And.intro
  · refine .inl ⟨(wanted_plain rfl), fun wq hq => ?_⟩
    clear hq
    go_simp
    try rfl
  try simp only [Act.put, List.setIfInBounds_toArray, List.set_cons_zero, List.set_cons_succ]
  refine rg_take (i := 72) (get_of Hops rfl) hS ?_
  apply Exists.intro
  apply And.intro
  · refine .inl ⟨(wanted_plain rfl), fun wq hq => ?_⟩
    clear hq
    go_simp
    try rfl
  try simp only [Act.put, List.setIfInBounds_toArray, List.set_cons_zero, List.set_cons_succ]
  refine rg_take (i := 73) (get_of Hops rfl) hS ?_
  apply Exists.intro
  apply And.intro
  · refine .inl ⟨(wanted_yes rfl (get_of Hops rfl) rfl rfl), fun wq hq => ?_⟩
    have hq' : Below W12.heap.size W12 wq := hq
    obtain ⟨hqc, -⟩ := bcell hq'
    clear hq hq'
    go_simp
    try rfl
  try simp only [Act.put, List.setIfInBounds_toArray, List.set_cons_zero, List.set_cons_succ]
  refine rg_take (i := 74) (get_of Hops rfl) hS ?_
  apply Exists.intro
  apply And.intro
  · refine .inl ⟨(wanted_yes rfl (get_of Hops rfl) rfl rfl), fun wq hq => ?_⟩
    have hq' : Below W12.heap.size W12 wq := hq
    obtain ⟨hqc, -⟩ := bcell hq'
    clear hq hq'
    go_simp
    try rfl
  try simp only [Act.put, List.setIfInBounds_toArray, List.set_cons_zero, List.set_cons_succ]
  refine rg_call (i := 75) (get_of Hops rfl) (fun K hK => ?_)
  have HSrg := Lib.hid hS; clear hS
  refine rg_run (wanted_yes rfl (get_of Hops rfl) rfl rfl) ?_
  go_simp
  refine (TS2.out _ (bT B12.out HSrg.out)).mono ?_
  rintro e wr12 ⟨rfl, hbr12⟩
  have hS : Since W12 wr12 := bT (w := W12) HSrg.out hbr12
  clear HSrg
  refine hK.out _ _ hS (fun _ => ?_)
  clear hK K
  try simp only [Act.put, List.setIfInBounds_toArray, List.set_cons_zero, List.set_cons_succ]
  refine rg_take (i := 76) (get_of Hops rfl) hS ?_
  apply Exists.intro
  apply And.intro
  · refine .inl ⟨(wanted_yes rfl (get_of Hops rfl) rfl rfl), fun wq hq => ?_⟩
    clear hq
    go_simp
    try rfl
  try simp only [Act.put, List.setIfInBounds_toArray, List.set_cons_zero, List.set_cons_succ]
  refine rg_take (i := 77) (get_of Hops rfl) hS ?_
  apply Exists.intro
  apply And.intro
  · refine .inl ⟨(wanted_plain rfl), fun wq hq => ?_⟩
    clear hq
    go_simp
    try rfl
  try simp only [Act.put, List.setIfInBounds_toArray, List.set_cons_zero, List.set_cons_succ]
  refine rg_take (i := 78) (get_of Hops rfl) hS ?_
  apply Exists.intro
  apply And.intro
  · refine .inl ⟨(wanted_plain rfl), fun wq hq => ?_⟩
    clear hq
    go_simp
    try rfl
  try simp only [Act.put, List.setIfInBounds_toArray, List.set_cons_zero, List.set_cons_succ]
  refine rg_done ?_
  refine HQrg.down _ _ ?_
  have hB : Below W12.heap.size W12 wr12 := hS
  clear hS HQrg Hops
  go_wp2_with fail
  go_ret
  exact ⟨rfl, bT HBW.out (bT B12.out hB)⟩
end Go.Proofs.Ytibchmofckhofaa
