/- mapsheetslaw14.PlanDrops: true. -/
import Derived.Test.YtibchmofckhofaaLawRev
import Derived.Test.YtibchmofckhofaaPDrop
set_option linter.unusedSimpArgs false
set_option linter.unusedVariables false
namespace Go.Proofs.Ytibchmofckhofaa
open Go.RowKit

theorem Row.take {α : Type} {w : World} {A : Option Addr} {f : α → List Value} {l : List α} (h : Row w A (l.flatMap f)) (i : Nat) : Row w A ((l.take i).flatMap f) := by
  have e : l.flatMap f = (l.take i).flatMap f ++ (l.drop i).flatMap f := by rw [← List.flatMap_append, List.take_append_drop]
  rw [e] at h
  intro hne
  obtain ⟨b, o, hA, hb, hc⟩ := h (fun h0 => hne (List.append_eq_nil_iff.1 h0).1)
  refine ⟨b, o, hA, hb, fun j v hj => hc j v ?_⟩
  rw [List.getElem?_append_left]
  · exact hj
  · rcases Nat.lt_or_ge j ((l.take i).flatMap f).length with h' | h'
    · exact h'
    · rw [List.getElem?_eq_none h'] at hj; cases hj
theorem run_pre {P : Program} {t e : TypeId} {size : Nat} (ht : P.underlying t = some (.slice e)) (hsz : ∀ w, (sizeOf e).run P w = .ok size w) (A : Option Addr) (n c k : Nat) (hk : k ≤ n) (hc : n ≤ c) (w : World) :
    (Instr.slice t (.slice A n c) none (some (.int .i64 (k : Int))) none).run P w = .ok (.slice A k c) w := by
  have he : P.elem t = e := by simp [Program.elem, ht]
  have ht' : P.underlying t = some (.slice (P.elem t)) := by rw [he]; exact ht
  rw [run_slice_h w t A n c ht' .i64 (k : Int) (by omega) (by omega), he, hsz]
  have : A.map (fun x => x.add 0) = A := by cases A <;> simp [Addr.add]
  simp [Result.andThen, sliced, this]
theorem Sl.pre_ {α : Type} {w : World} {A : Option Addr} {c : Nat} {f : α → List Value} {l : List α} (h : Sl w (.slice A l.length c) l.length (l.flatMap f)) (i : Nat) (hi : i ≤ l.length) : Sl w (.slice A i c) (l.take i).length ((l.take i).flatMap f) := by
  obtain ⟨A', c', he, h1, h2, hR⟩ := h
  injection he with e1 e2 e3
  subst e1 e3
  have hl : (l.take i).length = i := by rw [List.length_take]; omega
  rw [hl]
  exact ⟨_, _, rfl, by omega, h2, hR.take i⟩
theorem Sl.suf_ {α : Type} {w : World} {A : Option Addr} {c size : Nat} {f : α → List Value} (hf : ∀ a, (f a).length = size) {l : List α} (h : Sl w (.slice A l.length c) l.length (l.flatMap f)) (i : Nat) (hi : i < l.length) : Sl w (.slice (cutA A c (i + 1) size) (l.length - (i + 1)) (c - (i + 1))) (l.drop (i + 1)).length ((l.drop (i + 1)).flatMap f) := by
  obtain ⟨A', c', he, h1, h2, hR⟩ := h
  injection he with e1 e2 e3
  subst e1 e3
  rw [List.length_drop]
  refine ⟨_, _, rfl, by omega, by omega, ?_⟩
  rw [← flat_drop f size hf]
  exact hR.cut (by rw [flat_length f size hf]; exact Nat.mul_le_mul_right _ h1)
theorem sizeOf_ar : ∀ w, (Go.sizeOf 37).run Try.prog w = .ok 6 w := fun _ => by kernel_rfl
theorem sizeOf_nd : ∀ w, (Go.sizeOf 32).run Try.prog w = .ok 3 w := fun _ => by kernel_rfl

set_option maxRecDepth 100000 in
set_option maxHeartbeats 16000000 in
theorem PlanDrops_spec (v : Value) (p : Pl) (a : Int) (w : World) (h : PlV w v p) (hu : (Lit.int .u8 a).wf = true) :
    Calls Try.prog 8 #[v, .int .u8 a] w fun e w' => e = .returned (.bool true) ∧ Below w.heap.size w w' := by
  have hab := u8_bd hu
  clear hu
  have TFew : ∀ W, Below w.heap.size w W → Calls Try.prog 9 #[v, .int .i64 100] W _ := fun W hW => Few_spec v p 100 W (h.mono hW) (by omega)
  have HFew := Lib.hid TFew
  have HP := Lib.hid h
  have HAw := Lib.hid awake_spec
  obtain ⟨_, _, _, al, rfl, hpa, hN, ⟨⟨Aa, ca, rfl, ha1, ha2, hRa⟩, hV⟩, hF⟩ := h
  obtain ⟨bl, rfl⟩ := hV.sv
  have HN := Lib.hid hN; have HF := Lib.hid hF
  obtain ⟨An, cn, rfl, hn1, hn2, hRn⟩ := hN
  obtain ⟨Af, cf, rfl, -⟩ := hF
  have hpl : p.arcs.length = bl.length := by rw [hpa, List.length_map, List.length_map]
  rw [List.length_map] at ha1
  rw [arS_flat] at hRa
  have hres : p.arcs = bl.map (·.1) := by rw [hpa, List.map_map]; rfl
  have HVk : Hid (∀ k (hk : k < bl.length), Pts w (.slice bl[k].2.a bl[k].2.n bl[k].2.c) bl[k].1.via) := Lib.hid fun k hk => by
    have := hV k (by simpa using hk)
    simpa [svA] using this
  have Hres := Lib.hid hres
  have HRa : Hid (Sl w (.slice Aa bl.length ca) bl.length (bl.flatMap arS)) := Lib.hid ⟨_, _, rfl, ha1, ha2, hRa⟩
  have HRn : Hid (Sl w (.slice An p.nodes.length cn) p.nodes.length (p.nodes.flatMap ndC)) := Lib.hid ⟨_, _, rfl, hn1, hn2, hRn⟩
  have Hpl := Lib.hid hpl
  rw [List.length_map] at *
  unfold maxLen at ha2 hn2
  clear hV hres hRa hRn hpa hpl TFew
  go_enter Try.func8, Try.ntmps8
  go_wp2_with fail
  refine (HFew.out _ (bA (bR w) _)).mono ?_
  rintro e w1 ⟨rfl, hb1⟩
  have Bw : Below w.heap.size w w1 := bT (bA (bR w) _) hb1
  have X2 : Blk w1 w.heap.size 26 #[.slice An p.nodes.length cn, .slice Aa bl.length ca, .slice Af p.faces.length cf] := (Blk.made rfl _ _).keep hb1
  clear hb1
  cases hf : fewS p 100
  case false =>
    clear hf
    go_wp2_with fail
    refine (HAw.out _).mono ?_
    rintro e w2 ⟨rfl, hb2⟩
    go_wp2_with fail
    go_ret
    exact ⟨rfl, bT Bw hb2⟩
  have hfw := few_short hf
  have hal : bl.length ≤ 100 := by have := hfw.2.1; have := Hpl.out; omega
  have hnl : p.nodes.length ≤ 100 := hfw.1
  clear hf hfw
  try clear X2l
  try clear X2a
  try clear X2b
  try clear X2c
  try clear X2fa
  try clear X2fb
  try clear X2fc
  obtain ⟨X2l, X2a, X2b, X2c, -, -, -⟩ := X2.facts3
  go_wp2_with fail
  refine (Check_spec _ p _ (HP.out.mono Bw)).mono ?_
  rintro e w2 ⟨rfl, hb2⟩
  replace Bw := bT Bw hb2
  replace X2 := X2.keep hb2
  clear hb2 X2l X2a X2b X2c
  by_cases hz : checkS p = 0
  case neg =>
    generalize checkS p = q at *
    go_wp2_with fail
    refine (HAw.out _).mono ?_
    rintro e w3 ⟨rfl, hb3⟩
    go_wp2_with fail
    go_ret
    exact ⟨rfl, bT Bw hb3⟩
  have HVd := Lib.hid ((check_zero p).1 hz)
  rw [hz]
  clear hz
  have HX2 := Lib.hid X2
  have HBw := Lib.hid Bw
  try clear X2l
  try clear X2a
  try clear X2b
  try clear X2c
  try clear X2fa
  try clear X2fb
  try clear X2fc
  obtain ⟨X2l, X2a, X2b, X2c, -, -, -⟩ := X2.facts3
  go_upto_if 22 with fail
  go_cut [23] (fun u wx => Below w2.heap.size w2 wx)
  case first =>
    by_cases hz : bl.length = 0
    · have hz' : ((bl.length : Int) == 0) = true := beq_iff_eq.2 (by omega)
      have hz2 : ¬ 0 < (bl.length : Int) := by omega
      clear hz
      go_wp2_with fail
      go_meet
      case rel => exact bR w2
    have hz2 : 0 < (bl.length : Int) := by omega
    obtain ⟨i, hi, hwr, hmod⟩ := rem_facts a bl.length hab (by omega)
    have hne : ¬ bl = [] := fun e => hz (by rw [e]; rfl)
    go_upto_region 6 with fail
    obtain ⟨W3, hW3⟩ : ∃ W3 : World, W3 = w2.alloc (.cells #[.slice An p.nodes.length cn, .slice Aa bl.length ca, .slice Af p.faces.length cf] 26) := ⟨_, rfl⟩
    have hA3 : Below w2.heap.size w2 W3 := by rw [hW3]; exact bA (bR w2) _
    have hs3 : W3.heap.size = w2.heap.size + 1 := by rw [hW3]; simp
    have X6 : Blk W3 w2.heap.size 26 #[.slice An p.nodes.length cn, .slice Aa bl.length ca, .slice Af p.faces.length cf] := by rw [hW3]; exact Blk.made rfl _ _
    rw [← hW3]
    have X2' := X2.keep hA3
    have HX6 := Lib.hid X6; have HX2' := Lib.hid X2'
    have HB3 := Lib.hid (bT HBw.out hA3)
    have hB3' := hA3
    clear hW3 hA3 X2l X2a X2b X2c
    have hx2w : w.heap.size < w2.heap.size := X2.lt
    have hs3' : w2.heap.size + 1 ≤ W3.heap.size := by omega
    have hs3'' : W3.heap.size ≤ w2.heap.size + 1 := by omega
    have Hpre := Lib.hid (show Sl W3 (.slice Aa i ca) (bl.take i).length ((bl.take i).flatMap arS) from (HRa.out.mono HB3.out).pre_ i (by omega))
    obtain ⟨Ac, hAc⟩ : ∃ Ac, Ac = cutA Aa ca (i + 1) 6 := ⟨_, rfl⟩
    have Hsuf := Lib.hid (show Sl W3 (.slice Ac (bl.length - (i + 1)) (ca - (i + 1))) (bl.drop (i + 1)).length ((bl.drop (i + 1)).flatMap arS) by rw [hAc]; exact (HRa.out.mono HB3.out).suf_ arS_len i hi)
    have hrun1 := run_pre Try.underlying23 sizeOf_ar Aa bl.length ca i (by omega) ha1
    have hrun2 := run_cut Try.underlying23 sizeOf_ar Aa bl.length ca (i + 1) (by omega) ((i : Int) + 1) (by omega)
    rw [← hAc] at hrun2
    have hlt1 : (bl.take i).length ≤ 100 := by rw [List.length_take]; omega
    have hlt2 : (bl.drop (i + 1)).length ≤ 100 := by rw [List.length_drop]; omega
    have hiw : 0 ≤ (i : Int) ∧ (i : Int) ≤ 1000 := by omega
    have q0 : 0 ≤ (i : Int) := by omega
    have q1 : (i : Int) ≤ bl.length := by omega
    have q2 : 0 ≤ (i : Int) + 1 := by omega
    have q3 : (i : Int) + 1 ≤ bl.length := by omega
    have hw1 : IntKind.i64.wrap ((i : Int) + 1) = (i : Int) + 1 := IntWalk.i64_in _ (by omega)
    clear hAc hs3
    try clear X2'l
    try clear X2'a
    try clear X2'b
    try clear X2'c
    try clear X2'fa
    try clear X2'fb
    try clear X2'fc
    obtain ⟨X2'l, X2'a, X2'b, X2'c, -, -, -⟩ := X2'.facts3
    try clear X6l
    try clear X6a
    try clear X6b
    try clear X6c
    try clear X6fa
    try clear X6fb
    try clear X6fc
    obtain ⟨X6l, X6a, X6b, X6c, X6fa, X6fb, X6fc⟩ := X6.facts3
    refine rg_start (SinceB (w2.heap.size) W3) (.take 1 2 (.take 2 6 (.take 3 14 (.take 4 30 (.take 6 94 (.take 7 222 (.take 8 478 (.take 9 990 (.take 10 2014 (.call 0 2015 (.call 5 2047 (.call 11 4095 (.take 12 8191 (.call 13 16383 (.done))))))))))))))) (by kernel_rfl) (Below.drew (Below.refl _ _)) (by kernel_rfl) (by kernel_rfl) (Nat.le_of_ble_eq_true (by kernel_rfl)) ?_
    intro opsR QR Hops HQrg hS
    refine rg_take (i := 1) (get_of Hops rfl) hS ?_
    apply Exists.intro
    apply And.intro
    · refine .inl ⟨(wanted_plain rfl), fun wq hq => ?_⟩
      clear hq
      go_simp
      try rfl
    try simp only [Act.put, List.setIfInBounds_toArray, List.set_cons_zero, List.set_cons_succ]
    refine rg_take (i := 2) (get_of Hops rfl) hS ?_
    apply Exists.intro
    apply And.intro
    · refine .inl ⟨(wanted_plain rfl), fun wq hq => ?_⟩
      have hq' : Below (w2.heap.size) W3 wq := hq
      obtain ⟨hqc, -⟩ := bcellB hq'
      clear hq hq'
      go_simp
      try rfl
    try simp only [Act.put, List.setIfInBounds_toArray, List.set_cons_zero, List.set_cons_succ]
    refine rg_take (i := 3) (get_of Hops rfl) hS ?_
    apply Exists.intro
    apply And.intro
    · refine .inl ⟨(wanted_plain rfl), fun wq hq => ?_⟩
      clear hq
      go_simp
      try rfl
    try simp only [Act.put, List.setIfInBounds_toArray, List.set_cons_zero, List.set_cons_succ]
    refine rg_take (i := 4) (get_of Hops rfl) hS ?_
    apply Exists.intro
    apply And.intro
    · refine .inl ⟨(wanted_plain rfl), fun wq hq => ?_⟩
      clear hq
      go_simp
      try rfl
    try simp only [Act.put, List.setIfInBounds_toArray, List.set_cons_zero, List.set_cons_succ]
    refine rg_take (i := 6) (get_of Hops rfl) hS ?_
    apply Exists.intro
    apply And.intro
    · refine .inl ⟨(wanted_plain rfl), fun wq hq => ?_⟩
      clear hq
      go_simp
      try rfl
    try simp only [Act.put, List.setIfInBounds_toArray, List.set_cons_zero, List.set_cons_succ]
    refine rg_take (i := 7) (get_of Hops rfl) hS ?_
    apply Exists.intro
    apply And.intro
    · refine .inl ⟨(wanted_plain rfl), fun wq hq => ?_⟩
      have hq' : Below (w2.heap.size) W3 wq := hq
      obtain ⟨hqc, -⟩ := bcellB hq'
      clear hq hq'
      go_simp
      try rfl
    try simp only [Act.put, List.setIfInBounds_toArray, List.set_cons_zero, List.set_cons_succ]
    refine rg_take (i := 8) (get_of Hops rfl) hS ?_
    apply Exists.intro
    apply And.intro
    · refine .inl ⟨(wanted_plain rfl), fun wq hq => ?_⟩
      clear hq
      go_simp
      try rfl
    try simp only [Act.put, List.setIfInBounds_toArray, List.set_cons_zero, List.set_cons_succ]
    refine rg_take (i := 9) (get_of Hops rfl) hS ?_
    apply Exists.intro
    apply And.intro
    · refine .inl ⟨(wanted_plain rfl), fun wq hq => ?_⟩
      clear hq
      go_simp
      try rfl
    try simp only [Act.put, List.setIfInBounds_toArray, List.set_cons_zero, List.set_cons_succ]
    refine rg_take (i := 10) (get_of Hops rfl) hS ?_
    apply Exists.intro
    apply And.intro
    · refine .inl ⟨(wanted_plain rfl), fun wq hq => ?_⟩
      clear hq
      go_simp
      try rfl
    try simp only [Act.put, List.setIfInBounds_toArray, List.set_cons_zero, List.set_cons_succ]
    refine rg_call (i := 0) (get_of Hops rfl) (fun K hK => ?_)
    have HSrg := Lib.hid hS; clear hS
    refine rg_run (wanted_plain rfl) ?_
    go_simp
    refine hK.out _ _ (bAB (by omega) HSrg.out _) (fun hS => ?_)
    clear hK K HSrg
    try simp only [Act.put, List.setIfInBounds_toArray, List.set_cons_zero, List.set_cons_succ]
    refine rg_call (i := 5) (get_of Hops rfl) (fun K hK => ?_)
    have HSrg := Lib.hid hS; clear hS
    refine rg_run (wanted_plain rfl) ?_
    refine wp_appl (.tmp 30) (.tmp 34) _ rfl (base := w2.heap.size + 1) (l := ([] : List (Ar × SV))) (l2 := bl.take i) elem_ar arS_len arS_one rfl (Own.lit _ _ _ _ arS [] _ 0 _ (by simp) rfl (by first | omega | (simp; omega)) (le_maxLen (by omega)) rfl rfl) rfl (Hpre.out.mono (bA (bD (bR W3)) _)) (by have := hlt1; simp only [List.length_nil]; omega) (by have := hlt1; simp only [List.length_nil]; omega) (by simp; omega) ?_
    intro v91 w91 ho91 hg91 hat91
    replace ho91 : Own w91 (w2.heap.size + 1) 37 6 arS v91 (bl.take i) := ho91
    obtain ⟨A91, c91, hv91, -⟩ := Own.sl ho91
    subst hv91
    have hB91 : Below w2.heap.size W3 w91 := Below.grown (Below.alloc (Below.drew (Below.refl _ _)) (by first | omega | (simp; omega)) _) hg91 (by first | omega | (simp; omega)) (fun g hg => by have h := Option.some.inj hg; simp at h; omega)
    have hS : SinceB (w2.heap.size) W3 w91 := hB91
    have hW91 : Below W3.heap.size W3 w91 := bG (bA (bD (bR W3)) _) hg91 (fun g hg => by have h := Option.some.inj hg; simp at h; omega)
    have HW91 := Lib.hid hW91
    have HO91 := Lib.hid ho91
    have hz91 := hW91.size
    clear hB91 hW91 ho91 hg91 hat91
    clear HSrg
    refine hK.out _ _ hS (fun _ => ?_)
    clear hK K
    try simp only [Act.put, List.setIfInBounds_toArray, List.set_cons_zero, List.set_cons_succ]
    refine rg_call (i := 11) (get_of Hops rfl) (fun K hK => ?_)
    have HSrg := Lib.hid hS; clear hS
    refine rg_run (wanted_plain rfl) ?_
    refine wp_appl (.tmp 35) (.tmp 40) _ rfl (base := w2.heap.size + 1) (l := bl.take i) (l2 := bl.drop (i + 1)) elem_ar arS_len arS_one rfl HO91.out rfl (Hsuf.out.mono HW91.out) (by have := hlt1; have := hlt2; omega) (by have := hlt1; have := hlt2; omega) (by omega) ?_
    intro v92 w92 ho92 hg92 hat92
    replace ho92 : Own w92 (w2.heap.size + 1) 37 6 arS v92 (del bl i) := ho92
    obtain ⟨A92, c92, hv92, -⟩ := Own.sl ho92
    subst hv92
    have X6n := Blk.grown (HX6.out.keep HW91.out) hg92 (fun e => by have := (HO91.out.lt _ e.symm).1; omega)
    have X2n := Blk.grown (HX2'.out.keep HW91.out) hg92 (fun e => by have := (HO91.out.lt _ e.symm).1; omega)
    have hS : SinceB (w2.heap.size) W3 w92 := Below.grown (HW91.out.mono (by omega)) hg92 (by omega) (fun g hg => by have := (HO91.out.lt g hg).1; omega)
    have HX6n := Lib.hid X6n
    have HX2n := Lib.hid X2n
    have HO92 := Lib.hid ho92
    obtain ⟨-, n0, n1, n2, nf0, nf1, nf2⟩ := X6n.facts3
    clear X6n X2n ho92 hg92 hat92
    clear HSrg
    refine hK.out _ _ hS (fun _ => ?_)
    clear hK K
    try simp only [Act.put, List.setIfInBounds_toArray, List.set_cons_zero, List.set_cons_succ]
    refine rg_take (i := 12) (get_of Hops rfl) hS ?_
    apply Exists.intro
    apply And.intro
    · refine .inl ⟨(wanted_plain rfl), fun wq hq => ?_⟩
      clear hq
      go_simp
      try rfl
    try simp only [Act.put, List.setIfInBounds_toArray, List.set_cons_zero, List.set_cons_succ]
    refine rg_call (i := 13) (get_of Hops rfl) (fun K hK => ?_)
    have HSrg := Lib.hid hS; clear hS
    refine rg_run (wanted_plain rfl) ?_
    go_simp
    refine hK.out _ _ (bSB HSrg.out ?_ _) ?_
    · omega
    intro hS
    clear hK K HSrg
    try simp only [Act.put, List.setIfInBounds_toArray, List.set_cons_zero, List.set_cons_succ]
    refine rg_done ?_
    refine HQrg.down _ _ ?_
    have hB : Below (w2.heap.size) W3 _ := hS
    clear hS HQrg Hops
    obtain ⟨W4, hW4⟩ : ∃ W4 : World, W4 = w92.setCell ⟨w2.heap.size, 1, none⟩ (.slice A92 (del bl i).length c92) := ⟨_, rfl⟩
    have hB4 : Below w2.heap.size w2 W4 := by rw [hW4]; exact hB3'.trans hB
    have Y6 : Blk W4 w2.heap.size 26 #[.slice An p.nodes.length cn, .slice A92 (del bl i).length c92, .slice Af p.faces.length cf] := by
      rw [hW4]
      have h := Blk.set_ HX6n.out 1 (.slice A92 (del bl i).length c92)
      simpa using h
    have Y2 : Blk W4 w.heap.size 26 #[.slice An p.nodes.length cn, .slice Aa bl.length ca, .slice Af p.faces.length cf] := HX2.out.keep hB4
    have ho4 : Own W4 (w2.heap.size + 1) 37 6 arS (.slice A92 (del bl i).length c92) (del bl i) := by
      rw [hW4]
      exact HO92.out.far (p := ⟨w2.heap.size, 1, none⟩) (fun e => by have := (HO92.out.lt _ e).1; simp only [] at this; omega) _
    rw [← hW4]
    have HB4 := Lib.hid (bT HBw.out hB4)
    have HB4' := Lib.hid hB4
    have HQ : Hid (PlV W4 (.agg #[.slice An p.nodes.length cn, .slice A92 (del bl i).length c92, .slice Af p.faces.length cf]) ⟨p.nodes, del p.arcs i, p.faces⟩) := Lib.hid (by
      refine PlV.blocks (al := (del bl i).map svA) ?_ (HN.out.mono HB4.out) ?_ ?_ (HF.out.mono HB4.out)
      · show del p.arcs i = _
        rw [Hres.out, List.map_map]
        unfold del
        rw [List.map_append, List.map_take, List.map_drop]
        rfl
      · rw [arS_flat, List.length_map]
        exact Own.sl ho4
      · intro k hk
        rw [List.length_map] at hk
        have hm : (del bl i)[k] ∈ bl := (del_sub bl i).subset (List.getElem_mem hk)
        obtain ⟨m, hm, e⟩ := List.mem_iff_getElem.1 hm
        rw [List.getElem_map, ← e]
        exact (HVk.out m hm).mono HB4.out)
    have hcq := ((check_zero _).2 (HVd.out.sub_arcs (del_sub p.arcs i)))
    have hxi : i < p.arcs.length := by rw [Hpl.out]; exact hi
    have hfr : p.arcs[i].fr = bl[i].1.fr := by simp only [Hres.out, List.getElem_map]
    have hdg := deg_del p.arcs i hxi
    rw [hfr] at hdg
    have TCQ : Hid (∀ W, Below W4.heap.size W4 W → Calls Try.prog 21 #[.agg #[.slice An p.nodes.length cn, .slice A92 (del bl i).length c92, .slice Af p.faces.length cf]] W fun e w' => e = .returned (.int .i64 0) ∧ Below W.heap.size W w') := Lib.hid fun W hW => by
      have h := Check_spec _ _ W (HQ.out.mono hW)
      rw [hcq] at h
      exact h
    have TDQ : Hid (∀ W, Below W4.heap.size W4 W → Calls Try.prog 19 #[.agg #[.slice An p.nodes.length cn, .slice A92 (del bl i).length c92, .slice Af p.faces.length cf], .int .i64 bl[i].1.fr] W fun e w' => e = .returned (.int .i64 (degS (del p.arcs i) bl[i].1.fr)) ∧ Below W.heap.size W w') := Lib.hid fun W hW => Degree_spec _ _ _ W (HQ.out.mono hW) (by have h1 := (del_sub p.arcs i).length_le; have := Hpl.out; show (del p.arcs i).length ≤ _; omega)
    have TDP : Hid (∀ W, Below W4.heap.size W4 W → Calls Try.prog 19 #[.agg #[.slice An p.nodes.length cn, .slice Aa bl.length ca, .slice Af p.faces.length cf], .int .i64 bl[i].1.fr] W fun e w' => e = .returned (.int .i64 (degS p.arcs bl[i].1.fr)) ∧ Below W.heap.size W w') := Lib.hid fun W hW => Degree_spec _ _ _ W (HP.out.mono (bT HB4.out hW)) (by have := Hpl.out; omega)
    obtain ⟨Az, cz, hez, -, -, hRz⟩ := HRa.out
    injection hez with e1 e2 e3
    subst e1 e3
    clear e2
    obtain ⟨bz, oz, rfl, hlz, -, z1, -, -, -, -⟩ := hRz.as_ hi
    have c1 := keepc HB4.out z1
    have hlz4 : bz < W4.heap.size := by have := HB4.out.size; omega
    generalize degS (del p.arcs i) bl[i].1.fr = D1 at *
    generalize degS p.arcs bl[i].1.fr = D2 at *
    generalize bl[i].1.fr = fr at *
    have hdec : decide (D2 ≤ D1) = false := decide_eq_false (by omega)
    have hdn : ¬ D2 ≤ D1 := by omega
    clear hW4 hB ho4 hcq hfr hRz z1 hlz hrun1 hrun2 hw1 n0 n1 n2 nf0 nf1 nf2 hB4 X2'l X2'a X2'b X2'c X6l X6a X6b X6c X6fa X6fb X6fc X2' X6 X2
    try clear Y2l
    try clear Y2a
    try clear Y2b
    try clear Y2c
    try clear Y2fa
    try clear Y2fb
    try clear Y2fc
    obtain ⟨Y2l, Y2a, Y2b, Y2c, -, -, -⟩ := Y2.facts3
    try clear Y6l
    try clear Y6a
    try clear Y6b
    try clear Y6c
    try clear Y6fa
    try clear Y6fb
    try clear Y6fc
    obtain ⟨Y6l, Y6a, Y6b, Y6c, -, -, -⟩ := Y6.facts3
    go_upto_region 7 with fail
    refine rg_start (Since W4) (.take 0 1 (.call 1 3 (.take 2 7 (.take 3 15 (.take 4 31 (.take 5 63 (.take 6 127 (.take 7 255 (.take 8 511 (.take 9 1023 (.take 10 2047 (.take 12 6143 (.take 13 14335 (.take 14 30719 (.take 15 63487 (.take 16 129023 (.take 17 260095 (.take 18 522239 (.call 11 524287 (.call 19 1048575 (.take 20 2097151 (.take 21 4194303 (.done))))))))))))))))))))))) (by kernel_rfl) (bD (bR _)) (by kernel_rfl) (by kernel_rfl) (Nat.le_of_ble_eq_true (by kernel_rfl)) ?_
    intro opsR QR Hops HQrg hS
    refine rg_take (i := 0) (get_of Hops rfl) hS ?_
    apply Exists.intro
    apply And.intro
    · refine .inl ⟨(wanted_plain rfl), fun wq hq => ?_⟩
      have hq' : Below W4.heap.size W4 wq := hq
      obtain ⟨hqc, -⟩ := bcell hq'
      clear hq hq'
      go_simp
      try rfl
    try simp only [Act.put, List.setIfInBounds_toArray, List.set_cons_zero, List.set_cons_succ]
    refine rg_call (i := 1) (get_of Hops rfl) (fun K hK => ?_)
    have HSrg := Lib.hid hS; clear hS
    refine rg_run (wanted_plain rfl) ?_
    go_simp
    refine (TCQ.out _ HSrg.out).mono ?_
    rintro e wr1 ⟨rfl, hbr1⟩
    have hS : Since W4 wr1 := bT (w := W4) HSrg.out hbr1
    clear HSrg
    refine hK.out _ _ hS (fun _ => ?_)
    clear hK K
    try simp only [Act.put, List.setIfInBounds_toArray, List.set_cons_zero, List.set_cons_succ]
    refine rg_take (i := 2) (get_of Hops rfl) hS ?_
    apply Exists.intro
    apply And.intro
    · refine .inl ⟨(wanted_plain rfl), fun wq hq => ?_⟩
      clear hq
      go_simp
      try rfl
    try simp only [Act.put, List.setIfInBounds_toArray, List.set_cons_zero, List.set_cons_succ]
    refine rg_take (i := 3) (get_of Hops rfl) hS ?_
    apply Exists.intro
    apply And.intro
    · refine .inl ⟨(wanted_plain rfl), fun wq hq => ?_⟩
      clear hq
      go_simp
      try rfl
    try simp only [Act.put, List.setIfInBounds_toArray, List.set_cons_zero, List.set_cons_succ]
    refine rg_take (i := 4) (get_of Hops rfl) hS ?_
    apply Exists.intro
    apply And.intro
    · refine .inl ⟨(wanted_yes rfl (get_of Hops rfl) rfl rfl), fun wq hq => ?_⟩
      have hq' : Below W4.heap.size W4 wq := hq
      obtain ⟨hqc, -⟩ := bcell hq'
      clear hq hq'
      go_simp
      try rfl
    try simp only [Act.put, List.setIfInBounds_toArray, List.set_cons_zero, List.set_cons_succ]
    refine rg_take (i := 5) (get_of Hops rfl) hS ?_
    apply Exists.intro
    apply And.intro
    · refine .inl ⟨(wanted_yes rfl (get_of Hops rfl) rfl rfl), fun wq hq => ?_⟩
      clear hq
      go_simp
      try rfl
    try simp only [Act.put, List.setIfInBounds_toArray, List.set_cons_zero, List.set_cons_succ]
    refine rg_take (i := 6) (get_of Hops rfl) hS ?_
    apply Exists.intro
    apply And.intro
    · refine .inl ⟨(wanted_yes rfl (get_of Hops rfl) rfl rfl), fun wq hq => ?_⟩
      have hq' : Below W4.heap.size W4 wq := hq
      obtain ⟨hqc, -⟩ := bcell hq'
      clear hq hq'
      go_simp
      try rfl
    try simp only [Act.put, List.setIfInBounds_toArray, List.set_cons_zero, List.set_cons_succ]
    refine rg_take (i := 7) (get_of Hops rfl) hS ?_
    apply Exists.intro
    apply And.intro
    · refine .inl ⟨(wanted_yes rfl (get_of Hops rfl) rfl rfl), fun wq hq => ?_⟩
      clear hq
      go_simp
      try rfl
    try simp only [Act.put, List.setIfInBounds_toArray, List.set_cons_zero, List.set_cons_succ]
    refine rg_take (i := 8) (get_of Hops rfl) hS ?_
    apply Exists.intro
    apply And.intro
    · refine .inl ⟨(wanted_yes rfl (get_of Hops rfl) rfl rfl), fun wq hq => ?_⟩
      clear hq
      go_simp
      try rfl
    try simp only [Act.put, List.setIfInBounds_toArray, List.set_cons_zero, List.set_cons_succ]
    refine rg_take (i := 9) (get_of Hops rfl) hS ?_
    apply Exists.intro
    apply And.intro
    · refine .inl ⟨(wanted_yes rfl (get_of Hops rfl) rfl rfl), fun wq hq => ?_⟩
      clear hq
      go_simp
      try rfl
    try simp only [Act.put, List.setIfInBounds_toArray, List.set_cons_zero, List.set_cons_succ]
    refine rg_take (i := 10) (get_of Hops rfl) hS ?_
    apply Exists.intro
    apply And.intro
    · refine .inl ⟨(wanted_yes rfl (get_of Hops rfl) rfl rfl), fun wq hq => ?_⟩
      have hq' : Below W4.heap.size W4 wq := hq
      obtain ⟨hqc, -⟩ := bcell hq'
      clear hq hq'
      go_simp
      try rfl
    try simp only [Act.put, List.setIfInBounds_toArray, List.set_cons_zero, List.set_cons_succ]
    refine rg_take (i := 12) (get_of Hops rfl) hS ?_
    apply Exists.intro
    apply And.intro
    · refine .inl ⟨(wanted_yes rfl (get_of Hops rfl) rfl rfl), fun wq hq => ?_⟩
      have hq' : Below W4.heap.size W4 wq := hq
      obtain ⟨hqc, -⟩ := bcell hq'
      clear hq hq'
      go_simp
      try rfl
    try simp only [Act.put, List.setIfInBounds_toArray, List.set_cons_zero, List.set_cons_succ]
    refine rg_take (i := 13) (get_of Hops rfl) hS ?_
    apply Exists.intro
    apply And.intro
    · refine .inl ⟨(wanted_yes rfl (get_of Hops rfl) rfl rfl), fun wq hq => ?_⟩
      clear hq
      go_simp
      try rfl
    try simp only [Act.put, List.setIfInBounds_toArray, List.set_cons_zero, List.set_cons_succ]
    refine rg_take (i := 14) (get_of Hops rfl) hS ?_
    apply Exists.intro
    apply And.intro
    · refine .inl ⟨(wanted_yes rfl (get_of Hops rfl) rfl rfl), fun wq hq => ?_⟩
      have hq' : Below W4.heap.size W4 wq := hq
      obtain ⟨hqc, -⟩ := bcell hq'
      clear hq hq'
      go_simp
      try rfl
    try simp only [Act.put, List.setIfInBounds_toArray, List.set_cons_zero, List.set_cons_succ]
    refine rg_take (i := 15) (get_of Hops rfl) hS ?_
    apply Exists.intro
    apply And.intro
    · refine .inl ⟨(wanted_yes rfl (get_of Hops rfl) rfl rfl), fun wq hq => ?_⟩
      clear hq
      go_simp
      try rfl
    try simp only [Act.put, List.setIfInBounds_toArray, List.set_cons_zero, List.set_cons_succ]
    refine rg_take (i := 16) (get_of Hops rfl) hS ?_
    apply Exists.intro
    apply And.intro
    · refine .inl ⟨(wanted_yes rfl (get_of Hops rfl) rfl rfl), fun wq hq => ?_⟩
      clear hq
      go_simp
      try rfl
    try simp only [Act.put, List.setIfInBounds_toArray, List.set_cons_zero, List.set_cons_succ]
    refine rg_take (i := 17) (get_of Hops rfl) hS ?_
    apply Exists.intro
    apply And.intro
    · refine .inl ⟨(wanted_yes rfl (get_of Hops rfl) rfl rfl), fun wq hq => ?_⟩
      clear hq
      go_simp
      try rfl
    try simp only [Act.put, List.setIfInBounds_toArray, List.set_cons_zero, List.set_cons_succ]
    refine rg_take (i := 18) (get_of Hops rfl) hS ?_
    apply Exists.intro
    apply And.intro
    · refine .inl ⟨(wanted_yes rfl (get_of Hops rfl) rfl rfl), fun wq hq => ?_⟩
      have hq' : Below W4.heap.size W4 wq := hq
      obtain ⟨hqc, -⟩ := bcell hq'
      clear hq hq'
      go_simp
      try rfl
    try simp only [Act.put, List.setIfInBounds_toArray, List.set_cons_zero, List.set_cons_succ]
    refine rg_call (i := 11) (get_of Hops rfl) (fun K hK => ?_)
    have HSrg := Lib.hid hS; clear hS
    refine rg_run (wanted_yes rfl (get_of Hops rfl) rfl rfl) ?_
    go_simp
    refine (TDQ.out _ HSrg.out).mono ?_
    rintro e wr2 ⟨rfl, hbr2⟩
    have hS : Since W4 wr2 := bT (w := W4) HSrg.out hbr2
    clear HSrg
    refine hK.out _ _ hS (fun _ => ?_)
    clear hK K
    try simp only [Act.put, List.setIfInBounds_toArray, List.set_cons_zero, List.set_cons_succ]
    refine rg_call (i := 19) (get_of Hops rfl) (fun K hK => ?_)
    have HSrg := Lib.hid hS; clear hS
    refine rg_run (wanted_yes rfl (get_of Hops rfl) rfl rfl) ?_
    go_simp
    refine (TDP.out _ HSrg.out).mono ?_
    rintro e wr3 ⟨rfl, hbr3⟩
    have hS : Since W4 wr3 := bT (w := W4) HSrg.out hbr3
    clear HSrg
    refine hK.out _ _ hS (fun _ => ?_)
    clear hK K
    try simp only [Act.put, List.setIfInBounds_toArray, List.set_cons_zero, List.set_cons_succ]
    refine rg_take (i := 20) (get_of Hops rfl) hS ?_
    apply Exists.intro
    apply And.intro
    · refine .inl ⟨(wanted_yes rfl (get_of Hops rfl) rfl rfl), fun wq hq => ?_⟩
      clear hq
      go_simp
      try rfl
    try simp only [Act.put, List.setIfInBounds_toArray, List.set_cons_zero, List.set_cons_succ]
    refine rg_take (i := 21) (get_of Hops rfl) hS ?_
    apply Exists.intro
    apply And.intro
    · refine .inl ⟨(wanted_plain rfl), fun wq hq => ?_⟩
      clear hq
      go_simp
      try rfl
    try simp only [Act.put, List.setIfInBounds_toArray, List.set_cons_zero, List.set_cons_succ]
    refine rg_done ?_
    refine HQrg.down _ _ ?_
    have hB : Below W4.heap.size W4 wr3 := hS
    clear hS HQrg Hops
    go_wp2_with fail
    go_meet
    case rel => exact bT HB4'.out hB
  case rest =>
  have HBc := Lib.hid (bT HBw.out hcut)
  clear X2l X2a X2b X2c
  replace X2 := HX2.out.keep hcut
  clear hcut
  try clear X2l
  try clear X2a
  try clear X2b
  try clear X2c
  try clear X2fa
  try clear X2fb
  try clear X2fc
  obtain ⟨X2l, X2a, X2b, X2c, -, -, -⟩ := X2.facts3
  by_cases hz : p.nodes.length = 0
  · have hz2 : ¬ 0 < (p.nodes.length : Int) := by omega
    have hz3 : ¬ 0 < p.nodes.length := by omega
    clear hz
    go_wp2_with fail
    refine (HAw.out _).mono ?_
    rintro e w3 ⟨rfl, hb3⟩
    go_wp2_with fail
    go_ret
    exact ⟨rfl, bT HBc.out hb3⟩
  have hz2 : 0 < (p.nodes.length : Int) := by omega
  obtain ⟨i, hi, hwr, hmod⟩ := rem_facts a p.nodes.length hab (by omega)
  have hne : ¬ p.nodes = [] := fun e => hz (by rw [e]; rfl)
  go_upto_region 12 with fail
  obtain ⟨W5, hW5⟩ : ∃ W5 : World, W5 = wc.alloc (.cells #[.slice An p.nodes.length cn, .slice Aa bl.length ca, .slice Af p.faces.length cf] 26) := ⟨_, rfl⟩
  have hA5 : Below wc.heap.size wc W5 := by rw [hW5]; exact bA (bR wc) _
  have hs5 : W5.heap.size = wc.heap.size + 1 := by rw [hW5]; simp
  have X6 : Blk W5 wc.heap.size 26 #[.slice An p.nodes.length cn, .slice Aa bl.length ca, .slice Af p.faces.length cf] := by rw [hW5]; exact Blk.made rfl _ _
  rw [← hW5]
  have X2' := X2.keep hA5
  have HX2c := Lib.hid X2
  have HX6 := Lib.hid X6; have HX2' := Lib.hid X2'
  have HB5 := Lib.hid (bT HBc.out hA5)
  have hB5' := hA5
  have hx2w : w.heap.size < wc.heap.size := X2.lt
  clear hW5 hA5 X2l X2a X2b X2c
  have hs3' : wc.heap.size + 1 ≤ W5.heap.size := by omega
  have hs3'' : W5.heap.size ≤ wc.heap.size + 1 := by omega
  have Hpre := Lib.hid (show Sl W5 (.slice An i cn) (p.nodes.take i).length ((p.nodes.take i).flatMap ndC) from (HRn.out.mono HB5.out).pre_ i (by omega))
  obtain ⟨Ac, hAc⟩ : ∃ Ac, Ac = cutA An cn (i + 1) 3 := ⟨_, rfl⟩
  have Hsuf := Lib.hid (show Sl W5 (.slice Ac (p.nodes.length - (i + 1)) (cn - (i + 1))) (p.nodes.drop (i + 1)).length ((p.nodes.drop (i + 1)).flatMap ndC) by rw [hAc]; exact (HRn.out.mono HB5.out).suf_ ndC_len i hi)
  have hrun1 := run_pre Try.underlying22 sizeOf_nd An p.nodes.length cn i (by omega) hn1
  have hrun2 := run_cut Try.underlying22 sizeOf_nd An p.nodes.length cn (i + 1) (by omega) ((i : Int) + 1) (by omega)
  rw [← hAc] at hrun2
  have hlt1 : (p.nodes.take i).length ≤ 100 := by rw [List.length_take]; omega
  have hlt2 : (p.nodes.drop (i + 1)).length ≤ 100 := by rw [List.length_drop]; omega
  have q0 : 0 ≤ (i : Int) := by omega
  have q1 : (i : Int) ≤ p.nodes.length := by omega
  have q2 : 0 ≤ (i : Int) + 1 := by omega
  have q3 : (i : Int) + 1 ≤ p.nodes.length := by omega
  have hw1 : IntKind.i64.wrap ((i : Int) + 1) = (i : Int) + 1 := IntWalk.i64_in _ (by omega)
  clear hAc hs5
  try clear X2'l
  try clear X2'a
  try clear X2'b
  try clear X2'c
  try clear X2'fa
  try clear X2'fb
  try clear X2'fc
  obtain ⟨X2'l, X2'a, X2'b, X2'c, -, -, -⟩ := X2'.facts3
  try clear X6l
  try clear X6a
  try clear X6b
  try clear X6c
  try clear X6fa
  try clear X6fb
  try clear X6fc
  obtain ⟨X6l, X6a, X6b, X6c, X6fa, X6fb, X6fc⟩ := X6.facts3
  refine rg_start (SinceB (wc.heap.size) W5) (.take 1 2 (.take 2 6 (.take 3 14 (.take 4 30 (.take 6 94 (.take 7 222 (.take 8 478 (.take 9 990 (.take 10 2014 (.call 0 2015 (.call 5 2047 (.call 11 4095 (.take 12 8191 (.call 13 16383 (.done))))))))))))))) (by kernel_rfl) (Below.drew (Below.refl _ _)) (by kernel_rfl) (by kernel_rfl) (Nat.le_of_ble_eq_true (by kernel_rfl)) ?_
  intro opsR QR Hops HQrg hS
  refine rg_take (i := 1) (get_of Hops rfl) hS ?_
  apply Exists.intro
  apply And.intro
  · refine .inl ⟨(wanted_plain rfl), fun wq hq => ?_⟩
    clear hq
    go_simp
    try rfl
  try simp only [Act.put, List.setIfInBounds_toArray, List.set_cons_zero, List.set_cons_succ]
  refine rg_take (i := 2) (get_of Hops rfl) hS ?_
  apply Exists.intro
  apply And.intro
  · refine .inl ⟨(wanted_plain rfl), fun wq hq => ?_⟩
    have hq' : Below (wc.heap.size) W5 wq := hq
    obtain ⟨hqc, -⟩ := bcellB hq'
    clear hq hq'
    go_simp
    try rfl
  try simp only [Act.put, List.setIfInBounds_toArray, List.set_cons_zero, List.set_cons_succ]
  refine rg_take (i := 3) (get_of Hops rfl) hS ?_
  apply Exists.intro
  apply And.intro
  · refine .inl ⟨(wanted_plain rfl), fun wq hq => ?_⟩
    clear hq
    go_simp
    try rfl
  try simp only [Act.put, List.setIfInBounds_toArray, List.set_cons_zero, List.set_cons_succ]
  refine rg_take (i := 4) (get_of Hops rfl) hS ?_
  apply Exists.intro
  apply And.intro
  · refine .inl ⟨(wanted_plain rfl), fun wq hq => ?_⟩
    clear hq
    go_simp
    try rfl
  try simp only [Act.put, List.setIfInBounds_toArray, List.set_cons_zero, List.set_cons_succ]
  refine rg_take (i := 6) (get_of Hops rfl) hS ?_
  apply Exists.intro
  apply And.intro
  · refine .inl ⟨(wanted_plain rfl), fun wq hq => ?_⟩
    clear hq
    go_simp
    try rfl
  try simp only [Act.put, List.setIfInBounds_toArray, List.set_cons_zero, List.set_cons_succ]
  refine rg_take (i := 7) (get_of Hops rfl) hS ?_
  apply Exists.intro
  apply And.intro
  · refine .inl ⟨(wanted_plain rfl), fun wq hq => ?_⟩
    have hq' : Below (wc.heap.size) W5 wq := hq
    obtain ⟨hqc, -⟩ := bcellB hq'
    clear hq hq'
    go_simp
    try rfl
  try simp only [Act.put, List.setIfInBounds_toArray, List.set_cons_zero, List.set_cons_succ]
  refine rg_take (i := 8) (get_of Hops rfl) hS ?_
  apply Exists.intro
  apply And.intro
  · refine .inl ⟨(wanted_plain rfl), fun wq hq => ?_⟩
    clear hq
    go_simp
    try rfl
  try simp only [Act.put, List.setIfInBounds_toArray, List.set_cons_zero, List.set_cons_succ]
  refine rg_take (i := 9) (get_of Hops rfl) hS ?_
  apply Exists.intro
  apply And.intro
  · refine .inl ⟨(wanted_plain rfl), fun wq hq => ?_⟩
    clear hq
    go_simp
    try rfl
  try simp only [Act.put, List.setIfInBounds_toArray, List.set_cons_zero, List.set_cons_succ]
  refine rg_take (i := 10) (get_of Hops rfl) hS ?_
  apply Exists.intro
  apply And.intro
  · refine .inl ⟨(wanted_plain rfl), fun wq hq => ?_⟩
    clear hq
    go_simp
    try rfl
  try simp only [Act.put, List.setIfInBounds_toArray, List.set_cons_zero, List.set_cons_succ]
  refine rg_call (i := 0) (get_of Hops rfl) (fun K hK => ?_)
  have HSrg := Lib.hid hS; clear hS
  refine rg_run (wanted_plain rfl) ?_
  go_simp
  refine hK.out _ _ (bAB (by omega) HSrg.out _) (fun hS => ?_)
  clear hK K HSrg
  try simp only [Act.put, List.setIfInBounds_toArray, List.set_cons_zero, List.set_cons_succ]
  refine rg_call (i := 5) (get_of Hops rfl) (fun K hK => ?_)
  have HSrg := Lib.hid hS; clear hS
  refine rg_run (wanted_plain rfl) ?_
  refine wp_appl (.tmp 76) (.tmp 80) _ rfl (base := wc.heap.size + 1) (l := ([] : List Nd)) (l2 := p.nodes.take i) elem_nd ndC_len ndC_one rfl (Own.lit _ _ _ _ ndC [] _ 0 _ (by simp) rfl (by first | omega | (simp; omega)) (le_maxLen (by omega)) rfl rfl) rfl (Hpre.out.mono (bA (bD (bR W5)) _)) (by have := hlt1; simp only [List.length_nil]; omega) (by have := hlt1; simp only [List.length_nil]; omega) (by simp; omega) ?_
  intro v91 w91 ho91 hg91 hat91
  replace ho91 : Own w91 (wc.heap.size + 1) 32 3 ndC v91 (p.nodes.take i) := ho91
  obtain ⟨A91, c91, hv91, -⟩ := Own.sl ho91
  subst hv91
  have hB91 : Below wc.heap.size W5 w91 := Below.grown (Below.alloc (Below.drew (Below.refl _ _)) (by first | omega | (simp; omega)) _) hg91 (by first | omega | (simp; omega)) (fun g hg => by have h := Option.some.inj hg; simp at h; omega)
  have hS : SinceB (wc.heap.size) W5 w91 := hB91
  have hW91 : Below W5.heap.size W5 w91 := bG (bA (bD (bR W5)) _) hg91 (fun g hg => by have h := Option.some.inj hg; simp at h; omega)
  have HW91 := Lib.hid hW91
  have HO91 := Lib.hid ho91
  have hz91 := hW91.size
  clear hB91 hW91 ho91 hg91 hat91
  clear HSrg
  refine hK.out _ _ hS (fun _ => ?_)
  clear hK K
  try simp only [Act.put, List.setIfInBounds_toArray, List.set_cons_zero, List.set_cons_succ]
  refine rg_call (i := 11) (get_of Hops rfl) (fun K hK => ?_)
  have HSrg := Lib.hid hS; clear hS
  refine rg_run (wanted_plain rfl) ?_
  refine wp_appl (.tmp 81) (.tmp 86) _ rfl (base := wc.heap.size + 1) (l := p.nodes.take i) (l2 := p.nodes.drop (i + 1)) elem_nd ndC_len ndC_one rfl HO91.out rfl (Hsuf.out.mono HW91.out) (by have := hlt1; have := hlt2; omega) (by have := hlt1; have := hlt2; omega) (by omega) ?_
  intro v92 w92 ho92 hg92 hat92
  replace ho92 : Own w92 (wc.heap.size + 1) 32 3 ndC v92 (del p.nodes i) := ho92
  obtain ⟨A92, c92, hv92, -⟩ := Own.sl ho92
  subst hv92
  have X6n := Blk.grown (HX6.out.keep HW91.out) hg92 (fun e => by have := (HO91.out.lt _ e.symm).1; omega)
  have X2n := Blk.grown (HX2'.out.keep HW91.out) hg92 (fun e => by have := (HO91.out.lt _ e.symm).1; omega)
  have hS : SinceB (wc.heap.size) W5 w92 := Below.grown (HW91.out.mono (by omega)) hg92 (by omega) (fun g hg => by have := (HO91.out.lt g hg).1; omega)
  have HX6n := Lib.hid X6n
  have HX2n := Lib.hid X2n
  have HO92 := Lib.hid ho92
  obtain ⟨-, n0, n1, n2, nf0, nf1, nf2⟩ := X6n.facts3
  clear X6n X2n ho92 hg92 hat92
  clear HSrg
  refine hK.out _ _ hS (fun _ => ?_)
  clear hK K
  try simp only [Act.put, List.setIfInBounds_toArray, List.set_cons_zero, List.set_cons_succ]
  refine rg_take (i := 12) (get_of Hops rfl) hS ?_
  apply Exists.intro
  apply And.intro
  · refine .inl ⟨(wanted_plain rfl), fun wq hq => ?_⟩
    clear hq
    go_simp
    try rfl
  try simp only [Act.put, List.setIfInBounds_toArray, List.set_cons_zero, List.set_cons_succ]
  refine rg_call (i := 13) (get_of Hops rfl) (fun K hK => ?_)
  have HSrg := Lib.hid hS; clear hS
  refine rg_run (wanted_plain rfl) ?_
  go_simp
  refine hK.out _ _ (bSB HSrg.out ?_ _) ?_
  · omega
  intro hS
  clear hK K HSrg
  try simp only [Act.put, List.setIfInBounds_toArray, List.set_cons_zero, List.set_cons_succ]
  refine rg_done ?_
  refine HQrg.down _ _ ?_
  have hB : Below (wc.heap.size) W5 _ := hS
  clear hS HQrg Hops
  obtain ⟨W6, hW6⟩ : ∃ W6 : World, W6 = w92.setCell ⟨wc.heap.size, 0, none⟩ (.slice A92 (del p.nodes i).length c92) := ⟨_, rfl⟩
  have hB6 : Below wc.heap.size wc W6 := by rw [hW6]; exact hB5'.trans hB
  have Y6 : Blk W6 wc.heap.size 26 #[.slice A92 (del p.nodes i).length c92, .slice Aa bl.length ca, .slice Af p.faces.length cf] := by
    rw [hW6]
    have h := Blk.set_ HX6n.out 0 (.slice A92 (del p.nodes i).length c92)
    simpa using h
  have Y2 : Blk W6 w.heap.size 26 #[.slice An p.nodes.length cn, .slice Aa bl.length ca, .slice Af p.faces.length cf] := HX2c.out.keep hB6
  have ho6 : Own W6 (wc.heap.size + 1) 32 3 ndC (.slice A92 (del p.nodes i).length c92) (del p.nodes i) := by
    rw [hW6]
    exact HO92.out.far (p := ⟨wc.heap.size, 0, none⟩) (fun e => by have := (HO92.out.lt _ e).1; simp only [] at this; omega) _
  rw [← hW6]
  have HB6 := Lib.hid (bT HBc.out hB6)
  have HQ : Hid (PlV W6 (.agg #[.slice A92 (del p.nodes i).length c92, .slice Aa bl.length ca, .slice Af p.faces.length cf]) ⟨del p.nodes i, p.arcs, p.faces⟩) := Lib.hid (by
    refine PlV.blocks (al := bl.map svA) ?_ (Own.sl ho6) ?_ ?_ (HF.out.mono HB6.out)
    · show p.arcs = _
      rw [Hres.out, List.map_map]
      rfl
    · rw [arS_flat, List.length_map]
      exact HRa.out.mono HB6.out
    · intro k hk
      rw [List.length_map] at hk
      rw [List.getElem_map]
      exact (HVk.out k hk).mono HB6.out)
  have hcq := check_node p HVd.out i hi
  have hdb := degS_bd p.arcs p.nodes[i].id
  have TCQ : Hid (∀ W, Below W6.heap.size W6 W → Calls Try.prog 21 #[.agg #[.slice A92 (del p.nodes i).length c92, .slice Aa bl.length ca, .slice Af p.faces.length cf]] W fun e w' => e = .returned (.int .i64 (if 0 < degS p.arcs p.nodes[i].id then 7 else 0)) ∧ Below W.heap.size W w') := Lib.hid fun W hW => by
    have h := Check_spec _ _ W (HQ.out.mono hW)
    rw [hcq] at h
    exact h
  have TDP : Hid (∀ W, Below W6.heap.size W6 W → Calls Try.prog 19 #[.agg #[.slice An p.nodes.length cn, .slice Aa bl.length ca, .slice Af p.faces.length cf], .int .i64 p.nodes[i].id] W fun e w' => e = .returned (.int .i64 (degS p.arcs p.nodes[i].id)) ∧ Below W.heap.size W w') := Lib.hid fun W hW => Degree_spec _ _ _ W (HP.out.mono (bT HB6.out hW)) (by have := Hpl.out; omega)
  obtain ⟨Az, cz, hez, -, -, hRz⟩ := HRn.out
  injection hez with e1 e2 e3
  subst e1 e3
  clear e2
  obtain ⟨bz, oz, rfl, hlz, z0, -, -⟩ := hRz.nd hi
  have c0 := keepc HB6.out z0
  have hlz4 : bz < W6.heap.size := by have := HB6.out.size; omega
  generalize degS p.arcs p.nodes[i].id = D2 at *
  generalize p.nodes[i].id = nid at *
  clear hW6 hB ho6 hcq hRz z0 hlz hrun1 hrun2 hw1 n0 n1 n2 nf0 nf1 nf2 hB6 X2'l X2'a X2'b X2'c X6l X6a X6b X6c X6fa X6fb X6fc X2' X6 X2
  try clear Y2l
  try clear Y2a
  try clear Y2b
  try clear Y2c
  try clear Y2fa
  try clear Y2fb
  try clear Y2fc
  obtain ⟨Y2l, Y2a, Y2b, Y2c, -, -, -⟩ := Y2.facts3
  try clear Y6l
  try clear Y6a
  try clear Y6b
  try clear Y6c
  try clear Y6fa
  try clear Y6fb
  try clear Y6fc
  obtain ⟨Y6l, Y6a, Y6b, Y6c, -, -, -⟩ := Y6.facts3
  by_cases hd : 0 < D2
  · go_upto_region 14 with fail
    rw [if_pos hd] at TCQ
    refine rg_start (Since W6) (.take 0 1 (.take 1 3 (.take 2 7 (.take 3 15 (.take 4 31 (.take 5 63 (.take 6 127 (.call 7 255 (.take 8 511 (.done)))))))))) (by kernel_rfl) (bD (bR _)) (by kernel_rfl) (by kernel_rfl) (Nat.le_of_ble_eq_true (by kernel_rfl)) ?_
    intro opsR QR Hops HQrg hS
    refine rg_take (i := 0) (get_of Hops rfl) hS ?_
    apply Exists.intro
    apply And.intro
    · refine .inl ⟨(wanted_plain rfl), fun wq hq => ?_⟩
      have hq' : Below W6.heap.size W6 wq := hq
      obtain ⟨hqc, -⟩ := bcell hq'
      clear hq hq'
      go_simp
      try rfl
    try simp only [Act.put, List.setIfInBounds_toArray, List.set_cons_zero, List.set_cons_succ]
    refine rg_take (i := 1) (get_of Hops rfl) hS ?_
    apply Exists.intro
    apply And.intro
    · refine .inl ⟨(wanted_plain rfl), fun wq hq => ?_⟩
      clear hq
      go_simp
      try rfl
    try simp only [Act.put, List.setIfInBounds_toArray, List.set_cons_zero, List.set_cons_succ]
    refine rg_take (i := 2) (get_of Hops rfl) hS ?_
    apply Exists.intro
    apply And.intro
    · refine .inl ⟨(wanted_plain rfl), fun wq hq => ?_⟩
      have hq' : Below W6.heap.size W6 wq := hq
      obtain ⟨hqc, -⟩ := bcell hq'
      clear hq hq'
      go_simp
      try rfl
    try simp only [Act.put, List.setIfInBounds_toArray, List.set_cons_zero, List.set_cons_succ]
    refine rg_take (i := 3) (get_of Hops rfl) hS ?_
    apply Exists.intro
    apply And.intro
    · refine .inl ⟨(wanted_plain rfl), fun wq hq => ?_⟩
      clear hq
      go_simp
      try rfl
    try simp only [Act.put, List.setIfInBounds_toArray, List.set_cons_zero, List.set_cons_succ]
    refine rg_take (i := 4) (get_of Hops rfl) hS ?_
    apply Exists.intro
    apply And.intro
    · refine .inl ⟨(wanted_plain rfl), fun wq hq => ?_⟩
      clear hq
      go_simp
      try rfl
    try simp only [Act.put, List.setIfInBounds_toArray, List.set_cons_zero, List.set_cons_succ]
    refine rg_take (i := 5) (get_of Hops rfl) hS ?_
    apply Exists.intro
    apply And.intro
    · refine .inl ⟨(wanted_plain rfl), fun wq hq => ?_⟩
      clear hq
      go_simp
      try rfl
    try simp only [Act.put, List.setIfInBounds_toArray, List.set_cons_zero, List.set_cons_succ]
    refine rg_take (i := 6) (get_of Hops rfl) hS ?_
    apply Exists.intro
    apply And.intro
    · refine .inl ⟨(wanted_plain rfl), fun wq hq => ?_⟩
      have hq' : Below W6.heap.size W6 wq := hq
      obtain ⟨hqc, -⟩ := bcell hq'
      clear hq hq'
      go_simp
      try rfl
    try simp only [Act.put, List.setIfInBounds_toArray, List.set_cons_zero, List.set_cons_succ]
    refine rg_call (i := 7) (get_of Hops rfl) (fun K hK => ?_)
    have HSrg := Lib.hid hS; clear hS
    refine rg_run (wanted_plain rfl) ?_
    go_simp
    refine (TDP.out _ HSrg.out).mono ?_
    rintro e wr1 ⟨rfl, hbr1⟩
    have hS : Since W6 wr1 := bT (w := W6) HSrg.out hbr1
    clear HSrg
    refine hK.out _ _ hS (fun _ => ?_)
    clear hK K
    try simp only [Act.put, List.setIfInBounds_toArray, List.set_cons_zero, List.set_cons_succ]
    refine rg_take (i := 8) (get_of Hops rfl) hS ?_
    apply Exists.intro
    apply And.intro
    · refine .inl ⟨(wanted_plain rfl), fun wq hq => ?_⟩
      clear hq
      go_simp
      try rfl
    try simp only [Act.put, List.setIfInBounds_toArray, List.set_cons_zero, List.set_cons_succ]
    refine rg_done ?_
    refine HQrg.down _ _ ?_
    have hB : Below W6.heap.size W6 wr1 := hS
    clear hS HQrg Hops
    replace Y6 := Y6.keep hB
    have HBf := Lib.hid (bT HB6.out hB)
    have hBf := Lib.hid hB
    clear hB Y2 Y2l Y2a Y2b Y2c Y6l Y6a Y6b Y6c
    try clear Y6l
    try clear Y6a
    try clear Y6b
    try clear Y6c
    try clear Y6fa
    try clear Y6fb
    try clear Y6fc
    obtain ⟨Y6l, Y6a, Y6b, Y6c, -, -, -⟩ := Y6.facts3
    go_wp2_with fail
    refine (TCQ.out _ hBf.out).mono ?_
    rintro e w7 ⟨rfl, hb7⟩
    go_wp2_with fail
    refine (HAw.out _).mono ?_
    rintro e w8 ⟨rfl, hb8⟩
    go_wp2_with fail
    go_ret
    exact ⟨rfl, bT HBf.out (bT hb7 hb8)⟩
  · go_upto_region 14 with fail
    rw [if_neg hd] at TCQ
    refine rg_start (Since W6) (.take 0 1 (.take 1 3 (.take 2 7 (.take 3 15 (.take 4 31 (.take 5 63 (.take 6 127 (.call 7 255 (.take 8 511 (.done)))))))))) (by kernel_rfl) (bD (bR _)) (by kernel_rfl) (by kernel_rfl) (Nat.le_of_ble_eq_true (by kernel_rfl)) ?_
    intro opsR QR Hops HQrg hS
    refine rg_take (i := 0) (get_of Hops rfl) hS ?_
    apply Exists.intro
    apply And.intro
    · refine .inl ⟨(wanted_plain rfl), fun wq hq => ?_⟩
      have hq' : Below W6.heap.size W6 wq := hq
      obtain ⟨hqc, -⟩ := bcell hq'
      clear hq hq'
      go_simp
      try rfl
    try simp only [Act.put, List.setIfInBounds_toArray, List.set_cons_zero, List.set_cons_succ]
    refine rg_take (i := 1) (get_of Hops rfl) hS ?_
    apply Exists.intro
    apply And.intro
    · refine .inl ⟨(wanted_plain rfl), fun wq hq => ?_⟩
      clear hq
      go_simp
      try rfl
    try simp only [Act.put, List.setIfInBounds_toArray, List.set_cons_zero, List.set_cons_succ]
    refine rg_take (i := 2) (get_of Hops rfl) hS ?_
    apply Exists.intro
    apply And.intro
    · refine .inl ⟨(wanted_plain rfl), fun wq hq => ?_⟩
      have hq' : Below W6.heap.size W6 wq := hq
      obtain ⟨hqc, -⟩ := bcell hq'
      clear hq hq'
      go_simp
      try rfl
    try simp only [Act.put, List.setIfInBounds_toArray, List.set_cons_zero, List.set_cons_succ]
    refine rg_take (i := 3) (get_of Hops rfl) hS ?_
    apply Exists.intro
    apply And.intro
    · refine .inl ⟨(wanted_plain rfl), fun wq hq => ?_⟩
      clear hq
      go_simp
      try rfl
    try simp only [Act.put, List.setIfInBounds_toArray, List.set_cons_zero, List.set_cons_succ]
    refine rg_take (i := 4) (get_of Hops rfl) hS ?_
    apply Exists.intro
    apply And.intro
    · refine .inl ⟨(wanted_plain rfl), fun wq hq => ?_⟩
      clear hq
      go_simp
      try rfl
    try simp only [Act.put, List.setIfInBounds_toArray, List.set_cons_zero, List.set_cons_succ]
    refine rg_take (i := 5) (get_of Hops rfl) hS ?_
    apply Exists.intro
    apply And.intro
    · refine .inl ⟨(wanted_plain rfl), fun wq hq => ?_⟩
      clear hq
      go_simp
      try rfl
    try simp only [Act.put, List.setIfInBounds_toArray, List.set_cons_zero, List.set_cons_succ]
    refine rg_take (i := 6) (get_of Hops rfl) hS ?_
    apply Exists.intro
    apply And.intro
    · refine .inl ⟨(wanted_plain rfl), fun wq hq => ?_⟩
      have hq' : Below W6.heap.size W6 wq := hq
      obtain ⟨hqc, -⟩ := bcell hq'
      clear hq hq'
      go_simp
      try rfl
    try simp only [Act.put, List.setIfInBounds_toArray, List.set_cons_zero, List.set_cons_succ]
    refine rg_call (i := 7) (get_of Hops rfl) (fun K hK => ?_)
    have HSrg := Lib.hid hS; clear hS
    refine rg_run (wanted_plain rfl) ?_
    go_simp
    refine (TDP.out _ HSrg.out).mono ?_
    rintro e wr1 ⟨rfl, hbr1⟩
    have hS : Since W6 wr1 := bT (w := W6) HSrg.out hbr1
    clear HSrg
    refine hK.out _ _ hS (fun _ => ?_)
    clear hK K
    try simp only [Act.put, List.setIfInBounds_toArray, List.set_cons_zero, List.set_cons_succ]
    refine rg_take (i := 8) (get_of Hops rfl) hS ?_
    apply Exists.intro
    apply And.intro
    · refine .inl ⟨(wanted_plain rfl), fun wq hq => ?_⟩
      clear hq
      go_simp
      try rfl
    try simp only [Act.put, List.setIfInBounds_toArray, List.set_cons_zero, List.set_cons_succ]
    refine rg_done ?_
    refine HQrg.down _ _ ?_
    have hB : Below W6.heap.size W6 wr1 := hS
    clear hS HQrg Hops
    replace Y6 := Y6.keep hB
    have HBf := Lib.hid (bT HB6.out hB)
    have hBf := Lib.hid hB
    clear hB Y2 Y2l Y2a Y2b Y2c Y6l Y6a Y6b Y6c
    try clear Y6l
    try clear Y6a
    try clear Y6b
    try clear Y6c
    try clear Y6fa
    try clear Y6fb
    try clear Y6fc
    obtain ⟨Y6l, Y6a, Y6b, Y6c, -, -, -⟩ := Y6.facts3
    go_wp2_with fail
    refine (TCQ.out _ hBf.out).mono ?_
    rintro e w7 ⟨rfl, hb7⟩
    go_wp2_with fail
    refine (HAw.out _).mono ?_
    rintro e w8 ⟨rfl, hb8⟩
    go_wp2_with fail
    go_ret
    exact ⟨rfl, bT HBf.out (bT hb7 hb8)⟩
end Go.Proofs.Ytibchmofckhofaa
