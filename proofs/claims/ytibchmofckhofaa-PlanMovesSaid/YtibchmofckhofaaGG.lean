/- plan.Bounds$1: the captured box grows by a point. plan.Bounds. -/
import Derived.Test.YtibchmofckhofaaPlanY
set_option linter.unusedSimpArgs false
set_option linter.unusedVariables false
namespace Go.Proofs.Ytibchmofckhofaa
open Go.RowKit

theorem gS {w0 w1 : World} {g : Nat} (h : w0.grownBy w1 (some g)) (i : Nat) (u : Value) : w0.grownBy (w1.setCell ⟨g, i, none⟩ u) (some g) := by
  refine gT h ⟨rfl, rfl, rfl, ?_, fun j _ hne => ?_⟩
  · simp
  · exact Below.heap_setCell w1 ⟨g, i, none⟩ u j (fun e => hne (by rw [e]))

def addS (e : Bool) (x : Bx) (p : Pt) : Bx := if e then ⟨p.x, p.y, p.x, p.y⟩ else ⟨min x.x0 p.x, min x.y0 p.y, max x.x1 p.x, max x.y1 p.y⟩
def bxC (x : Bx) : Array Value := #[.int .i64 x.x0, .int .i64 x.y0, .int .i64 x.x1, .int .i64 x.y1]

set_option maxRecDepth 100000 in
set_option maxHeartbeats 2000000 in
theorem add_spec (p : Pt) (e : Bool) (x : Bx) (ge gx B : Nat) (w : World) (he : Blk w ge 4 #[.bool e]) (hx : Blk w gx 57 (bxC x)) (h1 : B ≤ ge) (h2 : B ≤ gx) :
    Calls Try.prog 48 #[ptV p, .pointer (some ⟨ge, 0, none⟩), .pointer (some ⟨gx, 0, none⟩)] w fun r w' => r = .returned (.tuple #[]) ∧ Below B w w' ∧ Blk w' ge 4 #[.bool false] ∧ Blk w' gx 57 (bxC (addS e x p)) := by
  have hne : ge ≠ gx := Blk.ne_ he hx (by decide)
  have hne' : gx ≠ ge := fun e => hne e.symm
  unfold ptV
  have HE := Lib.hid he; have HX := Lib.hid hx
  have hlt := hx.lt
  have hlt' := he.lt
  go_enter Try.func48, Try.ntmps48
  try clear hel
  try clear hea
  try clear hefa
  obtain ⟨hel, hea, hefa⟩ := he.facts1
  go_upto_if 4 with fail
  obtain ⟨W1, hW1⟩ : ∃ W1 : World, W1 = w.alloc (.cells #[.int .i64 p.x, .int .i64 p.y] 30) := ⟨_, rfl⟩
  have hA1 : Below w.heap.size w W1 := by rw [hW1]; exact bA (bR w) _
  have HB1 := Lib.hid (show Below B w W1 by rw [hW1]; exact (Below.refl _ _).alloc (by omega) _)
  have X3 : Blk W1 w.heap.size 30 #[.int .i64 p.x, .int .i64 p.y] := by rw [hW1]; exact Blk.made rfl _ _
  rw [← hW1]
  replace HE := Lib.hid (HE.out.keep hA1)
  replace HX := Lib.hid (HX.out.keep hA1)
  have n3 : ¬ w.heap.size = gx := by omega
  have n4 : ¬ w.heap.size = ge := by omega
  clear hW1 hA1 hx
  try clear he hel hea hefa
  go_cut [4] (fun u wx => ∃ x' : Bx, addS false x' p = addS e x p ∧ Blk wx ge 4 #[.bool false] ∧ Blk wx gx 57 (bxC x') ∧ Blk wx w.heap.size 30 #[.int .i64 p.x, .int .i64 p.y] ∧ Below B w wx)
  case first =>
    cases e
    · go_wp2_with fail
      go_meet
      case rel => exact ⟨x, rfl, HE.out, HX.out, X3, HB1.out⟩
    · have hx := HX.out
      have he := HE.out
      unfold bxC at hx
      try clear hxl
      try clear hxa
      try clear hxb
      try clear hxc
      try clear hxd
      try clear hxfa
      try clear hxfb
      try clear hxfc
      try clear hxfd
      obtain ⟨hxl, hxa, hxb, hxc, hxd, hxfa, hxfb, hxfc, hxfd⟩ := hx.facts4
      try clear hel
      try clear hea
      try clear hefa
      obtain ⟨hel, hea, hefa⟩ := he.facts1
      try clear X3l
      try clear X3a
      try clear X3b
      try clear X3fa
      try clear X3fb
      obtain ⟨X3l, X3a, X3b, -, -⟩ := X3.facts2
      go_wp2_with fail
      go_meet
      case rel =>
        refine ⟨⟨p.x, p.y, p.x, p.y⟩, ?_, ?_, ?_, ?_, ?_⟩
        · simp [addS]
        · exact Blk.put1 ((((HE.out.far (p := ⟨gx, 0, none⟩) hne _).far (p := ⟨gx, 1, none⟩) hne _).far (p := ⟨gx, 2, none⟩) hne _).far (p := ⟨gx, 3, none⟩) hne _)
        · exact Blk.far (Blk.put4 hx) (p := ⟨ge, 0, none⟩) hne' _
        · exact ((((X3.far (p := ⟨gx, 0, none⟩) n3 _).far (p := ⟨gx, 1, none⟩) n3 _).far (p := ⟨gx, 2, none⟩) n3 _).far (p := ⟨gx, 3, none⟩) n3 _).far (p := ⟨ge, 0, none⟩) n4 _
        · exact ((((HB1.out.setCell (p := ⟨gx, 0, none⟩) h2 _).setCell (p := ⟨gx, 1, none⟩) h2 _).setCell (p := ⟨gx, 2, none⟩) h2 _).setCell (p := ⟨gx, 3, none⟩) h2 _).setCell (p := ⟨ge, 0, none⟩) h1 _
  case rest =>
  obtain ⟨x', hx', he2, hx2, X3', hb2⟩ := hcut
  have Hx' := Lib.hid hx'
  have HE2 := Lib.hid he2
  have HX2 := Lib.hid hx2
  have Hb2 := Lib.hid hb2
  replace X3 := Lib.hid X3'
  clear hx' he2 X3' HE HX HB1 hb2
  unfold bxC at hx2
  have X3r := X3.out
  try clear hx2l
  try clear hx2a
  try clear hx2b
  try clear hx2c
  try clear hx2d
  try clear hx2fa
  try clear hx2fb
  try clear hx2fc
  try clear hx2fd
  obtain ⟨hx2l, hx2a, hx2b, hx2c, hx2d, hx2fa, hx2fb, hx2fc, hx2fd⟩ := hx2.facts4
  try clear X3rl
  try clear X3ra
  try clear X3rb
  try clear X3rfa
  try clear X3rfb
  obtain ⟨X3rl, X3ra, X3rb, -, -⟩ := X3r.facts2
  go_upto_region 4 with fail
  go_cut [14] (fun u wx => Blk wx ge 4 #[.bool false] ∧ Blk wx gx 57 (bxC ⟨min x'.x0 p.x, x'.y0, max x'.x1 p.x, x'.y1⟩) ∧ Blk wx w.heap.size 30 #[.int .i64 p.x, .int .i64 p.y] ∧ Below B w wx)
  case first =>
    obtain ⟨m1, hm1⟩ : ∃ m1 : Int, m1 = if p.x < x'.x0 then p.x else x'.x0 := ⟨_, rfl⟩
    obtain ⟨m2, hm2⟩ : ∃ m2 : Int, m2 = if x'.x1 < p.x then p.x else x'.x1 := ⟨_, rfl⟩
    have hfin : Blk (((wc.setCell ⟨gx, 0, none⟩ (.int .i64 m1)).setCell ⟨gx, 2, none⟩ (.int .i64 m2))).drew ge 4 #[.bool false] ∧ Blk (((wc.setCell ⟨gx, 0, none⟩ (.int .i64 m1)).setCell ⟨gx, 2, none⟩ (.int .i64 m2))).drew gx 57 (bxC ⟨min x'.x0 p.x, x'.y0, max x'.x1 p.x, x'.y1⟩) ∧ Blk (((wc.setCell ⟨gx, 0, none⟩ (.int .i64 m1)).setCell ⟨gx, 2, none⟩ (.int .i64 m2))).drew w.heap.size 30 #[.int .i64 p.x, .int .i64 p.y] ∧ Below B w (((wc.setCell ⟨gx, 0, none⟩ (.int .i64 m1)).setCell ⟨gx, 2, none⟩ (.int .i64 m2))).drew := by
      refine ⟨((HE2.out.far (p := ⟨gx, 0, none⟩) hne _).far (p := ⟨gx, 2, none⟩) hne _).drew, ?_, ((X3.out.far (p := ⟨gx, 0, none⟩) n3 _).far (p := ⟨gx, 2, none⟩) n3 _).drew, ((Hb2.out.setCell (p := ⟨gx, 0, none⟩) h2 _).setCell (p := ⟨gx, 2, none⟩) h2 _).drew⟩
      have h := Blk.set_ (Blk.set_ hx2 0 (.int .i64 m1)) 2 (.int .i64 m2)
      have e1 : min x'.x0 p.x = m1 := by rw [hm1]; split <;> omega
      have e2 : max x'.x1 p.x = m2 := by rw [hm2]; split <;> omega
      rw [e1, e2]
      refine Blk.drew ?_
      simpa [bxC] using h
    have Hfin := Lib.hid hfin
    have Hm1 := Lib.hid hm1; have Hm2 := Lib.hid hm2
    clear hfin hm1 hm2
    go_upto_region 4 with fail
    refine rg_start (SinceX wc (some gx)) (.take 0 1 (.take 2 5 (.take 3 13 (.take 5 45 (.take 7 173 (.take 8 429 (.two 1 431 (.take 4 447 (.call 6 511 (.take 9 1023 (.take 10 2047 (.call 11 4095 (.take 12 8191 (.call 13 16383 (.done)))))))) 6 493 (.take 9 1005 (.call 1 1007 (.take 4 1023 (.take 10 2047 (.call 11 4095 (.take 12 8191 (.call 13 16383 (.done))))))))))))))) (by kernel_rfl) (gD (gR _ _)) (by kernel_rfl) (by kernel_rfl) (Nat.le_of_ble_eq_true (by kernel_rfl)) ?_
    intro opsR QR Hops HQrg hS
    refine rg_take (i := 0) (get_of Hops rfl) hS ?_
    apply Exists.intro
    apply And.intro
    · refine .inl ⟨(wanted_plain rfl), fun wq hq => ?_⟩
      clear hq
      go_simp
      try rfl
    try simp only [Act.put, List.setIfInBounds_toArray, List.set_cons_zero, List.set_cons_succ]
    refine rg_take (i := 2) (get_of Hops rfl) hS ?_
    apply Exists.intro
    apply And.intro
    · refine .inl ⟨(wanted_plain rfl), fun wq hq => ?_⟩
      clear hq
      go_simp
      try rfl
    try simp only [Act.put, List.setIfInBounds_toArray, List.set_cons_zero, List.set_cons_succ]
    refine rg_take (i := 3) (get_of Hops rfl) hS ?_
    apply Exists.intro
    apply And.intro
    · refine .inl ⟨(wanted_plain rfl), fun wq hq => ?_⟩
      have hq' : wc.grownBy wq (some gx) := hq
      obtain ⟨hqc, -⟩ := xcell hq'
      clear hq hq'
      go_simp
      try rfl
    try simp only [Act.put, List.setIfInBounds_toArray, List.set_cons_zero, List.set_cons_succ]
    refine rg_take (i := 5) (get_of Hops rfl) hS ?_
    apply Exists.intro
    apply And.intro
    · refine .inl ⟨(wanted_plain rfl), fun wq hq => ?_⟩
      clear hq
      go_simp
      try rfl
    try simp only [Act.put, List.setIfInBounds_toArray, List.set_cons_zero, List.set_cons_succ]
    refine rg_take (i := 7) (get_of Hops rfl) hS ?_
    apply Exists.intro
    apply And.intro
    · refine .inl ⟨(wanted_plain rfl), fun wq hq => ?_⟩
      clear hq
      go_simp
      try rfl
    try simp only [Act.put, List.setIfInBounds_toArray, List.set_cons_zero, List.set_cons_succ]
    refine rg_take (i := 8) (get_of Hops rfl) hS ?_
    apply Exists.intro
    apply And.intro
    · refine .inl ⟨(wanted_plain rfl), fun wq hq => ?_⟩
      have hq' : wc.grownBy wq (some gx) := hq
      obtain ⟨hqc, -⟩ := xcell hq'
      clear hq hq'
      go_simp
      try rfl
    try simp only [Act.put, List.setIfInBounds_toArray, List.set_cons_zero, List.set_cons_succ]
    refine rg_two (i := 1) (j := 6) (get_of Hops rfl) (get_of Hops rfl) (fun K hK => ?_) (fun K hK => ?_)
    -- operation 1 first
    ·
      have HSrg := Lib.hid hS; clear hS
      refine rg_run (wanted_plain rfl) ?_
      go_simp
      refine hK.out _ _ HSrg.out (fun hS => ?_)
      clear hK K HSrg
      try simp only [Act.put, List.setIfInBounds_toArray, List.set_cons_zero, List.set_cons_succ]
      refine rg_take (i := 4) (get_of Hops rfl) hS ?_
      apply Exists.intro
      apply And.intro
      · refine .inl ⟨(wanted_plain rfl), fun wq hq => ?_⟩
        clear hq
        go_simp
        try rfl
      try simp only [Act.put, List.setIfInBounds_toArray, List.set_cons_zero, List.set_cons_succ]
      refine rg_call (i := 6) (get_of Hops rfl) (fun K hK => ?_)
      have HSrg := Lib.hid hS; clear hS
      refine rg_run (wanted_plain rfl) ?_
      go_simp
      refine hK.out _ _ HSrg.out (fun hS => ?_)
      clear hK K HSrg
      try simp only [Act.put, List.setIfInBounds_toArray, List.set_cons_zero, List.set_cons_succ]
      refine rg_take (i := 9) (get_of Hops rfl) hS ?_
      apply Exists.intro
      apply And.intro
      · refine .inl ⟨(wanted_plain rfl), fun wq hq => ?_⟩
        clear hq
        go_simp
        try rfl
      try simp only [Act.put, List.setIfInBounds_toArray, List.set_cons_zero, List.set_cons_succ]
      refine rg_take (i := 10) (get_of Hops rfl) hS ?_
      apply Exists.intro
      apply And.intro
      · refine .inl ⟨(wanted_plain rfl), fun wq hq => ?_⟩
        clear hq
        go_simp
        try rfl
      try simp only [Act.put, List.setIfInBounds_toArray, List.set_cons_zero, List.set_cons_succ]
      refine rg_call (i := 11) (get_of Hops rfl) (fun K hK => ?_)
      have HSrg := Lib.hid hS; clear hS
      refine rg_run (wanted_plain rfl) ?_
      go_simp
      refine hK.out _ _ (gS HSrg.out _ _) (fun hS => ?_)
      clear hK K HSrg
      try simp only [Act.put, List.setIfInBounds_toArray, List.set_cons_zero, List.set_cons_succ]
      refine rg_take (i := 12) (get_of Hops rfl) hS ?_
      apply Exists.intro
      apply And.intro
      · refine .inl ⟨(wanted_plain rfl), fun wq hq => ?_⟩
        clear hq
        go_simp
        try rfl
      try simp only [Act.put, List.setIfInBounds_toArray, List.set_cons_zero, List.set_cons_succ]
      refine rg_call (i := 13) (get_of Hops rfl) (fun K hK => ?_)
      have HSrg := Lib.hid hS; clear hS
      refine rg_run (wanted_plain rfl) ?_
      go_simp
      refine hK.out _ _ (gS HSrg.out _ _) (fun hS => ?_)
      clear hK K HSrg
      try simp only [Act.put, List.setIfInBounds_toArray, List.set_cons_zero, List.set_cons_succ]
      refine rg_done ?_
      refine HQrg.down _ _ ?_
      have hB : wc.grownBy _ (some gx) := hS
      clear hS HQrg Hops
      rw [← Hm1.out, ← Hm2.out]
      go_wp2_with fail
      go_meet
      case rel => exact Hfin.out
    -- operation 6 first
    ·
      have HSrg := Lib.hid hS; clear hS
      refine rg_run (wanted_plain rfl) ?_
      go_simp
      refine hK.out _ _ HSrg.out (fun hS => ?_)
      clear hK K HSrg
      try simp only [Act.put, List.setIfInBounds_toArray, List.set_cons_zero, List.set_cons_succ]
      refine rg_take (i := 9) (get_of Hops rfl) hS ?_
      apply Exists.intro
      apply And.intro
      · refine .inl ⟨(wanted_plain rfl), fun wq hq => ?_⟩
        clear hq
        go_simp
        try rfl
      try simp only [Act.put, List.setIfInBounds_toArray, List.set_cons_zero, List.set_cons_succ]
      refine rg_call (i := 1) (get_of Hops rfl) (fun K hK => ?_)
      have HSrg := Lib.hid hS; clear hS
      refine rg_run (wanted_plain rfl) ?_
      go_simp
      refine hK.out _ _ HSrg.out (fun hS => ?_)
      clear hK K HSrg
      try simp only [Act.put, List.setIfInBounds_toArray, List.set_cons_zero, List.set_cons_succ]
      refine rg_take (i := 4) (get_of Hops rfl) hS ?_
      apply Exists.intro
      apply And.intro
      · refine .inl ⟨(wanted_plain rfl), fun wq hq => ?_⟩
        clear hq
        go_simp
        try rfl
      try simp only [Act.put, List.setIfInBounds_toArray, List.set_cons_zero, List.set_cons_succ]
      refine rg_take (i := 10) (get_of Hops rfl) hS ?_
      apply Exists.intro
      apply And.intro
      · refine .inl ⟨(wanted_plain rfl), fun wq hq => ?_⟩
        clear hq
        go_simp
        try rfl
      try simp only [Act.put, List.setIfInBounds_toArray, List.set_cons_zero, List.set_cons_succ]
      refine rg_call (i := 11) (get_of Hops rfl) (fun K hK => ?_)
      have HSrg := Lib.hid hS; clear hS
      refine rg_run (wanted_plain rfl) ?_
      go_simp
      refine hK.out _ _ (gS HSrg.out _ _) (fun hS => ?_)
      clear hK K HSrg
      try simp only [Act.put, List.setIfInBounds_toArray, List.set_cons_zero, List.set_cons_succ]
      refine rg_take (i := 12) (get_of Hops rfl) hS ?_
      apply Exists.intro
      apply And.intro
      · refine .inl ⟨(wanted_plain rfl), fun wq hq => ?_⟩
        clear hq
        go_simp
        try rfl
      try simp only [Act.put, List.setIfInBounds_toArray, List.set_cons_zero, List.set_cons_succ]
      refine rg_call (i := 13) (get_of Hops rfl) (fun K hK => ?_)
      have HSrg := Lib.hid hS; clear hS
      refine rg_run (wanted_plain rfl) ?_
      go_simp
      refine hK.out _ _ (gS HSrg.out _ _) (fun hS => ?_)
      clear hK K HSrg
      try simp only [Act.put, List.setIfInBounds_toArray, List.set_cons_zero, List.set_cons_succ]
      refine rg_done ?_
      refine HQrg.down _ _ ?_
      have hB : wc.grownBy _ (some gx) := hS
      clear hS HQrg Hops
      rw [← Hm1.out, ← Hm2.out]
      go_wp2_with fail
      go_meet
      case rel => exact Hfin.out
  case rest =>
  obtain ⟨he2, hx3, hx4, hb3⟩ := hcut
  obtain ⟨wv, rfl⟩ : ∃ wv : World, wv = wc := ⟨_, rfl⟩
  replace HE2 := Lib.hid he2
  replace X3 := Lib.hid hx4
  replace Hb2 := Lib.hid hb3
  clear he2 hx4 hb3 hx2 hx2l hx2a hx2b hx2c hx2d hx2fa hx2fb hx2fc hx2fd X3r X3rl X3ra X3rb
  unfold bxC at hx3
  simp only [] at hx3
  have X3r := X3.out
  try clear hx3l
  try clear hx3a
  try clear hx3b
  try clear hx3c
  try clear hx3d
  try clear hx3fa
  try clear hx3fb
  try clear hx3fc
  try clear hx3fd
  obtain ⟨hx3l, hx3a, hx3b, hx3c, hx3d, hx3fa, hx3fb, hx3fc, hx3fd⟩ := hx3.facts4
  try clear X3rl
  try clear X3ra
  try clear X3rb
  try clear X3rfa
  try clear X3rfb
  obtain ⟨X3rl, X3ra, X3rb, -, -⟩ := X3r.facts2
  obtain ⟨m1, hm1⟩ : ∃ m1 : Int, m1 = if p.y < x'.y0 then p.y else x'.y0 := ⟨_, rfl⟩
  obtain ⟨m2, hm2⟩ : ∃ m2 : Int, m2 = if x'.y1 < p.y then p.y else x'.y1 := ⟨_, rfl⟩
  have hfin : Blk (((wv.setCell ⟨gx, 1, none⟩ (.int .i64 m1)).setCell ⟨gx, 3, none⟩ (.int .i64 m2))).drew ge 4 #[.bool false] ∧ Blk (((wv.setCell ⟨gx, 1, none⟩ (.int .i64 m1)).setCell ⟨gx, 3, none⟩ (.int .i64 m2))).drew gx 57 (bxC ⟨min x'.x0 p.x, min x'.y0 p.y, max x'.x1 p.x, max x'.y1 p.y⟩) ∧ Blk (((wv.setCell ⟨gx, 1, none⟩ (.int .i64 m1)).setCell ⟨gx, 3, none⟩ (.int .i64 m2))).drew w.heap.size 30 #[.int .i64 p.x, .int .i64 p.y] ∧ Below B w (((wv.setCell ⟨gx, 1, none⟩ (.int .i64 m1)).setCell ⟨gx, 3, none⟩ (.int .i64 m2))).drew := by
    refine ⟨((HE2.out.far (p := ⟨gx, 1, none⟩) hne _).far (p := ⟨gx, 3, none⟩) hne _).drew, ?_, ((X3.out.far (p := ⟨gx, 1, none⟩) n3 _).far (p := ⟨gx, 3, none⟩) n3 _).drew, ((Hb2.out.setCell (p := ⟨gx, 1, none⟩) h2 _).setCell (p := ⟨gx, 3, none⟩) h2 _).drew⟩
    have h := Blk.set_ (Blk.set_ hx3 1 (.int .i64 m1)) 3 (.int .i64 m2)
    have e1 : min x'.y0 p.y = m1 := by rw [hm1]; split <;> omega
    have e2 : max x'.y1 p.y = m2 := by rw [hm2]; split <;> omega
    rw [e1, e2]
    refine Blk.drew ?_
    simpa [bxC] using h
  have Hfin := Lib.hid hfin
  have Hm1 := Lib.hid hm1; have Hm2 := Lib.hid hm2
  clear hfin hm1 hm2
  have Hf := Lib.hid (show bxC (addS e x p) = bxC ⟨min x'.x0 p.x, min x'.y0 p.y, max x'.x1 p.x, max x'.y1 p.y⟩ by rw [← Hx'.out]; rfl)
  go_upto_region 5 with fail
  refine rg_start (SinceX wv (some gx)) (.take 0 1 (.take 2 5 (.take 3 13 (.take 5 45 (.take 7 173 (.take 8 429 (.two 1 431 (.take 4 447 (.call 6 511 (.take 9 1023 (.take 10 2047 (.call 11 4095 (.take 12 8191 (.call 13 16383 (.done)))))))) 6 493 (.take 9 1005 (.call 1 1007 (.take 4 1023 (.take 10 2047 (.call 11 4095 (.take 12 8191 (.call 13 16383 (.done))))))))))))))) (by kernel_rfl) (gD (gR _ _)) (by kernel_rfl) (by kernel_rfl) (Nat.le_of_ble_eq_true (by kernel_rfl)) ?_
  intro opsR QR Hops HQrg hS
  refine rg_take (i := 0) (get_of Hops rfl) hS ?_
  apply Exists.intro
  apply And.intro
  · refine .inl ⟨(wanted_plain rfl), fun wq hq => ?_⟩
    clear hq
    go_simp
    try rfl
  try simp only [Act.put, List.setIfInBounds_toArray, List.set_cons_zero, List.set_cons_succ]
  refine rg_take (i := 2) (get_of Hops rfl) hS ?_
  apply Exists.intro
  apply And.intro
  · refine .inl ⟨(wanted_plain rfl), fun wq hq => ?_⟩
    clear hq
    go_simp
    try rfl
  try simp only [Act.put, List.setIfInBounds_toArray, List.set_cons_zero, List.set_cons_succ]
  refine rg_take (i := 3) (get_of Hops rfl) hS ?_
  apply Exists.intro
  apply And.intro
  · refine .inl ⟨(wanted_plain rfl), fun wq hq => ?_⟩
    have hq' : wv.grownBy wq (some gx) := hq
    obtain ⟨hqc, -⟩ := xcell hq'
    clear hq hq'
    go_simp
    try rfl
  try simp only [Act.put, List.setIfInBounds_toArray, List.set_cons_zero, List.set_cons_succ]
  refine rg_take (i := 5) (get_of Hops rfl) hS ?_
  apply Exists.intro
  apply And.intro
  · refine .inl ⟨(wanted_plain rfl), fun wq hq => ?_⟩
    clear hq
    go_simp
    try rfl
  try simp only [Act.put, List.setIfInBounds_toArray, List.set_cons_zero, List.set_cons_succ]
  refine rg_take (i := 7) (get_of Hops rfl) hS ?_
  apply Exists.intro
  apply And.intro
  · refine .inl ⟨(wanted_plain rfl), fun wq hq => ?_⟩
    clear hq
    go_simp
    try rfl
  try simp only [Act.put, List.setIfInBounds_toArray, List.set_cons_zero, List.set_cons_succ]
  refine rg_take (i := 8) (get_of Hops rfl) hS ?_
  apply Exists.intro
  apply And.intro
  · refine .inl ⟨(wanted_plain rfl), fun wq hq => ?_⟩
    have hq' : wv.grownBy wq (some gx) := hq
    obtain ⟨hqc, -⟩ := xcell hq'
    clear hq hq'
    go_simp
    try rfl
  try simp only [Act.put, List.setIfInBounds_toArray, List.set_cons_zero, List.set_cons_succ]
  refine rg_two (i := 1) (j := 6) (get_of Hops rfl) (get_of Hops rfl) (fun K hK => ?_) (fun K hK => ?_)
  -- operation 1 first
  ·
    have HSrg := Lib.hid hS; clear hS
    refine rg_run (wanted_plain rfl) ?_
    go_simp
    refine hK.out _ _ HSrg.out (fun hS => ?_)
    clear hK K HSrg
    try simp only [Act.put, List.setIfInBounds_toArray, List.set_cons_zero, List.set_cons_succ]
    refine rg_take (i := 4) (get_of Hops rfl) hS ?_
    apply Exists.intro
    apply And.intro
    · refine .inl ⟨(wanted_plain rfl), fun wq hq => ?_⟩
      clear hq
      go_simp
      try rfl
    try simp only [Act.put, List.setIfInBounds_toArray, List.set_cons_zero, List.set_cons_succ]
    refine rg_call (i := 6) (get_of Hops rfl) (fun K hK => ?_)
    have HSrg := Lib.hid hS; clear hS
    refine rg_run (wanted_plain rfl) ?_
    go_simp
    refine hK.out _ _ HSrg.out (fun hS => ?_)
    clear hK K HSrg
    try simp only [Act.put, List.setIfInBounds_toArray, List.set_cons_zero, List.set_cons_succ]
    refine rg_take (i := 9) (get_of Hops rfl) hS ?_
    apply Exists.intro
    apply And.intro
    · refine .inl ⟨(wanted_plain rfl), fun wq hq => ?_⟩
      clear hq
      go_simp
      try rfl
    try simp only [Act.put, List.setIfInBounds_toArray, List.set_cons_zero, List.set_cons_succ]
    refine rg_take (i := 10) (get_of Hops rfl) hS ?_
    apply Exists.intro
    apply And.intro
    · refine .inl ⟨(wanted_plain rfl), fun wq hq => ?_⟩
      clear hq
      go_simp
      try rfl
    try simp only [Act.put, List.setIfInBounds_toArray, List.set_cons_zero, List.set_cons_succ]
    refine rg_call (i := 11) (get_of Hops rfl) (fun K hK => ?_)
    have HSrg := Lib.hid hS; clear hS
    refine rg_run (wanted_plain rfl) ?_
    go_simp
    refine hK.out _ _ (gS HSrg.out _ _) (fun hS => ?_)
    clear hK K HSrg
    try simp only [Act.put, List.setIfInBounds_toArray, List.set_cons_zero, List.set_cons_succ]
    refine rg_take (i := 12) (get_of Hops rfl) hS ?_
    apply Exists.intro
    apply And.intro
    · refine .inl ⟨(wanted_plain rfl), fun wq hq => ?_⟩
      clear hq
      go_simp
      try rfl
    try simp only [Act.put, List.setIfInBounds_toArray, List.set_cons_zero, List.set_cons_succ]
    refine rg_call (i := 13) (get_of Hops rfl) (fun K hK => ?_)
    have HSrg := Lib.hid hS; clear hS
    refine rg_run (wanted_plain rfl) ?_
    go_simp
    refine hK.out _ _ (gS HSrg.out _ _) (fun hS => ?_)
    clear hK K HSrg
    try simp only [Act.put, List.setIfInBounds_toArray, List.set_cons_zero, List.set_cons_succ]
    refine rg_done ?_
    refine HQrg.down _ _ ?_
    have hB : wv.grownBy _ (some gx) := hS
    clear hS HQrg Hops
    rw [← Hm1.out, ← Hm2.out]
    go_wp2_with fail
    go_end0
    exact ⟨rfl, Hfin.out.2.2.2, Hfin.out.1, by rw [Hf.out]; exact Hfin.out.2.1⟩
  -- operation 6 first
  ·
    have HSrg := Lib.hid hS; clear hS
    refine rg_run (wanted_plain rfl) ?_
    go_simp
    refine hK.out _ _ HSrg.out (fun hS => ?_)
    clear hK K HSrg
    try simp only [Act.put, List.setIfInBounds_toArray, List.set_cons_zero, List.set_cons_succ]
    refine rg_take (i := 9) (get_of Hops rfl) hS ?_
    apply Exists.intro
    apply And.intro
    · refine .inl ⟨(wanted_plain rfl), fun wq hq => ?_⟩
      clear hq
      go_simp
      try rfl
    try simp only [Act.put, List.setIfInBounds_toArray, List.set_cons_zero, List.set_cons_succ]
    refine rg_call (i := 1) (get_of Hops rfl) (fun K hK => ?_)
    have HSrg := Lib.hid hS; clear hS
    refine rg_run (wanted_plain rfl) ?_
    go_simp
    refine hK.out _ _ HSrg.out (fun hS => ?_)
    clear hK K HSrg
    try simp only [Act.put, List.setIfInBounds_toArray, List.set_cons_zero, List.set_cons_succ]
    refine rg_take (i := 4) (get_of Hops rfl) hS ?_
    apply Exists.intro
    apply And.intro
    · refine .inl ⟨(wanted_plain rfl), fun wq hq => ?_⟩
      clear hq
      go_simp
      try rfl
    try simp only [Act.put, List.setIfInBounds_toArray, List.set_cons_zero, List.set_cons_succ]
    refine rg_take (i := 10) (get_of Hops rfl) hS ?_
    apply Exists.intro
    apply And.intro
    · refine .inl ⟨(wanted_plain rfl), fun wq hq => ?_⟩
      clear hq
      go_simp
      try rfl
    try simp only [Act.put, List.setIfInBounds_toArray, List.set_cons_zero, List.set_cons_succ]
    refine rg_call (i := 11) (get_of Hops rfl) (fun K hK => ?_)
    have HSrg := Lib.hid hS; clear hS
    refine rg_run (wanted_plain rfl) ?_
    go_simp
    refine hK.out _ _ (gS HSrg.out _ _) (fun hS => ?_)
    clear hK K HSrg
    try simp only [Act.put, List.setIfInBounds_toArray, List.set_cons_zero, List.set_cons_succ]
    refine rg_take (i := 12) (get_of Hops rfl) hS ?_
    apply Exists.intro
    apply And.intro
    · refine .inl ⟨(wanted_plain rfl), fun wq hq => ?_⟩
      clear hq
      go_simp
      try rfl
    try simp only [Act.put, List.setIfInBounds_toArray, List.set_cons_zero, List.set_cons_succ]
    refine rg_call (i := 13) (get_of Hops rfl) (fun K hK => ?_)
    have HSrg := Lib.hid hS; clear hS
    refine rg_run (wanted_plain rfl) ?_
    go_simp
    refine hK.out _ _ (gS HSrg.out _ _) (fun hS => ?_)
    clear hK K HSrg
    try simp only [Act.put, List.setIfInBounds_toArray, List.set_cons_zero, List.set_cons_succ]
    refine rg_done ?_
    refine HQrg.down _ _ ?_
    have hB : wv.grownBy _ (some gx) := hS
    clear hS HQrg Hops
    rw [← Hm1.out, ← Hm2.out]
    go_wp2_with fail
    go_end0
    exact ⟨rfl, Hfin.out.2.2.2, Hfin.out.1, by rw [Hf.out]; exact Hfin.out.2.1⟩
end Go.Proofs.Ytibchmofckhofaa
namespace Go.Proofs.Ytibchmofckhofaa
open Go.RowKit

/-- The captured variables of 'add' behind the points l. -/
def growS (s : Bool × Bx) (l : List Pt) : Bool × Bx := l.foldl (fun s q => (false, addS s.1 s.2 q)) s
theorem growS_append (s : Bool × Bx) (l m : List Pt) : growS s (l ++ m) = growS (growS s l) m := List.foldl_append
def box0 : Bool × Bx := (true, ⟨0, 0, -1, -1⟩)
/-- The smallest box around all points. -/
def boundsS (p : Pl) : Bx := (growS box0 (pointsS p)).2
theorem grow_nd (nl : List Nd) (k : Nat) (hk : k < nl.length) (s : Bool × Bx) : growS s ((nl.take (k + 1)).map (·.pt)) = (false, addS (growS s ((nl.take k).map (·.pt))).1 (growS s ((nl.take k).map (·.pt))).2 nl[k].pt) := by
  rw [List.take_succ_eq_append_getElem hk, List.map_append, growS_append]
  rfl
theorem grow_pt (l : List Pt) (k : Nat) (hk : k < l.length) (s : Bool × Bx) : growS s (l.take (k + 1)) = (false, addS (growS s (l.take k)).1 (growS s (l.take k)).2 l[k]) := by
  rw [List.take_succ_eq_append_getElem hk, growS_append]
  rfl

set_option maxRecDepth 100000 in
set_option maxHeartbeats 4000000 in
theorem Bounds_spec (v : Value) (p : Pl) (w : World) (h : PlV w v p) :
    Calls Try.prog 29 #[v] w fun e w' => e = .returned (bxV (boundsS p)) ∧ Below w.heap.size w w' := by
  obtain ⟨_, _, vf, al, rfl, hpa, ⟨An, cn, rfl, hn1, hn2, hR⟩, ⟨⟨Aa, ca, rfl, ha1, ha2, hRa⟩, hV⟩, hF⟩ := h
  unfold maxLen at hn2 ha2
  have HV := Lib.hid hV; clear hV hF
  have HR := Lib.hid hR; clear hR
  have HRa := Lib.hid hRa; clear hRa
  have hs : boundsS p = (growS (growS box0 (p.nodes.map (·.pt))) (al.flatMap fun a => a.1.via)).2 := by
    unfold boundsS pointsS
    rw [growS_append, hpa, List.flatMap_map]
  have Hs := Lib.hid hs
  clear hs hpa
  have TA : ∀ (q : Pt) (e : Bool) (x : Bx) (ge gx B : Nat) (w : World), Blk w ge 4 #[.bool e] → Blk w gx 57 (bxC x) → B ≤ ge → B ≤ gx → Calls Try.prog 48 #[ptV q, .pointer (some ⟨ge, 0, none⟩), .pointer (some ⟨gx, 0, none⟩)] w _ := fun q e x ge gx B w h1 h2 h3 h4 => add_spec q e x ge gx B w h1 h2 h3 h4
  unfold ptV at TA
  have HA := Lib.hid TA
  clear TA
  generalize p.nodes = nl at *
  go_enter Try.func29, Try.ntmps29
  go_wp2_with fail
  obtain ⟨W1, hW1⟩ : ∃ W1 : World, W1 = w.alloc (.cells #[.slice An nl.length cn, .slice Aa al.length ca, vf] 26) := ⟨_, rfl⟩
  have hz : W1.heap.size = w.heap.size + 1 := by rw [hW1]; simp
  have HX1 : Hid (Blk W1 w.heap.size 26 #[.slice An nl.length cn, .slice Aa al.length ca, vf]) := Lib.hid (by rw [hW1]; exact Blk.made rfl _ _)
  have HB1 := Lib.hid (show Below w.heap.size w W1 by rw [hW1]; exact bA (bR w) _)
  rw [← hW1]
  clear hW1
  have hxl := HX1.out.lt
  obtain ⟨gx, hgx⟩ : ∃ gx, gx = w.heap.size + 1 := ⟨_, rfl⟩
  obtain ⟨ge, hge⟩ : ∃ ge, ge = w.heap.size + 1 + 1 := ⟨_, rfl⟩
  rw [← hge, ← hgx]
  have h1 : W1.heap.size ≤ ge := by omega
  have h2 : W1.heap.size ≤ gx := by omega
  have H0 : Hid (Blk ((W1.alloc (.cells #[.int .i64 0, .int .i64 0, .int .i64 (-1), .int .i64 (-1)] 57)).alloc (.cells #[.bool true] 4)) gx 57 (bxC box0.2) ∧ Blk ((W1.alloc (.cells #[.int .i64 0, .int .i64 0, .int .i64 (-1), .int .i64 (-1)] 57)).alloc (.cells #[.bool true] 4)) ge 4 #[.bool box0.1]) :=
    Lib.hid ⟨Blk.alloc (Blk.made (by omega) _ _) _, Blk.made (by simp; omega) _ _⟩
  have HZ := Lib.hid hz; have HGx := Lib.hid hgx; have HGe := Lib.hid hge
  clear hz hgx hge
  go_loopw [16] (fun u wr => ∃ k : Nat, k ≤ nl.length ∧ u = .int .i64 k ∧ Below W1.heap.size W1 wr ∧ Blk wr gx 57 (bxC (growS box0 ((nl.take k).map (·.pt))).2) ∧ Blk wr ge 4 #[.bool (growS box0 ((nl.take k).map (·.pt))).1]) (fun u _ => nl.length - (intOf u).toNat)
  case atStart => exact ⟨0, Nat.zero_le _, rfl, bA (bA (bR W1) _) _, H0.out.1, H0.out.2⟩
  case round =>
    obtain ⟨k, hk, rfl, hb, hx, he⟩ := hrel
    have Hb := Lib.hid hb
    have X1 := HX1.out.keep hb
    by_cases hlt : k < nl.length
    case pos =>
      have hg := grow_nd nl k hlt box0
      have Hg := Lib.hid hg
      clear hg
      generalize growS box0 ((nl.take k).map (·.pt)) = s at *
      obtain ⟨s1, s2⟩ := s
      simp only [] at hx he
      have HX := Lib.hid hx
      have HE := Lib.hid he
      clear hb hx he X1
      obtain ⟨b, o, rfl, hlb, c0, c1, c2⟩ := (HR.out.mono (bT HB1.out Hb.out)).nd hlt
      go_wp2_with fail
      refine (HA.out nl[k].pt s1 s2 ge gx W1.heap.size _ (HE.out.alloc _) (HX.out.alloc _) h1 h2).mono ?_
      rintro e w3 ⟨rfl, hb3, he3, hx3⟩
      have B3 := Lib.hid (Below.trans (bA Hb.out _) hb3)
      have HE3 := Lib.hid he3
      have HX3 := Lib.hid hx3
      clear hb3 he3 hx3 c0 c1 c2 hlb
      go_wp2_with fail
      go_roundw
      case rel => exact ⟨k + 1, by omega, by go_num, B3.out, by rw [Hg.out]; exact HX3.out, by rw [Hg.out]; exact HE3.out⟩
      case measure => simp [intOf]; omega
    case neg =>
    have hall : nl.take k = nl := List.take_of_length_le (by omega)
    rw [hall] at hx he
    clear hall
    obtain ⟨sn, hsn⟩ : ∃ sn, growS box0 (nl.map (·.pt)) = sn := ⟨_, rfl⟩
    rw [hsn] at hx he Hs
    have HX := Lib.hid hx
    have HE := Lib.hid he
    clear hsn hx he hb
    try clear X1l
    try clear X1a
    try clear X1b
    try clear X1c
    try clear X1fa
    try clear X1fb
    try clear X1fc
    obtain ⟨X1l, X1a, X1b, X1c, -, -, -⟩ := X1.facts3
    go_wp2_with fail
    obtain ⟨wo, rfl⟩ : ∃ wo : World, wo = wr := ⟨_, rfl⟩
    clear X1 X1l X1a X1b X1c
    go_loopw [28] (fun u wr => ∃ k : Nat, k ≤ al.length ∧ u = .int .i64 k ∧ Below W1.heap.size W1 wr ∧ Blk wr gx 57 (bxC (growS sn ((al.take k).flatMap fun a => a.1.via)).2) ∧ Blk wr ge 4 #[.bool (growS sn ((al.take k).flatMap fun a => a.1.via)).1]) (fun u _ => al.length - (intOf u).toNat)
    case atStart => exact ⟨0, Nat.zero_le _, rfl, Hb.out, HX.out, HE.out⟩
    case round =>
      clear Hb HX HE
      obtain ⟨k, hk, rfl, hb, hx, he⟩ := hrel
      have Hb := Lib.hid hb
      by_cases hlt : k < al.length
      case neg =>
        have hall : al.take k = al := List.take_of_length_le (by omega)
        rw [hall] at hx he
        have hf := Lib.hid Hs.out
        clear hall
        unfold bxC at hx
        generalize hr : (growS sn (al.flatMap fun a => a.1.via)).2 = r at *
        have HX := Lib.hid hx
        try clear hxl
        try clear hxa
        try clear hxb
        try clear hxc
        try clear hxd
        try clear hxfa
        try clear hxfb
        try clear hxfc
        try clear hxfd
        obtain ⟨hxl, hxa, hxb, hxc, hxd, hxfa, hxfb, hxfc, hxfd⟩ := hx.facts4
        clear hb he
        go_wp2_with fail
        refine res_cell (t := 57) (g := gx) (cs := #[.int .i64 r.x0, .int .i64 r.y0, .int .i64 r.x1, .int .i64 r.y1]) rfl struct_bx rfl rfl ?_ ⟨by rw [hf.out]; rfl, ?_⟩
        · exact Blk.put4 HX.out
        · have h3 : w.heap.size ≤ gx := by have := HGx.out; omega
          exact ((((bT HB1.out Hb.out).setCell (p := ⟨gx, 0, none⟩) h3 _).setCell (p := ⟨gx, 1, none⟩) h3 _).setCell (p := ⟨gx, 2, none⟩) h3 _).setCell (p := ⟨gx, 3, none⟩) h3 _
      obtain ⟨b, o, rfl, hlb, c0, c1, c2, c3, c4, c5⟩ := (HRa.out.mono (bT HB1.out Hb.out)).ar hlt
      obtain ⟨Av, cv, hv, hv1, hv2, hv3⟩ := HV.out k hlt
      unfold maxLen at hv2
      rw [hv] at c3
      have HVk := Lib.hid hv3
      obtain ⟨sk, hsk⟩ : ∃ sk, growS sn ((al.take k).flatMap fun a => a.1.via) = sk := ⟨_, rfl⟩
      have hsucc : growS sn ((al.take (k + 1)).flatMap fun a => a.1.via) = growS sk al[k].1.via := by
        rw [List.take_succ_eq_append_getElem hlt, List.flatMap_append, growS_append, hsk]
        simp
      rw [hsk] at hx he
      have HX := Lib.hid hx
      have HE := Lib.hid he
      have Hsucc := Lib.hid hsucc
      clear hv hv3 hb hx he hsk hsucc
      go_wp2_with fail
      clear c0 c1 c2 c3 c4 c5 hlb
      obtain ⟨wp, rfl⟩ : ∃ wp : World, wp = wr := ⟨_, rfl⟩
      go_loopw [35] (fun u wr => ∃ j : Nat, j ≤ al[k].1.via.length ∧ u = .int .i64 j ∧ Below W1.heap.size W1 wr ∧ Blk wr gx 57 (bxC (growS sk (al[k].1.via.take j)).2) ∧ Blk wr ge 4 #[.bool (growS sk (al[k].1.via.take j)).1]) (fun u _ => al[k].1.via.length - (intOf u).toNat)
      case atStart => exact ⟨0, Nat.zero_le _, rfl, bA Hb.out _, HX.out.alloc _, HE.out.alloc _⟩
      case round =>
        clear HX HE Hb
        obtain ⟨j, hj, rfl, hb, hx, he⟩ := hrel
        have Hb := Lib.hid hb
        by_cases hlj : j < al[k].1.via.length
        case neg =>
          have hall : al[k].1.via.take j = al[k].1.via := List.take_of_length_le (by omega)
          rw [hall, ← Hsucc.out] at hx he
          have HX := Lib.hid hx
          have HE := Lib.hid he
          clear hall hx he hb
          go_wp2_with fail
          go_roundw
          case rel => exact ⟨k + 1, by omega, by go_num, Hb.out, HX.out, HE.out⟩
          case measure => simp [intOf]; omega
        have hg := grow_pt al[k].1.via j hlj sk
        have Hg := Lib.hid hg
        clear hg
        generalize growS sk (al[k].1.via.take j) = s at *
        obtain ⟨s1, s2⟩ := s
        simp only [] at hx he
        have HX := Lib.hid hx
        have HE := Lib.hid he
        clear hb hx he
        obtain ⟨b, o, rfl, hlb, c0, c1⟩ := (HVk.out.mono (bT HB1.out Hb.out)).pt hlj
        go_wp2_with fail
        refine (HA.out al[k].1.via[j] s1 s2 ge gx W1.heap.size _ (HE.out.alloc _) (HX.out.alloc _) h1 h2).mono ?_
        rintro e w3 ⟨rfl, hb3, he3, hx3⟩
        have B3 := Lib.hid (Below.trans (bA Hb.out _) hb3)
        have HE3 := Lib.hid he3
        have HX3 := Lib.hid hx3
        clear hb3 he3 hx3 c0 c1 hlb
        go_wp2_with fail
        go_roundw
        case rel => exact ⟨j + 1, by omega, by go_num, B3.out, by rw [Hg.out]; exact HX3.out, by rw [Hg.out]; exact HE3.out⟩
        case measure => simp [intOf]; omega
end Go.Proofs.Ytibchmofckhofaa
