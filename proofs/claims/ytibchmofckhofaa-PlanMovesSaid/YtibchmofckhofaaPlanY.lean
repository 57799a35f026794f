/- plan.segment: ends, first, last, west, east. -/
import Derived.Test.YtibchmofckhofaaPlanX
import Derived.Test.YtibchmofckhofaaGB
set_option linter.unusedSimpArgs false
set_option linter.unusedVariables false
namespace Go.Proofs.Ytibchmofckhofaa
open Go.RowKit

/-- An arc with its path, in a block of its own. -/
structure Ln where
  arc : Ar
  path : List Pt
  g : Nat
  via : SV
  pa : Option Addr
  pc : Nat
def lnC (x : Ln) : Array Value := #[.int .i64 x.arc.id, .int .i64 x.arc.fr, .int .i64 x.arc.dst, .slice x.via.a x.via.n x.via.c, .int .i64 x.arc.left, .int .i64 x.arc.right, .slice x.pa x.path.length x.pc]
def LnOk (w : World) (x : Ln) : Prop := Blk w x.g 97 (lnC x) ∧ Own w 0 30 2 ptC (.slice x.pa x.path.length x.pc) x.path
theorem LnOk.keep {w w' : World} {x : Ln} (h : LnOk w x) (hb : Below w.heap.size w w') : LnOk w' x := ⟨h.1.keep hb, h.2.keep hb⟩

/-- A segment: a line, and the index of its first point. -/
structure PSg where
  ln : Ln
  k : Nat
def psgC (s : PSg) : List Value := [.pointer (some ⟨s.ln.g, 0, none⟩), .int .i64 s.k]
def psgV (s : PSg) : Value := .agg #[.pointer (some ⟨s.ln.g, 0, none⟩), .int .i64 s.k]
def PSg.fst (s : PSg) : Pt := s.ln.path.getD s.k pt0
def PSg.snd (s : PSg) : Pt := s.ln.path.getD (s.k + 1) pt0
def SgOk (w : World) (s : PSg) : Prop := LnOk w s.ln ∧ s.k + 1 < s.ln.path.length ∧ s.ln.path.length ≤ 2097152
theorem SgOk.keep {w w' : World} {s : PSg} (h : SgOk w s) (hb : Below w.heap.size w w') : SgOk w' s := ⟨h.1.keep hb, h.2⟩
theorem Blk.facts7 {w : World} {g : Nat} {t : TypeId} {v0 v1 v2 v3 v4 v5 v6 : Value} (h : Blk w g t #[v0, v1, v2, v3, v4, v5, v6]) : g < w.heap.size ∧ w.cell? ⟨g, 0, none⟩ = some v0 ∧ w.cell? ⟨g, 1, none⟩ = some v1 ∧ w.cell? ⟨g, 2, none⟩ = some v2 ∧ w.cell? ⟨g, 3, none⟩ = some v3 ∧ w.cell? ⟨g, 4, none⟩ = some v4 ∧ w.cell? ⟨g, 5, none⟩ = some v5 ∧ w.cell? ⟨g, 6, none⟩ = some v6 ∧ w.frozen? ⟨g, 0, none⟩ = false ∧ w.frozen? ⟨g, 1, none⟩ = false ∧ w.frozen? ⟨g, 2, none⟩ = false ∧ w.frozen? ⟨g, 3, none⟩ = false ∧ w.frozen? ⟨g, 4, none⟩ = false ∧ w.frozen? ⟨g, 5, none⟩ = false ∧ w.frozen? ⟨g, 6, none⟩ = false :=
  ⟨h.lt, h.cell 0, h.cell 1, h.cell 2, h.cell 3, h.cell 4, h.cell 5, h.cell 6, h.frozen 0, h.frozen 1, h.frozen 2, h.frozen 3, h.frozen 4, h.frozen 5, h.frozen 6⟩

set_option maxRecDepth 100000 in
set_option maxHeartbeats 1000000 in
theorem ends2_spec (s : PSg) (w : World) (h : SgOk w s) :
    Calls Try.prog 67 #[psgV s] w fun e w' => e = .returned (.tuple #[ptV s.fst, ptV s.snd]) ∧ BelowD w w' := by
  obtain ⟨⟨hL, hP⟩, hk, hm⟩ := h
  obtain ⟨A, c, he, hn, hc, hR⟩ := Own.sl hP
  clear hP
  injection he with he1 _ he3
  subst he1 he3
  unfold lnC at hL
  obtain ⟨b, o, hA, hlb, c0, c1⟩ := hR.pt (k := s.k) (by omega)
  obtain ⟨b', o', hA', -, d0, d1⟩ := hR.pt (k := s.k + 1) hk
  rw [hA] at hA' hL
  simp only [Option.some.injEq, Addr.mk.injEq, and_true] at hA'
  obtain ⟨rfl, rfl⟩ := hA'
  have hf : s.fst = s.ln.path[s.k] := by unfold PSg.fst; simp [List.getD, List.getElem?_eq_getElem (show s.k < s.ln.path.length by omega)]
  have hs : s.snd = s.ln.path[s.k + 1] := by unfold PSg.snd; simp [List.getD, List.getElem?_eq_getElem hk]
  rw [← hf] at c0 c1
  rw [← hs] at d0 d1
  unfold psgV ptV
  unfold maxLen at hc
  clear hf hs hR hA
  generalize s.fst = P0 at *
  generalize s.snd = P1 at *
  generalize s.ln.path.length = N at *
  generalize s.k = k at *
  generalize s.ln.g = g at *
  have HL := Lib.hid hL; clear hL
  go_enter Try.func67, Try.ntmps67
  go_upto_region 1 with fail
  obtain ⟨W, hW⟩ : ∃ W : World, W = ((w.alloc (.cells #[.pointer (some ⟨g, 0, none⟩), .int .i64 k] 88)).alloc (.cells #[.int .i64 0, .int .i64 0] 30)).alloc (.cells #[.int .i64 0, .int .i64 0] 30) := ⟨_, rfl⟩
  have Bw : Below w.heap.size w W := by rw [hW]; exact bA (bA (bA (bR w) _) _) _
  have Dw : w.drawn ≤ W.drawn := by rw [hW]; exact dA (dA (dA (dR w) _) _) _
  have X1 : Blk W w.heap.size 88 #[.pointer (some ⟨g, 0, none⟩), .int .i64 k] := by rw [hW]; exact ((Blk.made rfl _ _).alloc _).alloc _
  have X2 : Blk W (w.heap.size + 1) 30 #[.int .i64 0, .int .i64 0] := by rw [hW]; exact (Blk.made (by simp) _ _).alloc _
  have X3 : Blk W (w.heap.size + 1 + 1) 30 #[.int .i64 0, .int .i64 0] := by rw [hW]; exact Blk.made (by simp) _ _
  rw [← hW]
  clear hW
  have X9 := HL.out.keep Bw
  have hgl := HL.out.lt
  obtain ⟨bc, -⟩ := bcell Bw
  replace c0 := (bc b _ hlb).trans c0
  replace c1 := (bc b _ hlb).trans c1
  replace d0 := (bc b _ hlb).trans d0
  replace d1 := (bc b _ hlb).trans d1
  clear bc
  try clear X1l
  try clear X1a
  try clear X1b
  try clear X1fa
  try clear X1fb
  obtain ⟨X1l, X1a, X1b, -, -⟩ := X1.facts2
  try clear X9l
  try clear X9a
  try clear X9b
  try clear X9c
  try clear X9d
  try clear X9e
  try clear X9f
  try clear X9g
  try clear X9fa
  try clear X9fb
  try clear X9fc
  try clear X9fd
  try clear X9fe
  try clear X9ff
  try clear X9fg
  obtain ⟨X9l, X9a, X9b, X9c, X9d, X9e, X9f, X9g, -, -, -, -, -, -, -⟩ := X9.facts7
  try clear X2l
  try clear X2a
  try clear X2b
  try clear X2fa
  try clear X2fb
  obtain ⟨X2l, X2a, X2b, X2fa, X2fb⟩ := X2.facts2
  try clear X3l
  try clear X3a
  try clear X3b
  try clear X3fa
  try clear X3fb
  obtain ⟨X3l, X3a, X3b, X3fa, X3fb⟩ := X3.facts2
  have q1 : 0 ≤ (k : Int) := by omega
  have q2 : (k : Int) < N := by omega
  have q3 : 0 ≤ (k : Int) + 1 := by omega
  have q4 : (k : Int) + 1 < N := by omega
  have q5 : ((k : Int) + 1).toNat = k + 1 := by omega
  have q6 : IntKind.i64.wrap ((k : Int) + 1) = (k : Int) + 1 := IntWalk.i64_in _ (by omega)
  have q7 : w.heap.size < w.heap.size + 1 := by omega
  have q8 : g < w.heap.size + 1 := by omega
  have q9 : b < w.heap.size + 1 := by omega
  refine rg_start (SinceB (w.heap.size + 1) W) (.take 0 1 (.take 1 3 (.take 2 7 (.take 3 15 (.take 4 31 (.take 5 63 (.take 6 127 (.take 7 255 (.take 8 511 (.take 9 1023 (.take 10 2047 (.take 11 4095 (.take 12 8191 (.take 13 16383 (.take 14 32767 (.take 15 65535 (.take 16 131071 (.take 17 262143 (.take 18 524287 (.call 19 1048575 (.call 20 2097151 (.done)))))))))))))))))))))) (by kernel_rfl) (Below.drew (Below.refl _ _)) (by kernel_rfl) (by kernel_rfl) (Nat.le_of_ble_eq_true (by kernel_rfl)) ?_
  intro opsR QR Hops HQrg hS
  refine rg_take (i := 0) (get_of Hops rfl) hS ?_
  apply Exists.intro
  apply And.intro
  · refine .inl ⟨(wanted_plain rfl), fun wq hq => ?_⟩
    clear hq
    go_simp
    try rfl
  try simp only [Act.put, List.setIfInBounds_toArray, List.set_cons_zero, List.set_cons_succ]
  refine rg_take (i := 1) (get_of Hops rfl) hS ?_
  apply Exists.intro
  apply And.intro
  · refine .inl ⟨(wanted_plain rfl), fun wq hq => ?_⟩
    have hq' : Below (w.heap.size + 1) W wq := hq
    obtain ⟨hqc, -⟩ := bcellB hq'
    clear hq hq'
    go_simp
    try rfl
  try simp only [Act.put, List.setIfInBounds_toArray, List.set_cons_zero, List.set_cons_succ]
  refine rg_take (i := 2) (get_of Hops rfl) hS ?_
  apply Exists.intro
  apply And.intro
  · refine .inl ⟨(wanted_plain rfl), fun wq hq => ?_⟩
    clear hq
    go_simp
    try rfl
  try simp only [Act.put, List.setIfInBounds_toArray, List.set_cons_zero, List.set_cons_succ]
  refine rg_take (i := 3) (get_of Hops rfl) hS ?_
  apply Exists.intro
  apply And.intro
  · refine .inl ⟨(wanted_plain rfl), fun wq hq => ?_⟩
    clear hq
    go_simp
    try rfl
  try simp only [Act.put, List.setIfInBounds_toArray, List.set_cons_zero, List.set_cons_succ]
  refine rg_take (i := 4) (get_of Hops rfl) hS ?_
  apply Exists.intro
  apply And.intro
  · refine .inl ⟨(wanted_plain rfl), fun wq hq => ?_⟩
    have hq' : Below (w.heap.size + 1) W wq := hq
    obtain ⟨hqc, -⟩ := bcellB hq'
    clear hq hq'
    go_simp
    try rfl
  try simp only [Act.put, List.setIfInBounds_toArray, List.set_cons_zero, List.set_cons_succ]
  refine rg_take (i := 5) (get_of Hops rfl) hS ?_
  apply Exists.intro
  apply And.intro
  · refine .inl ⟨(wanted_plain rfl), fun wq hq => ?_⟩
    clear hq
    go_simp
    try rfl
  try simp only [Act.put, List.setIfInBounds_toArray, List.set_cons_zero, List.set_cons_succ]
  refine rg_take (i := 6) (get_of Hops rfl) hS ?_
  apply Exists.intro
  apply And.intro
  · refine .inl ⟨(wanted_plain rfl), fun wq hq => ?_⟩
    have hq' : Below (w.heap.size + 1) W wq := hq
    obtain ⟨hqc, -⟩ := bcellB hq'
    clear hq hq'
    go_simp
    try rfl
  try simp only [Act.put, List.setIfInBounds_toArray, List.set_cons_zero, List.set_cons_succ]
  refine rg_take (i := 7) (get_of Hops rfl) hS ?_
  apply Exists.intro
  apply And.intro
  · refine .inl ⟨(wanted_plain rfl), fun wq hq => ?_⟩
    clear hq
    go_simp
    try rfl
  try simp only [Act.put, List.setIfInBounds_toArray, List.set_cons_zero, List.set_cons_succ]
  refine rg_take (i := 8) (get_of Hops rfl) hS ?_
  apply Exists.intro
  apply And.intro
  · refine .inl ⟨(wanted_plain rfl), fun wq hq => ?_⟩
    have hq' : Below (w.heap.size + 1) W wq := hq
    obtain ⟨hqc, -⟩ := bcellB hq'
    clear hq hq'
    go_simp
    try rfl
  try simp only [Act.put, List.setIfInBounds_toArray, List.set_cons_zero, List.set_cons_succ]
  refine rg_take (i := 9) (get_of Hops rfl) hS ?_
  apply Exists.intro
  apply And.intro
  · refine .inl ⟨(wanted_plain rfl), fun wq hq => ?_⟩
    clear hq
    go_simp
    try rfl
  try simp only [Act.put, List.setIfInBounds_toArray, List.set_cons_zero, List.set_cons_succ]
  refine rg_take (i := 10) (get_of Hops rfl) hS ?_
  apply Exists.intro
  apply And.intro
  · refine .inl ⟨(wanted_plain rfl), fun wq hq => ?_⟩
    have hq' : Below (w.heap.size + 1) W wq := hq
    obtain ⟨hqc, -⟩ := bcellB hq'
    clear hq hq'
    go_simp
    try rfl
  try simp only [Act.put, List.setIfInBounds_toArray, List.set_cons_zero, List.set_cons_succ]
  refine rg_take (i := 11) (get_of Hops rfl) hS ?_
  apply Exists.intro
  apply And.intro
  · refine .inl ⟨(wanted_plain rfl), fun wq hq => ?_⟩
    clear hq
    go_simp
    try rfl
  try simp only [Act.put, List.setIfInBounds_toArray, List.set_cons_zero, List.set_cons_succ]
  refine rg_take (i := 12) (get_of Hops rfl) hS ?_
  apply Exists.intro
  apply And.intro
  · refine .inl ⟨(wanted_plain rfl), fun wq hq => ?_⟩
    clear hq
    go_simp
    try rfl
  try simp only [Act.put, List.setIfInBounds_toArray, List.set_cons_zero, List.set_cons_succ]
  refine rg_take (i := 13) (get_of Hops rfl) hS ?_
  apply Exists.intro
  apply And.intro
  · refine .inl ⟨(wanted_plain rfl), fun wq hq => ?_⟩
    have hq' : Below (w.heap.size + 1) W wq := hq
    obtain ⟨hqc, -⟩ := bcellB hq'
    clear hq hq'
    go_simp
    try rfl
  try simp only [Act.put, List.setIfInBounds_toArray, List.set_cons_zero, List.set_cons_succ]
  refine rg_take (i := 14) (get_of Hops rfl) hS ?_
  apply Exists.intro
  apply And.intro
  · refine .inl ⟨(wanted_plain rfl), fun wq hq => ?_⟩
    clear hq
    go_simp
    try rfl
  try simp only [Act.put, List.setIfInBounds_toArray, List.set_cons_zero, List.set_cons_succ]
  refine rg_take (i := 15) (get_of Hops rfl) hS ?_
  apply Exists.intro
  apply And.intro
  · refine .inl ⟨(wanted_plain rfl), fun wq hq => ?_⟩
    have hq' : Below (w.heap.size + 1) W wq := hq
    obtain ⟨hqc, -⟩ := bcellB hq'
    clear hq hq'
    go_simp
    try rfl
  try simp only [Act.put, List.setIfInBounds_toArray, List.set_cons_zero, List.set_cons_succ]
  refine rg_take (i := 16) (get_of Hops rfl) hS ?_
  apply Exists.intro
  apply And.intro
  · refine .inl ⟨(wanted_plain rfl), fun wq hq => ?_⟩
    clear hq
    go_simp
    try rfl
  try simp only [Act.put, List.setIfInBounds_toArray, List.set_cons_zero, List.set_cons_succ]
  refine rg_take (i := 17) (get_of Hops rfl) hS ?_
  apply Exists.intro
  apply And.intro
  · refine .inl ⟨(wanted_plain rfl), fun wq hq => ?_⟩
    clear hq
    go_simp
    try rfl
  try simp only [Act.put, List.setIfInBounds_toArray, List.set_cons_zero, List.set_cons_succ]
  refine rg_take (i := 18) (get_of Hops rfl) hS ?_
  apply Exists.intro
  apply And.intro
  · refine .inl ⟨(wanted_plain rfl), fun wq hq => ?_⟩
    have hq' : Below (w.heap.size + 1) W wq := hq
    obtain ⟨hqc, -⟩ := bcellB hq'
    clear hq hq'
    go_simp
    try rfl
  try simp only [Act.put, List.setIfInBounds_toArray, List.set_cons_zero, List.set_cons_succ]
  refine rg_call (i := 19) (get_of Hops rfl) (fun K hK => ?_)
  have HSrg := Lib.hid hS; clear hS
  refine rg_run (wanted_plain rfl) ?_
  go_simp
  have hS : SinceB (w.heap.size + 1) W _ := (Below.setCell (Below.setCell HSrg.out (p := ⟨w.heap.size + 1, 0, none⟩) (Nat.le_refl _) (.int .i64 P0.x)) (p := ⟨w.heap.size + 1, 1, none⟩) (Nat.le_refl _) (.int .i64 P0.y))
  clear HSrg
  refine hK.out _ _ hS (fun _ => ?_)
  clear hK K
  try simp only [Act.put, List.setIfInBounds_toArray, List.set_cons_zero, List.set_cons_succ]
  refine rg_call (i := 20) (get_of Hops rfl) (fun K hK => ?_)
  have HSrg := Lib.hid hS; clear hS
  refine rg_run (wanted_plain rfl) ?_
  go_simp
  have hS : SinceB (w.heap.size + 1) W _ := (Below.setCell (Below.setCell HSrg.out (p := ⟨w.heap.size + 1 + 1, 0, none⟩) (Nat.le_succ _) (.int .i64 P1.x)) (p := ⟨w.heap.size + 1 + 1, 1, none⟩) (Nat.le_succ _) (.int .i64 P1.y))
  clear HSrg
  refine hK.out _ _ hS (fun _ => ?_)
  clear hK K
  try simp only [Act.put, List.setIfInBounds_toArray, List.set_cons_zero, List.set_cons_succ]
  refine rg_done ?_
  refine HQrg.down _ _ ?_
  have hB : Below (w.heap.size + 1) W _ := hS
  clear hS HQrg Hops
  go_wp2_with fail
  refine res_cell2 (g := w.heap.size + 1) (g' := w.heap.size + 1 + 1) (cs := #[.int .i64 P0.x, .int .i64 P0.y]) (cs' := #[.int .i64 P1.x, .int .i64 P1.y]) rfl struct_pt struct_pt rfl rfl rfl ?_ ?_ ⟨rfl, ?_, ?_⟩
  · exact ((Blk.put2 X2).far (p := ⟨w.heap.size + 1 + 1, 0, none⟩) (by simp) _).far (p := ⟨w.heap.size + 1 + 1, 1, none⟩) (by simp) _
  · exact Blk.put2 ((X3.far (p := ⟨w.heap.size + 1, 0, none⟩) (by simp) _).far (p := ⟨w.heap.size + 1, 1, none⟩) (by simp) _)
  · exact Bw.trans (hB.mono (by omega))
  · exact Nat.le_succ_of_le Dw

def westS (s : PSg) : Int := min s.fst.x s.snd.x
def eastS (s : PSg) : Int := max s.fst.x s.snd.x

set_option maxHeartbeats 1000000 in
theorem west_spec (s : PSg) (w : World) (h : SgOk w s) :
    Calls Try.prog 64 #[psgV s] w fun e w' => e = .returned (.int .i64 (westS s)) ∧ BelowD w w' := by
  have TE : ∀ W, Below w.heap.size w W → Calls Try.prog 67 #[psgV s] W _ := fun W hW => ends2_spec s W (h.keep hW)
  unfold westS
  unfold psgV ptV at TE
  unfold psgV
  have HE := Lib.hid TE; clear TE h
  generalize s.fst = P0 at *
  generalize s.snd = P1 at *
  generalize s.k = k at *
  generalize s.ln.g = g at *
  go_enter Try.func64, Try.ntmps64
  go_wp2_with fail
  refine (HE.out _ (bA (bR w) _)).mono ?_
  rintro e w1 ⟨rfl, hb1, hd1⟩
  have Bw : Below w.heap.size w w1 := bT (bA (bR w) _) hb1
  have Dw : w.drawn ≤ w1.drawn := dT (dA (dR w) _) hd1
  clear hb1 hd1
  go_wp2_with fail
  all_goals
    go_ret
    refine ⟨ret_int ?_, ?_, ?_⟩
    · first | rfl | omega
    · exact bA (bA Bw _) _
    · exact Dw

set_option maxHeartbeats 1000000 in
theorem east_spec (s : PSg) (w : World) (h : SgOk w s) :
    Calls Try.prog 65 #[psgV s] w fun e w' => e = .returned (.int .i64 (eastS s)) ∧ BelowD w w' := by
  have TE : ∀ W, Below w.heap.size w W → Calls Try.prog 67 #[psgV s] W _ := fun W hW => ends2_spec s W (h.keep hW)
  unfold eastS
  unfold psgV ptV at TE
  unfold psgV
  have HE := Lib.hid TE; clear TE h
  generalize s.fst = P0 at *
  generalize s.snd = P1 at *
  generalize s.k = k at *
  generalize s.ln.g = g at *
  go_enter Try.func65, Try.ntmps65
  go_wp2_with fail
  refine (HE.out _ (bA (bR w) _)).mono ?_
  rintro e w1 ⟨rfl, hb1, hd1⟩
  have Bw : Below w.heap.size w w1 := bT (bA (bR w) _) hb1
  have Dw : w.drawn ≤ w1.drawn := dT (dA (dR w) _) hd1
  clear hb1 hd1
  go_wp2_with fail
  all_goals
    go_ret
    refine ⟨ret_int ?_, ?_, ?_⟩
    · first | rfl | omega
    · exact bA (bA Bw _) _
    · exact Dw

set_option maxHeartbeats 1000000 in
theorem segfirst_spec (s : PSg) (w : World) :
    Calls Try.prog 69 #[psgV s] w fun e w' => e = .returned (.bool ((s.k : Int) == 0)) ∧ Below w.heap.size w w' := by
  unfold psgV
  generalize s.k = k
  generalize s.ln.g = g
  go_enter Try.func69, Try.ntmps69
  go_wp2_with fail
  go_ret
  exact ⟨rfl, bA (bR w) _⟩

set_option maxRecDepth 100000 in
set_option maxHeartbeats 1000000 in
theorem seglast_spec (s : PSg) (w : World) (h : SgOk w s) :
    Calls Try.prog 70 #[psgV s] w fun e w' => e = .returned (.bool ((s.k : Int) == (s.ln.path.length : Int) - 2)) ∧ Below w.heap.size w w' := by
  obtain ⟨⟨hL, hP⟩, hk, hm⟩ := h
  unfold lnC at hL
  clear hP
  unfold psgV
  generalize s.ln.path.length = N at *
  generalize s.k = k at *
  generalize s.ln.g = g at *
  have HL := Lib.hid hL; clear hL
  go_enter Try.func70, Try.ntmps70
  go_upto_region 1 with fail
  obtain ⟨W, hW⟩ : ∃ W : World, W = w.alloc (.cells #[.pointer (some ⟨g, 0, none⟩), .int .i64 k] 88) := ⟨_, rfl⟩
  have Bw : Below w.heap.size w W := by rw [hW]; exact bA (bR w) _
  have X1 : Blk W w.heap.size 88 #[.pointer (some ⟨g, 0, none⟩), .int .i64 k] := by rw [hW]; exact Blk.made rfl _ _
  rw [← hW]
  clear hW
  have X9 := HL.out.keep Bw
  try clear X1l
  try clear X1a
  try clear X1b
  try clear X1fa
  try clear X1fb
  obtain ⟨X1l, X1a, X1b, -, -⟩ := X1.facts2
  try clear X9l
  try clear X9a
  try clear X9b
  try clear X9c
  try clear X9d
  try clear X9e
  try clear X9f
  try clear X9g
  try clear X9fa
  try clear X9fb
  try clear X9fc
  try clear X9fd
  try clear X9fe
  try clear X9ff
  try clear X9fg
  obtain ⟨X9l, X9a, X9b, X9c, X9d, X9e, X9f, X9g, -, -, -, -, -, -, -⟩ := X9.facts7
  have q6 : IntKind.i64.wrap ((N : Int) - 2) = (N : Int) - 2 := IntWalk.i64_in _ (by omega)
  refine rg_start (Since W) (.take 0 1 (.take 1 3 (.take 2 7 (.take 3 15 (.take 4 31 (.take 5 63 (.take 6 127 (.take 7 255 (.take 8 511 (.take 9 1023 (.take 10 2047 (.done)))))))))))) (by kernel_rfl) (bD (bR _)) (by kernel_rfl) (by kernel_rfl) (Nat.le_of_ble_eq_true (by kernel_rfl)) ?_
  intro opsR QR Hops HQrg hS
  refine rg_take (i := 0) (get_of Hops rfl) hS ?_
  apply Exists.intro
  apply And.intro
  · refine .inl ⟨(wanted_plain rfl), fun wq hq => ?_⟩
    clear hq
    go_simp
    try rfl
  try simp only [Act.put, List.setIfInBounds_toArray, List.set_cons_zero, List.set_cons_succ]
  refine rg_take (i := 1) (get_of Hops rfl) hS ?_
  apply Exists.intro
  apply And.intro
  · refine .inl ⟨(wanted_plain rfl), fun wq hq => ?_⟩
    have hq' : Below W.heap.size W wq := hq
    obtain ⟨hqc, -⟩ := bcell hq'
    clear hq hq'
    go_simp
    try rfl
  try simp only [Act.put, List.setIfInBounds_toArray, List.set_cons_zero, List.set_cons_succ]
  refine rg_take (i := 2) (get_of Hops rfl) hS ?_
  apply Exists.intro
  apply And.intro
  · refine .inl ⟨(wanted_plain rfl), fun wq hq => ?_⟩
    clear hq
    go_simp
    try rfl
  try simp only [Act.put, List.setIfInBounds_toArray, List.set_cons_zero, List.set_cons_succ]
  refine rg_take (i := 3) (get_of Hops rfl) hS ?_
  apply Exists.intro
  apply And.intro
  · refine .inl ⟨(wanted_plain rfl), fun wq hq => ?_⟩
    have hq' : Below W.heap.size W wq := hq
    obtain ⟨hqc, -⟩ := bcell hq'
    clear hq hq'
    go_simp
    try rfl
  try simp only [Act.put, List.setIfInBounds_toArray, List.set_cons_zero, List.set_cons_succ]
  refine rg_take (i := 4) (get_of Hops rfl) hS ?_
  apply Exists.intro
  apply And.intro
  · refine .inl ⟨(wanted_plain rfl), fun wq hq => ?_⟩
    clear hq
    go_simp
    try rfl
  try simp only [Act.put, List.setIfInBounds_toArray, List.set_cons_zero, List.set_cons_succ]
  refine rg_take (i := 5) (get_of Hops rfl) hS ?_
  apply Exists.intro
  apply And.intro
  · refine .inl ⟨(wanted_plain rfl), fun wq hq => ?_⟩
    clear hq
    go_simp
    try rfl
  try simp only [Act.put, List.setIfInBounds_toArray, List.set_cons_zero, List.set_cons_succ]
  refine rg_take (i := 6) (get_of Hops rfl) hS ?_
  apply Exists.intro
  apply And.intro
  · refine .inl ⟨(wanted_plain rfl), fun wq hq => ?_⟩
    have hq' : Below W.heap.size W wq := hq
    obtain ⟨hqc, -⟩ := bcell hq'
    clear hq hq'
    go_simp
    try rfl
  try simp only [Act.put, List.setIfInBounds_toArray, List.set_cons_zero, List.set_cons_succ]
  refine rg_take (i := 7) (get_of Hops rfl) hS ?_
  apply Exists.intro
  apply And.intro
  · refine .inl ⟨(wanted_plain rfl), fun wq hq => ?_⟩
    clear hq
    go_simp
    try rfl
  try simp only [Act.put, List.setIfInBounds_toArray, List.set_cons_zero, List.set_cons_succ]
  refine rg_take (i := 8) (get_of Hops rfl) hS ?_
  apply Exists.intro
  apply And.intro
  · refine .inl ⟨(wanted_plain rfl), fun wq hq => ?_⟩
    clear hq
    go_simp
    try rfl
  try simp only [Act.put, List.setIfInBounds_toArray, List.set_cons_zero, List.set_cons_succ]
  refine rg_take (i := 9) (get_of Hops rfl) hS ?_
  apply Exists.intro
  apply And.intro
  · refine .inl ⟨(wanted_plain rfl), fun wq hq => ?_⟩
    clear hq
    go_simp
    try rfl
  try simp only [Act.put, List.setIfInBounds_toArray, List.set_cons_zero, List.set_cons_succ]
  refine rg_take (i := 10) (get_of Hops rfl) hS ?_
  apply Exists.intro
  apply And.intro
  · refine .inl ⟨(wanted_plain rfl), fun wq hq => ?_⟩
    clear hq
    go_simp
    try rfl
  try simp only [Act.put, List.setIfInBounds_toArray, List.set_cons_zero, List.set_cons_succ]
  refine rg_done ?_
  refine HQrg.down _ _ ?_
  have hB : Below W.heap.size W W.drew := hS
  clear hS HQrg Hops
  go_wp2_with fail
  go_ret
  exact ⟨rfl, bT Bw hB⟩
end Go.Proofs.Ytibchmofckhofaa
