/- edgematch: leaving, open. Small tests of lists: ascending (both), SamePath, Few. Lists compared: mapsheetsref14.SamePath, slices.Equal (points, nodes, ints). mapsheetsref14.SameArc, Face, limits. -/
import Derived.Test.YtfdbidagdjnipaaGreatDoorJ02
import Derived.Test.YtfdbidagdjnipaaGreatDoorJ01
import Derived.Test.YtfdbidagdjnipaaGreatDoorGB
set_option linter.unusedSimpArgs false
set_option linter.unusedVariables false
namespace Go.Proofs.YtfdbidagdjnipaaGreatDoor
open Go.RowKit

set_option maxRecDepth 100000 in
set_option maxHeartbeats 2000000 in
theorem leaving_spec (g : Ed) (y : Pc) (v : Value) (w : World) (h : Pts w v y.path) :
  Calls Tryz.prog 39 #[edV g, pcV y v] w fun e w' => ∃ v', e = .returned v' ∧ Below w.heap.size w w' ∧ ∀ W, Pts W v y.path → Pts W v' (leaveS g y) := by
 obtain ⟨A, c, rfl, hn, hc, hR⟩ := h
 unfold maxLen at hc
 have HR := Lib.hid hR; clear hR
 have TO : ∀ (p : Pt) (W : World), Calls Tryz.prog 42 #[edV g, ptV p] W fun e w' => e = .returned (.int .i64 (offS g p)) ∧ Below W.heap.size W w' := fun p W => off_spec g p W
 unfold edV ptV at TO
 have HO := Lib.hid TO; clear TO
 unfold edV pcV
 go_enter Tryz.func39, Tryz.ntmps39
 go_wp2_with fail
 obtain ⟨W0, hW0⟩ : ∃ W0 : World, W0 = (w.alloc (.cells #[.int .i64 g.side, .bool g.upright, .int .i64 g.line, .int .i64 g.lo, .int .i64 g.hi] 78)).alloc (.cells #[.int .i64 y.arc, .slice A y.path.length c, .int .i64 y.enter, .int .i64 y.leave] 68) := ⟨_, rfl⟩
 have X2 : Blk W0 w.heap.size 78 #[.int .i64 g.side, .bool g.upright, .int .i64 g.line, .int .i64 g.lo, .int .i64 g.hi] := by rw [hW0]; exact (Blk.made rfl _ _).alloc _
 have X3 : Blk W0 (w.heap.size + 1) 68 #[.int .i64 y.arc, .slice A y.path.length c, .int .i64 y.enter, .int .i64 y.leave] := by rw [hW0]; exact Blk.made (by simp) _ _
 have HB0 := Lib.hid (show Below w.heap.size w W0 by rw [hW0]; exact bA (bA (bR w) _) _)
 rw [← hW0]
 have HX2 := Lib.hid X2; have HX3 := Lib.hid X3
 clear hW0 X2 X3
 go_loopw [5] (fun u wr => ∃ k : Nat, k ≤ y.path.length ∧ u = .int .i64 k ∧ Below W0.heap.size W0 wr ∧ ∀ j (hj : j < y.path.length), k ≤ j → onE g y.path[j] = true) (fun u _ => (intOf u).toNat)
 case atStart => exact ⟨y.path.length, Nat.le_refl _, rfl, bR W0, fun _ _ h => by omega⟩
 case round =>
  obtain ⟨k, hk, rfl, hb, hon⟩ := hrel
  have Hb := Lib.hid hb
  have Hon := Lib.hid hon
  have X2 := HX2.out.keep hb
  have X3 := HX3.out.keep hb
  clear hb hon
  obtain ⟨X2l, X2a, X2b, X2c, X2d, X2e, -, -, -, -, -⟩ := X2.facts5
  obtain ⟨X3l, X3a, X3b, X3c, X3d, -, -, -, -⟩ := X3.facts4
  rcases Nat.eq_zero_or_pos k with hk0 | hkp
  case inr =>
   obtain ⟨m, rfl⟩ : ∃ m, k = m + 1 := ⟨k - 1, by omega⟩
   have hlt : m < y.path.length := by omega
   obtain ⟨b, o, rfl, hlb, c0, c1⟩ := (HR.out.mono (bT HB0.out Hb.out)).pt hlt
   have q0 : 0 < (m : Int) + 1 := by omega
   have q1 : 0 ≤ (m : Int) := by omega
   have q2 : (m : Int) < y.path.length := by omega
   have q6 : IntKind.i64.wrap (m : Int) = (m : Int) := IntWalk.i64_in _ (by omega)
   by_cases ho : onE g y.path[m] = true
   ·
    have hz : offS g y.path[m] = 0 := (off_on g _).2 ho
    have TK : ∀ W, Calls Tryz.prog 42 #[.agg #[.int .i64 g.side, .bool g.upright, .int .i64 g.line, .int .i64 g.lo, .int .i64 g.hi], .agg #[.int .i64 y.path[m].x, .int .i64 y.path[m].y]] W fun e w' => e = .returned (.int .i64 0) ∧ Below W.heap.size W w' := fun W => by
     have := HO.out y.path[m] W
     rw [hz] at this
     exact this
    have HK := Lib.hid TK
    have Ho := Lib.hid ho
    clear TK hz ho
    go_upto_region 2 with fail
    refine rg_start (Since wr) (.run 10 0 0 (.call 10 2047 (.take 11 4095 (.take 12 8191 (.done))))) (by kernel_rfl) (bD (bR _)) (by kernel_rfl) (by kernel_rfl) (Nat.le_of_ble_eq_true (by kernel_rfl)) ?_
    intro opsR QR Hops HQrg hS
    iterate 3
     apply rg_p; exact Hops; exact rfl; exact hS; exact rfl
     · intro _ hqc; go_simp; try rfl
     try simp only [pu]
    iterate 7
     apply rg_g; exact Hops; exact rfl; exact hS; iterate 4 exact rfl
     · intro _ hqc; go_simp; try rfl
     try simp only [pu]
    refine rg_call (i := 10) (get_of Hops rfl) (fun K hK => ?_)
    have HSrg := Lib.hid hS; clear hS
    refine rg_run (wanted_yes rfl (get_of Hops rfl) rfl rfl) ?_
    go_simp
    refine (HK.out _).mono ?_
    rintro e wr1 ⟨rfl, hbr1⟩
    have hS : Since wr wr1 := bT (w := wr) HSrg.out hbr1
    clear HSrg
    refine hK.out _ _ hS (fun _ => ?_)
    clear hK K
    try simp only [pu]
    apply rg_g; exact Hops; exact rfl; exact hS; iterate 4 exact rfl
    · intro _ hqc; go_simp; try rfl
    try simp only [pu]
    apply rg_p; exact Hops; exact rfl; exact hS; exact rfl
    · intro _ hqc; go_simp; try rfl
    try simp only [pu]
    refine rg_done ?_
    refine HQrg.down _ _ ?_
    have hB : Below wr.heap.size wr wr1 := hS
    clear hS HQrg Hops
    have Bw := Lib.hid (bT Hb.out hB)
    clear hB
    go_wp2_with fail
    go_roundw
    case rel => exact ⟨m, by omega, by go_num, Bw.out, fun j hj hjk => if e : j = m then by subst e; exact Ho.out else Hon.out j hj (by omega)⟩
    case measure => first | (simp [intOf]; done) | (simp [intOf]; omega)
   ·
    have hz : ¬ offS g y.path[m] = 0 := fun e => ho ((off_on g _).1 e)
    obtain ⟨z, hzz⟩ : ∃ z, offS g y.path[m] = z := ⟨_, rfl⟩
    rw [hzz] at hz
    have hz' : (z == 0) = false := by simpa using hz
    have TK : ∀ W, Calls Tryz.prog 42 #[.agg #[.int .i64 g.side, .bool g.upright, .int .i64 g.line, .int .i64 g.lo, .int .i64 g.hi], .agg #[.int .i64 y.path[m].x, .int .i64 y.path[m].y]] W fun e w' => e = .returned (.int .i64 z) ∧ Below W.heap.size W w' := fun W => by
     have := HO.out y.path[m] W
     rw [hzz] at this
     exact this
    have HK := Lib.hid TK
    have htr := trailN_step (g := g) (l := y.path) (k := m + 1) (by omega) (by omega) (fun j hj hjk => Hon.out j hj (by omega)) (by simpa using ho)
    have hE : leaveS g y = if y.leave ≠ g.side then [] else y.path.drop (m + 1) := by
     unfold leaveS
     rw [htr, if_neg (show ¬ m + 1 = 0 by omega)]
    have HE := Lib.hid hE
    clear TK hz ho hzz htr hE
    go_upto_region 2 with fail
    refine rg_start (Since wr) (.run 10 0 0 (.call 10 2047 (.take 11 4095 (.take 12 8191 (.done))))) (by kernel_rfl) (bD (bR _)) (by kernel_rfl) (by kernel_rfl) (Nat.le_of_ble_eq_true (by kernel_rfl)) ?_
    intro opsR QR Hops HQrg hS
    iterate 3
     apply rg_p; exact Hops; exact rfl; exact hS; exact rfl
     · intro _ hqc; go_simp; try rfl
     try simp only [pu]
    iterate 7
     apply rg_g; exact Hops; exact rfl; exact hS; iterate 4 exact rfl
     · intro _ hqc; go_simp; try rfl
     try simp only [pu]
    refine rg_call (i := 10) (get_of Hops rfl) (fun K hK => ?_)
    have HSrg := Lib.hid hS; clear hS
    refine rg_run (wanted_yes rfl (get_of Hops rfl) rfl rfl) ?_
    go_simp
    refine (HK.out _).mono ?_
    rintro e wr1 ⟨rfl, hbr1⟩
    have hS : Since wr wr1 := bT (w := wr) HSrg.out hbr1
    clear HSrg
    refine hK.out _ _ hS (fun _ => ?_)
    clear hK K
    try simp only [pu]
    apply rg_g; exact Hops; exact rfl; exact hS; iterate 4 exact rfl
    · intro _ hqc; go_simp; try rfl
    try simp only [pu]
    apply rg_p; exact Hops; exact rfl; exact hS; exact rfl
    · intro _ hqc; go_simp; try rfl
    try simp only [pu]
    refine rg_done ?_
    refine HQrg.down _ _ ?_
    have hB : Below wr.heap.size wr wr1 := hS
    clear hS HQrg Hops
    have X2 := X2.keep hB
    have X3 := X3.keep hB
    have Bw := Lib.hid (bT HB0.out (bT Hb.out hB))
    clear hB X2l X2a X2b X2c X2d X2e X3l X3a X3b X3c X3d c0 c1 hlb q6
    try clear X2l
    try clear X2a
    try clear X2b
    try clear X2c
    try clear X2d
    try clear X2e
    obtain ⟨X2l, X2a, X2b, X2c, X2d, X2e, -, -, -, -, -⟩ := X2.facts5
    try clear X3l
    try clear X3a
    try clear X3b
    try clear X3c
    try clear X3d
    obtain ⟨X3l, X3a, X3b, X3c, X3d, -, -, -, -⟩ := X3.facts4
    by_cases he : y.leave = g.side
    ·
     have he' : (y.leave != g.side) = false := by simp [he]
     have hk' : ((m : Int) + 1 == 0) = false := by rw [beq_eq_false_iff_ne]; omega
     have hrun := run_cut Tryz.underlying56 sizeOf_pt (some ⟨b, o, none⟩) y.path.length c (m + 1) (by omega) ((m : Int) + 1) (by omega)
     have He := Lib.hid he; clear he
     go_wp2_with fail
     go_ret
     refine ⟨_, rfl, Bw.out, ?_⟩
     rw [HE.out, if_neg (fun h => h He.out)]
     exact fun W hW => Sl.from_ ptC_len hW (m + 1) (by omega)
    ·
     have he' : (y.leave != g.side) = true := by simp [he]
     have He := Lib.hid he; clear he
     go_wp2_with fail
     go_ret
     refine ⟨_, rfl, Bw.out, ?_⟩
     rw [HE.out, if_pos He.out]
     exact fun W _ => Sl.nil _
  case inl =>
  subst hk0
  have htr := trailN_end (g := g) (l := y.path) (fun j hj => Hon.out j hj (by omega))
  have hE : leaveS g y = if y.leave ≠ g.side then [] else if y.enter = 0 ∨ y.enter = g.side then [] else y.path.drop (if 1 < y.path.length then 1 else 0) := by
   unfold leaveS
   rw [htr, if_pos rfl]
  have HE := Lib.hid hE
  clear htr hE
  go_upto_region 2 with fail
  refine rg_start (Since wr) (.run 13 0 0 (.done)) (by kernel_rfl) (bD (bR _)) (by kernel_rfl) (by kernel_rfl) (Nat.le_of_ble_eq_true (by kernel_rfl)) ?_
  intro opsR QR Hops HQrg hS
  iterate 3
   apply rg_p; exact Hops; exact rfl; exact hS; exact rfl
   · intro _ hqc; go_simp; try rfl
   try simp only [pu]
  iterate 9
   refine rg_yn Hops rfl hS rfl rfl rfl rfl rfl ?_
   try simp only [pu]
  apply rg_p; exact Hops; exact rfl; exact hS; exact rfl
  · intro _ hqc; go_simp; try rfl
  try simp only [pu]
  refine rg_done ?_
  refine HQrg.down _ _ ?_
  have hB : Below wr.heap.size wr wr.drew := hS
  clear hS HQrg Hops
  have X2 := X2.keep hB
  have X3 := X3.keep hB
  have Bw := Lib.hid (bT HB0.out (bT Hb.out hB))
  clear hB X2l X2a X2b X2c X2d X2e X3l X3a X3b X3c X3d
  try clear X2l
  try clear X2a
  try clear X2b
  try clear X2c
  try clear X2d
  try clear X2e
  obtain ⟨X2l, X2a, X2b, X2c, X2d, X2e, -, -, -, -, -⟩ := X2.facts5
  try clear X3l
  try clear X3a
  try clear X3b
  try clear X3c
  try clear X3d
  obtain ⟨X3l, X3a, X3b, X3c, X3d, -, -, -, -⟩ := X3.facts4
  by_cases he : y.leave = g.side
  case neg =>
   have he' : (y.leave != g.side) = true := by simp [he]
   have He := Lib.hid he; clear he
   go_wp2_with fail
   go_ret
   refine ⟨_, rfl, Bw.out, ?_⟩
   rw [HE.out, if_pos He.out]
   exact fun W _ => Sl.nil _
  have he' : (y.leave != g.side) = false := by simp [he]
  have He := Lib.hid he; clear he
  by_cases hv : y.enter = 0 ∨ y.enter = g.side
  ·
   have hv' : (y.enter == 0) = true ∨ ((y.enter == 0) = false ∧ (y.enter == g.side) = true) := by
    by_cases h0 : y.enter = 0
    · left; simp [h0]
    · right; exact ⟨by simpa using h0, by rcases hv with h | h <;> simp_all⟩
   have Hv := Lib.hid hv; clear hv
   rcases hv' with h1 | ⟨h1, h2⟩
   all_goals
    go_wp2_with fail
    go_ret
    refine ⟨_, rfl, Bw.out, ?_⟩
    rw [HE.out, if_neg (fun h => h He.out), if_pos Hv.out]
    exact fun W _ => Sl.nil _
  ·
   have h1 : (y.enter == 0) = false := by simp; omega
   have h2 : (y.enter == g.side) = false := by simp; omega
   have Hv := Lib.hid hv; clear hv
   by_cases h3 : 1 < y.path.length
   ·
    have hrun := run_cut Tryz.underlying56 sizeOf_pt A y.path.length c 1 (by omega) 1 (by omega)
    have h4 : 1 < (y.path.length : Int) := by omega
    go_wp2_with fail
    go_ret
    refine ⟨_, rfl, Bw.out, ?_⟩
    rw [HE.out, if_neg (fun h => h He.out), if_neg Hv.out, if_pos h3]
    exact fun W hW => Sl.from_ ptC_len hW _ (by omega)
   ·
    have hrun := run_cut Tryz.underlying56 sizeOf_pt A y.path.length c 0 (by omega) 0 (by omega)
    have h4 : ¬ 1 < (y.path.length : Int) := by omega
    go_wp2_with fail
    go_ret
    refine ⟨_, rfl, Bw.out, ?_⟩
    rw [HE.out, if_neg (fun h => h He.out), if_neg Hv.out, if_neg h3]
    exact fun W hW => Sl.from_ ptC_len hW _ (by omega)

def closedS (g : Ed) (S : Pt → Bool) (p : Pt) : Bool := decide (alongS g p ≤ g.lo) || (decide (g.hi ≤ alongS g p) || S p)
theorem closed_strict (g : Ed) (l : List Nd) (p : Pt) : (!closedS g (inS l) p) = strictS g l p := by
 unfold closedS strictS inS
 cases l.any fun n => decide (n.pt = p)
 ·
  by_cases h1 : alongS g p ≤ g.lo
  · simp [h1, show ¬ g.lo < alongS g p by omega]
  ·
   by_cases h2 : g.hi ≤ alongS g p
   · simp [h2, show ¬ alongS g p < g.hi by omega]
   · simp [h1, h2, show g.lo < alongS g p by omega, show alongS g p < g.hi by omega]
 · simp
def edB (g : Ed) : Array Value := #[.int .i64 g.side, .bool g.upright, .int .i64 g.line, .int .i64 g.lo, .int .i64 g.hi]

set_option maxRecDepth 100000 in
set_option maxHeartbeats 1000000 in
theorem open1_spec (g : Ed) (p : Pt) (ge gm b n : Nat) (S : Pt → Bool) (w : World) (h1 : Blk w ge 78 (edB g)) (h2 : Blk w gm 81 #[.map (some b)]) (h3 : MapSet w b n S) (hp : wfPt p) :
  Calls Tryz.prog 64 #[ptV p, .pointer (some ⟨ge, 0, none⟩), .pointer (some ⟨gm, 0, none⟩)] w fun e w' => e = .returned (.bool (closedS g S p)) ∧ Below w.heap.size w w' := by
 have TA := along_spec g p
 unfold edV ptV at TA
 unfold edB at h1
 unfold ptV closedS
 have HA := Lib.hid TA; clear TA
 have HE := Lib.hid h1; have HM := Lib.hid h2; have HS := Lib.hid h3
 clear h3
 generalize alongS g p = z at *
 obtain ⟨h1l, h1a, h1b, h1c, h1d, h1e, -, -, -, -, -⟩ := h1.facts5
 obtain ⟨h2l, h2a, -⟩ := h2.facts1
 go_enter Tryz.func64, Tryz.ntmps64
 go_wp2_with fail
 refine (HA.out _).mono ?_
 rintro e w1 ⟨rfl, hb1⟩
 have Bw := Lib.hid (bT (bA (bR w) _) hb1)
 have X3 : Blk w1 w.heap.size 28 #[.int .i64 p.x, .int .i64 p.y] := (Blk.made rfl _ _).keep hb1
 have h1 := HE.out.keep Bw.out
 have h2 := HM.out.keep Bw.out
 have hlk := (HS.out.keep Bw.out).look p hp
 clear hb1 h1l h1a h1b h1c h1d h1e h2l h2a
 try clear h1l
 try clear h1a
 try clear h1b
 try clear h1c
 try clear h1d
 try clear h1e
 obtain ⟨h1l, h1a, h1b, h1c, h1d, h1e, -, -, -, -, -⟩ := h1.facts5
 try clear h2l
 try clear h2a
 obtain ⟨h2l, h2a, -⟩ := h2.facts1
 obtain ⟨X3l, X3a, X3b, -, -⟩ := X3.facts2
 by_cases hz1 : z ≤ g.lo
 ·
  go_wp2_with fail
  go_ret
  exact ⟨ret_bool (by rw [decide_eq_true (show z ≤ g.lo by omega)]; rfl), Bw.out⟩
 ·
  by_cases hz2 : g.hi ≤ z
  ·
   go_wp2_with fail
   go_ret
   exact ⟨ret_bool (by rw [decide_eq_false (show ¬ z ≤ g.lo by omega), decide_eq_true (show g.hi ≤ z by omega)]; rfl), Bw.out⟩
  ·
   go_wp2_with fail
   go_ret
   exact ⟨ret_bool (by rw [decide_eq_false (show ¬ z ≤ g.lo by omega), decide_eq_false (show ¬ g.hi ≤ z by omega)]; rfl), Bw.out⟩

set_option maxRecDepth 100000 in
set_option maxHeartbeats 1000000 in
theorem open_spec (g : Ed) (run : List Pt) (v : Value) (b n : Nat) (l : List Nd) (w : World) (h : Pts w v run) (h3 : MapSet w b n (inS l)) (hp : ∀ p ∈ run, wfPt p) :
  Calls Tryz.prog 37 #[edV g, v, .map (some b)] w fun e w' => e = .returned (.bool (openS g l run)) ∧ Below w.heap.size w w' := by
 obtain ⟨A, c, rfl, hn, hc, hR⟩ := h
 unfold maxLen at hc
 unfold edV openS firstP lastP
 by_cases hpos : 0 < run.length
 case neg =>
  have h0 : ((run.length : Int) == 0) = true := by rw [beq_iff_eq]; omega
  have hf := Lib.hid hpos
  clear hpos
  go_enter Tryz.func37, Tryz.ntmps37
  go_wp2_with fail
  go_ret
  exact ⟨ret_bool (by simp [hf.out]), bA (bA (bR w) _) _⟩
 obtain ⟨b1, o1, rfl, hlb, c0, c1⟩ := hR.pt hpos
 obtain ⟨b2, o2, e2, -, d0, d1⟩ := hR.pt (k := run.length - 1) (by omega)
 simp only [Option.some.injEq, Addr.mk.injEq, and_true] at e2
 obtain ⟨rfl, rfl⟩ := e2
 have e1 : run.getD 0 ⟨0, 0⟩ = run[0] := by simp [List.getD, List.getElem?_eq_getElem hpos]
 have e2 : run.getD (run.length - 1) ⟨0, 0⟩ = run[run.length - 1] := by simp [List.getD, List.getElem?_eq_getElem (show run.length - 1 < run.length by omega)]
 rw [e1, e2, ← closed_strict, ← closed_strict]
 have hw1 := hp _ (List.getElem_mem hpos)
 have hw2 := hp _ (List.getElem_mem (show run.length - 1 < run.length by omega))
 clear e1 e2 hR
 generalize run[0] = P0 at *
 generalize run[run.length - 1] = P1 at *
 obtain ⟨N, hN⟩ : ∃ N, run.length = N + 1 := ⟨run.length - 1, by omega⟩
 rw [hN] at d0 d1 hn ⊢
 simp only [Nat.add_sub_cancel] at d0 d1
 simp only [Nat.zero_mul, Nat.add_zero] at c0 c1
 have hd : decide (0 < N + 1) = true := by simp
 rw [hd, Bool.true_and]
 clear hd hN hpos
 have h0 : ((N : Int) + 1 == 0) = false := by rw [beq_eq_false_iff_ne]; omega
 have TC : ∀ (p : Pt) (ge gm : Nat) (W : World), Below w.heap.size w W → Blk W ge 78 (edB g) → Blk W gm 81 #[.map (some b)] → wfPt p → Calls Tryz.prog 64 #[ptV p, .pointer (some ⟨ge, 0, none⟩), .pointer (some ⟨gm, 0, none⟩)] W _ := fun p ge gm W hb x1 x2 hw => open1_spec g p ge gm b n (inS l) W x1 x2 (h3.keep hb) hw
 unfold ptV at TC
 have HC := Lib.hid TC; have HW1 := Lib.hid hw1; have HW2 := Lib.hid hw2
 clear TC hw1 hw2 h3 hp
 generalize hz1 : closedS g (inS l) P0 = z1 at *
 generalize hz2 : closedS g (inS l) P1 = z2 at *
 have Hz1 := Lib.hid hz1; have Hz2 := Lib.hid hz2
 clear hz1 hz2
 go_enter Tryz.func37, Tryz.ntmps37
 go_upto_region 4 with fail
 obtain ⟨W0, hW0⟩ : ∃ W0 : World, W0 = (w.alloc (.cells #[.int .i64 g.side, .bool g.upright, .int .i64 g.line, .int .i64 g.lo, .int .i64 g.hi] 78)).alloc (.cells #[.map (some b)] 81) := ⟨_, rfl⟩
 have X3 : Blk W0 w.heap.size 78 (edB g) := by rw [hW0]; exact (Blk.made rfl _ _).alloc _
 have X5 : Blk W0 (w.heap.size + 1) 81 #[.map (some b)] := by rw [hW0]; exact Blk.made (by simp) _ _
 have HB0 := Lib.hid (show Below w.heap.size w W0 by rw [hW0]; exact bA (bA (bR w) _) _)
 rw [← hW0]
 clear hW0
 obtain ⟨bc, -⟩ := bcell HB0.out
 replace c0 := (bc b1 _ hlb).trans c0
 replace c1 := (bc b1 _ hlb).trans c1
 have HD : Hid (w.cell? ⟨b1, o1 + N * 2, none⟩ = some (.int .i64 P1.x) ∧ w.cell? ⟨b1, o1 + N * 2 + 1, none⟩ = some (.int .i64 P1.y)) := Lib.hid ⟨d0, d1⟩
 clear d0 d1 bc
 have HX3 := Lib.hid X3; have HX5 := Lib.hid X5
 have q1 : 0 ≤ (N : Int) := by omega
 have q2 : (N : Int) < (N : Int) + 1 := by omega
 have q3 : 0 < (N : Int) + 1 := by omega
 clear X3 X5
 go_wp2_with fail
 refine (HC.out P0 _ _ _ HB0.out HX3.out HX5.out HW1.out).mono ?_
 rintro e w1 ⟨rfl, hb1⟩
 rw [Hz1.out]
 have HB1 := Lib.hid (bT HB0.out hb1)
 replace HX3 := Lib.hid (HX3.out.keep hb1)
 replace HX5 := Lib.hid (HX5.out.keep hb1)
 obtain ⟨bc, -⟩ := bcell HB1.out
 have d0 := (bc b1 _ hlb).trans HD.out.1
 have d1 := (bc b1 _ hlb).trans HD.out.2
 clear hb1 bc c0 c1
 have q6 : IntKind.i64.wrap (N : Int) = (N : Int) := IntWalk.i64_in _ (by omega)
 cases z1
 ·
  go_wp2_with fail
  refine (HC.out P1 _ _ _ HB1.out HX3.out HX5.out HW2.out).mono ?_
  rintro e w2 ⟨rfl, hb2⟩
  rw [Hz2.out]
  go_wp2_with fail
  go_ret
  exact ⟨ret_bool (by simp), bT HB1.out hb2⟩
 ·
  go_wp2_with fail
  go_ret
  exact ⟨ret_bool (by simp), HB1.out⟩
end Go.Proofs.YtfdbidagdjnipaaGreatDoor
namespace Go.Proofs.YtfdbidagdjnipaaGreatDoor
open Go.RowKit

def asc (l : List Int) : Bool := (List.range (l.length - 1)).all fun j => decide (l.getD j 0 < l.getD (j + 1) 0)
theorem asc_yes (l : List Int) (h : ∀ j (hj : j + 1 < l.length), l[j] < l[j + 1]) : asc l = true := by
 unfold asc
 rw [List.all_eq_true]
 intro j hj
 have hj' : j + 1 < l.length := by have := List.mem_range.1 hj; omega
 have := h j hj'
 simp [List.getD, List.getElem?_eq_getElem hj', List.getElem?_eq_getElem (show j < l.length by omega), this]
theorem asc_no (l : List Int) (j : Nat) (hj : j + 1 < l.length) (h : ¬ l[j] < l[j + 1]) : asc l = false := by
 unfold asc
 rw [List.all_eq_false]
 refine ⟨j, List.mem_range.2 (by omega), ?_⟩
 simp [List.getD, List.getElem?_eq_getElem hj, List.getElem?_eq_getElem (show j < l.length by omega)]
 omega

set_option maxHeartbeats 400000 in
theorem ascending_spec (v : Value) (l : List Int) (w : World) (h : Ints w v l) :
  Calls Tryz.prog 54 #[v] w fun e w' => e = .returned (.bool (asc l)) ∧ Below w.heap.size w w' := by
 obtain ⟨A, c, rfl, hn, hc, hR⟩ := h
 unfold maxLen at hc
 go_enter Tryz.func54, Tryz.ntmps54
 go_wp2_with fail
 go_loopw [3] (fun i wr => ∃ m : Nat, i = .int .i64 ((m : Int) + 1) ∧ (m = 0 ∨ m + 1 ≤ l.length) ∧ Below w.heap.size w wr ∧ ∀ j (hj : j + 1 < l.length), j < m → l[j] < l[j + 1]) (fun i _ => l.length + 1 - (intOf i).toNat)
 case atStart => exact ⟨0, rfl, .inl rfl, bR w, fun j _ h => by omega⟩
 case round =>
  obtain ⟨m, rfl, hm, hb, hno⟩ := hrel
  have Hb := Lib.hid hb
  have Hno := Lib.hid hno
  clear hb hno
  by_cases hlt : m + 1 < l.length
  ·
   obtain ⟨b, o, rfl, hlb, c1⟩ := (hR.mono Hb.out).int hlt
   obtain ⟨b', o', e, hlb', c0⟩ := (hR.mono Hb.out).int (show m < l.length by omega)
   simp only [Option.some.injEq, Addr.mk.injEq, and_true] at e
   obtain ⟨rfl, rfl⟩ := e
   have HR := Lib.hid hR; clear hR hm
   have q1 : IntKind.i64.wrap (m : Int) = m := IntWalk.i64_in _ (by omega)
   have q2 : 0 ≤ (m : Int) := by omega
   have q3 : (m : Int) < l.length := by omega
   have q4 : (m : Int) + 1 < l.length := by omega
   have q5 : 0 ≤ (m : Int) + 1 := by omega
   have q6 : ((m : Int) + 1).toNat = m + 1 := by omega
   go_upto_region 4 with fail
   refine rg_start (Since wr) (.run 10 0 0 (.done)) (by kernel_rfl) (bD (bR _)) (by kernel_rfl) (by kernel_rfl) (Nat.le_of_ble_eq_true (by kernel_rfl)) ?_
   intro opsR QR Hops HQrg hS
   iterate 10
    apply rg_p; exact Hops; exact rfl; exact hS; exact rfl
    · intro _ hqc; go_simp; try rfl
    try simp only [pu]
   refine rg_done ?_
   refine HQrg.down _ _ ?_
   have hB : Below wr.heap.size wr wr.drew := hS
   clear hS HQrg Hops
   have Bw : Below w.heap.size w wr.drew := bT Hb.out hB
   clear hB
   by_cases hlt2 : l[m] < l[m + 1]
   ·
    go_wp2_with fail
    go_roundw
    case rel => exact ⟨m + 1, by go_num, .inr (by omega), Bw, fun j hj hjm => if e : j < m then Hno.out j hj e else by
      have : j = m := by omega
      subst this; exact hlt2⟩
    case measure => simp [intOf]; omega
   ·
    have hf := Lib.hid (asc_no l m hlt hlt2)
    go_wp2_with fail
    go_ret
    exact ⟨ret_bool hf.out.symm, Bw⟩
  ·
   have hf := Lib.hid (asc_yes l fun j hj => Hno.out j hj (by omega))
   go_wp2_with fail
   go_ret
   exact ⟨ret_bool hf.out.symm, Hb.out⟩
end Go.Proofs.YtfdbidagdjnipaaGreatDoor
namespace Go.Proofs.YtfdbidagdjnipaaGreatDoor
open Go.RowKit

theorem eq_of_all {α : Type} {a b : List α} (hl : a.length = b.length) (h : ∀ j (hj : j < a.length), a[j] = b[j]) : a = b :=
 List.ext_getElem hl fun j h1 _ => h j h1
theorem ne_of_at {α : Type} {a b : List α} (j : Nat) (hj : j < a.length) (hj' : j < b.length) (h : ¬ a[j] = b[j]) : ¬ a = b := by
 rintro rfl; exact h rfl

end Go.Proofs.YtfdbidagdjnipaaGreatDoor
namespace Go.Proofs.YtfdbidagdjnipaaGreatDoor
open Go.RowKit

theorem Ar.ext_iff' {a b : Ar} : a = b ↔ a.id = b.id ∧ a.fr = b.fr ∧ a.dst = b.dst ∧ a.left = b.left ∧ a.right = b.right ∧ a.via = b.via := by
 cases a; cases b; simp; intros; constructor <;> (rintro ⟨h1, h2, h3⟩; exact ⟨by assumption, by assumption, by assumption⟩)

theorem any_hit {α : Type} (l : List α) (q : α → Bool) (k : Nat) (hk : k < l.length) (h : q l[k] = true) : l.any q = true := List.any_eq_true.2 ⟨l[k], List.getElem_mem hk, h⟩
theorem any_miss {α : Type} (l : List α) (q : α → Bool) (h : ∀ j (hj : j < l.length), q l[j] = false) : l.any q = false := by
 rw [List.any_eq_false]
 intro x hx
 obtain ⟨i, hi, rfl⟩ := List.mem_iff_getElem.1 hx
 simp [h i hi]

def faceS (l : List Int) (n : Int) : Bool := l.any (fun x => x == n) || n == 0

set_option maxHeartbeats 400000 in
theorem Face_spec (v : Value) (p : Pl) (n : Int) (w : World) (h : PlV w v p) :
  Calls Tryz.prog 21 #[v, .int .i64 n] w fun e w' => e = .returned (.bool (faceS p.faces n)) ∧ Below w.heap.size w w' := by
 obtain ⟨vn, va, _, al, rfl, hpa, -, -, ⟨Af, cf, rfl, hn1, hn2, hR⟩⟩ := h
 unfold maxLen at hn2
 generalize p.faces = l at *
 clear hpa
 go_enter Tryz.func21, Tryz.ntmps21
 go_wp2_with fail
 go_loopw [5] (fun i wr => ∃ k : Nat, k ≤ l.length ∧ i = .int .i64 k ∧ Below w.heap.size w wr ∧ Blk wr w.heap.size 26 #[vn, va, .slice Af l.length cf] ∧ ∀ j (hj : j < l.length), j < k → (l[j] == n) = false) (fun i _ => l.length - (intOf i).toNat)
 case atStart => exact ⟨0, Nat.zero_le _, rfl, bA (bR w) _, Blk.made rfl _ _, fun j _ h => by omega⟩
 case round =>
  obtain ⟨k, hk, rfl, hb, X2, hno⟩ := hrel
  have Hb := Lib.hid hb
  have Hno := Lib.hid hno
  clear hb hno
  obtain ⟨X2l, X2a, X2b, X2c, -, -, -⟩ := X2.facts3
  by_cases hlt : k < l.length
  ·
   obtain ⟨b, o, rfl, hlb, c0⟩ := (hR.mono Hb.out).int hlt
   have HR := Lib.hid hR; clear hR
   cases he : (l[k] == n)
   ·
    go_wp2_with fail
    go_roundw
    case rel => exact ⟨k + 1, by omega, by go_num, Hb.out, X2, all_succ (p := fun x => (x == n) = false) Hno.out hlt he⟩
    case measure => simp [intOf]; omega
   ·
    have hf := Lib.hid (any_hit l (fun x => x == n) k hlt he)
    go_wp2_with fail
    go_ret
    exact ⟨ret_bool (by rw [faceS, hf.out]; rfl), Hb.out⟩
  ·
   have hf := Lib.hid (any_miss l (fun x => x == n) (fun j hj => Hno.out j hj (by omega)))
   go_wp2_with fail
   go_ret
   exact ⟨ret_bool (by rw [faceS, hf.out]; simp), Hb.out⟩

def limS (p : Pl) : Bool := p.arcs.any (fun a => decide (64 < a.via.length)) || (decide (256 < p.nodes.length) || decide (256 < p.arcs.length) || decide (64 < p.faces.length))

set_option maxHeartbeats 400000 in
theorem limits_spec (v : Value) (p : Pl) (w : World) (h : PlV w v p) :
  Calls Tryz.prog 15 #[v] w fun e w' => e = .returned (.bool (limS p)) ∧ Below w.heap.size w w' := by
 obtain ⟨_, _, _, al, rfl, hpa, ⟨An, cn, rfl, hn1, hn2, -⟩, ⟨⟨Aa, ca, rfl, ha1, ha2, hR⟩, hV⟩, ⟨Af, cf, rfl, hf1, hf2, -⟩⟩ := h
 unfold maxLen at hn2 ha2 hf2
 have hS : limS p = (al.any (fun a => decide (64 < a.1.via.length)) || (decide (256 < p.nodes.length) || decide (256 < al.length) || decide (64 < p.faces.length))) := by
  rw [limS, hpa, List.any_map, List.length_map]; rfl
 rw [hS]
 clear hS hpa
 generalize p.nodes.length = nn at *
 generalize p.faces.length = nf at *
 have HV := Lib.hid hV; clear hV
 go_enter Tryz.func15, Tryz.ntmps15
 go_wp2_with fail
 go_loopw [3] (fun i wr => ∃ k : Nat, k ≤ al.length ∧ i = .int .i64 k ∧ Below w.heap.size w wr ∧ Blk wr w.heap.size 26 #[.slice An nn cn, .slice Aa al.length ca, .slice Af nf cf] ∧ ∀ j (hj : j < al.length), j < k → decide (64 < al[j].1.via.length) = false) (fun i _ => al.length - (intOf i).toNat)
 case atStart => exact ⟨0, Nat.zero_le _, rfl, bA (bR w) _, Blk.made rfl _ _, fun j _ h => by omega⟩
 case round =>
  obtain ⟨k, hk, rfl, hb, X2, hno⟩ := hrel
  have Hb := Lib.hid hb
  have Hno := Lib.hid hno
  clear hb hno
  obtain ⟨X2l, X2a, X2b, X2c, -, -, -⟩ := X2.facts3
  by_cases hlt : k < al.length
  ·
   obtain ⟨b, o, rfl, hlb, c0, c1, c2, c3, c4, c5⟩ := (hR.mono Hb.out).ar hlt
   have HR := Lib.hid hR; clear hR
   obtain ⟨Av, cv, hv, hvc, hvm, -⟩ := HV.out k hlt
   rw [hv] at c3
   clear hv
   unfold maxLen at hvm
   by_cases he : 64 < al[k].1.via.length
   ·
    have hf := Lib.hid (any_hit al (fun a => decide (64 < a.1.via.length)) k hlt (decide_eq_true he))
    go_wp2_with fail
    go_ret
    exact ⟨ret_bool (by rw [hf.out]; rfl), Hb.out⟩
   ·
    have he' := Lib.hid (decide_eq_false he)
    go_wp2_with fail
    go_roundw
    case rel => exact ⟨k + 1, by omega, by go_num, Hb.out, X2, all_succ (p := fun x => decide (64 < x.1.via.length) = false) Hno.out hlt he'.out⟩
    case measure => simp [intOf]; omega
  ·
   have hf := Lib.hid (any_miss al (fun a => decide (64 < a.1.via.length)) (fun j hj => Hno.out j hj (by omega)))
   go_wp2_with fail
   all_goals
    go_ret
    refine ⟨ret_bool (by rw [hf.out, Bool.eq_iff_iff]; simp only [Bool.false_or, Bool.or_eq_true, decide_eq_true_eq, true_iff, Bool.false_eq_true, false_iff]; omega), Hb.out⟩
end Go.Proofs.YtfdbidagdjnipaaGreatDoor
