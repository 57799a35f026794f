/- Plain law: neighbouring sheets expect the same crossings, in opposite directions. No walk here. edgematch: facing, crossings. mapsheetsref42.facing; mapsheetsref04.Has. mapsheetsref42: sided, across, along, on, inner, strict, before, all. (printed by gen/refea.py) -/
import Derived.Test.YtbjlnnfmcjbnhaaGreatDoorJ15
import Derived.Test.YtbjlnnfmcjbnhaaGreatDoorJ14
import Derived.Test.YtbjlnnfmcjbnhaaGreatDoorJ12
import Derived.Test.YtbjlnnfmcjbnhaaGreatDoorGB
set_option linter.unusedSimpArgs false
set_option linter.unusedVariables false
namespace Go.Proofs.YtbjlnnfmcjbnhaaGreatDoor
open Go.RowKit

def facS (side : Int) : Int := if side ≤ 2 then side + 2 else side - 2

theorem nbS_some {s : Se} {n side m : Int} (h : nbS s n side = some m) : InS s n ∧ (1 ≤ side ∧ side ≤ 4) ∧ (0 ≤ colS s n + dxS side ∧ colS s n + dxS side < s.cols ∧ 0 ≤ rowS s n + dyS side ∧ rowS s n + dyS side < s.rows) ∧ m = (rowS s n + dyS side) * s.cols + (colS s n + dxS side) + 1 := by
  unfold nbS at h
  split at h
  · rename_i hc
    obtain ⟨h1, h2, h3⟩ := hc
    injection h with h
    unfold sideOk at h2
    unfold inGrid at h3
    simp only [Bool.and_eq_true, decide_eq_true_eq] at h2 h3
    exact ⟨findE_zero.1 h1, h2, ⟨h3.1.1, h3.1.2, h3.2.1, h3.2.2⟩, h.symm⟩
  · cases h
theorem grid_at {s : Se} {c r : Int} (hc : 0 ≤ c ∧ c < s.cols) (hr : 0 ≤ r ∧ r < s.rows) (ho : seOk s = true) : InS s (r * s.cols + c + 1) ∧ colS s (r * s.cols + c + 1) = c ∧ rowS s (r * s.cols + c + 1) = r := by
  have h0 : 0 ≤ r * s.cols := Int.mul_nonneg hr.1 (by omega)
  have h1 : (r + 1) * s.cols ≤ s.rows * s.cols := Int.mul_le_mul_of_nonneg_right (by omega) (by omega)
  rw [Int.add_mul, Int.one_mul] at h1
  refine ⟨⟨ho, by omega, by rw [Int.mul_comm s.cols]; omega⟩, ?_, ?_⟩
  · unfold colS
    rw [show r * s.cols + c + 1 - 1 = c + r * s.cols by omega, Int.tmod_eq_emod_of_nonneg (by omega), Int.add_mul_emod_self_right, Int.emod_eq_of_lt hc.1 hc.2]
  · unfold rowS
    rw [show r * s.cols + c + 1 - 1 = c + r * s.cols by omega, Int.tdiv_eq_ediv_of_nonneg (by omega), Int.add_mul_ediv_right _ _ (by omega), Int.ediv_eq_zero_of_lt hc.1 hc.2, Int.zero_add]
theorem nbS_in {s : Se} {n side m : Int} (h : nbS s n side = some m) : InS s m ∧ colS s m = colS s n + dxS side ∧ rowS s m = rowS s n + dyS side := by
  obtain ⟨h1, h2, h3, rfl⟩ := nbS_some h
  exact grid_at ⟨h3.1, h3.2.1⟩ ⟨h3.2.2.1, h3.2.2.2⟩ h1.ok

/-- an edge and the same one of the sheet on the other side -/
structure Facing (g k : Ed) : Prop where
  up : k.upright = g.upright
  line : k.line = g.line
  lo : k.lo = g.lo
  hi : k.hi = g.hi
  pos : posS k = !posS g
theorem edge_facing {s : Se} {n side m : Int} (h : nbS s n side = some m) : ∃ g k, edOf (boxOf s n) side = some g ∧ edOf (boxOf s m) (facS side) = some k ∧ Facing g k := by
  obtain ⟨h1, h2, -, -⟩ := nbS_some h
  obtain ⟨-, hc, hr⟩ := nbS_in h
  unfold boxOf
  rw [hc, hr]
  have hs : side = 1 ∨ side = 2 ∨ side = 3 ∨ side = 4 := by omega
  clear h hc hr h1 h2
  generalize colS s n = c
  generalize rowS s n = r
  rcases hs with rfl | rfl | rfl | rfl
  · refine ⟨_, _, rfl, rfl, ⟨rfl, ?_, ?_, ?_, rfl⟩⟩
    · show s.at_.x + (c + -1) * s.width + s.width = s.at_.x + c * s.width
      rw [Int.add_mul]; omega
    · show s.at_.y + (r + 0) * s.height = s.at_.y + r * s.height
      rw [Int.add_zero]
    · show s.at_.y + (r + 0) * s.height + s.height = s.at_.y + r * s.height + s.height
      rw [Int.add_zero]
  · refine ⟨_, _, rfl, rfl, ⟨rfl, ?_, ?_, ?_, rfl⟩⟩
    · show s.at_.y + (r + -1) * s.height + s.height = s.at_.y + r * s.height
      rw [Int.add_mul]; omega
    · show s.at_.x + (c + 0) * s.width = s.at_.x + c * s.width
      rw [Int.add_zero]
    · show s.at_.x + (c + 0) * s.width + s.width = s.at_.x + c * s.width + s.width
      rw [Int.add_zero]
  · refine ⟨_, _, rfl, rfl, ⟨rfl, ?_, ?_, ?_, rfl⟩⟩
    · show s.at_.x + (c + 1) * s.width = s.at_.x + c * s.width + s.width
      rw [Int.add_mul]; omega
    · show s.at_.y + (r + 0) * s.height = s.at_.y + r * s.height
      rw [Int.add_zero]
    · show s.at_.y + (r + 0) * s.height + s.height = s.at_.y + r * s.height + s.height
      rw [Int.add_zero]
  · refine ⟨_, _, rfl, rfl, ⟨rfl, ?_, ?_, ?_, rfl⟩⟩
    · show s.at_.y + (r + 1) * s.height = s.at_.y + r * s.height + s.height
      rw [Int.add_mul]; omega
    · show s.at_.x + (c + 0) * s.width = s.at_.x + c * s.width
      rw [Int.add_zero]
    · show s.at_.x + (c + 0) * s.width + s.width = s.at_.x + c * s.width + s.width
      rw [Int.add_zero]

section
variable {g k : Ed} (h : Facing g k)
include h
theorem Facing.along (p : Pt) : alongS k p = alongS g p := by unfold alongS; rw [h.up]
theorem Facing.across (p : Pt) : acrossS k p = acrossS g p := by unfold acrossS; rw [h.up]
theorem Facing.on (p : Pt) : onE k p = onE g p := by unfold onE; rw [h.across, h.line]
theorem Facing.inner {p : Pt} (hn : onE g p = false) : innerS k p = !innerS g p := by
  unfold onE at hn
  rw [decide_eq_false_iff_not] at hn
  unfold innerS
  rw [h.pos, h.across, h.line]
  cases posS g
  · simp only [Bool.not_false, if_true, Bool.false_eq_true, if_false]
    by_cases h1 : g.line < acrossS g p
    · rw [decide_eq_true h1, decide_eq_false (by omega)]; rfl
    · rw [decide_eq_false h1, decide_eq_true (by omega)]; rfl
  · simp only [Bool.not_true, if_true, Bool.false_eq_true, if_false]
    by_cases h1 : g.line < acrossS g p
    · rw [decide_eq_true h1, decide_eq_false (by omega)]; rfl
    · rw [decide_eq_false h1, decide_eq_true (by omega)]; rfl
theorem Facing.strict (ns : List Nd) (p : Pt) : strictS k ns p = strictS g ns p := by unfold strictS; rw [h.along, h.lo, h.hi]
theorem Facing.open_ (ns : List Nd) (l : List Pt) : openS k ns l = openS g ns l := by unfold openS; rw [h.strict, h.strict]
theorem Facing.meet (a b : Pt) : meetP k a b = meetP g a b := by unfold meetP; rw [h.up, h.line]
theorem Facing.run (path : List Pt) (m j : Nat) : runS k path m j = runS g path m j := by unfold runS; rw [h.meet]
theorem Facing.cr (ns : List Nd) (id : Int) (path : List Pt) {m : Nat} (j : Nat) (hm : onE g (path.getD m pt0) = false) : expCr k ns id path m j = (expCr g ns id path m j).map flipCr := by
  unfold expCr
  rw [h.run, h.open_, h.along, h.inner hm]
  cases openS g ns (runS g path m j)
  · rfl
  · cases innerS g (path.getD m pt0)
    · rfl
    · rfl
theorem Facing.at_ (ns : List Nd) (id : Int) (path : List Pt) (j : Nat) : expAt k ns id path j = ((expAt g ns id path j).1, (expAt g ns id path j).2.map flipCr) := by
  induction j with
  | zero => rfl
  | succ j ih =>
    cases ho : onE g (path.getD j pt0)
    case true => rw [expAt_on ho, expAt_on (by rw [h.on]; exact ho), ih]
    have ho' : onE k (path.getD j pt0) = false := by rw [h.on]; exact ho
    obtain ⟨b1, b2, b3, -⟩ := expAt_bd g ns id path j
    obtain ⟨L, hL⟩ : ∃ L, (expAt g ns id path j).2 = L := ⟨_, rfl⟩
    by_cases hm : 0 ≤ (expAt g ns id path j).1
    case neg =>
      have e : expAt g ns id path j = (-1, L) := Prod.ext (by show (expAt g ns id path j).1 = -1; omega) hL
      rw [e] at ih
      rw [expAt_no ho e, expAt_no ho' ih]
    have h3 := b3 hm
    obtain ⟨m, hm'⟩ : ∃ m : Nat, (m : Int) = (expAt g ns id path j).1 := ⟨(expAt g ns id path j).1.toNat, by omega⟩
    have e : expAt g ns id path j = ((m : Int), L) := Prod.ext hm'.symm hL
    rw [← hm', Int.toNat_natCast] at h3
    rw [e] at ih
    by_cases hi : innerS g (path.getD m pt0) = innerS g (path.getD j pt0)
    · rw [expAt_same ho e hi, expAt_same ho' ih (by rw [h.inner h3, h.inner ho, hi])]
    · rw [expAt_cross ho e hi, expAt_cross ho' ih (by rw [h.inner h3, h.inner ho]; intro e; exact hi (by revert e; cases innerS g (path.getD m pt0) <;> cases innerS g (path.getD j pt0) <;> simp)), h.cr ns id path j h3]
      simp
theorem Facing.expL (p : Pl) : expL k p = (expL g p).map flipCr := by
  unfold Go.Proofs.YtbjlnnfmcjbnhaaGreatDoor.expL
  rw [List.map_flatMap]
  congr 1
  funext a
  rw [h.at_]
end
theorem expCr_out (g : Ed) (ns : List Nd) (id : Int) (path : List Pt) (m j : Nat) : ∀ c ∈ expCr g ns id path m j, c.out = 0 ∨ c.out = 1 := by
  intro c hc
  unfold expCr at hc
  split at hc
  · rw [List.mem_singleton] at hc
    subst hc
    cases innerS g (path.getD m pt0)
    · exact .inl rfl
    · exact .inr rfl
  · cases hc
theorem expAt_out (g : Ed) (ns : List Nd) (id : Int) (path : List Pt) (j : Nat) : ∀ c ∈ (expAt g ns id path j).2, c.out = 0 ∨ c.out = 1 := by
  induction j with
  | zero => intro c hc; cases hc
  | succ j ih =>
    unfold expAt
    split
    · exact ih
    · intro c hc
      simp only [List.mem_append] at hc
      rcases hc with hc | hc
      · exact ih c hc
      · split at hc
        · exact expCr_out _ _ _ _ _ _ c hc
        · cases hc
theorem expL_out (g : Ed) (p : Pl) : ∀ c ∈ expL g p, c.out = 0 ∨ c.out = 1 := by
  intro c hc
  obtain ⟨a, -, h⟩ := List.mem_flatMap.1 hc
  exact expAt_out _ _ _ _ _ c h
/-- P42.5 -/
theorem expected_facing {p : Pl} {s : Se} {n side m : Int} (hp : checkS p = 0) (h : nbS s n side = some m) :
    (expectedS p s n side).2 = 0 ∧ (expectedS p s m (facS side)).2 = 0 ∧ (expectedS p s n side).1 = oppS (expectedS p s m (facS side)).1 := by
  obtain ⟨g, k, hg, hk, hf⟩ := edge_facing h
  have h1 := findE_zero.2 (nbS_some h).1
  have h2 := findE_zero.2 (nbS_in h).1
  unfold expectedS
  rw [if_pos hp, if_pos hp, if_pos h1, if_pos h2, hg, hk]
  refine ⟨rfl, rfl, ?_⟩
  show sortCr (expL g p) = sortCr ((sortCr (expL k p)).map flipCr)
  rw [hf.expL, flip_twice (expL_out g p)]
end Go.Proofs.YtbjlnnfmcjbnhaaGreatDoor
namespace Go.Proofs.YtbjlnnfmcjbnhaaGreatDoor
open Go.RowKit

set_option maxHeartbeats 1000000 in
theorem facing_spec (side : Int) (w : World) (h : 1 ≤ side ∧ side ≤ 4) : Calls Tryz.prog 91 #[.int .i64 side] w fun e w' => e = .returned (.int .i64 (facS side)) ∧ Below w.heap.size w w' := by
  have hs : side = 1 ∨ side = 2 ∨ side = 3 ∨ side = 4 := by omega
  clear h
  rcases hs with rfl | rfl | rfl | rfl
  all_goals
    go_enter Tryz.func91, Tryz.ntmps91
    go_wp2_with fail
    go_ret
    exact ⟨rfl, bR w⟩
set_option maxHeartbeats 1000000 in
theorem rfacing_spec (side : Int) (w : World) (h : 1 ≤ side ∧ side ≤ 4) : Calls Tryz.prog 50 #[.int .i64 side] w fun e w' => e = .returned (.int .i64 (facS side)) ∧ Below w.heap.size w w' := by
  have hs : side = 1 ∨ side = 2 ∨ side = 3 ∨ side = 4 := by omega
  clear h
  rcases hs with rfl | rfl | rfl | rfl
  all_goals
    go_enter Tryz.func50, Tryz.ntmps50
    go_wp2_with fail
    go_ret
    exact ⟨rfl, bR w⟩

set_option maxRecDepth 100000 in
set_option maxHeartbeats 2000000 in
theorem crossings_spec (v : Value) (x : Prt) (s : Se) (side : Int) (w : World) (h : PrtV w v x) (hw : wfPrt x) (hl1 : x.pieces.length ≤ 60000) (hl2 : x.nodes.length ≤ 60000) (hin : InS s x.sheet) :
    Calls Tryz.prog 90 #[v, seV s, .int .i64 side] w (RetCrs w (crossResS x (boxOf s x.sheet) side)) := by
  have TB := fun w => sBox_spec s x.sheet w
  rw [boxRes_in hin] at TB
  unfold seV boxV at TB
  have TC := fun W (hW : Below w.heap.size w W) => Crossings_spec v x (boxOf s x.sheet) side W (h.mono hW) hw hl1 hl2
  obtain ⟨vp, vn, pl, rfl, -⟩ := h
  unfold bxV at TB TC
  unfold seV
  generalize crossResS x (boxOf s x.sheet) side = r at *
  have HB := Lib.hid TB; have HC := Lib.hid TC
  clear TB TC hw hl1 hl2 hin
  generalize boxOf s x.sheet = b at *
  go_enter Tryz.func90, Tryz.ntmps90
  go_wp2_with fail
  refine (HB.out _).mono ?_
  rintro e w1 ⟨rfl, hb1⟩
  have X3 : Blk w1 w.heap.size 25 #[.int .i64 x.sheet, vp, vn] := ((Blk.made rfl _ _).alloc _).keep hb1
  have B1 := Lib.hid (bT (bA (bA (bR w) _) _) hb1)
  clear hb1
  try clear X3l
  try clear X3a
  try clear X3b
  try clear X3c
  try clear X3fa
  try clear X3fb
  try clear X3fc
  obtain ⟨X3l, X3a, X3b, X3c, -, -, -⟩ := X3.facts3
  go_wp2_with fail
  refine (HC.out _ (bA B1.out _)).mono ?_
  rintro e w2 ⟨A2, c2, rfl, hb2, ho2⟩
  have B2 := Lib.hid (bT (bA B1.out _) hb2)
  have Ho2 := Lib.hid ho2
  have hz := (bA B1.out (.cells #[.int .i64 b.x0, .int .i64 b.y0, .int .i64 b.x1, .int .i64 b.y1] 27)).size
  clear hb2 ho2
  go_wp2_with fail
  go_ret2
  exact ⟨A2, c2, rfl, B2.out, Own.mono_base Ho2.out hz⟩

set_option maxHeartbeats 1000000 in
theorem Has_spec (v : Value) (l : List Int) (n : Int) (w : World) (h : Ints w v l) : Calls Tryz.prog 127 #[v, .int .i64 n] w fun e w' => e = .returned (.bool (l.any (fun y => decide (y = n)))) ∧ Below w.heap.size w w' := by
  obtain ⟨A, c, rfl, hn, hc, hR⟩ := h
  unfold maxLen at hc
  have HR := Lib.hid hR; clear hR
  go_enter Tryz.func127, Tryz.ntmps127
  go_wp2_with fail
  go_loopw [5] (fun u wr => ∃ k : Nat, k ≤ l.length ∧ u = .int .i64 k ∧ Below w.heap.size w wr ∧ ∀ j (hj : j < l.length), j < k → decide (l[j] = n) = false) (fun u _ => l.length - (intOf u).toNat)
  case atStart => exact ⟨0, Nat.zero_le _, rfl, bR w, fun _ _ h => by omega⟩
  case round =>
    obtain ⟨k, hk, rfl, hb, hno⟩ := hrel
    have Hb := Lib.hid hb
    have Hno := Lib.hid hno
    clear hb hno
    by_cases hlt : k < l.length
    case pos =>
      obtain ⟨b, o, rfl, hlb, c0⟩ := (HR.out.mono Hb.out).int hlt
      by_cases he : l[k] = n
      · have hd : (l[k] == n) = true := by simp [he]
        have hf := any_hit l (fun y => decide (y = n)) k hlt (by simpa using he)
        have Hf := Lib.hid hf
        clear he hf
        go_wp2_with fail
        go_ret
        exact ⟨ret_bool Hf.out.symm, Hb.out⟩
      · have hd : (l[k] == n) = false := by simpa using he
        have Hd := Lib.hid (show decide (l[k] = n) = false by simpa using he)
        clear he
        go_wp2_with fail
        go_roundw
        case rel => exact ⟨k + 1, by omega, by go_num, Hb.out, all_succ (p := fun y => decide (y = n) = false) Hno.out hlt Hd.out⟩
        case measure => simp [intOf]; omega
    case neg =>
    have hf := any_miss l (fun y => decide (y = n)) (fun j hj => Hno.out j hj (by omega))
    have Hf := Lib.hid hf
    clear hf
    go_wp2_with fail
    go_ret
    exact ⟨ret_bool Hf.out.symm, Hb.out⟩
end Go.Proofs.YtbjlnnfmcjbnhaaGreatDoor
namespace Go.Proofs.YtbjlnnfmcjbnhaaGreatDoor
open Go.RowKit

theorem struct_red : StructOf Tryz.prog 76 5 := .mk_ Tryz.underlying76 (by kernel_rfl)
def redRes (o : Option Ed) : Value := .tuple #[redV (o.getD ed0), .bool o.isSome]
set_option maxRecDepth 100000 in
set_option maxHeartbeats 1000000 in
theorem sided_spec (b : Bx) (side : Int) (w : World) : Calls Tryz.prog 33 #[bxV b, .int .i64 side] w fun e w' => e = .returned (redRes (edOf b side)) ∧ Below w.heap.size w w' := by
  unfold bxV edOf
  by_cases h1 : side = 1
  case pos =>
    subst h1
    go_enter Tryz.func33, Tryz.ntmps33
    go_wp2_with fail
    refine res_cell_tmp (t := 76) (g := w.heap.size + 1) (cs := #[.bool true, .int .i64 b.x0, .int .i64 b.y0, .int .i64 b.y1, .bool true]) rfl struct_red rfl rfl ?_ ⟨rfl, ?_⟩
    · exact Blk.made (by simp) _ _
    · exact bA (bA (bR w) _) _
  by_cases h2 : side = 2
  case pos =>
    subst h2
    clear h1
    go_enter Tryz.func33, Tryz.ntmps33
    go_wp2_with fail
    refine res_cell_tmp (t := 76) (g := w.heap.size + 1) (cs := #[.bool false, .int .i64 b.y0, .int .i64 b.x0, .int .i64 b.x1, .bool true]) rfl struct_red rfl rfl ?_ ⟨rfl, ?_⟩
    · exact Blk.made (by simp) _ _
    · exact bA (bA (bR w) _) _
  by_cases h3 : side = 3
  case pos =>
    subst h3
    clear h1 h2
    go_enter Tryz.func33, Tryz.ntmps33
    go_wp2_with fail
    refine res_cell_tmp (t := 76) (g := w.heap.size + 1) (cs := #[.bool true, .int .i64 b.x1, .int .i64 b.y0, .int .i64 b.y1, .bool false]) rfl struct_red rfl rfl ?_ ⟨rfl, ?_⟩
    · exact Blk.made (by simp) _ _
    · exact bA (bA (bR w) _) _
  by_cases h4 : side = 4
  case pos =>
    subst h4
    clear h1 h2 h3
    go_enter Tryz.func33, Tryz.ntmps33
    go_wp2_with fail
    refine res_cell_tmp (t := 76) (g := w.heap.size + 1) (cs := #[.bool false, .int .i64 b.y1, .int .i64 b.x0, .int .i64 b.x1, .bool false]) rfl struct_red rfl rfl ?_ ⟨rfl, ?_⟩
    · exact Blk.made (by simp) _ _
    · exact bA (bA (bR w) _) _
  have k1 : (side == 1) = false := by simpa using h1
  have k2 : (side == 2) = false := by simpa using h2
  have k3 : (side == 3) = false := by simpa using h3
  have k4 : (side == 4) = false := by simpa using h4
  rw [if_neg h1, if_neg h2, if_neg h3, if_neg h4]
  clear h1 h2 h3 h4
  go_enter Tryz.func33, Tryz.ntmps33
  go_wp2_with fail
  refine res_cell_tmp (t := 76) (g := w.heap.size + 1) (cs := #[.bool false, .int .i64 0, .int .i64 0, .int .i64 0, .bool false]) rfl struct_red rfl rfl ?_ ⟨rfl, ?_⟩
  · exact Blk.made (by simp) _ _
  · exact bA (bA (bR w) _) _

set_option maxHeartbeats 1000000 in
theorem racross_spec (g : Ed) (p : Pt) (w : World) : Calls Tryz.prog 84 #[redV g, ptV p] w fun e w' => e = .returned (.int .i64 (acrossS g p)) ∧ Below w.heap.size w w' := by
  unfold redV ptV acrossS
  generalize posS g = po
  generalize g.upright = u
  cases u
  all_goals
    go_enter Tryz.func84, Tryz.ntmps84
    go_wp2_with fail
    go_ret
    exact ⟨rfl, bA (bA (bR w) _) _⟩

set_option maxHeartbeats 1000000 in
theorem ralong_spec (g : Ed) (p : Pt) (w : World) : Calls Tryz.prog 70 #[redV g, ptV p] w fun e w' => e = .returned (.int .i64 (alongS g p)) ∧ Below w.heap.size w w' := by
  unfold redV ptV alongS
  generalize posS g = po
  generalize g.upright = u
  cases u
  all_goals
    go_enter Tryz.func70, Tryz.ntmps70
    go_wp2_with fail
    go_ret
    exact ⟨rfl, bA (bA (bR w) _) _⟩

set_option maxRecDepth 100000 in
set_option maxHeartbeats 1000000 in
theorem ron_spec (g : Ed) (p : Pt) (w : World) : Calls Tryz.prog 44 #[redV g, ptV p] w fun e w' => e = .returned (.bool (onE g p)) ∧ Below w.heap.size w w' := by
  have TA := racross_spec g p
  unfold redV ptV at TA
  unfold redV ptV onE
  generalize posS g = po at *
  generalize acrossS g p = z at *
  have HA := Lib.hid TA; clear TA
  go_enter Tryz.func44, Tryz.ntmps44
  go_upto_region 1 with fail
  obtain ⟨W, hW⟩ : ∃ W : World, W = (w.alloc (.cells #[.bool g.upright, .int .i64 g.line, .int .i64 g.lo, .int .i64 g.hi, .bool po] 76)).alloc (.cells #[.int .i64 p.x, .int .i64 p.y] 42) := ⟨_, rfl⟩
  have Bw : Below w.heap.size w W := by rw [hW]; exact bA (bA (bR w) _) _
  have X1 : Blk W w.heap.size 76 #[.bool g.upright, .int .i64 g.line, .int .i64 g.lo, .int .i64 g.hi, .bool po] := by rw [hW]; exact (Blk.made rfl _ _).alloc _
  have X2 : Blk W (w.heap.size + 1) 42 #[.int .i64 p.x, .int .i64 p.y] := by rw [hW]; exact Blk.made (by simp) _ _
  rw [← hW]
  clear hW
  try clear X1l
  try clear X1a
  try clear X1b
  try clear X1c
  try clear X1d
  try clear X1e
  try clear X1fa
  try clear X1fb
  try clear X1fc
  try clear X1fd
  try clear X1fe
  obtain ⟨X1l, X1a, X1b, X1c, X1d, X1e, -, -, -, -, -⟩ := X1.facts5
  try clear X2l
  try clear X2a
  try clear X2b
  try clear X2fa
  try clear X2fb
  obtain ⟨X2l, X2a, X2b, -, -⟩ := X2.facts2
  refine rg_start (Since W) (.take 0 1 (.take 1 3 (.take 3 11 (.take 4 27 (.call 2 31 (.take 5 63 (.take 6 127 (.done)))))))) (by kernel_rfl) (bD (bR _)) (by kernel_rfl) (by kernel_rfl) (Nat.le_of_ble_eq_true (by kernel_rfl)) ?_
  intro opsR QR Hops HQrg hS
  apply rg_yp (i := 0) Hops rfl hS rfl
  · intro wq hq; obtain ⟨hqc, -⟩ := bcell (show Below W.heap.size W wq from hq); clear hq; go_simp; try rfl
  try simp only [Act.put, pu1, pu2, pu3]
  apply rg_yp (i := 1) Hops rfl hS rfl
  · intro wq hq; obtain ⟨hqc, -⟩ := bcell (show Below W.heap.size W wq from hq); clear hq; go_simp; try rfl
  try simp only [Act.put, pu1, pu2, pu3]
  apply rg_yp (i := 3) Hops rfl hS rfl
  · intro _ hq; clear hq; go_simp; try rfl
  try simp only [Act.put, pu1, pu2, pu3]
  apply rg_yp (i := 4) Hops rfl hS rfl
  · intro wq hq; obtain ⟨hqc, -⟩ := bcell (show Below W.heap.size W wq from hq); clear hq; go_simp; try rfl
  try simp only [Act.put, pu1, pu2, pu3]
  refine rg_call (i := 2) (get_of Hops rfl) (fun K hK => ?_)
  have HSrg := Lib.hid hS; clear hS
  refine rg_run (wanted_plain rfl) ?_
  go_simp
  refine (HA.out _).mono ?_
  rintro e wr1 ⟨rfl, hbr1⟩
  have hS : Since W wr1 := bT (w := W) HSrg.out hbr1
  clear HSrg
  refine hK.out _ _ hS (fun _ => ?_)
  clear hK K
  try simp only [Act.put, pu1, pu2, pu3]
  apply rg_yp (i := 5) Hops rfl hS rfl
  · intro _ hq; clear hq; go_simp; try rfl
  try simp only [Act.put, pu1, pu2, pu3]
  apply rg_yp (i := 6) Hops rfl hS rfl
  · intro _ hq; clear hq; go_simp; try rfl
  try simp only [Act.put, pu1, pu2, pu3]
  refine rg_done ?_
  refine HQrg.down _ _ ?_
  have hB : Below W.heap.size W wr1 := hS
  clear hS HQrg Hops
  go_wp2_with fail
  go_ret
  exact ⟨ret_bool (by first | rfl | (rw [Bool.eq_iff_iff]; simp)), bT Bw hB⟩

set_option maxRecDepth 100000 in
set_option maxHeartbeats 1000000 in
theorem rinner_spec (g : Ed) (p : Pt) (w : World) : Calls Tryz.prog 45 #[redV g, ptV p] w fun e w' => e = .returned (.bool (innerS g p)) ∧ Below w.heap.size w w' := by
  have TA := racross_spec g p
  unfold redV ptV at TA
  unfold redV ptV innerS
  generalize posS g = po at *
  generalize acrossS g p = z at *
  have HA := Lib.hid TA; clear TA
  cases po
  · go_enter Tryz.func45, Tryz.ntmps45
    go_upto_region 3 with fail
    obtain ⟨W, hW⟩ : ∃ W : World, W = (w.alloc (.cells #[.bool g.upright, .int .i64 g.line, .int .i64 g.lo, .int .i64 g.hi, .bool false] 76)).alloc (.cells #[.int .i64 p.x, .int .i64 p.y] 42) := ⟨_, rfl⟩
    have Bw : Below w.heap.size w W := by rw [hW]; exact bA (bA (bR w) _) _
    have X1 : Blk W w.heap.size 76 #[.bool g.upright, .int .i64 g.line, .int .i64 g.lo, .int .i64 g.hi, .bool false] := by rw [hW]; exact (Blk.made rfl _ _).alloc _
    have X2 : Blk W (w.heap.size + 1) 42 #[.int .i64 p.x, .int .i64 p.y] := by rw [hW]; exact Blk.made (by simp) _ _
    rw [← hW]
    clear hW
    try clear X1l
    try clear X1a
    try clear X1b
    try clear X1c
    try clear X1d
    try clear X1e
    try clear X1fa
    try clear X1fb
    try clear X1fc
    try clear X1fd
    try clear X1fe
    obtain ⟨X1l, X1a, X1b, X1c, X1d, X1e, -, -, -, -, -⟩ := X1.facts5
    try clear X2l
    try clear X2a
    try clear X2b
    try clear X2fa
    try clear X2fb
    obtain ⟨X2l, X2a, X2b, -, -⟩ := X2.facts2
    refine rg_start (Since W) (.take 0 1 (.take 1 3 (.take 3 11 (.take 4 27 (.call 2 31 (.take 5 63 (.take 6 127 (.done)))))))) (by kernel_rfl) (bD (bR _)) (by kernel_rfl) (by kernel_rfl) (Nat.le_of_ble_eq_true (by kernel_rfl)) ?_
    intro opsR QR Hops HQrg hS
    apply rg_yp (i := 0) Hops rfl hS rfl
    · intro wq hq; obtain ⟨hqc, -⟩ := bcell (show Below W.heap.size W wq from hq); clear hq; go_simp; try rfl
    try simp only [Act.put, pu1, pu2, pu3]
    apply rg_yp (i := 1) Hops rfl hS rfl
    · intro wq hq; obtain ⟨hqc, -⟩ := bcell (show Below W.heap.size W wq from hq); clear hq; go_simp; try rfl
    try simp only [Act.put, pu1, pu2, pu3]
    apply rg_yp (i := 3) Hops rfl hS rfl
    · intro _ hq; clear hq; go_simp; try rfl
    try simp only [Act.put, pu1, pu2, pu3]
    apply rg_yp (i := 4) Hops rfl hS rfl
    · intro wq hq; obtain ⟨hqc, -⟩ := bcell (show Below W.heap.size W wq from hq); clear hq; go_simp; try rfl
    try simp only [Act.put, pu1, pu2, pu3]
    refine rg_call (i := 2) (get_of Hops rfl) (fun K hK => ?_)
    have HSrg := Lib.hid hS; clear hS
    refine rg_run (wanted_plain rfl) ?_
    go_simp
    refine (HA.out _).mono ?_
    rintro e wr1 ⟨rfl, hbr1⟩
    have hS : Since W wr1 := bT (w := W) HSrg.out hbr1
    clear HSrg
    refine hK.out _ _ hS (fun _ => ?_)
    clear hK K
    try simp only [Act.put, pu1, pu2, pu3]
    apply rg_yp (i := 5) Hops rfl hS rfl
    · intro _ hq; clear hq; go_simp; try rfl
    try simp only [Act.put, pu1, pu2, pu3]
    apply rg_yp (i := 6) Hops rfl hS rfl
    · intro _ hq; clear hq; go_simp; try rfl
    try simp only [Act.put, pu1, pu2, pu3]
    refine rg_done ?_
    refine HQrg.down _ _ ?_
    have hB : Below W.heap.size W wr1 := hS
    clear hS HQrg Hops
    go_wp2_with fail
    go_ret
    exact ⟨ret_bool rfl, bT Bw hB⟩
  · go_enter Tryz.func45, Tryz.ntmps45
    go_upto_region 2 with fail
    obtain ⟨W, hW⟩ : ∃ W : World, W = (w.alloc (.cells #[.bool g.upright, .int .i64 g.line, .int .i64 g.lo, .int .i64 g.hi, .bool true] 76)).alloc (.cells #[.int .i64 p.x, .int .i64 p.y] 42) := ⟨_, rfl⟩
    have Bw : Below w.heap.size w W := by rw [hW]; exact bA (bA (bR w) _) _
    have X1 : Blk W w.heap.size 76 #[.bool g.upright, .int .i64 g.line, .int .i64 g.lo, .int .i64 g.hi, .bool true] := by rw [hW]; exact (Blk.made rfl _ _).alloc _
    have X2 : Blk W (w.heap.size + 1) 42 #[.int .i64 p.x, .int .i64 p.y] := by rw [hW]; exact Blk.made (by simp) _ _
    rw [← hW]
    clear hW
    try clear X1l
    try clear X1a
    try clear X1b
    try clear X1c
    try clear X1d
    try clear X1e
    try clear X1fa
    try clear X1fb
    try clear X1fc
    try clear X1fd
    try clear X1fe
    obtain ⟨X1l, X1a, X1b, X1c, X1d, X1e, -, -, -, -, -⟩ := X1.facts5
    try clear X2l
    try clear X2a
    try clear X2b
    try clear X2fa
    try clear X2fb
    obtain ⟨X2l, X2a, X2b, -, -⟩ := X2.facts2
    refine rg_start (Since W) (.take 0 1 (.take 1 3 (.take 3 11 (.take 4 27 (.call 2 31 (.take 5 63 (.take 6 127 (.done)))))))) (by kernel_rfl) (bD (bR _)) (by kernel_rfl) (by kernel_rfl) (Nat.le_of_ble_eq_true (by kernel_rfl)) ?_
    intro opsR QR Hops HQrg hS
    apply rg_yp (i := 0) Hops rfl hS rfl
    · intro wq hq; obtain ⟨hqc, -⟩ := bcell (show Below W.heap.size W wq from hq); clear hq; go_simp; try rfl
    try simp only [Act.put, pu1, pu2, pu3]
    apply rg_yp (i := 1) Hops rfl hS rfl
    · intro wq hq; obtain ⟨hqc, -⟩ := bcell (show Below W.heap.size W wq from hq); clear hq; go_simp; try rfl
    try simp only [Act.put, pu1, pu2, pu3]
    apply rg_yp (i := 3) Hops rfl hS rfl
    · intro _ hq; clear hq; go_simp; try rfl
    try simp only [Act.put, pu1, pu2, pu3]
    apply rg_yp (i := 4) Hops rfl hS rfl
    · intro wq hq; obtain ⟨hqc, -⟩ := bcell (show Below W.heap.size W wq from hq); clear hq; go_simp; try rfl
    try simp only [Act.put, pu1, pu2, pu3]
    refine rg_call (i := 2) (get_of Hops rfl) (fun K hK => ?_)
    have HSrg := Lib.hid hS; clear hS
    refine rg_run (wanted_plain rfl) ?_
    go_simp
    refine (HA.out _).mono ?_
    rintro e wr1 ⟨rfl, hbr1⟩
    have hS : Since W wr1 := bT (w := W) HSrg.out hbr1
    clear HSrg
    refine hK.out _ _ hS (fun _ => ?_)
    clear hK K
    try simp only [Act.put, pu1, pu2, pu3]
    apply rg_yp (i := 5) Hops rfl hS rfl
    · intro _ hq; clear hq; go_simp; try rfl
    try simp only [Act.put, pu1, pu2, pu3]
    apply rg_yp (i := 6) Hops rfl hS rfl
    · intro _ hq; clear hq; go_simp; try rfl
    try simp only [Act.put, pu1, pu2, pu3]
    refine rg_done ?_
    refine HQrg.down _ _ ?_
    have hB : Below W.heap.size W wr1 := hS
    clear hS HQrg Hops
    go_wp2_with fail
    go_ret
    exact ⟨ret_bool rfl, bT Bw hB⟩

set_option maxRecDepth 100000 in
set_option maxHeartbeats 1000000 in
theorem beforeCr_spec (a b : Cr) (w : World) : Calls Tryz.prog 62 #[crV a, crV b] w fun e w' => e = .returned (.bool (crLt a b)) ∧ Below w.heap.size w w' := by
  unfold crV crLt
  by_cases h1 : a.pos = b.pos
  · have k1 : (a.pos != b.pos) = false := by simp [h1]
    rw [if_pos h1]
    clear h1
    by_cases h2 : a.arc = b.arc
    · have k2 : (a.arc != b.arc) = false := by simp [h2]
      rw [if_pos h2]
      clear h2
      go_enter Tryz.func62, Tryz.ntmps62
      go_wp2_with fail
      go_ret
      exact ⟨rfl, bA (bA (bR w) _) _⟩
    · have k2 : (a.arc != b.arc) = true := by simp [h2]
      rw [if_neg h2]
      clear h2
      go_enter Tryz.func62, Tryz.ntmps62
      go_wp2_with fail
      go_ret
      exact ⟨rfl, bA (bA (bR w) _) _⟩
  · have k1 : (a.pos != b.pos) = true := by simp [h1]
    rw [if_neg h1]
    clear h1
    go_enter Tryz.func62, Tryz.ntmps62
    go_wp2_with fail
    go_ret
    exact ⟨rfl, bA (bA (bR w) _) _⟩

set_option maxRecDepth 100000 in
set_option maxHeartbeats 2000000 in
theorem strict_spec (g : Ed) (p : Pt) (v : Value) (l : List Nd) (w : World) (h : Nds w v l) : Calls Tryz.prog 69 #[redV g, ptV p, v] w fun e w' => e = .returned (.bool (strictS g l p)) ∧ Below w.heap.size w w' := by
  obtain ⟨A, c, rfl, hn, hc, hR⟩ := h
  unfold maxLen at hc
  have HR := Lib.hid hR; clear hR
  have TA := ralong_spec g p
  unfold redV ptV at TA
  unfold redV ptV strictS
  generalize posS g = po at *
  generalize alongS g p = z at *
  have HA := Lib.hid TA; clear TA
  go_enter Tryz.func69, Tryz.ntmps69
  go_wp2_with fail
  obtain ⟨W0, hW⟩ : ∃ W : World, W = (w.alloc (.cells #[.bool g.upright, .int .i64 g.line, .int .i64 g.lo, .int .i64 g.hi, .bool po] 76)).alloc (.cells #[.int .i64 p.x, .int .i64 p.y] 42) := ⟨_, rfl⟩
  have HB0 := Lib.hid (show Below w.heap.size w W0 by rw [hW]; exact bA (bA (bR w) _) _)
  have HX1 := Lib.hid (show Blk W0 w.heap.size 76 #[.bool g.upright, .int .i64 g.line, .int .i64 g.lo, .int .i64 g.hi, .bool po] by rw [hW]; exact (Blk.made rfl _ _).alloc _)
  have HX2 := Lib.hid (show Blk W0 (w.heap.size + 1) 42 #[.int .i64 p.x, .int .i64 p.y] by rw [hW]; exact Blk.made (by simp) _ _)
  rw [← hW]
  clear hW
  go_loopw [7] (fun u wr => ∃ k : Nat, k ≤ l.length ∧ u = .int .i64 k ∧ Below W0.heap.size W0 wr ∧ ∀ j (hj : j < l.length), j < k → decide (l[j].pt = p) = false) (fun u _ => l.length - (intOf u).toNat)
  case atStart => exact ⟨0, Nat.zero_le _, rfl, bR W0, fun _ _ h => by omega⟩
  case round =>
    obtain ⟨k, hk, rfl, hb, hno⟩ := hrel
    have Hb := Lib.hid hb
    have Hno := Lib.hid hno
    have X1 := HX1.out.keep hb
    have X2 := HX2.out.keep hb
    clear hb hno
    by_cases hlt : k < l.length
    case pos =>
      obtain ⟨b, o, rfl, hlb, c0, c1, c2⟩ := (HR.out.mono (bT HB0.out Hb.out)).nd hlt
      try clear X2l
      try clear X2a
      try clear X2b
      try clear X2fa
      try clear X2fb
      obtain ⟨X2l, X2a, X2b, -, -⟩ := X2.facts2
      have q1 : 0 ≤ (k : Int) := by omega
      have q2 : (k : Int) < l.length := by omega
      have hE := run_eql_pt l[k].pt p
      by_cases he : l[k].pt = p
      · have hd : decide (l[k].pt = p) = true := by simpa using he
        have hf := any_hit l (fun n => decide (n.pt = p)) k hlt hd
        have Hf := Lib.hid hf
        clear he hf
        go_upto_region 4 with fail
        refine rg_start (Since wr) (.take 0 1 (.take 1 3 (.take 2 7 (.take 3 15 (.take 4 31 (.take 5 63 (.take 6 127 (.done)))))))) (by kernel_rfl) (bD (bR _)) (by kernel_rfl) (by kernel_rfl) (Nat.le_of_ble_eq_true (by kernel_rfl)) ?_
        intro opsR QR Hops HQrg hS
        apply rg_yp (i := 0) Hops rfl hS rfl
        · intro _ hq; clear hq; go_simp; try rfl
        try simp only [Act.put, pu1, pu2, pu3]
        apply rg_yp (i := 1) Hops rfl hS rfl
        · intro _ hq; clear hq; go_simp; try rfl
        try simp only [Act.put, pu1, pu2, pu3]
        apply rg_yp (i := 2) Hops rfl hS rfl
        · intro _ hq; clear hq; go_simp; try rfl
        try simp only [Act.put, pu1, pu2, pu3]
        apply rg_yp (i := 3) Hops rfl hS rfl
        · intro _ hq; clear hq; go_simp; try rfl
        try simp only [Act.put, pu1, pu2, pu3]
        apply rg_yp (i := 4) Hops rfl hS rfl
        · intro wq hq; obtain ⟨hqc, -⟩ := bcell (show Below wr.heap.size wr wq from hq); clear hq; go_simp; try rfl
        try simp only [Act.put, pu1, pu2, pu3]
        apply rg_yp (i := 5) Hops rfl hS rfl
        · intro wq hq; obtain ⟨hqc, -⟩ := bcell (show Below wr.heap.size wr wq from hq); clear hq; go_simp; try rfl
        try simp only [Act.put, pu1, pu2, pu3]
        apply rg_yp (i := 6) Hops rfl hS rfl
        · intro _ hq; clear hq; go_simp; try rfl
        try simp only [Act.put, pu1, pu2, pu3]
        refine rg_done ?_
        refine HQrg.down _ _ ?_
        have hB : Below wr.heap.size wr wr.drew := hS
        clear hS HQrg Hops
        go_wp2_with fail
        go_ret
        exact ⟨ret_bool (by rw [Hf.out]; rfl), bT HB0.out (bT Hb.out hB)⟩
      · have hd : decide (l[k].pt = p) = false := by simpa using he
        have Hd := Lib.hid hd
        clear he
        go_upto_region 4 with fail
        refine rg_start (Since wr) (.take 0 1 (.take 1 3 (.take 2 7 (.take 3 15 (.take 4 31 (.take 5 63 (.take 6 127 (.done)))))))) (by kernel_rfl) (bD (bR _)) (by kernel_rfl) (by kernel_rfl) (Nat.le_of_ble_eq_true (by kernel_rfl)) ?_
        intro opsR QR Hops HQrg hS
        apply rg_yp (i := 0) Hops rfl hS rfl
        · intro _ hq; clear hq; go_simp; try rfl
        try simp only [Act.put, pu1, pu2, pu3]
        apply rg_yp (i := 1) Hops rfl hS rfl
        · intro _ hq; clear hq; go_simp; try rfl
        try simp only [Act.put, pu1, pu2, pu3]
        apply rg_yp (i := 2) Hops rfl hS rfl
        · intro _ hq; clear hq; go_simp; try rfl
        try simp only [Act.put, pu1, pu2, pu3]
        apply rg_yp (i := 3) Hops rfl hS rfl
        · intro _ hq; clear hq; go_simp; try rfl
        try simp only [Act.put, pu1, pu2, pu3]
        apply rg_yp (i := 4) Hops rfl hS rfl
        · intro wq hq; obtain ⟨hqc, -⟩ := bcell (show Below wr.heap.size wr wq from hq); clear hq; go_simp; try rfl
        try simp only [Act.put, pu1, pu2, pu3]
        apply rg_yp (i := 5) Hops rfl hS rfl
        · intro wq hq; obtain ⟨hqc, -⟩ := bcell (show Below wr.heap.size wr wq from hq); clear hq; go_simp; try rfl
        try simp only [Act.put, pu1, pu2, pu3]
        apply rg_yp (i := 6) Hops rfl hS rfl
        · intro _ hq; clear hq; go_simp; try rfl
        try simp only [Act.put, pu1, pu2, pu3]
        refine rg_done ?_
        refine HQrg.down _ _ ?_
        have hB : Below wr.heap.size wr wr.drew := hS
        clear hS HQrg Hops
        have Bn := Lib.hid (bT Hb.out hB)
        clear hB
        go_wp2_with fail
        go_roundw
        case rel => exact ⟨k + 1, by omega, by go_num, Bn.out, all_succ (p := fun n => decide (n.pt = p) = false) Hno.out hlt Hd.out⟩
        case measure => simp [intOf]; omega
    case neg =>
    have hf := any_miss l (fun n => decide (n.pt = p)) (fun j hj => Hno.out j hj (by omega))
    have HF := Lib.hid hf
    clear hf
    try clear X1l
    try clear X1a
    try clear X1b
    try clear X1c
    try clear X1d
    try clear X1e
    try clear X1fa
    try clear X1fb
    try clear X1fc
    try clear X1fd
    try clear X1fe
    obtain ⟨X1l, X1a, X1b, X1c, X1d, X1e, -, -, -, -, -⟩ := X1.facts5
    try clear X2l
    try clear X2a
    try clear X2b
    try clear X2fa
    try clear X2fb
    obtain ⟨X2l, X2a, X2b, -, -⟩ := X2.facts2
    by_cases h1 : g.lo < z
    · go_upto_region 6 with fail
      refine rg_start (Since wr) (.take 0 1 (.take 1 3 (.take 3 11 (.take 4 27 (.call 2 31 (.take 5 63 (.take 6 127 (.take 7 255 (.take 8 511 (.take 10 1535 (.take 11 3583 (.call 9 4095 (.take 12 8191 (.take 13 16383 (.take 14 32767 (.done)))))))))))))))) (by kernel_rfl) (bD (bR _)) (by kernel_rfl) (by kernel_rfl) (Nat.le_of_ble_eq_true (by kernel_rfl)) ?_
      intro opsR QR Hops HQrg hS
      apply rg_yp (i := 0) Hops rfl hS rfl
      · intro wq hq; obtain ⟨hqc, -⟩ := bcell (show Below wr.heap.size wr wq from hq); clear hq; go_simp; try rfl
      try simp only [Act.put, pu1, pu2, pu3]
      apply rg_yp (i := 1) Hops rfl hS rfl
      · intro wq hq; obtain ⟨hqc, -⟩ := bcell (show Below wr.heap.size wr wq from hq); clear hq; go_simp; try rfl
      try simp only [Act.put, pu1, pu2, pu3]
      apply rg_yp (i := 3) Hops rfl hS rfl
      · intro _ hq; clear hq; go_simp; try rfl
      try simp only [Act.put, pu1, pu2, pu3]
      apply rg_yp (i := 4) Hops rfl hS rfl
      · intro wq hq; obtain ⟨hqc, -⟩ := bcell (show Below wr.heap.size wr wq from hq); clear hq; go_simp; try rfl
      try simp only [Act.put, pu1, pu2, pu3]
      refine rg_call (i := 2) (get_of Hops rfl) (fun K hK => ?_)
      have HSrg := Lib.hid hS; clear hS
      refine rg_run (wanted_plain rfl) ?_
      go_simp
      refine (HA.out _).mono ?_
      rintro e wr1 ⟨rfl, hbr1⟩
      have hS : Since wr wr1 := bT (w := wr) HSrg.out hbr1
      clear HSrg
      refine hK.out _ _ hS (fun _ => ?_)
      clear hK K
      try simp only [Act.put, pu1, pu2, pu3]
      apply rg_yp (i := 5) Hops rfl hS rfl
      · intro _ hq; clear hq; go_simp; try rfl
      try simp only [Act.put, pu1, pu2, pu3]
      apply rg_yp (i := 6) Hops rfl hS rfl
      · intro _ hq; clear hq; go_simp; try rfl
      try simp only [Act.put, pu1, pu2, pu3]
      apply rg_yg (i := 7) Hops rfl hS rfl rfl rfl rfl
      · intro wq hq; obtain ⟨hqc, -⟩ := bcell (show Below wr.heap.size wr wq from hq); clear hq; go_simp; try rfl
      try simp only [Act.put, pu1, pu2, pu3]
      apply rg_yg (i := 8) Hops rfl hS rfl rfl rfl rfl
      · intro wq hq; obtain ⟨hqc, -⟩ := bcell (show Below wr.heap.size wr wq from hq); clear hq; go_simp; try rfl
      try simp only [Act.put, pu1, pu2, pu3]
      apply rg_yg (i := 10) Hops rfl hS rfl rfl rfl rfl
      · intro _ hq; clear hq; go_simp; try rfl
      try simp only [Act.put, pu1, pu2, pu3]
      apply rg_yg (i := 11) Hops rfl hS rfl rfl rfl rfl
      · intro wq hq; obtain ⟨hqc, -⟩ := bcell (show Below wr.heap.size wr wq from hq); clear hq; go_simp; try rfl
      try simp only [Act.put, pu1, pu2, pu3]
      refine rg_call (i := 9) (get_of Hops rfl) (fun K hK => ?_)
      have HSrg := Lib.hid hS; clear hS
      refine rg_run (wanted_yes rfl (get_of Hops rfl) rfl rfl) ?_
      go_simp
      refine (HA.out _).mono ?_
      rintro e wr2 ⟨rfl, hbr2⟩
      have hS : Since wr wr2 := bT (w := wr) HSrg.out hbr2
      clear HSrg
      refine hK.out _ _ hS (fun _ => ?_)
      clear hK K
      try simp only [Act.put, pu1, pu2, pu3]
      apply rg_yg (i := 12) Hops rfl hS rfl rfl rfl rfl
      · intro _ hq; clear hq; go_simp; try rfl
      try simp only [Act.put, pu1, pu2, pu3]
      apply rg_yp (i := 13) Hops rfl hS rfl
      · intro _ hq; clear hq; go_simp; try rfl
      try simp only [Act.put, pu1, pu2, pu3]
      apply rg_yp (i := 14) Hops rfl hS rfl
      · intro _ hq; clear hq; go_simp; try rfl
      try simp only [Act.put, pu1, pu2, pu3]
      refine rg_done ?_
      refine HQrg.down _ _ ?_
      have hB : Below wr.heap.size wr wr2 := hS
      clear hS HQrg Hops
      go_wp2_with fail
      go_ret
      exact ⟨ret_bool (by rw [HF.out, decide_eq_true (show g.lo < z by omega)]; rfl), bT HB0.out (bT Hb.out hB)⟩
    · go_upto_region 6 with fail
      refine rg_start (Since wr) (.take 0 1 (.take 1 3 (.take 3 11 (.take 4 27 (.call 2 31 (.take 5 63 (.take 6 127 (.take 7 255 (.take 8 511 (.take 9 1023 (.take 10 2047 (.take 11 4095 (.take 12 8191 (.take 13 16383 (.take 14 32767 (.done)))))))))))))))) (by kernel_rfl) (bD (bR _)) (by kernel_rfl) (by kernel_rfl) (Nat.le_of_ble_eq_true (by kernel_rfl)) ?_
      intro opsR QR Hops HQrg hS
      apply rg_yp (i := 0) Hops rfl hS rfl
      · intro wq hq; obtain ⟨hqc, -⟩ := bcell (show Below wr.heap.size wr wq from hq); clear hq; go_simp; try rfl
      try simp only [Act.put, pu1, pu2, pu3]
      apply rg_yp (i := 1) Hops rfl hS rfl
      · intro wq hq; obtain ⟨hqc, -⟩ := bcell (show Below wr.heap.size wr wq from hq); clear hq; go_simp; try rfl
      try simp only [Act.put, pu1, pu2, pu3]
      apply rg_yp (i := 3) Hops rfl hS rfl
      · intro _ hq; clear hq; go_simp; try rfl
      try simp only [Act.put, pu1, pu2, pu3]
      apply rg_yp (i := 4) Hops rfl hS rfl
      · intro wq hq; obtain ⟨hqc, -⟩ := bcell (show Below wr.heap.size wr wq from hq); clear hq; go_simp; try rfl
      try simp only [Act.put, pu1, pu2, pu3]
      refine rg_call (i := 2) (get_of Hops rfl) (fun K hK => ?_)
      have HSrg := Lib.hid hS; clear hS
      refine rg_run (wanted_plain rfl) ?_
      go_simp
      refine (HA.out _).mono ?_
      rintro e wr1 ⟨rfl, hbr1⟩
      have hS : Since wr wr1 := bT (w := wr) HSrg.out hbr1
      clear HSrg
      refine hK.out _ _ hS (fun _ => ?_)
      clear hK K
      try simp only [Act.put, pu1, pu2, pu3]
      apply rg_yp (i := 5) Hops rfl hS rfl
      · intro _ hq; clear hq; go_simp; try rfl
      try simp only [Act.put, pu1, pu2, pu3]
      apply rg_yp (i := 6) Hops rfl hS rfl
      · intro _ hq; clear hq; go_simp; try rfl
      try simp only [Act.put, pu1, pu2, pu3]
      refine rg_yn (i := 7) Hops rfl hS rfl rfl rfl rfl rfl ?_
      try simp only [Act.put, pu1, pu2, pu3]
      refine rg_yn (i := 8) Hops rfl hS rfl rfl rfl rfl rfl ?_
      try simp only [Act.put, pu1, pu2, pu3]
      refine rg_yn (i := 9) Hops rfl hS rfl rfl rfl rfl rfl ?_
      try simp only [Act.put, pu1, pu2, pu3]
      refine rg_yn (i := 10) Hops rfl hS rfl rfl rfl rfl rfl ?_
      try simp only [Act.put, pu1, pu2, pu3]
      refine rg_yn (i := 11) Hops rfl hS rfl rfl rfl rfl rfl ?_
      try simp only [Act.put, pu1, pu2, pu3]
      refine rg_yn (i := 12) Hops rfl hS rfl rfl rfl rfl rfl ?_
      try simp only [Act.put, pu1, pu2, pu3]
      apply rg_yp (i := 13) Hops rfl hS rfl
      · intro _ hq; clear hq; go_simp; try rfl
      try simp only [Act.put, pu1, pu2, pu3]
      apply rg_yp (i := 14) Hops rfl hS rfl
      · intro _ hq; clear hq; go_simp; try rfl
      try simp only [Act.put, pu1, pu2, pu3]
      refine rg_done ?_
      refine HQrg.down _ _ ?_
      have hB : Below wr.heap.size wr wr1 := hS
      clear hS HQrg Hops
      go_wp2_with fail
      go_ret
      exact ⟨ret_bool (by rw [HF.out, decide_eq_false (show ¬ g.lo < z by omega)]; rfl), bT HB0.out (bT Hb.out hB)⟩
end Go.Proofs.YtbjlnnfmcjbnhaaGreatDoor
