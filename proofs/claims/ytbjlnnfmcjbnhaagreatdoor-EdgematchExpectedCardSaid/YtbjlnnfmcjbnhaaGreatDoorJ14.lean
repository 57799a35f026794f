/- sheetgrid.Neighbor, mapsheetsref40.Neighbor. (printed by gen/gride.py) Plain law: the two ways to round a quotient give the same. No walk here. num: size, check, Floor, Round. mapsheetsref01: size, parts, signed, Round. (printed by gen/rounda.py) -/
import Derived.Deep.CutBlock
import Derived.Test.YtbjlnnfmcjbnhaaGreatDoorJ13
import Derived.Test.YtbjlnnfmcjbnhaaGreatDoorGB
set_option linter.unusedSimpArgs false
set_option linter.unusedVariables false
namespace Go.Proofs.YtbjlnnfmcjbnhaaGreatDoor
open Go.RowKit

/-- a block's cells that are read -/
def Rd (w : World) (g : Nat) (cs : Array Value) : Prop := g < w.heap.size ∧ ∀ i, w.cell? ⟨g, i, none⟩ = cs[i]?
theorem Rd.keep {w w' : World} {g : Nat} {cs : Array Value} (h : Rd w g cs) (hb : Below w.heap.size w w') : Rd w' g cs := ⟨Nat.lt_of_lt_of_le h.1 hb.size, fun i => by rw [hb.cell (p := ⟨g, i, none⟩) h.1]; exact h.2 i⟩
/-- the variable 'moves' -/
def Mv (w : World) : Prop := Rd w 0 #[.int .i64 (-1), .int .i64 0, .int .i64 0, .int .i64 (-1), .int .i64 1, .int .i64 0, .int .i64 0, .int .i64 1]
theorem Mv.keep {w w' : World} (h : Mv w) (hb : Below w.heap.size w w') : Mv w' := Rd.keep h hb
theorem Rd.facts8 {w : World} {g : Nat} {v0 v1 v2 v3 v4 v5 v6 v7 : Value} (h : Rd w g #[v0, v1, v2, v3, v4, v5, v6, v7]) : g < w.heap.size ∧ w.cell? ⟨g, 0, none⟩ = some v0 ∧ w.cell? ⟨g, 1, none⟩ = some v1 ∧ w.cell? ⟨g, 2, none⟩ = some v2 ∧ w.cell? ⟨g, 3, none⟩ = some v3 ∧ w.cell? ⟨g, 4, none⟩ = some v4 ∧ w.cell? ⟨g, 5, none⟩ = some v5 ∧ w.cell? ⟨g, 6, none⟩ = some v6 ∧ w.cell? ⟨g, 7, none⟩ = some v7 ∧ True ∧ True ∧ True ∧ True ∧ True ∧ True ∧ True ∧ True :=
  ⟨h.1, h.2 0, h.2 1, h.2 2, h.2 3, h.2 4, h.2 5, h.2 6, h.2 7, trivial, trivial, trivial, trivial, trivial, trivial, trivial, trivial⟩
def dxS (side : Int) : Int := if side = 1 then -1 else if side = 3 then 1 else 0
def dyS (side : Int) : Int := if side = 2 then -1 else if side = 4 then 1 else 0
def sideOk (side : Int) : Bool := decide (1 ≤ side) && decide (side ≤ 4)
def inGrid (s : Se) (c r : Int) : Bool := (decide (0 ≤ c) && decide (c < s.cols)) && (decide (0 ≤ r) && decide (r < s.rows))
/-- the sheet on the other side, if there is one -/
def nbS (s : Se) (n side : Int) : Option Int :=
  if findE s n = 0 ∧ sideOk side = true ∧ inGrid s (colS s n + dxS side) (rowS s n + dyS side) = true then some ((rowS s n + dyS side) * s.cols + (colS s n + dxS side) + 1) else none
def nbRes (s : Se) (n side : Int) : Value := .tuple #[.int .i64 ((nbS s n side).getD 0), .bool (nbS s n side).isSome]
theorem nb_no1 {s : Se} {n side : Int} (h : ¬ InS s n) : nbRes s n side = .tuple #[.int .i64 0, .bool false] := by
  unfold nbRes nbS; rw [if_neg (fun e => h (findE_zero.1 e.1))]; rfl
theorem nb_no2 {s : Se} {n side : Int} (h : side < 1 ∨ 4 < side) : nbRes s n side = .tuple #[.int .i64 0, .bool false] := by
  unfold nbRes nbS; rw [if_neg]; rfl
  rintro ⟨-, h2, -⟩
  unfold sideOk at h2
  simp only [Bool.and_eq_true, decide_eq_true_eq] at h2
  omega
theorem nb_in {s : Se} {n side c r : Int} (h : InS s n) (h1 : 1 ≤ side) (h2 : side ≤ 4) (hc : colS s n + dxS side = c) (hr : rowS s n + dyS side = r) (hg : 0 ≤ c ∧ c < s.cols ∧ 0 ≤ r ∧ r < s.rows) : nbRes s n side = .tuple #[.int .i64 (r * s.cols + c + 1), .bool true] := by
  unfold nbRes nbS
  rw [hc, hr, if_pos ⟨findE_zero.2 h, by unfold sideOk; simp [h1, h2], by unfold inGrid; simp [hg.1, hg.2.1, hg.2.2.1, hg.2.2.2]⟩]
  rfl
theorem nb_out {s : Se} {n side c r : Int} (hc : colS s n + dxS side = c) (hr : rowS s n + dyS side = r) (hg : ¬ (0 ≤ c ∧ c < s.cols ∧ 0 ≤ r ∧ r < s.rows)) : nbRes s n side = .tuple #[.int .i64 0, .bool false] := by
  unfold nbRes nbS
  rw [hc, hr, if_neg]; rfl
  rintro ⟨-, -, h3⟩
  unfold inGrid at h3
  simp only [Bool.and_eq_true, decide_eq_true_eq] at h3
  exact hg ⟨h3.1.1, h3.1.2, h3.2.1, h3.2.2⟩
theorem nb_wraps {s : Se} {c r : Int} (hb : SeBd s) (hg : 0 ≤ c ∧ c < s.cols ∧ 0 ≤ r ∧ r < s.rows) : IntKind.i64.wrap (r * s.cols) = r * s.cols ∧ IntKind.i64.wrap (r * s.cols + c) = r * s.cols + c ∧ IntKind.i64.wrap (r * s.cols + c + 1) = r * s.cols + c + 1 := by
  have hc := hb.c; have hr := hb.r
  have h1 := mul_bds (a := r) (b := s.cols) (m := 16) (n := 16) hg.2.2.1 (by omega) (by omega) hc.2
  exact ⟨IntWalk.i64_in _ (by omega), IntWalk.i64_in _ (by omega), IntWalk.i64_in _ (by omega)⟩

set_option maxRecDepth 100000 in
set_option maxHeartbeats 8000000 in
theorem sNeighbor_spec (s : Se) (n side : Int) (w : World) (hm : Mv w) : Calls Tryz.prog 89 #[seV s, .int .i64 n, .int .i64 side] w fun e w' => e = .returned (nbRes s n side) ∧ Below w.heap.size w w' := by
  have TF : ∀ w, Calls Tryz.prog 77 #[seV s, .int .i64 n] w _ := fun w => find_spec s n w
  unfold seV at TF
  unfold seV
  obtain ⟨r, hr⟩ : ∃ r, nbRes s n side = r := ⟨_, rfl⟩
  rw [hr]
  have Hr := Lib.hid hr
  clear hr
  have HMv := Lib.hid hm
  clear hm
  by_cases hin : InS s n
  case neg =>
    have h2 := (boxRes_out hin).2
    have hfr : findRes s n = .tuple #[.int .i64 0, .int .i64 0, .int .i64 (findE s n)] := by unfold findRes; rw [if_neg h2]
    rw [hfr] at TF
    have HF := Lib.hid TF
    have h2' : (findE s n != 0) = true := by simp [h2]
    have hrr := nb_no1 (side := side) hin
    rw [Hr.out] at hrr
    have HRr := Lib.hid hrr
    clear TF hfr h2 hin hrr
    generalize findE s n = z at *
    go_enter Tryz.func89, Tryz.ntmps89
    go_wp2_with fail
    refine (HF.out _).mono ?_
    rintro e w1 ⟨rfl, hb1⟩
    have B1 := Lib.hid (bT (bA (bR w) _) hb1)
    clear hb1
    go_wp2_with fail
    go_ret2
    exact ⟨by rw [HRr.out]; rfl, B1.out⟩
  have hfr : findRes s n = .tuple #[.int .i64 (colS s n), .int .i64 (rowS s n), .int .i64 0] := by unfold findRes; rw [if_pos (findE_zero.2 hin)]
  rw [hfr] at TF
  have HF := Lib.hid TF
  have Hin := Lib.hid hin
  obtain ⟨b1, b2, b3, b4, -⟩ := hin.bd
  have hcb := (seOk_bd hin.ok).c
  have hrb := (seOk_bd hin.ok).r
  clear TF hfr hin
  obtain ⟨c, hc⟩ : ∃ c, colS s n = c := ⟨_, rfl⟩
  obtain ⟨rr, hrr⟩ : ∃ rr, rowS s n = rr := ⟨_, rfl⟩
  rw [hc] at b1 b2
  rw [hrr] at b3 b4
  have HF2 := HF.out
  rw [hc, hrr] at HF2
  replace HF := Lib.hid HF2
  have HC0 := Lib.hid hc; have HR0 := Lib.hid hrr
  clear HF2 hc hrr
  go_enter Tryz.func89, Tryz.ntmps89
  go_wp2_with fail
  refine (HF.out _).mono ?_
  rintro e w1 ⟨rfl, hb1⟩
  have X1 : Blk w1 w.heap.size 44 #[.int .i64 s.at_.x, .int .i64 s.at_.y, .int .i64 s.width, .int .i64 s.height, .int .i64 s.cols, .int .i64 s.rows] := (Blk.made rfl _ _).keep hb1
  have B1 := Lib.hid (bT (bA (bR w) _) hb1)
  clear hb1
  have X9 := HMv.out.keep B1.out
  unfold Mv at X9
  try clear X1l
  try clear X1a
  try clear X1b
  try clear X1c
  try clear X1d
  try clear X1e
  try clear X1f
  try clear X1fa
  try clear X1fb
  try clear X1fc
  try clear X1fd
  try clear X1fe
  try clear X1ff
  obtain ⟨X1l, X1a, X1b, X1c, X1d, X1e, X1f, -, -, -, -, -, -⟩ := X1.facts6
  try clear X9l
  try clear X9a
  try clear X9b
  try clear X9c
  try clear X9d
  try clear X9e
  try clear X9f
  try clear X9g
  try clear X9h
  try clear X9fa
  try clear X9fb
  try clear X9fc
  try clear X9fd
  try clear X9fe
  try clear X9ff
  try clear X9fg
  try clear X9fh
  obtain ⟨X9l, X9a, X9b, X9c, X9d, X9e, X9f, X9g, X9h, -, -, -, -, -, -, -, -⟩ := X9.facts8
  by_cases s1 : side < 1
  case pos =>
    have hf := nb_no2 (s := s) (n := n) (side := side) (.inl s1)
    rw [Hr.out] at hf
    have HFi := Lib.hid hf
    clear hf
    go_wp2_with fail
    go_ret2
    exact ⟨by rw [HFi.out]; rfl, B1.out⟩
  by_cases s4 : 4 < side
  case pos =>
    have hf := nb_no2 (s := s) (n := n) (side := side) (.inr s4)
    rw [Hr.out] at hf
    have HFi := Lib.hid hf
    clear hf
    go_wp2_with fail
    go_ret2
    exact ⟨by rw [HFi.out]; rfl, B1.out⟩
  have hs : side = 1 ∨ side = 2 ∨ side = 3 ∨ side = 4 := by omega
  have HSd := Lib.hid hs
  clear s1 s4
  obtain ⟨c1, hc1⟩ : ∃ c1, c + dxS side = c1 := ⟨_, rfl⟩
  obtain ⟨r1, hr1⟩ : ∃ r1, rr + dyS side = r1 := ⟨_, rfl⟩
  have Hc1 := Lib.hid hc1; have Hr1' := Lib.hid hr1
  have Hc : Hid (colS s n + dxS side = c1) := Lib.hid (by rw [HC0.out]; exact hc1)
  have Hr1 : Hid (rowS s n + dyS side = r1) := Lib.hid (by rw [HR0.out]; exact hr1)
  clear hc1 hr1
  go_upto_region 4 with fail
  go_cut [8] (fun u wx => u = .int .i64 c1 ∧ wx = w1)
  case first =>
    rcases hs with rfl | rfl | rfl | rfl
    all_goals
      have hc1 := Hc1.out
      unfold dxS at hc1
      simp at hc1
      have wa : IntKind.i64.wrap (c + -1) = c + -1 := IntWalk.i64_in _ (by omega)
      have wb : IntKind.i64.wrap (c + 1) = c + 1 := IntWalk.i64_in _ (by omega)
      have wc' : IntKind.i64.wrap c = c := IntWalk.i64_in _ (by omega)
      have wd : IntKind.i64.wrap (c - 1) = c - 1 := IntWalk.i64_in _ (by omega)
      replace hc1 := Lib.hid hc1
      clear b1 b2 b3 b4 hcb hrb
      go_wp2_with fail
      go_meet
      case rel => exact ⟨by rw [← hc1.out] <;> first | rfl | (congr 1; done) | (congr 1; first | rfl | omega | (simp; omega)), rfl⟩
  case rest =>
  obtain ⟨rfl, rfl⟩ := hcut
  go_upto_region 5 with fail
  go_cut [9] (fun u wx => u = .int .i64 r1 ∧ wx = wc)
  case first =>
    rcases hs with rfl | rfl | rfl | rfl
    all_goals
      have hc1 := Hr1'.out
      unfold dyS at hc1
      simp at hc1
      have wa : IntKind.i64.wrap (rr + -1) = rr + -1 := IntWalk.i64_in _ (by omega)
      have wb : IntKind.i64.wrap (rr + 1) = rr + 1 := IntWalk.i64_in _ (by omega)
      have wc' : IntKind.i64.wrap rr = rr := IntWalk.i64_in _ (by omega)
      have wd : IntKind.i64.wrap (rr - 1) = rr - 1 := IntWalk.i64_in _ (by omega)
      replace hc1 := Lib.hid hc1
      clear b1 b2 b3 b4 hcb hrb
      go_wp2_with fail
      go_meet
      case rel => exact ⟨by rw [← hc1.out] <;> first | rfl | (congr 1; done) | (congr 1; first | rfl | omega | (simp; omega)), rfl⟩
  case rest =>
  obtain ⟨rfl, rfl⟩ := hcut
  have hs1 : 1 ≤ side ∧ side ≤ 4 := by omega
  clear hs
  by_cases g0 : c1 < 0
  case pos =>
    have hf := nb_out Hc.out Hr1.out (fun e => by omega)
    rw [Hr.out] at hf
    have HF := Lib.hid hf
    clear hf
    go_wp2_with fail
    go_ret2
    exact ⟨by rw [HF.out]; rfl, B1.out⟩
  by_cases g1 : s.cols ≤ c1
  case pos =>
    have hf := nb_out Hc.out Hr1.out (fun e => by omega)
    rw [Hr.out] at hf
    have HF := Lib.hid hf
    clear hf
    go_wp2_with fail
    go_ret2
    exact ⟨by rw [HF.out]; rfl, B1.out⟩
  by_cases g2 : r1 < 0
  case pos =>
    have hf := nb_out Hc.out Hr1.out (fun e => by omega)
    rw [Hr.out] at hf
    have HF := Lib.hid hf
    clear hf
    go_wp2_with fail
    go_ret2
    exact ⟨by rw [HF.out]; rfl, B1.out⟩
  by_cases g3 : s.rows ≤ r1
  case pos =>
    have hf := nb_out Hc.out Hr1.out (fun e => by omega)
    rw [Hr.out] at hf
    have HF := Lib.hid hf
    clear hf
    go_wp2_with fail
    go_ret2
    exact ⟨by rw [HF.out]; rfl, B1.out⟩
  have hg : 0 ≤ c1 ∧ c1 < s.cols ∧ 0 ≤ r1 ∧ r1 < s.rows := by omega
  obtain ⟨m1, m2, m3⟩ := nb_wraps (seOk_bd Hin.out.ok) hg
  have hf := nb_in Hin.out hs1.1 hs1.2 Hc.out Hr1.out hg
  rw [Hr.out] at hf
  have HF := Lib.hid hf
  clear hf hg
  go_wp2_with fail
  go_ret2
  exact ⟨by rw [HF.out]; rfl, B1.out⟩

set_option maxRecDepth 100000 in
set_option maxHeartbeats 8000000 in
theorem rNeighbor_spec (s : Se) (n side : Int) (w : World) : Calls Tryz.prog 22 #[seV s, .int .i64 n, .int .i64 side] w fun e w' => e = .returned (nbRes s n side) ∧ Below w.heap.size w w' := by
  have TC : ∀ w, Calls Tryz.prog 49 #[seV s] w _ := fun w => rCheck_spec s w
  unfold seV at TC
  have HC := Lib.hid TC
  have HT := Lib.hid (fun (w : World) (h : seOk s = true) => there_spec s n w h)
  have HPl := Lib.hid (fun (w : World) (h : InS s n) => place_spec s n w h)
  clear TC
  unfold seV at HT HPl
  unfold seV
  obtain ⟨r, hr⟩ : ∃ r, nbRes s n side = r := ⟨_, rfl⟩
  rw [hr]
  have Hr := Lib.hid hr
  clear hr
  go_enter Tryz.func22, Tryz.ntmps22
  go_wp2_with fail
  refine (HC.out _).mono ?_
  rintro e w1 ⟨rfl, hb1⟩
  have X1 : Blk w1 w.heap.size 44 #[.int .i64 s.at_.x, .int .i64 s.at_.y, .int .i64 s.width, .int .i64 s.height, .int .i64 s.cols, .int .i64 s.rows] := (Blk.made rfl _ _).keep hb1
  have HX1 := Lib.hid X1
  have B1 := Lib.hid (bT (bA (bR w) _) hb1)
  clear hb1
  try clear X1l
  try clear X1a
  try clear X1b
  try clear X1c
  try clear X1d
  try clear X1e
  try clear X1f
  try clear X1fa
  try clear X1fb
  try clear X1fc
  try clear X1fd
  try clear X1fe
  try clear X1ff
  obtain ⟨X1l, X1a, X1b, X1c, X1d, X1e, X1f, -, -, -, -, -, -⟩ := X1.facts6
  by_cases hok : seOk s = true
  case neg =>
    have hs : seCheck s = 2 := by unfold seCheck; rw [if_neg hok]
    have hrr := nb_no1 (s := s) (n := n) (side := side) (fun h => hok h.ok)
    rw [Hr.out] at hrr
    rw [hs]
    have HRr := Lib.hid hrr
    clear hs hok hrr
    go_wp2_with fail
    go_ret2
    exact ⟨by rw [HRr.out]; rfl, B1.out⟩
  have hs : seCheck s = 0 := by unfold seCheck; rw [if_pos hok]
  rw [hs]
  clear hs
  have Hok := Lib.hid hok
  clear hok
  go_wp2_with fail
  refine (HT.out _ Hok.out).mono ?_
  rintro e w2 ⟨rfl, hb2⟩
  have B2 := Lib.hid (bT B1.out hb2)
  replace HX1 := Lib.hid (HX1.out.keep hb2)
  clear hb2 X1 X1l X1a X1b X1c X1d X1e X1f
  have X1 := HX1.out
  try clear X1l
  try clear X1a
  try clear X1b
  try clear X1c
  try clear X1d
  try clear X1e
  try clear X1f
  try clear X1fa
  try clear X1fb
  try clear X1fc
  try clear X1fd
  try clear X1fe
  try clear X1ff
  obtain ⟨X1l, X1a, X1b, X1c, X1d, X1e, X1f, -, -, -, -, -, -⟩ := X1.facts6
  cases hth : thereS s n
  case false =>
    have hrr := nb_no1 (s := s) (n := n) (side := side) (fun h => by
      have h1 : thereS s n = true := by unfold thereS; simp [h.lo, h.hi]
      rw [hth] at h1; cases h1)
    rw [Hr.out] at hrr
    have HRr := Lib.hid hrr
    clear hrr hth
    go_wp2_with fail
    go_ret2
    exact ⟨by rw [HRr.out]; rfl, B2.out⟩
  have hin := InS.of Hok.out hth
  have Hin := Lib.hid hin
  obtain ⟨b1, b2, b3, b4, -⟩ := hin.bd
  have hcb := (seOk_bd hin.ok).c
  have hrb := (seOk_bd hin.ok).r
  clear hth hin
  go_wp2_with fail
  refine (HPl.out _ Hin.out).mono ?_
  rintro e w3 ⟨rfl, hb3⟩
  have B3 := Lib.hid (bT B2.out hb3)
  replace HX1 := Lib.hid (HX1.out.keep hb3)
  clear hb3 X1 X1l X1a X1b X1c X1d X1e X1f
  have X1 := HX1.out
  try clear X1l
  try clear X1a
  try clear X1b
  try clear X1c
  try clear X1d
  try clear X1e
  try clear X1f
  try clear X1fa
  try clear X1fb
  try clear X1fc
  try clear X1fd
  try clear X1fe
  try clear X1ff
  obtain ⟨X1l, X1a, X1b, X1c, X1d, X1e, X1f, -, -, -, -, -, -⟩ := X1.facts6
  obtain ⟨c, hc⟩ : ∃ c, colS s n = c := ⟨_, rfl⟩
  obtain ⟨rr, hrr⟩ : ∃ rr, rowS s n = rr := ⟨_, rfl⟩
  rw [hc, hrr]
  rw [hc] at b1 b2
  rw [hrr] at b3 b4
  have HC0 := Lib.hid hc; have HR0 := Lib.hid hrr
  clear hc hrr
  by_cases s1 : side < 1 ∨ 4 < side
  case pos =>
    have hf := nb_no2 (s := s) (n := n) (side := side) s1
    rw [Hr.out] at hf
    have HFi := Lib.hid hf
    have e1 : (side == 1) = false := by rw [beq_eq_false_iff_ne]; omega
    have e2 : (side == 2) = false := by rw [beq_eq_false_iff_ne]; omega
    have e3 : (side == 3) = false := by rw [beq_eq_false_iff_ne]; omega
    have e4 : (side == 4) = false := by rw [beq_eq_false_iff_ne]; omega
    clear hf s1
    go_wp2_with fail
    go_ret2
    exact ⟨by rw [HFi.out]; rfl, B3.out⟩
  have hs : side = 1 ∨ side = 2 ∨ side = 3 ∨ side = 4 := by omega
  clear s1
  obtain ⟨c1, hc1⟩ : ∃ c1, c + dxS side = c1 := ⟨_, rfl⟩
  obtain ⟨r1, hr1⟩ : ∃ r1, rr + dyS side = r1 := ⟨_, rfl⟩
  have Hc1 := Lib.hid hc1; have Hr1' := Lib.hid hr1
  have Hc : Hid (colS s n + dxS side = c1) := Lib.hid (by rw [HC0.out]; exact hc1)
  have Hr1 : Hid (rowS s n + dyS side = r1) := Lib.hid (by rw [HR0.out]; exact hr1)
  clear hc1 hr1
  go_upto_block 0 with fail
  go_cut [8, 9] (fun u v wx => u = .int .i64 c1 ∧ v = .int .i64 r1 ∧ wx = w3)
  case first =>
    rcases hs with rfl | rfl | rfl | rfl
    all_goals
      have hc1 := Hc1.out
      have hd1 := Hr1'.out
      unfold dxS at hc1
      unfold dyS at hd1
      simp at hc1 hd1
      have wa : IntKind.i64.wrap (rr - 1) = rr - 1 := IntWalk.i64_in _ (by omega)
      have wb : IntKind.i64.wrap (rr + 1) = rr + 1 := IntWalk.i64_in _ (by omega)
      have wc' : IntKind.i64.wrap (c - 1) = c - 1 := IntWalk.i64_in _ (by omega)
      have wd : IntKind.i64.wrap (c + 1) = c + 1 := IntWalk.i64_in _ (by omega)
      replace hc1 := Lib.hid hc1
      replace hd1 := Lib.hid hd1
      clear b1 b2 b3 b4 hcb hrb
      go_wp2_with fail
      go_meet
      case rel => exact ⟨by rw [← hc1.out] <;> first | rfl | (congr 1; done) | (congr 1; first | rfl | omega | (simp; omega)), by rw [← hd1.out] <;> first | rfl | (congr 1; done) | (congr 1; first | rfl | omega | (simp; omega)), rfl⟩
  case rest =>
  obtain ⟨rfl, rfl, rfl⟩ := hcut
  have hs1 : 1 ≤ side ∧ side ≤ 4 := by omega
  clear hs
  by_cases g0 : c1 < 0
  case pos =>
    have hf := nb_out Hc.out Hr1.out (fun e => by omega)
    rw [Hr.out] at hf
    have HF := Lib.hid hf
    clear hf
    go_wp2_with fail
    go_ret2
    exact ⟨by rw [HF.out]; rfl, B3.out⟩
  by_cases g1 : r1 < 0
  case pos =>
    have hf := nb_out Hc.out Hr1.out (fun e => by omega)
    rw [Hr.out] at hf
    have HF := Lib.hid hf
    clear hf
    go_wp2_with fail
    go_ret2
    exact ⟨by rw [HF.out]; rfl, B3.out⟩
  by_cases g2 : s.cols ≤ c1
  case pos =>
    have hf := nb_out Hc.out Hr1.out (fun e => by omega)
    rw [Hr.out] at hf
    have HF := Lib.hid hf
    clear hf
    go_wp2_with fail
    go_ret2
    exact ⟨by rw [HF.out]; rfl, B3.out⟩
  by_cases g3 : s.rows ≤ r1
  case pos =>
    have hf := nb_out Hc.out Hr1.out (fun e => by omega)
    rw [Hr.out] at hf
    have HF := Lib.hid hf
    clear hf
    go_wp2_with fail
    go_ret2
    exact ⟨by rw [HF.out]; rfl, B3.out⟩
  have hg : 0 ≤ c1 ∧ c1 < s.cols ∧ 0 ≤ r1 ∧ r1 < s.rows := by omega
  obtain ⟨m1, m2, m3⟩ := nb_wraps (seOk_bd Hin.out.ok) hg
  have hf := nb_in Hin.out hs1.1 hs1.2 Hc.out Hr1.out hg
  rw [Hr.out] at hf
  have HF := Lib.hid hf
  clear hf hg
  go_wp2_with fail
  go_ret2
  exact ⟨by rw [HF.out]; rfl, B3.out⟩
end Go.Proofs.YtbjlnnfmcjbnhaaGreatDoor
namespace Go.Proofs.YtbjlnnfmcjbnhaaGreatDoor

/-- a / b towards zero, then one less where the rest has the other sign. -/
def floorS (a b : Int) : Int := if a.tmod b ≠ 0 ∧ decide (a.tmod b < 0) ≠ decide (b < 0) then a.tdiv b - 1 else a.tdiv b
def absS (a : Int) : Int := if a < 0 then -a else a
def roundS (a b : Int) : Int := if absS b - absS (a - floorS a b * b) ≤ absS (a - floorS a b * b) then floorS a b + 1 else floorS a b
def minusS (a b : Int) : Bool := (decide (a < 0) && decide (0 < b)) || (decide (0 < a) && decide (b < 0))
/-- the reference: of absolute values -/
def rroundS (a b : Int) : Int :=
  let q := absS a / absS b
  let r := absS a % absS b
  let x := if absS b - r < r ∨ (r = absS b - r ∧ minusS a b = false) then q + 1 else q
  if minusS a b then -x else x

theorem mul_lt_le {q r b : Int} (h : q < r) (hb : 0 < b) : q * b + b ≤ r * b := by
  have := Int.mul_le_mul_of_nonneg_right (show q + 1 ≤ r by omega) (Int.le_of_lt hb)
  rw [Int.add_mul, Int.one_mul] at this
  exact this
theorem near_unique {a b x y : Int} (hb : 0 < b) (h1 : 2 * (x * b) ≤ 2 * a + b) (h2 : 2 * a + b < 2 * (x * b) + 2 * b) (h3 : 2 * (y * b) ≤ 2 * a + b) (h4 : 2 * a + b < 2 * (y * b) + 2 * b) : x = y := by
  rcases Int.lt_trichotomy x y with h | h | h
  · have := mul_lt_le h hb; omega
  · exact h
  · have := mul_lt_le h hb; omega
theorem floorS_spec {a b : Int} (hb : b ≠ 0) : (0 < b → floorS a b * b ≤ a ∧ a < floorS a b * b + b) ∧ (b < 0 → a ≤ floorS a b * b ∧ floorS a b * b + b < a) := by
  have h1 := Int.tdiv_mul_add_tmod a b
  have h2 : (a.tmod b).natAbs < b.natAbs := by
    have : ((a.tmod b).natAbs : Int) < b.natAbs := by
      rw [Int.natAbs_tmod]
      exact_mod_cast Nat.mod_lt _ (by omega)
    exact_mod_cast this
  unfold floorS
  generalize a.tmod b = r at *
  generalize a.tdiv b = q at *
  constructor
  · intro hp
    split
    · rename_i h
      have e : ¬ (b < 0) := by omega
      simp only [e, decide_false, ne_eq, decide_eq_false_iff_not, Decidable.not_not] at h
      rw [Int.sub_mul, Int.one_mul]
      omega
    · rename_i h
      have e : ¬ (b < 0) := by omega
      simp only [e, decide_false, ne_eq, decide_eq_false_iff_not, Decidable.not_not, not_and] at h
      by_cases h0 : r = 0
      · omega
      · have := h h0; omega
  · intro hn
    split
    · rename_i h
      simp only [hn, decide_true, ne_eq, decide_eq_true_eq] at h
      rw [Int.sub_mul, Int.one_mul]
      omega
    · rename_i h
      simp only [hn, decide_true, ne_eq, decide_eq_true_eq, not_and, Decidable.not_not] at h
      by_cases h0 : r = 0
      · omega
      · have := h h0; omega
theorem roundS_near {a b : Int} (hb : b ≠ 0) : (0 < b → 2 * (roundS a b * b) ≤ 2 * a + b ∧ 2 * a + b < 2 * (roundS a b * b) + 2 * b) ∧ (b < 0 → 2 * (roundS a b * (-b)) ≤ 2 * (-a) + (-b) ∧ 2 * (-a) + (-b) < 2 * (roundS a b * (-b)) + 2 * (-b)) := by
  obtain ⟨f1, f2⟩ := floorS_spec (a := a) hb
  unfold roundS absS
  generalize floorS a b = q at *
  constructor
  · intro hp
    obtain ⟨g1, g2⟩ := f1 hp
    rw [if_neg (show ¬ b < 0 by omega), if_neg (show ¬ a - q * b < 0 by omega)]
    split
    · rw [Int.add_mul, Int.one_mul]; omega
    · omega
  · intro hn
    obtain ⟨g1, g2⟩ := f2 hn
    rw [if_pos hn]
    have e : (if a - q * b < 0 then -(a - q * b) else a - q * b) = q * b - a := by split <;> omega
    rw [e]
    split
    · rw [Int.add_mul, Int.one_mul, Int.mul_neg]; omega
    · rw [Int.mul_neg]; omega
theorem rroundS_near {a b : Int} (hb : b ≠ 0) : (0 < b → 2 * (rroundS a b * b) ≤ 2 * a + b ∧ 2 * a + b < 2 * (rroundS a b * b) + 2 * b) ∧ (b < 0 → 2 * (rroundS a b * (-b)) ≤ 2 * (-a) + (-b) ∧ 2 * (-a) + (-b) < 2 * (rroundS a b * (-b)) + 2 * (-b)) := by
  have hB : 0 < absS b := by unfold absS; split <;> omega
  have d1 := Int.mul_ediv_add_emod (absS a) (absS b)
  have d2 := Int.emod_nonneg (absS a) (show absS b ≠ 0 by omega)
  have d3 := Int.emod_lt_of_pos (absS a) hB
  rw [Int.mul_comm] at d1
  unfold rroundS
  simp only
  generalize absS a / absS b = q at *
  generalize absS a % absS b = r at *
  constructor
  · intro hp
    have eb : absS b = b := by unfold absS; rw [if_neg (by omega)]
    rw [eb] at d1 d3 ⊢
    by_cases ha : a < 0
    · have em : minusS a b = true := by simp [minusS, ha, hp]
      have ea : absS a = -a := by unfold absS; rw [if_pos ha]
      rw [em, if_pos rfl]
      rw [ea] at d1
      split
      · rename_i h; simp only [Bool.true_eq_false, and_false, or_false] at h
        rw [Int.neg_mul, Int.add_mul, Int.one_mul]; omega
      · rename_i h; simp only [Bool.true_eq_false, and_false, or_false] at h
        rw [Int.neg_mul]; omega
    · have em : minusS a b = false := by simp [minusS, ha, show ¬ b < 0 by omega]
      have ea : absS a = a := by unfold absS; rw [if_neg ha]
      rw [em, if_neg (by simp)]
      rw [ea] at d1
      split
      · rename_i h; simp only [and_true] at h
        rw [Int.add_mul, Int.one_mul]; omega
      · rename_i h; simp only [and_true] at h
        omega
  · intro hn
    have eb : absS b = -b := by unfold absS; rw [if_pos hn]
    rw [eb] at d1 d3 ⊢
    by_cases ha : 0 < a
    · have em : minusS a b = true := by simp [minusS, ha, hn]
      have ea : absS a = a := by unfold absS; rw [if_neg (by omega)]
      rw [em, if_pos rfl]
      rw [ea] at d1
      split
      · rename_i h; simp only [Bool.true_eq_false, and_false, or_false] at h
        rw [Int.neg_mul, Int.add_mul, Int.one_mul]; omega
      · rename_i h; simp only [Bool.true_eq_false, and_false, or_false] at h
        rw [Int.neg_mul]; omega
    · have em : minusS a b = false := by simp [minusS, ha, show ¬ 0 < b by omega]
      have ea : absS a = -a := by unfold absS; split <;> omega
      rw [em, if_neg (by simp)]
      rw [ea] at d1
      split
      · rename_i h; simp only [and_true] at h
        rw [Int.add_mul, Int.one_mul]; omega
      · rename_i h; simp only [and_true] at h
        omega
theorem round_eq {a b : Int} (hb : b ≠ 0) : roundS a b = rroundS a b := by
  have h1 := roundS_near (a := a) hb
  have h2 := rroundS_near (a := a) hb
  rcases Int.lt_or_gt_of_ne hb with h | h
  · exact near_unique (a := -a) (b := -b) (by omega) (h1.2 h).1 (h1.2 h).2 (h2.2 h).1 (h2.2 h).2
  · exact near_unique (a := a) (b := b) h (h1.1 h).1 (h1.1 h).2 (h2.1 h).1 (h2.1 h).2
end Go.Proofs.YtbjlnnfmcjbnhaaGreatDoor
namespace Go.Proofs.YtbjlnnfmcjbnhaaGreatDoor
open Go.RowKit

theorem u64w (n : Int) : IntKind.u64.wrap n = n % 18446744073709551616 := by
  unfold IntKind.wrap
  simp [IntKind.signed, IntKind.bits]
/-- of absolute value at most 2^60 -/
def bd60 (n : Int) : Prop := -1152921504606846976 ≤ n ∧ n ≤ 1152921504606846976
theorem abs_wraps {n : Int} (h : bd60 n) (hn : n < 0) : IntKind.u64.wrap n = n + 18446744073709551616 ∧ n % 18446744073709551616 = n + 18446744073709551616 ∧ IntKind.u64.wrap (-(n + 18446744073709551616)) = -n ∧ (-(n + 18446744073709551616)) % 18446744073709551616 = -n := by
  unfold bd60 at h
  rw [u64w, u64w]
  omega
theorem pos_wraps {n : Int} (h : bd60 n) (hn : ¬ n < 0) : IntKind.u64.wrap n = n ∧ n % 18446744073709551616 = n := by
  unfold bd60 at h
  rw [u64w]
  omega
theorem absS_bd {n : Int} (h : bd60 n) : 0 ≤ absS n ∧ absS n ≤ 1152921504606846976 := by
  unfold bd60 at h
  unfold absS
  split <;> omega

set_option maxHeartbeats 1000000 in
theorem size_spec (n : Int) (w : World) (h : bd60 n) : Calls Tryz.prog 149 #[.int .i64 n] w fun e w' => e = .returned (.int .u64 (absS n)) ∧ w = w' := by
  unfold absS
  by_cases hn : n < 0
  · obtain ⟨k1, k2, k3, k4⟩ := abs_wraps h hn
    rw [if_pos hn]
    clear h
    go_enter Tryz.func149, Tryz.ntmps149
    go_wp2_with fail
    go_ret
    exact ⟨by first | rfl | (congr 1; done) | (congr 2; omega), rfl⟩
  · obtain ⟨k1, k2⟩ := pos_wraps h hn
    rw [if_neg hn]
    clear h
    go_enter Tryz.func149, Tryz.ntmps149
    go_wp2_with fail
    go_ret
    exact ⟨by first | rfl | (congr 1; done) | (congr 2; omega), rfl⟩

set_option maxHeartbeats 1000000 in
theorem rsize_spec (n : Int) (w : World) (h : bd60 n) : Calls Tryz.prog 151 #[.int .i64 n] w fun e w' => e = .returned (.int .u64 (absS n)) ∧ w = w' := by
  unfold absS
  by_cases hn : n < 0
  · obtain ⟨k1, k2, k3, k4⟩ := abs_wraps h hn
    rw [if_pos hn]
    clear h
    go_enter Tryz.func151, Tryz.ntmps151
    go_wp2_with fail
    go_ret
    exact ⟨by first | rfl | (congr 1; done) | (congr 2; omega), rfl⟩
  · obtain ⟨k1, k2⟩ := pos_wraps h hn
    rw [if_neg hn]
    clear h
    go_enter Tryz.func151, Tryz.ntmps151
    go_wp2_with fail
    go_ret
    exact ⟨by first | rfl | (congr 1; done) | (congr 2; omega), rfl⟩

set_option maxHeartbeats 1000000 in
theorem ncheck_spec (x y : Int) (w : World) (h : bd60 x) (hy : y ≠ 0) : Calls Tryz.prog 171 #[.int .i64 x, .int .i64 y] w fun e w' => e = .returned (.int .i64 0) ∧ w = w' := by
  have k1 : (y == 0) = false := by simpa using hy
  have k2 : (x == -9223372036854775808) = false := by rw [beq_eq_false_iff_ne]; unfold bd60 at h; omega
  clear h hy
  go_enter Tryz.func171, Tryz.ntmps171
  go_wp2_with fail
  go_ret
  exact ⟨rfl, rfl⟩

theorem tdiv_bd {a b : Int} (h : bd60 a) (hb : b ≠ 0) : bd60 (a.tdiv b) ∧ bd60 (a.tmod b) := by
  have h1 : (a.tdiv b).natAbs ≤ a.natAbs := by rw [Int.natAbs_tdiv]; exact Nat.div_le_self _ _
  have h2 : (a.tmod b).natAbs ≤ a.natAbs := by rw [Int.natAbs_tmod]; exact Nat.mod_le _ _
  unfold bd60 at *
  omega
set_option maxRecDepth 100000 in
set_option maxHeartbeats 1000000 in
theorem Floor_spec (x y : Int) (w : World) (h : bd60 x) (hy : y ≠ 0) : Calls Tryz.prog 148 #[.int .i64 x, .int .i64 y] w fun e w' => e = .returned (.tuple #[.int .i64 (floorS x y), .int .i64 0]) ∧ w = w' := by
  have HC := Lib.hid (fun w => ncheck_spec x y w h hy)
  have hbd := tdiv_bd h hy
  obtain ⟨⟨b1, b2⟩, b3, b4⟩ := hbd
  have k1 : IntKind.i64.wrap (x.tdiv y) = x.tdiv y := IntWalk.i64_in _ (by omega)
  have k2 : IntKind.i64.wrap (x.tmod y) = x.tmod y := IntWalk.i64_in _ (by omega)
  have k3 : ¬ y = 0 := hy
  have k4 : IntKind.i64.wrap (x.tdiv y - 1) = x.tdiv y - 1 := IntWalk.i64_in _ (by omega)
  obtain ⟨r, hr⟩ : ∃ r, floorS x y = r := ⟨_, rfl⟩
  rw [hr]
  unfold floorS at hr
  have Hr := Lib.hid hr
  clear hr hy h b1 b2 b3 b4
  by_cases h0 : x.tmod y = 0
  · have e0 : (x.tmod y != 0) = false := by simp [h0]
    have hf := Hr.out
    rw [if_neg (fun e => e.1 h0)] at hf
    have HF := Lib.hid hf
    clear hf h0
    go_enter Tryz.func148, Tryz.ntmps148
    go_wp2_with fail
    refine (HC.out _).mono ?_
    rintro e w1 ⟨rfl, rfl⟩
    go_wp2_with fail
    go_ret2
    exact ⟨by rw [← HF.out]; rfl, rfl⟩
  · have e0 : (x.tmod y != 0) = true := by simp [h0]
    by_cases h1 : decide (x.tmod y < 0) = decide (y < 0)
    · have hf := Hr.out
      rw [if_neg (fun e => e.2 h1)] at hf
      have HF := Lib.hid hf
      have H1 := Lib.hid h1
      clear hf h0 h1
      have e1 : (decide (x.tmod y < 0) == decide (y < 0)) = true := by rw [H1.out]; simp
      go_enter Tryz.func148, Tryz.ntmps148
      go_wp2_with fail
      refine (HC.out _).mono ?_
      rintro e w1 ⟨rfl, rfl⟩
      go_wp2_with fail
      go_ret2
      exact ⟨by rw [← HF.out]; rfl, rfl⟩
    · have hf := Hr.out
      rw [if_pos ⟨h0, h1⟩] at hf
      have HF := Lib.hid hf
      have e1 : (decide (x.tmod y < 0) == decide (y < 0)) = false := by simpa using h1
      clear hf h0 h1
      go_enter Tryz.func148, Tryz.ntmps148
      go_wp2_with fail
      refine (HC.out _).mono ?_
      rintro e w1 ⟨rfl, rfl⟩
      go_wp2_with fail
      go_ret2
      exact ⟨by rw [← HF.out]; rfl, rfl⟩

theorem floor_rest {a b : Int} (h : bd60 a) (hb : b ≠ 0) (hb' : bd60 b) : bd60 (a - floorS a b * b) ∧ absS (a - floorS a b * b) ≤ absS b ∧ -2305843009213693952 ≤ floorS a b * b ∧ floorS a b * b ≤ 2305843009213693952 ∧ -1152921504606846977 ≤ floorS a b ∧ floorS a b ≤ 1152921504606846976 := by
  obtain ⟨f1, f2⟩ := floorS_spec (a := a) hb
  have hq : -1152921504606846977 ≤ floorS a b ∧ floorS a b ≤ 1152921504606846976 := by
    have h1 := (tdiv_bd h hb).1
    unfold bd60 at h1
    unfold floorS
    split <;> omega
  unfold bd60 at *
  unfold absS
  generalize floorS a b = q at *
  generalize q * b = t at *
  rcases Int.lt_or_gt_of_ne hb with h1 | h1
  · have := f2 h1
    refine ⟨by omega, ?_, by omega, by omega, hq.1, hq.2⟩
    rw [if_pos h1]
    split <;> omega
  · have := f1 h1
    refine ⟨by omega, ?_, by omega, by omega, hq.1, hq.2⟩
    rw [if_neg (by omega)]
    split <;> omega

set_option maxRecDepth 100000 in
set_option maxHeartbeats 1000000 in
theorem Round_spec (x y : Int) (w : World) (h : bd60 x) (hy : y ≠ 0) (hy' : bd60 y) : Calls Tryz.prog 123 #[.int .i64 x, .int .i64 y] w fun e w' => e = .returned (.tuple #[.int .i64 (roundS x y), .int .i64 0]) ∧ w = w' := by
  have HFl := Lib.hid (fun w => Floor_spec x y w h hy)
  obtain ⟨r1, r2, r3, r4, r5, r6⟩ := floor_rest h hy hy'
  have HS1 := Lib.hid (fun w => size_spec _ w r1)
  have HS2 := Lib.hid (fun w => size_spec _ w hy')
  have a1 := absS_bd r1
  have a2 := absS_bd hy'
  have k1 : IntKind.i64.wrap (floorS x y * y) = floorS x y * y := IntWalk.i64_in _ (by omega)
  have k2 : IntKind.i64.wrap (x - floorS x y * y) = x - floorS x y * y := IntWalk.i64_in _ (by unfold bd60 at r1; omega)
  have k3 : IntKind.i64.wrap (floorS x y + 1) = floorS x y + 1 := IntWalk.i64_in _ (by omega)
  obtain ⟨r, hr⟩ : ∃ r, roundS x y = r := ⟨_, rfl⟩
  rw [hr]
  unfold roundS at hr
  have Hr := Lib.hid hr
  clear hr r1 r3 r4 r5 r6 h hy hy'
  generalize floorS x y = q at *
  generalize absS (x - q * y) = u at *
  generalize absS y = v at *
  have k4 : IntKind.u64.wrap (v - u) = v - u := by rw [u64w]; omega
  have k5 : (v - u) % 18446744073709551616 = v - u := by omega
  by_cases hc : v - u ≤ u
  · have hf := Hr.out
    rw [if_pos hc] at hf
    have HF := Lib.hid hf
    clear hf a1 a2 r2
    go_enter Tryz.func123, Tryz.ntmps123
    go_wp2_with fail
    refine (HFl.out _).mono ?_
    rintro e w1 ⟨rfl, rfl⟩
    go_wp2_with fail
    refine (HS1.out _).mono ?_
    rintro e w1 ⟨rfl, rfl⟩
    go_wp2_with fail
    refine (HS2.out _).mono ?_
    rintro e w1 ⟨rfl, rfl⟩
    go_wp2_with fail
    go_ret2
    exact ⟨by rw [← HF.out]; rfl, rfl⟩
  · have hf := Hr.out
    rw [if_neg hc] at hf
    have HF := Lib.hid hf
    clear hf a1 a2 r2
    go_enter Tryz.func123, Tryz.ntmps123
    go_wp2_with fail
    refine (HFl.out _).mono ?_
    rintro e w1 ⟨rfl, rfl⟩
    go_wp2_with fail
    refine (HS1.out _).mono ?_
    rintro e w1 ⟨rfl, rfl⟩
    go_wp2_with fail
    refine (HS2.out _).mono ?_
    rintro e w1 ⟨rfl, rfl⟩
    go_wp2_with fail
    go_ret2
    exact ⟨by rw [← HF.out]; rfl, rfl⟩
end Go.Proofs.YtbjlnnfmcjbnhaaGreatDoor
