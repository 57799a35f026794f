/- mapsheetslaw14.PlanMoves: true. -/
import Derived.Test.YtibchmofckhofaaMoved
import Derived.Test.YtibchmofckhofaaLawRev
set_option linter.unusedSimpArgs false
set_option linter.unusedVariables false
namespace Go.Proofs.Ytibchmofckhofaa
open Go.RowKit

theorem bd20_of {q : Pt} (h : ptOk q = true) : bd20 q := by
  unfold ptOk at h
  simp only [Bool.and_eq_true, decide_eq_true_eq] at h
  unfold bd20
  omega
theorem Valid.bd20s {p : Pl} (h : Valid p) {q : Pt} (hq : q ∈ pointsS p) : bd20 q := by
  have := h.rng
  unfold rangesS at this
  simp only [Bool.and_eq_true, List.all_eq_true] at this
  exact bd20_of (this.2 q hq)
theorem mv_vias (d : Pt) (t : Bool) (p : Pl) : ((mvPl d t p).arcs.flatMap (·.via)).length = (p.arcs.flatMap (·.via)).length := by
  have : (mvPl d t p).arcs.flatMap (·.via) = (p.arcs.flatMap (·.via)).map (mvPt d t) := by
    unfold mvPl
    rw [List.flatMap_map, List.map_flatMap]
    rfl
  rw [this, List.length_map]
theorem not_bd22 {d : Pt} (h : ¬ bd22 d) : d.x < -4194304 ∨ (¬ d.x < -4194304 ∧ 4194304 < d.x) ∨ (¬ d.x < -4194304 ∧ ¬ 4194304 < d.x ∧ d.y < -4194304) ∨ (¬ d.x < -4194304 ∧ ¬ 4194304 < d.x ∧ ¬ d.y < -4194304 ∧ 4194304 < d.y) := by
  unfold bd22 at h
  omega
def wantS (l : List Pt) : Int := if l.all ptOk = true then 0 else 2
theorem want_step {l : List Pt} {k : Nat} (hk : k < l.length) : wantS (l.take (k + 1)) = if ptOk l[k] = true then wantS (l.take k) else 2 := by
  unfold wantS
  rw [List.take_succ_eq_append_getElem hk, List.all_append]
  cases h : ptOk l[k] <;> simp [h]

set_option maxRecDepth 100000 in
set_option maxHeartbeats 8000000 in
theorem PlanMoves_spec (v : Value) (p : Pl) (d : Pt) (t : Bool) (w : World) (h : PlV w v p) :
    Calls Try.prog 7 #[v, ptV d, .bool t] w fun e w' => e = .returned (.bool true) ∧ Below w.heap.size w w' := by
  have TFew : ∀ W, Below w.heap.size w W → Calls Try.prog 9 #[v, .int .i64 100] W _ := fun W hW => Few_spec v p 100 W (h.mono hW) (by omega)
  have HFew := Lib.hid TFew
  have HP := Lib.hid h
  have HAw := Lib.hid awake_spec
  obtain ⟨vn, va, vf, _, rfl, -, -, -, -⟩ := h
  unfold ptV
  clear TFew
  go_enter Try.func7, Try.ntmps7
  go_wp2_with fail
  refine (HFew.out _ (bA (bA (bR w) _) _)).mono ?_
  rintro e w1 ⟨rfl, hb1⟩
  have Bw : Below w.heap.size w w1 := bT (bA (bA (bR w) _) _) hb1
  have X3 : Blk w1 w.heap.size 26 #[vn, va, vf] := ((Blk.made rfl _ _).alloc _).keep hb1
  have X4 : Blk w1 (w.heap.size + 1) 30 #[.int .i64 d.x, .int .i64 d.y] := (Blk.made (by simp) _ _).keep hb1
  clear hb1
  cases hf : fewS p 100
  case false =>
    clear hf
    go_wp2_with fail
    refine (HAw.out _).mono ?_
    rintro e w2 ⟨rfl, hb2⟩
    go_wp2_with fail
    go_ret
    exact ⟨rfl, bT Bw hb2⟩
  have hfw := few_short hf
  have HVl := Lib.hid (via_le hfw.2.2.2)
  have HLs := Lib.hid hfw
  clear hf hfw
  have HX3 := Lib.hid X3; have HX4 := Lib.hid X4
  try clear X3l
  try clear X3a
  try clear X3b
  try clear X3c
  try clear X3fa
  try clear X3fb
  try clear X3fc
  obtain ⟨X3l, X3a, X3b, X3c, -, -, -⟩ := X3.facts3
  try clear X4l
  try clear X4a
  try clear X4b
  try clear X4fa
  try clear X4fb
  obtain ⟨X4l, X4a, X4b, -, -⟩ := X4.facts2
  by_cases hbd : bd22 d
  case neg =>
    rcases not_bd22 hbd with h1 | ⟨h1, h2⟩ | ⟨h1, h2, h3⟩ | ⟨h1, h2, h3, h4⟩
    all_goals
      clear hbd
      go_wp2_with fail
      refine (HAw.out _).mono ?_
      rintro e w2 ⟨rfl, hb2⟩
      go_wp2_with fail
      go_ret
      exact ⟨rfl, bT Bw hb2⟩
  have Hbd := Lib.hid hbd
  obtain ⟨h1, h2, h3, h4⟩ := hbd
  replace h1 : ¬ d.x < -4194304 := by omega
  replace h2 : ¬ 4194304 < d.x := by omega
  replace h3 : ¬ d.y < -4194304 := by omega
  replace h4 : ¬ 4194304 < d.y := by omega
  go_wp2_with fail
  refine (Check_spec _ p _ (HP.out.mono Bw)).mono ?_
  rintro e w2 ⟨rfl, hb2⟩
  replace Bw := bT Bw hb2
  have X3 := HX3.out.keep hb2
  have X4 := HX4.out.keep hb2
  clear hb2 X3l X3a X3b X3c X4l X4a X4b HX3 HX4
  have e1 : decide (d.x < -4194304) = false := decide_eq_false (by omega)
  have e2 : decide (4194304 < d.x) = false := decide_eq_false (by omega)
  have e3 : decide (d.y < -4194304) = false := decide_eq_false (by omega)
  have e4 : decide (4194304 < d.y) = false := decide_eq_false (by omega)
  clear h1 h2 h3 h4
  by_cases hz : checkS p = 0
  case neg =>
    generalize checkS p = q at *
    have hq1 : (q != 0) = true := bne_iff_ne.2 hz
    simp only [e1, e2, e3, e4, Bool.or_false, Bool.or_self]
    go_wp2_with fail
    refine (HAw.out _).mono ?_
    rintro e w3 ⟨rfl, hb3⟩
    go_wp2_with fail
    go_ret
    exact ⟨rfl, bT Bw hb3⟩
  have HVd := Lib.hid ((check_zero p).1 hz)
  rw [hz]
  clear hz
  simp only [e1, e2, e3, e4, Bool.or_false, Bool.or_self]
  clear e1 e2 e3 e4
  have HBw := Lib.hid Bw
  have TM : Hid (∀ W, Below w.heap.size w W → Calls Try.prog 26 #[.agg #[vn, va, vf], .agg #[.int .i64 d.x, .int .i64 d.y], .bool t] W (RetPlan W (mvPl d t p))) := Lib.hid fun W hW => Mapped_spec _ p d t W (HP.out.mono hW) (fun n hn => HVd.out.bd20s (List.mem_append_left _ (List.mem_map_of_mem hn))) (fun a ha q hq => HVd.out.bd20s (List.mem_append_right _ (List.mem_flatMap.2 ⟨a, ha, hq⟩))) Hbd.out (by have := HLs.out.1; omega) (by have := HLs.out.2.1; omega) (fun a ha => by have := HVl.out a ha; omega)
  have HMc := Lib.hid (mv_check d t p HVd.out)
  have hn' : (mvPl d t p).nodes.length ≤ 1048576 := by have := HLs.out.1; unfold mvPl; rw [List.length_map]; omega
  have hv' : ((mvPl d t p).arcs.flatMap (·.via)).length ≤ 1048576 := by have := HLs.out.2.2.2; rw [mv_vias]; omega
  have Hn' := Lib.hid hn'; have Hv' := Lib.hid hv'
  clear hn' hv'
  try clear X3l
  try clear X3a
  try clear X3b
  try clear X3c
  try clear X3fa
  try clear X3fb
  try clear X3fc
  obtain ⟨X3l, X3a, X3b, X3c, -, -, -⟩ := X3.facts3
  try clear X4l
  try clear X4a
  try clear X4b
  try clear X4fa
  try clear X4fb
  obtain ⟨X4l, X4a, X4b, -, -⟩ := X4.facts2
  go_wp2_with fail
  refine (TM.out _ Bw).mono ?_
  rintro e w3 ⟨v7, rfl, hb3, hv7⟩
  generalize mvPl d t p = q at *
  have HQ := Lib.hid hv7
  replace Bw := bT Bw hb3
  obtain ⟨B1, m1, d1, B2, m2, d2, B3, m3, d3, rfl⟩ : ∃ B1 m1 d1 B2 m2 d2 B3 m3 d3, v7 = .agg #[.slice B1 m1 d1, .slice B2 m2 d2, .slice B3 m3 d3] := by
    obtain ⟨_, _, _, _, rfl, -, ⟨_, _, rfl, -⟩, ⟨⟨_, _, rfl, -⟩, -⟩, ⟨_, _, rfl, -⟩⟩ := hv7
    exact ⟨_, _, _, _, _, _, _, _, _, rfl⟩
  clear hv7
  clear hb3 X3 X4 X3l X3a X3b X3c X4l X4a X4b
  go_wp2_with fail
  obtain ⟨W7, hW7⟩ : ∃ W7 : World, W7 = w3.alloc (.cells #[.slice B1 m1 d1, .slice B2 m2 d2, .slice B3 m3 d3] 26) := ⟨_, rfl⟩
  rw [← hW7]
  have X7 : Blk W7 w3.heap.size 26 #[.slice B1 m1 d1, .slice B2 m2 d2, .slice B3 m3 d3] := by rw [hW7]; exact Blk.made rfl _ _
  have HQ7 := Lib.hid (show PlV W7 (.agg #[.slice B1 m1 d1, .slice B2 m2 d2, .slice B3 m3 d3]) q from HQ.out.mono (by rw [hW7]; exact bA (bR w3) _))
  replace Bw : Below w.heap.size w W7 := by rw [hW7]; exact bA Bw _
  clear hW7
  refine (Points_spec _ q _ HQ7.out Hn'.out Hv'.out).mono ?_
  rintro e w8 ⟨v8, rfl, hb8, hown⟩
  replace Bw := bT Bw hb8
  have X7 := X7.keep hb8
  have HX7 := Lib.hid X7
  have HQ8 := Lib.hid (HQ7.out.mono hb8)
  have HBw := Lib.hid Bw
  obtain ⟨A1, cc1, rfl, hn1, hc1, hR1⟩ := Own.sl hown
  unfold maxLen at hc1
  have HR1 := Lib.hid hR1
  generalize hPP : pointsS q = PP at *
  have HPP := Lib.hid hPP
  clear hR1 hown hb8 hPP X7
  go_wp2_with fail
  go_loopw [9, 10] (fun s i wr => ∃ k : Nat, k ≤ PP.length ∧ i = .int .i64 k ∧ s = .int .i64 (wantS (PP.take k)) ∧ Below w8.heap.size w8 wr) (fun _ i _ => PP.length - (intOf i).toNat)
  case atStart => exact ⟨0, Nat.zero_le _, rfl, rfl, bR w8⟩
  case round =>
    obtain ⟨k, hk, rfl, rfl, hb⟩ := hrel
    have Hb2 := Lib.hid hb
    clear hb
    by_cases hlt : k < PP.length
    · obtain ⟨b, o, rfl, hlb, c0, c1⟩ := (HR1.out.mono Hb2.out).pt hlt
      go_wp2_with fail
      refine (Valid_spec PP[k] _).mono ?_
      rintro e w9 ⟨rfl, hb9⟩
      have Bw9 : Below w8.heap.size w8 w9 := bT Hb2.out hb9
      have hst := want_step hlt
      clear hb9 c0 c1
      cases hv : ptOk PP[k]
      · rw [hv, if_neg (by decide)] at hst
        have Hst := Lib.hid hst; clear hst
        go_wp2_with fail
        go_roundw
        case rel => exact ⟨k + 1, by omega, by go_num, by rw [Hst.out], Bw9⟩
        case measure => simp [intOf]; omega
      · rw [hv, if_pos rfl] at hst
        have Hst := Lib.hid hst; clear hst
        go_wp2_with fail
        go_roundw
        case rel => exact ⟨k + 1, by omega, by go_num, by rw [Hst.out], Bw9⟩
        case measure => simp [intOf]; omega
    · have hkn : k = PP.length := by omega
      subst hkn
      have hMc : checkS q = wantS PP := HMc.out
      have HMc2 := Lib.hid hMc
      rw [List.take_length]
      have TC : Hid (∀ W, PlV W (.agg #[.slice B1 m1 d1, .slice B2 m2 d2, .slice B3 m3 d3]) q → Calls Try.prog 21 #[.agg #[.slice B1 m1 d1, .slice B2 m2 d2, .slice B3 m3 d3]] W fun e w' => e = .returned (.int .i64 (wantS PP)) ∧ Below W.heap.size W w') := Lib.hid fun W hv => by
        have h := Check_spec _ q W hv
        rw [HMc2.out] at h
        exact h
      generalize wantS PP = z at *
      have X7 := HX7.out.keep Hb2.out
      clear hMc
      try clear X7l
      try clear X7a
      try clear X7b
      try clear X7c
      try clear X7fa
      try clear X7fb
      try clear X7fc
      obtain ⟨X7l, X7a, X7b, X7c, -, -, -⟩ := X7.facts3
      go_wp2_with fail
      refine (TC.out _ (HQ8.out.mono Hb2.out)).mono ?_
      rintro e wa ⟨rfl, hba⟩
      go_wp2_with fail
      refine (HAw.out _).mono ?_
      rintro e wb ⟨rfl, hbb⟩
      go_wp2_with fail
      go_ret
      exact ⟨rfl, bT (bT (bT HBw.out Hb2.out) hba) hbb⟩
end Go.Proofs.Ytibchmofckhofaa
