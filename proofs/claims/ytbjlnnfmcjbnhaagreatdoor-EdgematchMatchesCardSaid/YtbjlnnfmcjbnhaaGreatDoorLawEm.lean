/- mapsheetslaw42.EdgematchMatches: true. -/
import Derived.Test.YtbjlnnfmcjbnhaaGreatDoorJ20
import Derived.Test.YtbjlnnfmcjbnhaaGreatDoorMatchD
import Derived.Test.YtbjlnnfmcjbnhaaGreatDoorLawU
set_option linter.unusedSimpArgs false
set_option linter.unusedVariables false
namespace Go.Proofs.YtbjlnnfmcjbnhaaGreatDoor
open Go.RowKit

theorem same04_true {v u : Value} {l : List Int} {W : World} (h : Ints W v l) (h' : Ints W u l) : Calls Tryz.prog 20 #[v, u] W fun e w' => e = .returned (.bool true) ∧ Below W.heap.size W w' := by
  have := Same04_spec v u l l W h h'
  rw [decide_eq_true rfl] at this
  exact this

set_option maxRecDepth 100000 in
set_option maxHeartbeats 4000000 in
theorem EdgematchMatches_spec (v : Value) (l : List (Prt × Value × Value)) (s : Se) (w : World) (h : Prts w v l) (hwf : ∀ x ∈ l, wfPrt x.1) (hm : Mv w) :
    Calls Tryz.prog 5 #[v, seV s] w fun e w' => e = .returned (.bool true) ∧ Below w.heap.size w w' := by
  have HAw := Lib.hid (fun W (hW : Below w.heap.size w W) => awake42_spec W (hm.keep hW))
  have TSm := fun k (hk : k < l.length) W (hW : Below w.heap.size w W) => Small42_spec _ l[k].1 W ((h.2 k hk).mono hW)
  have TX := fun (hf : ∀ x ∈ l, x.1.pieces.length ≤ 60000 ∧ x.1.nodes.length ≤ 60000) (hlen : l.length ≤ 60000) W (hW : Below w.heap.size w W) => Match_spec v l s W (h.mono hW) (hm.keep hW) hwf hf hlen
  have TR := fun (hf : ∀ x ∈ l, x.1.pieces.length ≤ 60000 ∧ x.1.nodes.length ≤ 60000) (hlen : l.length ≤ 60000) W (hW : Below w.heap.size w W) => rMatch_spec v l s W (h.mono hW) hwf hf hlen
  have HSm := Lib.hid TSm
  obtain ⟨⟨A, c, rfl, hn, hc, hR⟩, -⟩ := h
  unfold maxLen at hc
  obtain ⟨L, z, hr⟩ : ∃ L z, matchS (l.map (·.1)) s = (L, z) := ⟨_, _, rfl⟩
  rw [hr] at TX TR
  unfold RetInsE at TX TR
  unfold seV at TX TR ⊢
  have HX := Lib.hid TX; have HRr := Lib.hid TR
  have HR := Lib.hid hR
  clear TSm TX TR hm hr hwf hR
  go_enter Tryz.func5, Tryz.ntmps5
  by_cases hbig : 20 < l.length
  case pos =>
    have hbig' : 20 < (l.length : Int) := by omega
    go_wp2_with fail
    refine (HAw.out _ (bA (bR w) _)).mono ?_
    rintro e w1 ⟨rfl, hb1⟩
    have B1 := Lib.hid (bT (bA (bR w) _) hb1)
    clear hb1
    go_wp2_with fail
    go_ret
    exact ⟨rfl, B1.out⟩
  have hbig' : ¬ 20 < (l.length : Int) := by omega
  go_wp2_with fail
  obtain ⟨W0, hW⟩ : ∃ W0 : World, W0 = w.alloc (.cells #[.int .i64 s.at_.x, .int .i64 s.at_.y, .int .i64 s.width, .int .i64 s.height, .int .i64 s.cols, .int .i64 s.rows] 44) := ⟨_, rfl⟩
  have HB0 := Lib.hid (show Below w.heap.size w W0 by rw [hW]; exact bA (bR w) _)
  have HX3 := Lib.hid (show Blk W0 w.heap.size 44 #[.int .i64 s.at_.x, .int .i64 s.at_.y, .int .i64 s.width, .int .i64 s.height, .int .i64 s.cols, .int .i64 s.rows] by rw [hW]; exact Blk.made rfl _ _)
  rw [← hW]
  clear hW
  go_loopw [5] (fun u wr => ∃ k : Nat, k ≤ l.length ∧ u = .int .i64 k ∧ Below W0.heap.size W0 wr ∧ ∀ j (hj : j < l.length), j < k → smallS l[j].1 = true) (fun u _ => l.length - (intOf u).toNat)
  case atStart => exact ⟨0, Nat.zero_le _, rfl, bR W0, fun _ _ h => by omega⟩
  case round =>
    obtain ⟨k, hk, rfl, hb, hno⟩ := hrel
    have Hb := Lib.hid hb
    have Hno := Lib.hid hno
    have HX3' := Lib.hid (HX3.out.keep hb)
    clear hb hno
    have HBw := Lib.hid (bT HB0.out Hb.out)
    by_cases hlt : k < l.length
    case pos =>
      obtain ⟨b, o, rfl, hlb, c0, c1, c2⟩ := (HR.out.mono HBw.out).prt hlt
      have HSk := Lib.hid (HSm.out k hlt)
      cases hs : smallS l[k].1
      case false =>
        rw [hs] at HSk
        clear hs
        go_wp2_with fail
        refine (HSk.out _ HBw.out).mono ?_
        rintro e w1 ⟨rfl, hb1⟩
        have B1 := Lib.hid (bT HBw.out hb1)
        clear hb1
        go_wp2_with fail
        refine (HAw.out _ B1.out).mono ?_
        rintro e w2 ⟨rfl, hb2⟩
        have B2 := Lib.hid (bT B1.out hb2)
        clear hb2
        go_wp2_with fail
        go_ret
        exact ⟨rfl, B2.out⟩
      case true =>
      rw [hs] at HSk
      have HS := Lib.hid hs
      clear hs
      go_wp2_with fail
      refine (HSk.out _ HBw.out).mono ?_
      rintro e w1 ⟨rfl, hb1⟩
      have B1 := Lib.hid (bT Hb.out hb1)
      clear hb1
      go_wp2_with fail
      go_roundw
      case rel => exact ⟨k + 1, by omega, by go_num, B1.out, fun j hj hjk => if e : j < k then Hno.out j hj e else by
        have : j = k := by omega
        subst this; exact HS.out⟩
      case measure => simp [intOf]; omega
    case neg =>
    have hfew : ∀ x ∈ l, x.1.pieces.length ≤ 60000 ∧ x.1.nodes.length ≤ 60000 := fun x hx => by
      obtain ⟨j, hj, rfl⟩ := List.mem_iff_getElem.1 hx
      have := small_facts (Hno.out j hj (by omega))
      omega
    have HX1 := Lib.hid (HX.out hfew (by omega))
    have HR1 := Lib.hid (HRr.out hfew (by omega))
    clear hfew
    have X3 := HX3'.out
    try clear X3l
    try clear X3a
    try clear X3b
    try clear X3c
    try clear X3d
    try clear X3e
    try clear X3f
    try clear X3fa
    try clear X3fb
    try clear X3fc
    try clear X3fd
    try clear X3fe
    try clear X3ff
    obtain ⟨X3l, X3a, X3b, X3c, X3d, X3e, X3f, -, -, -, -, -, -⟩ := X3.facts6
    go_wp2_with fail
    refine (HX1.out _ HBw.out).mono ?_
    rintro e w2 ⟨A1, c1, rfl, hb2, ho1⟩
    have B2 := Lib.hid (bT HBw.out hb2)
    have HO1 := Lib.hid ho1
    replace HX3 := Lib.hid (HX3'.out.keep hb2)
    clear hb2 ho1 X3 X3l X3a X3b X3c X3d X3e X3f
    have X3 := HX3.out
    try clear X3l
    try clear X3a
    try clear X3b
    try clear X3c
    try clear X3d
    try clear X3e
    try clear X3f
    try clear X3fa
    try clear X3fb
    try clear X3fc
    try clear X3fd
    try clear X3fe
    try clear X3ff
    obtain ⟨X3l, X3a, X3b, X3c, X3d, X3e, X3f, -, -, -, -, -, -⟩ := X3.facts6
    go_wp2_with fail
    refine (HR1.out _ B2.out).mono ?_
    rintro e w3 ⟨A2, c2, rfl, hb3, ho2⟩
    have B3 := Lib.hid (bT B2.out hb3)
    have HO2 := Lib.hid ho2
    replace HO1 := Lib.hid (HO1.out.mono hb3)
    clear hb3 ho2 X3 X3l X3a X3b X3c X3d X3e X3f
    have hzz : (z == z) = true := by simp
    go_wp2_with fail
    refine (same04_true HO1.out HO2.out).mono ?_
    rintro e w4 ⟨rfl, hb4⟩
    have B4 := Lib.hid (bT B3.out hb4)
    clear hb4
    go_wp2_with fail
    refine (HAw.out _ B4.out).mono ?_
    rintro e w8 ⟨rfl, hb8⟩
    have B8 := Lib.hid (bT B4.out hb8)
    clear hb8
    go_wp2_with fail
    go_ret
    exact ⟨rfl, B8.out⟩
end Go.Proofs.YtbjlnnfmcjbnhaaGreatDoor
