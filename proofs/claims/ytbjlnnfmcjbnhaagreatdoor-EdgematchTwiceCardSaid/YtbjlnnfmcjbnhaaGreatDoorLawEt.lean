/- mapsheetslaw42.EdgematchTwice: true. -/
import Derived.Test.YtbjlnnfmcjbnhaaGreatDoorJ20
import Derived.Test.YtbjlnnfmcjbnhaaGreatDoorJ17
import Derived.Test.YtbjlnnfmcjbnhaaGreatDoorLawU
set_option linter.unusedSimpArgs false
set_option linter.unusedVariables false
namespace Go.Proofs.YtbjlnnfmcjbnhaaGreatDoor
open Go.RowKit

set_option maxRecDepth 100000 in
set_option maxHeartbeats 4000000 in
theorem EdgematchTwice_spec (v : Value) (l : List Cr) (w : World) (h : Crs w v l) (hm : Mv w) :
    Calls Tryz.prog 7 #[v] w fun e w' => e = .returned (.bool true) ∧ Below w.heap.size w w' := by
  have HAw := Lib.hid (fun W (hW : Below w.heap.size w W) => awake42_spec W (hm.keep hW))
  have HP := Lib.hid h
  obtain ⟨A, c, rfl, hn, hc, hR⟩ := h
  unfold maxLen at hc
  have HR := Lib.hid hR
  have TA : ∀ (v : Value) (m : List Cr) (cr : Cr) (W : World), Crs W v m → m.length ≤ 1000000 → Calls Tryz.prog 23 #[v, crV cr] W _ := fun v m cr W h1 h2 => Add_spec v m cr W h1 h2
  unfold crV at TA
  have HA := Lib.hid TA
  clear TA hm hR
  go_enter Tryz.func7, Tryz.ntmps7
  by_cases hbig : 200 < l.length
  case pos =>
    have hbig' : 200 < (l.length : Int) := by omega
    go_wp2_with fail
    refine (HAw.out _ (bR w)).mono ?_
    rintro e w1 ⟨rfl, hb1⟩
    go_wp2_with fail
    go_ret
    exact ⟨rfl, hb1⟩
  have hbig' : ¬ 200 < (l.length : Int) := by omega
  go_wp2_with fail
  go_loopw [3, 4] (fun s u wr => ∃ k : Nat, k ≤ l.length ∧ u = .int .i64 k ∧ Below w.heap.size w wr ∧ Crs wr s (sortCr (l.take k)) ∧ ∀ j (hj : j < l.length), j < k → l[j].out = 0 ∨ l[j].out = 1) (fun _ u _ => l.length - (intOf u).toNat)
  case atStart => exact ⟨0, Nat.zero_le _, rfl, bR w, Sl.nil _, fun _ _ h => by omega⟩
  case round =>
    obtain ⟨k, hk, rfl, hb, hs, hno⟩ := hrel
    have Hb := Lib.hid hb
    have Hno := Lib.hid hno
    obtain ⟨As, cs, rfl⟩ := hs.form
    have Hs := Lib.hid hs
    clear hb hno hs
    by_cases hlt : k < l.length
    case pos =>
      obtain ⟨b, o, rfl, hlb, c0, c1, c2⟩ := (HR.out.mono Hb.out).cr hlt
      by_cases h0 : l[k].out = 0 ∨ l[k].out = 1
      case neg =>
        have e0 : (l[k].out != 0) = true := by rw [bne_iff_ne]; exact fun e => h0 (.inl e)
        have e1 : (l[k].out != 1) = true := by rw [bne_iff_ne]; exact fun e => h0 (.inr e)
        clear h0
        go_wp2_with fail
        refine (HAw.out _ Hb.out).mono ?_
        rintro e w1 ⟨rfl, hb1⟩
        have B1 := Lib.hid (bT Hb.out hb1)
        clear hb1
        go_wp2_with fail
        go_ret
        exact ⟨rfl, B1.out⟩
      case pos =>
      have hl1 : (sortCr (l.take k)).length ≤ 1000000 := by rw [sortCr_len, List.length_take]; omega
      have hst : insCr (sortCr (l.take k)) l[k] = sortCr (l.take (k + 1)) := by rw [List.take_succ_eq_append_getElem hlt, sortCr_snoc]
      have TAd := HA.out _ _ l[k] wr Hs.out hl1
      rw [hst] at TAd
      have HAd := Lib.hid TAd
      have HNo := Lib.hid (all_succ (p := fun c : Cr => c.out = 0 ∨ c.out = 1) Hno.out hlt h0)
      have H0 := Lib.hid h0
      clear hl1 hst TAd h0
      generalize sortCr (l.take k) = L at *
      rcases H0.out with h0 | h0
      · have e0 : (l[k].out != 0) = false := by simp [h0]
        clear h0
        go_wp2_with fail
        refine HAd.out.mono ?_
        rintro e w1 ⟨A1, c1', rfl, hb1, ho1⟩
        have B1 := Lib.hid (bT Hb.out hb1)
        have HO1 := Lib.hid ho1.sl
        clear hb1 ho1
        go_wp2_with fail
        go_roundw
        case rel => exact ⟨k + 1, by omega, by go_num, B1.out, HO1.out, HNo.out⟩
        case measure => simp [intOf]; omega
      · have e0 : (l[k].out != 0) = true := by simp [h0]
        have e1 : (l[k].out != 1) = false := by simp [h0]
        clear h0
        go_wp2_with fail
        refine HAd.out.mono ?_
        rintro e w1 ⟨A1, c1', rfl, hb1, ho1⟩
        have B1 := Lib.hid (bT Hb.out hb1)
        have HO1 := Lib.hid ho1.sl
        clear hb1 ho1
        go_wp2_with fail
        go_roundw
        case rel => exact ⟨k + 1, by omega, by go_num, B1.out, HO1.out, HNo.out⟩
        case measure => simp [intOf]; omega
    case neg =>
    have hkk : k = l.length := by omega
    subst hkk
    have hs := Hs.out
    rw [List.take_length] at hs ⊢
    have HS := Lib.hid hs
    have htw : oppS (oppS l) = sortCr l := flip_twice (fun c hc => by
      obtain ⟨j, hj, rfl⟩ := List.mem_iff_getElem.1 hc
      exact Hno.out j hj hj)
    have HTw := Lib.hid htw
    have hol : (oppS l).length = l.length := by unfold oppS; rw [sortCr_len, List.length_map]
    have HOl := Lib.hid hol
    clear hs htw hol Hs Hno
    generalize sortCr l = S at *
    go_wp2_with fail
    refine (Opposite_spec _ l _ (HP.out.mono Hb.out) (by omega)).mono ?_
    rintro e w5 ⟨A3, c3, rfl, hb5, ho3⟩
    have B5 := Lib.hid (bT Hb.out hb5)
    have HO3 := Lib.hid ho3.sl
    replace HS := Lib.hid (HS.out.mono hb5)
    clear hb5 ho3
    have TOp := Opposite_spec _ (oppS l) _ HO3.out (by have := HOl.out; omega)
    rw [HTw.out] at TOp
    have HOp := Lib.hid TOp
    clear TOp
    generalize oppS l = M at *
    go_wp2_with fail
    refine HOp.out.mono ?_
    rintro e w6 ⟨A4, c4, rfl, hb6, ho4⟩
    have B6 := Lib.hid (bT B5.out hb6)
    have HO4 := Lib.hid ho4.sl
    replace HS := Lib.hid (HS.out.mono hb6)
    clear hb6 ho4
    go_wp2_with fail
    refine (same_true HO4.out HS.out).mono ?_
    rintro e w7 ⟨rfl, hb7⟩
    have B7 := Lib.hid (bT B6.out hb7)
    clear hb7
    go_wp2_with fail
    refine (HAw.out _ B7.out).mono ?_
    rintro e w8 ⟨rfl, hb8⟩
    have B8 := Lib.hid (bT B7.out hb8)
    clear hb8
    go_wp2_with fail
    go_ret
    exact ⟨rfl, B8.out⟩
end Go.Proofs.YtbjlnnfmcjbnhaaGreatDoor
