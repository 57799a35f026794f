/- mapsheetslaw15.count. Plain law: what the cycles of a valid plan are: each dart once, followed by the next one. No walk here. -/
import Derived.Test.YtoclnkfeblfpbaaGreatJ17
import Derived.Test.YtoclnkfeblfpbaaGreatJ14
set_option linter.unusedSimpArgs false
set_option linter.unusedVariables false
namespace Go.Proofs.YtoclnkfeblfpbaaGreat
open Go.RowKit

theorem count_snoc (l : List Int) (k : Nat) (hk : k < l.length) (d : Int) : (l.take (k + 1)).count d = (l.take k).count d + if l[k] = d then 1 else 0 := by
  rw [List.take_succ_eq_append_getElem hk, List.count_append, List.count_singleton]
  congr 1
  simp only [beq_iff_eq]
theorem cyl_snoc (L : List (List Int × SV)) (k : Nat) (hk : k < L.length) : ((L.take (k + 1)).map (·.1)).flatten = ((L.take k).map (·.1)).flatten ++ L[k].1 := by
  rw [List.take_succ_eq_append_getElem hk, List.map_append, List.flatten_append]
  simp
theorem cyl_take_le (L : List (List Int × SV)) (k : Nat) : ((L.take k).map (·.1)).flatten.length ≤ (L.map (·.1)).flatten.length := by
  have h : L.map (·.1) = (L.take k).map (·.1) ++ (L.drop k).map (·.1) := by rw [← List.map_append, List.take_append_drop]
  rw [h, List.flatten_append, List.length_append]
  omega
theorem Ints.slice {w : World} {a : Option Addr} {n c : Nat} {l : List Int} (h : Ints w (.slice a n c) l) : n = l.length ∧ l.length ≤ c ∧ c ≤ maxLen ∧ Row w a (l.flatMap inC) := by
  obtain ⟨A, c', he, h1, h2, h3⟩ := h
  injection he with e1 e2 e3
  subst e1 e2 e3
  exact ⟨rfl, h1, h2, h3⟩
theorem Row.intsAll {w : World} {A : Option Addr} {l : List Int} (h : Row w A (l.flatMap inC)) (h0 : 0 < l.length) :
    ∃ b o, A = some ⟨b, o, none⟩ ∧ b < w.heap.size ∧ ∀ j (hj : j < l.length), w.cell? ⟨b, o + j, none⟩ = some (.int .i64 l[j]) := by
  obtain ⟨b, o, hA, hb, -⟩ := h.int h0
  refine ⟨b, o, hA, hb, fun j hj => ?_⟩
  obtain ⟨b', o', hA', -, hc⟩ := h.int hj
  rw [hA] at hA'
  simp only [Option.some.injEq, Addr.mk.injEq, and_true] at hA'
  obtain ⟨rfl, rfl⟩ := hA'
  exact hc
set_option maxRecDepth 100000 in
set_option maxHeartbeats 4000000 in
theorem cntD_spec (v : Value) (L : List (List Int × SV)) (d : Int) (w : World) (h : CyR w v L) (hl : (L.map (·.1)).flatten.length ≤ 1000000) :
    Calls Tryz.prog 25 #[v, .int .i64 d] w fun e w' => e = .returned (.int .i64 ((L.map (·.1)).flatten.count d : Nat)) ∧ Below w.heap.size w w' := by
  obtain ⟨⟨A, c, rfl, hn, hc, hR⟩, hI⟩ := h
  unfold maxLen at hc
  have HI := Lib.hid hI
  have HLt := Lib.hid (fun k => cyl_take_le L k)
  have HFs := Lib.hid (fun k hk => cyl_snoc L k hk)
  obtain ⟨q, hq⟩ : ∃ q, (L.map (·.1)).flatten.count d = q := ⟨_, rfl⟩
  rw [hq]
  have Hq := Lib.hid hq
  have HR := Lib.hid hR
  clear hI hq hR
  go_enter Tryz.func25, Tryz.ntmps25
  go_wp2_with fail
  go_loop [5, 6] (fun s i => ∃ k : Nat, k ≤ L.length ∧ i = .int .i64 k ∧ s = .int .i64 (((L.take k).map (·.1)).flatten.count d : Nat)) (fun _ i => L.length - (intOf i).toNat)
  case atStart => exact ⟨0, Nat.zero_le _, rfl, by simp⟩
  case round =>
    obtain ⟨k, hk, rfl, rfl⟩ := hrel
    have hlk := HLt.out k
    by_cases hlt : k < L.length
    · obtain ⟨b, o, rfl, hlb, e0⟩ := (HR.out).cy hlt
      have hin := HI.out L[k] (List.getElem_mem hlt)
      have hfs := HFs.out k hlt
      have hlk2 := HLt.out (k + 1)
      rw [hfs, List.length_append] at hlk2
      generalize L[k] = x at *
      obtain ⟨l, xa, xn, xc⟩ := x
      simp only at hfs hin e0 hlk2
      obtain ⟨rfl, h1, h2, hrow⟩ := hin.slice
      unfold maxLen at h2
      have HRow := Lib.hid hrow
      have HFk := Lib.hid hfs
      have hcl := List.count_le_length (a := d) (l := ((L.take k).map (·.1)).flatten)
      generalize ((L.take k).map (·.1)).flatten = P at *
      have HCl := Lib.hid hcl
      clear hfs hin hrow hcl
      obtain ⟨C, hC⟩ : ∃ C, P.count d = C := ⟨_, rfl⟩
      rw [hC] at HCl ⊢
      have HC := Lib.hid hC
      have hc2 := HCl.out
      clear hC
      go_wp2_with fail
      go_loop [5, 7] (fun s i => ∃ j : Nat, j ≤ l.length ∧ i = .int .i64 j ∧ s = .int .i64 (C + (l.take j).count d : Nat)) (fun _ i => l.length - (intOf i).toNat)
      case atStart => exact ⟨0, Nat.zero_le _, rfl, by simp⟩
      case round =>
        obtain ⟨j, hj, rfl, rfl⟩ := hrel
        have hcj := List.count_le_length (a := d) (l := l.take j)
        have hcj2 : (l.take j).length ≤ l.length := by rw [List.length_take]; omega
        obtain ⟨Cj, hCj⟩ : ∃ Cj, (l.take j).count d = Cj := ⟨_, rfl⟩
        rw [hCj] at hcj ⊢
        by_cases hlj : j < l.length
        · obtain ⟨b2, o2, rfl, hlb2, e2⟩ := (HRow.out).int hlj
          have hs := count_snoc l j hlj d
          rw [hCj] at hs
          have HS := Lib.hid hs
          generalize l[j] = y at *
          clear hs hCj
          cases hy : (y == d)
          · have hf := Lib.hid (show (l.take (j + 1)).count d = Cj by rw [HS.out, if_neg (by simpa using hy)]; omega)
            go_wp2_with fail
            go_round
            case rel => exact ⟨j + 1, by omega, by go_num, by rw [hf.out]⟩
            case measure => simp [intOf]; omega
          · have hf := Lib.hid (show (l.take (j + 1)).count d = Cj + 1 by rw [HS.out, if_pos (by simpa using hy)])
            go_wp2_with fail
            go_round
            case rel => exact ⟨j + 1, by omega, by go_num, by rw [hf.out]; go_num⟩
            case measure => simp [intOf]; omega
        · obtain rfl : j = l.length := by omega
          rw [List.take_length] at hCj
          have hf := Lib.hid (show (((L.take (k + 1)).map (·.1)).flatten.count d) = C + Cj by rw [HFk.out, List.count_append, HC.out, hCj])
          clear hCj
          go_wp2_with fail
          go_round
          case rel => exact ⟨k + 1, by omega, by go_num, by rw [hf.out]⟩
          case measure => simp [intOf]; omega
    · obtain rfl : k = L.length := by omega
      rw [List.take_length, Hq.out]
      go_wp2_with fail
      go_ret
      exact ⟨rfl, bR w⟩
end Go.Proofs.YtoclnkfeblfpbaaGreat
namespace Go.Proofs.YtoclnkfeblfpbaaGreat
open Go.RowKit

theorem nodup_count {l : List Int} (h : l.Nodup) {d : Int} (hd : d ∈ l) : l.count d = 1 := by
  induction l with
  | nil => cases hd
  | cons a l ih =>
    obtain ⟨h1, h2⟩ := List.nodup_cons.1 h
    rw [List.count_cons]
    by_cases e : a = d
    · subst e
      rw [List.count_eq_zero_of_not_mem h1]
      simp
    · rw [ih h2 ((List.mem_cons.1 hd).resolve_left (fun h => e h.symm))]
      simp [e]
section
variable {p : Pl} (h : Valid p)
include h
theorem Valid.cyc_facts {l : List Int} (hl : l ∈ cyclesD p) : (0 < l.length ∧ l.length ≤ 513 ∧ ∀ d ∈ l, d ∈ dartsD p) ∧ ∀ k (hk : k < l.length) (h0 : 0 < l.length) (hm : (k + 1) % l.length < l.length), l[0] ≤ l[k] ∧ nextD p l[k] = l[(k + 1) % l.length] := by
  obtain ⟨d, hd, rfl, hmin⟩ := h.cyc.orbs l hl
  have hD : ∀ x ∈ dartsD p, nextD p x ∈ dartsD p := fun x hx => (h.next_mem hx).1
  obtain ⟨o1, o2, o3, -, -, o6⟩ := orb_facts hD (fun x hx y hy => h.next_inj hx hy) hd
  have hlen : (dartsD p).length ≤ 512 := by
    have hl := h.lim
    unfold limS at hl
    simp only [Bool.or_eq_false_iff, decide_eq_false_iff_not] at hl
    unfold dartsD
    simp only [List.length_append, List.length_reverse, List.length_map]
    omega
  have hmem : ∀ x ∈ orb (nextD p) (dartsD p) d, x ∈ dartsD p := fun x hx => orb_mem hD hd hx
  refine ⟨⟨by omega, by omega, hmem⟩, fun k hk h0 hm => ?_⟩
  have e : ∀ j (hj : j < (orb (nextD p) (dartsD p) d).length), (orb (nextD p) (dartsD p) d)[j] = pw (nextD p) d j := fun j hj => iter_get _ _ _ _ _
  constructor
  · have e0 : (orb (nextD p) (dartsD p) d)[0] = d := by rw [e]; rfl
    rw [e0]
    exact hmin _ (List.getElem_mem hk) (hmem _ (List.getElem_mem hk))
  · rw [e k hk, e _ hm]
    by_cases hk2 : k + 1 < (orb (nextD p) (dartsD p) d).length
    · have : (k + 1) % (orb (nextD p) (dartsD p) d).length = k + 1 := Nat.mod_eq_of_lt hk2
      rw [this]; rfl
    · have hkn : k + 1 = (orb (nextD p) (dartsD p) d).length := by omega
      have : (k + 1) % (orb (nextD p) (dartsD p) d).length = 0 := by rw [hkn, Nat.mod_self]
      rw [this]
      show pw (nextD p) d (k + 1) = d
      rw [hkn, o6, o3]
theorem Valid.cyc_len : (cyclesD p).flatten.length = 2 * p.arcs.length := by
  rw [h.cyc_perm.length_eq]
  unfold dartsD
  simp only [List.length_append, List.length_reverse, List.length_map]
  omega
theorem Valid.cyc_count {d : Int} (hd : d ∈ dartsD p) : (cyclesD p).flatten.count d = 1 := by
  rw [h.cyc_perm.count_eq d]
  exact nodup_count h.darts_nodup hd
end
end Go.Proofs.YtoclnkfeblfpbaaGreat
