/- mapsheetsref15.cycle. -/
import Derived.Test.YtoclnkfeblfpbaaGreatRefD15
set_option linter.unusedSimpArgs false
set_option linter.unusedVariables false
namespace Go.Proofs.YtoclnkfeblfpbaaGreat
open Go.RowKit

set_option maxRecDepth 100000 in
set_option maxHeartbeats 8000000 in
theorem cycle15_spec (f : Int → Int) (D : List Int) (hD : ∀ x ∈ D, f x ∈ D) (hi : ∀ x ∈ D, ∀ y ∈ D, f x = f y → x = y) (l : List (Int × Int)) (hpr : ∀ x ∈ l, x.2 = f x.1) (hmem : ∀ d ∈ D, d ∈ l.map (·.1)) (hlen : l.length = D.length) (hl : D.length ≤ 100000) (u v : Value) (d : Int) (hd : d ∈ D) (w : World) (hu : Ints w u (l.map (·.1))) (hv : Ints w v (l.map (·.2))) :
    Calls Tryz.prog 39 #[u, v, .int .i64 d] w (RetOwnI w (orb f D d)) := by
  obtain ⟨o1, -, o3, o4, o5, o6⟩ := orb_facts hD hi hd
  have oN : orbN f D d ≤ D.length := by
    have := nodup_le o5 (fun y hy => orb_mem hD hd hy)
    rwa [o6] at this
  obtain ⟨A1, c1, rfl, hn1, hc1, hR1⟩ := hu
  obtain ⟨A2, c2, rfl, hn2, hc2, hR2⟩ := hv
  rw [List.length_map] at hn1 hn2 ⊢
  rw [List.length_map]
  unfold maxLen at hc1 hc2
  have HR1 := Lib.hid hR1; have HR2 := Lib.hid hR2; have HPr := Lib.hid hpr
  have HMem := Lib.hid (fun j => hmem _ (pw_mem (f := f) hD hd j))
  obtain ⟨q, hq⟩ : ∃ q, orb f D d = q := ⟨_, rfl⟩
  rw [hq] at o6 ⊢
  have HIt := Lib.hid (show iter f d (orbN f D d) = q from hq)
  have HLq := Lib.hid o6; have H3 := Lib.hid o3; have H4 := Lib.hid o4
  clear hR1 hR2 hpr hmem hq o6 o3 o4 o5 hD hi hd
  rw [← hlen] at oN hl
  clear hlen
  generalize orbN f D d = N at *
  go_enter Tryz.func39, Tryz.ntmps39
  go_upto_block 0 with fail
  have HO0 := Lib.hid (Own.lit w w.heap.size 3 1 inC [d] #[.int .i64 d] 1 w.heap.size rfl rfl (Nat.le_refl _) (le_maxLen (by omega)) rfl rfl)
  go_wp2_with fail
  go_loopw [7] (fun s wr => ∃ j : Nat, j + 1 ≤ N ∧ (∃ A c, s = .slice A (j + 1) c) ∧ Own wr w.heap.size 3 1 inC s (iter f d (j + 1)) ∧ Below w.heap.size w wr) (fun s _ => N - lenV s)
  case atStart => exact ⟨0, by omega, ⟨_, _, rfl⟩, HO0.out, bA (bR w) _⟩
  case round =>
    obtain ⟨j, hj, ⟨A, c, rfl⟩, own, hb⟩ := hrel
    obtain ⟨wo, rfl⟩ : ∃ wo : World, wo = wr := ⟨_, rfl⟩
    have HO := Lib.hid own; have Hb := Lib.hid hb
    clear own hb HO0
    have hjl : (j : Int) + 1 ≤ l.length := by omega
    obtain ⟨y, hy⟩ : ∃ y, pw f d j = y := ⟨_, rfl⟩
    have HY := Lib.hid hy
    clear hy
    go_upto_block 2 with fail
    go_wp2_with fail
    go_loopw [8, 9] (fun t i wr => ∃ (k : Nat) (x : Int), k ≤ l.length ∧ i = .int .i64 k ∧ t = .int .i64 x ∧ Below wo.heap.size wo wr ∧ (x = f y ∨ ∀ m (hm : m < l.length), m < k → l[m].1 ≠ y)) (fun _ i _ => l.length - (intOf i).toNat)
    case atStart => exact ⟨0, 0, Nat.zero_le _, rfl, rfl, bR wo, .inr (fun m _ h => by omega)⟩
    case round =>
      obtain ⟨k, x, hk, rfl, rfl, hb2, hx⟩ := hrel
      have Hb2 := Lib.hid hb2; have HX := Lib.hid hx
      have hz2 := hb2.size
      clear hb2 hx
      by_cases hlt : k < l.length
      · obtain ⟨b1, q1, rfl, hl1, e1⟩ := (HR1.out.mono (bT Hb.out Hb2.out)).int (k := k) (by rw [List.length_map]; exact hlt)
        obtain ⟨b2, q2, rfl, hl2, e2⟩ := (HR2.out.mono (bT Hb.out Hb2.out)).int (k := k) (by rw [List.length_map]; exact hlt)
        obtain ⟨b3, q3, rfl, hl3, e3⟩ := ((HO.out.keep Hb2.out).row_in).int (k := j) (by rw [iter_len]; omega)
        rw [List.getElem_map] at e1 e2
        rw [iter_get, HY.out] at e3
        rw [HPr.out _ (List.getElem_mem hlt)] at e2
        have HS := Lib.hid (show ∀ m (hm : m < l.length), m < k + 1 → m = k ∨ m < k from fun m _ h => by omega)
        have HN := Lib.hid (show (l[k].1 == y) = false → (x = f y ∨ ∀ m (hm : m < l.length), m < k + 1 → l[m].1 ≠ y) from fun he => by
          rcases HX.out with h | h
          · exact .inl h
          · refine .inr (fun m hm hmk => ?_)
            by_cases e : m = k
            · subst e; simpa using he
            · exact h m hm (by omega))
        clear HS
        generalize l[k].1 = z at *
        have k2 : IntKind.i64.wrap ((j : Int) + 1 - 1) = j := by rw [show (j : Int) + 1 - 1 = j by omega]; exact IntWalk.i64_in _ (by omega)
        have k3 : IntKind.i64.wrap (j : Int) = j := IntWalk.i64_in _ (by omega)
        have k4 : (j : Int) < (j : Int) + 1 := by omega
        have k5 : 0 ≤ (j : Int) := by omega
        have k6 : (j : Int) + 1 - 1 = j := by omega
        have k7 : (k : Int) < l.length := by omega
        go_upto_region 7 with fail
        refine rg_start (Since wr) (.take 0 1 (.take 1 3 (.take 2 7 (.take 3 15 (.take 4 31 (.take 5 63 (.take 6 127 (.take 7 255 (.take 8 511 (.take 9 1023 (.take 10 2047 (.done)))))))))))) (by kernel_rfl) (bD (bR _)) (by kernel_rfl) (by kernel_rfl) (Nat.le_of_ble_eq_true (by kernel_rfl)) ?_
        intro opsR QR Hops HQrg hS
        apply rg_yp (i := 0) Hops rfl hS rfl
        · intro _ hq; clear hq; go_simp; try rfl
        try simp only [Act.put, pu1, pu2, pu3]
        apply rg_yp (i := 1) Hops rfl hS rfl
        · intro _ hq; clear hq; go_simp; try rfl
        try simp only [Act.put, pu1, pu2, pu3]
        apply rg_yp (i := 2) Hops rfl hS rfl
        · intro _ hq; clear hq; go_simp; try rfl
        try simp only [Act.put, pu1, pu2, pu3]
        apply rg_yp (i := 3) Hops rfl hS rfl
        · intro wq hq; obtain ⟨hqc, -⟩ := bcell (show Below wr.heap.size wr wq from hq); clear hq; go_simp; try rfl
        try simp only [Act.put, pu1, pu2, pu3]
        apply rg_yp (i := 4) Hops rfl hS rfl
        · intro _ hq; clear hq; go_simp; try rfl
        try simp only [Act.put, pu1, pu2, pu3]
        apply rg_yp (i := 5) Hops rfl hS rfl
        · intro _ hq; clear hq; go_simp; try rfl
        try simp only [Act.put, pu1, pu2, pu3]
        apply rg_yp (i := 6) Hops rfl hS rfl
        · intro _ hq; clear hq; go_simp; try rfl
        try simp only [Act.put, pu1, pu2, pu3]
        apply rg_yp (i := 7) Hops rfl hS rfl
        · intro _ hq; clear hq; go_simp; try rfl
        try simp only [Act.put, pu1, pu2, pu3]
        apply rg_yp (i := 8) Hops rfl hS rfl
        · intro _ hq; clear hq; go_simp; try rfl
        try simp only [Act.put, pu1, pu2, pu3]
        apply rg_yp (i := 9) Hops rfl hS rfl
        · intro wq hq; obtain ⟨hqc, -⟩ := bcell (show Below wr.heap.size wr wq from hq); clear hq; go_simp; try rfl
        try simp only [Act.put, pu1, pu2, pu3]
        apply rg_yp (i := 10) Hops rfl hS rfl
        · intro _ hq; clear hq; go_simp; try rfl
        try simp only [Act.put, pu1, pu2, pu3]
        refine rg_done ?_
        refine HQrg.down _ _ ?_
        have hB : Below wr.heap.size wr wr.drew := hS
        clear hS HQrg Hops
        obtain ⟨W7, hW⟩ : ∃ W : World, W = wr.drew := ⟨_, rfl⟩
        rw [← hW] at hB ⊢
        have HB7 := Lib.hid (bT Hb2.out hB)
        replace e2 := keepc hB e2
        have hl24 : b2 < W7.heap.size := by have := hB.size; omega
        clear hW hB k2 k3 k4 k5 k6 e1 e3
        cases hz : (z == y)
        · have HN2 := Lib.hid (HN.out hz)
          clear HN
          go_wp2_with fail
          go_roundw
          case rel => exact ⟨k + 1, x, by omega, by go_num, rfl, HB7.out, HN2.out⟩
          case measure => simp [intOf]; omega
        · have hzy : z = y := by simpa using hz
          rw [hzy] at e2
          clear HN hzy
          go_wp2_with fail
          go_roundw
          case rel => exact ⟨k + 1, f y, by omega, by go_num, rfl, HB7.out, .inl rfl⟩
          case measure => simp [intOf]; omega
      · have hxe : x = f y := by
          rcases HX.out with h | h
          · exact h
          · exfalso
            obtain ⟨a, ha, e⟩ := List.mem_map.1 (HMem.out j)
            obtain ⟨m, hm, rfl⟩ := List.mem_iff_getElem.1 ha
            rw [HY.out] at e
            exact h m hm (by omega) e
        have hyn : f y = pw f d (j + 1) := by rw [← HY.out]; rfl
        rw [hyn] at hxe
        subst hxe
        have HO2 := Lib.hid (HO.out.keep Hb2.out)
        have hsn : iter f d (j + 1 + 1) = iter f d (j + 1) ++ [pw f d (j + 1)] := iter_snoc _ _ _
        have HSn := Lib.hid hsn
        clear hyn hsn
        have Hb3 := Lib.hid (bT Hb.out Hb2.out)
        have hjN : pw f d (j + 1) = d → j + 1 = N := fun e => by
          rcases Nat.lt_or_ge (j + 1) N with h | h
          · exact absurd e (H4.out _ (by omega) h)
          · omega
        have hjN2 : pw f d (j + 1) ≠ d → j + 1 < N := fun e => by
          rcases Nat.lt_or_ge (j + 1) N with h | h
          · exact h
          · have : j + 1 = N := by omega
            rw [this, H3.out] at e; exact absurd rfl e
        have HJ := Lib.hid hjN; have HJ2 := Lib.hid hjN2
        clear hjN hjN2
        generalize pw f d (j + 1) = x at *
        cases hxd : (x == d)
        · have hlt2 := HJ2.out (by simpa using hxd)
          go_wp2_with
            (at_builtin
             refine wpList_appl _ rfl (.tmp 42) (.tmp 44) _ rfl (base := w.heap.size) elem_in inC_len inC_one rfl (Own.alloc HO2.out _) rfl (l2 := [x]) (Sl.lit (n := 1) (Blk.made rfl _ _) rfl (le_maxLen (by omega))) (by simp only [iter_len, List.length_cons, List.length_nil]; omega) (by simp only [iter_len, List.length_cons, List.length_nil]; omega) (by have := Hb3.out.size; simp; omega) ?_
             intro v5 w5 ho5 hg5 hat5
             rw [← HSn.out] at ho5
             obtain ⟨A5, c5, hv5, -⟩ := Own.shape_ ho5
             rw [iter_len] at hv5
             subst hv5
             have HO5 := Lib.hid ho5
             have HB5 := Lib.hid (bG (bA Hb3.out _) hg5 (fun g hg => (HO2.out.lt g hg).1))
             clear ho5 hg5 hat5)
          go_roundw
          case rel => exact ⟨j + 1, by omega, ⟨A5, c5, rfl⟩, HO5.out, HB5.out⟩
          case measure => simp only [lenV]; omega
        · have hjn := HJ.out (by simpa using hxd)
          have ho := HO2.out
          subst hjn
          rw [HIt.out] at ho
          have HOq := Lib.hid ho
          clear ho
          go_wp2_with fail
          go_ret
          exact ⟨A, c, by rw [HLq.out]; rfl, Hb3.out, by rw [HLq.out]; exact HOq.out⟩
end Go.Proofs.YtoclnkfeblfpbaaGreat
