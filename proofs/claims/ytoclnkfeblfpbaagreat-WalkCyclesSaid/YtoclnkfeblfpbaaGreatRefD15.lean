/- mapsheetsref15.followers. -/
import Derived.Test.YtoclnkfeblfpbaaGreatPFlw
import Derived.Test.YtoclnkfeblfpbaaGreatArd15
set_option linter.unusedSimpArgs false
set_option linter.unusedVariables false
namespace Go.Proofs.YtoclnkfeblfpbaaGreat
open Go.RowKit

/-- the darts, and the dart that follows each -/
def RetFlw (w : World) (l : List (Int × Int)) (e : Ending) (w' : World) : Prop :=
  ∃ A c A' c', e = .returned (.tuple #[.slice A l.length c, .slice A' l.length c']) ∧ Below w.heap.size w w' ∧ Own w' w.heap.size 3 1 inC (.slice A l.length c) (l.map (·.1)) ∧ Own w' w.heap.size 3 1 inC (.slice A' l.length c') (l.map (·.2))
def SepV (u v : Value) : Prop := ∀ g, u.ownBlock = some g → v.ownBlock ≠ some g

set_option maxRecDepth 100000 in
set_option maxHeartbeats 8000000 in
theorem followers_spec (v : Value) (p : Pl) (w : World) (h : PlV w v p) (hv : Valid p) :
    Calls Tryz.prog 36 #[v] w (RetFlw w (prL p p.nodes.length)) := by
  have HAr := Lib.hid (fun n W (hW : Below w.heap.size w W) => Around15_spec v p n W (h.mono hW) hv)
  obtain ⟨_, _, _, al, rfl, hpa, ⟨An, cn, rfl, hn1, hn2, hR⟩, ⟨⟨Aa, ca, rfl, -⟩, -⟩, ⟨Af, cf, rfl, -⟩⟩ := h
  unfold maxLen at hn2
  have HR := Lib.hid hR; have HV := Lib.hid hv
  have hnl := hv.nodes_len
  generalize al.length = na at *
  generalize p.faces.length = nf at *
  obtain ⟨nn, hnn⟩ : ∃ nn, p.nodes.length = nn := ⟨_, rfl⟩
  rw [hnn] at hn1 hnl HAr ⊢
  have HNN := Lib.hid hnn
  obtain ⟨q, hq⟩ : ∃ q, prL p nn = q := ⟨_, rfl⟩
  rw [hq]
  have Hq := Lib.hid hq
  clear hpa hR hv hnn hq
  go_enter Tryz.func36, Tryz.ntmps36
  go_upto_region 1 with fail
  obtain ⟨W1, hW⟩ : ∃ W : World, W = w.alloc (.cells #[.slice An nn cn, .slice Aa na ca, .slice Af nf cf] 26) := ⟨_, rfl⟩
  have B1 := Lib.hid (show Below w.heap.size w W1 by rw [hW]; exact bA (bR w) _)
  have X1 : Blk W1 w.heap.size 26 #[.slice An nn cn, .slice Aa na ca, .slice Af nf cf] := by rw [hW]; exact Blk.made rfl _ _
  rw [← hW]
  clear hW
  have HX1 := Lib.hid X1
  try clear X1l
  try clear X1a
  try clear X1b
  try clear X1c
  try clear X1fa
  try clear X1fb
  try clear X1fc
  obtain ⟨X1l, X1a, X1b, X1c, -, -, -⟩ := X1.facts3
  go_upto_block 0 with fail
  go_wp2_with fail
  go_loopw [4, 5, 6] (fun s t i wr => ∃ k : Nat, k ≤ nn ∧ i = .int .i64 k ∧ (∃ A c, s = .slice A (prL p k).length c) ∧ (∃ A c, t = .slice A (prL p k).length c) ∧ Own wr W1.heap.size 3 1 inC s ((prL p k).map (·.1)) ∧ Own wr W1.heap.size 3 1 inC t ((prL p k).map (·.2)) ∧ SepV s t ∧ Below W1.heap.size W1 wr) (fun _ _ i _ => nn - (intOf i).toNat)
  case atStart => exact ⟨0, Nat.zero_le _, rfl, ⟨none, 0, rfl⟩, ⟨none, 0, rfl⟩, Own.nil _ _ _ _ _, Own.nil _ _ _ _ _, (fun g hg => by simp [Value.ownBlock] at hg), bR W1⟩
  case round =>
    obtain ⟨k, hk, rfl, ⟨A, c, rfl⟩, ⟨A', c', rfl⟩, own, own', sep, hb⟩ := hrel
    obtain ⟨wo, rfl⟩ : ∃ wo : World, wo = wr := ⟨_, rfl⟩
    have hlk := aroundL_len HV.out k
    rw [← prL_len] at hlk
    have HO := Lib.hid own; have HO' := Lib.hid own'; have HSp := Lib.hid sep; have Hb := Lib.hid hb
    have hzo := hb.size
    have X2 := HX1.out.keep hb
    clear own own' sep hb X1 X1l X1a X1b X1c
    by_cases hlt : k < nn
    · have hkn : k < p.nodes.length := by have := HNN.out; omega
      obtain ⟨b, o, rfl, hlb, c0, c1, c2⟩ := (HR.out.mono (bT B1.out Hb.out)).nd hkn
      have hsuc := prL_succ p k hkn
      have hql := HV.out.around_len p.nodes[k].id
      have HBd := Lib.hid (fun d (hd : d ∈ aroundD p p.nodes[k].id) => HV.out.dart_bd (HV.out.next_around (List.getElem_mem hkn) hd).2)
      have HAn := Lib.hid (HAr.out p.nodes[k].id)
      generalize p.nodes[k] = nd at *
      have HSuc := Lib.hid hsuc
      clear hsuc
      obtain ⟨L, hL⟩ : ∃ L, prL p k = L := ⟨_, rfl⟩
      obtain ⟨Q, hQ⟩ : ∃ Q, aroundD p nd.id = Q := ⟨_, rfl⟩
      rw [hL] at hlk HSuc HO HO' HSp ⊢
      rw [hQ] at HSuc hql HAn HBd
      clear hL hQ
      try clear X2l
      try clear X2a
      try clear X2b
      try clear X2c
      try clear X2fa
      try clear X2fb
      try clear X2fc
      obtain ⟨X2l, X2a, X2b, X2c, -, -, -⟩ := X2.facts3
      go_upto_region 5 with fail
      refine rg_start (Since wo) (.take 0 1 (.take 1 3 (.take 2 7 (.take 3 15 (.take 4 31 (.take 5 63 (.take 6 127 (.call 7 255 (.take 8 511 (.done)))))))))) (by kernel_rfl) (bD (bR _)) (by kernel_rfl) (by kernel_rfl) (Nat.le_of_ble_eq_true (by kernel_rfl)) ?_
      intro opsR QR Hops HQrg hS
      apply rg_yp (i := 0) Hops rfl hS rfl
      · intro wq hq; obtain ⟨hqc, -⟩ := bcell (show Below wo.heap.size wo wq from hq); clear hq; go_simp; try rfl
      try simp only [Act.put, pu1, pu2, pu3]
      apply rg_yp (i := 1) Hops rfl hS rfl
      · intro _ hq; clear hq; go_simp; try rfl
      try simp only [Act.put, pu1, pu2, pu3]
      apply rg_yp (i := 2) Hops rfl hS rfl
      · intro wq hq; obtain ⟨hqc, -⟩ := bcell (show Below wo.heap.size wo wq from hq); clear hq; go_simp; try rfl
      try simp only [Act.put, pu1, pu2, pu3]
      apply rg_yp (i := 3) Hops rfl hS rfl
      · intro _ hq; clear hq; go_simp; try rfl
      try simp only [Act.put, pu1, pu2, pu3]
      apply rg_yp (i := 4) Hops rfl hS rfl
      · intro _ hq; clear hq; go_simp; try rfl
      try simp only [Act.put, pu1, pu2, pu3]
      apply rg_yp (i := 5) Hops rfl hS rfl
      · intro _ hq; clear hq; go_simp; try rfl
      try simp only [Act.put, pu1, pu2, pu3]
      apply rg_yp (i := 6) Hops rfl hS rfl
      · intro wq hq; obtain ⟨hqc, -⟩ := bcell (show Below wo.heap.size wo wq from hq); clear hq; go_simp; try rfl
      try simp only [Act.put, pu1, pu2, pu3]
      refine rg_call (i := 7) (get_of Hops rfl) (fun K hK => ?_)
      have HSrg := Lib.hid hS; clear hS
      refine rg_run (wanted_plain rfl) ?_
      go_simp
      refine (HAn.out _ (bT B1.out (bT Hb.out (bD (bR wo))))).mono ?_
      rintro e wr1 ⟨Aq, cq, rfl, hbr1, hoq⟩
      have hS : Since wo wr1 := bT (w := wo) HSrg.out hbr1
      clear HSrg
      refine hK.out _ _ hS (fun _ => ?_)
      clear hK K
      try simp only [Act.put, pu1, pu2, pu3]
      apply rg_yp (i := 8) Hops rfl hS rfl
      · intro _ hq; clear hq; go_simp; try rfl
      try simp only [Act.put, pu1, pu2, pu3]
      refine rg_done ?_
      refine HQrg.down _ _ ?_
      have hB : Below wo.heap.size wo wr1 := hS
      clear hS HQrg Hops
      obtain ⟨W5, hW5⟩ : ∃ W : World, W = wr1 := ⟨_, rfl⟩
      rw [← hW5] at hB hoq ⊢
      have HB5 := Lib.hid hB
      have HQ5 := Lib.hid (Own.mono_base hoq (b' := wo.heap.size) (by simp))
      have HS5 := Lib.hid (show SepV (.slice A L.length c) (.slice Aq Q.length cq) from fun g hg e => by
        have h1 := (HO.out.lt g hg).2
        have h2 := (HQ5.out.lt g e).1
        omega)
      have HS5' := Lib.hid (show SepV (.slice A' L.length c') (.slice Aq Q.length cq) from fun g hg e => by
        have h1 := (HO'.out.lt g hg).2
        have h2 := (HQ5.out.lt g e).1
        omega)
      have hz5 := HB5.out.size
      clear hB hoq hbr1 hW5 c0 c1 c2 hlb X2 X2l X2a X2b X2c HAn
      go_upto_block 2 with fail
      go_wp2_with fail
      go_loopw [4, 5, 8] (fun s t i wr => ∃ j : Nat, j ≤ Q.length ∧ i = .int .i64 j ∧ (∃ A c, s = .slice A (L.length + j) c) ∧ (∃ A c, t = .slice A (L.length + j) c) ∧ Own wr W1.heap.size 3 1 inC s ((L ++ (prN Q).take j).map (·.1)) ∧ Own wr W1.heap.size 3 1 inC t ((L ++ (prN Q).take j).map (·.2)) ∧ SepV s t ∧ SepV s (.slice Aq Q.length cq) ∧ SepV t (.slice Aq Q.length cq) ∧ Own wr wo.heap.size 3 1 inC (.slice Aq Q.length cq) Q ∧ Below W1.heap.size W1 wr ∧ W5.heap.size ≤ wr.heap.size) (fun _ _ i _ => Q.length - (intOf i).toNat)
      case atStart => exact ⟨0, Nat.zero_le _, rfl, ⟨A, c, rfl⟩, ⟨A', c', rfl⟩, by rw [List.take_zero, List.append_nil]; exact HO.out.keep HB5.out, by rw [List.take_zero, List.append_nil]; exact HO'.out.keep HB5.out, HSp.out, HS5.out, HS5'.out, HQ5.out, bT Hb.out HB5.out, Nat.le_refl _⟩
      case round =>
        obtain ⟨j, hj, rfl, ⟨A3, c3, rfl⟩, ⟨A4, c4, rfl⟩, own3, own4, s34, s3q, s4q, oq, hb3, hz3⟩ := hrel
        have HO3 := Lib.hid own3; have HO4 := Lib.hid own4; have H34 := Lib.hid s34; have H3q := Lib.hid s3q; have H4q := Lib.hid s4q; have HQ := Lib.hid oq; have HB3 := Lib.hid hb3
        clear own3 own4 s34 s3q s4q oq hb3
        by_cases hlj : j < Q.length
        · have hm : (j + 1) % Q.length < Q.length := Nat.mod_lt _ (by omega)
          have htk := prN_succ Q j hlj hm
          have f1 := (HQ.out.row_in).int hlj
          have f2 := (HQ.out.row_in).int hm
          obtain ⟨bq, oq', rfl, hlbq, e1⟩ := f1
          obtain ⟨b_, o_, he_, -, e2⟩ := f2
          simp only [Option.some.injEq, Addr.mk.injEq, and_true] at he_
          obtain ⟨rfl, rfl⟩ := he_
          have htm : Int.tmod ((j : Int) + 1) (Q.length : Int) = ((j + 1) % Q.length : Nat) := by
            rw [Int.tmod_eq_emod_of_nonneg (by omega), show (j : Int) + 1 = ((j + 1 : Nat) : Int) by omega]
            exact (Int.natCast_emod _ _).symm
          have hbd : -1073741824 ≤ Q[(j + 1) % Q.length] ∧ Q[(j + 1) % Q.length] ≤ 1073741824 := HBd.out _ (List.getElem_mem hm)
          have HTk := Lib.hid htk
          obtain ⟨f, hf⟩ : ∃ f, Q[j] = f := ⟨_, rfl⟩
          rw [hf] at HTk
          have HF := Lib.hid hf
          clear htk hf e1
          generalize Q[(j + 1) % Q.length] = d at *
          generalize (j + 1) % Q.length = m at *
          have HLn := Lib.hid (show (L ++ (prN Q).take (j + 1)).length = L.length + (j + 1) by rw [List.length_append, List.length_take, prN_len]; omega)
          have HLj := Lib.hid (show (L ++ (prN Q).take j).length = L.length + j by rw [List.length_append, List.length_take, prN_len]; omega)
          have k1 : IntKind.i64.wrap (-d) = -d := IntWalk.i64_in _ (by omega)
          have g1 : IntKind.i64.wrap ((j : Int) + 1) = (j : Int) + 1 := IntWalk.i64_in _ (by omega)
          have g3 : ¬ (Q.length : Int) = 0 := by omega
          have g11 : ¬ Q = [] := fun e => by have := congrArg List.length e; simp only [List.length_nil] at this; omega
          have g4 : IntKind.i64.wrap (m : Int) = m := IntWalk.i64_in _ (by omega)
          have g5 : (m : Int) < Q.length := by omega
          have g6 : 0 ≤ (m : Int) := by omega
          go_upto_region 10 with
            (at_builtin
             refine wpList_appl _ rfl (.tmp 30) (.tmp 40) _ rfl (base := W1.heap.size) elem_in inC_len inC_one rfl (Own.alloc HO3.out _) rfl (l2 := [-d]) (Sl.lit (n := 1) (Blk.made rfl _ _) rfl (le_maxLen (by omega))) (by have := HLj.out; simp only [List.length_map, List.length_cons, List.length_nil]; omega) (by have := HLj.out; simp only [List.length_map, List.length_cons, List.length_nil]; omega) (by have := HB3.out.size; simp; omega) ?_
             intro v5 w5 ho5 hg5 hat5
             rw [show (L ++ (prN Q).take j).map (·.1) ++ [-d] = (L ++ (prN Q).take (j + 1)).map (·.1) by rw [HTk.out]; simp only [List.map_append, List.map_cons, List.map_nil, List.append_assoc]] at ho5
             obtain ⟨A5, c5, hv5, -⟩ := Own.shape_ ho5
             rw [List.length_map, HLn.out] at hv5
             subst hv5
             have HO5 := Lib.hid ho5
             have HQ5' := Lib.hid (Own.grown (Own.alloc HQ.out _) hg5 (fun g hg e => H3q.out g e.symm hg))
             have HO45 := Lib.hid (Own.grown (Own.alloc HO4.out _) hg5 (fun g hg e => H34.out g e.symm hg))
             have hat5' : ∀ g, (Value.slice A5 (L.length + (j + 1)) c5).ownBlock = some g → (Value.slice A3 (L.length + j) c3).ownBlock = some g ∨ g = wr.heap.size + 1 := fun g hg => by
               rcases hat5 with h | h
               · exact .inl (h.symm.trans hg)
               · rw [hg] at h; have := Option.some.inj h; simp at this; exact .inr this
             have H54 := Lib.hid (show SepV (.slice A5 (L.length + (j + 1)) c5) (.slice A4 (L.length + j) c4) from fun g hg e => by
               rcases hat5' g hg with h | h
               · exact H34.out g h e
               · have := (HO4.out.lt g e).2; omega)
             have H5q := Lib.hid (show SepV (.slice A5 (L.length + (j + 1)) c5) (.slice (some ⟨bq, oq', none⟩) Q.length cq) from fun g hg e => by
               rcases hat5' g hg with h | h
               · exact H3q.out g h e
               · have := (HQ.out.lt g e).2; omega)
             have HB5' := Lib.hid (bG (bA HB3.out _) hg5 (fun g hg => (HO3.out.lt g hg).1))
             have hz5' : wr.heap.size < w5.heap.size := by have := hg5.size; simp at this; omega
             clear ho5 hg5 hat5 hat5'
             )
          clear e2 htm g1 g3 g4 g5 g6 g11 k1 hbd
          obtain ⟨b_, o_, he_, hlb5, e1⟩ := (HQ5'.out.row_in).int hlj
          simp only [Option.some.injEq, Addr.mk.injEq, and_true] at he_
          obtain ⟨rfl, rfl⟩ := he_
          rw [HF.out] at e1
          go_upto_region 8 with
            (at_builtin
             refine wpList_appl _ rfl (.tmp 42) (.tmp 47) _ rfl (base := W1.heap.size) elem_in inC_len inC_one rfl (Own.alloc HO45.out _) rfl (l2 := [f]) (Sl.lit (n := 1) (Blk.made rfl _ _) rfl (le_maxLen (by omega))) (by have := HLj.out; simp only [List.length_map, List.length_cons, List.length_nil]; omega) (by have := HLj.out; simp only [List.length_map, List.length_cons, List.length_nil]; omega) (by have := HB5'.out.size; simp; omega) ?_
             intro v6 w6 ho6 hg6 hat6
             rw [show (L ++ (prN Q).take j).map (·.2) ++ [f] = (L ++ (prN Q).take (j + 1)).map (·.2) by rw [HTk.out]; simp only [List.map_append, List.map_cons, List.map_nil, List.append_assoc]] at ho6
             obtain ⟨A6, c6, hv6, -⟩ := Own.shape_ ho6
             rw [List.length_map, HLn.out] at hv6
             subst hv6
             have HO6 := Lib.hid ho6
             have HQ6 := Lib.hid (Own.grown (Own.alloc HQ5'.out _) hg6 (fun g hg e => H4q.out g e.symm hg))
             have HO56 := Lib.hid (Own.grown (Own.alloc HO5.out _) hg6 (fun g hg e => H54.out g hg e.symm))
             have hat6' : ∀ g, (Value.slice A6 (L.length + (j + 1)) c6).ownBlock = some g → (Value.slice A4 (L.length + j) c4).ownBlock = some g ∨ g = w5.heap.size + 1 := fun g hg => by
               rcases hat6 with h | h
               · exact .inl (h.symm.trans hg)
               · rw [hg] at h; have := Option.some.inj h; simp at this; exact .inr this
             have H56 := Lib.hid (show SepV (.slice A5 (L.length + (j + 1)) c5) (.slice A6 (L.length + (j + 1)) c6) from fun g hg e => by
               rcases hat6' g e with h | h
               · exact H54.out g hg h
               · have := (HO5.out.lt g hg).2; omega)
             have H6q := Lib.hid (show SepV (.slice A6 (L.length + (j + 1)) c6) (.slice (some ⟨bq, oq', none⟩) Q.length cq) from fun g hg e => by
               rcases hat6' g hg with h | h
               · exact H4q.out g h e
               · have := (HQ5'.out.lt g e).2; omega)
             have HB6 := Lib.hid (bG (bA HB5'.out _) hg6 (fun g hg => (HO45.out.lt g hg).1))
             have hz6 : w5.heap.size < w6.heap.size := by have := hg6.size; simp at this; omega
             clear ho6 hg6 hat6 hat6'
             )
          clear e1 hlb5
          go_wp2_with fail
          go_roundw
          case rel => exact ⟨j + 1, by omega, by go_num, ⟨A5, c5, rfl⟩, ⟨A6, c6, rfl⟩, HO56.out, HO6.out, H56.out, H5q.out, H6q.out, HQ6.out, HB6.out, by omega⟩
          case measure => simp [intOf]; omega
        · obtain rfl : j = Q.length := by omega
          have ho3 := HO3.out
          have ho4 := HO4.out
          rw [prN_all] at ho3 ho4
          have HLs := Lib.hid (show (prL p (k + 1)).length = L.length + Q.length by rw [HSuc.out, List.length_append, prN_len])
          have HO3' := Lib.hid ho3; have HO4' := Lib.hid ho4
          clear ho3 ho4
          go_wp2_with fail
          go_roundw
          case rel => exact ⟨k + 1, by omega, by go_num, ⟨A3, c3, by rw [HLs.out]⟩, ⟨A4, c4, by rw [HLs.out]⟩, by rw [HSuc.out]; exact HO3'.out, by rw [HSuc.out]; exact HO4'.out, H34.out, HB3.out⟩
          case measure => simp [intOf]; omega
    · obtain rfl : k = nn := by omega
      rw [Hq.out] at HO HO' ⊢
      try clear X2l
      try clear X2a
      try clear X2b
      try clear X2c
      try clear X2fa
      try clear X2fb
      try clear X2fc
      obtain ⟨X2l, X2a, X2b, X2c, -, -, -⟩ := X2.facts3
      go_wp2_with fail
      go_ret2
      exact ⟨A, c, A', c', rfl, bT B1.out Hb.out, HO.out.mono_base B1.out.size, HO'.out.mono_base B1.out.size⟩
end Go.Proofs.YtoclnkfeblfpbaaGreat
