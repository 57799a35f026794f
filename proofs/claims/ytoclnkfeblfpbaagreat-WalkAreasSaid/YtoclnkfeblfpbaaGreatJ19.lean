/- mapsheetsref15.cycle. mapsheetslaw15.count. mapsheetsref15.Cycles. -/
import Derived.Test.YtoclnkfeblfpbaaGreatJ18
import Derived.Test.YtoclnkfeblfpbaaGreatJ15
import Derived.Test.YtoclnkfeblfpbaaGreatJ17
import Derived.Test.YtoclnkfeblfpbaaGreatJ14
set_option linter.unusedSimpArgs false
set_option linter.unusedVariables false
namespace Go.Proofs.YtoclnkfeblfpbaaGreat
open Go.RowKit

set_option maxRecDepth 100000 in
set_option maxHeartbeats 8000000 in
theorem cycle15_spec (f : Int → Int) (D : List Int) (hD : ∀ x ∈ D, f x ∈ D) (hi : ∀ x ∈ D, ∀ y ∈ D, f x = f y → x = y) (l : List (Int × Int)) (hpr : ∀ x ∈ l, x.2 = f x.1) (hmem : ∀ d ∈ D, d ∈ l.map (·.1)) (hlen : l.length = D.length) (hl : D.length ≤ 100000) (u v : Value) (d : Int) (hd : d ∈ D) (w : World) (hu : Ints w u (l.map (·.1))) (hv : Ints w v (l.map (·.2))) :
  Calls Tryz.prog 39 #[u, v, .int .i64 d] w (RetOwnI w (orb f D d)) := by
 obtain ⟨o1, -, o3, o4, o5, o6⟩ := orb_facts hD hi hd
 have oN : orbN f D d ≤ D.length := by
  have := nodup_le o5 (fun y hy => orb_mem hD hd hy)
  rwa [o6] at this
 obtain ⟨A1, c1, rfl, hn1, hc1, hR1⟩ := hu
 obtain ⟨A2, c2, rfl, hn2, hc2, hR2⟩ := hv
 rw [List.length_map] at hn1 hn2 ⊢
 rw [List.length_map]
 unfold maxLen at hc1 hc2
 have HR1 := Lib.hid hR1; have HR2 := Lib.hid hR2; have HPr := Lib.hid hpr
 have HMem := Lib.hid (fun j => hmem _ (pw_mem (f := f) hD hd j))
 obtain ⟨q, hq⟩ : ∃ q, orb f D d = q := ⟨_, rfl⟩
 rw [hq] at o6 ⊢
 have HIt := Lib.hid (show iter f d (orbN f D d) = q from hq)
 have HLq := Lib.hid o6; have H3 := Lib.hid o3; have H4 := Lib.hid o4
 clear hR1 hR2 hpr hmem hq o6 o3 o4 o5 hD hi hd
 rw [← hlen] at oN hl
 clear hlen
 generalize orbN f D d = N at *
 go_enter Tryz.func39, Tryz.ntmps39
 go_upto_block 0 with fail
 have HO0 := Lib.hid (Own.lit w w.heap.size 3 1 inC [d] #[.int .i64 d] 1 w.heap.size rfl rfl (Nat.le_refl _) (le_maxLen (by omega)) rfl rfl)
 go_wp2_with fail
 go_loopw [7] (fun s wr => ∃ j : Nat, j + 1 ≤ N ∧ (∃ A c, s = .slice A (j + 1) c) ∧ Own wr w.heap.size 3 1 inC s (iter f d (j + 1)) ∧ Below w.heap.size w wr) (fun s _ => N - lenV s)
 case atStart => exact ⟨0, by omega, ⟨_, _, rfl⟩, HO0.out, bA (bR w) _⟩
 case round =>
  obtain ⟨j, hj, ⟨A, c, rfl⟩, own, hb⟩ := hrel
  obtain ⟨wo, rfl⟩ : ∃ wo : World, wo = wr := ⟨_, rfl⟩
  have HO := Lib.hid own; have Hb := Lib.hid hb
  clear own hb HO0
  have hjl : (j : Int) + 1 ≤ l.length := by omega
  obtain ⟨y, hy⟩ : ∃ y, pw f d j = y := ⟨_, rfl⟩
  have HY := Lib.hid hy
  clear hy
  go_upto_block 2 with fail
  go_wp2_with fail
  go_loopw [8, 9] (fun t i wr => ∃ (k : Nat) (x : Int), k ≤ l.length ∧ i = .int .i64 k ∧ t = .int .i64 x ∧ Below wo.heap.size wo wr ∧ (x = f y ∨ ∀ m (hm : m < l.length), m < k → l[m].1 ≠ y)) (fun _ i _ => l.length - (intOf i).toNat)
  case atStart => exact ⟨0, 0, Nat.zero_le _, rfl, rfl, bR wo, .inr (fun m _ h => by omega)⟩
  case round =>
   obtain ⟨k, x, hk, rfl, rfl, hb2, hx⟩ := hrel
   have Hb2 := Lib.hid hb2; have HX := Lib.hid hx
   have hz2 := hb2.size
   clear hb2 hx
   by_cases hlt : k < l.length
   ·
    obtain ⟨b1, q1, rfl, hl1, e1⟩ := (HR1.out.mono (bT Hb.out Hb2.out)).int (k := k) (by rw [List.length_map]; exact hlt)
    obtain ⟨b2, q2, rfl, hl2, e2⟩ := (HR2.out.mono (bT Hb.out Hb2.out)).int (k := k) (by rw [List.length_map]; exact hlt)
    obtain ⟨b3, q3, rfl, hl3, e3⟩ := ((HO.out.keep Hb2.out).row_in).int (k := j) (by rw [iter_len]; omega)
    rw [List.getElem_map] at e1 e2
    rw [iter_get, HY.out] at e3
    rw [HPr.out _ (List.getElem_mem hlt)] at e2
    have HS := Lib.hid (show ∀ m (hm : m < l.length), m < k + 1 → m = k ∨ m < k from fun m _ h => by omega)
    have HN := Lib.hid (show (l[k].1 == y) = false → (x = f y ∨ ∀ m (hm : m < l.length), m < k + 1 → l[m].1 ≠ y) from fun he => by
     rcases HX.out with h | h
     · exact .inl h
     ·
      refine .inr (fun m hm hmk => ?_)
      by_cases e : m = k
      · subst e; simpa using he
      · exact h m hm (by omega))
    clear HS
    generalize l[k].1 = z at *
    have k2 : IntKind.i64.wrap ((j : Int) + 1 - 1) = j := by rw [show (j : Int) + 1 - 1 = j by omega]; exact IntWalk.i64_in _ (by omega)
    have k3 : IntKind.i64.wrap (j : Int) = j := IntWalk.i64_in _ (by omega)
    have k4 : (j : Int) < (j : Int) + 1 := by omega
    have k5 : 0 ≤ (j : Int) := by omega
    have k6 : (j : Int) + 1 - 1 = j := by omega
    have k7 : (k : Int) < l.length := by omega
    go_upto_region 7 with fail
    refine rg_start (Since wr) (.run 11 0 0 (.done)) (by kernel_rfl) (bD (bR _)) (by kernel_rfl) (by kernel_rfl) (Nat.le_of_ble_eq_true (by kernel_rfl)) ?_
    intro opsR QR Hops HQrg hS
    iterate 11
     apply rg_p; exact Hops; exact rfl; exact hS; exact rfl
     · intro _ hqc; go_simp; try rfl
     try simp only [pu]
    refine rg_done ?_
    refine HQrg.down _ _ ?_
    have hB : Below wr.heap.size wr wr.drew := hS
    clear hS HQrg Hops
    obtain ⟨W7, hW⟩ : ∃ W : World, W = wr.drew := ⟨_, rfl⟩
    rw [← hW] at hB ⊢
    have HB7 := Lib.hid (bT Hb2.out hB)
    replace e2 := keepc hB e2
    have hl24 : b2 < W7.heap.size := by have := hB.size; omega
    clear hW hB k2 k3 k4 k5 k6 e1 e3
    cases hz : (z == y)
    ·
     have HN2 := Lib.hid (HN.out hz)
     clear HN
     go_wp2_with fail
     go_roundw
     case rel => exact ⟨k + 1, x, by omega, by go_num, rfl, HB7.out, HN2.out⟩
     case measure => simp [intOf]; omega
    ·
     have hzy : z = y := by simpa using hz
     rw [hzy] at e2
     clear HN hzy
     go_wp2_with fail
     go_roundw
     case rel => exact ⟨k + 1, f y, by omega, by go_num, rfl, HB7.out, .inl rfl⟩
     case measure => simp [intOf]; omega
   ·
    have hxe : x = f y := by
     rcases HX.out with h | h
     · exact h
     ·
      exfalso
      obtain ⟨a, ha, e⟩ := List.mem_map.1 (HMem.out j)
      obtain ⟨m, hm, rfl⟩ := List.mem_iff_getElem.1 ha
      rw [HY.out] at e
      exact h m hm (by omega) e
    have hyn : f y = pw f d (j + 1) := by rw [← HY.out]; rfl
    rw [hyn] at hxe
    subst hxe
    have HO2 := Lib.hid (HO.out.keep Hb2.out)
    have hsn : iter f d (j + 1 + 1) = iter f d (j + 1) ++ [pw f d (j + 1)] := iter_snoc _ _ _
    have HSn := Lib.hid hsn
    clear hyn hsn
    have Hb3 := Lib.hid (bT Hb.out Hb2.out)
    have hjN : pw f d (j + 1) = d → j + 1 = N := fun e => by
     rcases Nat.lt_or_ge (j + 1) N with h | h
     · exact absurd e (H4.out _ (by omega) h)
     · omega
    have hjN2 : pw f d (j + 1) ≠ d → j + 1 < N := fun e => by
     rcases Nat.lt_or_ge (j + 1) N with h | h
     · exact h
     ·
      have : j + 1 = N := by omega
      rw [this, H3.out] at e; exact absurd rfl e
    have HJ := Lib.hid hjN; have HJ2 := Lib.hid hjN2
    clear hjN hjN2
    generalize pw f d (j + 1) = x at *
    cases hxd : (x == d)
    ·
     have hlt2 := HJ2.out (by simpa using hxd)
     go_wp2_with
      (at_builtin
       refine wpList_appl _ rfl (.tmp 42) (.tmp 44) _ rfl (base := w.heap.size) elem_in inC_len inC_one rfl (Own.alloc HO2.out _) rfl (l2 := [x]) (Sl.lit (n := 1) (Blk.made rfl _ _) rfl (le_maxLen (by omega))) (by simp only [iter_len, List.length_cons, List.length_nil]; omega) (by simp only [iter_len, List.length_cons, List.length_nil]; omega) (by have := Hb3.out.size; simp; omega) ?_
       intro v5 w5 ho5 hg5 hat5
       rw [← HSn.out] at ho5
       obtain ⟨A5, c5, hv5, -⟩ := Own.shape_ ho5
       rw [iter_len] at hv5
       subst hv5
       have HO5 := Lib.hid ho5
       have HB5 := Lib.hid (bG (bA Hb3.out _) hg5 (fun g hg => (HO2.out.lt g hg).1))
       clear ho5 hg5 hat5)
     go_roundw
     case rel => exact ⟨j + 1, by omega, ⟨A5, c5, rfl⟩, HO5.out, HB5.out⟩
     case measure => simp only [lenV]; omega
    ·
     have hjn := HJ.out (by simpa using hxd)
     have ho := HO2.out
     subst hjn
     rw [HIt.out] at ho
     have HOq := Lib.hid ho
     clear ho
     go_wp2_with fail
     go_ret
     exact ⟨A, c, by rw [HLq.out]; rfl, Hb3.out, by rw [HLq.out]; exact HOq.out⟩
end Go.Proofs.YtoclnkfeblfpbaaGreat
namespace Go.Proofs.YtoclnkfeblfpbaaGreat
open Go.RowKit

theorem Ints.slice {w : World} {a : Option Addr} {n c : Nat} {l : List Int} (h : Ints w (.slice a n c) l) : n = l.length ∧ l.length ≤ c ∧ c ≤ maxLen ∧ Row w a (l.flatMap inC) := by
 obtain ⟨A, c', he, h1, h2, h3⟩ := h
 injection he with e1 e2 e3
 subst e1 e2 e3
 exact ⟨rfl, h1, h2, h3⟩
end Go.Proofs.YtoclnkfeblfpbaaGreat
namespace Go.Proofs.YtoclnkfeblfpbaaGreat
open Go.RowKit

theorem any_mem (l : List Int) (x : Int) : (l.any fun y => y == x) = decide (x ∈ l) := by
 rw [Bool.eq_iff_iff, List.any_eq_true, decide_eq_true_iff]
 constructor
 ·
  rintro ⟨y, hy, e⟩
  rw [beq_iff_eq] at e
  exact e ▸ hy
 ·
  intro h
  exact ⟨x, h, by simp⟩

set_option maxRecDepth 100000 in
set_option maxHeartbeats 8000000 in
theorem RCycles_spec (v : Value) (p : Pl) (w : World) (h : PlV w v p) (hv : Valid p) :
  Calls Tryz.prog 16 #[v] w (RetCys w (cyclesD p) 0) := by
 have hck : checkS p = 0 := (check_zero p).2 hv
 have HCk := Lib.hid (fun W (hW : Below w.heap.size w W) => RCheck_spec v p W (h.mono hW))
 rw [hck] at HCk
 have HFl := Lib.hid (fun W (hW : Below w.heap.size w W) => followers_spec v p W (h.mono hW) hv)
 have HDt := Lib.hid (fun W (hW : Below w.heap.size w W) => Darts15_spec v p W (h.mono hW) hv)
 have HHs := Lib.hid (@Has15_spec)
 obtain ⟨vn, va, vf, al, rfl, -⟩ := h
 have hD : ∀ x ∈ dartsD p, nextD p x ∈ dartsD p := fun x hx => (hv.next_mem hx).1
 have hi : ∀ x ∈ dartsD p, ∀ y ∈ dartsD p, nextD p x = nextD p y → x = y := fun x hx y hy => hv.next_inj hx hy
 have hdl := hv.darts_len
 have hpl := hv.pr_len
 have HCy := Lib.hid (@cycle15_spec (nextD p) (dartsD p) hD hi (prL p p.nodes.length) (fun x hx => (hv.pr_ok hx).2) (fun d hd => hv.pr_mem hd) hpl (by omega))
 have HDm := Lib.hid hD; have HDi := Lib.hid hi
 have HCk2 := Lib.hid (fun k => hv.cyc_k k)
 obtain ⟨q, hq⟩ : ∃ q, cyclesD p = q := ⟨_, rfl⟩
 rw [hq]
 unfold cyclesD cycL at hq
 have Hq := Lib.hid hq
 have HPl := Lib.hid hpl
 clear hv hck hD hi hq hpl
 generalize dartsD p = D at *
 generalize nextD p = f at *
 generalize prL p p.nodes.length = P at *
 go_enter Tryz.func16, Tryz.ntmps16
 go_wp2_with fail
 refine (HCk.out _ (bA (bR w) _)).mono ?_
 rintro e w1 ⟨rfl, hb1⟩
 have X1 : Blk w1 w.heap.size 26 #[vn, va, vf] := (Blk.made rfl _ _).keep hb1
 have HX1 := Lib.hid X1
 have B1 := Lib.hid (bT (bA (bR w) _) hb1)
 clear hb1 HCk
 obtain ⟨X1l, X1a, X1b, X1c, -, -, -⟩ := X1.facts3
 go_wp2_with fail
 refine (HFl.out _ B1.out).mono ?_
 rintro e w2 ⟨Af, cf, Ag, cg, rfl, hb2, hof, hog⟩
 have B2 := Lib.hid (bT B1.out hb2)
 have HOf := Lib.hid (Own.sl hof); have HOg := Lib.hid (Own.sl hog)
 have HX2 := Lib.hid (HX1.out.keep hb2)
 clear hb2 hof hog X1 X1l X1a X1b X1c HFl HX1
 have X1 := HX2.out
 try clear X1l
 try clear X1a
 try clear X1b
 try clear X1c
 obtain ⟨X1l, X1a, X1b, X1c, -, -, -⟩ := X1.facts3
 go_wp2_with fail
 refine (HDt.out _ B2.out).mono ?_
 rintro e w3 ⟨Ad, cd, rfl, hb3, hod⟩
 have B3 := Lib.hid (bT B2.out hb3)
 have HOd := Lib.hid (Own.sl hod)
 have HFs := Lib.hid (show Ints w3 (.slice Af P.length cf) (P.map (·.1)) from (HOf.out).mono hb3)
 have HGs := Lib.hid (show Ints w3 (.slice Ag P.length cg) (P.map (·.2)) from (HOg.out).mono hb3)
 have HDs := Lib.hid (show Ints w3 (.slice Ad D.length cd) D from HOd.out)
 clear hb3 hod X1 X1l X1a X1b X1c HDt HOf HOg HOd HX2
 have hrd := (HDs.out.slice).2.2.2
 have hrm := (HDs.out.slice).2.2.1
 unfold maxLen at hrm
 have HRd := Lib.hid hrd
 clear hrd
 go_upto_block 0 with fail
 go_wp2_with fail
 go_loopw [5, 6, 10] (fun s t i wr => ∃ (k : Nat) (acc : List (List Int × SV)), k ≤ D.length ∧ i = .int .i64 k ∧ acc.length ≤ k ∧ (∃ A c, s = .slice A acc.length c) ∧ (∃ A c, t = .slice A (acc.map (·.1)).flatten.length c) ∧ CysO wr w3.heap.size s acc ∧ Own wr w3.heap.size 3 1 inC t (acc.map (·.1)).flatten ∧ acc.map (·.1) = (D.take k).foldl (cycStep f D) [] ∧ (∀ x ∈ acc, SepV (.slice x.2.a x.2.n x.2.c) t) ∧ Below w3.heap.size w3 wr) (fun _ _ i _ => D.length - (intOf i).toNat)
 case atStart => exact ⟨0, [], Nat.zero_le _, rfl, Nat.zero_le _, ⟨none, 0, rfl⟩, ⟨none, 0, rfl⟩, ⟨Own.nil _ _ _ _ _, fun x hx => by cases hx⟩, Own.nil _ _ _ _ _, rfl, (fun x hx => by cases hx), bR w3⟩
 case round =>
  obtain ⟨k, acc, hk, rfl, hak, ⟨A2, c2, rfl⟩, ⟨A3, c3, rfl⟩, cys, own, hacc, sep, hb⟩ := hrel
  have HCys := Lib.hid cys; have HO := Lib.hid own; have HAc := Lib.hid hacc; have HSp := Lib.hid sep; have HB := Lib.hid hb
  have hzr := hb.size
  clear cys own hacc sep hb
  by_cases hlt : k < D.length
  ·
   obtain ⟨bq, oq', rfl, hlbq, e0⟩ := (HRd.out.mono HB.out).int hlt
   have hx : D[k] ∈ D := List.getElem_mem hlt
   have hsucc := cyc_succ f D k hlt
   rw [← HAc.out] at hsucc
   have hcyc := HCk2.out k
   rw [← HAc.out] at hcyc
   generalize D[k] = x at *
   have hfn : (acc.map (·.1)).flatten.length ≤ D.length := nodup_le hcyc.nodup (fun y hy => by
    obtain ⟨l, hl, hy⟩ := List.mem_flatten.1 hy
    obtain ⟨d, h1, h2, -⟩ := hcyc.orbs l hl
    subst h2
    exact orb_mem HDm.out (List.mem_of_mem_take h1) hy)
   have HSu := Lib.hid hsucc; have HXm := Lib.hid hx
   clear hsucc hcyc hx
   obtain ⟨T, hT0⟩ : ∃ T, (acc.map (·.1)).flatten = T := ⟨_, rfl⟩
   have HTT := Lib.hid hT0
   rw [hT0] at HO hfn HSp ⊢
   have hT := HHs.out (.slice A3 T.length c3) T x wr (Own.sl HO.out)
   rw [any_mem] at hT
   by_cases hm : x ∈ T
   ·
    rw [decide_eq_true hm] at hT
    have hst := Lib.hid (show cycStep f D (acc.map (·.1)) x = acc.map (·.1) by unfold cycStep; rw [hT0, if_pos hm])
    have HT := Lib.hid hT
    clear hm hT hT0
    go_wp2_with fail
    refine HT.out.mono ?_
    rintro e w4 ⟨rfl, hb4⟩
    have HB4 := Lib.hid hb4
    clear hb4 e0 hlbq
    go_wp2_with fail
    go_roundw
    case rel => exact ⟨k + 1, acc, by omega, by go_num, by omega, ⟨A2, c2, rfl⟩, ⟨A3, c3, by rw [HTT.out]⟩, HCys.out.keep HB4.out, by rw [HTT.out]; exact HO.out.keep HB4.out, by rw [HSu.out, hst.out], HSp.out, bT HB.out HB4.out⟩
    case measure => simp [intOf]; omega
   ·
    rw [decide_eq_false hm] at hT
    have hst := Lib.hid (show cycStep f D (acc.map (·.1)) x = acc.map (·.1) ++ [orb f D x] by unfold cycStep; rw [hT0, if_neg hm])
    have HT := Lib.hid hT
    have hol : (orb f D x).length ≤ D.length + 1 := by
     have h := orb_facts HDm.out HDi.out HXm.out
     rw [h.2.2.2.2.2]; exact h.2.1
    have HC := Lib.hid (fun W (hW : Below w3.heap.size w3 W) => HCy.out (.slice Af P.length cf) (.slice Ag P.length cg) x HXm.out W (HFs.out.mono hW) (HGs.out.mono hW))
    clear hm hT hT0
    generalize orb f D x = o at *
    go_wp2_with fail
    refine HT.out.mono ?_
    rintro e w4 ⟨rfl, hb4⟩
    have HB4 := Lib.hid (bT HB.out hb4)
    have HCy4 := Lib.hid (HCys.out.keep hb4)
    have HO4 := Lib.hid (HO.out.keep hb4)
    replace e0 := keepc hb4 e0
    have hlbq4 : bq < w4.heap.size := by have := hb4.size; omega
    have hz4 := hb4.size
    clear hb4 hlbq HT
    go_wp2_with fail
    refine (HC.out _ HB4.out).mono ?_
    rintro e w5 ⟨A5, c5, rfl, hb5, ho5⟩
    have HB5 := Lib.hid (bT HB4.out hb5)
    have HCy5 := Lib.hid (HCy4.out.keep hb5)
    have HO5 := Lib.hid (HO4.out.keep hb5)
    have HL5 := Lib.hid (Own.mono_base ho5 (b' := w3.heap.size) (by omega))
    have HS5 := Lib.hid (show SepV (.slice A5 o.length c5) (.slice A3 T.length c3) from fun g hg e => by
     have h1 := (ho5.lt g hg).1
     have h2 := (HO4.out.lt g e).2
     omega)
    have hz5 := hb5.size
    clear hb5 ho5 HC e0 hlbq4
    have HFt := Lib.hid (show ((acc ++ [((o, ⟨A5, o.length, c5⟩) : List Int × SV)]).map (·.1)).flatten = T ++ o by rw [List.map_append, List.flatten_append, HTT.out]; simp)
    clear HO4
    go_upto_region 14 with
     (at_builtin
      refine wpList_appl _ rfl (.tmp 43) (.tmp 44) _ rfl (base := w3.heap.size) elem_in inC_len inC_one rfl HO5.out rfl (l2 := o) (Own.sl HL5.out) (by omega) (by omega) (by omega) ?_
      intro v6 w6 ho6 hg6 hat6
      obtain ⟨A6, c6, hv6, -⟩ := Own.shape_ ho6
      rw [List.length_append] at hv6
      subst hv6
      have HO6 := Lib.hid ho6
      have hat6' : ∀ g, (Value.slice A6 (T.length + o.length) c6).ownBlock = some g → (Value.slice A3 T.length c3).ownBlock = some g ∨ g = w5.heap.size := fun g hg => by
       rcases hat6 with h | h
       · exact .inl (h.symm.trans hg)
       · rw [hg] at h; exact .inr (Option.some.inj h)
      have HCo6 := Lib.hid (Own.grown HCy5.out.1 hg6 (fun g hg e => Own.apart HCy5.out.1 HO5.out (by decide) g hg e))
      have HCe6 := Lib.hid (show ∀ y ∈ acc, Own w6 w3.heap.size 3 1 inC (.slice y.2.a y.2.n y.2.c) y.1 from fun y hy => Own.grown (HCy5.out.2 y hy) hg6 (fun g hg e => HSp.out y hy g hg e.symm))
      have HL6 := Lib.hid (Own.grown HL5.out hg6 (fun g hg e => HS5.out g hg e.symm))
      have HS6 := Lib.hid (show ∀ y ∈ acc, SepV (.slice y.2.a y.2.n y.2.c) (.slice A6 (T.length + o.length) c6) from fun y hy g hg e => by
       rcases hat6' g e with h | h
       · exact HSp.out y hy g hg h
       · have := ((HCy5.out.2 y hy).lt g hg).2; omega)
      have HS6' := Lib.hid (show SepV (.slice A5 o.length c5) (.slice A6 (T.length + o.length) c6) from fun g hg e => by
       rcases hat6' g e with h | h
       · exact HS5.out g hg h
       · have := (HL5.out.lt g hg).2; omega)
      have HB6 := Lib.hid (bG HB5.out hg6 (fun g hg => (HO5.out.lt g hg).1))
      have hz6 := hg6.size
      clear ho6 hg6 hat6 hat6'
      )
    go_upto_region 10 with
     (at_builtin
      refine wpList_appl _ rfl (.tmp 46) (.tmp 48) _ rfl (base := w3.heap.size) elem_cy cyC_len cyC_one rfl (Own.alloc HCo6.out _) rfl (l2 := [((o, ⟨A5, o.length, c5⟩) : List Int × SV)]) (Sl.lit (n := 1) (Blk.made rfl _ _) rfl (le_maxLen (by omega))) (by simp only [List.length_cons, List.length_nil]; omega) (by simp only [List.length_cons, List.length_nil]; omega) (by have := HB6.out.size; simp; omega) ?_
      intro v7 w7 ho7 hg7 hat7
      obtain ⟨A7, c7, hv7, -⟩ := Own.shape_ ho7
      rw [show (acc ++ [((o, ⟨A5, o.length, c5⟩) : List Int × SV)]).length = acc.length + 1 by simp] at hv7
      subst hv7
      have ne7 : ∀ {l : List Int} {A' : Option Addr} {n' c' : Nat} {b' : Nat}, Own w6 b' 3 1 inC (.slice A' n' c') l → ∀ g, (Value.slice A' n' c').ownBlock = some g → some g ≠ (Value.slice A2 acc.length c2).ownBlock := fun h g hg => Own.apart h HCo6.out (by decide) g hg
      have HCy7 := Lib.hid (show CysO w7 w3.heap.size (.slice A7 (acc.length + 1) c7) (acc ++ [((o, ⟨A5, o.length, c5⟩) : List Int × SV)]) from ⟨ho7, fun y hy => by
       rcases List.mem_append.1 hy with hy | hy
       · exact Own.grown (Own.alloc (HCe6.out y hy) _) hg7 (ne7 (HCe6.out y hy))
       ·
        rw [List.mem_singleton] at hy
        subst hy
        exact Own.grown (Own.alloc HL6.out _) hg7 (ne7 HL6.out)⟩)
      have HO7 := Lib.hid (Own.grown (Own.alloc HO6.out _) hg7 (ne7 HO6.out))
      have HB7 := Lib.hid (bG (bA HB6.out _) hg7 (fun g hg => (HCo6.out.lt g hg).1))
      clear ho7 hg7 hat7 ne7
      )
    go_wp2_with fail
    go_roundw
    case rel => exact ⟨k + 1, acc ++ [((o, ⟨A5, o.length, c5⟩) : List Int × SV)], by omega, by go_num, by rw [List.length_append, List.length_singleton]; omega, ⟨A7, c7, by rw [List.length_append, List.length_singleton]⟩, ⟨A6, c6, by rw [HFt.out, List.length_append]⟩, HCy7.out, by rw [HFt.out]; exact HO7.out, by rw [HSu.out, hst.out, List.map_append]; rfl, (fun y hy => by
     rcases List.mem_append.1 hy with hy | hy
     · exact HS6.out y hy
     · rw [List.mem_singleton] at hy; subst hy; exact HS6'.out), HB7.out⟩
    case measure => simp [intOf]; omega
  ·
   obtain rfl : k = D.length := by omega
   have hfin := HAc.out
   rw [List.take_length, Hq.out] at hfin
   have hfl : acc.length = q.length := by rw [← hfin, List.length_map]
   have Hfin := Lib.hid hfin
   have hc := HCys.out
   rw [hfl] at hc ⊢
   generalize (acc.map (·.1)).flatten = T at *
   have HC := Lib.hid hc
   have hz3 := B3.out.size
   clear hfin hc hfl
   go_wp2_with fail
   go_ret2
   exact ⟨A2, c2, acc, rfl, bT B3.out HB.out, Hfin.out, ⟨HC.out.1.mono_base hz3, fun y hy => (HC.out.2 y hy).mono_base hz3⟩⟩
end Go.Proofs.YtoclnkfeblfpbaaGreat
