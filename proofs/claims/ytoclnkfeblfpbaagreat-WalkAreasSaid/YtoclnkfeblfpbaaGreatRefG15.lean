/- mapsheetsref15: Parts, Euler. -/
import Derived.Test.YtoclnkfeblfpbaaGreatLawWc
import Derived.Test.YtoclnkfeblfpbaaGreatJ22
import Derived.Test.YtoclnkfeblfpbaaGreatJ15
set_option linter.unusedSimpArgs false
set_option linter.unusedVariables false
namespace Go.Proofs.YtoclnkfeblfpbaaGreat
open Go.RowKit

def boolN : Value → Nat
 | .bool true => 1
 | _ => 0
/-- one pass over the arcs, behind the first k -/
structure MetFor (p : Pl) (i : Nat) (M0 M : List Int) (g : Bool) (k : Nat) : Prop where
 ok : MetOK p i M
 len : M0.length ≤ M.length
 same : g = false → M = M0 ∧ ∀ j (hj : j < p.arcs.length), j < k → (p.arcs[j].fr ∈ M0 ↔ p.arcs[j].dst ∈ M0)
 more : g = true → M0.length < M.length
theorem MetFor.keep {p : Pl} {i : Nat} {M0 M : List Int} {g : Bool} {k : Nat} (h : MetFor p i M0 M g k) (hk : k < p.arcs.length) {x : Bool} (h1 : (M.any fun y => y == p.arcs[k].fr) = x) (h2 : (M.any fun y => y == p.arcs[k].dst) = x) : MetFor p i M0 M g (k + 1) := by
 refine ⟨h.ok, h.len, fun hg => ⟨(h.same hg).1, fun j hj hjk => ?_⟩, h.more⟩
 by_cases e : j = k
 ·
  subst e
  have := (h.same hg).1
  subst this
  rw [any_mem] at h1 h2
  have e := h1.trans h2.symm
  rwa [decide_eq_decide] at e
 · exact (h.same hg).2 j hj (by omega)
theorem MetFor.add {p : Pl} (hv : Valid p) {i : Nat} {M0 M : List Int} {g : Bool} {k : Nat} (h : MetFor p i M0 M g k) (hk : k < p.arcs.length) {x y : Int}
  (hxy : (x = p.arcs[k].fr ∧ y = p.arcs[k].dst) ∨ (x = p.arcs[k].dst ∧ y = p.arcs[k].fr)) (h1 : (M.any fun z => z == x) = true) (h2 : (M.any fun z => z == y) = false) : MetFor p i M0 (M ++ [y]) true (k + 1) := by
 rw [any_mem] at h1 h2
 have hl := h.len
 have ok := MetOK.add hv h.ok (List.getElem_mem hk) hxy (by simpa using h1) (by simpa using h2)
 exact ⟨ok, by rw [List.length_append]; omega, (fun e => by cases e), fun _ => by rw [List.length_append, List.length_singleton]; omega⟩
theorem MetFor.close {p : Pl} {i : Nat} {M0 M : List Int} {k : Nat} (h : MetFor p i M0 M false k) (hk : k = p.arcs.length) : ∀ a ∈ p.arcs, a.fr ∈ M ↔ a.dst ∈ M := by
 intro a ha
 obtain ⟨j, hj, rfl⟩ := List.mem_iff_getElem.1 ha
 obtain ⟨e, hs⟩ := h.same rfl
 rw [e]
 exact hs j hj (by omega)
theorem MetFor.start {p : Pl} {i : Nat} {M : List Int} (h : MetOK p i M) : MetFor p i M M false 0 := ⟨h, Nat.le_refl _, fun _ => ⟨rfl, fun j _ hj => by omega⟩, (fun e => by cases e)⟩

set_option maxRecDepth 100000 in
set_option maxHeartbeats 8000000 in
theorem Parts15_spec (v : Value) (p : Pl) (w : World) (h : PlV w v p) (hv : Valid p) :
  Calls Tryz.prog 44 #[v] w fun e w' => e = .returned (.int .i64 (partsD p)) ∧ Below w.heap.size w w' := by
 have HHs := Lib.hid (@Has15_spec)
 obtain ⟨_, _, _, al, rfl, hpa, ⟨An, cn, rfl, hn1, hn2, hR⟩, ⟨⟨Aa, ca, rfl, hm1, hm2, hRa⟩, -⟩, ⟨Af, cf, rfl, -⟩⟩ := h
 unfold maxLen at hn2 hm2
 have HR := Lib.hid hR; have HV := Lib.hid hv; have HRa := Lib.hid hRa
 have hnl := hv.nodes_len
 have hall : al.length ≤ 256 := by
  have hl := hv.lim
  unfold limS at hl
  simp only [Bool.or_eq_false_iff, decide_eq_false_iff_not] at hl
  have h2 := hl.2
  rw [hpa, List.length_map] at h2
  omega
 have hpl : p.arcs.length = al.length := by rw [hpa, List.length_map]
 have HAt := Lib.hid (show ∀ k (hk : k < al.length) (hk2 : k < p.arcs.length), p.arcs[k].fr = al[k].1.fr ∧ p.arcs[k].dst = al[k].1.dst from fun k hk hk2 => by
  have : p.arcs[k] = al[k].1 := by simp only [hpa]; rw [List.getElem_map]
  rw [this]; exact ⟨rfl, rfl⟩)
 have HLe := Lib.hid (fun i => newN_le p i)
 obtain ⟨q, hq⟩ : ∃ q, partsD p = q := ⟨_, rfl⟩
 have hqn := hv.newN_all
 rw [hq] at hqn ⊢
 have HQ := Lib.hid hqn; have HPl := Lib.hid hpl
 generalize p.faces.length = nf at *
 clear hpa hR hv hRa hpl hq hqn
 go_enter Tryz.func44, Tryz.ntmps44
 go_wp2_with fail
 obtain ⟨W0, hW⟩ : ∃ W0 : World, W0 = w.alloc (.cells #[.slice An p.nodes.length cn, .slice Aa al.length ca, .slice Af nf cf] 26) := ⟨_, rfl⟩
 have HB0 := Lib.hid (show Below w.heap.size w W0 by rw [hW]; exact bA (bR w) _)
 have HX1 := Lib.hid (show Blk W0 w.heap.size 26 #[.slice An p.nodes.length cn, .slice Aa al.length ca, .slice Af nf cf] by rw [hW]; exact Blk.made rfl _ _)
 rw [← hW]
 clear hW
 have hz0 := HX1.out.lt
 go_loopw [3, 4, 5] (fun n s i wr => ∃ (k : Nat) (M : List Int), k ≤ p.nodes.length ∧ i = .int .i64 k ∧ n = .int .i64 (newN p k : Nat) ∧ Own wr W0.heap.size 3 1 inC s M ∧ MetDn p k M ∧ Below W0.heap.size W0 wr) (fun _ _ i _ => p.nodes.length - (intOf i).toNat)
 case atStart => exact ⟨0, [], Nat.zero_le _, rfl, rfl, Own.nil _ _ _ _ _, MetDn.nil p, bR W0⟩
 case round =>
  obtain ⟨k, M, hk, rfl, rfl, ho, hm, hb⟩ := hrel
  obtain ⟨A4, c4, rfl, -⟩ := Own.shape_ ho
  have Ho := Lib.hid ho; have Hm := Lib.hid hm; have Hb := Lib.hid hb
  have hle := HLe.out k
  have hml := MetDn.len HV.out hm
  have hzr := hb.size
  clear ho hm hb
  have X1 := HX1.out.keep Hb.out
  obtain ⟨X1l, X1a, X1b, X1c, -, -, -⟩ := X1.facts3
  by_cases hlt : k < p.nodes.length
  ·
   obtain ⟨b, o, rfl, hlb, c0, -⟩ := (HR.out.mono (bT HB0.out Hb.out)).nd hlt
   have hat := MetDn.at_ HV.out hlt Hm.out
   have hnx := newN_succ hlt
   have HSk := Lib.hid (fun e => MetDn.skip HV.out hlt Hm.out e)
   have HSt := Lib.hid (fun e => MetDn.start HV.out hlt Hm.out e)
   have HDn := Lib.hid (fun M (h : MetOK p k M) hc => MetOK.done HV.out hlt h hc)
   generalize p.nodes[k].id = x at *
   have HT := Lib.hid (HHs.out (.slice A4 M.length c4) M x wr (Own.sl Ho.out))
   rw [hat] at HT
   generalize inPt p k x = qi at *
   clear hat
   cases qi
   case true =>
    have HDk := Lib.hid (HSk.out rfl)
    have hnx2 : newN p (k + 1) = newN p k := by simpa using hnx
    have HNx := Lib.hid hnx2
    clear hnx hnx2 HSk HSt HDn
    go_wp2_with fail
    refine HT.out.mono ?_
    rintro e w2 ⟨rfl, hb2⟩
    have HB2 := Lib.hid hb2
    clear hb2 X1 X1l X1a X1b X1c c0
    go_wp2_with fail
    go_roundw
    case rel => exact ⟨k + 1, M, by omega, by go_num, by rw [HNx.out], Ho.out.keep HB2.out, HDk.out, bT Hb.out HB2.out⟩
    case measure => simp [intOf]; omega
   case false =>
    have HOk := Lib.hid (HSt.out rfl)
    rw [if_neg (by decide)] at hnx
    have HNx := Lib.hid hnx
    clear hnx HSk HSt
    have HC0 := Lib.hid c0
    go_wp2_with fail
    refine HT.out.mono ?_
    rintro e w2 ⟨rfl, hb2⟩
    have HB2 := Lib.hid (bT Hb.out hb2)
    have HO2 := Lib.hid (Ho.out.keep hb2)
    replace c0 := keepc hb2 c0
    have hlb2 : b < w2.heap.size := by have := hb2.size; omega
    have hz2 := HB2.out.size
    clear hb2 X1 X1l X1a X1b X1c hlb HC0 HT
    have X1 := HX1.out.keep HB2.out
    try clear X1l
    try clear X1a
    try clear X1b
    try clear X1c
    obtain ⟨X1l, X1a, X1b, X1c, -, -, -⟩ := X1.facts3
    go_upto_region 9 with
     (at_builtin
      refine wpList_appl _ rfl (.tmp 27) (.tmp 34) _ rfl (base := W0.heap.size) elem_in inC_len inC_one rfl (Own.alloc HO2.out _) rfl (l2 := [x]) (Sl.lit (n := 1) (Blk.made rfl _ _) rfl (le_maxLen (by omega))) (by simp only [List.length_cons, List.length_nil]; omega) (by simp only [List.length_cons, List.length_nil]; omega) (by simp; omega) ?_
      intro v3 w3 ho3 hg3 hat3
      obtain ⟨A3, c3, hv3, -⟩ := Own.shape_ ho3
      rw [show (M ++ [x]).length = M.length + 1 by simp] at hv3
      subst hv3
      have HO3 := Lib.hid ho3
      have HB3 := Lib.hid (bG (bA HB2.out _) hg3 (fun g hg => (HO2.out.lt g hg).1))
      clear ho3 hg3 hat3
      )
    have hml3 := MetOK.len HV.out HOk.out
    rw [List.length_append, List.length_singleton] at hml3
    obtain ⟨M1, hM1⟩ : ∃ M1, M1 = M ++ [x] := ⟨_, rfl⟩
    have hl1 : M1.length = M.length + 1 := by rw [hM1]; simp
    rw [← hM1] at HO3 HOk
    rw [← hl1] at HO3 ⊢
    clear hM1 hl1 hml3 X1 X1l X1a X1b X1c c0 hlb2 HO2 HB2 hz2
    go_upto_block 2 with fail
    go_wp2_with fail
    go_loopw [4, 6] (fun s g wr => ∃ (M : List Int) (y : Bool), g = .bool y ∧ Own wr W0.heap.size 3 1 inC s M ∧ MetOK p k M ∧ (y = false → ∀ a ∈ p.arcs, a.fr ∈ M ↔ a.dst ∈ M) ∧ Below W0.heap.size W0 wr) (fun s g _ => 2 * (p.nodes.length - lenV s) + boolN g)
    case atStart => exact ⟨M1, true, rfl, HO3.out, HOk.out, (fun e => by cases e), HB3.out⟩
    case round =>
     clear HO3 HOk HB3
     obtain ⟨M2, y, rfl, ho, hok, hcl, hb⟩ := hrel
     obtain ⟨A5, c5, rfl, -⟩ := Own.shape_ ho
     have HO5 := Lib.hid ho; have HOk := Lib.hid hok; have HCl := Lib.hid hcl; have HB5 := Lib.hid hb
     have hml5 := MetOK.len HV.out hok
     have hzr5 := hb.size
     clear ho hok hcl hb
     cases y
     case false =>
      have HF := Lib.hid (HDn.out M2 HOk.out (HCl.out rfl))
      go_wp2_with fail
      go_roundw
      case rel => exact ⟨k + 1, M2, by omega, by go_num, by rw [HNx.out]; go_num, HO5.out, HF.out, HB5.out⟩
      case measure => simp [intOf]; omega
     case true =>
      clear HCl
      go_upto_block 4 with fail
      go_wp2_with fail
      go_loopw [4, 6, 7] (fun s g i wr => ∃ (j : Nat) (M : List Int) (y : Bool), j ≤ al.length ∧ i = .int .i64 j ∧ g = .bool y ∧ Own wr W0.heap.size 3 1 inC s M ∧ MetFor p k M2 M y j ∧ Below W0.heap.size W0 wr) (fun _ _ i _ => al.length - (intOf i).toNat)
      case atStart => exact ⟨0, M2, false, Nat.zero_le _, rfl, rfl, HO5.out, MetFor.start HOk.out, HB5.out⟩
      case round =>
       clear HO5 HB5 hzr5
       obtain ⟨j, M3, y, hj, rfl, rfl, ho, hmf, hb⟩ := hrel
       obtain ⟨A6, c6, rfl, -⟩ := Own.shape_ ho
       obtain ⟨wo, rfl⟩ : ∃ wo : World, wo = wr := ⟨_, rfl⟩
       have HO6 := Lib.hid ho; have HMf := Lib.hid hmf; have HB6 := Lib.hid hb
       have hml6 := MetOK.len HV.out hmf.ok
       have hzr6 := hb.size
       clear ho hmf hb
       have X1 := HX1.out.keep HB6.out
       try clear X1l
       try clear X1a
       try clear X1b
       try clear X1c
       obtain ⟨X1l, X1a, X1b, X1c, -, -, -⟩ := X1.facts3
       by_cases hlj : j < al.length
       ·
        have hjp : j < p.arcs.length := by have := HPl.out; omega
        obtain ⟨b2, o2, rfl, hlb2, -, d1, d2, -⟩ := (HRa.out.mono (bT HB0.out HB6.out)).ar hlj
        obtain ⟨ea, eb⟩ := HAt.out j hlj hjp
        rw [← ea] at d1
        rw [← eb] at d2
        clear ea eb
        have HKp := Lib.hid (fun z h1 h2 => HMf.out.keep hjp (x := z) h1 h2)
        have HAd := Lib.hid (fun u v => HMf.out.add HV.out hjp (x := u) (y := v))
        generalize p.arcs[j].fr = af at *
        generalize p.arcs[j].dst = ad at *
        have HT1 := Lib.hid (fun W (hW : Below wo.heap.size wo W) => HHs.out (.slice A6 M3.length c6) M3 af W (Own.sl (HO6.out.keep hW)))
        have HT2 := Lib.hid (fun W (hW : Below wo.heap.size wo W) => HHs.out (.slice A6 M3.length c6) M3 ad W (Own.sl (HO6.out.keep hW)))
        obtain ⟨qa, hqa⟩ : ∃ qa, (M3.any fun y => y == af) = qa := ⟨_, rfl⟩
        obtain ⟨qb, hqb⟩ : ∃ qb, (M3.any fun y => y == ad) = qb := ⟨_, rfl⟩
        rw [hqa] at HT1
        rw [hqb] at HT2
        have HQa := Lib.hid hqa; have HQb := Lib.hid hqb
        clear hqa hqb hjp
        have k1 : (j : Int) < al.length := by omega
        have k2 : 0 ≤ (j : Int) := by omega
        go_upto_region 15 with fail
        refine rg_start (Since wo) (.run 7 0 0 (.run 7 8 127 (.call 7 32767 (.call 15 65535 (.take 16 131071 (.take 17 262143 (.done))))))) (by kernel_rfl) (bD (bR _)) (by kernel_rfl) (by kernel_rfl) (Nat.le_of_ble_eq_true (by kernel_rfl)) ?_
        intro opsR QR Hops HQrg hS
        iterate 14
         apply rg_p; exact Hops; exact rfl; exact hS; exact rfl
         · intro _ hqc; go_simp; try rfl
         try simp only [pu]
        refine rg_call (i := 7) (get_of Hops rfl) (fun K hK => ?_)
        have HSrg := Lib.hid hS; clear hS
        refine rg_run (wanted_plain rfl) ?_
        go_simp
        refine (HT1.out _ HSrg.out).mono ?_
        rintro e wr1 ⟨rfl, hbr1⟩
        have hS : Since wo wr1 := bT (w := wo) HSrg.out hbr1
        clear HSrg
        refine hK.out _ _ hS (fun _ => ?_)
        clear hK K
        try simp only [pu]
        refine rg_call (i := 15) (get_of Hops rfl) (fun K hK => ?_)
        have HSrg := Lib.hid hS; clear hS
        refine rg_run (wanted_plain rfl) ?_
        go_simp
        refine (HT2.out _ HSrg.out).mono ?_
        rintro e wr2 ⟨rfl, hbr2⟩
        have hS : Since wo wr2 := bT (w := wo) HSrg.out hbr2
        clear HSrg
        refine hK.out _ _ hS (fun _ => ?_)
        clear hK K
        try simp only [pu]
        iterate 2
         apply rg_p; exact Hops; exact rfl; exact hS; exact rfl
         · intro _ hqc; go_simp; try rfl
         try simp only [pu]
        refine rg_done ?_
        refine HQrg.down _ _ ?_
        have hB : Below wo.heap.size wo wr2 := hS
        clear hS HQrg Hops
        obtain ⟨W7, hW7⟩ : ∃ W : World, W = wr2 := ⟨_, rfl⟩
        rw [← hW7] at hB ⊢
        have HB7 := Lib.hid (bT HB6.out hB)
        have HO7 := Lib.hid (HO6.out.keep hB)
        have hz7 := HB7.out.size
        have hlb7 : b2 < W7.heap.size := by have := hB.size; omega
        replace d1 := keepc hB d1
        replace d2 := keepc hB d2
        clear hB hbr1 hbr2 hW7 HT1 HT2 X1 X1l X1a X1b X1c HO6 HB6 hlb2
        have X1 := HX1.out.keep HB7.out
        try clear X1l
        try clear X1a
        try clear X1b
        try clear X1c
        obtain ⟨X1l, X1a, X1b, X1c, -, -, -⟩ := X1.facts3
        cases qa <;> cases qb
        case false.false =>
         have HF := Lib.hid (HKp.out false HQa.out HQb.out)
         cases y
         all_goals
          go_wp2_with fail
          try simp only [Bool.not_true, Bool.not_false, bne_self_eq_false, Bool.bne_true, Bool.bne_false]
          go_roundw
          case rel => exact ⟨j + 1, M3, _, by omega, by go_num, rfl, HO7.out, HF.out, HB7.out⟩
          case measure => simp [intOf]; omega
        case true.true =>
         have HF := Lib.hid (HKp.out true HQa.out HQb.out)
         cases y
         all_goals
          go_wp2_with fail
          try simp only [Bool.not_true, Bool.not_false, bne_self_eq_false, Bool.bne_true, Bool.bne_false]
          go_roundw
          case rel => exact ⟨j + 1, M3, _, by omega, by go_num, rfl, HO7.out, HF.out, HB7.out⟩
          case measure => simp [intOf]; omega
        case true.false =>
         have HF := Lib.hid (HAd.out af ad (.inl ⟨rfl, rfl⟩) HQa.out HQb.out)
         go_upto_region 18 with
          (at_builtin
           refine wpList_appl _ rfl (.tmp 65) (.tmp 72) _ rfl (base := W0.heap.size) elem_in inC_len inC_one rfl (Own.alloc HO7.out _) rfl (l2 := [ad]) (Sl.lit (n := 1) (Blk.made rfl _ _) rfl (le_maxLen (by omega))) (by simp only [List.length_cons, List.length_nil]; omega) (by simp only [List.length_cons, List.length_nil]; omega) (by simp; omega) ?_
           intro v8 w8 ho8 hg8 hat8
           obtain ⟨A8, c8, hv8, -⟩ := Own.shape_ ho8
           rw [show (M3 ++ [ad]).length = M3.length + 1 by simp] at hv8
           subst hv8
           have HO8 := Lib.hid ho8
           have HB8 := Lib.hid (bG (bA HB7.out _) hg8 (fun g hg => (HO7.out.lt g hg).1))
           clear ho8 hg8 hat8
           )
         clear X1 X1l X1a X1b X1c d1 d2 HO7 HB7
         cases y
         all_goals
          go_wp2_with fail
          try simp only [Bool.not_true, Bool.not_false, bne_self_eq_false, Bool.bne_true, Bool.bne_false]
          go_roundw
          case rel => exact ⟨j + 1, M3 ++ [ad], true, by omega, by go_num, rfl, HO8.out, HF.out, HB8.out⟩
          case measure => simp [intOf]; omega
        case false.true =>
         have HF := Lib.hid (HAd.out ad af (.inr ⟨rfl, rfl⟩) HQb.out HQa.out)
         go_upto_region 20 with
          (at_builtin
           refine wpList_appl _ rfl (.tmp 79) (.tmp 86) _ rfl (base := W0.heap.size) elem_in inC_len inC_one rfl (Own.alloc HO7.out _) rfl (l2 := [af]) (Sl.lit (n := 1) (Blk.made rfl _ _) rfl (le_maxLen (by omega))) (by simp only [List.length_cons, List.length_nil]; omega) (by simp only [List.length_cons, List.length_nil]; omega) (by simp; omega) ?_
           intro v8 w8 ho8 hg8 hat8
           obtain ⟨A8, c8, hv8, -⟩ := Own.shape_ ho8
           rw [show (M3 ++ [af]).length = M3.length + 1 by simp] at hv8
           subst hv8
           have HO8 := Lib.hid ho8
           have HB8 := Lib.hid (bG (bA HB7.out _) hg8 (fun g hg => (HO7.out.lt g hg).1))
           clear ho8 hg8 hat8
           )
         clear X1 X1l X1a X1b X1c d1 d2 HO7 HB7
         cases y
         all_goals
          go_wp2_with fail
          try simp only [Bool.not_true, Bool.not_false, bne_self_eq_false, Bool.bne_true, Bool.bne_false]
          go_roundw
          case rel => exact ⟨j + 1, M3 ++ [af], true, by omega, by go_num, rfl, HO8.out, HF.out, HB8.out⟩
          case measure => simp [intOf]; omega
       ·
        obtain rfl : j = al.length := by omega
        have HCl := Lib.hid (fun (e : y = false) => (show MetFor p k M2 M3 false al.length by rw [← e]; exact HMf.out).close (by rw [HPl.out]))
        have hmo := HMf.out.more
        have hln := HMf.out.len
        have hmeas : 2 * (p.nodes.length - M3.length) + boolN (.bool y) < 2 * (p.nodes.length - M2.length) + 1 := by
         cases y
         · simp only [boolN]; omega
         ·
          have := hmo rfl
          simp only [boolN]; omega
        clear hmo hln
        go_wp2_with fail
        go_roundw
        case rel => exact ⟨M3, y, rfl, HO6.out, HMf.out.ok, HCl.out, HB6.out⟩
        case measure => simpa only [lenV, boolN] using hmeas
  ·
   obtain rfl : k = p.nodes.length := by omega
   rw [HQ.out]
   go_wp2_with fail
   go_ret
   exact ⟨rfl, bT HB0.out Hb.out⟩

set_option maxRecDepth 100000 in
set_option maxHeartbeats 8000000 in
theorem REuler_spec (v : Value) (p : Pl) (w : World) (h : PlV w v p) (hv : Valid p) :
  Calls Tryz.prog 22 #[v] w (RetEul w p.nodes.length p.arcs.length (cyclesD p).length (partsD p) 0) := by
 have HCk := Lib.hid (fun W (hW : Below w.heap.size w W) => RCycles_spec v p W (h.mono hW) hv)
 have HPt := Lib.hid (fun W (hW : Below w.heap.size w W) => Parts15_spec v p W (h.mono hW) hv)
 obtain ⟨_, _, _, al, rfl, hpa, ⟨An, cn, rfl, -⟩, ⟨⟨Aa, ca, rfl, -⟩, -⟩, ⟨Af, cf, rfl, -⟩⟩ := h
 have hpl : p.arcs.length = al.length := by rw [hpa, List.length_map]
 rw [hpl]
 generalize p.faces.length = nf at *
 generalize p.nodes.length = nn at *
 generalize cyclesD p = cy at *
 generalize partsD p = pn at *
 clear hpa hpl
 go_enter Tryz.func22, Tryz.ntmps22
 go_wp2_with fail
 refine (HCk.out _ (bA (bR w) _)).mono ?_
 rintro e w1 ⟨Ac, cc, cl, rfl, hb1, hcl, hco⟩
 have X1 : Blk w1 w.heap.size 26 #[.slice An nn cn, .slice Aa al.length ca, .slice Af nf cf] := (Blk.made rfl _ _).keep hb1
 have B1 := Lib.hid (bT (bA (bR w) _) hb1)
 clear hb1 HCk hcl hco
 generalize cy.length = cyl at *
 obtain ⟨X1l, X1a, X1b, X1c, -, -, -⟩ := X1.facts3
 go_upto_region 4 with fail
 refine rg_start (Since w1) (.run 9 0 0 (.call 9 1023 (.run 5 10 1023 (.done)))) (by kernel_rfl) (bD (bR _)) (by kernel_rfl) (by kernel_rfl) (Nat.le_of_ble_eq_true (by kernel_rfl)) ?_
 intro opsR QR Hops HQrg hS
 iterate 9
  apply rg_p; exact Hops; exact rfl; exact hS; exact rfl
  · intro _ hqc; go_simp; try rfl
  try simp only [pu]
 refine rg_call (i := 9) (get_of Hops rfl) (fun K hK => ?_)
 have HSrg := Lib.hid hS; clear hS
 refine rg_run (wanted_plain rfl) ?_
 go_simp
 refine (HPt.out _ (bT B1.out HSrg.out)).mono ?_
 rintro e wr1 ⟨rfl, hbr1⟩
 have hS : Since w1 wr1 := bT (w := w1) HSrg.out hbr1
 clear HSrg
 refine hK.out _ _ hS (fun _ => ?_)
 clear hK K
 try simp only [pu]
 iterate 5
  apply rg_p; exact Hops; exact rfl; exact hS; exact rfl
  · intro _ hqc; go_simp; try rfl
  try simp only [pu]
 refine rg_done ?_
 refine HQrg.down _ _ ?_
 have hB : Below w1.heap.size w1 wr1 := hS
 clear hS HQrg Hops
 go_wp2_with fail
 exact bodyPost_ret (results_tmp5 rfl _ _) rfl ⟨rfl, bT B1.out hB⟩

set_option maxRecDepth 100000 in
set_option maxHeartbeats 8000000 in
theorem Euler_bad (v : Value) (p : Pl) (w : World) (h : PlV w v p) (hv : checkS p ≠ 0) : Calls Tryz.prog 21 #[v] w (RetEul w 0 0 0 0 (checkS p)) := by
 have HCk := Lib.hid (fun W (hW : Below w.heap.size w W) => Cycles_bad v p W (h.mono hW) hv)
 obtain ⟨vn, va, vf, al, rfl, -⟩ := h
 generalize checkS p = z at *
 have he : (z != 0) = true := by simpa using hv
 clear hv
 go_enter Tryz.func21, Tryz.ntmps21
 go_wp2_with fail
 refine (HCk.out _ (bA (bR w) _)).mono ?_
 rintro e w1 ⟨Ac, cc, cl, rfl, hb1, -, -⟩
 have B1 := Lib.hid (bT (bA (bR w) _) hb1)
 clear hb1 HCk
 go_wp2_with fail
 exact bodyPost_ret (results_tmp5 rfl _ _) rfl ⟨rfl, B1.out⟩
set_option maxRecDepth 100000 in
set_option maxHeartbeats 8000000 in
theorem REuler_bad (v : Value) (p : Pl) (w : World) (h : PlV w v p) (hv : checkS p ≠ 0) : Calls Tryz.prog 22 #[v] w (RetEul w 0 0 0 0 (checkS p)) := by
 have HCk := Lib.hid (fun W (hW : Below w.heap.size w W) => RCycles_bad v p W (h.mono hW) hv)
 obtain ⟨vn, va, vf, al, rfl, -⟩ := h
 generalize checkS p = z at *
 have he : (z != 0) = true := by simpa using hv
 clear hv
 go_enter Tryz.func22, Tryz.ntmps22
 go_wp2_with fail
 refine (HCk.out _ (bA (bR w) _)).mono ?_
 rintro e w1 ⟨Ac, cc, cl, rfl, hb1, -, -⟩
 have B1 := Lib.hid (bT (bA (bR w) _) hb1)
 clear hb1 HCk
 go_wp2_with fail
 exact bodyPost_ret (results_tmp5 rfl _ _) rfl ⟨rfl, B1.out⟩
end Go.Proofs.YtoclnkfeblfpbaaGreat
