/- ref15.Around. mapsheetsref15.followers. -/
import Derived.Test.YtoclnkfeblfpbaaGreatJ17
import Derived.Test.YtoclnkfeblfpbaaGreatJ06
set_option linter.unusedSimpArgs false
set_option linter.unusedVariables false
namespace Go.Proofs.YtoclnkfeblfpbaaGreat
open Go.RowKit Go.Sort

set_option maxRecDepth 100000 in
set_option maxHeartbeats 8000000 in
theorem Around15_spec (v : Value) (p : Pl) (n : Int) (w : World) (h : PlV w v p) (hv : Valid p) :
  Calls Tryz.prog 68 #[v, .int .i64 n] w (RetOwnI w (aroundD p n)) := by
 have HNd := Lib.hid (fun W (hW : Below w.heap.size w W) => RNode_spec v p n W (h.mono hW))
 have HSc := Lib.hid (fun d (hd : -9223372036854775808 < d ∧ d ≤ 9223372036854775807) W (hW : Below w.heap.size w W) => second15_spec v p d W (h.mono hW) hv.short hd)
 obtain ⟨_, _, _, al, rfl, hpa, ⟨An, cn, rfl, -⟩, ⟨⟨Aa, ca, rfl, hn1, hn2, hR⟩, -⟩, ⟨Af, cf, rfl, -⟩⟩ := h
 unfold maxLen at hn2
 have HR := Lib.hid hR
 have HV := Lib.hid hv
 have HPa := Lib.hid hpa
 have hall : al.length ≤ 256 := by
  have hl := hv.lim
  unfold limS at hl
  simp only [Bool.or_eq_false_iff, decide_eq_false_iff_not] at hl
  have h2 := hl.2
  rw [hpa, List.length_map] at h2
  omega
 have HId := Lib.hid (show ∀ k (hk : k < al.length), 1 ≤ al[k].1.id ∧ al[k].1.id ≤ 1073741824 from fun k hk => hv.id_pos (by rw [hpa]; exact List.mem_map_of_mem (List.getElem_mem hk)))
 generalize hnn : p.nodes.length = nn at *
 generalize p.faces.length = nf at *
 obtain ⟨q, hq⟩ : ∃ q, aroundD p n = q := ⟨_, rfl⟩
 rw [hq]
 have Hq := Lib.hid hq
 clear hpa hR hv hq hnn
 go_enter Tryz.func68, Tryz.ntmps68
 go_wp2_with fail
 refine (HNd.out _ (bA (bR w) _)).mono ?_
 rintro e w1 ⟨rfl, hb1⟩
 have X2 : Blk w1 w.heap.size 26 #[.slice An nn cn, .slice Aa al.length ca, .slice Af nf cf] := (Blk.made rfl _ _).keep hb1
 have B1 := Lib.hid (bT (bA (bR w) _) hb1)
 clear hb1
 unfold ndRes ndV
 cases hfn : findNd p.nodes n with
 | none =>
  have hf : q = [] := by rw [← Hq.out]; unfold aroundD; rw [hfn]
  subst hf
  clear hfn
  simp only [Option.getD_none, Option.isSome_none]
  go_wp2_with fail
  go_ret
  exact ⟨none, 0, rfl, bA B1.out _, Own.nil _ _ _ _ _⟩
 | some nd =>
  have hnd : nd ∈ p.nodes ∧ nd.id = n := ⟨List.mem_of_find?_eq_some hfn, by have := List.find?_some hfn; simpa using this⟩
  obtain ⟨hnm, rfl⟩ := hnd
  have hAr := HV.out.around_eq hnm
  rw [Hq.out] at hAr
  have HAr := Lib.hid hAr
  have HNm := Lib.hid hnm
  clear hfn hAr hnm Hq
  simp only [Option.getD_some, Option.isSome_some]
  go_upto_region 4 with fail
  obtain ⟨W5, hW⟩ : ∃ W : World, W = w1.alloc (.cells #[.int .i64 nd.id, .int .i64 nd.pt.x, .int .i64 nd.pt.y] 43) := ⟨_, rfl⟩
  have B5 := Lib.hid (show Below w.heap.size w W5 by rw [hW]; exact bA B1.out _)
  have HX5 := Lib.hid (show Blk W5 w1.heap.size 43 #[.int .i64 nd.id, .int .i64 nd.pt.x, .int .i64 nd.pt.y] by rw [hW]; exact Blk.made rfl _ _)
  have HX2 := Lib.hid (show Blk W5 w.heap.size 26 #[.slice An nn cn, .slice Aa al.length ca, .slice Af nf cf] by rw [hW]; exact X2.alloc _)
  rw [← hW]
  clear hW X2
  obtain ⟨g5, hg5⟩ : ∃ g5, w1.heap.size = g5 := ⟨_, rfl⟩
  rw [hg5] at HX5 ⊢
  clear hg5 B1
  go_wp2_with fail
  go_loopw [7, 8] (fun s i wr => ∃ k : Nat, k ≤ al.length ∧ i = .int .i64 k ∧ Own wr W5.heap.size 3 1 inC s (dartL (p.arcs.take k) nd.id) ∧ Below W5.heap.size W5 wr) (fun _ i _ => al.length - (intOf i).toNat)
  case atStart => exact ⟨0, Nat.zero_le _, rfl, by simpa [dartL] using Own.nil W5 W5.heap.size 3 1 inC, bR W5⟩
  case round =>
   obtain ⟨k, hk, rfl, ho, hb⟩ := hrel
   have Ho := Lib.hid ho
   have Hb := Lib.hid hb
   have X2 := HX2.out.keep hb
   have hzr := hb.size
   clear ho hb
   obtain ⟨X2l, X2a, X2b, X2c, -, -, -⟩ := X2.facts3
   by_cases hlt : k < al.length
   case neg =>
    have hkk : k = al.length := by omega
    subst hkk
    have ho := Ho.out
    rw [show p.arcs.take al.length = p.arcs from List.take_of_length_le (by rw [HPa.out, List.length_map]; omega)] at ho
    obtain ⟨A7, c7, rfl, h71, h72⟩ := Own.shape ho
    unfold maxLen at h72
    have HO7 := Lib.hid ho
    clear ho Ho
    go_wp2_with fail
    have hol := dartL_len p.arcs nd.id
    rw [show p.arcs.length = al.length by rw [HPa.out, List.length_map]] at hol
    have HOl := Lib.hid (show (dartL p.arcs nd.id).length ≤ 512 by omega)
    have HOrd := Lib.hid (HV.out.ordOn HNm.out)
    have HNod := Lib.hid (HV.out.dartL_nodup (n := nd.id))
    have HSec := Lib.hid (show ∀ d ∈ dartL p.arcs nd.id, secondR p d = toD p d from fun d hd => HV.out.second_eq hd)
    have HDb := Lib.hid (show ∀ d ∈ dartL p.arcs nd.id, -9223372036854775808 < d ∧ d ≤ 9223372036854775807 from fun d hd => by
     obtain ⟨a, ha, e⟩ := mem_dartL.1 hd
     have := HV.out.id_pos ha
     rcases e with ⟨rfl, -⟩ | ⟨rfl, -⟩ <;> omega)
    have HXo5 := Lib.hid (HX5.out.keep Hb.out)
    have HXo2 := Lib.hid X2
    have Bo := Lib.hid (bT B5.out Hb.out)
    have HRw7 := Lib.hid (show Row wr A7 ((dartL p.arcs nd.id).flatMap inC) by
     obtain ⟨A', c', he, _, _, hr⟩ := HO7.out.sl
     injection he with e1 e2 e3
     subst e1
     exact hr)
    clear hol X2 X2l X2a X2b X2c hlt HO7
    generalize dartL p.arcs nd.id = D at *
    obtain ⟨wo, rfl⟩ : ∃ wo : World, wo = wr := ⟨_, rfl⟩
    go_loopw [9, 10] (fun s i wr => ∃ k : Nat, k ≤ D.length ∧ i = .int .i64 k ∧ Own wr wo.heap.size 41 2 ptC s ((D.take k).map (secondR p)) ∧ Below wo.heap.size wo wr) (fun _ i _ => D.length - (intOf i).toNat)
    case atStart => exact ⟨0, Nat.zero_le _, rfl, Own.nil _ _ _ _ _, bR wo⟩
    case round =>
     obtain ⟨k, hk2, rfl, ho, hb⟩ := hrel
     have Ho2 := Lib.hid ho
     have Hb2 := Lib.hid hb
     have X2 := HXo2.out.keep hb
     have hzr2 := hb.size
     clear ho hb
     try clear X2l
     try clear X2a
     try clear X2b
     try clear X2c
     obtain ⟨X2l, X2a, X2b, X2c, -, -, -⟩ := X2.facts3
     by_cases hlt : k < D.length
     case neg =>
      have hkk : k = D.length := by omega
      subst hkk
      have ho := Ho2.out
      rw [List.take_length] at ho
      obtain ⟨A9, c9, rfl, h91, h92⟩ := Own.shape ho
      unfold maxLen at h92
      rw [List.length_map] at h91
      rw [show (List.map (secondR p) D).length = D.length from List.length_map _]
      have HO9 := Lib.hid ho
      clear ho Ho2
      clear X2 X2l X2a X2b X2c hlt
      go_wp2_with fail
      obtain ⟨ws, rfl⟩ : ∃ ws : World, ws = wr := ⟨_, rfl⟩
      have HRw9 := Lib.hid (show Row ws A9 ((D.map (secondR p)).flatMap ptC) by
       obtain ⟨A', c', he, _, _, hr⟩ := HO9.out.sl
       injection he with e1 e2 e3
       subst e1
       exact hr)
      have HRw7s := Lib.hid (HRw7.out.mono Hb2.out)
      have HXs5 := Lib.hid (HXo5.out.keep Hb2.out)
      have Bs := Lib.hid (bT Bo.out Hb2.out)
      obtain ⟨lt, hlt'⟩ : ∃ lt, ltD p nd.pt = lt := ⟨_, rfl⟩
      have HLt := Lib.hid (show ∀ d ∈ D, ∀ e ∈ D, rlessS nd.pt (secondR p d) (secondR p e) = lt d e from fun d hd e he => by rw [← hlt', ltD_ref, HSec.out d hd, HSec.out e he])
      have HPk := Lib.hid (show ∀ m, m < D.length → pickL lt D m = (sortB lt D)[m]? from fun m hm => by rw [← hlt']; exact pick_at HOrd.out HNod.out hm)
      have hsl : (sortB lt D).length = D.length := by rw [← hlt']; exact (sortB_facts HOrd.out).1.length_eq
      have har := HAr.out
      rw [hlt'] at har
      have HLs := Lib.hid (fun a b W => rLess_spec nd.pt a b W)
      unfold ptV at HLs
      generalize sortB lt D = S at *
      subst har
      have HSl := Lib.hid hsl
      clear hlt' hsl HAr
      go_loopw [11] (fun s wr => ∃ m : Nat, m ≤ D.length ∧ (∃ A c, s = .slice A m c) ∧ Own wr ws.heap.size 3 1 inC s (q.take m) ∧ Below ws.heap.size ws wr) (fun s _ => D.length - lenV s)
      case atStart => exact ⟨0, Nat.zero_le _, ⟨none, 0, rfl⟩, Own.nil _ _ _ _ _, bR ws⟩
      case round =>
       obtain ⟨m, hm, ⟨A, c, rfl⟩, ho, hb⟩ := hrel
       have Ho3 := Lib.hid ho
       have Hb3 := Lib.hid hb
       have hzr3 := hb.size
       clear ho hb
       by_cases hlt : m < D.length
       case neg =>
        have hmm : m = D.length := by omega
        subst hmm
        have ho := Ho3.out
        rw [List.take_of_length_le (by have := HSl.out; omega)] at ho
        have HO := Lib.hid ho
        clear ho Ho3
        go_wp2_with fail
        go_ret
        exact ⟨A, c, by rw [HSl.out]; rfl, bT Bs.out Hb3.out, by rw [HSl.out]; exact HO.out.mono_base (by have := Bs.out.size; omega)⟩
       have km : (m : Int) < D.length := by omega
       have HPm := Lib.hid (HPk.out m hlt)
       have hql : m < q.length := by have := HSl.out; omega
       have HNone : Hid (¬ ∀ j (hj : j < D.length), (rankL lt D D[j] == m) = false) := Lib.hid fun h => by
        have h1 : pickL lt D m = none := List.find?_eq_none.2 (fun x hx => by
         obtain ⟨j, hj, rfl⟩ := List.mem_iff_getElem.1 hx
         rw [h j hj]; decide)
        rw [HPm.out, List.getElem?_eq_getElem hql] at h1
        cases h1
       go_wp2_with fail
       go_loopw [11, 12] (fun s i wx => ∃ i' : Nat, i' ≤ D.length ∧ i = .int .i64 i' ∧ s = .slice A m c ∧ Own wx ws.heap.size 3 1 inC (.slice A m c) (q.take m) ∧ Below ws.heap.size ws wx ∧ ∀ j (hj : j < D.length), j < i' → (rankL lt D D[j] == m) = false) (fun _ i _ => D.length - (intOf i).toNat)
       case atStart => exact ⟨0, Nat.zero_le _, rfl, rfl, Ho3.out, Hb3.out, fun _ _ h => by omega⟩
       case round =>
        obtain ⟨i', hi, rfl, rfl, ho, hb, hno⟩ := hrel
        have Ho4 := Lib.hid ho
        have Hb4 := Lib.hid hb
        have Hno := Lib.hid hno
        have hzr4 := hb.size
        clear ho hb hno
        by_cases hil : i' < D.length
        case neg => exact absurd (fun j hj => Hno.out j hj (by omega)) HNone.out
        have ki : (i' : Int) < D.length := by omega
        go_wp2_with fail
        obtain ⟨di, hdi⟩ : ∃ di, D[i'] = di := ⟨_, rfl⟩
        have HDi := Lib.hid hdi
        have HDm := Lib.hid (show di ∈ D from hdi ▸ List.getElem_mem hil)
        clear hdi
        obtain ⟨wx, rfl⟩ : ∃ wx : World, wx = wr := ⟨_, rfl⟩
        go_loopw [13, 14] (fun t u wy => ∃ j : Nat, j ≤ D.length ∧ u = .int .i64 j ∧ t = .int .i64 ((D.take j).countP (fun y => lt y di) : Nat) ∧ Below wx.heap.size wx wy) (fun _ u _ => D.length - (intOf u).toNat)
        case atStart => exact ⟨0, Nat.zero_le _, rfl, rfl, bR wx⟩
        case round =>
         obtain ⟨j, hj, rfl, rfl, hb⟩ := hrel
         have Hb5 := Lib.hid hb
         clear hb
         by_cases hjl : j < D.length
         case neg =>
          have hjj : j = D.length := by omega
          subst hjj
          rw [List.take_length]
          obtain ⟨rk, hrk⟩ : ∃ rk, D.countP (fun y => lt y di) = rk := ⟨_, rfl⟩
          rw [hrk]
          have hrk2 : rankL lt D D[i'] = rk := by rw [HDi.out]; exact hrk
          have HRk := Lib.hid hrk2
          have hrl : rk ≤ D.length := by rw [← hrk]; exact List.countP_le_length
          clear hrk hrk2
          have hdl := HOl.out
          by_cases hrm : rk = m
          ·
           subst hrm
           have hqm : q.take (rk + 1) = q.take rk ++ [di] := by
            have hg : q[rk]? = some di := by
             rw [← HPm.out]
             unfold pickL
             rw [find_hit D _ i' hil (fun j hj hji => Hno.out j hj hji) (by simpa using HRk.out), HDi.out]
            rw [List.take_add_one, hg]; rfl
           have HQm := Lib.hid hqm
           have htl : (q.take rk).length = rk := by rw [List.length_take]; omega
           have HTl := Lib.hid htl
           clear hqm htl
           obtain ⟨bd, od, hAd, hld, c0⟩ := (HRw7s.out.mono (bT Hb4.out Hb5.out)).int hil
           subst hAd
           rw [HDi.out] at c0
           have HO5 := Lib.hid (Ho4.out.keep Hb5.out)
           have hz5 := Hb5.out.size
           go_wp2_with
            (at_builtin
             refine wpList_appl _ rfl (.tmp 114) (.tmp 119) _ rfl (base := ws.heap.size) elem_in inC_len inC_one rfl (Own.alloc HO5.out _) rfl (l2 := [di]) (Sl.lit (n := 1) (Blk.made rfl _ _) rfl (le_maxLen (by omega))) (by have := HTl.out; simp only [List.length_cons, List.length_nil]; omega) (by have := HTl.out; simp only [List.length_cons, List.length_nil]; omega) (by simp; omega) ?_
             intro v9 w9 ho9 hg9 hat9
             rw [← HQm.out] at ho9
             obtain ⟨A0, c9', hv9, -⟩ := Own.shape ho9
             rw [show (q.take (rk + 1)).length = rk + 1 by rw [HQm.out, List.length_append, HTl.out]; rfl] at hv9
             subst hv9
             have HO9' := Lib.hid ho9
             have HB9' := Lib.hid (bG (bA (bT Hb4.out Hb5.out) _) hg9 (fun g hg => (HO5.out.lt g hg).1))
             clear ho9 hg9 hat9)
           exact ⟨⟨rk + 1, by omega, ⟨A0, c9', rfl⟩, HO9'.out, HB9'.out⟩, by simp only [lenV]; omega⟩
          ·
           have hne : ((rk : Int) == (m : Int)) = false := by simpa using (show ¬ (rk : Int) = m by omega)
           have hsucc : ∀ j (hj : j < D.length), j < i' + 1 → (rankL lt D D[j] == m) = false := fun j hj hji => by
            by_cases e : j = i'
            · subst e; rw [HRk.out]; simpa using hrm
            · exact Hno.out j hj (by omega)
           have HSu := Lib.hid hsucc
           clear hsucc hrm
           by_cases hlast : i' + 1 = D.length
           · exact absurd (fun j hj => HSu.out j hj (by omega)) HNone.out
           have hl2 : ((i' : Int) == (D.length : Int) - 1) = false := by simpa using (show ¬ (i' : Int) = (D.length : Int) - 1 by omega)
           go_wp2_with fail
           go_roundw
           case rel => exact ⟨i' + 1, by omega, by go_num, rfl, Ho4.out.keep Hb5.out, bT Hb4.out Hb5.out, HSu.out⟩
           case measure => simp [intOf]; omega
         obtain ⟨b5, o5, hA5, hlb5, e0, e1⟩ := (HRw9.out.mono (bT Hb4.out Hb5.out)).pt (k := j) (by rw [List.length_map]; exact hjl)
         subst hA5
         obtain ⟨b6, o6, he6, -, f0, f1⟩ := (HRw9.out.mono (bT Hb4.out Hb5.out)).pt (k := i') (by rw [List.length_map]; exact hil)
         simp only [Option.some.injEq, Addr.mk.injEq, and_true] at he6
         obtain ⟨rfl, rfl⟩ := he6
         rw [List.getElem_map] at e0 e1 f0 f1
         have hl : rlessS nd.pt (secondR p D[j]) (secondR p D[i']) = lt D[j] di := by rw [HLt.out D[j] (List.getElem_mem hjl) D[i'] (List.getElem_mem hil), HDi.out]
         have HL1 := Lib.hid (HLs.out (secondR p D[j]) (secondR p D[i']))
         rw [hl] at HL1
         have hst : (D.take (j + 1)).countP (fun y => lt y di) = (D.take j).countP (fun y => lt y di) + (if lt D[j] di = true then 1 else 0) := by
          rw [List.take_succ_eq_append_getElem hjl, List.countP_append, List.countP_singleton]
         have hcl : (D.take j).countP (fun y => lt y di) ≤ j := Nat.le_trans List.countP_le_length (List.length_take_le _ _)
         have hdl := HOl.out
         have HSt := Lib.hid hst
         clear hst hl
         generalize (D.take j).countP (fun y => lt y di) = ct at *
         generalize lt D[j] di = z at *
         generalize secondR p D[j] = pj at *
         generalize secondR p D[i'] = pi at *
         have kj : (j : Int) < D.length := by omega
         have X5 := HXs5.out.keep (bT Hb4.out Hb5.out)
         obtain ⟨X5l, X5a, X5b, X5c, -, -, -⟩ := X5.facts3
         go_upto_region 26 with fail
         refine rg_start (Since wr) (.run 10 0 0 (.call 10 2047 (.done))) (by kernel_rfl) (bD (bR _)) (by kernel_rfl) (by kernel_rfl) (Nat.le_of_ble_eq_true (by kernel_rfl)) ?_
         intro opsR QR Hops HQrg hS
         iterate 10
          apply rg_p; exact Hops; exact rfl; exact hS; exact rfl
          · intro _ hqc; go_simp; try rfl
          try simp only [pu]
         refine rg_call (i := 10) (get_of Hops rfl) (fun K hK => ?_)
         have HSrg := Lib.hid hS; clear hS
         refine rg_run (wanted_plain rfl) ?_
         go_simp
         refine (HL1.out _).mono ?_
         rintro e wr1 ⟨rfl, hbr1⟩
         have hS : Since wr wr1 := bT (w := wr) HSrg.out hbr1
         clear HSrg
         refine hK.out _ _ hS (fun _ => ?_)
         clear hK K
         try simp only [pu]
         refine rg_done ?_
         refine HQrg.down _ _ ?_
         have hB : Below wr.heap.size wr wr1 := hS
         clear hS HQrg Hops
         clear X5 X5l X5a X5b X5c e0 e1 f0 f1 kj hlb5
         cases z
         ·
          go_wp2_with fail
          go_roundw
          case rel => exact ⟨j + 1, by omega, by go_num, by rw [HSt.out]; rfl, bT Hb5.out hB⟩
          case measure => simp [intOf]; omega
         ·
          go_wp2_with fail
          go_roundw
          case rel => exact ⟨j + 1, by omega, by go_num, by rw [HSt.out, if_pos rfl]; go_num, bT Hb5.out hB⟩
          case measure => simp [intOf]; omega
     obtain ⟨bd, od, rfl, hld, -⟩ := HRw7.out.int hlt
     obtain ⟨b_, o_, he_, -, c0⟩ := (HRw7.out.mono Hb2.out).int hlt
     simp only [Option.some.injEq, Addr.mk.injEq, and_true] at he_
     obtain ⟨rfl, rfl⟩ := he_
     have hwo : w.heap.size < wo.heap.size := HXo2.out.lt
     have HSd := Lib.hid (HSc.out D[k] (HDb.out _ (List.getElem_mem hlt)))
     have hst : (D.take (k + 1)).map (secondR p) = (D.take k).map (secondR p) ++ [secondR p D[k]] := by rw [List.take_succ_eq_append_getElem hlt, List.map_append]; rfl
     have HSt := Lib.hid hst
     have HLl := Lib.hid (show ((D.take k).map (secondR p)).length ≤ 512 by have := HOl.out; rw [List.length_map, List.length_take]; omega)
     clear hst
     generalize (D.take k).map (secondR p) = L at *
     generalize secondR p D[k] = p2 at *
     generalize D[k] = d at *
     have k4 : (k : Int) < D.length := by omega
     obtain ⟨s, rfl⟩ : ∃ s : Value, s = u9 := ⟨_, rfl⟩
     go_upto_region 16 with fail
     refine rg_start (SinceB (wo.heap.size) wr) (.run 6 0 0 (.call 6 127 (.call 7 255 (.call 8 511 (.take 9 1023 (.done)))))) (by kernel_rfl) (Below.drew (Below.refl _ _)) (by kernel_rfl) (by kernel_rfl) (Nat.le_of_ble_eq_true (by kernel_rfl)) ?_
     intro opsR QR Hops HQrg hS
     iterate 6
      apply rg_pB; exact Hops; exact rfl; exact hS; exact rfl
      · intro _ hqc; go_simp; try rfl
      try simp only [pu]
     refine rg_call (i := 6) (get_of Hops rfl) (fun K hK => ?_)
     have HSrg := Lib.hid hS; clear hS
     refine rg_run (wanted_plain rfl) ?_
     go_simp
     refine (HSd.out _ (bT (bT Bo.out Hb2.out) (bD (bR wr)))).mono ?_
     rintro e wy ⟨rfl, hby⟩
     have hS : SinceB wo.heap.size wr wy := Below.trans HSrg.out (hby.mono (by have := (Below.size HSrg.out); omega))
     have hzy := hby.size
     simp only [World.size_drew] at hzy
     have HBy := Lib.hid (show Below wr.heap.size wr wy from bT (bD (bR wr)) hby)
     clear hby
     clear HSrg
     refine hK.out _ _ hS (fun _ => ?_)
     clear hK K
     try simp only [pu]
     refine rg_call (i := 7) (get_of Hops rfl) (fun K hK => ?_)
     have HSrg := Lib.hid hS; clear hS
     refine rg_run (wanted_plain rfl) ?_
     go_simp
     refine hK.out _ _ (bAB (by omega) HSrg.out _) (fun hS => ?_)
     clear hK K HSrg
     try simp only [pu]
     refine rg_call (i := 8) (get_of Hops rfl) (fun K hK => ?_)
     have HSrg := Lib.hid hS; clear hS
     refine rg_run (wanted_plain rfl) ?_
     refine wp_appl (.tmp 71) (.tmp 78) _ rfl (base := wo.heap.size) (l := L) (l2 := [p2]) elem_pt ptC_len ptC_one rfl (Own.alloc (Ho2.out.keep HBy.out) _) rfl (Pts.one (x := p2) (Blk.made rfl _ _)) (by have := HLl.out; simp only [List.length_cons, List.length_nil]; omega) (by have := HLl.out; simp only [List.length_cons, List.length_nil]; omega) (by simp; omega) ?_
     intro v9 wn hon9 hgn hatn
     have Hon9 := Lib.hid hon9
     have hS : SinceB wo.heap.size wr wn := Below.grown (Below.alloc (HBy.out.mono (by omega)) (by omega) _) hgn (by simp; omega) (fun g hg => (Ho2.out.lt g hg).1)
     clear hon9 hgn hatn
     clear HSrg
     refine hK.out _ _ hS (fun _ => ?_)
     clear hK K
     try simp only [pu]
     apply rg_pB; exact Hops; exact rfl; exact hS; exact rfl
     · intro _ hqc; go_simp; try rfl
     try simp only [pu]
     refine rg_done ?_
     refine HQrg.down _ _ ?_
     have hB : Below (wo.heap.size) wr _ := hS
     clear hS HQrg Hops
     go_wp2_with fail
     go_roundw
     case rel => exact ⟨k + 1, by omega, by go_num, by rw [HSt.out]; exact Hon9.out, Below.trans Hb2.out hB⟩
     case measure => simp [intOf]; omega
   have hst : dartL (p.arcs.take (k + 1)) nd.id = dartL (p.arcs.take k) nd.id ++ ((if al[k].1.fr = nd.id then [al[k].1.id] else []) ++ (if al[k].1.dst = nd.id then [-al[k].1.id] else [])) := by
    have h1 : k < p.arcs.length := by rw [HPa.out, List.length_map]; exact hlt
    have h2 := dartL_take p.arcs nd.id k h1
    have h3 : p.arcs[k] = al[k].1 := by simp only [HPa.out, List.getElem_map]
    rw [h3] at h2; exact h2
   have hid := HId.out k hlt
   have hlen := dartL_len (p.arcs.take k) nd.id
   have hlen2 : (p.arcs.take k).length ≤ k := List.length_take_le _ _
   obtain ⟨b, o, rfl, hlb, c0, c1, c2, -⟩ := (HR.out.mono (bT B5.out Hb.out)).ar hlt
   have HSt := Lib.hid hst
   have HLl := Lib.hid (show (dartL (p.arcs.take k) nd.id).length ≤ 512 by omega)
   obtain ⟨D1, hD1⟩ : ∃ D1, dartL (p.arcs.take (k + 1)) nd.id = D1 := ⟨_, rfl⟩
   rw [hD1] at HSt
   have HD1 := Lib.hid hD1
   clear hst hlen hlen2 hD1
   generalize dartL (p.arcs.take k) nd.id = D0 at *
   obtain ⟨a, ha⟩ : ∃ a, al[k].1 = a := ⟨_, rfl⟩
   rw [ha] at hid HSt c0 c1 c2
   have HAk := Lib.hid ha
   clear ha
   have hneg : IntKind.i64.wrap (-a.id) = -a.id := IntWalk.i64_in _ (by omega)
   have k4 : (k : Int) < al.length := by omega
   clear hid
   obtain ⟨s, rfl⟩ : ∃ s : Value, s = u7 := ⟨_, rfl⟩
   cases hb1 : (a.fr == nd.id)
   case false =>
    cases hb2 : (a.dst == nd.id)
    case false =>
     have hD : D1 = D0 := by rw [HSt.out, if_neg (by simpa using hb1), if_neg (by simpa using hb2)]; simp
     go_wp2_with fail
     go_roundw
     case rel => exact ⟨k + 1, by omega, by go_num, by rw [HD1.out.trans hD]; exact Ho.out, Hb.out⟩
     case measure => simp [intOf]; omega
    case true =>
     have hD : D1 = D0 ++ [-a.id] := by rw [HSt.out, if_neg (by simpa using hb1), if_pos (by simpa using hb2)]; simp
     go_wp2_with
      (at_builtin
       refine wpList_appl _ rfl (.tmp 55) (.tmp 63) _ rfl (base := W5.heap.size) (l := D0) elem_in inC_len inC_one rfl (Own.alloc Ho.out _) rfl (l2 := [-a.id]) (Sl.lit (n := 1) (Blk.made rfl _ _) rfl (le_maxLen (by omega))) (by have := HLl.out; simp only [List.length_append, List.length_cons, List.length_nil]; omega) (by have := HLl.out; simp only [List.length_append, List.length_cons, List.length_nil]; omega) (by simp; omega) ?_
       intro v9 w9 ho9 hg9 hat9
       have HO9 := Lib.hid ho9
       have HB9 := Lib.hid (Below.grown (Below.alloc Hb.out (by omega) _) hg9 (by simp; omega) (fun g hg => (Ho.out.lt g hg).1))
       have hz9 := HB9.out.size
       replace X2 := HX2.out.keep HB9.out
       have HC9 := Lib.hid (HR.out.mono (bT B5.out HB9.out))
       obtain ⟨b_, o_, he_, -, d0, d1, d2, -⟩ := HC9.out.ar hlt
       simp only [Option.some.injEq, Addr.mk.injEq, and_true] at he_
       obtain ⟨rfl, rfl⟩ := he_
       rw [HAk.out] at d0 d1 d2
       clear ho9 hg9 hat9 X2l X2a X2b X2c
       try clear X2l
       try clear X2a
       try clear X2b
       try clear X2c
       obtain ⟨X2l, X2a, X2b, X2c, -, -, -⟩ := X2.facts3
       )
     go_roundw
     case rel => exact ⟨k + 1, by omega, by go_num, by rw [HD1.out.trans hD]; exact HO9.out, HB9.out⟩
     case measure => simp [intOf]; omega
   case true =>
    cases hb2 : (a.dst == nd.id)
    case false =>
     have hD : D1 = D0 ++ [a.id] := by rw [HSt.out, if_pos (by simpa using hb1), if_neg (by simpa using hb2)]; simp
     go_wp2_with
      (at_builtin
       refine wpList_appl _ rfl (.tmp 38) (.tmp 45) _ rfl (base := W5.heap.size) (l := D0) elem_in inC_len inC_one rfl (Own.alloc Ho.out _) rfl (l2 := [a.id]) (Sl.lit (n := 1) (Blk.made rfl _ _) rfl (le_maxLen (by omega))) (by have := HLl.out; simp only [List.length_append, List.length_cons, List.length_nil]; omega) (by have := HLl.out; simp only [List.length_append, List.length_cons, List.length_nil]; omega) (by simp; omega) ?_
       intro v8 w8 ho8 hg8 hat8
       have HO8 := Lib.hid ho8
       have HB8 := Lib.hid (Below.grown (Below.alloc Hb.out (by omega) _) hg8 (by simp; omega) (fun g hg => (Ho.out.lt g hg).1))
       have hz8 := HB8.out.size
       replace X2 := HX2.out.keep HB8.out
       have HC8 := Lib.hid (HR.out.mono (bT B5.out HB8.out))
       obtain ⟨b_, o_, he_, -, d0, d1, d2, -⟩ := HC8.out.ar hlt
       simp only [Option.some.injEq, Addr.mk.injEq, and_true] at he_
       obtain ⟨rfl, rfl⟩ := he_
       rw [HAk.out] at d0 d1 d2
       clear ho8 hg8 hat8 X2l X2a X2b X2c
       try clear X2l
       try clear X2a
       try clear X2b
       try clear X2c
       obtain ⟨X2l, X2a, X2b, X2c, -, -, -⟩ := X2.facts3
       )
     go_roundw
     case rel => exact ⟨k + 1, by omega, by go_num, by rw [HD1.out.trans hD]; exact HO8.out, HB8.out⟩
     case measure => simp [intOf]; omega
    case true =>
     have hD : D1 = D0 ++ [a.id] ++ [-a.id] := by rw [HSt.out, if_pos (by simpa using hb1), if_pos (by simpa using hb2)]; simp
     go_upto_region 10 with
      (at_builtin
       refine wpList_appl _ rfl (.tmp 38) (.tmp 45) _ rfl (base := W5.heap.size) (l := D0) elem_in inC_len inC_one rfl (Own.alloc Ho.out _) rfl (l2 := [a.id]) (Sl.lit (n := 1) (Blk.made rfl _ _) rfl (le_maxLen (by omega))) (by have := HLl.out; simp only [List.length_append, List.length_cons, List.length_nil]; omega) (by have := HLl.out; simp only [List.length_append, List.length_cons, List.length_nil]; omega) (by simp; omega) ?_
       intro v8 w8 ho8 hg8 hat8
       have HO8 := Lib.hid ho8
       have HB8 := Lib.hid (Below.grown (Below.alloc Hb.out (by omega) _) hg8 (by simp; omega) (fun g hg => (Ho.out.lt g hg).1))
       have hz8 := HB8.out.size
       replace X2 := HX2.out.keep HB8.out
       have HC8 := Lib.hid (HR.out.mono (bT B5.out HB8.out))
       obtain ⟨b_, o_, he_, -, d0, d1, d2, -⟩ := HC8.out.ar hlt
       simp only [Option.some.injEq, Addr.mk.injEq, and_true] at he_
       obtain ⟨rfl, rfl⟩ := he_
       rw [HAk.out] at d0 d1 d2
       clear ho8 hg8 hat8 X2l X2a X2b X2c
       try clear X2l
       try clear X2a
       try clear X2b
       try clear X2c
       obtain ⟨X2l, X2a, X2b, X2c, -, -, -⟩ := X2.facts3
       )
     have hz8' := HO8.out
     go_wp2_with
      (at_builtin
       refine wpList_appl _ rfl (.tmp 55) (.tmp 63) _ rfl (base := W5.heap.size) (l := D0 ++ [a.id]) elem_in inC_len inC_one rfl (Own.alloc HO8.out _) rfl (l2 := [-a.id]) (Sl.lit (n := 1) (Blk.made rfl _ _) rfl (le_maxLen (by omega))) (by have := HLl.out; simp only [List.length_append, List.length_cons, List.length_nil]; omega) (by have := HLl.out; simp only [List.length_append, List.length_cons, List.length_nil]; omega) (by simp; omega) ?_
       intro v9 w9 ho9 hg9 hat9
       have HO9 := Lib.hid ho9
       have HB9 := Lib.hid (Below.grown (Below.alloc HB8.out (by omega) _) hg9 (by simp; omega) (fun g hg => (HO8.out.lt g hg).1))
       have hz9 := HB9.out.size
       replace X2 := HX2.out.keep HB9.out
       have HC9 := Lib.hid (HR.out.mono (bT B5.out HB9.out))
       obtain ⟨b_, o_, he_, -, d0, d1, d2, -⟩ := HC9.out.ar hlt
       simp only [Option.some.injEq, Addr.mk.injEq, and_true] at he_
       obtain ⟨rfl, rfl⟩ := he_
       rw [HAk.out] at d0 d1 d2
       clear ho9 hg9 hat9 X2l X2a X2b X2c
       try clear X2l
       try clear X2a
       try clear X2b
       try clear X2c
       obtain ⟨X2l, X2a, X2b, X2c, -, -, -⟩ := X2.facts3
       )
     go_roundw
     case rel => exact ⟨k + 1, by omega, by go_num, by rw [HD1.out.trans hD]; exact HO9.out, HB9.out⟩
     case measure => simp [intOf]; omega
end Go.Proofs.YtoclnkfeblfpbaaGreat
namespace Go.Proofs.YtoclnkfeblfpbaaGreat
open Go.RowKit

/-- the darts, and the dart that follows each -/
def RetFlw (w : World) (l : List (Int × Int)) (e : Ending) (w' : World) : Prop :=
 ∃ A c A' c', e = .returned (.tuple #[.slice A l.length c, .slice A' l.length c']) ∧ Below w.heap.size w w' ∧ Own w' w.heap.size 3 1 inC (.slice A l.length c) (l.map (·.1)) ∧ Own w' w.heap.size 3 1 inC (.slice A' l.length c') (l.map (·.2))
def SepV (u v : Value) : Prop := ∀ g, u.ownBlock = some g → v.ownBlock ≠ some g

set_option maxRecDepth 100000 in
set_option maxHeartbeats 8000000 in
theorem followers_spec (v : Value) (p : Pl) (w : World) (h : PlV w v p) (hv : Valid p) :
  Calls Tryz.prog 36 #[v] w (RetFlw w (prL p p.nodes.length)) := by
 have HAr := Lib.hid (fun n W (hW : Below w.heap.size w W) => Around15_spec v p n W (h.mono hW) hv)
 obtain ⟨_, _, _, al, rfl, hpa, ⟨An, cn, rfl, hn1, hn2, hR⟩, ⟨⟨Aa, ca, rfl, -⟩, -⟩, ⟨Af, cf, rfl, -⟩⟩ := h
 unfold maxLen at hn2
 have HR := Lib.hid hR; have HV := Lib.hid hv
 have hnl := hv.nodes_len
 generalize al.length = na at *
 generalize p.faces.length = nf at *
 obtain ⟨nn, hnn⟩ : ∃ nn, p.nodes.length = nn := ⟨_, rfl⟩
 rw [hnn] at hn1 hnl HAr ⊢
 have HNN := Lib.hid hnn
 obtain ⟨q, hq⟩ : ∃ q, prL p nn = q := ⟨_, rfl⟩
 rw [hq]
 have Hq := Lib.hid hq
 clear hpa hR hv hnn hq
 go_enter Tryz.func36, Tryz.ntmps36
 go_upto_region 1 with fail
 obtain ⟨W1, hW⟩ : ∃ W : World, W = w.alloc (.cells #[.slice An nn cn, .slice Aa na ca, .slice Af nf cf] 26) := ⟨_, rfl⟩
 have B1 := Lib.hid (show Below w.heap.size w W1 by rw [hW]; exact bA (bR w) _)
 have X1 : Blk W1 w.heap.size 26 #[.slice An nn cn, .slice Aa na ca, .slice Af nf cf] := by rw [hW]; exact Blk.made rfl _ _
 rw [← hW]
 clear hW
 have HX1 := Lib.hid X1
 obtain ⟨X1l, X1a, X1b, X1c, -, -, -⟩ := X1.facts3
 go_upto_block 0 with fail
 go_wp2_with fail
 go_loopw [4, 5, 6] (fun s t i wr => ∃ k : Nat, k ≤ nn ∧ i = .int .i64 k ∧ (∃ A c, s = .slice A (prL p k).length c) ∧ (∃ A c, t = .slice A (prL p k).length c) ∧ Own wr W1.heap.size 3 1 inC s ((prL p k).map (·.1)) ∧ Own wr W1.heap.size 3 1 inC t ((prL p k).map (·.2)) ∧ SepV s t ∧ Below W1.heap.size W1 wr) (fun _ _ i _ => nn - (intOf i).toNat)
 case atStart => exact ⟨0, Nat.zero_le _, rfl, ⟨none, 0, rfl⟩, ⟨none, 0, rfl⟩, Own.nil _ _ _ _ _, Own.nil _ _ _ _ _, (fun g hg => by simp [Value.ownBlock] at hg), bR W1⟩
 case round =>
  obtain ⟨k, hk, rfl, ⟨A, c, rfl⟩, ⟨A', c', rfl⟩, own, own', sep, hb⟩ := hrel
  obtain ⟨wo, rfl⟩ : ∃ wo : World, wo = wr := ⟨_, rfl⟩
  have hlk := aroundL_len HV.out k
  rw [← prL_len] at hlk
  have HO := Lib.hid own; have HO' := Lib.hid own'; have HSp := Lib.hid sep; have Hb := Lib.hid hb
  have hzo := hb.size
  have X2 := HX1.out.keep hb
  clear own own' sep hb X1 X1l X1a X1b X1c
  by_cases hlt : k < nn
  ·
   have hkn : k < p.nodes.length := by have := HNN.out; omega
   obtain ⟨b, o, rfl, hlb, c0, c1, c2⟩ := (HR.out.mono (bT B1.out Hb.out)).nd hkn
   have hsuc := prL_succ p k hkn
   have hql := HV.out.around_len p.nodes[k].id
   have HBd := Lib.hid (fun d (hd : d ∈ aroundD p p.nodes[k].id) => HV.out.dart_bd (HV.out.next_around (List.getElem_mem hkn) hd).2)
   have HAn := Lib.hid (HAr.out p.nodes[k].id)
   generalize p.nodes[k] = nd at *
   have HSuc := Lib.hid hsuc
   clear hsuc
   obtain ⟨L, hL⟩ : ∃ L, prL p k = L := ⟨_, rfl⟩
   obtain ⟨Q, hQ⟩ : ∃ Q, aroundD p nd.id = Q := ⟨_, rfl⟩
   rw [hL] at hlk HSuc HO HO' HSp ⊢
   rw [hQ] at HSuc hql HAn HBd
   clear hL hQ
   obtain ⟨X2l, X2a, X2b, X2c, -, -, -⟩ := X2.facts3
   go_upto_region 5 with fail
   refine rg_start (Since wo) (.run 7 0 0 (.call 7 255 (.take 8 511 (.done)))) (by kernel_rfl) (bD (bR _)) (by kernel_rfl) (by kernel_rfl) (Nat.le_of_ble_eq_true (by kernel_rfl)) ?_
   intro opsR QR Hops HQrg hS
   iterate 7
    apply rg_p; exact Hops; exact rfl; exact hS; exact rfl
    · intro _ hqc; go_simp; try rfl
    try simp only [pu]
   refine rg_call (i := 7) (get_of Hops rfl) (fun K hK => ?_)
   have HSrg := Lib.hid hS; clear hS
   refine rg_run (wanted_plain rfl) ?_
   go_simp
   refine (HAn.out _ (bT B1.out (bT Hb.out (bD (bR wo))))).mono ?_
   rintro e wr1 ⟨Aq, cq, rfl, hbr1, hoq⟩
   have hS : Since wo wr1 := bT (w := wo) HSrg.out hbr1
   clear HSrg
   refine hK.out _ _ hS (fun _ => ?_)
   clear hK K
   try simp only [pu]
   apply rg_p; exact Hops; exact rfl; exact hS; exact rfl
   · intro _ hqc; go_simp; try rfl
   try simp only [pu]
   refine rg_done ?_
   refine HQrg.down _ _ ?_
   have hB : Below wo.heap.size wo wr1 := hS
   clear hS HQrg Hops
   obtain ⟨W5, hW5⟩ : ∃ W : World, W = wr1 := ⟨_, rfl⟩
   rw [← hW5] at hB hoq ⊢
   have HB5 := Lib.hid hB
   have HQ5 := Lib.hid (Own.mono_base hoq (b' := wo.heap.size) (by simp))
   have HS5 := Lib.hid (show SepV (.slice A L.length c) (.slice Aq Q.length cq) from fun g hg e => by
    have h1 := (HO.out.lt g hg).2
    have h2 := (HQ5.out.lt g e).1
    omega)
   have HS5' := Lib.hid (show SepV (.slice A' L.length c') (.slice Aq Q.length cq) from fun g hg e => by
    have h1 := (HO'.out.lt g hg).2
    have h2 := (HQ5.out.lt g e).1
    omega)
   have hz5 := HB5.out.size
   clear hB hoq hbr1 hW5 c0 c1 c2 hlb X2 X2l X2a X2b X2c HAn
   go_upto_block 2 with fail
   go_wp2_with fail
   go_loopw [4, 5, 8] (fun s t i wr => ∃ j : Nat, j ≤ Q.length ∧ i = .int .i64 j ∧ (∃ A c, s = .slice A (L.length + j) c) ∧ (∃ A c, t = .slice A (L.length + j) c) ∧ Own wr W1.heap.size 3 1 inC s ((L ++ (prN Q).take j).map (·.1)) ∧ Own wr W1.heap.size 3 1 inC t ((L ++ (prN Q).take j).map (·.2)) ∧ SepV s t ∧ SepV s (.slice Aq Q.length cq) ∧ SepV t (.slice Aq Q.length cq) ∧ Own wr wo.heap.size 3 1 inC (.slice Aq Q.length cq) Q ∧ Below W1.heap.size W1 wr ∧ W5.heap.size ≤ wr.heap.size) (fun _ _ i _ => Q.length - (intOf i).toNat)
   case atStart => exact ⟨0, Nat.zero_le _, rfl, ⟨A, c, rfl⟩, ⟨A', c', rfl⟩, by rw [List.take_zero, List.append_nil]; exact HO.out.keep HB5.out, by rw [List.take_zero, List.append_nil]; exact HO'.out.keep HB5.out, HSp.out, HS5.out, HS5'.out, HQ5.out, bT Hb.out HB5.out, Nat.le_refl _⟩
   case round =>
    obtain ⟨j, hj, rfl, ⟨A3, c3, rfl⟩, ⟨A4, c4, rfl⟩, own3, own4, s34, s3q, s4q, oq, hb3, hz3⟩ := hrel
    have HO3 := Lib.hid own3; have HO4 := Lib.hid own4; have H34 := Lib.hid s34; have H3q := Lib.hid s3q; have H4q := Lib.hid s4q; have HQ := Lib.hid oq; have HB3 := Lib.hid hb3
    clear own3 own4 s34 s3q s4q oq hb3
    by_cases hlj : j < Q.length
    ·
     have hm : (j + 1) % Q.length < Q.length := Nat.mod_lt _ (by omega)
     have htk := prN_succ Q j hlj hm
     have f1 := (HQ.out.row_in).int hlj
     have f2 := (HQ.out.row_in).int hm
     obtain ⟨bq, oq', rfl, hlbq, e1⟩ := f1
     obtain ⟨b_, o_, he_, -, e2⟩ := f2
     simp only [Option.some.injEq, Addr.mk.injEq, and_true] at he_
     obtain ⟨rfl, rfl⟩ := he_
     have htm : Int.tmod ((j : Int) + 1) (Q.length : Int) = ((j + 1) % Q.length : Nat) := by
      rw [Int.tmod_eq_emod_of_nonneg (by omega), show (j : Int) + 1 = ((j + 1 : Nat) : Int) by omega]
      exact (Int.natCast_emod _ _).symm
     have hbd : -1073741824 ≤ Q[(j + 1) % Q.length] ∧ Q[(j + 1) % Q.length] ≤ 1073741824 := HBd.out _ (List.getElem_mem hm)
     have HTk := Lib.hid htk
     obtain ⟨f, hf⟩ : ∃ f, Q[j] = f := ⟨_, rfl⟩
     rw [hf] at HTk
     have HF := Lib.hid hf
     clear htk hf e1
     generalize Q[(j + 1) % Q.length] = d at *
     generalize (j + 1) % Q.length = m at *
     have HLn := Lib.hid (show (L ++ (prN Q).take (j + 1)).length = L.length + (j + 1) by rw [List.length_append, List.length_take, prN_len]; omega)
     have HLj := Lib.hid (show (L ++ (prN Q).take j).length = L.length + j by rw [List.length_append, List.length_take, prN_len]; omega)
     have k1 : IntKind.i64.wrap (-d) = -d := IntWalk.i64_in _ (by omega)
     have g1 : IntKind.i64.wrap ((j : Int) + 1) = (j : Int) + 1 := IntWalk.i64_in _ (by omega)
     have g3 : ¬ (Q.length : Int) = 0 := by omega
     have g11 : ¬ Q = [] := fun e => by have := congrArg List.length e; simp only [List.length_nil] at this; omega
     have g4 : IntKind.i64.wrap (m : Int) = m := IntWalk.i64_in _ (by omega)
     have g5 : (m : Int) < Q.length := by omega
     have g6 : 0 ≤ (m : Int) := by omega
     go_upto_region 10 with
      (at_builtin
       refine wpList_appl _ rfl (.tmp 30) (.tmp 40) _ rfl (base := W1.heap.size) elem_in inC_len inC_one rfl (Own.alloc HO3.out _) rfl (l2 := [-d]) (Sl.lit (n := 1) (Blk.made rfl _ _) rfl (le_maxLen (by omega))) (by have := HLj.out; simp only [List.length_map, List.length_cons, List.length_nil]; omega) (by have := HLj.out; simp only [List.length_map, List.length_cons, List.length_nil]; omega) (by have := HB3.out.size; simp; omega) ?_
       intro v5 w5 ho5 hg5 hat5
       rw [show (L ++ (prN Q).take j).map (·.1) ++ [-d] = (L ++ (prN Q).take (j + 1)).map (·.1) by rw [HTk.out]; simp only [List.map_append, List.map_cons, List.map_nil, List.append_assoc]] at ho5
       obtain ⟨A5, c5, hv5, -⟩ := Own.shape_ ho5
       rw [List.length_map, HLn.out] at hv5
       subst hv5
       have HO5 := Lib.hid ho5
       have HQ5' := Lib.hid (Own.grown (Own.alloc HQ.out _) hg5 (fun g hg e => H3q.out g e.symm hg))
       have HO45 := Lib.hid (Own.grown (Own.alloc HO4.out _) hg5 (fun g hg e => H34.out g e.symm hg))
       have hat5' : ∀ g, (Value.slice A5 (L.length + (j + 1)) c5).ownBlock = some g → (Value.slice A3 (L.length + j) c3).ownBlock = some g ∨ g = wr.heap.size + 1 := fun g hg => by
        rcases hat5 with h | h
        · exact .inl (h.symm.trans hg)
        · rw [hg] at h; have := Option.some.inj h; simp at this; exact .inr this
       have H54 := Lib.hid (show SepV (.slice A5 (L.length + (j + 1)) c5) (.slice A4 (L.length + j) c4) from fun g hg e => by
        rcases hat5' g hg with h | h
        · exact H34.out g h e
        · have := (HO4.out.lt g e).2; omega)
       have H5q := Lib.hid (show SepV (.slice A5 (L.length + (j + 1)) c5) (.slice (some ⟨bq, oq', none⟩) Q.length cq) from fun g hg e => by
        rcases hat5' g hg with h | h
        · exact H3q.out g h e
        · have := (HQ.out.lt g e).2; omega)
       have HB5' := Lib.hid (bG (bA HB3.out _) hg5 (fun g hg => (HO3.out.lt g hg).1))
       have hz5' : wr.heap.size < w5.heap.size := by have := hg5.size; simp at this; omega
       clear ho5 hg5 hat5 hat5'
       )
     clear e2 htm g1 g3 g4 g5 g6 g11 k1 hbd
     obtain ⟨b_, o_, he_, hlb5, e1⟩ := (HQ5'.out.row_in).int hlj
     simp only [Option.some.injEq, Addr.mk.injEq, and_true] at he_
     obtain ⟨rfl, rfl⟩ := he_
     rw [HF.out] at e1
     go_upto_region 8 with
      (at_builtin
       refine wpList_appl _ rfl (.tmp 42) (.tmp 47) _ rfl (base := W1.heap.size) elem_in inC_len inC_one rfl (Own.alloc HO45.out _) rfl (l2 := [f]) (Sl.lit (n := 1) (Blk.made rfl _ _) rfl (le_maxLen (by omega))) (by have := HLj.out; simp only [List.length_map, List.length_cons, List.length_nil]; omega) (by have := HLj.out; simp only [List.length_map, List.length_cons, List.length_nil]; omega) (by have := HB5'.out.size; simp; omega) ?_
       intro v6 w6 ho6 hg6 hat6
       rw [show (L ++ (prN Q).take j).map (·.2) ++ [f] = (L ++ (prN Q).take (j + 1)).map (·.2) by rw [HTk.out]; simp only [List.map_append, List.map_cons, List.map_nil, List.append_assoc]] at ho6
       obtain ⟨A6, c6, hv6, -⟩ := Own.shape_ ho6
       rw [List.length_map, HLn.out] at hv6
       subst hv6
       have HO6 := Lib.hid ho6
       have HQ6 := Lib.hid (Own.grown (Own.alloc HQ5'.out _) hg6 (fun g hg e => H4q.out g e.symm hg))
       have HO56 := Lib.hid (Own.grown (Own.alloc HO5.out _) hg6 (fun g hg e => H54.out g hg e.symm))
       have hat6' : ∀ g, (Value.slice A6 (L.length + (j + 1)) c6).ownBlock = some g → (Value.slice A4 (L.length + j) c4).ownBlock = some g ∨ g = w5.heap.size + 1 := fun g hg => by
        rcases hat6 with h | h
        · exact .inl (h.symm.trans hg)
        · rw [hg] at h; have := Option.some.inj h; simp at this; exact .inr this
       have H56 := Lib.hid (show SepV (.slice A5 (L.length + (j + 1)) c5) (.slice A6 (L.length + (j + 1)) c6) from fun g hg e => by
        rcases hat6' g e with h | h
        · exact H54.out g hg h
        · have := (HO5.out.lt g hg).2; omega)
       have H6q := Lib.hid (show SepV (.slice A6 (L.length + (j + 1)) c6) (.slice (some ⟨bq, oq', none⟩) Q.length cq) from fun g hg e => by
        rcases hat6' g hg with h | h
        · exact H4q.out g h e
        · have := (HQ5'.out.lt g e).2; omega)
       have HB6 := Lib.hid (bG (bA HB5'.out _) hg6 (fun g hg => (HO45.out.lt g hg).1))
       have hz6 : w5.heap.size < w6.heap.size := by have := hg6.size; simp at this; omega
       clear ho6 hg6 hat6 hat6'
       )
     clear e1 hlb5
     go_wp2_with fail
     go_roundw
     case rel => exact ⟨j + 1, by omega, by go_num, ⟨A5, c5, rfl⟩, ⟨A6, c6, rfl⟩, HO56.out, HO6.out, H56.out, H5q.out, H6q.out, HQ6.out, HB6.out, by omega⟩
     case measure => simp [intOf]; omega
    ·
     obtain rfl : j = Q.length := by omega
     have ho3 := HO3.out
     have ho4 := HO4.out
     rw [prN_all] at ho3 ho4
     have HLs := Lib.hid (show (prL p (k + 1)).length = L.length + Q.length by rw [HSuc.out, List.length_append, prN_len])
     have HO3' := Lib.hid ho3; have HO4' := Lib.hid ho4
     clear ho3 ho4
     go_wp2_with fail
     go_roundw
     case rel => exact ⟨k + 1, by omega, by go_num, ⟨A3, c3, by rw [HLs.out]⟩, ⟨A4, c4, by rw [HLs.out]⟩, by rw [HSuc.out]; exact HO3'.out, by rw [HSuc.out]; exact HO4'.out, H34.out, HB3.out⟩
     case measure => simp [intOf]; omega
  ·
   obtain rfl : k = nn := by omega
   rw [Hq.out] at HO HO' ⊢
   try clear X2l
   try clear X2a
   try clear X2b
   try clear X2c
   obtain ⟨X2l, X2a, X2b, X2c, -, -, -⟩ := X2.facts3
   go_wp2_with fail
   go_ret2
   exact ⟨A, c, A', c', rfl, bT B1.out Hb.out, HO.out.mono_base B1.out.size, HO'.out.mono_base B1.out.size⟩
end Go.Proofs.YtoclnkfeblfpbaaGreat
