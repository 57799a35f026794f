/- ref15.Around. -/
import Derived.Test.YtoclnkfeblfpbaaGreatRefB15
import Derived.Test.YtoclnkfeblfpbaaGreatPRank
import Derived.Test.YtoclnkfeblfpbaaGreatJ07
set_option linter.unusedSimpArgs false
set_option linter.unusedVariables false
namespace Go.Proofs.YtoclnkfeblfpbaaGreat
open Go.RowKit Go.Sort

set_option maxRecDepth 100000 in
set_option maxHeartbeats 8000000 in
theorem Around15_spec (v : Value) (p : Pl) (n : Int) (w : World) (h : PlV w v p) (hv : Valid p) :
    Calls Tryz.prog 68 #[v, .int .i64 n] w (RetOwnI w (aroundD p n)) := by
  have HNd := Lib.hid (fun W (hW : Below w.heap.size w W) => RNode_spec v p n W (h.mono hW))
  have HSc := Lib.hid (fun d (hd : -9223372036854775808 < d ∧ d ≤ 9223372036854775807) W (hW : Below w.heap.size w W) => second15_spec v p d W (h.mono hW) hv.short hd)
  obtain ⟨_, _, _, al, rfl, hpa, ⟨An, cn, rfl, -⟩, ⟨⟨Aa, ca, rfl, hn1, hn2, hR⟩, -⟩, ⟨Af, cf, rfl, -⟩⟩ := h
  unfold maxLen at hn2
  have HR := Lib.hid hR
  have HV := Lib.hid hv
  have HPa := Lib.hid hpa
  have hall : al.length ≤ 256 := by
    have hl := hv.lim
    unfold limS at hl
    simp only [Bool.or_eq_false_iff, decide_eq_false_iff_not] at hl
    have h2 := hl.2
    rw [hpa, List.length_map] at h2
    omega
  have HId := Lib.hid (show ∀ k (hk : k < al.length), 1 ≤ al[k].1.id ∧ al[k].1.id ≤ 1073741824 from fun k hk => hv.id_pos (by rw [hpa]; exact List.mem_map_of_mem (List.getElem_mem hk)))
  generalize hnn : p.nodes.length = nn at *
  generalize p.faces.length = nf at *
  obtain ⟨q, hq⟩ : ∃ q, aroundD p n = q := ⟨_, rfl⟩
  rw [hq]
  have Hq := Lib.hid hq
  clear hpa hR hv hq hnn
  go_enter Tryz.func68, Tryz.ntmps68
  go_wp2_with fail
  refine (HNd.out _ (bA (bR w) _)).mono ?_
  rintro e w1 ⟨rfl, hb1⟩
  have X2 : Blk w1 w.heap.size 26 #[.slice An nn cn, .slice Aa al.length ca, .slice Af nf cf] := (Blk.made rfl _ _).keep hb1
  have B1 := Lib.hid (bT (bA (bR w) _) hb1)
  clear hb1
  unfold ndRes ndV
  cases hfn : findNd p.nodes n with
  | none =>
    have hf : q = [] := by rw [← Hq.out]; unfold aroundD; rw [hfn]
    subst hf
    clear hfn
    simp only [Option.getD_none, Option.isSome_none]
    go_wp2_with fail
    go_ret
    exact ⟨none, 0, rfl, bA B1.out _, Own.nil _ _ _ _ _⟩
  | some nd =>
    have hnd : nd ∈ p.nodes ∧ nd.id = n := ⟨List.mem_of_find?_eq_some hfn, by have := List.find?_some hfn; simpa using this⟩
    obtain ⟨hnm, rfl⟩ := hnd
    have hAr := HV.out.around_eq hnm
    rw [Hq.out] at hAr
    have HAr := Lib.hid hAr
    have HNm := Lib.hid hnm
    clear hfn hAr hnm Hq
    simp only [Option.getD_some, Option.isSome_some]
    go_upto_region 4 with fail
    obtain ⟨W5, hW⟩ : ∃ W : World, W = w1.alloc (.cells #[.int .i64 nd.id, .int .i64 nd.pt.x, .int .i64 nd.pt.y] 43) := ⟨_, rfl⟩
    have B5 := Lib.hid (show Below w.heap.size w W5 by rw [hW]; exact bA B1.out _)
    have HX5 := Lib.hid (show Blk W5 w1.heap.size 43 #[.int .i64 nd.id, .int .i64 nd.pt.x, .int .i64 nd.pt.y] by rw [hW]; exact Blk.made rfl _ _)
    have HX2 := Lib.hid (show Blk W5 w.heap.size 26 #[.slice An nn cn, .slice Aa al.length ca, .slice Af nf cf] by rw [hW]; exact X2.alloc _)
    rw [← hW]
    clear hW X2
    obtain ⟨g5, hg5⟩ : ∃ g5, w1.heap.size = g5 := ⟨_, rfl⟩
    rw [hg5] at HX5 ⊢
    clear hg5 B1
    go_wp2_with fail
    go_loopw [7, 8] (fun s i wr => ∃ k : Nat, k ≤ al.length ∧ i = .int .i64 k ∧ Own wr W5.heap.size 3 1 inC s (dartL (p.arcs.take k) nd.id) ∧ Below W5.heap.size W5 wr) (fun _ i _ => al.length - (intOf i).toNat)
    case atStart => exact ⟨0, Nat.zero_le _, rfl, by simpa [dartL] using Own.nil W5 W5.heap.size 3 1 inC, bR W5⟩
    case round =>
      obtain ⟨k, hk, rfl, ho, hb⟩ := hrel
      have Ho := Lib.hid ho
      have Hb := Lib.hid hb
      have X2 := HX2.out.keep hb
      have hzr := hb.size
      clear ho hb
      try clear X2l
      try clear X2a
      try clear X2b
      try clear X2c
      try clear X2fa
      try clear X2fb
      try clear X2fc
      obtain ⟨X2l, X2a, X2b, X2c, -, -, -⟩ := X2.facts3
      by_cases hlt : k < al.length
      case neg =>
        have hkk : k = al.length := by omega
        subst hkk
        have ho := Ho.out
        rw [show p.arcs.take al.length = p.arcs from List.take_of_length_le (by rw [HPa.out, List.length_map]; omega)] at ho
        obtain ⟨A7, c7, rfl, h71, h72⟩ := Own.shape ho
        unfold maxLen at h72
        have HO7 := Lib.hid ho
        clear ho Ho
        go_wp2_with fail
        have hol := dartL_len p.arcs nd.id
        rw [show p.arcs.length = al.length by rw [HPa.out, List.length_map]] at hol
        have HOl := Lib.hid (show (dartL p.arcs nd.id).length ≤ 512 by omega)
        have HOrd := Lib.hid (HV.out.ordOn HNm.out)
        have HNod := Lib.hid (HV.out.dartL_nodup (n := nd.id))
        have HSec := Lib.hid (show ∀ d ∈ dartL p.arcs nd.id, secondR p d = toD p d from fun d hd => HV.out.second_eq hd)
        have HDb := Lib.hid (show ∀ d ∈ dartL p.arcs nd.id, -9223372036854775808 < d ∧ d ≤ 9223372036854775807 from fun d hd => by
          obtain ⟨a, ha, e⟩ := mem_dartL.1 hd
          have := HV.out.id_pos ha
          rcases e with ⟨rfl, -⟩ | ⟨rfl, -⟩ <;> omega)
        have HXo5 := Lib.hid (HX5.out.keep Hb.out)
        have HXo2 := Lib.hid X2
        have Bo := Lib.hid (bT B5.out Hb.out)
        have HRw7 := Lib.hid (show Row wr A7 ((dartL p.arcs nd.id).flatMap inC) by
          obtain ⟨A', c', he, _, _, hr⟩ := HO7.out.sl
          injection he with e1 e2 e3
          subst e1
          exact hr)
        clear hol X2 X2l X2a X2b X2c hlt HO7
        generalize dartL p.arcs nd.id = D at *
        obtain ⟨wo, rfl⟩ : ∃ wo : World, wo = wr := ⟨_, rfl⟩
        go_loopw [9, 10] (fun s i wr => ∃ k : Nat, k ≤ D.length ∧ i = .int .i64 k ∧ Own wr wo.heap.size 41 2 ptC s ((D.take k).map (secondR p)) ∧ Below wo.heap.size wo wr) (fun _ i _ => D.length - (intOf i).toNat)
        case atStart => exact ⟨0, Nat.zero_le _, rfl, Own.nil _ _ _ _ _, bR wo⟩
        case round =>
          obtain ⟨k, hk2, rfl, ho, hb⟩ := hrel
          have Ho2 := Lib.hid ho
          have Hb2 := Lib.hid hb
          have X2 := HXo2.out.keep hb
          have hzr2 := hb.size
          clear ho hb
          try clear X2l
          try clear X2a
          try clear X2b
          try clear X2c
          try clear X2fa
          try clear X2fb
          try clear X2fc
          obtain ⟨X2l, X2a, X2b, X2c, -, -, -⟩ := X2.facts3
          by_cases hlt : k < D.length
          case neg =>
            have hkk : k = D.length := by omega
            subst hkk
            have ho := Ho2.out
            rw [List.take_length] at ho
            obtain ⟨A9, c9, rfl, h91, h92⟩ := Own.shape ho
            unfold maxLen at h92
            rw [List.length_map] at h91
            rw [show (List.map (secondR p) D).length = D.length from List.length_map _]
            have HO9 := Lib.hid ho
            clear ho Ho2
            clear X2 X2l X2a X2b X2c hlt
            go_wp2_with fail
            obtain ⟨ws, rfl⟩ : ∃ ws : World, ws = wr := ⟨_, rfl⟩
            have HRw9 := Lib.hid (show Row ws A9 ((D.map (secondR p)).flatMap ptC) by
              obtain ⟨A', c', he, _, _, hr⟩ := HO9.out.sl
              injection he with e1 e2 e3
              subst e1
              exact hr)
            have HRw7s := Lib.hid (HRw7.out.mono Hb2.out)
            have HXs5 := Lib.hid (HXo5.out.keep Hb2.out)
            have Bs := Lib.hid (bT Bo.out Hb2.out)
            obtain ⟨lt, hlt'⟩ : ∃ lt, ltD p nd.pt = lt := ⟨_, rfl⟩
            have HLt := Lib.hid (show ∀ d ∈ D, ∀ e ∈ D, rlessS nd.pt (secondR p d) (secondR p e) = lt d e from fun d hd e he => by rw [← hlt', ltD_ref, HSec.out d hd, HSec.out e he])
            have HPk := Lib.hid (show ∀ m, m < D.length → pickL lt D m = (sortB lt D)[m]? from fun m hm => by rw [← hlt']; exact pick_at HOrd.out HNod.out hm)
            have hsl : (sortB lt D).length = D.length := by rw [← hlt']; exact (sortB_facts HOrd.out).1.length_eq
            have har := HAr.out
            rw [hlt'] at har
            have HLs := Lib.hid (fun a b W => rLess_spec nd.pt a b W)
            unfold ptV at HLs
            generalize sortB lt D = S at *
            subst har
            have HSl := Lib.hid hsl
            clear hlt' hsl HAr
            go_loopw [11] (fun s wr => ∃ m : Nat, m ≤ D.length ∧ (∃ A c, s = .slice A m c) ∧ Own wr ws.heap.size 3 1 inC s (q.take m) ∧ Below ws.heap.size ws wr) (fun s _ => D.length - lenV s)
            case atStart => exact ⟨0, Nat.zero_le _, ⟨none, 0, rfl⟩, Own.nil _ _ _ _ _, bR ws⟩
            case round =>
              obtain ⟨m, hm, ⟨A, c, rfl⟩, ho, hb⟩ := hrel
              have Ho3 := Lib.hid ho
              have Hb3 := Lib.hid hb
              have hzr3 := hb.size
              clear ho hb
              by_cases hlt : m < D.length
              case neg =>
                have hmm : m = D.length := by omega
                subst hmm
                have ho := Ho3.out
                rw [List.take_of_length_le (by have := HSl.out; omega)] at ho
                have HO := Lib.hid ho
                clear ho Ho3
                go_wp2_with fail
                go_ret
                exact ⟨A, c, by rw [HSl.out]; rfl, bT Bs.out Hb3.out, by rw [HSl.out]; exact HO.out.mono_base (by have := Bs.out.size; omega)⟩
              have km : (m : Int) < D.length := by omega
              have HPm := Lib.hid (HPk.out m hlt)
              have hql : m < q.length := by have := HSl.out; omega
              have HNone : Hid (¬ ∀ j (hj : j < D.length), (rankL lt D D[j] == m) = false) := Lib.hid fun h => by
                have h1 : pickL lt D m = none := List.find?_eq_none.2 (fun x hx => by
                  obtain ⟨j, hj, rfl⟩ := List.mem_iff_getElem.1 hx
                  rw [h j hj]; decide)
                rw [HPm.out, List.getElem?_eq_getElem hql] at h1
                cases h1
              go_wp2_with fail
              go_loopw [11, 12] (fun s i wx => ∃ i' : Nat, i' ≤ D.length ∧ i = .int .i64 i' ∧ s = .slice A m c ∧ Own wx ws.heap.size 3 1 inC (.slice A m c) (q.take m) ∧ Below ws.heap.size ws wx ∧ ∀ j (hj : j < D.length), j < i' → (rankL lt D D[j] == m) = false) (fun _ i _ => D.length - (intOf i).toNat)
              case atStart => exact ⟨0, Nat.zero_le _, rfl, rfl, Ho3.out, Hb3.out, fun _ _ h => by omega⟩
              case round =>
                obtain ⟨i', hi, rfl, rfl, ho, hb, hno⟩ := hrel
                have Ho4 := Lib.hid ho
                have Hb4 := Lib.hid hb
                have Hno := Lib.hid hno
                have hzr4 := hb.size
                clear ho hb hno
                by_cases hil : i' < D.length
                case neg => exact absurd (fun j hj => Hno.out j hj (by omega)) HNone.out
                have ki : (i' : Int) < D.length := by omega
                go_wp2_with fail
                obtain ⟨di, hdi⟩ : ∃ di, D[i'] = di := ⟨_, rfl⟩
                have HDi := Lib.hid hdi
                have HDm := Lib.hid (show di ∈ D from hdi ▸ List.getElem_mem hil)
                clear hdi
                obtain ⟨wx, rfl⟩ : ∃ wx : World, wx = wr := ⟨_, rfl⟩
                go_loopw [13, 14] (fun t u wy => ∃ j : Nat, j ≤ D.length ∧ u = .int .i64 j ∧ t = .int .i64 ((D.take j).countP (fun y => lt y di) : Nat) ∧ Below wx.heap.size wx wy) (fun _ u _ => D.length - (intOf u).toNat)
                case atStart => exact ⟨0, Nat.zero_le _, rfl, rfl, bR wx⟩
                case round =>
                  obtain ⟨j, hj, rfl, rfl, hb⟩ := hrel
                  have Hb5 := Lib.hid hb
                  clear hb
                  by_cases hjl : j < D.length
                  case neg =>
                    have hjj : j = D.length := by omega
                    subst hjj
                    rw [List.take_length]
                    obtain ⟨rk, hrk⟩ : ∃ rk, D.countP (fun y => lt y di) = rk := ⟨_, rfl⟩
                    rw [hrk]
                    have hrk2 : rankL lt D D[i'] = rk := by rw [HDi.out]; exact hrk
                    have HRk := Lib.hid hrk2
                    have hrl : rk ≤ D.length := by rw [← hrk]; exact List.countP_le_length
                    clear hrk hrk2
                    have hdl := HOl.out
                    by_cases hrm : rk = m
                    · subst hrm
                      have hqm : q.take (rk + 1) = q.take rk ++ [di] := by
                        have hg : q[rk]? = some di := by
                          rw [← HPm.out]
                          unfold pickL
                          rw [find_hit D _ i' hil (fun j hj hji => Hno.out j hj hji) (by simpa using HRk.out), HDi.out]
                        rw [List.take_add_one, hg]; rfl
                      have HQm := Lib.hid hqm
                      have htl : (q.take rk).length = rk := by rw [List.length_take]; omega
                      have HTl := Lib.hid htl
                      clear hqm htl
                      obtain ⟨bd, od, hAd, hld, c0⟩ := (HRw7s.out.mono (bT Hb4.out Hb5.out)).int hil
                      subst hAd
                      rw [HDi.out] at c0
                      have HO5 := Lib.hid (Ho4.out.keep Hb5.out)
                      have hz5 := Hb5.out.size
                      go_wp2_with
                        (at_builtin
                         refine wpList_appl _ rfl (.tmp 114) (.tmp 119) _ rfl (base := ws.heap.size) elem_in inC_len inC_one rfl (Own.alloc HO5.out _) rfl (l2 := [di]) (Sl.lit (n := 1) (Blk.made rfl _ _) rfl (le_maxLen (by omega))) (by have := HTl.out; simp only [List.length_cons, List.length_nil]; omega) (by have := HTl.out; simp only [List.length_cons, List.length_nil]; omega) (by simp; omega) ?_
                         intro v9 w9 ho9 hg9 hat9
                         rw [← HQm.out] at ho9
                         obtain ⟨A0, c9', hv9, -⟩ := Own.shape ho9
                         rw [show (q.take (rk + 1)).length = rk + 1 by rw [HQm.out, List.length_append, HTl.out]; rfl] at hv9
                         subst hv9
                         have HO9' := Lib.hid ho9
                         have HB9' := Lib.hid (bG (bA (bT Hb4.out Hb5.out) _) hg9 (fun g hg => (HO5.out.lt g hg).1))
                         clear ho9 hg9 hat9)
                      exact ⟨⟨rk + 1, by omega, ⟨A0, c9', rfl⟩, HO9'.out, HB9'.out⟩, by simp only [lenV]; omega⟩
                    · have hne : ((rk : Int) == (m : Int)) = false := by simpa using (show ¬ (rk : Int) = m by omega)
                      have hsucc : ∀ j (hj : j < D.length), j < i' + 1 → (rankL lt D D[j] == m) = false := fun j hj hji => by
                        by_cases e : j = i'
                        · subst e; rw [HRk.out]; simpa using hrm
                        · exact Hno.out j hj (by omega)
                      have HSu := Lib.hid hsucc
                      clear hsucc hrm
                      by_cases hlast : i' + 1 = D.length
                      · exact absurd (fun j hj => HSu.out j hj (by omega)) HNone.out
                      have hl2 : ((i' : Int) == (D.length : Int) - 1) = false := by simpa using (show ¬ (i' : Int) = (D.length : Int) - 1 by omega)
                      go_wp2_with fail
                      go_roundw
                      case rel => exact ⟨i' + 1, by omega, by go_num, rfl, Ho4.out.keep Hb5.out, bT Hb4.out Hb5.out, HSu.out⟩
                      case measure => simp [intOf]; omega
                  obtain ⟨b5, o5, hA5, hlb5, e0, e1⟩ := (HRw9.out.mono (bT Hb4.out Hb5.out)).pt (k := j) (by rw [List.length_map]; exact hjl)
                  subst hA5
                  obtain ⟨b6, o6, he6, -, f0, f1⟩ := (HRw9.out.mono (bT Hb4.out Hb5.out)).pt (k := i') (by rw [List.length_map]; exact hil)
                  simp only [Option.some.injEq, Addr.mk.injEq, and_true] at he6
                  obtain ⟨rfl, rfl⟩ := he6
                  rw [List.getElem_map] at e0 e1 f0 f1
                  have hl : rlessS nd.pt (secondR p D[j]) (secondR p D[i']) = lt D[j] di := by rw [HLt.out D[j] (List.getElem_mem hjl) D[i'] (List.getElem_mem hil), HDi.out]
                  have HL1 := Lib.hid (HLs.out (secondR p D[j]) (secondR p D[i']))
                  rw [hl] at HL1
                  have hst : (D.take (j + 1)).countP (fun y => lt y di) = (D.take j).countP (fun y => lt y di) + (if lt D[j] di = true then 1 else 0) := by
                    rw [List.take_succ_eq_append_getElem hjl, List.countP_append, List.countP_singleton]
                  have hcl : (D.take j).countP (fun y => lt y di) ≤ j := Nat.le_trans List.countP_le_length (List.length_take_le _ _)
                  have hdl := HOl.out
                  have HSt := Lib.hid hst
                  clear hst hl
                  generalize (D.take j).countP (fun y => lt y di) = ct at *
                  generalize lt D[j] di = z at *
                  generalize secondR p D[j] = pj at *
                  generalize secondR p D[i'] = pi at *
                  have kj : (j : Int) < D.length := by omega
                  have X5 := HXs5.out.keep (bT Hb4.out Hb5.out)
                  try clear X5l
                  try clear X5a
                  try clear X5b
                  try clear X5c
                  try clear X5fa
                  try clear X5fb
                  try clear X5fc
                  obtain ⟨X5l, X5a, X5b, X5c, -, -, -⟩ := X5.facts3
                  go_upto_region 26 with fail
                  refine rg_start (Since wr) (.take 0 1 (.take 1 3 (.take 2 7 (.take 3 15 (.take 4 31 (.take 5 63 (.take 6 127 (.take 7 255 (.take 8 511 (.take 9 1023 (.call 10 2047 (.done)))))))))))) (by kernel_rfl) (bD (bR _)) (by kernel_rfl) (by kernel_rfl) (Nat.le_of_ble_eq_true (by kernel_rfl)) ?_
                  intro opsR QR Hops HQrg hS
                  apply rg_yp (i := 0) Hops rfl hS rfl
                  · intro _ hq; clear hq; go_simp; try rfl
                  try simp only [Act.put, pu1, pu2, pu3]
                  apply rg_yp (i := 1) Hops rfl hS rfl
                  · intro wq hq; obtain ⟨hqc, -⟩ := bcell (show Below wr.heap.size wr wq from hq); clear hq; go_simp; try rfl
                  try simp only [Act.put, pu1, pu2, pu3]
                  apply rg_yp (i := 2) Hops rfl hS rfl
                  · intro _ hq; clear hq; go_simp; try rfl
                  try simp only [Act.put, pu1, pu2, pu3]
                  apply rg_yp (i := 3) Hops rfl hS rfl
                  · intro _ hq; clear hq; go_simp; try rfl
                  try simp only [Act.put, pu1, pu2, pu3]
                  apply rg_yp (i := 4) Hops rfl hS rfl
                  · intro _ hq; clear hq; go_simp; try rfl
                  try simp only [Act.put, pu1, pu2, pu3]
                  apply rg_yp (i := 5) Hops rfl hS rfl
                  · intro wq hq; obtain ⟨hqc, -⟩ := bcell (show Below wr.heap.size wr wq from hq); clear hq; go_simp; try rfl
                  try simp only [Act.put, pu1, pu2, pu3]
                  apply rg_yp (i := 6) Hops rfl hS rfl
                  · intro _ hq; clear hq; go_simp; try rfl
                  try simp only [Act.put, pu1, pu2, pu3]
                  apply rg_yp (i := 7) Hops rfl hS rfl
                  · intro _ hq; clear hq; go_simp; try rfl
                  try simp only [Act.put, pu1, pu2, pu3]
                  apply rg_yp (i := 8) Hops rfl hS rfl
                  · intro _ hq; clear hq; go_simp; try rfl
                  try simp only [Act.put, pu1, pu2, pu3]
                  apply rg_yp (i := 9) Hops rfl hS rfl
                  · intro wq hq; obtain ⟨hqc, -⟩ := bcell (show Below wr.heap.size wr wq from hq); clear hq; go_simp; try rfl
                  try simp only [Act.put, pu1, pu2, pu3]
                  refine rg_call (i := 10) (get_of Hops rfl) (fun K hK => ?_)
                  have HSrg := Lib.hid hS; clear hS
                  refine rg_run (wanted_plain rfl) ?_
                  go_simp
                  refine (HL1.out _).mono ?_
                  rintro e wr1 ⟨rfl, hbr1⟩
                  have hS : Since wr wr1 := bT (w := wr) HSrg.out hbr1
                  clear HSrg
                  refine hK.out _ _ hS (fun _ => ?_)
                  clear hK K
                  try simp only [Act.put, pu1, pu2, pu3]
                  refine rg_done ?_
                  refine HQrg.down _ _ ?_
                  have hB : Below wr.heap.size wr wr1 := hS
                  clear hS HQrg Hops
                  clear X5 X5l X5a X5b X5c e0 e1 f0 f1 kj hlb5
                  cases z
                  · go_wp2_with fail
                    go_roundw
                    case rel => exact ⟨j + 1, by omega, by go_num, by rw [HSt.out]; rfl, bT Hb5.out hB⟩
                    case measure => simp [intOf]; omega
                  · go_wp2_with fail
                    go_roundw
                    case rel => exact ⟨j + 1, by omega, by go_num, by rw [HSt.out, if_pos rfl]; go_num, bT Hb5.out hB⟩
                    case measure => simp [intOf]; omega
          obtain ⟨bd, od, rfl, hld, -⟩ := HRw7.out.int hlt
          obtain ⟨b_, o_, he_, -, c0⟩ := (HRw7.out.mono Hb2.out).int hlt
          simp only [Option.some.injEq, Addr.mk.injEq, and_true] at he_
          obtain ⟨rfl, rfl⟩ := he_
          have hwo : w.heap.size < wo.heap.size := HXo2.out.lt
          have HSd := Lib.hid (HSc.out D[k] (HDb.out _ (List.getElem_mem hlt)))
          have hst : (D.take (k + 1)).map (secondR p) = (D.take k).map (secondR p) ++ [secondR p D[k]] := by rw [List.take_succ_eq_append_getElem hlt, List.map_append]; rfl
          have HSt := Lib.hid hst
          have HLl := Lib.hid (show ((D.take k).map (secondR p)).length ≤ 512 by have := HOl.out; rw [List.length_map, List.length_take]; omega)
          clear hst
          generalize (D.take k).map (secondR p) = L at *
          generalize secondR p D[k] = p2 at *
          generalize D[k] = d at *
          have k4 : (k : Int) < D.length := by omega
          obtain ⟨s, rfl⟩ : ∃ s : Value, s = u9 := ⟨_, rfl⟩
          go_upto_region 16 with fail
          refine rg_start (SinceB (wo.heap.size) wr) (.take 0 1 (.take 1 3 (.take 2 7 (.take 3 15 (.take 4 31 (.take 5 63 (.call 6 127 (.call 7 255 (.call 8 511 (.take 9 1023 (.done))))))))))) (by kernel_rfl) (Below.drew (Below.refl _ _)) (by kernel_rfl) (by kernel_rfl) (Nat.le_of_ble_eq_true (by kernel_rfl)) ?_
          intro opsR QR Hops HQrg hS
          apply rg_yp (i := 0) Hops rfl hS rfl
          · intro _ hq; clear hq; go_simp; try rfl
          try simp only [Act.put, pu1, pu2, pu3]
          apply rg_yp (i := 1) Hops rfl hS rfl
          · intro wq hq; obtain ⟨hqc, -⟩ := bcellB (show Below (wo.heap.size) wr wq from hq); clear hq; go_simp; try rfl
          try simp only [Act.put, pu1, pu2, pu3]
          apply rg_yp (i := 2) Hops rfl hS rfl
          · intro _ hq; clear hq; go_simp; try rfl
          try simp only [Act.put, pu1, pu2, pu3]
          apply rg_yp (i := 3) Hops rfl hS rfl
          · intro _ hq; clear hq; go_simp; try rfl
          try simp only [Act.put, pu1, pu2, pu3]
          apply rg_yp (i := 4) Hops rfl hS rfl
          · intro _ hq; clear hq; go_simp; try rfl
          try simp only [Act.put, pu1, pu2, pu3]
          apply rg_yp (i := 5) Hops rfl hS rfl
          · intro wq hq; obtain ⟨hqc, -⟩ := bcellB (show Below (wo.heap.size) wr wq from hq); clear hq; go_simp; try rfl
          try simp only [Act.put, pu1, pu2, pu3]
          refine rg_call (i := 6) (get_of Hops rfl) (fun K hK => ?_)
          have HSrg := Lib.hid hS; clear hS
          refine rg_run (wanted_plain rfl) ?_
          go_simp
          refine (HSd.out _ (bT (bT Bo.out Hb2.out) (bD (bR wr)))).mono ?_
          rintro e wy ⟨rfl, hby⟩
          have hS : SinceB wo.heap.size wr wy := Below.trans HSrg.out (hby.mono (by have := (Below.size HSrg.out); omega))
          have hzy := hby.size
          simp only [World.size_drew] at hzy
          have HBy := Lib.hid (show Below wr.heap.size wr wy from bT (bD (bR wr)) hby)
          clear hby
          clear HSrg
          refine hK.out _ _ hS (fun _ => ?_)
          clear hK K
          try simp only [Act.put, pu1, pu2, pu3]
          refine rg_call (i := 7) (get_of Hops rfl) (fun K hK => ?_)
          have HSrg := Lib.hid hS; clear hS
          refine rg_run (wanted_plain rfl) ?_
          go_simp
          refine hK.out _ _ (bAB (by omega) HSrg.out _) (fun hS => ?_)
          clear hK K HSrg
          try simp only [Act.put, pu1, pu2, pu3]
          refine rg_call (i := 8) (get_of Hops rfl) (fun K hK => ?_)
          have HSrg := Lib.hid hS; clear hS
          refine rg_run (wanted_plain rfl) ?_
          refine wp_appl (.tmp 71) (.tmp 78) _ rfl (base := wo.heap.size) (l := L) (l2 := [p2]) elem_pt ptC_len ptC_one rfl (Own.alloc (Ho2.out.keep HBy.out) _) rfl (Pts.one (x := p2) (Blk.made rfl _ _)) (by have := HLl.out; simp only [List.length_cons, List.length_nil]; omega) (by have := HLl.out; simp only [List.length_cons, List.length_nil]; omega) (by simp; omega) ?_
          intro v9 wn hon9 hgn hatn
          have Hon9 := Lib.hid hon9
          have hS : SinceB wo.heap.size wr wn := Below.grown (Below.alloc (HBy.out.mono (by omega)) (by omega) _) hgn (by simp; omega) (fun g hg => (Ho2.out.lt g hg).1)
          clear hon9 hgn hatn
          clear HSrg
          refine hK.out _ _ hS (fun _ => ?_)
          clear hK K
          try simp only [Act.put, pu1, pu2, pu3]
          apply rg_yp (i := 9) Hops rfl hS rfl
          · intro _ hq; clear hq; go_simp; try rfl
          try simp only [Act.put, pu1, pu2, pu3]
          refine rg_done ?_
          refine HQrg.down _ _ ?_
          have hB : Below (wo.heap.size) wr _ := hS
          clear hS HQrg Hops
          go_wp2_with fail
          go_roundw
          case rel => exact ⟨k + 1, by omega, by go_num, by rw [HSt.out]; exact Hon9.out, Below.trans Hb2.out hB⟩
          case measure => simp [intOf]; omega
      have hst : dartL (p.arcs.take (k + 1)) nd.id = dartL (p.arcs.take k) nd.id ++ ((if al[k].1.fr = nd.id then [al[k].1.id] else []) ++ (if al[k].1.dst = nd.id then [-al[k].1.id] else [])) := by
        have h1 : k < p.arcs.length := by rw [HPa.out, List.length_map]; exact hlt
        have h2 := dartL_take p.arcs nd.id k h1
        have h3 : p.arcs[k] = al[k].1 := by simp only [HPa.out, List.getElem_map]
        rw [h3] at h2; exact h2
      have hid := HId.out k hlt
      have hlen := dartL_len (p.arcs.take k) nd.id
      have hlen2 : (p.arcs.take k).length ≤ k := List.length_take_le _ _
      obtain ⟨b, o, rfl, hlb, c0, c1, c2, -⟩ := (HR.out.mono (bT B5.out Hb.out)).ar hlt
      have HSt := Lib.hid hst
      have HLl := Lib.hid (show (dartL (p.arcs.take k) nd.id).length ≤ 512 by omega)
      obtain ⟨D1, hD1⟩ : ∃ D1, dartL (p.arcs.take (k + 1)) nd.id = D1 := ⟨_, rfl⟩
      rw [hD1] at HSt
      have HD1 := Lib.hid hD1
      clear hst hlen hlen2 hD1
      generalize dartL (p.arcs.take k) nd.id = D0 at *
      obtain ⟨a, ha⟩ : ∃ a, al[k].1 = a := ⟨_, rfl⟩
      rw [ha] at hid HSt c0 c1 c2
      have HAk := Lib.hid ha
      clear ha
      have hneg : IntKind.i64.wrap (-a.id) = -a.id := IntWalk.i64_in _ (by omega)
      have k4 : (k : Int) < al.length := by omega
      clear hid
      obtain ⟨s, rfl⟩ : ∃ s : Value, s = u7 := ⟨_, rfl⟩
      cases hb1 : (a.fr == nd.id)
      case false =>
        cases hb2 : (a.dst == nd.id)
        case false =>
          have hD : D1 = D0 := by rw [HSt.out, if_neg (by simpa using hb1), if_neg (by simpa using hb2)]; simp
          go_wp2_with fail
          go_roundw
          case rel => exact ⟨k + 1, by omega, by go_num, by rw [HD1.out.trans hD]; exact Ho.out, Hb.out⟩
          case measure => simp [intOf]; omega
        case true =>
          have hD : D1 = D0 ++ [-a.id] := by rw [HSt.out, if_neg (by simpa using hb1), if_pos (by simpa using hb2)]; simp
          go_wp2_with
            (at_builtin
             refine wpList_appl _ rfl (.tmp 55) (.tmp 63) _ rfl (base := W5.heap.size) (l := D0) elem_in inC_len inC_one rfl (Own.alloc Ho.out _) rfl (l2 := [-a.id]) (Sl.lit (n := 1) (Blk.made rfl _ _) rfl (le_maxLen (by omega))) (by have := HLl.out; simp only [List.length_append, List.length_cons, List.length_nil]; omega) (by have := HLl.out; simp only [List.length_append, List.length_cons, List.length_nil]; omega) (by simp; omega) ?_
             intro v9 w9 ho9 hg9 hat9
             have HO9 := Lib.hid ho9
             have HB9 := Lib.hid (Below.grown (Below.alloc Hb.out (by omega) _) hg9 (by simp; omega) (fun g hg => (Ho.out.lt g hg).1))
             have hz9 := HB9.out.size
             replace X2 := HX2.out.keep HB9.out
             have HC9 := Lib.hid (HR.out.mono (bT B5.out HB9.out))
             obtain ⟨b_, o_, he_, -, d0, d1, d2, -⟩ := HC9.out.ar hlt
             simp only [Option.some.injEq, Addr.mk.injEq, and_true] at he_
             obtain ⟨rfl, rfl⟩ := he_
             rw [HAk.out] at d0 d1 d2
             clear ho9 hg9 hat9 X2l X2a X2b X2c
             try clear X2l
             try clear X2a
             try clear X2b
             try clear X2c
             try clear X2fa
             try clear X2fb
             try clear X2fc
             obtain ⟨X2l, X2a, X2b, X2c, -, -, -⟩ := X2.facts3
             )
          go_roundw
          case rel => exact ⟨k + 1, by omega, by go_num, by rw [HD1.out.trans hD]; exact HO9.out, HB9.out⟩
          case measure => simp [intOf]; omega
      case true =>
        cases hb2 : (a.dst == nd.id)
        case false =>
          have hD : D1 = D0 ++ [a.id] := by rw [HSt.out, if_pos (by simpa using hb1), if_neg (by simpa using hb2)]; simp
          go_wp2_with
            (at_builtin
             refine wpList_appl _ rfl (.tmp 38) (.tmp 45) _ rfl (base := W5.heap.size) (l := D0) elem_in inC_len inC_one rfl (Own.alloc Ho.out _) rfl (l2 := [a.id]) (Sl.lit (n := 1) (Blk.made rfl _ _) rfl (le_maxLen (by omega))) (by have := HLl.out; simp only [List.length_append, List.length_cons, List.length_nil]; omega) (by have := HLl.out; simp only [List.length_append, List.length_cons, List.length_nil]; omega) (by simp; omega) ?_
             intro v8 w8 ho8 hg8 hat8
             have HO8 := Lib.hid ho8
             have HB8 := Lib.hid (Below.grown (Below.alloc Hb.out (by omega) _) hg8 (by simp; omega) (fun g hg => (Ho.out.lt g hg).1))
             have hz8 := HB8.out.size
             replace X2 := HX2.out.keep HB8.out
             have HC8 := Lib.hid (HR.out.mono (bT B5.out HB8.out))
             obtain ⟨b_, o_, he_, -, d0, d1, d2, -⟩ := HC8.out.ar hlt
             simp only [Option.some.injEq, Addr.mk.injEq, and_true] at he_
             obtain ⟨rfl, rfl⟩ := he_
             rw [HAk.out] at d0 d1 d2
             clear ho8 hg8 hat8 X2l X2a X2b X2c
             try clear X2l
             try clear X2a
             try clear X2b
             try clear X2c
             try clear X2fa
             try clear X2fb
             try clear X2fc
             obtain ⟨X2l, X2a, X2b, X2c, -, -, -⟩ := X2.facts3
             )
          go_roundw
          case rel => exact ⟨k + 1, by omega, by go_num, by rw [HD1.out.trans hD]; exact HO8.out, HB8.out⟩
          case measure => simp [intOf]; omega
        case true =>
          have hD : D1 = D0 ++ [a.id] ++ [-a.id] := by rw [HSt.out, if_pos (by simpa using hb1), if_pos (by simpa using hb2)]; simp
          go_upto_region 10 with
            (at_builtin
             refine wpList_appl _ rfl (.tmp 38) (.tmp 45) _ rfl (base := W5.heap.size) (l := D0) elem_in inC_len inC_one rfl (Own.alloc Ho.out _) rfl (l2 := [a.id]) (Sl.lit (n := 1) (Blk.made rfl _ _) rfl (le_maxLen (by omega))) (by have := HLl.out; simp only [List.length_append, List.length_cons, List.length_nil]; omega) (by have := HLl.out; simp only [List.length_append, List.length_cons, List.length_nil]; omega) (by simp; omega) ?_
             intro v8 w8 ho8 hg8 hat8
             have HO8 := Lib.hid ho8
             have HB8 := Lib.hid (Below.grown (Below.alloc Hb.out (by omega) _) hg8 (by simp; omega) (fun g hg => (Ho.out.lt g hg).1))
             have hz8 := HB8.out.size
             replace X2 := HX2.out.keep HB8.out
             have HC8 := Lib.hid (HR.out.mono (bT B5.out HB8.out))
             obtain ⟨b_, o_, he_, -, d0, d1, d2, -⟩ := HC8.out.ar hlt
             simp only [Option.some.injEq, Addr.mk.injEq, and_true] at he_
             obtain ⟨rfl, rfl⟩ := he_
             rw [HAk.out] at d0 d1 d2
             clear ho8 hg8 hat8 X2l X2a X2b X2c
             try clear X2l
             try clear X2a
             try clear X2b
             try clear X2c
             try clear X2fa
             try clear X2fb
             try clear X2fc
             obtain ⟨X2l, X2a, X2b, X2c, -, -, -⟩ := X2.facts3
             )
          have hz8' := HO8.out
          go_wp2_with
            (at_builtin
             refine wpList_appl _ rfl (.tmp 55) (.tmp 63) _ rfl (base := W5.heap.size) (l := D0 ++ [a.id]) elem_in inC_len inC_one rfl (Own.alloc HO8.out _) rfl (l2 := [-a.id]) (Sl.lit (n := 1) (Blk.made rfl _ _) rfl (le_maxLen (by omega))) (by have := HLl.out; simp only [List.length_append, List.length_cons, List.length_nil]; omega) (by have := HLl.out; simp only [List.length_append, List.length_cons, List.length_nil]; omega) (by simp; omega) ?_
             intro v9 w9 ho9 hg9 hat9
             have HO9 := Lib.hid ho9
             have HB9 := Lib.hid (Below.grown (Below.alloc HB8.out (by omega) _) hg9 (by simp; omega) (fun g hg => (HO8.out.lt g hg).1))
             have hz9 := HB9.out.size
             replace X2 := HX2.out.keep HB9.out
             have HC9 := Lib.hid (HR.out.mono (bT B5.out HB9.out))
             obtain ⟨b_, o_, he_, -, d0, d1, d2, -⟩ := HC9.out.ar hlt
             simp only [Option.some.injEq, Addr.mk.injEq, and_true] at he_
             obtain ⟨rfl, rfl⟩ := he_
             rw [HAk.out] at d0 d1 d2
             clear ho9 hg9 hat9 X2l X2a X2b X2c
             try clear X2l
             try clear X2a
             try clear X2b
             try clear X2c
             try clear X2fa
             try clear X2fb
             try clear X2fc
             obtain ⟨X2l, X2a, X2b, X2c, -, -, -⟩ := X2.facts3
             )
          go_roundw
          case rel => exact ⟨k + 1, by omega, by go_num, by rw [HD1.out.trans hD]; exact HO9.out, HB9.out⟩
          case measure => simp [intOf]; omega
end Go.Proofs.YtoclnkfeblfpbaaGreat
