/- mapsheetslaw14.count and PlanPaths: true. -/
import Derived.Test.YtibchmofckhofaaLawFinds
import Derived.Test.YtibchmofckhofaaPValid
set_option linter.unusedSimpArgs false
set_option linter.unusedVariables false
namespace Go.Proofs.Ytibchmofckhofaa
open Go.RowKit

/-- The middle of a row. -/
theorem Pts.mid {w : World} {b o N c M : Nat} {L V : List Pt} (h : Pts w (.slice (some ⟨b, o, none⟩) N c) L) (hN : N = M + 2) (hV : V.length = M) (hm : ∀ j (hj : j < V.length), L.getD (j + 1) pt0 = V[j]) (hl : L.length = M + 2) : Pts w (.slice (some ⟨b, o + 2, none⟩) M (c - 1)) V := by
  obtain ⟨A, c', he, h1, h2, hR⟩ := h
  injection he with e1 e2 e3
  subst e1 e3
  subst hV
  refine ⟨_, _, rfl, by omega, by omega, fun hne => ?_⟩
  have hVl : 0 < V.length := by
    rcases Nat.eq_zero_or_pos V.length with h0 | h0
    · rw [List.eq_nil_of_length_eq_zero h0] at hne; simp at hne
    · exact h0
  refine ⟨b, o + 2, rfl, ?_, fun j u hj => ?_⟩
  · obtain ⟨b', o', e, hlb, -⟩ := hR.pt (k := 0) (by omega)
    injection e with e; injection e with e1 _ _; subst e1; exact hlb
  · have hjl : j < V.length * 2 := by
      rcases Nat.lt_or_ge j (V.length * 2) with h' | h'
      · exact h'
      · rw [List.getElem?_eq_none (by rw [flat_length ptC 2 ptC_len]; exact h')] at hj; cases hj
    obtain ⟨m, r, rfl, hr⟩ : ∃ m r, j = m * 2 + r ∧ r < 2 := ⟨j / 2, j % 2, by omega, by omega⟩
    have hk : m < V.length := by omega
    rw [flat_get ptC 2 ptC_len V m r hk hr] at hj
    have hg : L[m + 1]'(by omega) = V[m] := by
      rw [← hm m hk, List.getD_eq_getElem?_getD, List.getElem?_eq_getElem (by omega)]; rfl
    obtain ⟨b', o', e, -, hc0, hc1⟩ := hR.pt (k := m + 1) (by omega)
    injection e with e; injection e with e1' e2' _; subst e1' e2'
    rw [hg] at hc0 hc1
    rcases Nat.lt_or_ge r 1 with h0 | h0
    · have h0' : r = 0 := by omega
      subst h0'
      simp only [ptC, List.getElem?_cons_zero, Option.some.injEq] at hj
      rw [← hj, show o + 2 + (m * 2 + 0) = o + (m + 1) * 2 by omega]
      exact hc0
    · have h0' : r = 1 := by omega
      subst h0'
      simp only [ptC, List.getElem?_cons_succ, List.getElem?_cons_zero, Option.some.injEq] at hj
      rw [← hj, show o + 2 + (m * 2 + 1) = o + (m + 1) * 2 + 1 by omega]
      exact hc1

theorem run_mid (b o M c : Nat) (hc : M + 2 ≤ c) (w : World) : (Instr.slice 35 (.slice (some ⟨b, o, none⟩) (M + 2) c) (some (.int .i64 1)) (some (.int .i64 ((M : Int) + 1))) none).run Try.prog w = .ok (.slice (some ⟨b, o + 2, none⟩) M (c - 1)) w := by
  have he : Try.prog.elem 35 = 30 := by kernel_rfl
  have ht' : Try.prog.underlying 35 = some (.slice (Try.prog.elem 35)) := by rw [he]; exact Try.underlying35
  have hz : (Go.sizeOf 30).run Try.prog w = .ok 2 w := by kernel_rfl
  rw [run_slice_lh w 35 (some ⟨b, o, none⟩) (M + 2) c ht' .i64 .i64 1 ((M : Int) + 1) (by omega) (by omega) (by omega), he, hz]
  have h1 : ((M : Int) + 1).toNat = M + 1 := by omega
  have h2 : ¬ c = 1 := by omega
  simp [Result.andThen, sliced, h1, h2, Addr.add]
theorem Sound.find_fr {p : Pl} (hp : Sound p) {a : Ar} (ha : a ∈ p.arcs) : ∃ x, findNd p.nodes a.fr = some x ∧ nodeAt p a.fr = x.pt := by
  obtain ⟨x, hx, e1, e2⟩ := hp.at_fr ha
  refine ⟨x, ?_, e2⟩
  rw [← e1]
  exact find_uniq (·.id) p.nodes hp.nodes x hx
theorem Sound.find_dst {p : Pl} (hp : Sound p) {a : Ar} (ha : a ∈ p.arcs) : ∃ x, findNd p.nodes a.dst = some x ∧ nodeAt p a.dst = x.pt := by
  obtain ⟨x, hx, e1, e2⟩ := hp.at_dst ha
  refine ⟨x, ?_, e2⟩
  rw [← e1]
  exact find_uniq (·.id) p.nodes hp.nodes x hx
theorem path_sums (M : Nat) (h : M ≤ 100) : IntKind.i64.wrap ((M : Int) + 2) = (M : Int) + 2 ∧ IntKind.i64.wrap ((M : Int) + 2 - 1) = (M : Int) + 1 ∧ ((M + 2 : Nat) : Int) = (M : Int) + 2 ∧ 0 ≤ (M : Int) + 1 ∧ (M : Int) + 1 < (M : Int) + 2 ∧ ((M : Int) + 1).toNat = M + 1 ∧ 0 < (M : Int) + 2 := by
  refine ⟨IntWalk.i64_in _ (by omega), ?_, by omega, by omega, by omega, by omega, by omega⟩
  rw [IntWalk.i64_in _ (by omega)]
  omega
theorem path_last (p : Pl) (a : Ar) : (pathS p a).getD (a.via.length + 1) pt0 = nodeAt p a.dst := by
  unfold pathS
  rw [List.getD_cons_succ, List.getD_eq_getElem?_getD, List.getElem?_append_right (Nat.le_refl _)]
  simp
theorem getD_get (l : List Pt) (k : Nat) (hk : k < l.length) : l[k] = l.getD k pt0 := by
  rw [List.getD_eq_getElem?_getD, List.getElem?_eq_getElem hk]; rfl

set_option maxRecDepth 100000 in
set_option maxHeartbeats 16000000 in
theorem PlanPaths_spec (v : Value) (p : Pl) (w : World) (h : PlV w v p) :
    Calls Try.prog 5 #[v] w fun e w' => e = .returned (.bool true) ∧ Below w.heap.size w w' := by
  have TFew : ∀ W, Below w.heap.size w W → Calls Try.prog 9 #[v, .int .i64 100] W _ := fun W hW => Few_spec v p 100 W (h.mono hW) (by omega)
  have HFew := Lib.hid TFew
  have HP := Lib.hid h
  have HAw := Lib.hid awake_spec
  obtain ⟨_, _, vf, al, rfl, hpa, ⟨An, cn, rfl, hn1, hn2, hR⟩, ⟨⟨Aa, ca, rfl, ha1, ha2, hRa⟩, hV⟩, hF⟩ := h
  unfold maxLen at hn2 ha2
  have HR := Lib.hid hR; have HRa := Lib.hid hRa; have HV := Lib.hid hV; have Hpa := Lib.hid hpa
  clear TFew hR hRa hV hF hpa
  go_enter Try.func5, Try.ntmps5
  go_wp2_with fail
  refine (HFew.out _ (bA (bR w) _)).mono ?_
  rintro e w1 ⟨rfl, hb1⟩
  have Bw : Below w.heap.size w w1 := bT (bA (bR w) _) hb1
  have X1 : Blk w1 w.heap.size 26 #[.slice An p.nodes.length cn, .slice Aa al.length ca, vf] := (Blk.made rfl _ _).keep hb1
  clear hb1
  cases hf : fewS p 100
  case false =>
    clear hf
    go_wp2_with fail
    refine (HAw.out _).mono ?_
    rintro e w2 ⟨rfl, hb2⟩
    go_wp2_with fail
    go_ret
    exact ⟨rfl, bT Bw hb2⟩
  have hfw := few_short hf
  have hsh : Short p := fun a ha => by have := via_le hfw.2.2.2 a ha; omega
  have HSh := Lib.hid hsh
  have hvl : ∀ k (hk : k < al.length), al[k].1.via.length ≤ 100 := fun k hk => via_le hfw.2.2.2 _ (by rw [Hpa.out]; exact List.mem_map_of_mem (List.getElem_mem hk))
  have HVl := Lib.hid hvl
  have hnl : p.nodes.length ≤ 100 := hfw.1
  have hal : al.length ≤ 100 := by have := hfw.2.1; rw [Hpa.out, List.length_map] at this; exact this
  have HFw := Lib.hid hfw
  clear hf hfw hsh hvl
  try clear X1l
  try clear X1a
  try clear X1b
  try clear X1c
  try clear X1fa
  try clear X1fb
  try clear X1fc
  obtain ⟨X1l, X1a, X1b, X1c, -, -, -⟩ := X1.facts3
  go_wp2_with fail
  refine (Check_spec _ p _ (HP.out.mono Bw)).mono ?_
  rintro e w2 ⟨rfl, hb2⟩
  replace Bw := bT Bw hb2
  replace X1 := X1.keep hb2
  clear hb2
  by_cases hz : checkS p = 0
  case neg =>
    generalize checkS p = q at *
    go_wp2_with fail
    refine (HAw.out _).mono ?_
    rintro e w3 ⟨rfl, hb3⟩
    go_wp2_with fail
    go_ret
    exact ⟨rfl, bT Bw hb3⟩
  have HVd := Lib.hid ((check_zero p).1 hz)
  rw [hz]
  clear hz
  have HX1 := Lib.hid X1
  have HBw := Lib.hid Bw
  clear X1 X1l X1a X1b X1c Bw
  go_wp2_with fail
  generalize hnl2 : p.nodes = nl at *
  have HNl := Lib.hid hnl2
  clear hnl2
  go_loopw [3, 4] (fun u s wr => ∃ k : Nat, k ≤ nl.length ∧ s = .int .i64 k ∧ u = .int .i64 (sumD p.arcs (nl.take k)) ∧ Below w2.heap.size w2 wr) (fun _ s _ => nl.length - (intOf s).toNat)
  case atStart => exact ⟨0, Nat.zero_le _, rfl, rfl, bR w2⟩
  case round =>
    obtain ⟨k, hk, rfl, rfl, hb⟩ := hrel
    have Hb := Lib.hid hb
    have X1 := HX1.out.keep hb
    have hbd := sumD_bd p.arcs nl k
    have hpal : p.arcs.length = al.length := by rw [Hpa.out, List.length_map]
    have hbd2 : 2 * (p.arcs.length : Int) * k ≤ 20000 := by
      have h1 : (p.arcs.length : Int) ≤ 100 := by omega
      have h2 : (k : Int) ≤ 100 := by omega
      have := Int.mul_le_mul (show 2 * (p.arcs.length : Int) ≤ 200 by omega) h2 (by omega) (by omega)
      omega
    have Hpal := Lib.hid hpal
    clear hb hpal
    try clear X1l
    try clear X1a
    try clear X1b
    try clear X1c
    try clear X1fa
    try clear X1fb
    try clear X1fc
    obtain ⟨X1l, X1a, X1b, X1c, -, -, -⟩ := X1.facts3
    by_cases hlt : k < nl.length
    case pos =>
      obtain ⟨b, o, rfl, hlb, c0, c1, c2⟩ := (HR.out.mono (bT HBw.out Hb.out)).nd hlt
      have Hs := Lib.hid (sumD_succ p.arcs nl k hlt)
      have hdb := degS_bd p.arcs nl[k].id
      have hdl : p.arcs.length ≤ 1099511627776 := by have := Hpal.out; omega
      have hdb2 : 0 ≤ degS p.arcs nl[k].id ∧ degS p.arcs nl[k].id ≤ 200 := by have := Hpal.out; omega
      have TD : Hid (∀ W, Below wr.heap.size wr W → Calls Try.prog 19 #[.agg #[.slice (some ⟨b, o, none⟩) nl.length cn, .slice Aa al.length ca, vf], .int .i64 nl[k].id] W fun e w' => e = .returned (.int .i64 (degS p.arcs nl[k].id)) ∧ Below W.heap.size W w') := Lib.hid fun W hW => Degree_spec _ p nl[k].id W (HP.out.mono (bT HBw.out (bT Hb.out hW))) hdl
      clear hdb
      generalize degS p.arcs nl[k].id = D at *
      generalize sumD p.arcs (nl.take k) = S at *
      have hw1 : IntKind.i64.wrap (S + D) = S + D := IntWalk.i64_in _ (by omega)
      go_upto_region 7 with fail
      refine rg_start (Since wr) (.take 0 1 (.take 1 3 (.take 2 7 (.take 3 15 (.take 4 31 (.take 5 63 (.take 6 127 (.take 7 255 (.call 8 511 (.take 9 1023 (.take 10 2047 (.done)))))))))))) (by kernel_rfl) (bD (bR _)) (by kernel_rfl) (by kernel_rfl) (Nat.le_of_ble_eq_true (by kernel_rfl)) ?_
      intro opsR QR Hops HQrg hS
      refine rg_take (i := 0) (get_of Hops rfl) hS ?_
      apply Exists.intro
      apply And.intro
      · refine .inl ⟨(wanted_plain rfl), fun wq hq => ?_⟩
        clear hq
        go_simp
        try rfl
      try simp only [Act.put, List.setIfInBounds_toArray, List.set_cons_zero, List.set_cons_succ]
      refine rg_take (i := 1) (get_of Hops rfl) hS ?_
      apply Exists.intro
      apply And.intro
      · refine .inl ⟨(wanted_plain rfl), fun wq hq => ?_⟩
        have hq' : Below wr.heap.size wr wq := hq
        obtain ⟨hqc, -⟩ := bcell hq'
        clear hq hq'
        go_simp
        try rfl
      try simp only [Act.put, List.setIfInBounds_toArray, List.set_cons_zero, List.set_cons_succ]
      refine rg_take (i := 2) (get_of Hops rfl) hS ?_
      apply Exists.intro
      apply And.intro
      · refine .inl ⟨(wanted_plain rfl), fun wq hq => ?_⟩
        clear hq
        go_simp
        try rfl
      try simp only [Act.put, List.setIfInBounds_toArray, List.set_cons_zero, List.set_cons_succ]
      refine rg_take (i := 3) (get_of Hops rfl) hS ?_
      apply Exists.intro
      apply And.intro
      · refine .inl ⟨(wanted_plain rfl), fun wq hq => ?_⟩
        have hq' : Below wr.heap.size wr wq := hq
        obtain ⟨hqc, -⟩ := bcell hq'
        clear hq hq'
        go_simp
        try rfl
      try simp only [Act.put, List.setIfInBounds_toArray, List.set_cons_zero, List.set_cons_succ]
      refine rg_take (i := 4) (get_of Hops rfl) hS ?_
      apply Exists.intro
      apply And.intro
      · refine .inl ⟨(wanted_plain rfl), fun wq hq => ?_⟩
        clear hq
        go_simp
        try rfl
      try simp only [Act.put, List.setIfInBounds_toArray, List.set_cons_zero, List.set_cons_succ]
      refine rg_take (i := 5) (get_of Hops rfl) hS ?_
      apply Exists.intro
      apply And.intro
      · refine .inl ⟨(wanted_plain rfl), fun wq hq => ?_⟩
        clear hq
        go_simp
        try rfl
      try simp only [Act.put, List.setIfInBounds_toArray, List.set_cons_zero, List.set_cons_succ]
      refine rg_take (i := 6) (get_of Hops rfl) hS ?_
      apply Exists.intro
      apply And.intro
      · refine .inl ⟨(wanted_plain rfl), fun wq hq => ?_⟩
        clear hq
        go_simp
        try rfl
      try simp only [Act.put, List.setIfInBounds_toArray, List.set_cons_zero, List.set_cons_succ]
      refine rg_take (i := 7) (get_of Hops rfl) hS ?_
      apply Exists.intro
      apply And.intro
      · refine .inl ⟨(wanted_plain rfl), fun wq hq => ?_⟩
        have hq' : Below wr.heap.size wr wq := hq
        obtain ⟨hqc, -⟩ := bcell hq'
        clear hq hq'
        go_simp
        try rfl
      try simp only [Act.put, List.setIfInBounds_toArray, List.set_cons_zero, List.set_cons_succ]
      refine rg_call (i := 8) (get_of Hops rfl) (fun K hK => ?_)
      have HSrg := Lib.hid hS; clear hS
      refine rg_run (wanted_plain rfl) ?_
      go_simp
      refine (TD.out _ HSrg.out).mono ?_
      rintro e wr1 ⟨rfl, hbr1⟩
      have hS : Since wr wr1 := bT (w := wr) HSrg.out hbr1
      clear HSrg
      refine hK.out _ _ hS (fun _ => ?_)
      clear hK K
      try simp only [Act.put, List.setIfInBounds_toArray, List.set_cons_zero, List.set_cons_succ]
      refine rg_take (i := 9) (get_of Hops rfl) hS ?_
      apply Exists.intro
      apply And.intro
      · refine .inl ⟨(wanted_plain rfl), fun wq hq => ?_⟩
        clear hq
        go_simp
        try rfl
      try simp only [Act.put, List.setIfInBounds_toArray, List.set_cons_zero, List.set_cons_succ]
      refine rg_take (i := 10) (get_of Hops rfl) hS ?_
      apply Exists.intro
      apply And.intro
      · refine .inl ⟨(wanted_plain rfl), fun wq hq => ?_⟩
        clear hq
        go_simp
        try rfl
      try simp only [Act.put, List.setIfInBounds_toArray, List.set_cons_zero, List.set_cons_succ]
      refine rg_done ?_
      refine HQrg.down _ _ ?_
      have hB : Below wr.heap.size wr wr1 := hS
      clear hS HQrg Hops
      clear hw1
      go_wp2_with fail
      go_roundw
      case rel => exact ⟨k + 1, by omega, by go_num, by rw [Hs.out], bT Hb.out hB⟩
      case measure => simp [intOf]; omega
    case neg =>
    have hsum := Lib.hid (show sumD p.arcs (nl.take k) = 2 * (al.length : Int) by
      rw [List.take_of_length_le (by omega), ← HNl.out, sumD_eq p HVd.out.sound, Hpal.out])
    rw [hsum.out]
    clear hbd hbd2
    go_wp2_with fail
    refine (Points_spec _ p _ (HP.out.mono (bT HBw.out Hb.out)) (by rw [HNl.out]; omega) (by have := HFw.out; omega)).mono ?_
    rintro e w3 ⟨v5, rfl, hb3, ho3⟩
    have HB3 := Lib.hid (bT HBw.out (bT Hb.out hb3))
    obtain ⟨A5, c5, rfl, -⟩ := Own.sl ho3
    have HO3 := Lib.hid (Own.sl ho3)
    have HX3 := Lib.hid (X1.keep hb3)
    clear X1 X1l X1a X1b X1c hb3 ho3 Hb
    go_wp2_with fail
    go_loopw [6] (fun u wr => ∃ i : Nat, i ≤ al.length ∧ u = .int .i64 i ∧ Below w3.heap.size w3 wr) (fun u _ => al.length - (intOf u).toNat)
    case atStart => exact ⟨0, Nat.zero_le _, rfl, bR w3⟩
    case round =>
      obtain ⟨i, hi, rfl, hb⟩ := hrel
      have Hb := Lib.hid hb
      have X1 := HX3.out.keep hb
      clear hb
      try clear X1l
      try clear X1a
      try clear X1b
      try clear X1c
      try clear X1fa
      try clear X1fb
      try clear X1fc
      obtain ⟨X1l, X1a, X1b, X1c, -, -, -⟩ := X1.facts3
      by_cases hlt : i < al.length
      case neg =>
        go_wp2_with fail
        refine (HAw.out _).mono ?_
        rintro e w4 ⟨rfl, hb4⟩
        go_wp2_with fail
        go_ret
        exact ⟨rfl, bT HB3.out (bT Hb.out hb4)⟩
      obtain ⟨b, o, rfl, hlb, c0, c1, c2, c3, c4, c5⟩ := (HRa.out.mono (bT HB3.out Hb.out)).ar hlt
      obtain ⟨Av, cv, hv, hv1, hv2, hv3⟩ := HV.out i hlt
      unfold maxLen at hv2
      have hvia := HV.out i hlt
      rw [hv] at c3 hvia
      have ha : al[i].1 ∈ p.arcs := by rw [Hpa.out]; exact List.mem_map_of_mem (List.getElem_mem hlt)
      have hM := HVl.out i hlt
      generalize al[i].1 = a at *
      have hp := HVd.out.sound
      obtain ⟨x, hx1, hx2⟩ := hp.find_fr ha
      obtain ⟨y, hy1, hy2⟩ := hp.find_dst ha
      have hpath := hp.path ha
      have hplen := pathS_length p a
      have hp0 : (pathS p a).getD 0 pt0 = x.pt := hx2
      have hpl : (pathS p a).getD (a.via.length + 1) pt0 = y.pt := by rw [path_last]; exact hy2
      have hmid : ∀ j (hj : j < a.via.length), (pathS p a).getD (j + 1) pt0 = a.via[j] := fun j hj => path_mid p a j hj
      have TPath : Hid (∀ W, Below w3.heap.size w3 W → Calls Try.prog 15 #[.agg #[.slice An nl.length cn, .slice (some ⟨b, o, none⟩) al.length ca, vf], .int .i64 a.id] W fun e w' => ∃ A c, e = .returned (.tuple #[.slice A (a.via.length + 2) c, .int .i64 0]) ∧ Below W.heap.size W w' ∧ Pts w' (.slice A (a.via.length + 2) c) (pathS p a)) := Lib.hid fun W hW => by
        have h := Path_spec _ p a.id W (HP.out.mono (bT HB3.out hW)) HSh.out
        rw [hpath] at h
        refine h.mono fun e w' hh => ?_
        obtain ⟨A, c, rfl, hb, ho⟩ := hh
        have hs := Own.sl ho
        simp only [Option.getD_some, hplen] at hs ⊢
        exact ⟨A, c, rfl, hb, by unfold Pts; rw [hplen]; exact hs⟩
      have TN1 : Hid (∀ W, Below w3.heap.size w3 W → Calls Try.prog 11 #[.agg #[.slice An nl.length cn, .slice (some ⟨b, o, none⟩) al.length ca, vf], .int .i64 a.fr] W fun e w' => e = .returned (.tuple #[.agg #[.int .i64 x.id, .int .i64 x.pt.x, .int .i64 x.pt.y], .bool true]) ∧ Below W.heap.size W w') := Lib.hid fun W hW => by
        have h := Node_spec _ p a.fr W (HP.out.mono (bT HB3.out hW))
        rw [hx1] at h
        exact h
      have TN2 : Hid (∀ W, Below w3.heap.size w3 W → Calls Try.prog 11 #[.agg #[.slice An nl.length cn, .slice (some ⟨b, o, none⟩) al.length ca, vf], .int .i64 a.dst] W fun e w' => e = .returned (.tuple #[.agg #[.int .i64 y.id, .int .i64 y.pt.x, .int .i64 y.pt.y], .bool true]) ∧ Below W.heap.size W w') := Lib.hid fun W hW => by
        have h := Node_spec _ p a.dst W (HP.out.mono (bT HB3.out hW))
        rw [hy1] at h
        exact h
      have hcnt : ∀ j (hj : j < a.via.length), countS (pointsS p) a.via[j] = 1 := fun j hj => HVd.out.count ha hj
      have hfour : a.fr = a.dst → 4 ≤ a.via.length + 2 := fun e => by
        have := (HVd.out.distinct ha (k := 0) (by omega)).2 e
        omega
      have HVia := Lib.hid hvia
      have HP0 := Lib.hid hp0; have HPl := Lib.hid hpl
      have HPlen := Lib.hid hplen; have HMid := Lib.hid hmid
      have HCnt := Lib.hid hcnt; have HFour := Lib.hid hfour
      clear hv hv3 hvia ha hp hx1 hx2 hy1 hy2 hpath hplen hp0 hpl hcnt hfour hmid
      generalize pathS p a = PL at *
      generalize hVV : a.via = V at *
      have HVV := Lib.hid hVV; clear hVV
      go_wp2_with fail
      refine (TPath.out _ (bA Hb.out _)).mono ?_
      rintro e w4 ⟨A8, c8, rfl, hb4, hp8⟩
      have X7 : Blk w4 wr.heap.size 37 #[.int .i64 a.id, .int .i64 a.fr, .int .i64 a.dst, .slice Av V.length cv, .int .i64 a.left, .int .i64 a.right] := (Blk.made rfl _ _).keep hb4
      have B4 := Lib.hid (bT (bA Hb.out _) hb4)
      replace X1 := (X1.alloc _).keep hb4
      have HP8 := Lib.hid hp8
      clear hb4 hp8 c0 c1 c2 c3 c4 c5 hlb X1l X1a X1b X1c
      try clear X1l
      try clear X1a
      try clear X1b
      try clear X1c
      try clear X1fa
      try clear X1fb
      try clear X1fc
      obtain ⟨X1l, X1a, X1b, X1c, -, -, -⟩ := X1.facts3
      try clear X7l
      try clear X7a
      try clear X7b
      try clear X7c
      try clear X7d
      try clear X7e
      try clear X7f
      try clear X7fa
      try clear X7fb
      try clear X7fc
      try clear X7fd
      try clear X7fe
      try clear X7ff
      obtain ⟨X7l, X7a, X7b, X7c, X7d, X7e, X7f, -, -, -, -, -, -⟩ := X7.facts6
      go_wp2_with fail
      refine (TN1.out _ B4.out).mono ?_
      rintro e w5 ⟨rfl, hb5⟩
      obtain ⟨W5, hW5⟩ : ∃ W5 : World, W5 = w5.alloc (.cells #[.int .i64 x.id, .int .i64 x.pt.x, .int .i64 x.pt.y] 32) := ⟨_, rfl⟩
      have hA5 : Below w4.heap.size w4 W5 := by rw [hW5]; exact bA hb5 _
      have X10 : Blk W5 w5.heap.size 32 #[.int .i64 x.id, .int .i64 x.pt.x, .int .i64 x.pt.y] := by rw [hW5]; exact Blk.made rfl _ _
      replace X1 := X1.keep hA5
      replace X7 := X7.keep hA5
      replace HP8 := Lib.hid (HP8.out.mono hA5)
      have B5 := Lib.hid (bT B4.out hA5)
      clear hA5 hb5 X1l X1a X1b X1c X7l X7a X7b X7c X7d X7e X7f B4
      go_upto_region 15 with fail
      rw [← hW5]
      clear hW5
      try clear X1l
      try clear X1a
      try clear X1b
      try clear X1c
      try clear X1fa
      try clear X1fb
      try clear X1fc
      obtain ⟨X1l, X1a, X1b, X1c, -, -, -⟩ := X1.facts3
      try clear X7l
      try clear X7a
      try clear X7b
      try clear X7c
      try clear X7d
      try clear X7e
      try clear X7f
      try clear X7fa
      try clear X7fb
      try clear X7fc
      try clear X7fd
      try clear X7fe
      try clear X7ff
      obtain ⟨X7l, X7a, X7b, X7c, X7d, X7e, X7f, -, -, -, -, -, -⟩ := X7.facts6
      go_wp2_with fail
      refine (TN2.out _ B5.out).mono ?_
      rintro e w6 ⟨rfl, hb6⟩
      obtain ⟨W6, hW6⟩ : ∃ W6 : World, W6 = w6.alloc (.cells #[.int .i64 y.id, .int .i64 y.pt.x, .int .i64 y.pt.y] 32) := ⟨_, rfl⟩
      have hA6 : Below W5.heap.size W5 W6 := by rw [hW6]; exact bA hb6 _
      have X12 : Blk W6 w6.heap.size 32 #[.int .i64 y.id, .int .i64 y.pt.x, .int .i64 y.pt.y] := by rw [hW6]; exact Blk.made rfl _ _
      replace X1 := X1.keep hA6
      replace X7 := X7.keep hA6
      replace X10 := X10.keep hA6
      replace HP8 := Lib.hid (HP8.out.mono hA6)
      have B6 := Lib.hid (bT B5.out hA6)
      clear hA6 hb6 X1l X1a X1b X1c X7l X7a X7b X7c X7d X7e X7f B5
      go_upto_region 16 with fail
      rw [← hW6]
      clear hW6
      obtain ⟨A8', c8', he8, hc8, hcm8, hR8⟩ := HP8.out
      injection he8 with e1 e2 e3
      clear e2
      subst e1 e3
      have hlen := HPlen.out
      obtain ⟨b8, o8, hA8, hlb8, f0, f1⟩ := hR8.pt (k := 0) (by omega)
      obtain ⟨b8', o8', hA8', -, g0, g1⟩ := hR8.pt (k := V.length + 1) (by omega)
      subst hA8
      simp only [Option.some.injEq, Addr.mk.injEq, and_true] at hA8'
      obtain ⟨rfl, rfl⟩ := hA8'
      rw [getD_get _ _ (by omega), HP0.out] at f0 f1
      rw [getD_get _ _ (by omega), HPl.out] at g0 g1
      simp only [Nat.zero_mul, Nat.add_zero] at f0 f1
      rw [hlen] at hc8
      unfold maxLen at hcm8
      have hEx := run_neq_pt x.pt x.pt
      have hEy := run_neq_pt y.pt y.pt
      have hdx : decide (x.pt = x.pt) = true := decide_eq_true rfl
      have hdy : decide (y.pt = y.pt) = true := decide_eq_true rfl
      have hcut := run_mid b8 o8 V.length c8 hc8
      have TSP : Hid (∀ W, Below W6.heap.size W6 W → Calls Try.prog 18 #[.slice (some ⟨b8, o8 + 2, none⟩) V.length (c8 - 1), .slice Av V.length cv] W fun e w' => e = .returned (.bool true) ∧ Below W.heap.size W w') := Lib.hid fun W hW => by
        have h := SamePath_spec _ _ V V W (Pts.mid (HP8.out.mono hW) rfl rfl HMid.out HPlen.out) (HVia.out.mono (bT HB3.out (bT B6.out hW)))
        rw [decide_eq_true rfl] at h
        exact h
      try clear X7l
      try clear X7a
      try clear X7b
      try clear X7c
      try clear X7d
      try clear X7e
      try clear X7f
      try clear X7fa
      try clear X7fb
      try clear X7fc
      try clear X7fd
      try clear X7fe
      try clear X7ff
      obtain ⟨X7l, X7a, X7b, X7c, X7d, X7e, X7f, -, -, -, -, -, -⟩ := X7.facts6
      try clear X10l
      try clear X10a
      try clear X10b
      try clear X10c
      try clear X10fa
      try clear X10fb
      try clear X10fc
      obtain ⟨X10l, X10a, X10b, X10c, -, -, -⟩ := X10.facts3
      try clear X12l
      try clear X12a
      try clear X12b
      try clear X12c
      try clear X12fa
      try clear X12fb
      try clear X12fc
      obtain ⟨X12l, X12a, X12b, X12c, -, -, -⟩ := X12.facts3
      clear hlen
      obtain ⟨hw2, hw3, hcast, q1, q2, q3, q0⟩ := path_sums V.length hM
      refine rg_start (Since W6) (.take 0 1 (.take 1 3 (.take 2 7 (.take 3 15 (.take 4 31 (.take 5 63 (.take 6 127 (.take 7 255 (.take 8 511 (.take 9 1023 (.take 10 2047 (.take 11 4095 (.take 12 8191 (.take 13 16383 (.take 14 32767 (.take 15 65535 (.take 16 131071 (.take 17 262143 (.take 18 524287 (.take 19 1048575 (.take 20 2097151 (.take 21 4194303 (.take 22 8388607 (.take 23 16777215 (.take 24 33554431 (.take 25 67108863 (.take 26 134217727 (.take 27 268435455 (.take 28 536870911 (.take 29 1073741823 (.take 30 2147483647 (.take 31 4294967295 (.take 32 8589934591 (.take 33 17179869183 (.take 34 34359738367 (.take 35 68719476735 (.take 36 137438953471 (.take 37 274877906943 (.take 38 549755813887 (.take 39 1099511627775 (.take 40 2199023255551 (.take 41 4398046511103 (.take 42 8796093022207 (.take 43 17592186044415 (.take 44 35184372088831 (.take 45 70368744177663 (.call 46 140737488355327 (.take 47 281474976710655 (.take 48 562949953421311 (.done)))))))))))))))))))))))))))))))))))))))))))))))))) (by kernel_rfl) (bD (bR _)) (by kernel_rfl) (by kernel_rfl) (Nat.le_of_ble_eq_true (by kernel_rfl)) ?_
      intro opsR QR Hops HQrg hS
      refine rg_take (i := 0) (get_of Hops rfl) hS ?_
      apply Exists.intro
      apply And.intro
      · refine .inl ⟨(wanted_plain rfl), fun wq hq => ?_⟩
        clear hq
        go_simp
        try rfl
      try simp only [Act.put, List.setIfInBounds_toArray, List.set_cons_zero, List.set_cons_succ]
      refine rg_take (i := 1) (get_of Hops rfl) hS ?_
      apply Exists.intro
      apply And.intro
      · refine .inl ⟨(wanted_plain rfl), fun wq hq => ?_⟩
        clear hq
        go_simp
        try rfl
      try simp only [Act.put, List.setIfInBounds_toArray, List.set_cons_zero, List.set_cons_succ]
      refine rg_take (i := 2) (get_of Hops rfl) hS ?_
      apply Exists.intro
      apply And.intro
      · refine .inl ⟨(wanted_plain rfl), fun wq hq => ?_⟩
        clear hq
        go_simp
        try rfl
      try simp only [Act.put, List.setIfInBounds_toArray, List.set_cons_zero, List.set_cons_succ]
      refine rg_take (i := 3) (get_of Hops rfl) hS ?_
      apply Exists.intro
      apply And.intro
      · refine .inl ⟨(wanted_yes rfl (get_of Hops rfl) rfl rfl), fun wq hq => ?_⟩
        clear hq
        go_simp
        try rfl
      try simp only [Act.put, List.setIfInBounds_toArray, List.set_cons_zero, List.set_cons_succ]
      refine rg_take (i := 4) (get_of Hops rfl) hS ?_
      apply Exists.intro
      apply And.intro
      · refine .inl ⟨(wanted_yes rfl (get_of Hops rfl) rfl rfl), fun wq hq => ?_⟩
        clear hq
        go_simp
        try rfl
      try simp only [Act.put, List.setIfInBounds_toArray, List.set_cons_zero, List.set_cons_succ]
      refine rg_take (i := 5) (get_of Hops rfl) hS ?_
      apply Exists.intro
      apply And.intro
      · refine .inl ⟨(wanted_plain rfl), fun wq hq => ?_⟩
        clear hq
        go_simp
        try rfl
      try simp only [Act.put, List.setIfInBounds_toArray, List.set_cons_zero, List.set_cons_succ]
      refine rg_take (i := 6) (get_of Hops rfl) hS ?_
      apply Exists.intro
      apply And.intro
      · refine .inl ⟨(wanted_plain rfl), fun wq hq => ?_⟩
        clear hq
        go_simp
        try rfl
      try simp only [Act.put, List.setIfInBounds_toArray, List.set_cons_zero, List.set_cons_succ]
      refine rg_take (i := 7) (get_of Hops rfl) hS ?_
      apply Exists.intro
      apply And.intro
      · refine .inl ⟨(wanted_yes rfl (get_of Hops rfl) rfl rfl), fun wq hq => ?_⟩
        clear hq
        go_simp
        try rfl
      try simp only [Act.put, List.setIfInBounds_toArray, List.set_cons_zero, List.set_cons_succ]
      refine rg_take (i := 8) (get_of Hops rfl) hS ?_
      apply Exists.intro
      apply And.intro
      · refine .inl ⟨(wanted_yes rfl (get_of Hops rfl) rfl rfl), fun wq hq => ?_⟩
        clear hq
        go_simp
        try rfl
      try simp only [Act.put, List.setIfInBounds_toArray, List.set_cons_zero, List.set_cons_succ]
      refine rg_take (i := 9) (get_of Hops rfl) hS ?_
      apply Exists.intro
      apply And.intro
      · refine .inl ⟨(wanted_plain rfl), fun wq hq => ?_⟩
        clear hq
        go_simp
        try rfl
      try simp only [Act.put, List.setIfInBounds_toArray, List.set_cons_zero, List.set_cons_succ]
      refine rg_take (i := 10) (get_of Hops rfl) hS ?_
      apply Exists.intro
      apply And.intro
      · refine .inl ⟨(wanted_plain rfl), fun wq hq => ?_⟩
        clear hq
        go_simp
        try rfl
      try simp only [Act.put, List.setIfInBounds_toArray, List.set_cons_zero, List.set_cons_succ]
      refine rg_take (i := 11) (get_of Hops rfl) hS ?_
      apply Exists.intro
      apply And.intro
      · refine .inl ⟨(wanted_yes rfl (get_of Hops rfl) rfl rfl), fun wq hq => ?_⟩
        clear hq
        go_simp
        try rfl
      try simp only [Act.put, List.setIfInBounds_toArray, List.set_cons_zero, List.set_cons_succ]
      refine rg_take (i := 12) (get_of Hops rfl) hS ?_
      apply Exists.intro
      apply And.intro
      · refine .inl ⟨(wanted_yes rfl (get_of Hops rfl) rfl rfl), fun wq hq => ?_⟩
        clear hq
        go_simp
        try rfl
      try simp only [Act.put, List.setIfInBounds_toArray, List.set_cons_zero, List.set_cons_succ]
      refine rg_take (i := 13) (get_of Hops rfl) hS ?_
      apply Exists.intro
      apply And.intro
      · refine .inl ⟨(wanted_yes rfl (get_of Hops rfl) rfl rfl), fun wq hq => ?_⟩
        clear hq
        go_simp
        try rfl
      try simp only [Act.put, List.setIfInBounds_toArray, List.set_cons_zero, List.set_cons_succ]
      refine rg_take (i := 14) (get_of Hops rfl) hS ?_
      apply Exists.intro
      apply And.intro
      · refine .inl ⟨(wanted_yes rfl (get_of Hops rfl) rfl rfl), fun wq hq => ?_⟩
        have hq' : Below W6.heap.size W6 wq := hq
        obtain ⟨hqc, -⟩ := bcell hq'
        clear hq hq'
        go_simp
        try rfl
      try simp only [Act.put, List.setIfInBounds_toArray, List.set_cons_zero, List.set_cons_succ]
      refine rg_take (i := 15) (get_of Hops rfl) hS ?_
      apply Exists.intro
      apply And.intro
      · refine .inl ⟨(wanted_yes rfl (get_of Hops rfl) rfl rfl), fun wq hq => ?_⟩
        clear hq
        go_simp
        try rfl
      try simp only [Act.put, List.setIfInBounds_toArray, List.set_cons_zero, List.set_cons_succ]
      refine rg_take (i := 16) (get_of Hops rfl) hS ?_
      apply Exists.intro
      apply And.intro
      · refine .inl ⟨(wanted_yes rfl (get_of Hops rfl) rfl rfl), fun wq hq => ?_⟩
        clear hq
        go_simp
        try rfl
      try simp only [Act.put, List.setIfInBounds_toArray, List.set_cons_zero, List.set_cons_succ]
      refine rg_take (i := 17) (get_of Hops rfl) hS ?_
      apply Exists.intro
      apply And.intro
      · refine .inl ⟨(wanted_yes rfl (get_of Hops rfl) rfl rfl), fun wq hq => ?_⟩
        clear hq
        go_simp
        try rfl
      try simp only [Act.put, List.setIfInBounds_toArray, List.set_cons_zero, List.set_cons_succ]
      refine rg_take (i := 18) (get_of Hops rfl) hS ?_
      apply Exists.intro
      apply And.intro
      · refine .inl ⟨(wanted_plain rfl), fun wq hq => ?_⟩
        clear hq
        go_simp
        try rfl
      try simp only [Act.put, List.setIfInBounds_toArray, List.set_cons_zero, List.set_cons_succ]
      refine rg_take (i := 19) (get_of Hops rfl) hS ?_
      apply Exists.intro
      apply And.intro
      · refine .inl ⟨(wanted_plain rfl), fun wq hq => ?_⟩
        clear hq
        go_simp
        try rfl
      try simp only [Act.put, List.setIfInBounds_toArray, List.set_cons_zero, List.set_cons_succ]
      refine rg_take (i := 20) (get_of Hops rfl) hS ?_
      apply Exists.intro
      apply And.intro
      · refine .inl ⟨(wanted_yes rfl (get_of Hops rfl) rfl rfl), fun wq hq => ?_⟩
        clear hq
        go_simp
        try rfl
      try simp only [Act.put, List.setIfInBounds_toArray, List.set_cons_zero, List.set_cons_succ]
      refine rg_take (i := 21) (get_of Hops rfl) hS ?_
      apply Exists.intro
      apply And.intro
      · refine .inl ⟨(wanted_yes rfl (get_of Hops rfl) rfl rfl), fun wq hq => ?_⟩
        clear hq
        go_simp
        try rfl
      try simp only [Act.put, List.setIfInBounds_toArray, List.set_cons_zero, List.set_cons_succ]
      refine rg_take (i := 22) (get_of Hops rfl) hS ?_
      apply Exists.intro
      apply And.intro
      · refine .inl ⟨(wanted_yes rfl (get_of Hops rfl) rfl rfl), fun wq hq => ?_⟩
        have hq' : Below W6.heap.size W6 wq := hq
        obtain ⟨hqc, -⟩ := bcell hq'
        clear hq hq'
        go_simp
        try rfl
      try simp only [Act.put, List.setIfInBounds_toArray, List.set_cons_zero, List.set_cons_succ]
      refine rg_take (i := 23) (get_of Hops rfl) hS ?_
      apply Exists.intro
      apply And.intro
      · refine .inl ⟨(wanted_yes rfl (get_of Hops rfl) rfl rfl), fun wq hq => ?_⟩
        clear hq
        go_simp
        try rfl
      try simp only [Act.put, List.setIfInBounds_toArray, List.set_cons_zero, List.set_cons_succ]
      refine rg_take (i := 24) (get_of Hops rfl) hS ?_
      apply Exists.intro
      apply And.intro
      · refine .inl ⟨(wanted_yes rfl (get_of Hops rfl) rfl rfl), fun wq hq => ?_⟩
        have hq' : Below W6.heap.size W6 wq := hq
        obtain ⟨hqc, -⟩ := bcell hq'
        clear hq hq'
        go_simp
        try rfl
      try simp only [Act.put, List.setIfInBounds_toArray, List.set_cons_zero, List.set_cons_succ]
      refine rg_take (i := 25) (get_of Hops rfl) hS ?_
      apply Exists.intro
      apply And.intro
      · refine .inl ⟨(wanted_yes rfl (get_of Hops rfl) rfl rfl), fun wq hq => ?_⟩
        clear hq
        go_simp
        try rfl
      try simp only [Act.put, List.setIfInBounds_toArray, List.set_cons_zero, List.set_cons_succ]
      refine rg_take (i := 26) (get_of Hops rfl) hS ?_
      apply Exists.intro
      apply And.intro
      · refine .inl ⟨(wanted_plain rfl), fun wq hq => ?_⟩
        clear hq
        go_simp
        try rfl
      try simp only [Act.put, List.setIfInBounds_toArray, List.set_cons_zero, List.set_cons_succ]
      refine rg_take (i := 27) (get_of Hops rfl) hS ?_
      apply Exists.intro
      apply And.intro
      · refine .inl ⟨(wanted_plain rfl), fun wq hq => ?_⟩
        clear hq
        go_simp
        try rfl
      try simp only [Act.put, List.setIfInBounds_toArray, List.set_cons_zero, List.set_cons_succ]
      refine rg_take (i := 28) (get_of Hops rfl) hS ?_
      apply Exists.intro
      apply And.intro
      · refine .inl ⟨(wanted_yes rfl (get_of Hops rfl) rfl rfl), fun wq hq => ?_⟩
        clear hq
        go_simp
        try rfl
      try simp only [Act.put, List.setIfInBounds_toArray, List.set_cons_zero, List.set_cons_succ]
      refine rg_take (i := 29) (get_of Hops rfl) hS ?_
      apply Exists.intro
      apply And.intro
      · refine .inl ⟨(wanted_yes rfl (get_of Hops rfl) rfl rfl), fun wq hq => ?_⟩
        clear hq
        go_simp
        try rfl
      try simp only [Act.put, List.setIfInBounds_toArray, List.set_cons_zero, List.set_cons_succ]
      refine rg_take (i := 30) (get_of Hops rfl) hS ?_
      apply Exists.intro
      apply And.intro
      · refine .inl ⟨(wanted_yes rfl (get_of Hops rfl) rfl rfl), fun wq hq => ?_⟩
        clear hq
        go_simp
        try rfl
      try simp only [Act.put, List.setIfInBounds_toArray, List.set_cons_zero, List.set_cons_succ]
      refine rg_take (i := 31) (get_of Hops rfl) hS ?_
      apply Exists.intro
      apply And.intro
      · refine .inl ⟨(wanted_yes rfl (get_of Hops rfl) rfl rfl), fun wq hq => ?_⟩
        clear hq
        go_simp
        try rfl
      try simp only [Act.put, List.setIfInBounds_toArray, List.set_cons_zero, List.set_cons_succ]
      refine rg_take (i := 32) (get_of Hops rfl) hS ?_
      apply Exists.intro
      apply And.intro
      · refine .inl ⟨(wanted_yes rfl (get_of Hops rfl) rfl rfl), fun wq hq => ?_⟩
        clear hq
        go_simp
        try rfl
      try simp only [Act.put, List.setIfInBounds_toArray, List.set_cons_zero, List.set_cons_succ]
      refine rg_take (i := 33) (get_of Hops rfl) hS ?_
      apply Exists.intro
      apply And.intro
      · refine .inl ⟨(wanted_yes rfl (get_of Hops rfl) rfl rfl), fun wq hq => ?_⟩
        have hq' : Below W6.heap.size W6 wq := hq
        obtain ⟨hqc, -⟩ := bcell hq'
        clear hq hq'
        go_simp
        try rfl
      try simp only [Act.put, List.setIfInBounds_toArray, List.set_cons_zero, List.set_cons_succ]
      refine rg_take (i := 34) (get_of Hops rfl) hS ?_
      apply Exists.intro
      apply And.intro
      · refine .inl ⟨(wanted_yes rfl (get_of Hops rfl) rfl rfl), fun wq hq => ?_⟩
        clear hq
        go_simp
        try rfl
      try simp only [Act.put, List.setIfInBounds_toArray, List.set_cons_zero, List.set_cons_succ]
      refine rg_take (i := 35) (get_of Hops rfl) hS ?_
      apply Exists.intro
      apply And.intro
      · refine .inl ⟨(wanted_yes rfl (get_of Hops rfl) rfl rfl), fun wq hq => ?_⟩
        have hq' : Below W6.heap.size W6 wq := hq
        obtain ⟨hqc, -⟩ := bcell hq'
        clear hq hq'
        go_simp
        try rfl
      try simp only [Act.put, List.setIfInBounds_toArray, List.set_cons_zero, List.set_cons_succ]
      refine rg_take (i := 36) (get_of Hops rfl) hS ?_
      apply Exists.intro
      apply And.intro
      · refine .inl ⟨(wanted_yes rfl (get_of Hops rfl) rfl rfl), fun wq hq => ?_⟩
        clear hq
        go_simp
        try rfl
      try simp only [Act.put, List.setIfInBounds_toArray, List.set_cons_zero, List.set_cons_succ]
      refine rg_take (i := 37) (get_of Hops rfl) hS ?_
      apply Exists.intro
      apply And.intro
      · refine .inl ⟨(wanted_plain rfl), fun wq hq => ?_⟩
        clear hq
        go_simp
        try rfl
      try simp only [Act.put, List.setIfInBounds_toArray, List.set_cons_zero, List.set_cons_succ]
      refine rg_take (i := 38) (get_of Hops rfl) hS ?_
      apply Exists.intro
      apply And.intro
      · refine .inl ⟨(wanted_plain rfl), fun wq hq => ?_⟩
        clear hq
        go_simp
        try rfl
      try simp only [Act.put, List.setIfInBounds_toArray, List.set_cons_zero, List.set_cons_succ]
      refine rg_take (i := 39) (get_of Hops rfl) hS ?_
      apply Exists.intro
      apply And.intro
      · refine .inl ⟨(wanted_yes rfl (get_of Hops rfl) rfl rfl), fun wq hq => ?_⟩
        clear hq
        go_simp
        try rfl
      try simp only [Act.put, List.setIfInBounds_toArray, List.set_cons_zero, List.set_cons_succ]
      refine rg_take (i := 40) (get_of Hops rfl) hS ?_
      apply Exists.intro
      apply And.intro
      · refine .inl ⟨(wanted_yes rfl (get_of Hops rfl) rfl rfl), fun wq hq => ?_⟩
        clear hq
        go_simp
        try rfl
      try simp only [Act.put, List.setIfInBounds_toArray, List.set_cons_zero, List.set_cons_succ]
      refine rg_take (i := 41) (get_of Hops rfl) hS ?_
      apply Exists.intro
      apply And.intro
      · refine .inl ⟨(wanted_yes rfl (get_of Hops rfl) rfl rfl), fun wq hq => ?_⟩
        clear hq
        go_simp
        try rfl
      try simp only [Act.put, List.setIfInBounds_toArray, List.set_cons_zero, List.set_cons_succ]
      refine rg_take (i := 42) (get_of Hops rfl) hS ?_
      apply Exists.intro
      apply And.intro
      · refine .inl ⟨(wanted_yes rfl (get_of Hops rfl) rfl rfl), fun wq hq => ?_⟩
        clear hq
        go_simp
        try rfl
      try simp only [Act.put, List.setIfInBounds_toArray, List.set_cons_zero, List.set_cons_succ]
      refine rg_take (i := 43) (get_of Hops rfl) hS ?_
      apply Exists.intro
      apply And.intro
      · refine .inl ⟨(wanted_yes rfl (get_of Hops rfl) rfl rfl), fun wq hq => ?_⟩
        clear hq
        go_simp
        try rfl
      try simp only [Act.put, List.setIfInBounds_toArray, List.set_cons_zero, List.set_cons_succ]
      refine rg_take (i := 44) (get_of Hops rfl) hS ?_
      apply Exists.intro
      apply And.intro
      · refine .inl ⟨(wanted_yes rfl (get_of Hops rfl) rfl rfl), fun wq hq => ?_⟩
        clear hq
        go_simp
        try rfl
      try simp only [Act.put, List.setIfInBounds_toArray, List.set_cons_zero, List.set_cons_succ]
      refine rg_take (i := 45) (get_of Hops rfl) hS ?_
      apply Exists.intro
      apply And.intro
      · refine .inl ⟨(wanted_yes rfl (get_of Hops rfl) rfl rfl), fun wq hq => ?_⟩
        have hq' : Below W6.heap.size W6 wq := hq
        obtain ⟨hqc, -⟩ := bcell hq'
        clear hq hq'
        go_simp
        try rfl
      try simp only [Act.put, List.setIfInBounds_toArray, List.set_cons_zero, List.set_cons_succ]
      refine rg_call (i := 46) (get_of Hops rfl) (fun K hK => ?_)
      have HSrg := Lib.hid hS; clear hS
      refine rg_run (wanted_yes rfl (get_of Hops rfl) rfl rfl) ?_
      go_simp
      refine (TSP.out _ HSrg.out).mono ?_
      rintro e wr1 ⟨rfl, hbr1⟩
      have hS : Since W6 wr1 := bT (w := W6) HSrg.out hbr1
      clear HSrg
      refine hK.out _ _ hS (fun _ => ?_)
      clear hK K
      try simp only [Act.put, List.setIfInBounds_toArray, List.set_cons_zero, List.set_cons_succ]
      refine rg_take (i := 47) (get_of Hops rfl) hS ?_
      apply Exists.intro
      apply And.intro
      · refine .inl ⟨(wanted_yes rfl (get_of Hops rfl) rfl rfl), fun wq hq => ?_⟩
        clear hq
        go_simp
        try rfl
      try simp only [Act.put, List.setIfInBounds_toArray, List.set_cons_zero, List.set_cons_succ]
      refine rg_take (i := 48) (get_of Hops rfl) hS ?_
      apply Exists.intro
      apply And.intro
      · refine .inl ⟨(wanted_plain rfl), fun wq hq => ?_⟩
        clear hq
        go_simp
        try rfl
      try simp only [Act.put, List.setIfInBounds_toArray, List.set_cons_zero, List.set_cons_succ]
      refine rg_done ?_
      refine HQrg.down _ _ ?_
      have hB : Below W6.heap.size W6 wr1 := hS
      clear hS HQrg Hops
      clear hw2 hw3 hcast q1 q2 q3 q0 hEx hEy hdx hdy hcut f0 f1 g0 g1 hR8 hlb8
      replace X7 := X7.keep hB
      have B7 := Lib.hid (bT B6.out hB)
      have HX7 := Lib.hid X7
      obtain ⟨W7, hW7⟩ : ∃ W7 : World, W7 = wr1 := ⟨_, rfl⟩
      have HC5 := Lib.hid (HO3.out.mono B7.out)
      clear X7 X7l X7a X7b X7c X7d X7e X7f X10 X12 X10l X10a X10b X10c X12l X12a X12b X12c hB X1 TPath TN1 TN2 TSP HP8 B6 hc8 hcm8 hbr1
      try clear hW7
      go_wp2_with fail
      obtain ⟨wo, rfl⟩ : ∃ wo : World, wo = wr := ⟨_, rfl⟩
      go_loopw [14] (fun u wx => ∃ j : Nat, j ≤ V.length ∧ u = .int .i64 j ∧ Below wr1.heap.size wr1 wx) (fun u _ => V.length - (intOf u).toNat)
      case atStart => exact ⟨0, Nat.zero_le _, rfl, bR wr1⟩
      case round =>
        obtain ⟨j, hj, rfl, hbx⟩ := hrel
        have Hbx := Lib.hid hbx
        have X7 := HX7.out.keep hbx
        clear hbx
        try clear X7l
        try clear X7a
        try clear X7b
        try clear X7c
        try clear X7d
        try clear X7e
        try clear X7f
        try clear X7fa
        try clear X7fb
        try clear X7fc
        try clear X7fd
        try clear X7fe
        try clear X7ff
        obtain ⟨X7l, X7a, X7b, X7c, X7d, X7e, X7f, -, -, -, -, -, -⟩ := X7.facts6
        by_cases hlj : j < V.length
        case pos =>
          obtain ⟨Ax, cx, hex, -, -, hRx⟩ := HVia.out.mono (bT HB3.out (bT B7.out Hbx.out))
          injection hex with e1 e2 e3
          subst e1
          clear e2 e3
          obtain ⟨b9, o9, rfl, hlb9, d0, d1⟩ := hRx.pt hlj
          have hc1 := Lib.hid (HCnt.out j hlj)
          have TC := Lib.hid (fun W (hW : Below wr1.heap.size wr1 W) => count_spec _ (pointsS p) V[j] W (HC5.out.mono hW))
          clear hRx
          go_wp2_with fail
          refine (TC.out _ Hbx.out).mono ?_
          rintro e w9 ⟨rfl, hb9⟩
          rw [hc1.out]
          have Bx := Lib.hid (bT Hbx.out hb9)
          clear hb9 d0 d1 hlb9 X7 X7l X7a X7b X7c X7d X7e X7f
          go_wp2_with fail
          go_roundw
          case rel => exact ⟨j + 1, by omega, by go_num, Bx.out⟩
          case measure => simp [intOf]; omega
        case neg =>
          by_cases he : a.fr = a.dst
          · have h4 := HFour.out he
            have he' : (a.fr == a.dst) = true := beq_iff_eq.2 he
            clear he
            go_wp2_with fail
            go_roundw
            case rel => exact ⟨i + 1, by omega, by go_num, bT B7.out Hbx.out⟩
            case measure => simp [intOf]; omega
          · have he' : (a.fr == a.dst) = false := beq_eq_false_iff_ne.2 he
            clear he
            go_wp2_with fail
            go_roundw
            case rel => exact ⟨i + 1, by omega, by go_num, bT B7.out Hbx.out⟩
            case measure => simp [intOf]; omega
end Go.Proofs.Ytibchmofckhofaa
