/- mapsheetsref42.Match. -/
import Derived.Test.YtbjlnnfmcjbnhaaGreatDoorJ19
import Derived.Test.YtbjlnnfmcjbnhaaGreatDoorJ20
set_option linter.unusedSimpArgs false
set_option linter.unusedVariables false
namespace Go.Proofs.YtbjlnnfmcjbnhaaGreatDoor
open Go.RowKit

def dupIn (l : List Prt) (s : Se) (n : Int) : Nat → List Int
  | 0 => []
  | j + 1 => dupIn l s n j ++ dupSide l s n ((j : Int) + 1)
theorem dupIn_four (l : List Prt) (s : Se) (k : Nat) : dupUp l s k ++ dupIn l s ((k : Int) + 1) 4 = dupUp l s (k + 1) := by
  rw [dupUp]
  simp [dupIn]
theorem dupIn_len (l : List Prt) (s : Se) (n : Int) (j : Nat) : (dupIn l s n j).length ≤ j := by
  induction j with
  | zero => simp [dupIn]
  | succ j ih =>
    rw [dupIn, List.length_append]
    have : (dupSide l s n ((j : Int) + 1)).length ≤ 1 := by unfold dupSide; split <;> simp
    omega
theorem rCross {v : Value} {l : List (Prt × Value × Value)} {s : Se} {k : Nat} {side : Int} {w : World} (h : Prts w v l) (hs : SheetsOk l s) (hk : k < l.length) (hside : 1 ≤ side ∧ side ≤ 4) :
    Calls Tryz.prog 11 #[.agg #[.int .i64 l[k].1.sheet, l[k].2.1, l[k].2.2], bxV (boxOf s ((k : Int) + 1)), .int .i64 side] w (RetCr0 w (crossResS (prtAt (l.map (·.1)) ((k : Int) + 1)) (boxOf s ((k : Int) + 1)) side).1) := by
  have hm := List.getElem_mem hk
  have hf := hs.few _ hm
  refine (rCrossings_spec _ l[k].1 (boxOf s ((k : Int) + 1)) side w (h.2 k hk) hf.1).mono ?_
  rintro e w' ⟨A, c, he, hb, ho⟩
  rw [prtAt_eq hk]
  rw [(crossRes_facts l[k].1 (boxOf s ((k : Int) + 1)) hside).1] at he
  exact ⟨A, c, he, hb, ho⟩

set_option maxRecDepth 100000 in
set_option maxHeartbeats 8000000 in
theorem rMatch_spec (v : Value) (l : List (Prt × Value × Value)) (s : Se) (w : World) (h : Prts w v l) (hwf : ∀ x ∈ l, wfPrt x.1) (hf : ∀ x ∈ l, x.1.pieces.length ≤ 60000 ∧ x.1.nodes.length ≤ 60000) (hlen : l.length ≤ 60000) :
    Calls Tryz.prog 19 #[v, seV s] w (RetInsE w (matchS (l.map (·.1)) s)) := by
  have TC : ∀ W, Calls Tryz.prog 49 #[seV s] W _ := fun W => rCheck_spec s W
  have TN : ∀ n side W, Calls Tryz.prog 22 #[seV s, .int .i64 n, .int .i64 side] W _ := fun n side W => rNeighbor_spec s n side W
  have TB : ∀ n (hn : InS s n) W, Calls Tryz.prog 42 #[seV s, .int .i64 n] W fun e w' => e = .returned (boxV (boxOf s n, 0)) ∧ Below W.heap.size W w' := fun n hn W => by
    have := rBox_spec s n W
    rw [boxRes_in hn] at this
    exact this
  have TX := fun W (hW : Below w.heap.size w W) (hs : SheetsOk l s) (k : Nat) (hk : k < l.length) (side : Int) (h1 : 1 ≤ side ∧ side ≤ 4) => rCross (h.mono hW) hs hk h1
  have HPts := Lib.hid (fun k (hk : k < l.length) => h.form hk)
  obtain ⟨⟨A, c, rfl, hlc, hc, hR⟩, -⟩ := h
  unfold maxLen at hc
  have HR := Lib.hid hR
  obtain ⟨r, hr⟩ : ∃ r, matchS (l.map (·.1)) s = r := ⟨_, rfl⟩
  rw [hr]
  have Hr := Lib.hid hr
  clear hR hr
  unfold boxV at TB
  unfold seV at TC TN TB ⊢
  unfold bxV at TX TB
  unfold nbRes at TN
  have HC := Lib.hid TC; have HNb := Lib.hid TN; have HBx := Lib.hid TB; have HX := Lib.hid TX
  clear TC TN TB TX
  have HWf := Lib.hid hwf; have HFew := Lib.hid hf
  clear hwf hf
  obtain ⟨z, hz⟩ : ∃ z, seOk s = z := ⟨_, rfl⟩
  have hzc : seCheck s = if z = true then 0 else 2 := by rw [← hz]; rfl
  rw [hzc] at HC
  have Hz := Lib.hid hz
  clear hzc hz
  go_enter Tryz.func19, Tryz.ntmps19
  go_wp2_with fail
  refine (HC.out _).mono ?_
  rintro e W0 ⟨rfl, hb0⟩
  have HB0 := Lib.hid (bT (bA (bR w) _) hb0)
  have HX3 := Lib.hid (show Blk W0 w.heap.size 44 #[.int .i64 s.at_.x, .int .i64 s.at_.y, .int .i64 s.width, .int .i64 s.height, .int .i64 s.cols, .int .i64 s.rows] from (Blk.made rfl _ _).keep hb0)
  clear hb0
  have X3 := HX3.out
  try clear X3l
  try clear X3a
  try clear X3b
  try clear X3c
  try clear X3d
  try clear X3e
  try clear X3f
  try clear X3fa
  try clear X3fb
  try clear X3fc
  try clear X3fd
  try clear X3fe
  try clear X3ff
  obtain ⟨X3l, X3a, X3b, X3c, X3d, X3e, X3f, -, -, -, -, -, -⟩ := X3.facts6
  cases z
  case false =>
    have hf := Hr.out
    unfold matchS at hf
    rw [if_neg (by rw [Hz.out]; simp)] at hf
    subst hf
    go_wp2_with fail
    go_ret2
    exact ⟨none, 0, rfl, HB0.out, Sl.nil _⟩
  have hwr := (wrap_cr (seOk_bd Hz.out)).1
  by_cases hll : (l.length : Int) = s.cols * s.rows
  case neg =>
    have hf := Hr.out
    unfold matchS at hf
    rw [if_pos Hz.out, if_neg (by rw [List.length_map]; exact fun e => hll e.1)] at hf
    subst hf
    have hne : ((l.length : Int) != s.cols * s.rows) = true := by simpa using hll
    clear hll
    go_wp2_with fail
    go_ret2
    exact ⟨none, 0, rfl, HB0.out, Sl.nil _⟩
  have hne : ((l.length : Int) != s.cols * s.rows) = false := by simpa using hll
  have HLL := Lib.hid hll
  clear hll
  obtain ⟨wo, hwo⟩ : ∃ wo : World, W0 = wo := ⟨_, rfl⟩
  subst hwo
  go_wp2_with fail
  go_loopw [7] (fun u wr => ∃ k : Nat, k ≤ l.length ∧ u = .int .i64 k ∧ Below W0.heap.size W0 wr ∧ ∀ j (hj : j < l.length), j < k → l[j].1.sheet = (j : Int) + 1) (fun u _ => l.length - (intOf u).toNat)
  case atStart => exact ⟨0, Nat.zero_le _, rfl, bR W0, fun _ _ h => by omega⟩
  case round =>
    obtain ⟨k, hk, rfl, hb, hno⟩ := hrel
    have Hb := Lib.hid hb
    have Hno := Lib.hid hno
    have X3 := HX3.out.keep hb
    clear hb hno
    have hkl : l.length ≤ 60000 := hlen
    by_cases hlt : k < l.length
    case pos =>
      obtain ⟨b, o, rfl, hlb, c0, c1, c2⟩ := (HR.out.mono (bT HB0.out Hb.out)).prt hlt
      by_cases he : l[k].1.sheet = (k : Int) + 1
      · have hd : (l[k].1.sheet != (k : Int) + 1) = false := by simpa using he
        have He := Lib.hid he
        clear he X3
        go_wp2_with fail
        go_roundw
        case rel => exact ⟨k + 1, by omega, by go_num, Hb.out, fun j hj hjk => if e : j < k then Hno.out j hj e else by
          have : j = k := by omega
          subst this; exact He.out⟩
        case measure => simp [intOf]; omega
      · have hd : (l[k].1.sheet != (k : Int) + 1) = true := by simpa using he
        have hf := Hr.out
        unfold matchS at hf
        have hnn := numbered_not (l := l.map (·.1)) (j := k) (by simpa using hlt) (by simpa using he)
        rw [if_pos Hz.out, if_neg (by rw [hnn]; simp)] at hf
        subst hf
        clear he hnn
        go_wp2_with fail
        go_ret2
        exact ⟨none, 0, rfl, bT HB0.out Hb.out, Sl.nil _⟩
    case neg =>
    have hkk : k = l.length := by omega
    subst hkk
    have hok : SheetsOk l s := ⟨Hz.out, HLL.out, fun j hj => Hno.out j hj hj, HWf.out, HFew.out⟩
    have hf := Hr.out
    unfold matchS at hf
    rw [if_pos Hz.out, if_pos ⟨by rw [List.length_map]; exact HLL.out, numbered_all fun j hj => by
      rw [List.length_map] at hj
      simp only [List.getElem_map, Nat.zero_add]
      exact hok.num j hj⟩] at hf
    have HF := Lib.hid hf
    have HOk := Lib.hid hok
    have hl256 := hok.short
    have HBw := Lib.hid (bT HB0.out Hb.out)
    obtain ⟨W1, rfl⟩ : ∃ W1 : World, W1 = wr := ⟨_, rfl⟩
    have HX3' := Lib.hid X3
    clear hf hok hlt Hno X3 X3l X3a X3b X3c X3d X3e X3f Hr
    go_wp2_with fail
    go_loopw [8, 9] (fun bl u wr => ∃ k : Nat, k ≤ l.length ∧ u = .int .i64 k ∧ Own wr W1.heap.size 3 1 inC bl (dupUp (l.map (·.1)) s k) ∧ Below W1.heap.size W1 wr) (fun _ u _ => l.length - (intOf u).toNat)
    case atStart => exact ⟨0, Nat.zero_le _, rfl, Own.nil _ _ _ _ _, bR W1⟩
    case round =>
      obtain ⟨k, hk, rfl, ho, hb⟩ := hrel
      have Hb := Lib.hid hb
      have Ho := Lib.hid ho
      have hbl := dupUp_len (l.map (·.1)) s k
      obtain ⟨As, cs, rfl, -⟩ := Own.form ho
      clear hb ho
      by_cases hlt : k < l.length
      case neg =>
        have hkk : k = l.length := by omega
        subst hkk
        have hf := HF.out
        rw [List.length_map] at hf
        have HF' := Lib.hid hf
        have TNo := Normal_spec _ _ wr Ho.out.sl (by omega)
        rw [norm_dup] at TNo
        have HNo := Lib.hid TNo
        clear hf TNo
        generalize dupUp (l.map (·.1)) s l.length = bl at *
        generalize badUp (l.map (·.1)) s l.length = bl2 at *
        go_wp2_with fail
        refine HNo.out.mono ?_
        rintro e w5 ⟨A5, c5, rfl, hb5, ho5⟩
        have B5 := Lib.hid (bT Hb.out hb5)
        have Ho5 := Lib.hid ho5
        clear hb5 ho5
        go_wp2_with fail
        go_ret2
        have hf := HF'.out
        subst hf
        exact ⟨A5, c5, rfl, bT HBw.out B5.out, Ho5.out⟩
      have hin := HOk.out.inS hlt
      have HX' := Lib.hid (fun W (hW : Below w.heap.size w W) side (h1 : 1 ≤ side ∧ side ≤ 4) => HX.out W hW HOk.out k hlt side h1)
      have HBk := Lib.hid (HBx.out _ hin)
      have HNk := Lib.hid (HNb.out ((k : Int) + 1))
      have w1e : IntKind.i64.wrap ((k : Int) + 1) = (k : Int) + 1 := IntWalk.i64_in _ (by omega)
      obtain ⟨wp, rfl⟩ : ∃ wp : World, wp = wr := ⟨_, rfl⟩
      clear hin
      go_wp2_with fail
      go_loopw [8, 10] (fun bl u wx => ∃ j : Nat, j ≤ 4 ∧ u = .int .i64 ((j : Int) + 1) ∧ Own wx W1.heap.size 3 1 inC bl (dupUp (l.map (·.1)) s k ++ dupIn (l.map (·.1)) s ((k : Int) + 1) j) ∧ Below W1.heap.size W1 wx) (fun _ u _ => 5 - (intOf u).toNat)
      case atStart => exact ⟨0, by omega, rfl, by rw [dupIn, List.append_nil]; exact Ho.out, Hb.out⟩
      case round =>
        obtain ⟨j, hj, rfl, hox, hbx⟩ := hrel
        have Hbx := Lib.hid hbx
        have X3 := HX3'.out.keep hbx
        have hzx := hbx.size
        have Hox := Lib.hid hox
        have hdl := dupIn_len (l.map (·.1)) s ((k : Int) + 1) j
        obtain ⟨Ad, cd, rfl, -⟩ := Own.form hox
        clear hbx hox
        try clear X3l
        try clear X3a
        try clear X3b
        try clear X3c
        try clear X3d
        try clear X3e
        try clear X3f
        try clear X3fa
        try clear X3fb
        try clear X3fc
        try clear X3fd
        try clear X3fe
        try clear X3ff
        obtain ⟨X3l, X3a, X3b, X3c, X3d, X3e, X3f, -, -, -, -, -, -⟩ := X3.facts6
        by_cases h4 : j < 4
        case neg =>
          have h5 : j = 4 := by omega
          subst h5
          have ho := Hox.out
          rw [dupIn_four] at ho
          have HO := Lib.hid ho
          clear ho
          go_wp2_with fail
          go_roundw
          case rel => exact ⟨k + 1, by omega, by go_num, HO.out, Hbx.out⟩
          case measure => simp [intOf]; omega
        have hs1 : 1 ≤ (j : Int) + 1 ∧ (j : Int) + 1 ≤ 4 := by omega
        have w2e : IntKind.i64.wrap ((j : Int) + 1 + 1) = (j : Int) + 1 + 1 := IntWalk.i64_in _ (by omega)
        have TNk := HNk.out ((j : Int) + 1)
        have hlen8 : (dupUp (l.map (·.1)) s k ++ dupIn (l.map (·.1)) s ((k : Int) + 1) j).length ≤ 10000 := by rw [List.length_append]; omega
        have HLen8 := Lib.hid hlen8
        clear hlen8
        have hst0 : dupUp (l.map (·.1)) s k ++ dupIn (l.map (·.1)) s ((k : Int) + 1) (j + 1) = dupUp (l.map (·.1)) s k ++ dupIn (l.map (·.1)) s ((k : Int) + 1) j ++ dupSide (l.map (·.1)) s ((k : Int) + 1) ((j : Int) + 1) := by
          rw [dupIn, List.append_assoc]
        generalize dupUp (l.map (·.1)) s k ++ dupIn (l.map (·.1)) s ((k : Int) + 1) j = D at *
        cases hn : nbS s ((k : Int) + 1) ((j : Int) + 1)
        case none =>
          rw [hn] at TNk
          simp only [Option.getD_none, Option.isSome_none] at TNk
          have HNn := Lib.hid TNk
          have hag : agS (l.map (·.1)) s ((k : Int) + 1) ((j : Int) + 1) = true := by unfold agS; rw [hn]
          rw [dupSide, if_pos hag, List.append_nil] at hst0
          have HSt := Lib.hid hst0
          clear hn TNk hag hst0
          go_wp2_with fail
          refine (HNn.out _).mono ?_
          rintro e wy ⟨rfl, hby⟩
          have Hby := Lib.hid (bT Hbx.out hby)
          have HOy := Lib.hid (Hox.out.keep hby)
          clear hby
          go_wp2_with fail
          go_roundw
          case rel => exact ⟨j + 1, by omega, by go_num, by rw [HSt.out]; exact HOy.out, Hby.out⟩
          case measure => simp [intOf]; omega
        case some m =>
        rw [hn] at TNk
        simp only [Option.getD_some, Option.isSome_some] at TNk
        obtain ⟨i, rfl, hi⟩ := HOk.out.lt (nbS_in hn).1
        have HNn := Lib.hid TNk
        have TBm := HBx.out _ (nbS_in hn).1
        have HBm := Lib.hid TBm
        have T1 := fun W (hW : Below w.heap.size w W) => HX'.out W hW ((j : Int) + 1) hs1
        have T2 := fun W (hW : Below w.heap.size w W) => HX.out W hW HOk.out i hi (facS ((j : Int) + 1)) (fac_side hs1)
        have hL1 : (crossResS (prtAt (l.map (·.1)) ((i : Int) + 1)) (boxOf s ((i : Int) + 1)) (facS ((j : Int) + 1))).1.length ≤ 120000 := by
          have := (crossRes_facts (prtAt (l.map (·.1)) ((i : Int) + 1)) (boxOf s ((i : Int) + 1)) (fac_side hs1)).2
          rw [prtAt_eq hi] at this ⊢
          have h2 := (HOk.out.few _ (List.getElem_mem hi)).1
          omega
        have hag : agS (l.map (·.1)) s ((k : Int) + 1) ((j : Int) + 1) = decide ((crossResS (prtAt (l.map (·.1)) ((k : Int) + 1)) (boxOf s ((k : Int) + 1)) ((j : Int) + 1)).1 = oppS (crossResS (prtAt (l.map (·.1)) ((i : Int) + 1)) (boxOf s ((i : Int) + 1)) (facS ((j : Int) + 1))).1) := by unfold agS; rw [hn]
        generalize hr1 : (crossResS (prtAt (l.map (·.1)) ((k : Int) + 1)) (boxOf s ((k : Int) + 1)) ((j : Int) + 1)).1 = r1 at *
        generalize hr2 : (crossResS (prtAt (l.map (·.1)) ((i : Int) + 1)) (boxOf s ((i : Int) + 1)) (facS ((j : Int) + 1))).1 = r2 at *
        have HL1 := Lib.hid hL1
        have HAg := Lib.hid hag
        have HSt0 := Lib.hid hst0
        have H1 := Lib.hid T1; have H2 := Lib.hid T2
        have HFc := Lib.hid (fun W => rfacing_spec ((j : Int) + 1) W hs1)
        generalize boxOf s ((k : Int) + 1) = bk at *
        generalize boxOf s ((i : Int) + 1) = bi at *
        clear hL1 hag hst0 T1 T2 hr1 hr2 TNk TBm hn
        go_wp2_with fail
        refine (HNn.out _).mono ?_
        rintro e wy ⟨rfl, hby⟩
        have Hby := Lib.hid (bT Hbx.out hby)
        have HOy := Lib.hid (Hox.out.keep hby)
        have X3y := Lib.hid (X3.keep hby)
        clear hby X3 X3l X3a X3b X3c X3d X3e X3f
        have X3 := X3y.out
        try clear X3l
        try clear X3a
        try clear X3b
        try clear X3c
        try clear X3d
        try clear X3e
        try clear X3f
        try clear X3fa
        try clear X3fb
        try clear X3fc
        try clear X3fd
        try clear X3fe
        try clear X3ff
        obtain ⟨X3l, X3a, X3b, X3c, X3d, X3e, X3f, -, -, -, -, -, -⟩ := X3.facts6
        go_wp2_with fail
        refine (HBk.out _).mono ?_
        rintro e wz ⟨rfl, hbz⟩
        have Hbz := Lib.hid (bT Hby.out hbz)
        have HOz := Lib.hid (HOy.out.keep hbz)
        have X3z := Lib.hid (X3.keep hbz)
        clear hbz X3 X3l X3a X3b X3c X3d X3e X3f
        have X3 := X3z.out
        try clear X3l
        try clear X3a
        try clear X3b
        try clear X3c
        try clear X3d
        try clear X3e
        try clear X3f
        try clear X3fa
        try clear X3fb
        try clear X3fc
        try clear X3fd
        try clear X3fe
        try clear X3ff
        obtain ⟨X3l, X3a, X3b, X3c, X3d, X3e, X3f, -, -, -, -, -, -⟩ := X3.facts6
        go_wp2_with fail
        refine (HBm.out _).mono ?_
        rintro e wv ⟨rfl, hbv⟩
        have HXA := Lib.hid (show Blk wv wz.heap.size 27 #[.int .i64 bk.x0, .int .i64 bk.y0, .int .i64 bk.x1, .int .i64 bk.y1] from (Blk.made rfl _ _).keep hbv)
        have Hbv := Lib.hid (bT (bA Hbz.out _) hbv)
        have HOv := Lib.hid ((HOz.out.alloc _).keep hbv)
        have X3v := Lib.hid ((X3.alloc _).keep hbv)
        clear hbv X3 X3l X3a X3b X3c X3d X3e X3f
        go_upto_region 22 with fail
        obtain ⟨WV, hWV⟩ : ∃ WV : World, WV = wv.alloc (.cells #[.int .i64 bi.x0, .int .i64 bi.y0, .int .i64 bi.x1, .int .i64 bi.y1] 27) := ⟨_, rfl⟩
        have HXB := Lib.hid (show Blk WV wv.heap.size 27 #[.int .i64 bi.x0, .int .i64 bi.y0, .int .i64 bi.x1, .int .i64 bi.y1] by rw [hWV]; exact Blk.made rfl _ _)
        replace HXA := Lib.hid (show Blk WV wz.heap.size 27 #[.int .i64 bk.x0, .int .i64 bk.y0, .int .i64 bk.x1, .int .i64 bk.y1] by rw [hWV]; exact HXA.out.alloc _)
        have HBV := Lib.hid (show Below W1.heap.size W1 WV by rw [hWV]; exact bA Hbv.out _)
        have HOV := Lib.hid (show Own WV W1.heap.size 3 1 inC (.slice Ad D.length cd) D by rw [hWV]; exact HOv.out.alloc _)
        obtain ⟨gA, hgA⟩ : ∃ gA, wz.heap.size = gA := ⟨_, rfl⟩
        obtain ⟨gB, hgB⟩ : ∃ gB, wv.heap.size = gB := ⟨_, rfl⟩
        rw [hgA] at HXA ⊢
        rw [hgB] at HXB ⊢
        rw [← hWV]
        clear hWV Hbv HOv X3v hgA hgB X3y X3z HOy HOz Hbz
        have XA := HXA.out
        obtain ⟨b, o, rfl, hlb, c0, c1, c2⟩ := (HR.out.mono (bT HBw.out HBV.out)).prt hlt
        have q1 : 0 ≤ (k : Int) := by omega
        have q2 : (k : Int) < l.length := by omega
        have q3 : 0 ≤ (i : Int) := by omega
        have q4 : (i : Int) < l.length := by omega
        have q5 : IntKind.i64.wrap (k : Int) = k := IntWalk.i64_in _ (by omega)
        have q6 : IntKind.i64.wrap (i : Int) = i := IntWalk.i64_in _ (by omega)
        try clear XAl
        try clear XAa
        try clear XAb
        try clear XAc
        try clear XAd
        try clear XAfa
        try clear XAfb
        try clear XAfc
        try clear XAfd
        obtain ⟨XAl, XAa, XAb, XAc, XAd, -, -, -, -⟩ := XA.facts4
        refine rg_start (Since WV) (.take 0 1 (.take 1 3 (.take 2 7 (.take 3 15 (.take 4 31 (.take 5 63 (.call 6 127 (.take 7 255 (.take 8 511 (.take 9 1023 (.take 10 2047 (.take 11 4095 (.done))))))))))))) (by kernel_rfl) (bD (bR _)) (by kernel_rfl) (by kernel_rfl) (Nat.le_of_ble_eq_true (by kernel_rfl)) ?_
        intro opsR QR Hops HQrg hS
        apply rg_yp (i := 0) Hops rfl hS rfl
        · intro _ hq; clear hq; go_simp; try rfl
        try simp only [Act.put, pu1, pu2, pu3]
        apply rg_yp (i := 1) Hops rfl hS rfl
        · intro _ hq; clear hq; go_simp; try rfl
        try simp only [Act.put, pu1, pu2, pu3]
        apply rg_yp (i := 2) Hops rfl hS rfl
        · intro _ hq; clear hq; go_simp; try rfl
        try simp only [Act.put, pu1, pu2, pu3]
        apply rg_yp (i := 3) Hops rfl hS rfl
        · intro wq hq; obtain ⟨hqc, -⟩ := bcell (show Below WV.heap.size WV wq from hq); clear hq; go_simp; try rfl
        try simp only [Act.put, pu1, pu2, pu3]
        apply rg_yp (i := 4) Hops rfl hS rfl
        · intro wq hq; obtain ⟨hqc, -⟩ := bcell (show Below WV.heap.size WV wq from hq); clear hq; go_simp; try rfl
        try simp only [Act.put, pu1, pu2, pu3]
        apply rg_yp (i := 5) Hops rfl hS rfl
        · intro _ hq; clear hq; go_simp; try rfl
        try simp only [Act.put, pu1, pu2, pu3]
        refine rg_call (i := 6) (get_of Hops rfl) (fun K hK => ?_)
        have HSrg := Lib.hid hS; clear hS
        refine rg_run (wanted_plain rfl) ?_
        go_simp
        refine (H1.out _ (bT (bT HBw.out HBV.out) HSrg.out)).mono ?_
        rintro e wr1 ⟨A1, c1', rfl, hbr1, ho1⟩
        have hS : Since WV wr1 := bT (w := WV) HSrg.out hbr1
        clear HSrg
        refine hK.out _ _ hS (fun _ => ?_)
        clear hK K
        try simp only [Act.put, pu1, pu2, pu3]
        apply rg_yp (i := 7) Hops rfl hS rfl
        · intro _ hq; clear hq; go_simp; try rfl
        try simp only [Act.put, pu1, pu2, pu3]
        apply rg_yp (i := 8) Hops rfl hS rfl
        · intro _ hq; clear hq; go_simp; try rfl
        try simp only [Act.put, pu1, pu2, pu3]
        apply rg_yp (i := 9) Hops rfl hS rfl
        · intro _ hq; clear hq; go_simp; try rfl
        try simp only [Act.put, pu1, pu2, pu3]
        apply rg_yp (i := 10) Hops rfl hS rfl
        · intro _ hq; clear hq; go_simp; try rfl
        try simp only [Act.put, pu1, pu2, pu3]
        apply rg_yp (i := 11) Hops rfl hS rfl
        · intro _ hq; clear hq; go_simp; try rfl
        try simp only [Act.put, pu1, pu2, pu3]
        refine rg_done ?_
        refine HQrg.down _ _ ?_
        have hB : Below WV.heap.size WV wr1 := hS
        clear hS HQrg Hops
        have HBX := Lib.hid (bT HBV.out hB)
        have HOX := Lib.hid (HOV.out.keep hB)
        have HO1 := Lib.hid ho1
        replace HXB := Lib.hid (HXB.out.keep hB)
        clear hB ho1 XA XAl XAa XAb XAc XAd c0 c1 c2 hlb HOV HBV
        obtain ⟨WX, rfl⟩ : ∃ WX : World, WX = wr1 := ⟨_, rfl⟩
        obtain ⟨b', o', e2, hlb, c0, c1, c2⟩ := (HR.out.mono (bT HBw.out HBX.out)).prt hi
        simp only [Option.some.injEq, Addr.mk.injEq, and_true] at e2
        obtain ⟨rfl, rfl⟩ := e2
        have XB := HXB.out
        try clear XBl
        try clear XBa
        try clear XBb
        try clear XBc
        try clear XBd
        try clear XBfa
        try clear XBfb
        try clear XBfc
        try clear XBfd
        obtain ⟨XBl, XBa, XBb, XBc, XBd, -, -, -, -⟩ := XB.facts4
        go_upto_region 23 with fail
        refine rg_start (Since WX) (.take 0 1 (.take 1 3 (.take 2 7 (.take 3 15 (.take 4 31 (.take 5 63 (.take 6 127 (.call 7 255 (.call 8 511 (.take 9 1023 (.take 10 2047 (.take 11 4095 (.take 12 8191 (.take 13 16383 (.done))))))))))))))) (by kernel_rfl) (bD (bR _)) (by kernel_rfl) (by kernel_rfl) (Nat.le_of_ble_eq_true (by kernel_rfl)) ?_
        intro opsR QR Hops HQrg hS
        apply rg_yp (i := 0) Hops rfl hS rfl
        · intro _ hq; clear hq; go_simp; try rfl
        try simp only [Act.put, pu1, pu2, pu3]
        apply rg_yp (i := 1) Hops rfl hS rfl
        · intro _ hq; clear hq; go_simp; try rfl
        try simp only [Act.put, pu1, pu2, pu3]
        apply rg_yp (i := 2) Hops rfl hS rfl
        · intro _ hq; clear hq; go_simp; try rfl
        try simp only [Act.put, pu1, pu2, pu3]
        apply rg_yp (i := 3) Hops rfl hS rfl
        · intro _ hq; clear hq; go_simp; try rfl
        try simp only [Act.put, pu1, pu2, pu3]
        apply rg_yp (i := 4) Hops rfl hS rfl
        · intro wq hq; obtain ⟨hqc, -⟩ := bcell (show Below WX.heap.size WX wq from hq); clear hq; go_simp; try rfl
        try simp only [Act.put, pu1, pu2, pu3]
        apply rg_yp (i := 5) Hops rfl hS rfl
        · intro wq hq; obtain ⟨hqc, -⟩ := bcell (show Below WX.heap.size WX wq from hq); clear hq; go_simp; try rfl
        try simp only [Act.put, pu1, pu2, pu3]
        apply rg_yp (i := 6) Hops rfl hS rfl
        · intro _ hq; clear hq; go_simp; try rfl
        try simp only [Act.put, pu1, pu2, pu3]
        refine rg_call (i := 7) (get_of Hops rfl) (fun K hK => ?_)
        have HSrg := Lib.hid hS; clear hS
        refine rg_run (wanted_plain rfl) ?_
        go_simp
        refine (HFc.out _).mono ?_
        rintro e wr1 ⟨rfl, hbr1⟩
        have hS : Since WX wr1 := bT (w := WX) HSrg.out hbr1
        clear HSrg
        refine hK.out _ _ hS (fun _ => ?_)
        clear hK K
        try simp only [Act.put, pu1, pu2, pu3]
        refine rg_call (i := 8) (get_of Hops rfl) (fun K hK => ?_)
        have HSrg := Lib.hid hS; clear hS
        refine rg_run (wanted_plain rfl) ?_
        go_simp
        refine (H2.out _ (bT (bT HBw.out HBX.out) HSrg.out)).mono ?_
        rintro e wr2 ⟨A2, c2', rfl, hbr2, ho2⟩
        have hS : Since WX wr2 := bT (w := WX) HSrg.out hbr2
        clear HSrg
        refine hK.out _ _ hS (fun _ => ?_)
        clear hK K
        try simp only [Act.put, pu1, pu2, pu3]
        apply rg_yp (i := 9) Hops rfl hS rfl
        · intro _ hq; clear hq; go_simp; try rfl
        try simp only [Act.put, pu1, pu2, pu3]
        apply rg_yp (i := 10) Hops rfl hS rfl
        · intro _ hq; clear hq; go_simp; try rfl
        try simp only [Act.put, pu1, pu2, pu3]
        apply rg_yp (i := 11) Hops rfl hS rfl
        · intro _ hq; clear hq; go_simp; try rfl
        try simp only [Act.put, pu1, pu2, pu3]
        apply rg_yp (i := 12) Hops rfl hS rfl
        · intro _ hq; clear hq; go_simp; try rfl
        try simp only [Act.put, pu1, pu2, pu3]
        apply rg_yp (i := 13) Hops rfl hS rfl
        · intro _ hq; clear hq; go_simp; try rfl
        try simp only [Act.put, pu1, pu2, pu3]
        refine rg_done ?_
        refine HQrg.down _ _ ?_
        have hB : Below WX.heap.size WX wr2 := hS
        clear hS HQrg Hops
        have HBY := Lib.hid (bT HBX.out hB)
        have HOY := Lib.hid (HOX.out.keep hB)
        replace HO1 := Lib.hid (HO1.out.mono hB)
        have HOp := Lib.hid (rOpposite_spec _ r2 _ ho2 (by have := HL1.out; omega))
        clear hB ho2 XB XBl XBa XBb XBc XBd c0 c1 c2 hlb HBX HOX q1 q2 q3 q4 q5 q6
        go_wp2_with fail
        refine HOp.out.mono ?_
        rintro e w4 ⟨A4, c4, rfl, hb4, ho4⟩
        have HEq := Lib.hid (Same42_spec _ _ r1 (oppS r2) w4 (HO1.out.mono hb4) ho4)
        have B4 := Lib.hid (bT HBY.out hb4)
        have HO4 := Lib.hid (HOY.out.keep hb4)
        clear hb4 ho4
        go_wp2_with fail
        refine HEq.out.mono ?_
        rintro e w5 ⟨rfl, hb5⟩
        have B5 := Lib.hid (bT B4.out hb5)
        have HO5 := Lib.hid (HO4.out.keep hb5)
        have hz5 := B5.out.size
        clear hb5
        cases hd : decide (r1 = oppS r2)
        case true =>
          have hst := HSt0.out
          rw [dupSide, if_pos (HAg.out.trans hd), List.append_nil] at hst
          have HSt := Lib.hid hst
          clear hd hst
          go_wp2_with fail
          go_roundw
          case rel => exact ⟨j + 1, by omega, by go_num, by rw [HSt.out]; exact HO5.out, B5.out⟩
          case measure => simp [intOf]; omega
        case false =>
          have hst := HSt0.out
          rw [dupSide, if_neg (by rw [HAg.out, hd]; simp)] at hst
          have HSt := Lib.hid hst
          clear hd hst
          go_wp2_with
            (at_builtin
             refine wpList_appl _ rfl (.tmp 108) (.tmp 111) _ rfl (base := W1.heap.size) elem_in inC_len inC_one rfl (Own.alloc HO5.out _) rfl (l2 := [(k : Int) + 1]) (Sl.lit (n := 1) (Blk.made rfl _ _) rfl (le_maxLen (by omega))) (by have := HLen8.out; simp only [List.length_cons, List.length_nil]; omega) (by have := HLen8.out; simp only [List.length_cons, List.length_nil]; omega) (by simp; omega) ?_
             intro v3 w3 ho3 hg3 hat3
             have B3 := Lib.hid (show Below W1.heap.size W1 w3 from bG (bA B5.out _) hg3 (fun g hg => (HO5.out.lt g hg).1))
             have HO3 := Lib.hid ho3
             clear ho3 hg3 hat3)
          go_roundw
          case rel => exact ⟨j + 1, by omega, by go_num, by rw [HSt.out]; exact HO3.out, B3.out⟩
          case measure => simp [intOf]; omega
end Go.Proofs.YtbjlnnfmcjbnhaaGreatDoor
