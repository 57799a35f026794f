/- mapsheetsref14.twice. mapsheetsref14.ascending; mapsheetslaw14.count. mapsheetsref14.ranges. -/
import Derived.Test.YtoclnkfeblfpbaaGreatGC
set_option linter.unusedSimpArgs false
set_option linter.unusedVariables false
namespace Go.Proofs.YtoclnkfeblfpbaaGreat
open Go.RowKit

/-- Two of the points are equal. -/
def dupS (l : List Pt) : Bool := (List.range l.length).any fun i => (l.take i).any fun p => decide (l[i]? = some p)
theorem dup_yes (l : List Pt) (i k : Nat) (hk : k < i) (hi : i < l.length) (h : l[i] = l[k]'(by omega)) : dupS l = true := by
 unfold dupS
 refine List.any_eq_true.2 ⟨i, List.mem_range.2 hi, List.any_eq_true.2 ⟨l[k]'(by omega), ?_, ?_⟩⟩
 ·
  rw [List.mem_iff_getElem]
  exact ⟨k, by rw [List.length_take]; omega, by simp⟩
 · rw [List.getElem?_eq_getElem hi, h]; simp
theorem dup_no (l : List Pt) (h : ∀ i k (hk : k < i) (hi : i < l.length), ¬ l[i] = l[k]'(by omega)) : dupS l = false := by
 unfold dupS
 rw [List.any_eq_false]
 intro i hi
 have hi := List.mem_range.1 hi
 simp only [Bool.not_eq_true]
 rw [List.any_eq_false]
 intro p hp
 obtain ⟨k, hk, rfl⟩ := List.mem_iff_getElem.1 hp
 rw [List.length_take] at hk
 have := h i k (by omega) hi
 rw [List.getElem?_eq_getElem hi]
 simpa using this

set_option maxRecDepth 100000 in
set_option maxHeartbeats 1000000 in
theorem twice_ref_spec (v : Value) (p : Pl) (w : World) (h : PlV w v p) :
  Calls Tryz.prog 64 #[v] w fun e w' => e = .returned (.bool (dupS (p.nodes.map (·.pt)))) ∧ Below w.heap.size w w' := by
 obtain ⟨_, va, vf, al, rfl, hpa, ⟨An, cn, rfl, hn1, hn2, hR⟩, -, -⟩ := h
 unfold maxLen at hn2
 generalize p.nodes = l at *
 clear hpa
 obtain ⟨q, hq⟩ : ∃ q, dupS (l.map (·.pt)) = q := ⟨_, rfl⟩
 rw [hq]
 have Hq := Lib.hid hq; clear hq
 have HR := Lib.hid hR; clear hR
 go_enter Tryz.func64, Tryz.ntmps64
 go_wp2_with fail
 obtain ⟨W0, hW0⟩ : ∃ W0 : World, W0 = w.alloc (.cells #[.slice An l.length cn, va, vf] 26) := ⟨_, rfl⟩
 have X1 : Blk W0 w.heap.size 26 #[.slice An l.length cn, va, vf] := by rw [hW0]; exact Blk.made rfl _ _
 have Bw0 : Below w.heap.size w W0 := by rw [hW0]; exact bA (bR w) _
 rw [← hW0]
 have HX0 := Lib.hid X1
 clear hW0 X1
 go_loopw [3] (fun s wr => ∃ i : Nat, i ≤ l.length ∧ s = .int .i64 i ∧ Below W0.heap.size W0 wr ∧ ∀ j k (hk : k < j) (hj : j < l.length), j < i → ¬ l[j].pt = l[k].pt) (fun s _ => l.length - (intOf s).toNat)
 case atStart => exact ⟨0, Nat.zero_le _, rfl, bR W0, fun _ _ _ _ h => by omega⟩
 case round =>
  obtain ⟨i, hi, rfl, hb, hno⟩ := hrel
  have Hb := Lib.hid hb
  have Hno := Lib.hid hno
  have X1 := HX0.out.keep hb
  clear hb hno
  obtain ⟨X1l, X1a, X1b, X1c, -, -, -⟩ := X1.facts3
  by_cases hlt : i < l.length
  ·
   go_wp2_with fail
   obtain ⟨wo, rfl⟩ : ∃ wo : World, wo = wr := ⟨_, rfl⟩
   clear X1 X1l X1a X1b X1c
   go_loopw [4] (fun s wr => ∃ k : Nat, k ≤ i ∧ s = .int .i64 k ∧ Below W0.heap.size W0 wr ∧ ∀ m (hm : m < l.length), m < k → ¬ l[i].pt = l[m].pt) (fun s _ => i - (intOf s).toNat)
   case atStart => exact ⟨0, Nat.zero_le _, rfl, Hb.out, fun _ _ h => by omega⟩
   case round =>
    obtain ⟨k, hk, rfl, hb, hno2⟩ := hrel
    have Hb2 := Lib.hid hb
    have Hno2 := Lib.hid hno2
    have X1 := HX0.out.keep hb
    clear hb hno2
    by_cases hlk : k < i
    ·
     have hkl : k < l.length := by omega
     obtain ⟨b, o, rfl, hlb, c0, c1, c2⟩ := (HR.out.mono (bT Bw0 Hb2.out)).nd hlt
     obtain ⟨b', o', e, hlb', d0, d1, d2⟩ := (HR.out.mono (bT Bw0 Hb2.out)).nd hkl
     simp only [Option.some.injEq, Addr.mk.injEq, and_true] at e
     obtain ⟨rfl, rfl⟩ := e
     try clear X1l
     try clear X1a
     try clear X1b
     try clear X1c
     obtain ⟨X1l, X1a, X1b, X1c, -, -, -⟩ := X1.facts3
     have q1 : 0 ≤ (k : Int) := by omega
     have q2 : (k : Int) < l.length := by omega
     have q3 : 0 ≤ (i : Int) := by omega
     have q4 : (i : Int) < l.length := by omega
     have hE := run_eql_pt l[i].pt l[k].pt
     by_cases he : l[i].pt = l[k].pt
     ·
      have hd : decide (l[i].pt = l[k].pt) = true := decide_eq_true he
      have hf := Lib.hid (dup_yes (l.map (·.pt)) i k hlk (by simpa using hlt) (by simpa using he))
      clear he
      go_upto_region 7 with fail
      refine rg_start (Since wr) (.run 13 0 0 (.done)) (by kernel_rfl) (bD (bR _)) (by kernel_rfl) (by kernel_rfl) (Nat.le_of_ble_eq_true (by kernel_rfl)) ?_
      intro opsR QR Hops HQrg hS
      iterate 13
       apply rg_p; exact Hops; exact rfl; exact hS; exact rfl
       · intro _ hqc; go_simp; try rfl
       try simp only [pu]
      refine rg_done ?_
      refine HQrg.down _ _ ?_
      have hB : Below wr.heap.size wr wr.drew := hS
      clear hS HQrg Hops
      have Bw : Below W0.heap.size W0 wr.drew := bT Hb2.out hB
      clear hB
      go_wp2_with fail
      go_ret
      exact ⟨ret_bool (hf.out.symm.trans Hq.out), bT Bw0 Bw⟩
     ·
      have hd : decide (l[i].pt = l[k].pt) = false := decide_eq_false he
      have He := Lib.hid he
      clear he
      go_upto_region 7 with fail
      refine rg_start (Since wr) (.run 13 0 0 (.done)) (by kernel_rfl) (bD (bR _)) (by kernel_rfl) (by kernel_rfl) (Nat.le_of_ble_eq_true (by kernel_rfl)) ?_
      intro opsR QR Hops HQrg hS
      iterate 13
       apply rg_p; exact Hops; exact rfl; exact hS; exact rfl
       · intro _ hqc; go_simp; try rfl
       try simp only [pu]
      refine rg_done ?_
      refine HQrg.down _ _ ?_
      have hB : Below wr.heap.size wr wr.drew := hS
      clear hS HQrg Hops
      have Bw : Below W0.heap.size W0 wr.drew := bT Hb2.out hB
      clear hB
      go_wp2_with fail
      go_roundw
      case rel => exact ⟨k + 1, by omega, by go_num, Bw, fun m hm hmk => if e : m < k then Hno2.out m hm e else by
        have : m = k := by omega
        subst this; exact He.out⟩
      case measure => simp [intOf]; omega
    ·
     go_wp2_with fail
     go_roundw
     case rel => exact ⟨i + 1, by omega, by go_num, Hb2.out, fun j m hm hj hji => if e : j < i then Hno.out j m hm hj e else by
       have : j = i := by omega
       subst this; exact Hno2.out m (by omega) (by omega)⟩
     case measure => simp [intOf]; omega
  ·
   have hf := Lib.hid (dup_no (l.map (·.pt)) (fun j m hm hj => by
    have := Hno.out j m hm (by simpa using hj) (by rw [List.length_map] at hj; omega)
    simpa using this))
   go_wp2_with fail
   go_ret
   exact ⟨ret_bool (hf.out.symm.trans Hq.out), bT Bw0 Hb.out⟩
end Go.Proofs.YtoclnkfeblfpbaaGreat
namespace Go.Proofs.YtoclnkfeblfpbaaGreat
open Go.RowKit

set_option maxHeartbeats 400000 in
theorem Rascending_spec (v : Value) (l : List Int) (w : World) (h : Ints w v l) :
  Calls Tryz.prog 61 #[v] w fun e w' => e = .returned (.bool (asc l)) ∧ Below w.heap.size w w' := by
 obtain ⟨A, c, rfl, hn, hc, hR⟩ := h
 unfold maxLen at hc
 go_enter Tryz.func61, Tryz.ntmps61
 go_wp2_with fail
 go_loopw [3] (fun i wr => ∃ m : Nat, i = .int .i64 ((m : Int) + 1) ∧ (m = 0 ∨ m + 1 ≤ l.length) ∧ Below w.heap.size w wr ∧ ∀ j (hj : j + 1 < l.length), j < m → l[j] < l[j + 1]) (fun i _ => l.length + 1 - (intOf i).toNat)
 case atStart => exact ⟨0, rfl, .inl rfl, bR w, fun j _ h => by omega⟩
 case round =>
  obtain ⟨m, rfl, hm, hb, hno⟩ := hrel
  have Hb := Lib.hid hb
  have Hno := Lib.hid hno
  clear hb hno
  by_cases hlt : m + 1 < l.length
  ·
   obtain ⟨b, o, rfl, hlb, c1⟩ := (hR.mono Hb.out).int hlt
   obtain ⟨b', o', e, hlb', c0⟩ := (hR.mono Hb.out).int (show m < l.length by omega)
   simp only [Option.some.injEq, Addr.mk.injEq, and_true] at e
   obtain ⟨rfl, rfl⟩ := e
   have HR := Lib.hid hR; clear hR hm
   have q1 : IntKind.i64.wrap (m : Int) = m := IntWalk.i64_in _ (by omega)
   have q2 : 0 ≤ (m : Int) := by omega
   have q3 : (m : Int) < l.length := by omega
   have q4 : (m : Int) + 1 < l.length := by omega
   have q5 : 0 ≤ (m : Int) + 1 := by omega
   have q6 : ((m : Int) + 1).toNat = m + 1 := by omega
   go_upto_region 4 with fail
   refine rg_start (Since wr) (.run 10 0 0 (.done)) (by kernel_rfl) (bD (bR _)) (by kernel_rfl) (by kernel_rfl) (Nat.le_of_ble_eq_true (by kernel_rfl)) ?_
   intro opsR QR Hops HQrg hS
   iterate 10
    apply rg_p; exact Hops; exact rfl; exact hS; exact rfl
    · intro _ hqc; go_simp; try rfl
    try simp only [pu]
   refine rg_done ?_
   refine HQrg.down _ _ ?_
   have hB : Below wr.heap.size wr wr.drew := hS
   clear hS HQrg Hops
   have Bw : Below w.heap.size w wr.drew := bT Hb.out hB
   clear hB
   by_cases hlt2 : l[m] < l[m + 1]
   ·
    go_wp2_with fail
    go_roundw
    case rel => exact ⟨m + 1, by go_num, .inr (by omega), Bw, fun j hj hjm => if e : j < m then Hno.out j hj e else by
      have : j = m := by omega
      subst this; exact hlt2⟩
    case measure => simp [intOf]; omega
   ·
    have hf := Lib.hid (asc_no l m hlt hlt2)
    go_wp2_with fail
    go_ret
    exact ⟨ret_bool hf.out.symm, Bw⟩
  ·
   have hf := Lib.hid (asc_yes l fun j hj => Hno.out j hj (by omega))
   go_wp2_with fail
   go_ret
   exact ⟨ret_bool hf.out.symm, Hb.out⟩

def countS (l : List Pt) (p : Pt) : Nat := (l.filter fun q => decide (q = p)).length
end Go.Proofs.YtoclnkfeblfpbaaGreat
namespace Go.Proofs.YtoclnkfeblfpbaaGreat
open Go.RowKit

def rangesS (p : Pl) : Bool := !((p.nodes.map (·.id) ++ p.arcs.map (·.id) ++ p.faces).any idBad) && (pointsS p).all ptOk

set_option maxRecDepth 100000 in
set_option maxHeartbeats 1000000 in
theorem ranges_spec (v : Value) (p : Pl) (w : World) (h : PlV w v p) (hl1 : p.nodes.length ≤ 4096) (hl2 : p.arcs.length ≤ 4096) (hl3 : p.faces.length ≤ 4096) (hl4 : (p.arcs.flatMap (·.via)).length ≤ 1048576) :
  Calls Tryz.prog 63 #[v] w fun e w' => e = .returned (.bool (rangesS p)) ∧ Below w.heap.size w w' := by
 have HP := Lib.hid h
 obtain ⟨vn, va, vf, al, rfl, hpa, -, -, hF⟩ := h
 have HF := Lib.hid hF; clear hF hpa
 obtain ⟨q, hq⟩ : ∃ q, rangesS p = q := ⟨_, rfl⟩
 rw [hq]
 have Hq := Lib.hid hq; clear hq
 go_enter Tryz.func63, Tryz.ntmps63
 go_upto_region 1 with fail
 obtain ⟨W0, hW0⟩ : ∃ W0 : World, W0 = w.alloc (.cells #[vn, va, vf] 26) := ⟨_, rfl⟩
 have X1 : Blk W0 w.heap.size 26 #[vn, va, vf] := by rw [hW0]; exact Blk.made rfl _ _
 have Bw0 : Below w.heap.size w W0 := by rw [hW0]; exact bA (bR w) _
 rw [← hW0]
 clear hW0
 obtain ⟨X1l, X1a, X1b, X1c, -, -, -⟩ := X1.facts3
 have HL := Lib.hid (show (p.nodes.map (·.id)).length = p.nodes.length ∧ (p.arcs.map (·.id)).length = p.arcs.length from ⟨List.length_map _, List.length_map _⟩)
 go_cut [3] (fun s wx => Own wx w.heap.size 3 1 inC s (p.nodes.map (·.id) ++ p.arcs.map (·.id) ++ p.faces) ∧ Below W0.heap.size W0 wx)
 case first =>
  refine rg_start (Since W0) (.take 0 1 (.take 2 5 (.take 5 37 (.take 6 101 (.call 1 103 (.call 3 111 (.call 4 127 (.call 7 255 (.take 8 511 (.done)))))))))) (by kernel_rfl) (bD (bR _)) (by kernel_rfl) (by kernel_rfl) (Nat.le_of_ble_eq_true (by kernel_rfl)) ?_
  intro opsR QR Hops HQrg hS
  iterate 4
   apply rg_p; exact Hops; exact rfl; exact hS; exact rfl
   · intro _ hqc; go_simp; try rfl
   try simp only [pu]
  refine rg_call (i := 1) (get_of Hops rfl) (fun K hK => ?_)
  have HSrg := Lib.hid hS; clear hS
  refine rg_run (wanted_plain rfl) ?_
  go_simp
  refine (ids_nodes_spec _ p _ (HP.out.mono (bT Bw0 HSrg.out)) (by omega)).mono ?_
  rintro e wr1 ⟨v1, rfl, hbr1, ho1⟩
  have hS : Since W0 wr1 := bT (w := W0) HSrg.out hbr1
  clear HSrg
  refine hK.out _ _ hS (fun _ => ?_)
  clear hK K
  try simp only [pu]
  refine rg_call (i := 3) (get_of Hops rfl) (fun K hK => ?_)
  have HSrg := Lib.hid hS; clear hS
  refine rg_run (wanted_plain rfl) ?_
  go_simp
  refine (ids_arcs_spec _ p _ (HP.out.mono (bT Bw0 HSrg.out)) (by omega)).mono ?_
  rintro e wr2 ⟨v2, rfl, hbr2, ho2⟩
  have hS : Since W0 wr2 := bT (w := W0) HSrg.out hbr2
  clear HSrg
  refine hK.out _ _ hS (fun _ => ?_)
  clear hK K
  try simp only [pu]
  refine rg_call (i := 4) (get_of Hops rfl) (fun K hK => ?_)
  have HSrg := Lib.hid hS; clear hS
  refine rg_run (wanted_plain rfl) ?_
  refine wp_appl (.tmp 8) (.tmp 10) _ rfl (base := W0.heap.size) elem_in inC_len inC_one rfl ((ho1.keep hbr2).mono_base (by simp)) rfl (Own.sl ho2) (by have := HL.out; omega) (by have := HL.out; omega) (Below.size HSrg.out) ?_
  intro v3 wr3 ho3 hg hat
  have hS : Since W0 wr3 := bG (w := W0) HSrg.out hg (fun g hk => ((ho1.mono_base (b' := W0.heap.size) (by simp)).lt g hk).1)
  clear HSrg
  refine hK.out _ _ hS (fun _ => ?_)
  clear hK K
  try simp only [pu]
  refine rg_call (i := 7) (get_of Hops rfl) (fun K hK => ?_)
  have HSrg := Lib.hid hS; clear hS
  refine rg_run (wanted_plain rfl) ?_
  refine wp_appl (.tmp 11) (.tmp 13) _ rfl (base := W0.heap.size) elem_in inC_len inC_one rfl ho3 rfl (HF.out.mono (bT Bw0 HSrg.out)) (by have := HL.out; simp only [List.length_append]; omega) (by have := HL.out; simp only [List.length_append]; omega) (Below.size HSrg.out) ?_
  intro v4 wr4 ho4 hg4 hat4
  have hS : Since W0 wr4 := bG (w := W0) HSrg.out hg4 (fun g hk => (ho3.lt g hk).1)
  clear HSrg
  refine hK.out _ _ hS (fun _ => ?_)
  clear hK K
  try simp only [pu]
  apply rg_p; exact Hops; exact rfl; exact hS; exact rfl
  · intro _ hqc; go_simp; try rfl
  try simp only [pu]
  refine rg_done ?_
  refine HQrg.down _ _ ?_
  have hB : Below W0.heap.size W0 _ := hS
  clear hS HQrg Hops
  go_wp2_with fail
  go_meet
  case rel => exact ⟨ho4.mono_base Bw0.size, hB⟩
 case rest =>
  obtain ⟨hown, hBo⟩ := hcut
  have X0 := X1.keep hBo
  have HX0 := Lib.hid X0
  have Bwc := bT Bw0 hBo
  have hsl := Own.sl hown
  generalize hLL : p.nodes.map (·.id) ++ p.arcs.map (·.id) ++ p.faces = LL at *
  have HLL := Lib.hid hLL
  obtain ⟨A, c, rfl, hn, hc, hR⟩ := hsl
  unfold maxLen at hc
  have HR := Lib.hid hR
  clear hR hown X1 X1l X1a X1b X1c hLL hBo X0
  go_wp2_with fail
  go_loopw [4] (fun i wr => ∃ k : Nat, k ≤ LL.length ∧ i = .int .i64 k ∧ Below wc.heap.size wc wr ∧ ∀ j (hj : j < LL.length), j < k → idBad LL[j] = false) (fun i _ => LL.length - (intOf i).toNat)
  case atStart => exact ⟨0, Nat.zero_le _, rfl, bR wc, fun j _ h => by omega⟩
  case round =>
   obtain ⟨k, hk, rfl, hb, hno⟩ := hrel
   have Hb := Lib.hid hb
   have Hno := Lib.hid hno
   clear hb hno
   by_cases hlt : k < LL.length
   ·
    obtain ⟨b, o, rfl, hlb, c0⟩ := (HR.out.mono Hb.out).int hlt
    by_cases h1 : LL[k] < 1
    ·
     have hf := Lib.hid (any_hit LL idBad k hlt (by simp [idBad, h1]))
     go_wp2_with fail
     go_ret
     exact ⟨ret_bool (by rw [← Hq.out, rangesS, HLL.out, hf.out]; rfl), bT Bwc Hb.out⟩
    ·
     by_cases h2 : 1073741824 < LL[k]
     ·
      have hf := Lib.hid (any_hit LL idBad k hlt (by simp [idBad, h2]))
      go_wp2_with fail
      go_ret
      exact ⟨ret_bool (by rw [← Hq.out, rangesS, HLL.out, hf.out]; rfl), bT Bwc Hb.out⟩
     ·
      have hg := Lib.hid (show idBad LL[k] = false by simp [idBad, h1, h2])
      go_wp2_with fail
      go_roundw
      case rel => exact ⟨k + 1, by omega, by go_num, Hb.out, all_succ (p := fun y => idBad y = false) Hno.out hlt hg.out⟩
      case measure => simp [intOf]; omega
   ·
    have hf := Lib.hid (any_miss LL idBad (fun j hj => Hno.out j hj (by omega)))
    have X1 := HX0.out.keep Hb.out
    try clear X1l
    try clear X1a
    try clear X1b
    try clear X1c
    obtain ⟨X1l, X1a, X1b, X1c, -, -, -⟩ := X1.facts3
    go_wp2_with fail
    refine (Points_spec _ p _ (HP.out.mono (bT Bwc Hb.out)) (by omega) hl4).mono ?_
    rintro e w1 ⟨v1, rfl, hb1, hown⟩
    have Bw1 := bT (bT Bwc Hb.out) hb1
    obtain ⟨A1, cc1, rfl, hn1, hc1, hR1⟩ := Own.sl hown
    unfold maxLen at hc1
    have HR1 := Lib.hid hR1
    generalize hPP : pointsS p = PP at *
    have HPP := Lib.hid hPP
    clear hR1 hown hb1 X1l X1a X1b X1c hlt hPP
    go_wp2_with fail
    go_loopw [6] (fun i wr => ∃ k : Nat, k ≤ PP.length ∧ i = .int .i64 k ∧ Below w1.heap.size w1 wr ∧ ∀ j (hj : j < PP.length), j < k → ptOk PP[j] = true) (fun i _ => PP.length - (intOf i).toNat)
    case atStart => exact ⟨0, Nat.zero_le _, rfl, bR w1, fun j _ h => by omega⟩
    case round =>
     obtain ⟨k, hk, rfl, hb, hno⟩ := hrel
     have Hb2 := Lib.hid hb
     have Hno2 := Lib.hid hno
     clear hb hno
     by_cases hlt : k < PP.length
     ·
      obtain ⟨b, o, rfl, hlb, c0, c1⟩ := (HR1.out.mono Hb2.out).pt hlt
      go_wp2_with fail
      refine (Valid_spec PP[k] _).mono ?_
      rintro e w2 ⟨rfl, hb2⟩
      have Bw2 : Below w1.heap.size w1 w2 := bT Hb2.out hb2
      clear hb2 c0 c1
      cases hv : ptOk PP[k]
      ·
       have hf2 : PP.all ptOk = false := List.all_eq_false.2 ⟨PP[k], List.getElem_mem hlt, by simp [hv]⟩
       have Hf2 := Lib.hid hf2; clear hf2
       go_wp2_with fail
       go_ret
       exact ⟨ret_bool (by rw [← Hq.out, rangesS, HPP.out, Hf2.out, Bool.and_false]), bT Bw1 Bw2⟩
      ·
       go_wp2_with fail
       go_roundw
       case rel => exact ⟨k + 1, by omega, by go_num, Bw2, all_succ (p := fun y => ptOk y = true) Hno2.out hlt hv⟩
       case measure => simp [intOf]; omega
     ·
      have hf2 : PP.all ptOk = true := List.all_eq_true.2 fun x hx => by
       obtain ⟨i, hi, rfl⟩ := List.mem_iff_getElem.1 hx
       exact Hno2.out i hi (by omega)
      have Hf2 := Lib.hid hf2; clear hf2
      go_wp2_with fail
      go_ret
      exact ⟨ret_bool (by rw [← Hq.out, rangesS, HPP.out, Hf2.out, HLL.out, hf.out]; rfl), bT Bw1 Hb2.out⟩
end Go.Proofs.YtoclnkfeblfpbaaGreat
