/- mapsheetsref14.planar. -/
import Derived.Test.YtoclnkfeblfpbaaGreatJ07
set_option linter.unusedSimpArgs false
set_option linter.unusedVariables false
namespace Go.Proofs.YtoclnkfeblfpbaaGreat
open Go.RowKit

/-- f at each element, g at each two. -/
def triB {α : Type} (l : List α) (f : α → Bool) (g : α → α → Bool) : Bool := (List.range l.length).all fun i => match l[i]? with
  | none => true
  | some t => f t && (l.take i).all fun s => g s t
theorem tri_f {α : Type} (l : List α) (f : α → Bool) (g : α → α → Bool) (i : Nat) (hi : i < l.length) (h : f l[i] = false) : triB l f g = false := by
  unfold triB
  rw [List.all_eq_false]
  exact ⟨i, List.mem_range.2 hi, by simp [List.getElem?_eq_getElem hi, h]⟩
theorem tri_g {α : Type} (l : List α) (f : α → Bool) (g : α → α → Bool) (i k : Nat) (hk : k < i) (hi : i < l.length) (h : g (l[k]'(by omega)) l[i] = false) : triB l f g = false := by
  unfold triB
  rw [List.all_eq_false]
  refine ⟨i, List.mem_range.2 hi, ?_⟩
  have : (l.take i).all (fun s => g s l[i]) = false := by
    rw [List.all_eq_false]
    refine ⟨l[k]'(by omega), ?_, by simp [h]⟩
    rw [List.mem_iff_getElem]
    exact ⟨k, by rw [List.length_take]; omega, by simp⟩
  simp [List.getElem?_eq_getElem hi, this]
theorem tri_ok {α : Type} (l : List α) (f : α → Bool) (g : α → α → Bool) (h1 : ∀ i (hi : i < l.length), f l[i] = true) (h2 : ∀ i k (hk : k < i) (hi : i < l.length), g (l[k]'(by omega)) l[i] = true) : triB l f g = true := by
  unfold triB
  rw [List.all_eq_true]
  intro i hi
  have hi := List.mem_range.1 hi
  rw [List.getElem?_eq_getElem hi]
  simp only [Bool.and_eq_true]
  refine ⟨h1 i hi, List.all_eq_true.2 fun s hs => ?_⟩
  obtain ⟨k, hk, rfl⟩ := List.mem_iff_getElem.1 hs
  rw [List.length_take] at hk
  have := h2 i k (by omega) hi
  simpa using this

def pairR (p : Pl) (s t : Sg) : Bool := if s.arc.id = t.arc.id then apartS s t else joinedS p s t
def planarR (p : Pl) : Bool := triB (segsS p) (aloneS p) (pairR p)

theorem segs_ok (p : Pl) (hl : (p.arcs.flatMap (·.via)).length ≤ 1048576) (s : Sg) (hs : s ∈ segsS p) : s.i ≤ 2097152 ∧ 1 ≤ s.n ∧ s.n ≤ 2097152 := by
  unfold segsS at hs
  obtain ⟨a, ha, hs⟩ := List.mem_flatMap.1 hs
  unfold segsOf at hs
  obtain ⟨k, hk, rfl⟩ := List.mem_map.1 hs
  have hk := List.mem_range.1 hk
  rw [pathS_length] at hk ⊢
  obtain ⟨i, hi, rfl⟩ := List.mem_iff_getElem.1 ha
  have := flat_take_succ_le p.arcs (·.via) i hi
  simp only []
  omega

theorem Row.sg {w : World} {A : Option Addr} {l : List (Sg × SV)} (h : Row w A (l.flatMap sgC)) {k : Nat} (hk : k < l.length) :
    ∃ b o, A = some ⟨b, o, none⟩ ∧ b < w.heap.size ∧ w.cell? ⟨b, o + k * 12, none⟩ = some (.int .i64 l[k].1.arc.id) ∧ w.cell? ⟨b, o + k * 12 + 1, none⟩ = some (.int .i64 l[k].1.arc.fr) ∧ w.cell? ⟨b, o + k * 12 + 2, none⟩ = some (.int .i64 l[k].1.arc.dst) ∧ w.cell? ⟨b, o + k * 12 + 3, none⟩ = some (.slice l[k].2.a l[k].2.n l[k].2.c) ∧ w.cell? ⟨b, o + k * 12 + 4, none⟩ = some (.int .i64 l[k].1.arc.left) ∧ w.cell? ⟨b, o + k * 12 + 5, none⟩ = some (.int .i64 l[k].1.arc.right) ∧ w.cell? ⟨b, o + k * 12 + 6, none⟩ = some (.int .i64 l[k].1.i) ∧ w.cell? ⟨b, o + k * 12 + 7, none⟩ = some (.int .i64 l[k].1.n) ∧ w.cell? ⟨b, o + k * 12 + 8, none⟩ = some (.int .i64 l[k].1.a.x) ∧ w.cell? ⟨b, o + k * 12 + 9, none⟩ = some (.int .i64 l[k].1.a.y) ∧ w.cell? ⟨b, o + k * 12 + 10, none⟩ = some (.int .i64 l[k].1.b.x) ∧ w.cell? ⟨b, o + k * 12 + 11, none⟩ = some (.int .i64 l[k].1.b.y) := by
  obtain ⟨b, o, hA, hb, hc⟩ := h.at_ (n := 12) (fun _ => rfl) hk (by omega)
  exact ⟨b, o, hA, hb, hc 0 _ rfl, hc 1 _ rfl, hc 2 _ rfl, hc 3 _ rfl, hc 4 _ rfl, hc 5 _ rfl, hc 6 _ rfl, hc 7 _ rfl, hc 8 _ rfl, hc 9 _ rfl, hc 10 _ rfl, hc 11 _ rfl⟩

set_option maxRecDepth 100000 in
set_option maxHeartbeats 8000000 in
theorem planar_ref_spec (v : Value) (p : Pl) (w : World) (h : PlV w v p) (hl1 : p.arcs.length ≤ 4096) (hl2 : (p.arcs.flatMap (·.via)).length ≤ 1048576) :
    Calls Tryz.prog 67 #[v] w fun e w' => e = .returned (.bool (planarR p)) ∧ Below w.heap.size w w' := by
  have HP := Lib.hid h
  obtain ⟨vn, va, vf, al, rfl, -⟩ := h
  have hok := segs_ok p hl2
  have HOk := Lib.hid hok; clear hok
  obtain ⟨q, hq⟩ : ∃ q, planarR p = q := ⟨_, rfl⟩
  rw [hq]
  have Hq := Lib.hid hq; clear hq
  have HL1 := Lib.hid hl1; have HL2 := Lib.hid hl2
  have Hbd := Lib.hid (show (segsS p).length ≤ 1052672 by unfold segsS; rw [segs_len]; omega)
  clear hl1 hl2
  go_enter Tryz.func67, Tryz.ntmps67
  go_wp2_with fail
  refine (Segments_spec _ p _ (HP.out.mono (bA (bR w) _)) HL1.out HL2.out).mono ?_
  rintro e w1 ⟨sl, v1, hsl, rfl, hb1, hown⟩
  have Bw : Below w.heap.size w w1 := by
    repeat (first | with_reducible exact bR _ | with_reducible assumption | with_reducible refine bA ?_ _ | with_reducible refine bD ?_ | with_reducible refine bN ?_ _ | ((with_reducible refine bS ?_ ?_ _); rotate_left; (simp; try omega)) | ((with_reducible refine bT ?_ ?_); rotate_left; with_reducible assumption) | with_reducible refine bT ?_ (by assumption))
  have X2 : Blk _ (w.heap.size) 26 #[vn, va, vf] := Blk.keep (by repeat (first | exact Blk.made (by simp) _ _ | refine Blk.alloc ?_ _)) hb1
  clear hb1
  have hsl2 := Own.sl hown
  obtain ⟨A, c, rfl, hn1, hn2, hR⟩ := hsl2
  unfold maxLen at hn2
  have HR := Lib.hid hR
  have Hsl := Lib.hid hsl
  have hlen : sl.length ≤ 1052672 := by have := congrArg List.length hsl; rw [List.length_map] at this; have := Hbd.out; omega
  have HX2 := Lib.hid X2
  have HB := Lib.hid Bw
  clear X2 Bw hown hR hsl
  -- each element is a segment of the plan
  have hin : ∀ k (hk : k < sl.length), sl[k].1.i ≤ 2097152 ∧ 1 ≤ sl[k].1.n ∧ sl[k].1.n ≤ 2097152 := fun k hk => HOk.out _ (by rw [← Hsl.out]; exact List.mem_map_of_mem (List.getElem_mem hk))
  have Hin := Lib.hid hin; clear hin
  have hF : ∀ i (hi : i < sl.length), aloneS p sl[i].1 = false → q = false := fun i hi h => by
    rw [← Hq.out, planarR, ← Hsl.out]
    exact tri_f _ _ _ i (by simpa using hi) (by simpa using h)
  have hG : ∀ i k (hk : k < i) (hi : i < sl.length), pairR p (sl[k]'(by omega)).1 sl[i].1 = false → q = false := fun i k hk hi h => by
    rw [← Hq.out, planarR, ← Hsl.out]
    exact tri_g _ _ _ i k hk (by simpa using hi) (by simpa using h)
  have hY : (∀ i (hi : i < sl.length), aloneS p sl[i].1 = true) → (∀ i k (hk : k < i) (hi : i < sl.length), pairR p (sl[k]'(by omega)).1 sl[i].1 = true) → q = true := fun h1 h2 => by
    rw [← Hq.out, planarR, ← Hsl.out]
    refine tri_ok _ _ _ (fun i hi => ?_) (fun i k hk hi => ?_)
    · have := h1 i (by simpa using hi); simpa using this
    · have := h2 i k hk (by simpa using hi); simpa using this
  have HF := Lib.hid hF; have HG := Lib.hid hG; have HY := Lib.hid hY
  clear hF hG hY
  go_wp2_with fail
  go_loopw [4] (fun u wr => ∃ i : Nat, i ≤ sl.length ∧ u = .int .i64 i ∧ Below w1.heap.size w1 wr ∧ (∀ j (hj : j < sl.length), j < i → aloneS p sl[j].1 = true) ∧ (∀ j k (hk : k < j) (hj : j < sl.length), j < i → pairR p (sl[k]'(by omega)).1 sl[j].1 = true)) (fun u _ => sl.length - (intOf u).toNat)
  case atStart => exact ⟨0, Nat.zero_le _, rfl, bR w1, fun _ _ h => by omega, fun _ _ _ _ h => by omega⟩
  case round =>
    obtain ⟨i, hi, rfl, hb, hno1, hno2⟩ := hrel
    have Hb := Lib.hid hb
    have Hn1 := Lib.hid hno1
    have Hn2 := Lib.hid hno2
    have X2 := HX2.out.keep hb
    clear hb hno1 hno2
    try clear X2l
    try clear X2a
    try clear X2b
    try clear X2c
    try clear X2fa
    try clear X2fb
    try clear X2fc
    obtain ⟨X2l, X2a, X2b, X2c, -, -, -⟩ := X2.facts3
    by_cases hlt : i < sl.length
    case neg =>
      have hf := Lib.hid (HY.out (fun j hj => Hn1.out j hj (by omega)) (fun j k hk hj => Hn2.out j k hk hj (by omega)))
      go_wp2_with fail
      go_ret
      exact ⟨ret_bool hf.out.symm, bT HB.out Hb.out⟩
    obtain ⟨b, o, rfl, hlb, c0, c1, c2, c3, c4, c5, c6, c7, c8, c9, c10, c11⟩ := (HR.out.mono Hb.out).sg hlt
    have q1 : 0 ≤ (i : Int) := by omega
    have q2 : (i : Int) < sl.length := by omega
    have TA : ∀ W, Below w.heap.size w W → Calls Tryz.prog 108 #[.agg #[vn, va, vf], sgV sl[i].1 (.slice sl[i].2.a sl[i].2.n sl[i].2.c)] W _ := fun W hW => alone_spec _ p sl[i].1 sl[i].2.a sl[i].2.n sl[i].2.c W (HP.out.mono hW) (Hin.out i hlt).1 (Hin.out i hlt).2.2
    unfold sgV at TA
    have HA := Lib.hid TA; clear TA
    go_upto_region 5 with fail
    refine rg_start (Since wr) (.take 0 1 (.take 1 3 (.take 2 7 (.take 3 15 (.take 4 31 (.call 5 63 (.take 6 127 (.done)))))))) (by kernel_rfl) (bD (bR _)) (by kernel_rfl) (by kernel_rfl) (Nat.le_of_ble_eq_true (by kernel_rfl)) ?_
    intro opsR QR Hops HQrg hS
    apply rg_yp (i := 0) Hops rfl hS rfl
    · intro wq hq; obtain ⟨hqc, -⟩ := bcell (show Below wr.heap.size wr wq from hq); clear hq; go_simp; try rfl
    try simp only [Act.put, pu1, pu2, pu3]
    apply rg_yp (i := 1) Hops rfl hS rfl
    · intro _ hq; clear hq; go_simp; try rfl
    try simp only [Act.put, pu1, pu2, pu3]
    apply rg_yp (i := 2) Hops rfl hS rfl
    · intro _ hq; clear hq; go_simp; try rfl
    try simp only [Act.put, pu1, pu2, pu3]
    apply rg_yp (i := 3) Hops rfl hS rfl
    · intro _ hq; clear hq; go_simp; try rfl
    try simp only [Act.put, pu1, pu2, pu3]
    apply rg_yp (i := 4) Hops rfl hS rfl
    · intro wq hq; obtain ⟨hqc, -⟩ := bcell (show Below wr.heap.size wr wq from hq); clear hq; go_simp; try rfl
    try simp only [Act.put, pu1, pu2, pu3]
    refine rg_call (i := 5) (get_of Hops rfl) (fun K hK => ?_)
    have HSrg := Lib.hid hS; clear hS
    refine rg_run (wanted_plain rfl) ?_
    go_simp
    refine (HA.out _ (bT (bT HB.out Hb.out) HSrg.out)).mono ?_
    rintro e wr1 ⟨rfl, hbr1⟩
    have hS : Since wr wr1 := bT (w := wr) HSrg.out hbr1
    clear HSrg
    refine hK.out _ _ hS (fun _ => ?_)
    clear hK K
    try simp only [Act.put, pu1, pu2, pu3]
    apply rg_yp (i := 6) Hops rfl hS rfl
    · intro _ hq; clear hq; go_simp; try rfl
    try simp only [Act.put, pu1, pu2, pu3]
    refine rg_done ?_
    refine HQrg.down _ _ ?_
    have hB : Below wr.heap.size wr wr1 := hS
    clear hS HQrg Hops
    have Bi : Below w1.heap.size w1 wr1 := bT Hb.out hB
    cases ha : aloneS p sl[i].1
    case false =>
      have hf := Lib.hid (HF.out i hlt ha)
      clear ha
      go_wp2_with fail
      go_ret
      exact ⟨ret_bool hf.out.symm, bT HB.out Bi⟩
    have Ha := Lib.hid ha
    have HBi := Lib.hid Bi
    clear ha Bi hB c0 c1 c2 c3 c4 c5 c6 c7 c8 c9 c10 c11 hlb X2 X2l X2a X2b X2c HA
    simp only [Bool.not_true]
    go_wp2_with fail
    obtain ⟨wo, rfl⟩ : ∃ wo : World, wo = wr := ⟨_, rfl⟩
    go_loopw [5] (fun u wr => ∃ k : Nat, k ≤ i ∧ u = .int .i64 k ∧ Below w1.heap.size w1 wr ∧ ∀ j (hj : j < sl.length), j < k → pairR p sl[j].1 sl[i].1 = true) (fun u _ => i - (intOf u).toNat)
    case atStart => exact ⟨0, Nat.zero_le _, rfl, HBi.out, fun _ _ h => by omega⟩
    case round =>
      obtain ⟨k, hk, rfl, hb, hno⟩ := hrel
      have Hb2 := Lib.hid hb
      have Hn3 := Lib.hid hno
      have X2 := HX2.out.keep hb
      clear hb hno
      try clear X2l
      try clear X2a
      try clear X2b
      try clear X2c
      try clear X2fa
      try clear X2fb
      try clear X2fc
      obtain ⟨X2l, X2a, X2b, X2c, -, -, -⟩ := X2.facts3
      by_cases hki : k < i
      case neg =>
        have Hs1 := Lib.hid (all_succ (p := fun x => aloneS p x.1 = true) Hn1.out hlt Ha.out)
        have Hs2 : Hid (∀ j m (hm : m < j) (hj : j < sl.length), j < i + 1 → pairR p (sl[m]'(by omega)).1 sl[j].1 = true) := Lib.hid fun j m hm hj hji => by
          by_cases e : j < i
          · exact Hn2.out j m hm hj e
          · have : j = i := by omega
            subst this
            exact Hn3.out m (by omega) (by omega)
        go_wp2_with fail
        go_roundw
        case rel => exact ⟨i + 1, by omega, by go_num, Hb2.out, Hs1.out, Hs2.out⟩
        case measure => simp [intOf]; omega
      have hkl : k < sl.length := by omega
      obtain ⟨b', o', hbo, hlb, c0, c1, c2, c3, c4, c5, c6, c7, c8, c9, c10, c11⟩ := (HR.out.mono Hb2.out).sg hlt
      simp only [Option.some.injEq, Addr.mk.injEq, and_true] at hbo
      obtain ⟨rfl, rfl⟩ := hbo
      obtain ⟨b', o', hbo, -, d0, d1, d2, d3, d4, d5, d6, d7, d8, d9, d10, d11⟩ := (HR.out.mono Hb2.out).sg hkl
      simp only [Option.some.injEq, Addr.mk.injEq, and_true] at hbo
      obtain ⟨rfl, rfl⟩ := hbo
      have r1 : 0 ≤ (k : Int) := by omega
      have r2 : (k : Int) < sl.length := by omega
      have TA : ∀ W, Calls Tryz.prog 109 #[sgV sl[k].1 (.slice sl[k].2.a sl[k].2.n sl[k].2.c), sgV sl[i].1 (.slice sl[i].2.a sl[i].2.n sl[i].2.c)] W _ := fun W => apart_spec sl[k].1 sl[i].1 sl[k].2.a sl[i].2.a sl[k].2.n sl[i].2.n sl[k].2.c sl[i].2.c W (Hin.out k hkl).1 (Hin.out i hlt).2.2 (Hin.out i hlt).2.1
      have TJ : ∀ W, Below w.heap.size w W → Calls Tryz.prog 110 #[.agg #[vn, va, vf], sgV sl[k].1 (.slice sl[k].2.a sl[k].2.n sl[k].2.c), sgV sl[i].1 (.slice sl[i].2.a sl[i].2.n sl[i].2.c)] W _ := fun W hW => joined_spec _ p sl[k].1 sl[i].1 sl[k].2.a sl[i].2.a sl[k].2.n sl[i].2.n sl[k].2.c sl[i].2.c W (HP.out.mono hW)
      unfold sgV at TA TJ
      have HJ := Lib.hid TJ; clear TJ
      cases hid : (sl[k].1.arc.id == sl[i].1.arc.id)
      case true =>
        have hpr : pairR p sl[k].1 sl[i].1 = apartS sl[k].1 sl[i].1 := by unfold pairR; rw [if_pos (eq_of_beq hid)]
        have hid2 : (sl[k].1.arc.id != sl[i].1.arc.id) = false := by simp [bne, hid]
        have Hpr := Lib.hid hpr; clear hpr
        cases ha : apartS sl[k].1 sl[i].1
        case false =>
          rw [ha] at TA
          have HA := Lib.hid TA
          have hf := Lib.hid (HG.out i k hki hlt (Hpr.out.trans ha))
          clear TA ha
          go_upto_region 10 with fail
          refine rg_start (Since wr) (.take 0 1 (.take 1 3 (.take 2 7 (.take 3 15 (.take 4 31 (.take 5 63 (.take 6 127 (.take 7 255 (.take 8 511 (.take 9 1023 (.take 10 2047 (.take 11 4095 (.take 12 8191 (.take 13 16383 (.take 14 32767 (.take 15 65535 (.take 16 131071 (.take 17 262143 (.take 18 524287 (.take 19 1048575 (.take 20 2097151 (.take 21 4194303 (.call 22 8388607 (.take 23 16777215 (.take 24 33554431 (.take 25 67108863 (.take 26 134217727 (.take 27 268435455 (.take 28 536870911 (.take 29 1073741823 (.take 30 2147483647 (.take 31 4294967295 (.take 32 8589934591 (.take 33 17179869183 (.take 34 34359738367 (.take 35 68719476735 (.take 36 137438953471 (.take 37 274877906943 (.take 38 549755813887 (.take 39 1099511627775 (.take 40 2199023255551 (.take 41 4398046511103 (.take 42 8796093022207 (.take 43 17592186044415 (.take 44 35184372088831 (.take 45 70368744177663 (.take 46 140737488355327 (.take 47 281474976710655 (.take 48 562949953421311 (.take 49 1125899906842623 (.take 50 2251799813685247 (.take 51 4503599627370495 (.take 52 9007199254740991 (.done)))))))))))))))))))))))))))))))))))))))))))))))))))))) (by kernel_rfl) (bD (bR _)) (by kernel_rfl) (by kernel_rfl) (Nat.le_of_ble_eq_true (by kernel_rfl)) ?_
          intro opsR QR Hops HQrg hS
          apply rg_yp (i := 0) Hops rfl hS rfl
          · intro _ hq; clear hq; go_simp; try rfl
          try simp only [Act.put, pu1, pu2, pu3]
          apply rg_yp (i := 1) Hops rfl hS rfl
          · intro _ hq; clear hq; go_simp; try rfl
          try simp only [Act.put, pu1, pu2, pu3]
          apply rg_yp (i := 2) Hops rfl hS rfl
          · intro _ hq; clear hq; go_simp; try rfl
          try simp only [Act.put, pu1, pu2, pu3]
          apply rg_yp (i := 3) Hops rfl hS rfl
          · intro _ hq; clear hq; go_simp; try rfl
          try simp only [Act.put, pu1, pu2, pu3]
          apply rg_yp (i := 4) Hops rfl hS rfl
          · intro _ hq; clear hq; go_simp; try rfl
          try simp only [Act.put, pu1, pu2, pu3]
          apply rg_yp (i := 5) Hops rfl hS rfl
          · intro wq hq; obtain ⟨hqc, -⟩ := bcell (show Below wr.heap.size wr wq from hq); clear hq; go_simp; try rfl
          try simp only [Act.put, pu1, pu2, pu3]
          apply rg_yp (i := 6) Hops rfl hS rfl
          · intro _ hq; clear hq; go_simp; try rfl
          try simp only [Act.put, pu1, pu2, pu3]
          apply rg_yp (i := 7) Hops rfl hS rfl
          · intro _ hq; clear hq; go_simp; try rfl
          try simp only [Act.put, pu1, pu2, pu3]
          apply rg_yp (i := 8) Hops rfl hS rfl
          · intro _ hq; clear hq; go_simp; try rfl
          try simp only [Act.put, pu1, pu2, pu3]
          apply rg_yp (i := 9) Hops rfl hS rfl
          · intro _ hq; clear hq; go_simp; try rfl
          try simp only [Act.put, pu1, pu2, pu3]
          apply rg_yp (i := 10) Hops rfl hS rfl
          · intro _ hq; clear hq; go_simp; try rfl
          try simp only [Act.put, pu1, pu2, pu3]
          apply rg_yp (i := 11) Hops rfl hS rfl
          · intro wq hq; obtain ⟨hqc, -⟩ := bcell (show Below wr.heap.size wr wq from hq); clear hq; go_simp; try rfl
          try simp only [Act.put, pu1, pu2, pu3]
          apply rg_yp (i := 12) Hops rfl hS rfl
          · intro _ hq; clear hq; go_simp; try rfl
          try simp only [Act.put, pu1, pu2, pu3]
          apply rg_yp (i := 13) Hops rfl hS rfl
          · intro _ hq; clear hq; go_simp; try rfl
          try simp only [Act.put, pu1, pu2, pu3]
          apply rg_yg (i := 14) Hops rfl hS rfl rfl rfl rfl
          · intro _ hq; clear hq; go_simp; try rfl
          try simp only [Act.put, pu1, pu2, pu3]
          apply rg_yg (i := 15) Hops rfl hS rfl rfl rfl rfl
          · intro _ hq; clear hq; go_simp; try rfl
          try simp only [Act.put, pu1, pu2, pu3]
          apply rg_yg (i := 16) Hops rfl hS rfl rfl rfl rfl
          · intro _ hq; clear hq; go_simp; try rfl
          try simp only [Act.put, pu1, pu2, pu3]
          apply rg_yg (i := 17) Hops rfl hS rfl rfl rfl rfl
          · intro wq hq; obtain ⟨hqc, -⟩ := bcell (show Below wr.heap.size wr wq from hq); clear hq; go_simp; try rfl
          try simp only [Act.put, pu1, pu2, pu3]
          apply rg_yg (i := 18) Hops rfl hS rfl rfl rfl rfl
          · intro _ hq; clear hq; go_simp; try rfl
          try simp only [Act.put, pu1, pu2, pu3]
          apply rg_yg (i := 19) Hops rfl hS rfl rfl rfl rfl
          · intro _ hq; clear hq; go_simp; try rfl
          try simp only [Act.put, pu1, pu2, pu3]
          apply rg_yg (i := 20) Hops rfl hS rfl rfl rfl rfl
          · intro _ hq; clear hq; go_simp; try rfl
          try simp only [Act.put, pu1, pu2, pu3]
          apply rg_yg (i := 21) Hops rfl hS rfl rfl rfl rfl
          · intro wq hq; obtain ⟨hqc, -⟩ := bcell (show Below wr.heap.size wr wq from hq); clear hq; go_simp; try rfl
          try simp only [Act.put, pu1, pu2, pu3]
          refine rg_call (i := 22) (get_of Hops rfl) (fun K hK => ?_)
          have HSrg := Lib.hid hS; clear hS
          refine rg_run (wanted_yes rfl (get_of Hops rfl) rfl rfl) ?_
          go_simp
          refine (HA.out _).mono ?_
          rintro e wr1 ⟨rfl, hbr1⟩
          have hS : Since wr wr1 := bT (w := wr) HSrg.out hbr1
          clear HSrg
          refine hK.out _ _ hS (fun _ => ?_)
          clear hK K
          try simp only [Act.put, pu1, pu2, pu3]
          apply rg_yg (i := 23) Hops rfl hS rfl rfl rfl rfl
          · intro _ hq; clear hq; go_simp; try rfl
          try simp only [Act.put, pu1, pu2, pu3]
          apply rg_yp (i := 24) Hops rfl hS rfl
          · intro _ hq; clear hq; go_simp; try rfl
          try simp only [Act.put, pu1, pu2, pu3]
          apply rg_yp (i := 25) Hops rfl hS rfl
          · intro _ hq; clear hq; go_simp; try rfl
          try simp only [Act.put, pu1, pu2, pu3]
          refine rg_yn (i := 26) Hops rfl hS rfl rfl rfl rfl rfl ?_
          try simp only [Act.put, pu1, pu2, pu3]
          refine rg_yn (i := 27) Hops rfl hS rfl rfl rfl rfl rfl ?_
          try simp only [Act.put, pu1, pu2, pu3]
          refine rg_yn (i := 28) Hops rfl hS rfl rfl rfl rfl rfl ?_
          try simp only [Act.put, pu1, pu2, pu3]
          refine rg_yn (i := 29) Hops rfl hS rfl rfl rfl rfl rfl ?_
          try simp only [Act.put, pu1, pu2, pu3]
          refine rg_yn (i := 30) Hops rfl hS rfl rfl rfl rfl rfl ?_
          try simp only [Act.put, pu1, pu2, pu3]
          refine rg_yn (i := 31) Hops rfl hS rfl rfl rfl rfl rfl ?_
          try simp only [Act.put, pu1, pu2, pu3]
          refine rg_yn (i := 32) Hops rfl hS rfl rfl rfl rfl rfl ?_
          try simp only [Act.put, pu1, pu2, pu3]
          refine rg_yn (i := 33) Hops rfl hS rfl rfl rfl rfl rfl ?_
          try simp only [Act.put, pu1, pu2, pu3]
          refine rg_yn (i := 34) Hops rfl hS rfl rfl rfl rfl rfl ?_
          try simp only [Act.put, pu1, pu2, pu3]
          refine rg_yn (i := 35) Hops rfl hS rfl rfl rfl rfl rfl ?_
          try simp only [Act.put, pu1, pu2, pu3]
          refine rg_yn (i := 36) Hops rfl hS rfl rfl rfl rfl rfl ?_
          try simp only [Act.put, pu1, pu2, pu3]
          refine rg_yn (i := 37) Hops rfl hS rfl rfl rfl rfl rfl ?_
          try simp only [Act.put, pu1, pu2, pu3]
          refine rg_yn (i := 38) Hops rfl hS rfl rfl rfl rfl rfl ?_
          try simp only [Act.put, pu1, pu2, pu3]
          refine rg_yn (i := 39) Hops rfl hS rfl rfl rfl rfl rfl ?_
          try simp only [Act.put, pu1, pu2, pu3]
          refine rg_yn (i := 40) Hops rfl hS rfl rfl rfl rfl rfl ?_
          try simp only [Act.put, pu1, pu2, pu3]
          refine rg_yn (i := 41) Hops rfl hS rfl rfl rfl rfl rfl ?_
          try simp only [Act.put, pu1, pu2, pu3]
          refine rg_yn (i := 42) Hops rfl hS rfl rfl rfl rfl rfl ?_
          try simp only [Act.put, pu1, pu2, pu3]
          refine rg_yn (i := 43) Hops rfl hS rfl rfl rfl rfl rfl ?_
          try simp only [Act.put, pu1, pu2, pu3]
          refine rg_yn (i := 44) Hops rfl hS rfl rfl rfl rfl rfl ?_
          try simp only [Act.put, pu1, pu2, pu3]
          refine rg_yn (i := 45) Hops rfl hS rfl rfl rfl rfl rfl ?_
          try simp only [Act.put, pu1, pu2, pu3]
          refine rg_yn (i := 46) Hops rfl hS rfl rfl rfl rfl rfl ?_
          try simp only [Act.put, pu1, pu2, pu3]
          refine rg_yn (i := 47) Hops rfl hS rfl rfl rfl rfl rfl ?_
          try simp only [Act.put, pu1, pu2, pu3]
          refine rg_yn (i := 48) Hops rfl hS rfl rfl rfl rfl rfl ?_
          try simp only [Act.put, pu1, pu2, pu3]
          refine rg_yn (i := 49) Hops rfl hS rfl rfl rfl rfl rfl ?_
          try simp only [Act.put, pu1, pu2, pu3]
          refine rg_yn (i := 50) Hops rfl hS rfl rfl rfl rfl rfl ?_
          try simp only [Act.put, pu1, pu2, pu3]
          refine rg_yn (i := 51) Hops rfl hS rfl rfl rfl rfl rfl ?_
          try simp only [Act.put, pu1, pu2, pu3]
          apply rg_yp (i := 52) Hops rfl hS rfl
          · intro _ hq; clear hq; go_simp; try rfl
          try simp only [Act.put, pu1, pu2, pu3]
          refine rg_done ?_
          refine HQrg.down _ _ ?_
          have hB : Below wr.heap.size wr wr1 := hS
          clear hS HQrg Hops
          have B3 : Below w1.heap.size w1 wr1 := bT Hb2.out hB
          go_wp2_with fail
          go_ret
          exact ⟨ret_bool hf.out.symm, bT HB.out B3⟩
        case true =>
          rw [ha] at TA
          have HA := Lib.hid TA
          have hg := Lib.hid (Hpr.out.trans ha)
          clear TA ha
          go_upto_region 10 with fail
          refine rg_start (Since wr) (.take 0 1 (.take 1 3 (.take 2 7 (.take 3 15 (.take 4 31 (.take 5 63 (.take 6 127 (.take 7 255 (.take 8 511 (.take 9 1023 (.take 10 2047 (.take 11 4095 (.take 12 8191 (.take 13 16383 (.take 14 32767 (.take 15 65535 (.take 16 131071 (.take 17 262143 (.take 18 524287 (.take 19 1048575 (.take 20 2097151 (.take 21 4194303 (.call 22 8388607 (.take 23 16777215 (.take 24 33554431 (.take 25 67108863 (.take 26 134217727 (.take 27 268435455 (.take 28 536870911 (.take 29 1073741823 (.take 30 2147483647 (.take 31 4294967295 (.take 32 8589934591 (.take 33 17179869183 (.take 34 34359738367 (.take 35 68719476735 (.take 36 137438953471 (.take 37 274877906943 (.take 38 549755813887 (.take 39 1099511627775 (.take 40 2199023255551 (.take 41 4398046511103 (.take 42 8796093022207 (.take 43 17592186044415 (.take 44 35184372088831 (.take 45 70368744177663 (.take 46 140737488355327 (.take 47 281474976710655 (.take 48 562949953421311 (.take 49 1125899906842623 (.take 50 2251799813685247 (.take 51 4503599627370495 (.take 52 9007199254740991 (.done)))))))))))))))))))))))))))))))))))))))))))))))))))))) (by kernel_rfl) (bD (bR _)) (by kernel_rfl) (by kernel_rfl) (Nat.le_of_ble_eq_true (by kernel_rfl)) ?_
          intro opsR QR Hops HQrg hS
          apply rg_yp (i := 0) Hops rfl hS rfl
          · intro _ hq; clear hq; go_simp; try rfl
          try simp only [Act.put, pu1, pu2, pu3]
          apply rg_yp (i := 1) Hops rfl hS rfl
          · intro _ hq; clear hq; go_simp; try rfl
          try simp only [Act.put, pu1, pu2, pu3]
          apply rg_yp (i := 2) Hops rfl hS rfl
          · intro _ hq; clear hq; go_simp; try rfl
          try simp only [Act.put, pu1, pu2, pu3]
          apply rg_yp (i := 3) Hops rfl hS rfl
          · intro _ hq; clear hq; go_simp; try rfl
          try simp only [Act.put, pu1, pu2, pu3]
          apply rg_yp (i := 4) Hops rfl hS rfl
          · intro _ hq; clear hq; go_simp; try rfl
          try simp only [Act.put, pu1, pu2, pu3]
          apply rg_yp (i := 5) Hops rfl hS rfl
          · intro wq hq; obtain ⟨hqc, -⟩ := bcell (show Below wr.heap.size wr wq from hq); clear hq; go_simp; try rfl
          try simp only [Act.put, pu1, pu2, pu3]
          apply rg_yp (i := 6) Hops rfl hS rfl
          · intro _ hq; clear hq; go_simp; try rfl
          try simp only [Act.put, pu1, pu2, pu3]
          apply rg_yp (i := 7) Hops rfl hS rfl
          · intro _ hq; clear hq; go_simp; try rfl
          try simp only [Act.put, pu1, pu2, pu3]
          apply rg_yp (i := 8) Hops rfl hS rfl
          · intro _ hq; clear hq; go_simp; try rfl
          try simp only [Act.put, pu1, pu2, pu3]
          apply rg_yp (i := 9) Hops rfl hS rfl
          · intro _ hq; clear hq; go_simp; try rfl
          try simp only [Act.put, pu1, pu2, pu3]
          apply rg_yp (i := 10) Hops rfl hS rfl
          · intro _ hq; clear hq; go_simp; try rfl
          try simp only [Act.put, pu1, pu2, pu3]
          apply rg_yp (i := 11) Hops rfl hS rfl
          · intro wq hq; obtain ⟨hqc, -⟩ := bcell (show Below wr.heap.size wr wq from hq); clear hq; go_simp; try rfl
          try simp only [Act.put, pu1, pu2, pu3]
          apply rg_yp (i := 12) Hops rfl hS rfl
          · intro _ hq; clear hq; go_simp; try rfl
          try simp only [Act.put, pu1, pu2, pu3]
          apply rg_yp (i := 13) Hops rfl hS rfl
          · intro _ hq; clear hq; go_simp; try rfl
          try simp only [Act.put, pu1, pu2, pu3]
          apply rg_yg (i := 14) Hops rfl hS rfl rfl rfl rfl
          · intro _ hq; clear hq; go_simp; try rfl
          try simp only [Act.put, pu1, pu2, pu3]
          apply rg_yg (i := 15) Hops rfl hS rfl rfl rfl rfl
          · intro _ hq; clear hq; go_simp; try rfl
          try simp only [Act.put, pu1, pu2, pu3]
          apply rg_yg (i := 16) Hops rfl hS rfl rfl rfl rfl
          · intro _ hq; clear hq; go_simp; try rfl
          try simp only [Act.put, pu1, pu2, pu3]
          apply rg_yg (i := 17) Hops rfl hS rfl rfl rfl rfl
          · intro wq hq; obtain ⟨hqc, -⟩ := bcell (show Below wr.heap.size wr wq from hq); clear hq; go_simp; try rfl
          try simp only [Act.put, pu1, pu2, pu3]
          apply rg_yg (i := 18) Hops rfl hS rfl rfl rfl rfl
          · intro _ hq; clear hq; go_simp; try rfl
          try simp only [Act.put, pu1, pu2, pu3]
          apply rg_yg (i := 19) Hops rfl hS rfl rfl rfl rfl
          · intro _ hq; clear hq; go_simp; try rfl
          try simp only [Act.put, pu1, pu2, pu3]
          apply rg_yg (i := 20) Hops rfl hS rfl rfl rfl rfl
          · intro _ hq; clear hq; go_simp; try rfl
          try simp only [Act.put, pu1, pu2, pu3]
          apply rg_yg (i := 21) Hops rfl hS rfl rfl rfl rfl
          · intro wq hq; obtain ⟨hqc, -⟩ := bcell (show Below wr.heap.size wr wq from hq); clear hq; go_simp; try rfl
          try simp only [Act.put, pu1, pu2, pu3]
          refine rg_call (i := 22) (get_of Hops rfl) (fun K hK => ?_)
          have HSrg := Lib.hid hS; clear hS
          refine rg_run (wanted_yes rfl (get_of Hops rfl) rfl rfl) ?_
          go_simp
          refine (HA.out _).mono ?_
          rintro e wr1 ⟨rfl, hbr1⟩
          have hS : Since wr wr1 := bT (w := wr) HSrg.out hbr1
          clear HSrg
          refine hK.out _ _ hS (fun _ => ?_)
          clear hK K
          try simp only [Act.put, pu1, pu2, pu3]
          apply rg_yg (i := 23) Hops rfl hS rfl rfl rfl rfl
          · intro _ hq; clear hq; go_simp; try rfl
          try simp only [Act.put, pu1, pu2, pu3]
          apply rg_yp (i := 24) Hops rfl hS rfl
          · intro _ hq; clear hq; go_simp; try rfl
          try simp only [Act.put, pu1, pu2, pu3]
          apply rg_yp (i := 25) Hops rfl hS rfl
          · intro _ hq; clear hq; go_simp; try rfl
          try simp only [Act.put, pu1, pu2, pu3]
          apply rg_yg (i := 26) Hops rfl hS rfl rfl rfl rfl
          · intro _ hq; clear hq; go_simp; try rfl
          try simp only [Act.put, pu1, pu2, pu3]
          apply rg_yg (i := 27) Hops rfl hS rfl rfl rfl rfl
          · intro _ hq; clear hq; go_simp; try rfl
          try simp only [Act.put, pu1, pu2, pu3]
          apply rg_yg (i := 28) Hops rfl hS rfl rfl rfl rfl
          · intro _ hq; clear hq; go_simp; try rfl
          try simp only [Act.put, pu1, pu2, pu3]
          apply rg_yg (i := 29) Hops rfl hS rfl rfl rfl rfl
          · intro _ hq; clear hq; go_simp; try rfl
          try simp only [Act.put, pu1, pu2, pu3]
          apply rg_yg (i := 30) Hops rfl hS rfl rfl rfl rfl
          · intro _ hq; clear hq; go_simp; try rfl
          try simp only [Act.put, pu1, pu2, pu3]
          apply rg_yg (i := 31) Hops rfl hS rfl rfl rfl rfl
          · intro wq hq; obtain ⟨hqc, -⟩ := bcell (show Below wr.heap.size wr wq from hq); clear hq; go_simp; try rfl
          try simp only [Act.put, pu1, pu2, pu3]
          apply rg_yg (i := 32) Hops rfl hS rfl rfl rfl rfl
          · intro _ hq; clear hq; go_simp; try rfl
          try simp only [Act.put, pu1, pu2, pu3]
          apply rg_yg (i := 33) Hops rfl hS rfl rfl rfl rfl
          · intro _ hq; clear hq; go_simp; try rfl
          try simp only [Act.put, pu1, pu2, pu3]
          apply rg_yg (i := 34) Hops rfl hS rfl rfl rfl rfl
          · intro _ hq; clear hq; go_simp; try rfl
          try simp only [Act.put, pu1, pu2, pu3]
          apply rg_yg (i := 35) Hops rfl hS rfl rfl rfl rfl
          · intro _ hq; clear hq; go_simp; try rfl
          try simp only [Act.put, pu1, pu2, pu3]
          apply rg_yg (i := 36) Hops rfl hS rfl rfl rfl rfl
          · intro _ hq; clear hq; go_simp; try rfl
          try simp only [Act.put, pu1, pu2, pu3]
          apply rg_yg (i := 37) Hops rfl hS rfl rfl rfl rfl
          · intro wq hq; obtain ⟨hqc, -⟩ := bcell (show Below wr.heap.size wr wq from hq); clear hq; go_simp; try rfl
          try simp only [Act.put, pu1, pu2, pu3]
          apply rg_yg (i := 38) Hops rfl hS rfl rfl rfl rfl
          · intro _ hq; clear hq; go_simp; try rfl
          try simp only [Act.put, pu1, pu2, pu3]
          apply rg_yg (i := 39) Hops rfl hS rfl rfl rfl rfl
          · intro _ hq; clear hq; go_simp; try rfl
          try simp only [Act.put, pu1, pu2, pu3]
          refine rg_yn (i := 40) Hops rfl hS rfl rfl rfl rfl rfl ?_
          try simp only [Act.put, pu1, pu2, pu3]
          refine rg_yn (i := 41) Hops rfl hS rfl rfl rfl rfl rfl ?_
          try simp only [Act.put, pu1, pu2, pu3]
          refine rg_yn (i := 42) Hops rfl hS rfl rfl rfl rfl rfl ?_
          try simp only [Act.put, pu1, pu2, pu3]
          refine rg_yn (i := 43) Hops rfl hS rfl rfl rfl rfl rfl ?_
          try simp only [Act.put, pu1, pu2, pu3]
          refine rg_yn (i := 44) Hops rfl hS rfl rfl rfl rfl rfl ?_
          try simp only [Act.put, pu1, pu2, pu3]
          refine rg_yn (i := 45) Hops rfl hS rfl rfl rfl rfl rfl ?_
          try simp only [Act.put, pu1, pu2, pu3]
          refine rg_yn (i := 46) Hops rfl hS rfl rfl rfl rfl rfl ?_
          try simp only [Act.put, pu1, pu2, pu3]
          refine rg_yn (i := 47) Hops rfl hS rfl rfl rfl rfl rfl ?_
          try simp only [Act.put, pu1, pu2, pu3]
          refine rg_yn (i := 48) Hops rfl hS rfl rfl rfl rfl rfl ?_
          try simp only [Act.put, pu1, pu2, pu3]
          refine rg_yn (i := 49) Hops rfl hS rfl rfl rfl rfl rfl ?_
          try simp only [Act.put, pu1, pu2, pu3]
          refine rg_yn (i := 50) Hops rfl hS rfl rfl rfl rfl rfl ?_
          try simp only [Act.put, pu1, pu2, pu3]
          apply rg_yg (i := 51) Hops rfl hS rfl rfl rfl rfl
          · intro _ hq; clear hq; go_simp; try rfl
          try simp only [Act.put, pu1, pu2, pu3]
          apply rg_yp (i := 52) Hops rfl hS rfl
          · intro _ hq; clear hq; go_simp; try rfl
          try simp only [Act.put, pu1, pu2, pu3]
          refine rg_done ?_
          refine HQrg.down _ _ ?_
          have hB : Below wr.heap.size wr wr1 := hS
          clear hS HQrg Hops
          have B3 : Below w1.heap.size w1 wr1 := bT Hb2.out hB
          go_wp2_with fail
          go_roundw
          case rel => exact ⟨k + 1, by omega, by go_num, B3, all_succ (p := fun x => pairR p x.1 sl[i].1 = true) Hn3.out hkl hg.out⟩
          case measure => simp [intOf]; omega
      case false =>
        have hpr : pairR p sl[k].1 sl[i].1 = joinedS p sl[k].1 sl[i].1 := by unfold pairR; rw [if_neg (ne_of_beq_false hid)]
        have hid2 : (sl[k].1.arc.id != sl[i].1.arc.id) = true := by simp [bne, hid]
        have Hpr := Lib.hid hpr; clear hpr TA
        go_upto_region 10 with fail
        refine rg_start (Since wr) (.take 0 1 (.take 1 3 (.take 2 7 (.take 3 15 (.take 4 31 (.take 5 63 (.take 6 127 (.take 7 255 (.take 8 511 (.take 9 1023 (.take 10 2047 (.take 11 4095 (.take 12 8191 (.take 13 16383 (.take 14 32767 (.take 15 65535 (.take 16 131071 (.take 17 262143 (.take 18 524287 (.take 19 1048575 (.take 20 2097151 (.take 21 4194303 (.take 22 8388607 (.take 23 16777215 (.take 24 33554431 (.take 25 67108863 (.take 26 134217727 (.take 27 268435455 (.take 28 536870911 (.take 29 1073741823 (.take 30 2147483647 (.take 31 4294967295 (.take 32 8589934591 (.take 33 17179869183 (.take 34 34359738367 (.take 35 68719476735 (.take 36 137438953471 (.take 37 274877906943 (.take 38 549755813887 (.take 39 1099511627775 (.take 40 2199023255551 (.take 41 4398046511103 (.take 42 8796093022207 (.take 43 17592186044415 (.take 44 35184372088831 (.take 45 70368744177663 (.take 46 140737488355327 (.take 47 281474976710655 (.take 48 562949953421311 (.call 49 1125899906842623 (.take 50 2251799813685247 (.take 51 4503599627370495 (.take 52 9007199254740991 (.done)))))))))))))))))))))))))))))))))))))))))))))))))))))) (by kernel_rfl) (bD (bR _)) (by kernel_rfl) (by kernel_rfl) (Nat.le_of_ble_eq_true (by kernel_rfl)) ?_
        intro opsR QR Hops HQrg hS
        apply rg_yp (i := 0) Hops rfl hS rfl
        · intro _ hq; clear hq; go_simp; try rfl
        try simp only [Act.put, pu1, pu2, pu3]
        apply rg_yp (i := 1) Hops rfl hS rfl
        · intro _ hq; clear hq; go_simp; try rfl
        try simp only [Act.put, pu1, pu2, pu3]
        apply rg_yp (i := 2) Hops rfl hS rfl
        · intro _ hq; clear hq; go_simp; try rfl
        try simp only [Act.put, pu1, pu2, pu3]
        apply rg_yp (i := 3) Hops rfl hS rfl
        · intro _ hq; clear hq; go_simp; try rfl
        try simp only [Act.put, pu1, pu2, pu3]
        apply rg_yp (i := 4) Hops rfl hS rfl
        · intro _ hq; clear hq; go_simp; try rfl
        try simp only [Act.put, pu1, pu2, pu3]
        apply rg_yp (i := 5) Hops rfl hS rfl
        · intro wq hq; obtain ⟨hqc, -⟩ := bcell (show Below wr.heap.size wr wq from hq); clear hq; go_simp; try rfl
        try simp only [Act.put, pu1, pu2, pu3]
        apply rg_yp (i := 6) Hops rfl hS rfl
        · intro _ hq; clear hq; go_simp; try rfl
        try simp only [Act.put, pu1, pu2, pu3]
        apply rg_yp (i := 7) Hops rfl hS rfl
        · intro _ hq; clear hq; go_simp; try rfl
        try simp only [Act.put, pu1, pu2, pu3]
        apply rg_yp (i := 8) Hops rfl hS rfl
        · intro _ hq; clear hq; go_simp; try rfl
        try simp only [Act.put, pu1, pu2, pu3]
        apply rg_yp (i := 9) Hops rfl hS rfl
        · intro _ hq; clear hq; go_simp; try rfl
        try simp only [Act.put, pu1, pu2, pu3]
        apply rg_yp (i := 10) Hops rfl hS rfl
        · intro _ hq; clear hq; go_simp; try rfl
        try simp only [Act.put, pu1, pu2, pu3]
        apply rg_yp (i := 11) Hops rfl hS rfl
        · intro wq hq; obtain ⟨hqc, -⟩ := bcell (show Below wr.heap.size wr wq from hq); clear hq; go_simp; try rfl
        try simp only [Act.put, pu1, pu2, pu3]
        apply rg_yp (i := 12) Hops rfl hS rfl
        · intro _ hq; clear hq; go_simp; try rfl
        try simp only [Act.put, pu1, pu2, pu3]
        apply rg_yp (i := 13) Hops rfl hS rfl
        · intro _ hq; clear hq; go_simp; try rfl
        try simp only [Act.put, pu1, pu2, pu3]
        refine rg_yn (i := 14) Hops rfl hS rfl rfl rfl rfl rfl ?_
        try simp only [Act.put, pu1, pu2, pu3]
        refine rg_yn (i := 15) Hops rfl hS rfl rfl rfl rfl rfl ?_
        try simp only [Act.put, pu1, pu2, pu3]
        refine rg_yn (i := 16) Hops rfl hS rfl rfl rfl rfl rfl ?_
        try simp only [Act.put, pu1, pu2, pu3]
        refine rg_yn (i := 17) Hops rfl hS rfl rfl rfl rfl rfl ?_
        try simp only [Act.put, pu1, pu2, pu3]
        refine rg_yn (i := 18) Hops rfl hS rfl rfl rfl rfl rfl ?_
        try simp only [Act.put, pu1, pu2, pu3]
        refine rg_yn (i := 19) Hops rfl hS rfl rfl rfl rfl rfl ?_
        try simp only [Act.put, pu1, pu2, pu3]
        refine rg_yn (i := 20) Hops rfl hS rfl rfl rfl rfl rfl ?_
        try simp only [Act.put, pu1, pu2, pu3]
        refine rg_yn (i := 21) Hops rfl hS rfl rfl rfl rfl rfl ?_
        try simp only [Act.put, pu1, pu2, pu3]
        refine rg_yn (i := 22) Hops rfl hS rfl rfl rfl rfl rfl ?_
        try simp only [Act.put, pu1, pu2, pu3]
        refine rg_yn (i := 23) Hops rfl hS rfl rfl rfl rfl rfl ?_
        try simp only [Act.put, pu1, pu2, pu3]
        apply rg_yp (i := 24) Hops rfl hS rfl
        · intro _ hq; clear hq; go_simp; try rfl
        try simp only [Act.put, pu1, pu2, pu3]
        apply rg_yp (i := 25) Hops rfl hS rfl
        · intro _ hq; clear hq; go_simp; try rfl
        try simp only [Act.put, pu1, pu2, pu3]
        apply rg_yg (i := 26) Hops rfl hS rfl rfl rfl rfl
        · intro _ hq; clear hq; go_simp; try rfl
        try simp only [Act.put, pu1, pu2, pu3]
        apply rg_yg (i := 27) Hops rfl hS rfl rfl rfl rfl
        · intro _ hq; clear hq; go_simp; try rfl
        try simp only [Act.put, pu1, pu2, pu3]
        apply rg_yg (i := 28) Hops rfl hS rfl rfl rfl rfl
        · intro _ hq; clear hq; go_simp; try rfl
        try simp only [Act.put, pu1, pu2, pu3]
        apply rg_yg (i := 29) Hops rfl hS rfl rfl rfl rfl
        · intro _ hq; clear hq; go_simp; try rfl
        try simp only [Act.put, pu1, pu2, pu3]
        apply rg_yg (i := 30) Hops rfl hS rfl rfl rfl rfl
        · intro _ hq; clear hq; go_simp; try rfl
        try simp only [Act.put, pu1, pu2, pu3]
        apply rg_yg (i := 31) Hops rfl hS rfl rfl rfl rfl
        · intro wq hq; obtain ⟨hqc, -⟩ := bcell (show Below wr.heap.size wr wq from hq); clear hq; go_simp; try rfl
        try simp only [Act.put, pu1, pu2, pu3]
        apply rg_yg (i := 32) Hops rfl hS rfl rfl rfl rfl
        · intro _ hq; clear hq; go_simp; try rfl
        try simp only [Act.put, pu1, pu2, pu3]
        apply rg_yg (i := 33) Hops rfl hS rfl rfl rfl rfl
        · intro _ hq; clear hq; go_simp; try rfl
        try simp only [Act.put, pu1, pu2, pu3]
        apply rg_yg (i := 34) Hops rfl hS rfl rfl rfl rfl
        · intro _ hq; clear hq; go_simp; try rfl
        try simp only [Act.put, pu1, pu2, pu3]
        apply rg_yg (i := 35) Hops rfl hS rfl rfl rfl rfl
        · intro _ hq; clear hq; go_simp; try rfl
        try simp only [Act.put, pu1, pu2, pu3]
        apply rg_yg (i := 36) Hops rfl hS rfl rfl rfl rfl
        · intro _ hq; clear hq; go_simp; try rfl
        try simp only [Act.put, pu1, pu2, pu3]
        apply rg_yg (i := 37) Hops rfl hS rfl rfl rfl rfl
        · intro wq hq; obtain ⟨hqc, -⟩ := bcell (show Below wr.heap.size wr wq from hq); clear hq; go_simp; try rfl
        try simp only [Act.put, pu1, pu2, pu3]
        apply rg_yg (i := 38) Hops rfl hS rfl rfl rfl rfl
        · intro _ hq; clear hq; go_simp; try rfl
        try simp only [Act.put, pu1, pu2, pu3]
        apply rg_yg (i := 39) Hops rfl hS rfl rfl rfl rfl
        · intro _ hq; clear hq; go_simp; try rfl
        try simp only [Act.put, pu1, pu2, pu3]
        apply rg_yg (i := 40) Hops rfl hS rfl rfl rfl rfl
        · intro wq hq; obtain ⟨hqc, -⟩ := bcell (show Below wr.heap.size wr wq from hq); clear hq; go_simp; try rfl
        try simp only [Act.put, pu1, pu2, pu3]
        apply rg_yg (i := 41) Hops rfl hS rfl rfl rfl rfl
        · intro _ hq; clear hq; go_simp; try rfl
        try simp only [Act.put, pu1, pu2, pu3]
        apply rg_yg (i := 42) Hops rfl hS rfl rfl rfl rfl
        · intro _ hq; clear hq; go_simp; try rfl
        try simp only [Act.put, pu1, pu2, pu3]
        apply rg_yg (i := 43) Hops rfl hS rfl rfl rfl rfl
        · intro _ hq; clear hq; go_simp; try rfl
        try simp only [Act.put, pu1, pu2, pu3]
        apply rg_yg (i := 44) Hops rfl hS rfl rfl rfl rfl
        · intro wq hq; obtain ⟨hqc, -⟩ := bcell (show Below wr.heap.size wr wq from hq); clear hq; go_simp; try rfl
        try simp only [Act.put, pu1, pu2, pu3]
        apply rg_yg (i := 45) Hops rfl hS rfl rfl rfl rfl
        · intro _ hq; clear hq; go_simp; try rfl
        try simp only [Act.put, pu1, pu2, pu3]
        apply rg_yg (i := 46) Hops rfl hS rfl rfl rfl rfl
        · intro _ hq; clear hq; go_simp; try rfl
        try simp only [Act.put, pu1, pu2, pu3]
        apply rg_yg (i := 47) Hops rfl hS rfl rfl rfl rfl
        · intro _ hq; clear hq; go_simp; try rfl
        try simp only [Act.put, pu1, pu2, pu3]
        apply rg_yg (i := 48) Hops rfl hS rfl rfl rfl rfl
        · intro wq hq; obtain ⟨hqc, -⟩ := bcell (show Below wr.heap.size wr wq from hq); clear hq; go_simp; try rfl
        try simp only [Act.put, pu1, pu2, pu3]
        refine rg_call (i := 49) (get_of Hops rfl) (fun K hK => ?_)
        have HSrg := Lib.hid hS; clear hS
        refine rg_run (wanted_yes rfl (get_of Hops rfl) rfl rfl) ?_
        go_simp
        refine (HJ.out _ (bT (bT HB.out Hb2.out) HSrg.out)).mono ?_
        rintro e wr1 ⟨rfl, hbr1⟩
        have hS : Since wr wr1 := bT (w := wr) HSrg.out hbr1
        clear HSrg
        refine hK.out _ _ hS (fun _ => ?_)
        clear hK K
        try simp only [Act.put, pu1, pu2, pu3]
        apply rg_yg (i := 50) Hops rfl hS rfl rfl rfl rfl
        · intro _ hq; clear hq; go_simp; try rfl
        try simp only [Act.put, pu1, pu2, pu3]
        apply rg_yg (i := 51) Hops rfl hS rfl rfl rfl rfl
        · intro _ hq; clear hq; go_simp; try rfl
        try simp only [Act.put, pu1, pu2, pu3]
        apply rg_yp (i := 52) Hops rfl hS rfl
        · intro _ hq; clear hq; go_simp; try rfl
        try simp only [Act.put, pu1, pu2, pu3]
        refine rg_done ?_
        refine HQrg.down _ _ ?_
        have hB : Below wr.heap.size wr wr1 := hS
        clear hS HQrg Hops
        have B3 : Below w1.heap.size w1 wr1 := bT Hb2.out hB
        cases ha : joinedS p sl[k].1 sl[i].1
        case false =>
          have hf := Lib.hid (HG.out i k hki hlt (Hpr.out.trans ha))
          clear ha
          go_wp2_with fail
          go_ret
          exact ⟨ret_bool hf.out.symm, bT HB.out B3⟩
        case true =>
          have hg := Lib.hid (Hpr.out.trans ha)
          clear ha
          go_wp2_with fail
          go_roundw
          case rel => exact ⟨k + 1, by omega, by go_num, B3, all_succ (p := fun x => pairR p x.1 sl[i].1 = true) Hn3.out hkl hg.out⟩
          case measure => simp [intOf]; omega
end Go.Proofs.YtoclnkfeblfpbaaGreat
