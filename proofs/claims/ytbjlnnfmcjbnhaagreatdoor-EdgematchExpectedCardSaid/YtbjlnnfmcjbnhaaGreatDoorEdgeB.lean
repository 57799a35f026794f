/- edgematch: points, entering, leaving, open. -/
import Derived.Test.YtbjlnnfmcjbnhaaGreatDoorJ01
import Derived.Test.YtbjlnnfmcjbnhaaGreatDoorJ02
import Derived.Test.YtbjlnnfmcjbnhaaGreatDoorGB
set_option linter.unusedSimpArgs false
set_option linter.unusedVariables false
namespace Go.Proofs.YtbjlnnfmcjbnhaaGreatDoor
open Go.RowKit

def inS (l : List Nd) (p : Pt) : Bool := l.any (fun n => decide (n.pt = p))
theorem inS_succ (l : List Nd) (k : Nat) (hk : k < l.length) : inS (l.take (k + 1)) = fun p => if p = l[k].pt then true else inS (l.take k) p := by
  funext p
  unfold inS
  rw [List.take_succ_eq_append_getElem hk, List.any_append]
  by_cases h : p = l[k].pt
  · simp [h]
  · have : ¬ l[k].pt = p := fun e => h e.symm
    simp [h, this]

set_option maxRecDepth 100000 in
set_option maxHeartbeats 1000000 in
theorem points_spec (v : Value) (l : List Nd) (w : World) (h : Nds w v l) (hw : ∀ n ∈ l, wfNd n) (hl : l.length ≤ 4294967000) :
    Calls Tryz.prog 27 #[v] w fun e w' => e = .returned (.map (some w.heap.size)) ∧ Below w.heap.size w w' ∧ MapSet w' w.heap.size l.length (inS l) := by
  obtain ⟨A, c, rfl, hn, hc, hR⟩ := h
  unfold maxLen at hc
  have HR := Lib.hid hR; clear hR
  have HW := Lib.hid hw; clear hw
  have HM0 := Lib.hid (MapSet.made w)
  have hmm := @run_makeMap Tryz.prog
  go_enter Tryz.func27, Tryz.ntmps27
  go_wp2_with fail
  obtain ⟨W2, hW2⟩ : ∃ W2 : World, W2 = w.alloc (.map #[] 0) := ⟨_, rfl⟩
  have HM2 : Hid (MapSet W2 w.heap.size 0 (fun _ => false)) := by rw [hW2]; exact HM0
  have HB2 := Lib.hid (show Below w.heap.size w W2 by rw [hW2]; exact bA (bR w) _)
  rw [← hW2]
  clear hmm hW2 HM0
  have hx2 := HB2.out.size
  go_loopw [9] (fun u wr => ∃ k : Nat, k ≤ l.length ∧ u = .int .i64 k ∧ Below w.heap.size w wr ∧ MapSet wr w.heap.size k (inS (l.take k))) (fun u _ => l.length - (intOf u).toNat)
  case atStart => exact ⟨0, Nat.zero_le _, rfl, HB2.out, HM2.out⟩
  case round =>
    obtain ⟨k, hk, rfl, hb, hm⟩ := hrel
    have Hb := Lib.hid hb
    have Hm := Lib.hid hm
    have hszr := hb.size
    have hml := hm.lt
    clear hb hm
    by_cases hlt : k < l.length
    case pos =>
      obtain ⟨b, o, rfl, hlb, c0, c1, c2⟩ := (HR.out.mono Hb.out).nd hlt
      have hwk := HW.out _ (List.getElem_mem hlt)
      obtain ⟨w3, hr3, hm3, hg3⟩ := MapSet.upd (Hm.out.keep (bA (bR wr) (.cells #[.int .i64 l[k].id, .int .i64 l[k].pt.x, .int .i64 l[k].pt.y] 105))) (by omega) l[k].pt hwk.2 true
      have hm4 : MapSet w3 w.heap.size (k + 1) (inS (l.take (k + 1))) := by rw [inS_succ l k hlt]; exact hm3
      have B3 : Below w.heap.size w w3 := bG (bA Hb.out _) hg3 (fun g hg => by injection hg with hg; omega)
      have Hm4 := Lib.hid hm4
      have HB3 := Lib.hid B3
      clear hm3 hg3 hm4 B3 hwk
      go_wp2_with fail
      go_roundw
      case rel => exact ⟨k + 1, by omega, by go_num, HB3.out, Hm4.out⟩
      case measure => simp [intOf]; omega
    case neg =>
    have hall : l.take k = l := List.take_of_length_le (by omega)
    have hm := Hm.out
    rw [hall] at hm
    have hkl : k = l.length := by omega
    have HM := Lib.hid (show MapSet wr w.heap.size l.length (inS l) by rw [← hkl]; exact hm)
    clear hm hall hkl
    go_wp2_with fail
    go_ret
    exact ⟨rfl, Hb.out, HM.out⟩

theorem sizeOf_pt : ∀ w, (Go.sizeOf 42).run Tryz.prog w = .ok 2 w := fun _ => by kernel_rfl

set_option maxRecDepth 100000 in
set_option maxHeartbeats 2000000 in
theorem entering_spec (g : Ed) (y : Pc) (v : Value) (w : World) (h : Pts w v y.path) :
    Calls Tryz.prog 28 #[edV g, pcV y v] w fun e w' => ∃ v', e = .returned v' ∧ Below w.heap.size w w' ∧ ∀ W, Pts W v y.path → Pts W v' (enterS g y) := by
  obtain ⟨A, c, rfl, hn, hc, hR⟩ := h
  unfold maxLen at hc
  have HR := Lib.hid hR; clear hR
  have TO : ∀ (p : Pt) (W : World), Calls Tryz.prog 40 #[edV g, ptV p] W fun e w' => e = .returned (.int .i64 (offS g p)) ∧ Below W.heap.size W w' := fun p W => off_spec g p W
  unfold edV ptV at TO
  have HO := Lib.hid TO; clear TO
  unfold edV pcV
  go_enter Tryz.func28, Tryz.ntmps28
  go_wp2_with fail
  obtain ⟨W0, hW0⟩ : ∃ W0 : World, W0 = (w.alloc (.cells #[.int .i64 g.side, .bool g.upright, .int .i64 g.line, .int .i64 g.lo, .int .i64 g.hi] 66)).alloc (.cells #[.int .i64 y.arc, .slice A y.path.length c, .int .i64 y.enter, .int .i64 y.leave] 62) := ⟨_, rfl⟩
  have X2 : Blk W0 w.heap.size 66 #[.int .i64 g.side, .bool g.upright, .int .i64 g.line, .int .i64 g.lo, .int .i64 g.hi] := by rw [hW0]; exact (Blk.made rfl _ _).alloc _
  have X3 : Blk W0 (w.heap.size + 1) 62 #[.int .i64 y.arc, .slice A y.path.length c, .int .i64 y.enter, .int .i64 y.leave] := by rw [hW0]; exact Blk.made (by simp) _ _
  have HB0 := Lib.hid (show Below w.heap.size w W0 by rw [hW0]; exact bA (bA (bR w) _) _)
  rw [← hW0]
  have HX2 := Lib.hid X2; have HX3 := Lib.hid X3
  clear hW0 X2 X3
  go_loopw [5] (fun u wr => ∃ k : Nat, k ≤ y.path.length ∧ u = .int .i64 k ∧ Below W0.heap.size W0 wr ∧ ∀ j (hj : j < y.path.length), j < k → onE g y.path[j] = true) (fun u _ => y.path.length - (intOf u).toNat)
  case atStart => exact ⟨0, Nat.zero_le _, rfl, bR W0, fun _ _ h => by omega⟩
  case round =>
    obtain ⟨k, hk, rfl, hb, hon⟩ := hrel
    have Hb := Lib.hid hb
    have Hon := Lib.hid hon
    have X2 := HX2.out.keep hb
    have X3 := HX3.out.keep hb
    clear hb hon
    try clear X2l
    try clear X2a
    try clear X2b
    try clear X2c
    try clear X2d
    try clear X2e
    try clear X2fa
    try clear X2fb
    try clear X2fc
    try clear X2fd
    try clear X2fe
    obtain ⟨X2l, X2a, X2b, X2c, X2d, X2e, -, -, -, -, -⟩ := X2.facts5
    try clear X3l
    try clear X3a
    try clear X3b
    try clear X3c
    try clear X3d
    try clear X3fa
    try clear X3fb
    try clear X3fc
    try clear X3fd
    obtain ⟨X3l, X3a, X3b, X3c, X3d, -, -, -, -⟩ := X3.facts4
    by_cases hlt : k < y.path.length
    case pos =>
      obtain ⟨b, o, rfl, hlb, c0, c1⟩ := (HR.out.mono (bT HB0.out Hb.out)).pt hlt
      have q1 : 0 ≤ (k : Int) := by omega
      have q2 : (k : Int) < y.path.length := by omega
      by_cases ho : onE g y.path[k] = true
      · have hz : offS g y.path[k] = 0 := (off_on g _).2 ho
        have TK : ∀ W, Calls Tryz.prog 40 #[.agg #[.int .i64 g.side, .bool g.upright, .int .i64 g.line, .int .i64 g.lo, .int .i64 g.hi], .agg #[.int .i64 y.path[k].x, .int .i64 y.path[k].y]] W fun e w' => e = .returned (.int .i64 0) ∧ Below W.heap.size W w' := fun W => by
          have := HO.out y.path[k] W
          rw [hz] at this
          exact this
        have HK := Lib.hid TK
        have Ho := Lib.hid ho
        clear TK hz ho
        go_upto_region 2 with fail
        refine rg_start (Since wr) (.take 0 1 (.take 1 3 (.take 2 7 (.take 3 15 (.take 4 31 (.take 5 63 (.take 6 127 (.take 7 255 (.take 8 511 (.take 9 1023 (.take 10 2047 (.take 11 4095 (.call 12 8191 (.take 13 16383 (.take 14 32767 (.done)))))))))))))))) (by kernel_rfl) (bD (bR _)) (by kernel_rfl) (by kernel_rfl) (Nat.le_of_ble_eq_true (by kernel_rfl)) ?_
        intro opsR QR Hops HQrg hS
        apply rg_yp (i := 0) Hops rfl hS rfl
        · intro _ hq; clear hq; go_simp; try rfl
        try simp only [Act.put, pu1, pu2, pu3]
        apply rg_yp (i := 1) Hops rfl hS rfl
        · intro _ hq; clear hq; go_simp; try rfl
        try simp only [Act.put, pu1, pu2, pu3]
        apply rg_yp (i := 2) Hops rfl hS rfl
        · intro wq hq; obtain ⟨hqc, -⟩ := bcell (show Below wr.heap.size wr wq from hq); clear hq; go_simp; try rfl
        try simp only [Act.put, pu1, pu2, pu3]
        apply rg_yp (i := 3) Hops rfl hS rfl
        · intro _ hq; clear hq; go_simp; try rfl
        try simp only [Act.put, pu1, pu2, pu3]
        apply rg_yp (i := 4) Hops rfl hS rfl
        · intro _ hq; clear hq; go_simp; try rfl
        try simp only [Act.put, pu1, pu2, pu3]
        apply rg_yp (i := 5) Hops rfl hS rfl
        · intro _ hq; clear hq; go_simp; try rfl
        try simp only [Act.put, pu1, pu2, pu3]
        apply rg_yg (i := 6) Hops rfl hS rfl rfl rfl rfl
        · intro wq hq; obtain ⟨hqc, -⟩ := bcell (show Below wr.heap.size wr wq from hq); clear hq; go_simp; try rfl
        try simp only [Act.put, pu1, pu2, pu3]
        apply rg_yg (i := 7) Hops rfl hS rfl rfl rfl rfl
        · intro _ hq; clear hq; go_simp; try rfl
        try simp only [Act.put, pu1, pu2, pu3]
        apply rg_yg (i := 8) Hops rfl hS rfl rfl rfl rfl
        · intro wq hq; obtain ⟨hqc, -⟩ := bcell (show Below wr.heap.size wr wq from hq); clear hq; go_simp; try rfl
        try simp only [Act.put, pu1, pu2, pu3]
        apply rg_yg (i := 9) Hops rfl hS rfl rfl rfl rfl
        · intro _ hq; clear hq; go_simp; try rfl
        try simp only [Act.put, pu1, pu2, pu3]
        apply rg_yg (i := 10) Hops rfl hS rfl rfl rfl rfl
        · intro _ hq; clear hq; go_simp; try rfl
        try simp only [Act.put, pu1, pu2, pu3]
        apply rg_yg (i := 11) Hops rfl hS rfl rfl rfl rfl
        · intro wq hq; obtain ⟨hqc, -⟩ := bcell (show Below wr.heap.size wr wq from hq); clear hq; go_simp; try rfl
        try simp only [Act.put, pu1, pu2, pu3]
        refine rg_call (i := 12) (get_of Hops rfl) (fun K hK => ?_)
        have HSrg := Lib.hid hS; clear hS
        refine rg_run (wanted_yes rfl (get_of Hops rfl) rfl rfl) ?_
        go_simp
        refine (HK.out _).mono ?_
        rintro e wr1 ⟨rfl, hbr1⟩
        have hS : Since wr wr1 := bT (w := wr) HSrg.out hbr1
        clear HSrg
        refine hK.out _ _ hS (fun _ => ?_)
        clear hK K
        try simp only [Act.put, pu1, pu2, pu3]
        apply rg_yg (i := 13) Hops rfl hS rfl rfl rfl rfl
        · intro _ hq; clear hq; go_simp; try rfl
        try simp only [Act.put, pu1, pu2, pu3]
        apply rg_yp (i := 14) Hops rfl hS rfl
        · intro _ hq; clear hq; go_simp; try rfl
        try simp only [Act.put, pu1, pu2, pu3]
        refine rg_done ?_
        refine HQrg.down _ _ ?_
        have hB : Below wr.heap.size wr wr1 := hS
        clear hS HQrg Hops
        have Bw := Lib.hid (bT Hb.out hB)
        clear hB
        go_wp2_with fail
        go_roundw
        case rel => exact ⟨k + 1, by omega, by go_num, Bw.out, fun j hj hjk => if e : j < k then Hon.out j hj e else by
            have : j = k := by omega
            subst this; exact Ho.out⟩
        case measure => simp [intOf]; omega
      · have hz : ¬ offS g y.path[k] = 0 := fun e => ho ((off_on g _).1 e)
        obtain ⟨z, hzz⟩ : ∃ z, offS g y.path[k] = z := ⟨_, rfl⟩
        rw [hzz] at hz
        have hz' : (z == 0) = false := by simpa using hz
        have TK : ∀ W, Calls Tryz.prog 40 #[.agg #[.int .i64 g.side, .bool g.upright, .int .i64 g.line, .int .i64 g.lo, .int .i64 g.hi], .agg #[.int .i64 y.path[k].x, .int .i64 y.path[k].y]] W fun e w' => e = .returned (.int .i64 z) ∧ Below W.heap.size W w' := fun W => by
          have := HO.out y.path[k] W
          rw [hzz] at this
          exact this
        have HK := Lib.hid TK
        have hlead := leadN_step (g := g) hlt (fun j hj hjk => Hon.out j hj hjk) (by simpa using ho)
        have hE : enterS g y = if y.enter ≠ g.side then [] else y.path.take k := by
          unfold enterS
          rw [hlead, if_neg (show ¬ k = y.path.length by omega)]
        have HE := Lib.hid hE
        clear TK hz ho hzz hlead hE
        go_upto_region 2 with fail
        refine rg_start (Since wr) (.take 0 1 (.take 1 3 (.take 2 7 (.take 3 15 (.take 4 31 (.take 5 63 (.take 6 127 (.take 7 255 (.take 8 511 (.take 9 1023 (.take 10 2047 (.take 11 4095 (.call 12 8191 (.take 13 16383 (.take 14 32767 (.done)))))))))))))))) (by kernel_rfl) (bD (bR _)) (by kernel_rfl) (by kernel_rfl) (Nat.le_of_ble_eq_true (by kernel_rfl)) ?_
        intro opsR QR Hops HQrg hS
        apply rg_yp (i := 0) Hops rfl hS rfl
        · intro _ hq; clear hq; go_simp; try rfl
        try simp only [Act.put, pu1, pu2, pu3]
        apply rg_yp (i := 1) Hops rfl hS rfl
        · intro _ hq; clear hq; go_simp; try rfl
        try simp only [Act.put, pu1, pu2, pu3]
        apply rg_yp (i := 2) Hops rfl hS rfl
        · intro wq hq; obtain ⟨hqc, -⟩ := bcell (show Below wr.heap.size wr wq from hq); clear hq; go_simp; try rfl
        try simp only [Act.put, pu1, pu2, pu3]
        apply rg_yp (i := 3) Hops rfl hS rfl
        · intro _ hq; clear hq; go_simp; try rfl
        try simp only [Act.put, pu1, pu2, pu3]
        apply rg_yp (i := 4) Hops rfl hS rfl
        · intro _ hq; clear hq; go_simp; try rfl
        try simp only [Act.put, pu1, pu2, pu3]
        apply rg_yp (i := 5) Hops rfl hS rfl
        · intro _ hq; clear hq; go_simp; try rfl
        try simp only [Act.put, pu1, pu2, pu3]
        apply rg_yg (i := 6) Hops rfl hS rfl rfl rfl rfl
        · intro wq hq; obtain ⟨hqc, -⟩ := bcell (show Below wr.heap.size wr wq from hq); clear hq; go_simp; try rfl
        try simp only [Act.put, pu1, pu2, pu3]
        apply rg_yg (i := 7) Hops rfl hS rfl rfl rfl rfl
        · intro _ hq; clear hq; go_simp; try rfl
        try simp only [Act.put, pu1, pu2, pu3]
        apply rg_yg (i := 8) Hops rfl hS rfl rfl rfl rfl
        · intro wq hq; obtain ⟨hqc, -⟩ := bcell (show Below wr.heap.size wr wq from hq); clear hq; go_simp; try rfl
        try simp only [Act.put, pu1, pu2, pu3]
        apply rg_yg (i := 9) Hops rfl hS rfl rfl rfl rfl
        · intro _ hq; clear hq; go_simp; try rfl
        try simp only [Act.put, pu1, pu2, pu3]
        apply rg_yg (i := 10) Hops rfl hS rfl rfl rfl rfl
        · intro _ hq; clear hq; go_simp; try rfl
        try simp only [Act.put, pu1, pu2, pu3]
        apply rg_yg (i := 11) Hops rfl hS rfl rfl rfl rfl
        · intro wq hq; obtain ⟨hqc, -⟩ := bcell (show Below wr.heap.size wr wq from hq); clear hq; go_simp; try rfl
        try simp only [Act.put, pu1, pu2, pu3]
        refine rg_call (i := 12) (get_of Hops rfl) (fun K hK => ?_)
        have HSrg := Lib.hid hS; clear hS
        refine rg_run (wanted_yes rfl (get_of Hops rfl) rfl rfl) ?_
        go_simp
        refine (HK.out _).mono ?_
        rintro e wr1 ⟨rfl, hbr1⟩
        have hS : Since wr wr1 := bT (w := wr) HSrg.out hbr1
        clear HSrg
        refine hK.out _ _ hS (fun _ => ?_)
        clear hK K
        try simp only [Act.put, pu1, pu2, pu3]
        apply rg_yg (i := 13) Hops rfl hS rfl rfl rfl rfl
        · intro _ hq; clear hq; go_simp; try rfl
        try simp only [Act.put, pu1, pu2, pu3]
        apply rg_yp (i := 14) Hops rfl hS rfl
        · intro _ hq; clear hq; go_simp; try rfl
        try simp only [Act.put, pu1, pu2, pu3]
        refine rg_done ?_
        refine HQrg.down _ _ ?_
        have hB : Below wr.heap.size wr wr1 := hS
        clear hS HQrg Hops
        have X2 := X2.keep hB
        have X3 := X3.keep hB
        have Bw := Lib.hid (bT HB0.out (bT Hb.out hB))
        clear hB X2l X2a X2b X2c X2d X2e X3l X3a X3b X3c X3d c0 c1 hlb
        try clear X2l
        try clear X2a
        try clear X2b
        try clear X2c
        try clear X2d
        try clear X2e
        try clear X2fa
        try clear X2fb
        try clear X2fc
        try clear X2fd
        try clear X2fe
        obtain ⟨X2l, X2a, X2b, X2c, X2d, X2e, -, -, -, -, -⟩ := X2.facts5
        try clear X3l
        try clear X3a
        try clear X3b
        try clear X3c
        try clear X3d
        try clear X3fa
        try clear X3fb
        try clear X3fc
        try clear X3fd
        obtain ⟨X3l, X3a, X3b, X3c, X3d, -, -, -, -⟩ := X3.facts4
        by_cases he : y.enter = g.side
        · have he' : (y.enter != g.side) = false := by simp [he]
          have hk' : ((k : Int) == (y.path.length : Int)) = false := by simp; omega
          have hrun := run_pre Tryz.underlying60 sizeOf_pt (some ⟨b, o, none⟩) y.path.length c k (by omega) hn
          have He := Lib.hid he; clear he
          go_wp2_with fail
          go_ret
          refine ⟨_, rfl, Bw.out, ?_⟩
          rw [HE.out, if_neg (fun h => h He.out)]
          exact fun W hW => Sl.pre_ hW k (by omega)
        · have he' : (y.enter != g.side) = true := by simp [he]
          have He := Lib.hid he; clear he
          go_wp2_with fail
          go_ret
          refine ⟨_, rfl, Bw.out, ?_⟩
          rw [HE.out, if_pos He.out]
          exact fun W _ => Sl.nil _
    case neg =>
    have hkk : k = y.path.length := by omega
    subst hkk
    have hlead := leadN_end (g := g) (l := y.path) (fun j hj => Hon.out j hj hj)
    have hE : enterS g y = if y.enter ≠ g.side then [] else if y.leave = 0 ∨ y.leave = g.side then [] else y.path.take (if 1 < y.path.length then y.path.length - 1 else y.path.length) := by
      unfold enterS
      rw [hlead, if_pos rfl]
    have HE := Lib.hid hE
    have q3 : ¬ (y.path.length : Int) < (y.path.length : Int) := by omega
    clear hlead hE hlt
    go_upto_region 2 with fail
    refine rg_start (Since wr) (.take 0 1 (.take 1 3 (.take 2 7 (.take 3 15 (.take 4 31 (.take 5 63 (.take 6 127 (.take 7 255 (.take 8 511 (.take 9 1023 (.take 10 2047 (.take 11 4095 (.take 12 8191 (.take 13 16383 (.take 14 32767 (.done)))))))))))))))) (by kernel_rfl) (bD (bR _)) (by kernel_rfl) (by kernel_rfl) (Nat.le_of_ble_eq_true (by kernel_rfl)) ?_
    intro opsR QR Hops HQrg hS
    apply rg_yp (i := 0) Hops rfl hS rfl
    · intro _ hq; clear hq; go_simp; try rfl
    try simp only [Act.put, pu1, pu2, pu3]
    apply rg_yp (i := 1) Hops rfl hS rfl
    · intro _ hq; clear hq; go_simp; try rfl
    try simp only [Act.put, pu1, pu2, pu3]
    apply rg_yp (i := 2) Hops rfl hS rfl
    · intro wq hq; obtain ⟨hqc, -⟩ := bcell (show Below wr.heap.size wr wq from hq); clear hq; go_simp; try rfl
    try simp only [Act.put, pu1, pu2, pu3]
    apply rg_yp (i := 3) Hops rfl hS rfl
    · intro _ hq; clear hq; go_simp; try rfl
    try simp only [Act.put, pu1, pu2, pu3]
    apply rg_yp (i := 4) Hops rfl hS rfl
    · intro _ hq; clear hq; go_simp; try rfl
    try simp only [Act.put, pu1, pu2, pu3]
    apply rg_yp (i := 5) Hops rfl hS rfl
    · intro _ hq; clear hq; go_simp; try rfl
    try simp only [Act.put, pu1, pu2, pu3]
    refine rg_yn (i := 6) Hops rfl hS rfl rfl rfl rfl rfl ?_
    try simp only [Act.put, pu1, pu2, pu3]
    refine rg_yn (i := 7) Hops rfl hS rfl rfl rfl rfl rfl ?_
    try simp only [Act.put, pu1, pu2, pu3]
    refine rg_yn (i := 8) Hops rfl hS rfl rfl rfl rfl rfl ?_
    try simp only [Act.put, pu1, pu2, pu3]
    refine rg_yn (i := 9) Hops rfl hS rfl rfl rfl rfl rfl ?_
    try simp only [Act.put, pu1, pu2, pu3]
    refine rg_yn (i := 10) Hops rfl hS rfl rfl rfl rfl rfl ?_
    try simp only [Act.put, pu1, pu2, pu3]
    refine rg_yn (i := 11) Hops rfl hS rfl rfl rfl rfl rfl ?_
    try simp only [Act.put, pu1, pu2, pu3]
    refine rg_yn (i := 12) Hops rfl hS rfl rfl rfl rfl rfl ?_
    try simp only [Act.put, pu1, pu2, pu3]
    refine rg_yn (i := 13) Hops rfl hS rfl rfl rfl rfl rfl ?_
    try simp only [Act.put, pu1, pu2, pu3]
    apply rg_yp (i := 14) Hops rfl hS rfl
    · intro _ hq; clear hq; go_simp; try rfl
    try simp only [Act.put, pu1, pu2, pu3]
    refine rg_done ?_
    refine HQrg.down _ _ ?_
    have hB : Below wr.heap.size wr wr.drew := hS
    clear hS HQrg Hops
    have X2 := X2.keep hB
    have X3 := X3.keep hB
    have Bw := Lib.hid (bT HB0.out (bT Hb.out hB))
    clear hB X2l X2a X2b X2c X2d X2e X3l X3a X3b X3c X3d
    try clear X2l
    try clear X2a
    try clear X2b
    try clear X2c
    try clear X2d
    try clear X2e
    try clear X2fa
    try clear X2fb
    try clear X2fc
    try clear X2fd
    try clear X2fe
    obtain ⟨X2l, X2a, X2b, X2c, X2d, X2e, -, -, -, -, -⟩ := X2.facts5
    try clear X3l
    try clear X3a
    try clear X3b
    try clear X3c
    try clear X3d
    try clear X3fa
    try clear X3fb
    try clear X3fc
    try clear X3fd
    obtain ⟨X3l, X3a, X3b, X3c, X3d, -, -, -, -⟩ := X3.facts4
    by_cases he : y.enter = g.side
    case neg =>
      have he' : (y.enter != g.side) = true := by simp [he]
      have He := Lib.hid he; clear he
      go_wp2_with fail
      go_ret
      refine ⟨_, rfl, Bw.out, ?_⟩
      rw [HE.out, if_pos He.out]
      exact fun W _ => Sl.nil _
    have he' : (y.enter != g.side) = false := by simp [he]
    have He := Lib.hid he; clear he
    by_cases hv : y.leave = 0 ∨ y.leave = g.side
    · have hv' : (y.leave == 0) = true ∨ ((y.leave == 0) = false ∧ (y.leave == g.side) = true) := by
        by_cases h0 : y.leave = 0
        · left; simp [h0]
        · right; exact ⟨by simpa using h0, by rcases hv with h | h <;> simp_all⟩
      have Hv := Lib.hid hv; clear hv
      rcases hv' with h1 | ⟨h1, h2⟩
      all_goals
        go_wp2_with fail
        go_ret
        refine ⟨_, rfl, Bw.out, ?_⟩
        rw [HE.out, if_neg (fun h => h He.out), if_pos Hv.out]
        exact fun W _ => Sl.nil _
    · have h1 : (y.leave == 0) = false := by simp; omega
      have h2 : (y.leave == g.side) = false := by simp; omega
      have Hv := Lib.hid hv; clear hv
      by_cases h3 : 1 < y.path.length
      · have hrun := run_pre Tryz.underlying60 sizeOf_pt A y.path.length c (y.path.length - 1) (by omega) hn
        have hcast : ((y.path.length - 1 : Nat) : Int) = (y.path.length : Int) - 1 := by omega
        rw [hcast] at hrun
        have h4 : 1 < (y.path.length : Int) := by omega
        clear hcast
        go_wp2_with fail
        go_ret
        refine ⟨_, rfl, Bw.out, ?_⟩
        rw [HE.out, if_neg (fun h => h He.out), if_neg Hv.out, if_pos h3]
        exact fun W hW => Sl.pre_ hW _ (by omega)
      · have hrun := run_pre Tryz.underlying60 sizeOf_pt A y.path.length c y.path.length (by omega) hn
        have h4 : ¬ 1 < (y.path.length : Int) := by omega
        go_wp2_with fail
        go_ret
        refine ⟨_, rfl, Bw.out, ?_⟩
        rw [HE.out, if_neg (fun h => h He.out), if_neg Hv.out, if_neg h3]
        exact fun W hW => Sl.pre_ hW _ (by omega)
end Go.Proofs.YtbjlnnfmcjbnhaaGreatDoor
