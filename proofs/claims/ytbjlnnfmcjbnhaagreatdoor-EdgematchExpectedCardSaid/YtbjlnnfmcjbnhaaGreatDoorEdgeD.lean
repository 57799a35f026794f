/- edgematch: order (slices.SortFunc at crossings). -/
import Derived.Shelf.SlSortCmp.NoneTotal
import Derived.Test.YtbjlnnfmcjbnhaaGreatDoorJ03
import Derived.Test.YtbjlnnfmcjbnhaaGreatDoorJ11
import Derived.Test.YtbjlnnfmcjbnhaaGreatDoorLaySortCr
set_option linter.unusedSimpArgs false
set_option linter.unusedVariables false
namespace Go.Proofs.YtbjlnnfmcjbnhaaGreatDoor
open Go.RowKit Go.Sort

def orS (l : List Int) : Int := (l.find? (fun x => decide (x ≠ 0))).getD 0

set_option maxRecDepth 100000 in
set_option maxHeartbeats 1000000 in
theorem Or_spec (v : Value) (l : List Int) (w : World) (h : Ints w v l) (hs : l.length ≤ 1000) : Calls Tryz.prog 66 #[v] w fun e w' => e = .returned (.int .i64 (orS l)) ∧ w = w' := by
  obtain ⟨A, c, rfl, hn, hc, hR⟩ := h
  unfold maxLen at hc
  have HR := Lib.hid hR; clear hR
  obtain ⟨q, hq⟩ : ∃ q, orS l = q := ⟨_, rfl⟩
  rw [hq]
  have Hq := Lib.hid hq; clear hq
  go_enter Tryz.func66, Tryz.ntmps66
  go_wp2_with fail
  go_loopw [8] (fun u wr => ∃ k : Nat, k ≤ l.length ∧ u = .int .i64 k ∧ wr = w ∧ ∀ j (hj : j < l.length), j < k → l[j] = 0) (fun u _ => l.length - (intOf u).toNat)
  case atStart => exact ⟨0, Nat.zero_le _, rfl, rfl, fun _ _ h => by omega⟩
  case round =>
    obtain ⟨k, hk, rfl, rfl, hno⟩ := hrel
    have Hno := Lib.hid hno
    clear hno
    by_cases hlt : k < l.length
    · obtain ⟨b, o, rfl, hlb, c0⟩ := HR.out.int hlt
      by_cases hz : l[k] = 0
      · have hz' : (l[k] != 0) = false := by simp [hz]
        have Hz := Lib.hid hz; clear hz
        go_wp2_with fail
        go_roundw
        case rel => exact ⟨k + 1, by omega, by go_num, trivial, fun j hj hjk => if e : j < k then Hno.out j hj e else by
            have : j = k := by omega
            subst this; exact Hz.out⟩
        case measure => simp [intOf]; omega
      · have hz' : (l[k] != 0) = true := by simp [hz]
        have hf := find_hit l (fun x => decide (x ≠ 0)) k hlt (fun j hj hjk => by simp [Hno.out j hj hjk]) (by simp [hz])
        have Hf := Lib.hid hf
        clear hz hf
        go_wp2_with fail
        go_ret
        exact ⟨ret_int (by rw [← Hq.out, orS, Hf.out]; rfl), rfl⟩
    · have hf := find_miss l (fun x => decide (x ≠ 0)) (fun j hj => by simp [Hno.out j hj (by omega)])
      have Hf := Lib.hid hf
      clear hf
      go_wp2_with fail
      go_ret
      exact ⟨ret_int (by rw [← Hq.out, orS, Hf.out]; rfl), rfl⟩

theorem Or_spec' (v : Value) (l : List Int) (w : World) (h : Ints w v l) (hs : l.length ≤ 1000) : Calls Tryz.prog 66 #[v] w fun e w' => e = .returned (.int .i64 (orS l)) ∧ BelowD w w' :=
  (Or_spec v l w h hs).mono fun e w' h => ⟨h.1, by rw [← h.2]; exact ⟨bR w, dR w⟩⟩
def cmpCr (a b : Cr) : Int := orS [cmpI a.pos b.pos, cmpI a.arc b.arc, cmpI a.out b.out]
theorem Ints.lit3 {w : World} {g : Nat} {t : TypeId} {a b c : Int} (h : Blk w g t #[.int .i64 a, .int .i64 b, .int .i64 c]) : Ints w (.slice (some ⟨g, 0, none⟩) 3 3) [a, b, c] :=
  Sl.lit (n := 3) h rfl (le_maxLen (by omega))

set_option maxRecDepth 100000 in
set_option maxHeartbeats 1000000 in
theorem cmpCr_spec (a b : Cr) (w : World) :
    Calls Tryz.prog 65 #[crV a, crV b] w fun e w' => e = .returned (.int .i64 (cmpCr a b)) ∧ BelowD w w' := by
  unfold crV cmpCr
  go_enter Tryz.func65, Tryz.ntmps65
  go_upto_region 1 with fail
  obtain ⟨W, hW⟩ : ∃ W : World, W = (w.alloc (.cells #[.int .i64 a.pos, .int .i64 a.arc, .int .i64 a.out] 57)).alloc (.cells #[.int .i64 b.pos, .int .i64 b.arc, .int .i64 b.out] 57) := ⟨_, rfl⟩
  have Bw : Below w.heap.size w W := by rw [hW]; exact bA (bA (bR w) _) _
  have Dw := Lib.hid (show w.drawn ≤ W.drawn by rw [hW]; exact dA (dA (dR w) _) _)
  have X1 : Blk W w.heap.size 57 #[.int .i64 a.pos, .int .i64 a.arc, .int .i64 a.out] := by rw [hW]; exact (Blk.made rfl _ _).alloc _
  have X2 : Blk W (w.heap.size + 1) 57 #[.int .i64 b.pos, .int .i64 b.arc, .int .i64 b.out] := by rw [hW]; exact Blk.made (by simp) _ _
  rw [← hW]
  clear hW
  try clear X1l
  try clear X1a
  try clear X1b
  try clear X1c
  try clear X1fa
  try clear X1fb
  try clear X1fc
  obtain ⟨X1l, X1a, X1b, X1c, -, -, -⟩ := X1.facts3
  try clear X2l
  try clear X2a
  try clear X2b
  try clear X2c
  try clear X2fa
  try clear X2fb
  try clear X2fc
  obtain ⟨X2l, X2a, X2b, X2c, -, -, -⟩ := X2.facts3
  refine rg_start (Since W) (.take 0 1 (.take 1 3 (.take 2 7 (.take 3 15 (.take 5 47 (.take 6 111 (.take 7 239 (.take 8 495 (.take 10 1519 (.take 11 3567 (.take 12 7663 (.take 13 15855 (.call 4 15871 (.call 9 16383 (.call 14 32767 (.call 15 65535 (.call 16 131071 (.take 17 262143 (.done))))))))))))))))))) (by kernel_rfl) (bD (bR _)) (by kernel_rfl) (by kernel_rfl) (Nat.le_of_ble_eq_true (by kernel_rfl)) ?_
  intro opsR QR Hops HQrg hS
  apply rg_yp (i := 0) Hops rfl hS rfl
  · intro _ hq; clear hq; go_simp; try rfl
  try simp only [Act.put, pu1, pu2, pu3]
  apply rg_yp (i := 1) Hops rfl hS rfl
  · intro wq hq; obtain ⟨hqc, -⟩ := bcell (show Below W.heap.size W wq from hq); clear hq; go_simp; try rfl
  try simp only [Act.put, pu1, pu2, pu3]
  apply rg_yp (i := 2) Hops rfl hS rfl
  · intro _ hq; clear hq; go_simp; try rfl
  try simp only [Act.put, pu1, pu2, pu3]
  apply rg_yp (i := 3) Hops rfl hS rfl
  · intro wq hq; obtain ⟨hqc, -⟩ := bcell (show Below W.heap.size W wq from hq); clear hq; go_simp; try rfl
  try simp only [Act.put, pu1, pu2, pu3]
  apply rg_yp (i := 5) Hops rfl hS rfl
  · intro _ hq; clear hq; go_simp; try rfl
  try simp only [Act.put, pu1, pu2, pu3]
  apply rg_yp (i := 6) Hops rfl hS rfl
  · intro wq hq; obtain ⟨hqc, -⟩ := bcell (show Below W.heap.size W wq from hq); clear hq; go_simp; try rfl
  try simp only [Act.put, pu1, pu2, pu3]
  apply rg_yp (i := 7) Hops rfl hS rfl
  · intro _ hq; clear hq; go_simp; try rfl
  try simp only [Act.put, pu1, pu2, pu3]
  apply rg_yp (i := 8) Hops rfl hS rfl
  · intro wq hq; obtain ⟨hqc, -⟩ := bcell (show Below W.heap.size W wq from hq); clear hq; go_simp; try rfl
  try simp only [Act.put, pu1, pu2, pu3]
  apply rg_yp (i := 10) Hops rfl hS rfl
  · intro _ hq; clear hq; go_simp; try rfl
  try simp only [Act.put, pu1, pu2, pu3]
  apply rg_yp (i := 11) Hops rfl hS rfl
  · intro wq hq; obtain ⟨hqc, -⟩ := bcell (show Below W.heap.size W wq from hq); clear hq; go_simp; try rfl
  try simp only [Act.put, pu1, pu2, pu3]
  apply rg_yp (i := 12) Hops rfl hS rfl
  · intro _ hq; clear hq; go_simp; try rfl
  try simp only [Act.put, pu1, pu2, pu3]
  apply rg_yp (i := 13) Hops rfl hS rfl
  · intro wq hq; obtain ⟨hqc, -⟩ := bcell (show Below W.heap.size W wq from hq); clear hq; go_simp; try rfl
  try simp only [Act.put, pu1, pu2, pu3]
  refine rg_call (i := 4) (get_of Hops rfl) (fun K hK => ?_)
  have HSrg := Lib.hid hS; clear hS
  refine rg_run (wanted_plain rfl) ?_
  go_simp
  refine (Compare_int_spec' _ _ _).mono ?_
  rintro e wr1 ⟨rfl, hbr1, hd1⟩
  have hS : Since W wr1 := bT (w := W) HSrg.out hbr1
  clear HSrg
  refine hK.out _ _ hS (fun _ => ?_)
  clear hK K
  try simp only [Act.put, pu1, pu2, pu3]
  refine rg_call (i := 9) (get_of Hops rfl) (fun K hK => ?_)
  have HSrg := Lib.hid hS; clear hS
  refine rg_run (wanted_plain rfl) ?_
  go_simp
  refine (Compare_int_spec' _ _ _).mono ?_
  rintro e wr2 ⟨rfl, hbr2, hd2⟩
  have hS : Since W wr2 := bT (w := W) HSrg.out hbr2
  clear HSrg
  refine hK.out _ _ hS (fun _ => ?_)
  clear hK K
  try simp only [Act.put, pu1, pu2, pu3]
  refine rg_call (i := 14) (get_of Hops rfl) (fun K hK => ?_)
  have HSrg := Lib.hid hS; clear hS
  refine rg_run (wanted_plain rfl) ?_
  go_simp
  refine (Compare_int_spec' _ _ _).mono ?_
  rintro e wr3 ⟨rfl, hbr3, hd3⟩
  have hS : Since W wr3 := bT (w := W) HSrg.out hbr3
  clear HSrg
  refine hK.out _ _ hS (fun _ => ?_)
  clear hK K
  try simp only [Act.put, pu1, pu2, pu3]
  refine rg_call (i := 15) (get_of Hops rfl) (fun K hK => ?_)
  have HSrg := Lib.hid hS; clear hS
  refine rg_run (wanted_plain rfl) ?_
  go_simp
  refine hK.out _ _ (bA HSrg.out _) (fun hS => ?_)
  clear hK K HSrg
  try simp only [Act.put, pu1, pu2, pu3]
  refine rg_call (i := 16) (get_of Hops rfl) (fun K hK => ?_)
  have HSrg := Lib.hid hS; clear hS
  refine rg_run (wanted_plain rfl) ?_
  go_simp
  refine (Or_spec' _ [cmpI a.pos b.pos, cmpI a.arc b.arc, cmpI a.out b.out] _ (Ints.lit3 (Blk.made rfl _ _)) (by simp)).mono ?_
  rintro e wr4 ⟨rfl, hbr4, hd4⟩
  have hS : Since W wr4 := bT (w := W) HSrg.out hbr4
  clear HSrg
  refine hK.out _ _ hS (fun _ => ?_)
  clear hK K
  try simp only [Act.put, pu1, pu2, pu3]
  apply rg_yp (i := 17) Hops rfl hS rfl
  · intro _ hq; clear hq; go_simp; try rfl
  try simp only [Act.put, pu1, pu2, pu3]
  refine rg_done ?_
  refine HQrg.down _ _ ?_
  have hB : Below W.heap.size W wr4 := hS
  clear hS HQrg Hops
  have D4 := Lib.hid (dT (dT (dT (dT (dD Dw.out) hd1) hd2) hd3) hd4)
  go_wp2_with fail
  go_ret
  exact ⟨rfl, bT Bw hB, D4.out⟩

theorem lt_cmpCr (a b : Cr) : ltOf cmpCr a b = crLt a b := by
  unfold ltOf cmpCr orS crLt cmpI
  simp only [List.find?]
  by_cases h1 : a.pos = b.pos
  · have e1 : ¬ a.pos < b.pos := by omega
    have e2 : ¬ b.pos < a.pos := by omega
    rw [if_neg e1, if_neg e2, if_pos h1]
    by_cases h2 : a.arc = b.arc
    · have f1 : ¬ a.arc < b.arc := by omega
      have f2 : ¬ b.arc < a.arc := by omega
      rw [if_neg f1, if_neg f2, if_pos h2]
      by_cases h3 : a.out < b.out
      · simp [h3]
      · by_cases h4 : b.out < a.out
        · simp [h3, h4]
        · simp [h3, h4]
    · rw [if_neg h2]
      by_cases h3 : a.arc < b.arc
      · simp [h3]
      · have h4 : b.arc < a.arc := by omega
        simp [h3, h4]
  · rw [if_neg h1]
    by_cases h3 : a.pos < b.pos
    · simp [h3]
    · have h4 : b.pos < a.pos := by omega
      simp [h3, h4]
theorem swo_cr : SWO (ltOf cmpCr) where
  irrefl x := by rw [lt_cmpCr]; exact crLt_irrefl x
  trans x y z h1 h2 := by
    rw [lt_cmpCr] at *
    cases h : crLt x z
    · have h3 : leCr y z := (leCr_iff y z).2 (crLt_asymm h2)
      have h4 : leCr z x := (leCr_iff z x).2 h
      have h5 := (leCr_iff y x).1 (leCr_trans h3 h4)
      rw [h1] at h5; cases h5
    · rfl
  ntrans x y z h1 h2 := by
    rw [lt_cmpCr] at *
    exact (leCr_iff z x).1 (leCr_trans ((leCr_iff z y).2 h2) ((leCr_iff y x).2 h1))

def RetSortCr (w : World) (base : Nat) (v : Value) (sl : List Cr) (e : Ending) (w' : World) : Prop :=
  e = .returned (.tuple #[]) ∧ Own w' base 57 3 crC v (sortCr sl) ∧ w.grownBy w' v.ownBlock
theorem isAgg_cr : ∀ w, (isAgg 57).run Tryz.prog w = .ok true w := fun _ => by kernel_rfl
theorem sizeOf_cr : ∀ w, (Go.sizeOf 57).run Tryz.prog w = .ok 3 w := fun _ => by kernel_rfl

set_option maxHeartbeats 1000000 in
theorem Sort_cr_spec (base : Nat) (v : Value) (sl : List Cr) (w : World) (hown : Own w base 57 3 crC v sl) (hn : sl.length ≤ 4294967296) :
    Calls Tryz.prog 64 #[v, .func (.func 65) #[] #[]] w (RetSortCr w base v sl) := by
  rcases sl with _ | ⟨s0, rest⟩
  · have hv : ∃ p cap, v = .slice p 0 cap := by
      rcases hown.2 with ⟨h, _⟩ | ⟨g, cap, cur, h, _⟩
      · exact ⟨_, _, h⟩
      · exact ⟨_, _, h⟩
    obtain ⟨p, cap, rfl⟩ := hv
    refine Calls.mono (AnyF.slices_SortFunc_none Tryz.sortCr p cap (.func (.func 65) #[] #[]) w) ?_
    rintro e w' ⟨rfl, rfl⟩
    exact ⟨rfl, hown, World.grownBy.refl _ _⟩
  generalize hsl : s0 :: rest = sl at *
  have hpos : 0 < sl.length := by rw [← hsl]; simp
  obtain ⟨hlen, hown2⟩ := hown
  rcases hown2 with ⟨_, h0⟩ | ⟨g, cap, cur, rfl, hg, hh, hnc, hcm, hcs, hx⟩
  · omega
  have hcur : ∀ j, j < sl.length * 3 → cur[j]? = (sl.flatMap crC)[j]? := fun j hj => by
    rw [← hx, List.getElem?_take, if_pos hj]; simp
  have eg : ∀ args w, (callFunc 65 args).run Tryz.prog w = .ok (.enter 65 args) w := enters_of Tryz.func65 (by kernel_rfl) rfl
  have hkk : ∀ x : Cr, (crC x).length = 3 := fun _ => rfl
  have hcmp : CmpLays Tryz.prog 65 #[] crC 3 cmpCr g 0 sl.toArray.size w := fun m os dk hdk x y => by
    exact (cmpCr_spec x y _).mono fun e w' h => ⟨h.1, belowD_grow h.2⟩
  have hsz : sl.toArray.size * 3 = sl.length * 3 := by simp
  have hH : HoldsK crC 3 w g 0 sl.toArray := fun j hj => by
    rw [size_flatK, hsz] at hj
    refine ⟨?_, Blk.frozen (t := 57) (cs := cur) hh _⟩
    rw [cell_of_row w g _ cur 57 (0, 0) hh, Nat.zero_add, hcur j hj, flatK_list _ 3 hkk _ j (by rw [hsz]; exact hj)]
    simp only [id]
    rw [List.getElem!_eq_getElem?_getD]
    have : j < (sl.flatMap crC).length := by rw [hlen]; exact hj
    rw [List.getElem?_eq_getElem this]; rfl
  have hcon := AnyQ.slices_SortFunc Tryz.sortCr 3 isAgg_cr sizeOf_cr crC hkk crC_one cmpCr swo_cr 65 #[] g 0 cap sl.toArray w eg hcmp hH (Blk.lt hh) (by simp; omega)
  have hns : sl.toArray.size = sl.length := by simp
  rw [hns] at hcon
  refine Calls.mono hcon ?_
  rintro e w' ⟨rfl, d', n, os, hp, hs, rfl⟩
  obtain ⟨p1, -, p3⟩ := hp
  have hd' : d'.size = sl.length := by rw [p1, hns]
  have hperm : d'.toList.Perm sl := by
    have e1 : d'.extract 0 sl.length = d' := by rw [← hd']; simp
    have e2 : sl.toArray.extract 0 sl.length = sl.toArray := by rw [← hns]; simp
    rw [e1, e2] at p3
    simpa using p3
  have hsorted : SortedCr d'.toList := by
    unfold SortedCr
    rw [List.pairwise_iff_getElem]
    intro i j hi hj hij
    have hj' : j < d'.size := by simpa using hj
    have := hs i j (Nat.zero_le _) hij (by rw [← hd']; exact hj')
    rw [lt_cmpCr, getElem!_pos d' j hj', getElem!_pos d' i (by omega)] at this
    rw [leCr_iff]
    simpa using this
  have hd2 : d'.toList = sortCr sl := sortCr_of hperm hsorted
  have hg' := sort_grown crC 3 w g 0 n d' os
  refine ⟨rfl, ?_, hg'⟩
  rw [← hd2]
  have hl' : d'.toList.length = sl.length := by simp [hd']
  unfold Own
  rw [hl']
  have hln : (d'.toList.flatMap crC).length = sl.length * 3 := by rw [flat_length crC 3 crC_len, hl']
  refine ⟨hln, .inr ⟨g, cap, putCells id 0 (flatK crC 3 d') cur, rfl, hg, ?_, hnc, hcm, by simp [putCells, hcs], ?_⟩⟩
  · have hgl : g < w.heap.size := Blk.lt hh
    rw [sort_heap, Array.getElem?_append_left (by simpa using hgl), Array.getElem?_modify, if_pos rfl, hh]
    rfl
  · apply List.ext_getElem?
    intro j
    rw [List.getElem?_take]
    by_cases hj : j < sl.length * 3
    · rw [if_pos hj]
      have hjc : j < cur.size := by rw [hcs]; have := Nat.mul_le_mul_right 3 hnc; omega
      have hjd : j < d'.size * 3 := by rw [hd']; exact hj
      have e1 : (putCells id 0 (flatK crC 3 d') cur).toList[j]? = some (flatK crC 3 d')[j]! := by
        simp [putCells, hjc, hjd]
      rw [e1, flatK_list _ 3 hkk _ j hjd, List.getElem!_eq_getElem?_getD]
      have : j < (d'.toList.flatMap crC).length := by rw [hln]; exact hj
      rw [List.getElem?_eq_getElem this]; rfl
    · rw [if_neg hj, List.getElem?_eq_none (by rw [hln]; omega)]

set_option maxHeartbeats 1000000 in
theorem order_spec (base : Nat) (v : Value) (sl : List Cr) (w : World) (hown : Own w base 57 3 crC v sl) (hn : sl.length ≤ 4294967296) :
    Calls Tryz.prog 32 #[v] w (RetSortCr w base v sl) := by
  have HS := Lib.hid (Sort_cr_spec base v sl w hown hn)
  unfold RetSortCr at *
  clear hown
  go_enter Tryz.func32, Tryz.ntmps32
  go_wp2_with fail
  refine HS.out.mono ?_
  rintro e w' ⟨rfl, h1, h2⟩
  have H1 := Lib.hid h1; have H2 := Lib.hid h2
  clear h1 h2
  go_wp2_with fail
  refine bodyPost_end (v := .tuple #[]) (results_none rfl _ _ _) rfl ⟨rfl, H1.out, H2.out⟩
end Go.Proofs.YtbjlnnfmcjbnhaaGreatDoor
