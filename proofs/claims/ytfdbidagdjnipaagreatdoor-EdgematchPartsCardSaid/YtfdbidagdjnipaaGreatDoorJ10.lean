/- The comparison of plan.planar. slices.SortFunc at plan's segments. edgematch: order (slices.SortFunc at crossings). -/
import Derived.Test.YtfdbidagdjnipaaGreatDoorJ09
import Derived.Test.YtfdbidagdjnipaaGreatDoorJ01
import Derived.Shelf.SlSortCmp.NoneTotal
import Derived.Test.YtfdbidagdjnipaaGreatDoorLaySort
import Derived.Test.YtfdbidagdjnipaaGreatDoorJ03
import Derived.Test.YtfdbidagdjnipaaGreatDoorLaySortCr
set_option linter.unusedSimpArgs false
set_option linter.unusedVariables false
namespace Go.Proofs.YtfdbidagdjnipaaGreatDoor
open Go.RowKit

theorem Compare_int_spec' (x y : Int) (w : World) : Calls Tryz.prog 68 #[.int .i64 x, .int .i64 y] w fun e w' => e = .returned (.int .i64 (cmpI x y)) ∧ BelowD w w' :=
 (Compare_int_spec x y w).mono fun e w' h => ⟨h.1, by rw [← h.2]; exact ⟨bR w, dR w⟩⟩

set_option maxRecDepth 100000 in
set_option maxHeartbeats 1000000 in
theorem cmpSeg_spec (s t : PSg) (w : World) (hs : SgOk w s) (ht : SgOk w t) :
  Calls Tryz.prog 88 #[psgV s, psgV t] w fun e w' => e = .returned (.int .i64 (cmpI (westS s) (westS t))) ∧ BelowD w w' := by
 have TS : ∀ W, Below w.heap.size w W → Calls Tryz.prog 89 #[psgV s] W _ := fun W hW => west_spec s W (hs.keep hW)
 have TT : ∀ W, Below w.heap.size w W → Calls Tryz.prog 89 #[psgV t] W _ := fun W hW => west_spec t W (ht.keep hW)
 unfold psgV at TS TT ⊢
 have HS := Lib.hid TS; have HT := Lib.hid TT
 clear TS TT hs ht
 generalize westS s = x at *
 generalize westS t = y at *
 generalize s.k = k at *
 generalize t.k = m at *
 generalize s.ln.g = g at *
 generalize t.ln.g = h at *
 go_enter Tryz.func88, Tryz.ntmps88
 go_upto_region 1 with fail
 obtain ⟨W, hW⟩ : ∃ W : World, W = (w.alloc (.cells #[.pointer (some ⟨g, 0, none⟩), .int .i64 k] 142)).alloc (.cells #[.pointer (some ⟨h, 0, none⟩), .int .i64 m] 142) := ⟨_, rfl⟩
 have Bw : Below w.heap.size w W := by rw [hW]; exact bA (bA (bR w) _) _
 have Dw := Lib.hid (show w.drawn ≤ W.drawn by rw [hW]; exact dA (dA (dR w) _) _)
 have X1 : Blk W w.heap.size 142 #[.pointer (some ⟨g, 0, none⟩), .int .i64 k] := by rw [hW]; exact (Blk.made rfl _ _).alloc _
 have X2 : Blk W (w.heap.size + 1) 142 #[.pointer (some ⟨h, 0, none⟩), .int .i64 m] := by rw [hW]; exact Blk.made (by simp) _ _
 rw [← hW]
 clear hW
 obtain ⟨X1l, X1a, X1b, -, -⟩ := X1.facts2
 obtain ⟨X2l, X2a, X2b, -, -⟩ := X2.facts2
 refine rg_start (Since W) (.take 0 1 (.take 2 5 (.call 1 7 (.call 3 15 (.call 4 31 (.take 5 63 (.done))))))) (by kernel_rfl) (bD (bR _)) (by kernel_rfl) (by kernel_rfl) (Nat.le_of_ble_eq_true (by kernel_rfl)) ?_
 intro opsR QR Hops HQrg hS
 iterate 2
  apply rg_p; exact Hops; exact rfl; exact hS; exact rfl
  · intro _ hqc; go_simp; try rfl
  try simp only [pu]
 refine rg_call (i := 1) (get_of Hops rfl) (fun K hK => ?_)
 have HSrg := Lib.hid hS; clear hS
 refine rg_run (wanted_plain rfl) ?_
 go_simp
 refine (HS.out _ (bT Bw HSrg.out)).mono ?_
 rintro e wr1 ⟨rfl, hbr1, hd1⟩
 have hS : Since W wr1 := bT (w := W) HSrg.out hbr1
 clear HSrg
 refine hK.out _ _ hS (fun _ => ?_)
 clear hK K
 try simp only [pu]
 refine rg_call (i := 3) (get_of Hops rfl) (fun K hK => ?_)
 have HSrg := Lib.hid hS; clear hS
 refine rg_run (wanted_plain rfl) ?_
 go_simp
 refine (HT.out _ (bT Bw HSrg.out)).mono ?_
 rintro e wr2 ⟨rfl, hbr2, hd2⟩
 have hS : Since W wr2 := bT (w := W) HSrg.out hbr2
 clear HSrg
 refine hK.out _ _ hS (fun _ => ?_)
 clear hK K
 try simp only [pu]
 refine rg_call (i := 4) (get_of Hops rfl) (fun K hK => ?_)
 have HSrg := Lib.hid hS; clear hS
 refine rg_run (wanted_plain rfl) ?_
 go_simp
 refine (Compare_int_spec' x y _).mono ?_
 rintro e wr3 ⟨rfl, hbr3, hd3⟩
 have hS : Since W wr3 := bT (w := W) HSrg.out hbr3
 clear HSrg
 refine hK.out _ _ hS (fun _ => ?_)
 clear hK K
 try simp only [pu]
 apply rg_p; exact Hops; exact rfl; exact hS; exact rfl
 · intro _ hqc; go_simp; try rfl
 try simp only [pu]
 refine rg_done ?_
 refine HQrg.down _ _ ?_
 have hB : Below W.heap.size W wr3 := hS
 clear hS HQrg Hops
 have D3 := Lib.hid (dT (dT (dT (dD Dw.out) hd1) hd2) hd3)
 go_wp2_with fail
 go_ret
 exact ⟨rfl, bT Bw hB, D3.out⟩
end Go.Proofs.YtfdbidagdjnipaaGreatDoor
namespace Go.Proofs.YtfdbidagdjnipaaGreatDoor
open Go.RowKit Go.Sort

theorem belowD_grow {w w' : World} (h : BelowD w w') : ∃ q os', w' = grow (w.drewN q) os' := by
 obtain ⟨hb, hd⟩ := h
 refine ⟨w'.drawn - w.drawn, w'.heap.extract w.heap.size w'.heap.size, ?_⟩
 have hh : w'.heap = w.heap ++ w'.heap.extract w.heap.size w'.heap.size := by
  apply Array.ext
  · have := hb.size; simp; omega
  ·
   intro i h1 h2
   by_cases hi : i < w.heap.size
   ·
    rw [Array.getElem_append_left hi]
    have := hb.block i hi
    rw [Array.getElem?_eq_getElem h1, Array.getElem?_eq_getElem hi] at this
    injection this
   ·
    rw [Array.getElem_append_right (by omega), Array.getElem_extract]
    congr 1
    omega
 have h1 := hb.os; have h2 := hb.tape; have h3 := hb.output
 cases w; cases w'
 simp only [grow, World.drewN, World.mk.injEq] at *
 exact ⟨hh, h2, by omega, h1, h3⟩

section
variable {α : Type} [Inhabited α] (enc : α → List Value) (k : Nat) (w : World)
theorem sort_heap (blk off m : Nat) (dk : Array α) (os : Array Obj) : (sortWorldK enc k w blk off m dk os).heap = w.heap.modify blk (onCells (putCells id off (flatK enc k dk))) ++ os := rfl
theorem sort_grown (blk off m : Nat) (dk : Array α) (os : Array Obj) : w.grownBy (sortWorldK enc k w blk off m dk os) (some blk) := by
 refine ⟨rfl, rfl, rfl, ?_, fun i hi hne => ?_⟩
 · rw [sort_heap]; simp
 ·
  have hne' : blk ≠ i := fun e => hne (by rw [e])
  rw [sort_heap, Array.getElem?_append_left (by simpa using hi), Array.getElem?_modify, if_neg hne']
end

theorem ltOf_cmp {α : Type} (f : α → Int) (x y : α) : ltOf (fun x y => cmpI (f x) (f y)) x y = decide (f x < f y) := by
 unfold ltOf cmpI
 by_cases h : f x < f y
 · simp [h]
 · by_cases h' : f y < f x <;> simp [h, h']
theorem swo_cmp {α : Type} (f : α → Int) : SWO (ltOf (fun x y : α => cmpI (f x) (f y))) where
 irrefl x := by rw [ltOf_cmp]; simp
 trans x y z h1 h2 := by rw [ltOf_cmp] at *; simp at *; omega
 ntrans x y z h1 h2 := by rw [ltOf_cmp] at *; simp at *; omega

def RetSorted (w : World) (base : Nat) (v : Value) (sl : List PSg) (e : Ending) (w' : World) : Prop :=
 e = .returned (.tuple #[]) ∧ ∃ sl' : List PSg, sl'.Perm sl ∧ (∀ i j (hij : i < j) (hj : j < sl'.length), westS (sl'[i]'(by omega)) ≤ westS sl'[j]) ∧ Own w' base 142 2 psgC v sl' ∧ (∀ s ∈ sl', SgOk w' s) ∧ w.grownBy w' v.ownBlock

theorem isAgg_seg : ∀ w, (isAgg 142).run Tryz.prog w = .ok true w := fun _ => by kernel_rfl
theorem sizeOf_seg : ∀ w, (Go.sizeOf 142).run Tryz.prog w = .ok 2 w := fun _ => by kernel_rfl

theorem flatK_list {α : Type} [Inhabited α] (enc : α → List Value) (k : Nat) (hk : ∀ x, (enc x).length = k) (d : Array α) (j : Nat) (hj : j < d.size * k) :
  (flatK enc k d)[j]! = (d.toList.flatMap enc)[j]! := by
 rw [get_flatK _ _ _ _ hj]
 have hk0 : 0 < k := by
  rcases Nat.eq_zero_or_pos k with h | h
  · subst h; simp at hj
  · exact h
 have h1 : j / k < d.size := Nat.div_lt_of_lt_mul (by rw [Nat.mul_comm]; exact hj)
 have h2 : j % k < k := Nat.mod_lt _ hk0
 have e := flat_get enc k hk d.toList (j / k) (j % k) (by simpa using h1) h2
 rw [Nat.div_add_mod'] at e
 rw [List.getElem!_eq_getElem?_getD, List.getElem!_eq_getElem?_getD, e]
 congr 2
 rw [getElem!_pos d _ h1]
 simp

theorem Sort_seg_spec (base : Nat) (v : Value) (sl : List PSg) (w : World) (hown : Own w base 142 2 psgC v sl) (hok : ∀ s ∈ sl, SgOk w s) (hn : sl.length ≤ 4294967296) :
  Calls Tryz.prog 87 #[v, .func (.func 88) #[] #[]] w (RetSorted w base v sl) := by
 rcases sl with _ | ⟨s0, rest⟩
 ·
  have hv : ∃ p cap, v = .slice p 0 cap := by
   rcases hown.2 with ⟨h, _⟩ | ⟨g, cap, cur, h, _⟩
   · exact ⟨_, _, h⟩
   · exact ⟨_, _, h⟩
  obtain ⟨p, cap, rfl⟩ := hv
  refine Calls.mono (AnyF.slices_SortFunc_none Tryz.sortSeg p cap (.func (.func 88) #[] #[]) w) ?_
  rintro e w' ⟨rfl, rfl⟩
  exact ⟨rfl, [], List.Perm.refl _, fun i j _ hj => by simp at hj, hown, (fun s hs => by cases hs), World.grownBy.refl _ _⟩
 generalize hsl : s0 :: rest = sl at *
 have hs0 : s0 ∈ sl := by rw [← hsl]; simp
 have hpos : 0 < sl.length := by rw [← hsl]; simp
 obtain ⟨hlen, hown2⟩ := hown
 rcases hown2 with ⟨_, h0⟩ | ⟨g, cap, cur, rfl, hg, hh, hnc, hcm, hcs, hx⟩
 · omega
 haveI hI : Inhabited {s : PSg // SgOk w s} := ⟨⟨s0, hok s0 hs0⟩⟩
 have hdl : ∃ dl : List {s : PSg // SgOk w s}, dl.map (·.1) = sl := ⟨sl.attachWith (SgOk w) hok, by simp⟩
 obtain ⟨dl, hdl⟩ := hdl
 have hdn : dl.length = sl.length := by rw [← hdl]; simp
 have hfm : dl.flatMap (fun x => psgC x.1) = sl.flatMap psgC := by rw [← hdl, List.flatMap_map]
 have hrow : ∀ g', (some g : Option Nat) = some g' → ∃ cs, Blk w g' 142 cs := fun g' e => by injection e with e; subst e; exact ⟨cur, hh⟩
 have hcur : ∀ j, j < sl.length * 2 → cur[j]? = (sl.flatMap psgC)[j]? := fun j hj => by
  rw [← hx, List.getElem?_take, if_pos hj]; simp
 have eg : ∀ args w, (callFunc 88 args).run Tryz.prog w = .ok (.enter 88 args) w := enters_of Tryz.func88 (by kernel_rfl) rfl
 have hkk : ∀ x : {s : PSg // SgOk w s}, (psgC x.1).length = 2 := fun _ => rfl
 have hcmp : CmpLays Tryz.prog 88 #[] (fun x : {s : PSg // SgOk w s} => psgC x.1) 2 (fun x y => cmpI (westS x.1) (westS y.1)) g 0 dl.toArray.size w := fun m os dk hdk x y => by
  have hg' := sort_grown (fun x : {s : PSg // SgOk w s} => psgC x.1) 2 w g 0 m dk os
  have hx := x.2.grow hg' hrow (by decide) (by decide)
  have hy := y.2.grow hg' hrow (by decide) (by decide)
  exact (cmpSeg_spec x.1 y.1 _ hx hy).mono fun e w' h => ⟨h.1, belowD_grow h.2⟩
 have hsz : dl.toArray.size * 2 = sl.length * 2 := by simp [hdn]
 have hH : HoldsK (fun x : {s : PSg // SgOk w s} => psgC x.1) 2 w g 0 dl.toArray := fun j hj => by
  rw [size_flatK, hsz] at hj
  refine ⟨?_, Blk.frozen (t := 142) (cs := cur) hh _⟩
  rw [cell_of_row w g _ cur 142 (0, 0) hh, Nat.zero_add, hcur j hj, flatK_list _ 2 hkk _ j (by rw [hsz]; exact hj)]
  simp only [id]
  rw [hfm, List.getElem!_eq_getElem?_getD]
  have : j < (sl.flatMap psgC).length := by rw [hlen]; exact hj
  rw [List.getElem?_eq_getElem this]; rfl
 have hcon := AnyQ.slices_SortFunc Tryz.sortSeg 2 isAgg_seg sizeOf_seg (fun x : {s : PSg // SgOk w s} => psgC x.1) hkk (fun x => psgC_one x.1) (fun x y => cmpI (westS x.1) (westS y.1)) (swo_cmp fun x : {s : PSg // SgOk w s} => westS x.1) 88 #[] g 0 cap dl.toArray w eg hcmp hH (Blk.lt hh) (by simp; omega)
 have hns : dl.toArray.size = sl.length := by simp [hdn]
 rw [hns] at hcon
 refine Calls.mono hcon ?_
 rintro e w' ⟨rfl, d', n, os, hp, hs, rfl⟩
 obtain ⟨p1, -, p3⟩ := hp
 have hd' : d'.size = sl.length := by rw [p1, hns]
 have hperm : d'.toList.Perm dl := by
  have e1 : d'.extract 0 sl.length = d' := by rw [← hd']; simp
  have e2 : dl.toArray.extract 0 sl.length = dl.toArray := by rw [← hns]; simp
  rw [e1, e2] at p3
  simpa using p3
 have hg' := sort_grown (fun x : {s : PSg // SgOk w s} => psgC x.1) 2 w g 0 n d' os
 refine ⟨rfl, d'.toList.map (·.1), by rw [← hdl]; exact hperm.map _, ?_, ?_, ?_, hg'⟩
 ·
  intro i j hij hj
  have hj' : j < d'.size := by simpa using hj
  have := hs i j (Nat.zero_le _) hij (by rw [← hd']; exact hj')
  rw [ltOf_cmp (fun x : {s : PSg // SgOk w s} => westS x.1), decide_eq_false_iff_not, getElem!_pos d' j hj', getElem!_pos d' i (by omega)] at this
  simp only [List.getElem_map, Array.getElem_toList]
  omega
 ·
  have hl' : (d'.toList.map (·.1)).length = sl.length := by simp [hd']
  unfold Own
  rw [hl']
  have hfd : (d'.toList.map (·.1)).flatMap psgC = d'.toList.flatMap (fun x => psgC x.1) := by rw [List.flatMap_map]
  have hln : ((d'.toList.map (·.1)).flatMap psgC).length = sl.length * 2 := by rw [flat_length psgC 2 psgC_len, hl']
  refine ⟨hln, .inr ⟨g, cap, putCells id 0 (flatK (fun x : {s : PSg // SgOk w s} => psgC x.1) 2 d') cur, rfl, hg, ?_, hnc, hcm, by simp [putCells, hcs], ?_⟩⟩
  ·
   have hgl : g < w.heap.size := Blk.lt hh
   rw [sort_heap, Array.getElem?_append_left (by simpa using hgl), Array.getElem?_modify, if_pos rfl, hh]
   rfl
  ·
   apply List.ext_getElem?
   intro j
   rw [List.getElem?_take]
   by_cases hj : j < sl.length * 2
   ·
    rw [if_pos hj, hfd]
    have hjc : j < cur.size := by rw [hcs]; have := Nat.mul_le_mul_right 2 hnc; omega
    have hjd : j < d'.size * 2 := by rw [hd']; exact hj
    have e1 : (putCells id 0 (flatK (fun x : {s : PSg // SgOk w s} => psgC x.1) 2 d') cur).toList[j]? = some (flatK (fun x : {s : PSg // SgOk w s} => psgC x.1) 2 d')[j]! := by
     simp [putCells, hjc, hjd]
    rw [e1, flatK_list _ 2 hkk _ j hjd, List.getElem!_eq_getElem?_getD]
    have : j < (d'.toList.flatMap fun x => psgC x.1).length := by rw [← hfd, hln]; exact hj
    rw [List.getElem?_eq_getElem this]; rfl
   · rw [if_neg hj, List.getElem?_eq_none (by rw [hln]; omega)]
 ·
  intro s hs
  obtain ⟨x, -, rfl⟩ := List.mem_map.1 hs
  exact x.2.grow hg' hrow (by decide) (by decide)
end Go.Proofs.YtfdbidagdjnipaaGreatDoor
namespace Go.Proofs.YtfdbidagdjnipaaGreatDoor
open Go.RowKit Go.Sort

def orS (l : List Int) : Int := (l.find? (fun x => decide (x ≠ 0))).getD 0

set_option maxRecDepth 100000 in
set_option maxHeartbeats 1000000 in
theorem Or_spec (v : Value) (l : List Int) (w : World) (h : Ints w v l) (hs : l.length ≤ 1000) : Calls Tryz.prog 67 #[v] w fun e w' => e = .returned (.int .i64 (orS l)) ∧ w = w' := by
 obtain ⟨A, c, rfl, hn, hc, hR⟩ := h
 unfold maxLen at hc
 have HR := Lib.hid hR; clear hR
 obtain ⟨q, hq⟩ : ∃ q, orS l = q := ⟨_, rfl⟩
 rw [hq]
 have Hq := Lib.hid hq; clear hq
 go_enter Tryz.func67, Tryz.ntmps67
 go_wp2_with fail
 go_loopw [8] (fun u wr => ∃ k : Nat, k ≤ l.length ∧ u = .int .i64 k ∧ wr = w ∧ ∀ j (hj : j < l.length), j < k → l[j] = 0) (fun u _ => l.length - (intOf u).toNat)
 case atStart => exact ⟨0, Nat.zero_le _, rfl, rfl, fun _ _ h => by omega⟩
 case round =>
  obtain ⟨k, hk, rfl, rfl, hno⟩ := hrel
  have Hno := Lib.hid hno
  clear hno
  by_cases hlt : k < l.length
  ·
   obtain ⟨b, o, rfl, hlb, c0⟩ := HR.out.int hlt
   by_cases hz : l[k] = 0
   ·
    have hz' : (l[k] != 0) = false := by simp [hz]
    have Hz := Lib.hid hz; clear hz
    go_wp2_with fail
    go_roundw
    case rel => exact ⟨k + 1, by omega, by go_num, trivial, fun j hj hjk => if e : j < k then Hno.out j hj e else by
      have : j = k := by omega
      subst this; exact Hz.out⟩
    case measure => simp [intOf]; omega
   ·
    have hz' : (l[k] != 0) = true := by simp [hz]
    have hf := find_hit l (fun x => decide (x ≠ 0)) k hlt (fun j hj hjk => by simp [Hno.out j hj hjk]) (by simp [hz])
    have Hf := Lib.hid hf
    clear hz hf
    go_wp2_with fail
    go_ret
    exact ⟨ret_int (by rw [← Hq.out, orS, Hf.out]; rfl), rfl⟩
  ·
   have hf := find_miss l (fun x => decide (x ≠ 0)) (fun j hj => by simp [Hno.out j hj (by omega)])
   have Hf := Lib.hid hf
   clear hf
   go_wp2_with fail
   go_ret
   exact ⟨ret_int (by rw [← Hq.out, orS, Hf.out]; rfl), rfl⟩

theorem Or_spec' (v : Value) (l : List Int) (w : World) (h : Ints w v l) (hs : l.length ≤ 1000) : Calls Tryz.prog 67 #[v] w fun e w' => e = .returned (.int .i64 (orS l)) ∧ BelowD w w' :=
 (Or_spec v l w h hs).mono fun e w' h => ⟨h.1, by rw [← h.2]; exact ⟨bR w, dR w⟩⟩
def cmpCr (a b : Cr) : Int := orS [cmpI a.pos b.pos, cmpI a.arc b.arc, cmpI a.out b.out]
theorem Ints.lit3 {w : World} {g : Nat} {t : TypeId} {a b c : Int} (h : Blk w g t #[.int .i64 a, .int .i64 b, .int .i64 c]) : Ints w (.slice (some ⟨g, 0, none⟩) 3 3) [a, b, c] :=
 Sl.lit (n := 3) h rfl (le_maxLen (by omega))

set_option maxRecDepth 100000 in
set_option maxHeartbeats 1000000 in
theorem cmpCr_spec (a b : Cr) (w : World) :
  Calls Tryz.prog 66 #[crV a, crV b] w fun e w' => e = .returned (.int .i64 (cmpCr a b)) ∧ BelowD w w' := by
 unfold crV cmpCr
 go_enter Tryz.func66, Tryz.ntmps66
 go_upto_region 1 with fail
 obtain ⟨W, hW⟩ : ∃ W : World, W = (w.alloc (.cells #[.int .i64 a.pos, .int .i64 a.arc, .int .i64 a.out] 70)).alloc (.cells #[.int .i64 b.pos, .int .i64 b.arc, .int .i64 b.out] 70) := ⟨_, rfl⟩
 have Bw : Below w.heap.size w W := by rw [hW]; exact bA (bA (bR w) _) _
 have Dw := Lib.hid (show w.drawn ≤ W.drawn by rw [hW]; exact dA (dA (dR w) _) _)
 have X1 : Blk W w.heap.size 70 #[.int .i64 a.pos, .int .i64 a.arc, .int .i64 a.out] := by rw [hW]; exact (Blk.made rfl _ _).alloc _
 have X2 : Blk W (w.heap.size + 1) 70 #[.int .i64 b.pos, .int .i64 b.arc, .int .i64 b.out] := by rw [hW]; exact Blk.made (by simp) _ _
 rw [← hW]
 clear hW
 obtain ⟨X1l, X1a, X1b, X1c, -, -, -⟩ := X1.facts3
 obtain ⟨X2l, X2a, X2b, X2c, -, -, -⟩ := X2.facts3
 refine rg_start (Since W) (.run 4 0 0 (.run 4 5 15 (.run 4 10 495 (.call 4 15871 (.call 9 16383 (.call 14 32767 (.call 15 65535 (.call 16 131071 (.take 17 262143 (.done)))))))))) (by kernel_rfl) (bD (bR _)) (by kernel_rfl) (by kernel_rfl) (Nat.le_of_ble_eq_true (by kernel_rfl)) ?_
 intro opsR QR Hops HQrg hS
 iterate 12
  apply rg_p; exact Hops; exact rfl; exact hS; exact rfl
  · intro _ hqc; go_simp; try rfl
  try simp only [pu]
 refine rg_call (i := 4) (get_of Hops rfl) (fun K hK => ?_)
 have HSrg := Lib.hid hS; clear hS
 refine rg_run (wanted_plain rfl) ?_
 go_simp
 refine (Compare_int_spec' _ _ _).mono ?_
 rintro e wr1 ⟨rfl, hbr1, hd1⟩
 have hS : Since W wr1 := bT (w := W) HSrg.out hbr1
 clear HSrg
 refine hK.out _ _ hS (fun _ => ?_)
 clear hK K
 try simp only [pu]
 refine rg_call (i := 9) (get_of Hops rfl) (fun K hK => ?_)
 have HSrg := Lib.hid hS; clear hS
 refine rg_run (wanted_plain rfl) ?_
 go_simp
 refine (Compare_int_spec' _ _ _).mono ?_
 rintro e wr2 ⟨rfl, hbr2, hd2⟩
 have hS : Since W wr2 := bT (w := W) HSrg.out hbr2
 clear HSrg
 refine hK.out _ _ hS (fun _ => ?_)
 clear hK K
 try simp only [pu]
 refine rg_call (i := 14) (get_of Hops rfl) (fun K hK => ?_)
 have HSrg := Lib.hid hS; clear hS
 refine rg_run (wanted_plain rfl) ?_
 go_simp
 refine (Compare_int_spec' _ _ _).mono ?_
 rintro e wr3 ⟨rfl, hbr3, hd3⟩
 have hS : Since W wr3 := bT (w := W) HSrg.out hbr3
 clear HSrg
 refine hK.out _ _ hS (fun _ => ?_)
 clear hK K
 try simp only [pu]
 refine rg_call (i := 15) (get_of Hops rfl) (fun K hK => ?_)
 have HSrg := Lib.hid hS; clear hS
 refine rg_run (wanted_plain rfl) ?_
 go_simp
 refine hK.out _ _ (bA HSrg.out _) (fun hS => ?_)
 clear hK K HSrg
 try simp only [pu]
 refine rg_call (i := 16) (get_of Hops rfl) (fun K hK => ?_)
 have HSrg := Lib.hid hS; clear hS
 refine rg_run (wanted_plain rfl) ?_
 go_simp
 refine (Or_spec' _ [cmpI a.pos b.pos, cmpI a.arc b.arc, cmpI a.out b.out] _ (Ints.lit3 (Blk.made rfl _ _)) (by simp)).mono ?_
 rintro e wr4 ⟨rfl, hbr4, hd4⟩
 have hS : Since W wr4 := bT (w := W) HSrg.out hbr4
 clear HSrg
 refine hK.out _ _ hS (fun _ => ?_)
 clear hK K
 try simp only [pu]
 apply rg_p; exact Hops; exact rfl; exact hS; exact rfl
 · intro _ hqc; go_simp; try rfl
 try simp only [pu]
 refine rg_done ?_
 refine HQrg.down _ _ ?_
 have hB : Below W.heap.size W wr4 := hS
 clear hS HQrg Hops
 have D4 := Lib.hid (dT (dT (dT (dT (dD Dw.out) hd1) hd2) hd3) hd4)
 go_wp2_with fail
 go_ret
 exact ⟨rfl, bT Bw hB, D4.out⟩

theorem lt_cmpCr (a b : Cr) : ltOf cmpCr a b = crLt a b := by
 unfold ltOf cmpCr orS crLt cmpI
 simp only [List.find?]
 by_cases h1 : a.pos = b.pos
 ·
  have e1 : ¬ a.pos < b.pos := by omega
  have e2 : ¬ b.pos < a.pos := by omega
  rw [if_neg e1, if_neg e2, if_pos h1]
  by_cases h2 : a.arc = b.arc
  ·
   have f1 : ¬ a.arc < b.arc := by omega
   have f2 : ¬ b.arc < a.arc := by omega
   rw [if_neg f1, if_neg f2, if_pos h2]
   by_cases h3 : a.out < b.out
   · simp [h3]
   ·
    by_cases h4 : b.out < a.out
    · simp [h3, h4]
    · simp [h3, h4]
  ·
   rw [if_neg h2]
   by_cases h3 : a.arc < b.arc
   · simp [h3]
   ·
    have h4 : b.arc < a.arc := by omega
    simp [h3, h4]
 ·
  rw [if_neg h1]
  by_cases h3 : a.pos < b.pos
  · simp [h3]
  ·
   have h4 : b.pos < a.pos := by omega
   simp [h3, h4]
theorem swo_cr : SWO (ltOf cmpCr) where
 irrefl x := by rw [lt_cmpCr]; exact crLt_irrefl x
 trans x y z h1 h2 := by
  rw [lt_cmpCr] at *
  cases h : crLt x z
  ·
   have h3 : leCr y z := (leCr_iff y z).2 (crLt_asymm h2)
   have h4 : leCr z x := (leCr_iff z x).2 h
   have h5 := (leCr_iff y x).1 (leCr_trans h3 h4)
   rw [h1] at h5; cases h5
  · rfl
 ntrans x y z h1 h2 := by
  rw [lt_cmpCr] at *
  exact (leCr_iff z x).1 (leCr_trans ((leCr_iff z y).2 h2) ((leCr_iff y x).2 h1))

def RetSortCr (w : World) (base : Nat) (v : Value) (sl : List Cr) (e : Ending) (w' : World) : Prop :=
 e = .returned (.tuple #[]) ∧ Own w' base 70 3 crC v (sortCr sl) ∧ w.grownBy w' v.ownBlock
theorem isAgg_cr : ∀ w, (isAgg 70).run Tryz.prog w = .ok true w := fun _ => by kernel_rfl
theorem sizeOf_cr : ∀ w, (Go.sizeOf 70).run Tryz.prog w = .ok 3 w := fun _ => by kernel_rfl

set_option maxHeartbeats 1000000 in
theorem Sort_cr_spec (base : Nat) (v : Value) (sl : List Cr) (w : World) (hown : Own w base 70 3 crC v sl) (hn : sl.length ≤ 4294967296) :
  Calls Tryz.prog 65 #[v, .func (.func 66) #[] #[]] w (RetSortCr w base v sl) := by
 rcases sl with _ | ⟨s0, rest⟩
 ·
  have hv : ∃ p cap, v = .slice p 0 cap := by
   rcases hown.2 with ⟨h, _⟩ | ⟨g, cap, cur, h, _⟩
   · exact ⟨_, _, h⟩
   · exact ⟨_, _, h⟩
  obtain ⟨p, cap, rfl⟩ := hv
  refine Calls.mono (AnyF.slices_SortFunc_none Tryz.sortCr p cap (.func (.func 66) #[] #[]) w) ?_
  rintro e w' ⟨rfl, rfl⟩
  exact ⟨rfl, hown, World.grownBy.refl _ _⟩
 generalize hsl : s0 :: rest = sl at *
 have hpos : 0 < sl.length := by rw [← hsl]; simp
 obtain ⟨hlen, hown2⟩ := hown
 rcases hown2 with ⟨_, h0⟩ | ⟨g, cap, cur, rfl, hg, hh, hnc, hcm, hcs, hx⟩
 · omega
 have hcur : ∀ j, j < sl.length * 3 → cur[j]? = (sl.flatMap crC)[j]? := fun j hj => by
  rw [← hx, List.getElem?_take, if_pos hj]; simp
 have eg : ∀ args w, (callFunc 66 args).run Tryz.prog w = .ok (.enter 66 args) w := enters_of Tryz.func66 (by kernel_rfl) rfl
 have hkk : ∀ x : Cr, (crC x).length = 3 := fun _ => rfl
 have hcmp : CmpLays Tryz.prog 66 #[] crC 3 cmpCr g 0 sl.toArray.size w := fun m os dk hdk x y => by
  exact (cmpCr_spec x y _).mono fun e w' h => ⟨h.1, belowD_grow h.2⟩
 have hsz : sl.toArray.size * 3 = sl.length * 3 := by simp
 have hH : HoldsK crC 3 w g 0 sl.toArray := fun j hj => by
  rw [size_flatK, hsz] at hj
  refine ⟨?_, Blk.frozen (t := 70) (cs := cur) hh _⟩
  rw [cell_of_row w g _ cur 70 (0, 0) hh, Nat.zero_add, hcur j hj, flatK_list _ 3 hkk _ j (by rw [hsz]; exact hj)]
  simp only [id]
  rw [List.getElem!_eq_getElem?_getD]
  have : j < (sl.flatMap crC).length := by rw [hlen]; exact hj
  rw [List.getElem?_eq_getElem this]; rfl
 have hcon := AnyQ.slices_SortFunc Tryz.sortCr 3 isAgg_cr sizeOf_cr crC hkk crC_one cmpCr swo_cr 66 #[] g 0 cap sl.toArray w eg hcmp hH (Blk.lt hh) (by simp; omega)
 have hns : sl.toArray.size = sl.length := by simp
 rw [hns] at hcon
 refine Calls.mono hcon ?_
 rintro e w' ⟨rfl, d', n, os, hp, hs, rfl⟩
 obtain ⟨p1, -, p3⟩ := hp
 have hd' : d'.size = sl.length := by rw [p1, hns]
 have hperm : d'.toList.Perm sl := by
  have e1 : d'.extract 0 sl.length = d' := by rw [← hd']; simp
  have e2 : sl.toArray.extract 0 sl.length = sl.toArray := by rw [← hns]; simp
  rw [e1, e2] at p3
  simpa using p3
 have hsorted : SortedCr d'.toList := by
  unfold SortedCr
  rw [List.pairwise_iff_getElem]
  intro i j hi hj hij
  have hj' : j < d'.size := by simpa using hj
  have := hs i j (Nat.zero_le _) hij (by rw [← hd']; exact hj')
  rw [lt_cmpCr, getElem!_pos d' j hj', getElem!_pos d' i (by omega)] at this
  rw [leCr_iff]
  simpa using this
 have hd2 : d'.toList = sortCr sl := sortCr_of hperm hsorted
 have hg' := sort_grown crC 3 w g 0 n d' os
 refine ⟨rfl, ?_, hg'⟩
 rw [← hd2]
 have hl' : d'.toList.length = sl.length := by simp [hd']
 unfold Own
 rw [hl']
 have hln : (d'.toList.flatMap crC).length = sl.length * 3 := by rw [flat_length crC 3 crC_len, hl']
 refine ⟨hln, .inr ⟨g, cap, putCells id 0 (flatK crC 3 d') cur, rfl, hg, ?_, hnc, hcm, by simp [putCells, hcs], ?_⟩⟩
 ·
  have hgl : g < w.heap.size := Blk.lt hh
  rw [sort_heap, Array.getElem?_append_left (by simpa using hgl), Array.getElem?_modify, if_pos rfl, hh]
  rfl
 ·
  apply List.ext_getElem?
  intro j
  rw [List.getElem?_take]
  by_cases hj : j < sl.length * 3
  ·
   rw [if_pos hj]
   have hjc : j < cur.size := by rw [hcs]; have := Nat.mul_le_mul_right 3 hnc; omega
   have hjd : j < d'.size * 3 := by rw [hd']; exact hj
   have e1 : (putCells id 0 (flatK crC 3 d') cur).toList[j]? = some (flatK crC 3 d')[j]! := by
    simp [putCells, hjc, hjd]
   rw [e1, flatK_list _ 3 hkk _ j hjd, List.getElem!_eq_getElem?_getD]
   have : j < (d'.toList.flatMap crC).length := by rw [hln]; exact hj
   rw [List.getElem?_eq_getElem this]; rfl
  · rw [if_neg hj, List.getElem?_eq_none (by rw [hln]; omega)]

set_option maxHeartbeats 1000000 in
theorem order_spec (base : Nat) (v : Value) (sl : List Cr) (w : World) (hown : Own w base 70 3 crC v sl) (hn : sl.length ≤ 4294967296) :
  Calls Tryz.prog 40 #[v] w (RetSortCr w base v sl) := by
 have HS := Lib.hid (Sort_cr_spec base v sl w hown hn)
 unfold RetSortCr at *
 clear hown
 go_enter Tryz.func40, Tryz.ntmps40
 go_wp2_with fail
 refine HS.out.mono ?_
 rintro e w' ⟨rfl, h1, h2⟩
 have H1 := Lib.hid h1; have H2 := Lib.hid h2
 clear h1 h2
 go_wp2_with fail
 refine bodyPost_end (v := .tuple #[]) (results_none rfl _ _ _) rfl ⟨rfl, H1.out, H2.out⟩
end Go.Proofs.YtfdbidagdjnipaaGreatDoor
