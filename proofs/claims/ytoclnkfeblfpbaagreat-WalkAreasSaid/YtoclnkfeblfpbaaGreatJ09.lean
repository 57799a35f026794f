/- cmp.Compare at ints. The comparison of plan.planar. slices.SortFunc at plan's segments. Sorting ints: words. Plain law: the order of directions around a point. No walk here. -/
import Derived.Test.YtoclnkfeblfpbaaGreatGB
import Derived.Test.YtoclnkfeblfpbaaGreatJ08
import Derived.Shelf.SlSortCmp.NoneTotal
import Derived.Test.YtoclnkfeblfpbaaGreatLaySort
import Derived.Test.YtoclnkfeblfpbaaGreatJ06
import Derived.Test.YtoclnkfeblfpbaaGreatJ05
set_option linter.unusedSimpArgs false
set_option linter.unusedVariables false
namespace Go.Proofs.YtoclnkfeblfpbaaGreat
open Go.RowKit

set_option maxHeartbeats 400000 in
theorem isNaN_int_spec (x : Int) (w : World) : Calls Tryz.prog 125 #[.int .i64 x] w fun e w' => e = .returned (.bool false) ∧ w = w' := by
 have hx : (x != x) = false := by simp
 go_enter Tryz.func125, Tryz.ntmps125
 go_wp2_with fail
 go_ret
 exact ⟨by simp, rfl⟩

def cmpI (x y : Int) : Int := if x < y then -1 else if y < x then 1 else 0
set_option maxHeartbeats 400000 in
theorem Compare_int_spec (x y : Int) (w : World) : Calls Tryz.prog 85 #[.int .i64 x, .int .i64 y] w fun e w' => e = .returned (.int .i64 (cmpI x y)) ∧ w = w' := by
 have HN := Lib.hid (fun (z : Int) (W : World) => isNaN_int_spec z W)
 obtain ⟨q, hq⟩ : ∃ q, cmpI x y = q := ⟨_, rfl⟩
 rw [hq]
 have Hq := Lib.hid hq; clear hq
 go_enter Tryz.func85, Tryz.ntmps85
 go_wp2_with fail
 refine (HN.out _ _).mono ?_
 rintro e w' ⟨rfl, rfl⟩
 go_wp2_with fail
 refine (HN.out _ _).mono ?_
 rintro e w' ⟨rfl, rfl⟩
 go_wp2_with fail
 all_goals
  go_ret
  refine ⟨ret_int ?_, rfl⟩
  rw [← Hq.out]
  unfold cmpI
  first | rw [if_pos (by assumption)] | (rw [if_neg (by assumption), if_pos (by assumption)]) | (rw [if_neg (by assumption), if_neg (by assumption)]) | (split <;> (try split) <;> omega)

end Go.Proofs.YtoclnkfeblfpbaaGreat
namespace Go.Proofs.YtoclnkfeblfpbaaGreat
open Go.RowKit

theorem Compare_int_spec' (x y : Int) (w : World) : Calls Tryz.prog 85 #[.int .i64 x, .int .i64 y] w fun e w' => e = .returned (.int .i64 (cmpI x y)) ∧ BelowD w w' :=
 (Compare_int_spec x y w).mono fun e w' h => ⟨h.1, by rw [← h.2]; exact ⟨bR w, dR w⟩⟩

set_option maxRecDepth 100000 in
set_option maxHeartbeats 1000000 in
theorem cmpSeg_spec (s t : PSg) (w : World) (hs : SgOk w s) (ht : SgOk w t) :
  Calls Tryz.prog 84 #[psgV s, psgV t] w fun e w' => e = .returned (.int .i64 (cmpI (westS s) (westS t))) ∧ BelowD w w' := by
 have TS : ∀ W, Below w.heap.size w W → Calls Tryz.prog 86 #[psgV s] W _ := fun W hW => west_spec s W (hs.keep hW)
 have TT : ∀ W, Below w.heap.size w W → Calls Tryz.prog 86 #[psgV t] W _ := fun W hW => west_spec t W (ht.keep hW)
 unfold psgV at TS TT ⊢
 have HS := Lib.hid TS; have HT := Lib.hid TT
 clear TS TT hs ht
 generalize westS s = x at *
 generalize westS t = y at *
 generalize s.k = k at *
 generalize t.k = m at *
 generalize s.ln.g = g at *
 generalize t.ln.g = h at *
 go_enter Tryz.func84, Tryz.ntmps84
 go_upto_region 1 with fail
 obtain ⟨W, hW⟩ : ∃ W : World, W = (w.alloc (.cells #[.pointer (some ⟨g, 0, none⟩), .int .i64 k] 103)).alloc (.cells #[.pointer (some ⟨h, 0, none⟩), .int .i64 m] 103) := ⟨_, rfl⟩
 have Bw : Below w.heap.size w W := by rw [hW]; exact bA (bA (bR w) _) _
 have Dw := Lib.hid (show w.drawn ≤ W.drawn by rw [hW]; exact dA (dA (dR w) _) _)
 have X1 : Blk W w.heap.size 103 #[.pointer (some ⟨g, 0, none⟩), .int .i64 k] := by rw [hW]; exact (Blk.made rfl _ _).alloc _
 have X2 : Blk W (w.heap.size + 1) 103 #[.pointer (some ⟨h, 0, none⟩), .int .i64 m] := by rw [hW]; exact Blk.made (by simp) _ _
 rw [← hW]
 clear hW
 obtain ⟨X1l, X1a, X1b, -, -⟩ := X1.facts2
 obtain ⟨X2l, X2a, X2b, -, -⟩ := X2.facts2
 refine rg_start (Since W) (.take 0 1 (.take 2 5 (.call 1 7 (.call 3 15 (.call 4 31 (.take 5 63 (.done))))))) (by kernel_rfl) (bD (bR _)) (by kernel_rfl) (by kernel_rfl) (Nat.le_of_ble_eq_true (by kernel_rfl)) ?_
 intro opsR QR Hops HQrg hS
 iterate 2
  apply rg_p; exact Hops; exact rfl; exact hS; exact rfl
  · intro _ hqc; go_simp; try rfl
  try simp only [pu]
 refine rg_call (i := 1) (get_of Hops rfl) (fun K hK => ?_)
 have HSrg := Lib.hid hS; clear hS
 refine rg_run (wanted_plain rfl) ?_
 go_simp
 refine (HS.out _ (bT Bw HSrg.out)).mono ?_
 rintro e wr1 ⟨rfl, hbr1, hd1⟩
 have hS : Since W wr1 := bT (w := W) HSrg.out hbr1
 clear HSrg
 refine hK.out _ _ hS (fun _ => ?_)
 clear hK K
 try simp only [pu]
 refine rg_call (i := 3) (get_of Hops rfl) (fun K hK => ?_)
 have HSrg := Lib.hid hS; clear hS
 refine rg_run (wanted_plain rfl) ?_
 go_simp
 refine (HT.out _ (bT Bw HSrg.out)).mono ?_
 rintro e wr2 ⟨rfl, hbr2, hd2⟩
 have hS : Since W wr2 := bT (w := W) HSrg.out hbr2
 clear HSrg
 refine hK.out _ _ hS (fun _ => ?_)
 clear hK K
 try simp only [pu]
 refine rg_call (i := 4) (get_of Hops rfl) (fun K hK => ?_)
 have HSrg := Lib.hid hS; clear hS
 refine rg_run (wanted_plain rfl) ?_
 go_simp
 refine (Compare_int_spec' x y _).mono ?_
 rintro e wr3 ⟨rfl, hbr3, hd3⟩
 have hS : Since W wr3 := bT (w := W) HSrg.out hbr3
 clear HSrg
 refine hK.out _ _ hS (fun _ => ?_)
 clear hK K
 try simp only [pu]
 apply rg_p; exact Hops; exact rfl; exact hS; exact rfl
 · intro _ hqc; go_simp; try rfl
 try simp only [pu]
 refine rg_done ?_
 refine HQrg.down _ _ ?_
 have hB : Below W.heap.size W wr3 := hS
 clear hS HQrg Hops
 have D3 := Lib.hid (dT (dT (dT (dD Dw.out) hd1) hd2) hd3)
 go_wp2_with fail
 go_ret
 exact ⟨rfl, bT Bw hB, D3.out⟩
end Go.Proofs.YtoclnkfeblfpbaaGreat
namespace Go.Proofs.YtoclnkfeblfpbaaGreat
open Go.RowKit Go.Sort

theorem belowD_grow {w w' : World} (h : BelowD w w') : ∃ q os', w' = grow (w.drewN q) os' := by
 obtain ⟨hb, hd⟩ := h
 refine ⟨w'.drawn - w.drawn, w'.heap.extract w.heap.size w'.heap.size, ?_⟩
 have hh : w'.heap = w.heap ++ w'.heap.extract w.heap.size w'.heap.size := by
  apply Array.ext
  · have := hb.size; simp; omega
  ·
   intro i h1 h2
   by_cases hi : i < w.heap.size
   ·
    rw [Array.getElem_append_left hi]
    have := hb.block i hi
    rw [Array.getElem?_eq_getElem h1, Array.getElem?_eq_getElem hi] at this
    injection this
   ·
    rw [Array.getElem_append_right (by omega), Array.getElem_extract]
    congr 1
    omega
 have h1 := hb.os; have h2 := hb.tape; have h3 := hb.output
 cases w; cases w'
 simp only [grow, World.drewN, World.mk.injEq] at *
 exact ⟨hh, h2, by omega, h1, h3⟩

section
variable {α : Type} [Inhabited α] (enc : α → List Value) (k : Nat) (w : World)
theorem sort_heap (blk off m : Nat) (dk : Array α) (os : Array Obj) : (sortWorldK enc k w blk off m dk os).heap = w.heap.modify blk (onCells (putCells id off (flatK enc k dk))) ++ os := rfl
theorem sort_grown (blk off m : Nat) (dk : Array α) (os : Array Obj) : w.grownBy (sortWorldK enc k w blk off m dk os) (some blk) := by
 refine ⟨rfl, rfl, rfl, ?_, fun i hi hne => ?_⟩
 · rw [sort_heap]; simp
 ·
  have hne' : blk ≠ i := fun e => hne (by rw [e])
  rw [sort_heap, Array.getElem?_append_left (by simpa using hi), Array.getElem?_modify, if_neg hne']
end

theorem ltOf_cmp {α : Type} (f : α → Int) (x y : α) : ltOf (fun x y => cmpI (f x) (f y)) x y = decide (f x < f y) := by
 unfold ltOf cmpI
 by_cases h : f x < f y
 · simp [h]
 · by_cases h' : f y < f x <;> simp [h, h']
theorem swo_cmp {α : Type} (f : α → Int) : SWO (ltOf (fun x y : α => cmpI (f x) (f y))) where
 irrefl x := by rw [ltOf_cmp]; simp
 trans x y z h1 h2 := by rw [ltOf_cmp] at *; simp at *; omega
 ntrans x y z h1 h2 := by rw [ltOf_cmp] at *; simp at *; omega

def RetSorted (w : World) (base : Nat) (v : Value) (sl : List PSg) (e : Ending) (w' : World) : Prop :=
 e = .returned (.tuple #[]) ∧ ∃ sl' : List PSg, sl'.Perm sl ∧ (∀ i j (hij : i < j) (hj : j < sl'.length), westS (sl'[i]'(by omega)) ≤ westS sl'[j]) ∧ Own w' base 103 2 psgC v sl' ∧ (∀ s ∈ sl', SgOk w' s) ∧ w.grownBy w' v.ownBlock

theorem isAgg_seg : ∀ w, (isAgg 103).run Tryz.prog w = .ok true w := fun _ => by kernel_rfl
theorem sizeOf_seg : ∀ w, (Go.sizeOf 103).run Tryz.prog w = .ok 2 w := fun _ => by kernel_rfl

theorem flatK_list {α : Type} [Inhabited α] (enc : α → List Value) (k : Nat) (hk : ∀ x, (enc x).length = k) (d : Array α) (j : Nat) (hj : j < d.size * k) :
  (flatK enc k d)[j]! = (d.toList.flatMap enc)[j]! := by
 rw [get_flatK _ _ _ _ hj]
 have hk0 : 0 < k := by
  rcases Nat.eq_zero_or_pos k with h | h
  · subst h; simp at hj
  · exact h
 have h1 : j / k < d.size := Nat.div_lt_of_lt_mul (by rw [Nat.mul_comm]; exact hj)
 have h2 : j % k < k := Nat.mod_lt _ hk0
 have e := flat_get enc k hk d.toList (j / k) (j % k) (by simpa using h1) h2
 rw [Nat.div_add_mod'] at e
 rw [List.getElem!_eq_getElem?_getD, List.getElem!_eq_getElem?_getD, e]
 congr 2
 rw [getElem!_pos d _ h1]
 simp

theorem Sort_seg_spec (base : Nat) (v : Value) (sl : List PSg) (w : World) (hown : Own w base 103 2 psgC v sl) (hok : ∀ s ∈ sl, SgOk w s) (hn : sl.length ≤ 4294967296) :
  Calls Tryz.prog 83 #[v, .func (.func 84) #[] #[]] w (RetSorted w base v sl) := by
 rcases sl with _ | ⟨s0, rest⟩
 ·
  have hv : ∃ p cap, v = .slice p 0 cap := by
   rcases hown.2 with ⟨h, _⟩ | ⟨g, cap, cur, h, _⟩
   · exact ⟨_, _, h⟩
   · exact ⟨_, _, h⟩
  obtain ⟨p, cap, rfl⟩ := hv
  refine Calls.mono (AnyF.slices_SortFunc_none Tryz.sortSeg p cap (.func (.func 84) #[] #[]) w) ?_
  rintro e w' ⟨rfl, rfl⟩
  exact ⟨rfl, [], List.Perm.refl _, fun i j _ hj => by simp at hj, hown, (fun s hs => by cases hs), World.grownBy.refl _ _⟩
 generalize hsl : s0 :: rest = sl at *
 have hs0 : s0 ∈ sl := by rw [← hsl]; simp
 have hpos : 0 < sl.length := by rw [← hsl]; simp
 obtain ⟨hlen, hown2⟩ := hown
 rcases hown2 with ⟨_, h0⟩ | ⟨g, cap, cur, rfl, hg, hh, hnc, hcm, hcs, hx⟩
 · omega
 haveI hI : Inhabited {s : PSg // SgOk w s} := ⟨⟨s0, hok s0 hs0⟩⟩
 have hdl : ∃ dl : List {s : PSg // SgOk w s}, dl.map (·.1) = sl := ⟨sl.attachWith (SgOk w) hok, by simp⟩
 obtain ⟨dl, hdl⟩ := hdl
 have hdn : dl.length = sl.length := by rw [← hdl]; simp
 have hfm : dl.flatMap (fun x => psgC x.1) = sl.flatMap psgC := by rw [← hdl, List.flatMap_map]
 have hrow : ∀ g', (some g : Option Nat) = some g' → ∃ cs, Blk w g' 103 cs := fun g' e => by injection e with e; subst e; exact ⟨cur, hh⟩
 have hcur : ∀ j, j < sl.length * 2 → cur[j]? = (sl.flatMap psgC)[j]? := fun j hj => by
  rw [← hx, List.getElem?_take, if_pos hj]; simp
 have eg : ∀ args w, (callFunc 84 args).run Tryz.prog w = .ok (.enter 84 args) w := enters_of Tryz.func84 (by kernel_rfl) rfl
 have hkk : ∀ x : {s : PSg // SgOk w s}, (psgC x.1).length = 2 := fun _ => rfl
 have hcmp : CmpLays Tryz.prog 84 #[] (fun x : {s : PSg // SgOk w s} => psgC x.1) 2 (fun x y => cmpI (westS x.1) (westS y.1)) g 0 dl.toArray.size w := fun m os dk hdk x y => by
  have hg' := sort_grown (fun x : {s : PSg // SgOk w s} => psgC x.1) 2 w g 0 m dk os
  have hx := x.2.grow hg' hrow (by decide) (by decide)
  have hy := y.2.grow hg' hrow (by decide) (by decide)
  exact (cmpSeg_spec x.1 y.1 _ hx hy).mono fun e w' h => ⟨h.1, belowD_grow h.2⟩
 have hsz : dl.toArray.size * 2 = sl.length * 2 := by simp [hdn]
 have hH : HoldsK (fun x : {s : PSg // SgOk w s} => psgC x.1) 2 w g 0 dl.toArray := fun j hj => by
  rw [size_flatK, hsz] at hj
  refine ⟨?_, Blk.frozen (t := 103) (cs := cur) hh _⟩
  rw [cell_of_row w g _ cur 103 (0, 0) hh, Nat.zero_add, hcur j hj, flatK_list _ 2 hkk _ j (by rw [hsz]; exact hj)]
  simp only [id]
  rw [hfm, List.getElem!_eq_getElem?_getD]
  have : j < (sl.flatMap psgC).length := by rw [hlen]; exact hj
  rw [List.getElem?_eq_getElem this]; rfl
 have hcon := AnyQ.slices_SortFunc Tryz.sortSeg 2 isAgg_seg sizeOf_seg (fun x : {s : PSg // SgOk w s} => psgC x.1) hkk (fun x => psgC_one x.1) (fun x y => cmpI (westS x.1) (westS y.1)) (swo_cmp fun x : {s : PSg // SgOk w s} => westS x.1) 84 #[] g 0 cap dl.toArray w eg hcmp hH (Blk.lt hh) (by simp; omega)
 have hns : dl.toArray.size = sl.length := by simp [hdn]
 rw [hns] at hcon
 refine Calls.mono hcon ?_
 rintro e w' ⟨rfl, d', n, os, hp, hs, rfl⟩
 obtain ⟨p1, -, p3⟩ := hp
 have hd' : d'.size = sl.length := by rw [p1, hns]
 have hperm : d'.toList.Perm dl := by
  have e1 : d'.extract 0 sl.length = d' := by rw [← hd']; simp
  have e2 : dl.toArray.extract 0 sl.length = dl.toArray := by rw [← hns]; simp
  rw [e1, e2] at p3
  simpa using p3
 have hg' := sort_grown (fun x : {s : PSg // SgOk w s} => psgC x.1) 2 w g 0 n d' os
 refine ⟨rfl, d'.toList.map (·.1), by rw [← hdl]; exact hperm.map _, ?_, ?_, ?_, hg'⟩
 ·
  intro i j hij hj
  have hj' : j < d'.size := by simpa using hj
  have := hs i j (Nat.zero_le _) hij (by rw [← hd']; exact hj')
  rw [ltOf_cmp (fun x : {s : PSg // SgOk w s} => westS x.1), decide_eq_false_iff_not, getElem!_pos d' j hj', getElem!_pos d' i (by omega)] at this
  simp only [List.getElem_map, Array.getElem_toList]
  omega
 ·
  have hl' : (d'.toList.map (·.1)).length = sl.length := by simp [hd']
  unfold Own
  rw [hl']
  have hfd : (d'.toList.map (·.1)).flatMap psgC = d'.toList.flatMap (fun x => psgC x.1) := by rw [List.flatMap_map]
  have hln : ((d'.toList.map (·.1)).flatMap psgC).length = sl.length * 2 := by rw [flat_length psgC 2 psgC_len, hl']
  refine ⟨hln, .inr ⟨g, cap, putCells id 0 (flatK (fun x : {s : PSg // SgOk w s} => psgC x.1) 2 d') cur, rfl, hg, ?_, hnc, hcm, by simp [putCells, hcs], ?_⟩⟩
  ·
   have hgl : g < w.heap.size := Blk.lt hh
   rw [sort_heap, Array.getElem?_append_left (by simpa using hgl), Array.getElem?_modify, if_pos rfl, hh]
   rfl
  ·
   apply List.ext_getElem?
   intro j
   rw [List.getElem?_take]
   by_cases hj : j < sl.length * 2
   ·
    rw [if_pos hj, hfd]
    have hjc : j < cur.size := by rw [hcs]; have := Nat.mul_le_mul_right 2 hnc; omega
    have hjd : j < d'.size * 2 := by rw [hd']; exact hj
    have e1 : (putCells id 0 (flatK (fun x : {s : PSg // SgOk w s} => psgC x.1) 2 d') cur).toList[j]? = some (flatK (fun x : {s : PSg // SgOk w s} => psgC x.1) 2 d')[j]! := by
     simp [putCells, hjc, hjd]
    rw [e1, flatK_list _ 2 hkk _ j hjd, List.getElem!_eq_getElem?_getD]
    have : j < (d'.toList.flatMap fun x => psgC x.1).length := by rw [← hfd, hln]; exact hj
    rw [List.getElem?_eq_getElem this]; rfl
   · rw [if_neg hj, List.getElem?_eq_none (by rw [hln]; omega)]
 ·
  intro s hs
  obtain ⟨x, -, rfl⟩ := List.mem_map.1 hs
  exact x.2.grow hg' hrow (by decide) (by decide)
end Go.Proofs.YtoclnkfeblfpbaaGreat
namespace Go.Proofs.YtoclnkfeblfpbaaGreat
open Go.RowKit

theorem flat_in (l : List Int) (j : Nat) : (l.flatMap inC)[j]? = (l[j]?).map (.int .i64 ·) := by
 induction l generalizing j with
 | nil => simp
 | cons a l ih =>
  rw [List.flatMap_cons]
  cases j with
  | zero => rfl
  | succ j =>
   show (.int .i64 a :: l.flatMap inC)[j + 1]? = _
   rw [List.getElem?_cons_succ, ih, List.getElem?_cons_succ]
theorem flat_in_len (l : List Int) : (l.flatMap inC).length = l.length := by
 have := flat_length inC 1 inC_len l
 omega
def RetSortIn (w : World) (base : Nat) (v : Value) (sl : List Int) (e : Ending) (w' : World) : Prop :=
 e = .returned (.tuple #[]) ∧ Own w' base 3 1 inC v sl ∧ w.grownBy w' v.ownBlock

end Go.Proofs.YtoclnkfeblfpbaaGreat
namespace Go.Proofs.YtoclnkfeblfpbaaGreat
open Go.RowKit

def lowS (o p : Pt) : Bool := decide (p.y < o.y) || (decide (p.y = o.y) && decide (p.x < o.x))
def lessS (o a b : Pt) : Bool := nears [o, a, b] && (!decide (a = o) && (!decide (b = o) && (if lowS o a = lowS o b then decide (0 < tw o a b) else lowS o b)))
def quartS (o a : Pt) : Int := if 0 < a.x - o.x ∧ 0 ≤ a.y - o.y then 0 else if a.x - o.x ≤ 0 ∧ 0 < a.y - o.y then 1 else if a.x - o.x < 0 then 2 else 3
def rlessS (o a b : Pt) : Bool := nears [o, a, b] && (!decide (a = o) && (!decide (b = o) && (decide (quartS o a < quartS o b) || (decide (quartS o a = quartS o b) && decide (0 < crossS o a o b)))))

/-- the lower half, and the order of directions, of vectors -/
def lowV (x y : Int) : Prop := y < 0 ∨ (y = 0 ∧ x < 0)
def ltV (ux uy vx vy : Int) : Prop := (¬ lowV ux uy ∧ lowV vx vy) ∨ ((lowV ux uy ↔ lowV vx vy) ∧ 0 < ux * vy - uy * vx)
theorem ltV_irr (ux uy : Int) : ¬ ltV ux uy ux uy := by
 rintro (⟨h1, h2⟩ | ⟨-, h⟩)
 · exact h1 h2
 · rw [Int.mul_comm uy ux] at h; omega
theorem three (ux uy vx vy wx wy : Int) : vy * (ux * wy - uy * wx) = uy * (vx * wy - vy * wx) + wy * (ux * vy - uy * vx) := by grind
theorem pos_of_mul {v A : Int} (hv : 0 < v) (h : 0 < v * A) : 0 < A := by
 rcases Int.lt_or_le 0 A with h1 | h1
 · exact h1
 · have := Int.mul_nonpos_of_nonneg_of_nonpos (Int.le_of_lt hv) h1; omega
theorem nn_of_mul {v A : Int} (hv : 0 < v) (h : 0 ≤ v * A) : 0 ≤ A := by
 rcases Int.lt_or_le A 0 with h1 | h1
 · have := Int.mul_neg_of_pos_of_neg hv h1; omega
 · exact h1
def upV (x y : Int) : Prop := 0 < y ∨ (y = 0 ∧ 0 < x)
/-- within the upper half: a cross that is positive (not negative) twice is so at the third. -/
theorem cross_up {ux uy vx vy wx wy : Int} (hu : upV ux uy) (hv : upV vx vy) (hw : upV wx wy) (h1 : 0 ≤ ux * vy - uy * vx) (h2 : 0 ≤ vx * wy - vy * wx) :
  0 ≤ ux * wy - uy * wx ∧ (0 < ux * vy - uy * vx ∨ 0 < vx * wy - vy * wx → 0 < ux * wy - uy * wx) := by
 have e := three ux uy vx vy wx wy
 unfold upV at *
 rcases hv with hv | ⟨rfl, hv⟩
 ·
  have hw' : 0 < wy := by
   rcases hw with hw | ⟨rfl, hw⟩
   · exact hw
   ·
    have := Int.mul_pos hv hw
    rw [Int.mul_zero] at h2; omega
  have a1 : 0 ≤ uy * (vx * wy - vy * wx) := Int.mul_nonneg (by omega) h2
  have a2 : 0 ≤ wy * (ux * vy - uy * vx) := Int.mul_nonneg (by omega) h1
  refine ⟨nn_of_mul hv (by omega), fun h => pos_of_mul hv ?_⟩
  rcases h with h | h
  · have := Int.mul_pos hw' h; omega
  ·
   rcases hu with hu | ⟨rfl, hu⟩
   · have := Int.mul_pos hu h; omega
   ·
    have h3 := Int.mul_pos hu hv
    have := Int.mul_pos hw' (show 0 < ux * vy - 0 * vx by rw [Int.zero_mul]; omega)
    omega
 ·
  have hu' : uy = 0 := by
   rcases hu with hu | ⟨hu, -⟩
   ·
    have := Int.mul_pos hu hv
    rw [Int.mul_zero] at h1; omega
   · exact hu
  subst hu'
  have hu2 : 0 < ux := by omega
  rw [Int.zero_mul] at h2 ⊢
  rw [Int.zero_mul, Int.mul_zero]
  have hwy : 0 ≤ wy := by omega
  have a1 := Int.mul_nonneg (Int.le_of_lt hu2) hwy
  refine ⟨by omega, fun h => ?_⟩
  rcases h with h | h
  · omega
  ·
   have : 0 < wy := pos_of_mul hv (by omega)
   have := Int.mul_pos hu2 this
   omega
theorem low_up {x y : Int} (h0 : ¬ (x = 0 ∧ y = 0)) : ¬ lowV x y ↔ upV x y := by
 unfold lowV upV; omega
theorem low_neg {x y : Int} : lowV x y ↔ upV (-x) (-y) := by
 unfold lowV upV; omega
/-- within one half -/
theorem cross_half {ux uy vx vy wx wy : Int} (hu : ¬ (ux = 0 ∧ uy = 0)) (hv : ¬ (vx = 0 ∧ vy = 0)) (hw : ¬ (wx = 0 ∧ wy = 0)) (huv : lowV ux uy ↔ lowV vx vy) (hvw : lowV vx vy ↔ lowV wx wy) (h1 : 0 ≤ ux * vy - uy * vx) (h2 : 0 ≤ vx * wy - vy * wx) :
  0 ≤ ux * wy - uy * wx ∧ (0 < ux * vy - uy * vx ∨ 0 < vx * wy - vy * wx → 0 < ux * wy - uy * wx) := by
 by_cases hl : lowV vx vy
 ·
  have := cross_up (low_neg.1 (huv.2 hl)) (low_neg.1 hl) (low_neg.1 (hvw.1 hl))
  simp only [Int.neg_mul_neg] at this
  exact this h1 h2
 · exact cross_up ((low_up hu).1 (fun h => hl (huv.1 h))) ((low_up hv).1 hl) ((low_up hw).1 (fun h => hl (hvw.2 h))) h1 h2
theorem ltV_trans {ux uy vx vy wx wy : Int} (hu : ¬ (ux = 0 ∧ uy = 0)) (hv : ¬ (vx = 0 ∧ vy = 0)) (hw : ¬ (wx = 0 ∧ wy = 0)) (h1 : ltV ux uy vx vy) (h2 : ltV vx vy wx wy) : ltV ux uy wx wy := by
 unfold ltV at *
 rcases h1 with ⟨a1, a2⟩ | ⟨a1, a2⟩
 ·
  rcases h2 with ⟨b1, b2⟩ | ⟨b1, b2⟩
  · exact absurd a2 b1
  · exact .inl ⟨a1, b1.1 a2⟩
 ·
  rcases h2 with ⟨b1, b2⟩ | ⟨b1, b2⟩
  · exact .inl ⟨fun h => b1 (a1.1 h), b2⟩
  · exact .inr ⟨a1.trans b1, (cross_half hu hv hw a1 b1 (by omega) (by omega)).2 (.inl a2)⟩
theorem ltV_ntrans {ux uy vx vy wx wy : Int} (hu : ¬ (ux = 0 ∧ uy = 0)) (hv : ¬ (vx = 0 ∧ vy = 0)) (hw : ¬ (wx = 0 ∧ wy = 0)) (h1 : ¬ ltV ux uy vx vy) (h2 : ¬ ltV vx vy wx wy) : ¬ ltV ux uy wx wy := by
 have key : ∀ {ax ay bx b : Int}, ¬ ltV ax ay bx b → (lowV ax ay ∧ ¬ lowV bx b) ∨ ((lowV bx b ↔ lowV ax ay) ∧ 0 ≤ bx * ay - b * ax) := by
  intro ax ay bx b h
  unfold ltV at h
  by_cases l1 : lowV ax ay
  ·
   by_cases l2 : lowV bx b
   ·
    refine .inr ⟨by simp [l1, l2], ?_⟩
    rw [Int.mul_comm bx, Int.mul_comm b]
    rcases Int.lt_or_le (ay * bx - ax * b) 0 with h3 | h3
    · exact absurd (.inr ⟨by simp [l1, l2], by omega⟩) h
    · exact h3
   · exact .inl ⟨l1, l2⟩
  ·
   by_cases l2 : lowV bx b
   · exact absurd (.inl ⟨l1, l2⟩) h
   ·
    refine .inr ⟨by simp [l1, l2], ?_⟩
    rw [Int.mul_comm bx, Int.mul_comm b]
    rcases Int.lt_or_le (ay * bx - ax * b) 0 with h3 | h3
    · exact absurd (.inr ⟨by simp [l1, l2], by omega⟩) h
    · exact h3
 intro h3
 rcases key h1 with ⟨a1, a2⟩ | ⟨a1, a2⟩
 ·
  rcases key h2 with ⟨b1, b2⟩ | ⟨b1, b2⟩
  · exact a2 b1
  ·
   rcases h3 with ⟨c1, c2⟩ | ⟨c1, c2⟩
   · exact c1 a1
   · exact a2 (b1.1 (c1.1 a1))
 ·
  rcases key h2 with ⟨b1, b2⟩ | ⟨b1, b2⟩
  ·
   rcases h3 with ⟨c1, c2⟩ | ⟨c1, c2⟩
   · exact c1 (a1.1 b1)
   · exact b2 (c1.1 (a1.1 b1))
  ·
   rcases h3 with ⟨c1, c2⟩ | ⟨c1, c2⟩
   · exact c1 (a1.1 (b1.1 c2))
   ·
    have := (cross_half hw hv hu b1 a1 b2 a2).1
    rw [Int.mul_comm wx, Int.mul_comm wy] at this
    omega
def quartV (x y : Int) : Int := if 0 < x ∧ 0 ≤ y then 0 else if x ≤ 0 ∧ 0 < y then 1 else if x < 0 then 2 else 3
theorem q_cases {x y : Int} (h : ¬ (x = 0 ∧ y = 0)) : (quartV x y = 0 ∧ 0 < x ∧ 0 ≤ y) ∨ (quartV x y = 1 ∧ x ≤ 0 ∧ 0 < y) ∨ (quartV x y = 2 ∧ x < 0 ∧ y ≤ 0) ∨ (quartV x y = 3 ∧ 0 ≤ x ∧ y < 0) := by
 unfold quartV
 split
 · omega
 ·
  split
  · omega
  ·
   split
   · omega
   · omega
theorem quart_lt {ux uy vx vy : Int} (hu : ¬ (ux = 0 ∧ uy = 0)) (hv : ¬ (vx = 0 ∧ vy = 0)) : (quartV ux uy < quartV vx vy ∨ (quartV ux uy = quartV vx vy ∧ 0 < ux * vy - uy * vx)) ↔ ltV ux uy vx vy := by
 unfold ltV
 have np : ∀ {a b : Int}, 0 ≤ a → b ≤ 0 → a * b ≤ 0 := fun h1 h2 => Int.mul_nonpos_of_nonneg_of_nonpos h1 h2
 have pn : ∀ {a b : Int}, a ≤ 0 → 0 ≤ b → a * b ≤ 0 := fun h1 h2 => Int.mul_nonpos_of_nonpos_of_nonneg h1 h2
 rcases q_cases hu with ⟨e1, a1, a2⟩ | ⟨e1, a1, a2⟩ | ⟨e1, a1, a2⟩ | ⟨e1, a1, a2⟩ <;> rcases q_cases hv with ⟨e2, b1, b2⟩ | ⟨e2, b1, b2⟩ | ⟨e2, b1, b2⟩ | ⟨e2, b1, b2⟩ <;> rw [e1, e2]
 case inl.inr.inl =>
  have h1 := Int.mul_pos a1 b2; have h2 := np a2 b1
  have l1 : ¬ lowV ux uy := by unfold lowV; omega
  have l2 : ¬ lowV vx vy := by unfold lowV; omega
  simp only [l1, l2, iff_self, true_and, not_false_eq_true, and_false, false_or, not_true_eq_false, false_and]; omega
 case inr.inl.inl =>
  have h1 := pn a1 b2; have h2 := Int.mul_pos a2 b1
  have l1 : ¬ lowV ux uy := by unfold lowV; omega
  have l2 : ¬ lowV vx vy := by unfold lowV; omega
  simp only [l1, l2, iff_self, true_and, not_false_eq_true, and_false, false_or, not_true_eq_false, false_and]; omega
 case inr.inr.inl.inr.inr.inr =>
  have h1 := Int.mul_pos_of_neg_of_neg a1 b2; have h2 := pn a2 b1
  have l1 : lowV ux uy := by unfold lowV; omega
  have l2 : lowV vx vy := by unfold lowV; omega
  simp only [l1, l2, iff_self, true_and, not_false_eq_true, and_false, false_or, not_true_eq_false, false_and]; omega
 case inr.inr.inr.inr.inr.inl =>
  have h1 := np a1 b2; have h2 := Int.mul_pos_of_neg_of_neg a2 b1
  have l1 : lowV ux uy := by unfold lowV; omega
  have l2 : lowV vx vy := by unfold lowV; omega
  simp only [l1, l2, iff_self, true_and, not_false_eq_true, and_false, false_or, not_true_eq_false, false_and]; omega
 all_goals
  first
  | ((have l1 : ¬ lowV ux uy := by unfold lowV; omega); (have l2 : ¬ lowV vx vy := by unfold lowV; omega); (simp only [l1, l2, iff_self, true_and, not_false_eq_true, and_false, false_or, not_true_eq_false, false_and]; omega))
  | ((have l1 : lowV ux uy := by unfold lowV; omega); (have l2 : lowV vx vy := by unfold lowV; omega); (simp only [l1, l2, iff_self, true_and, not_false_eq_true, and_false, false_or, not_true_eq_false, false_and]; omega))
  | ((have l1 : ¬ lowV ux uy := by unfold lowV; omega); (have l2 : lowV vx vy := by unfold lowV; omega); simp [l1, l2])
  | ((have l1 : lowV ux uy := by unfold lowV; omega); (have l2 : ¬ lowV vx vy := by unfold lowV; omega); simp [l1, l2])

theorem low_iff (o p : Pt) : lowS o p = true ↔ lowV (p.x - o.x) (p.y - o.y) := by
 unfold lowS lowV
 simp only [Bool.or_eq_true, Bool.and_eq_true, decide_eq_true_eq]
 omega
theorem ne_vec {a o : Pt} : a ≠ o ↔ ¬ (a.x - o.x = 0 ∧ a.y - o.y = 0) := by
 rw [Ne, Pt.ext_iff']; omega
/-- a is in the direction before b's, seen from o -/
def dirLt (o a b : Pt) : Prop := ltV (a.x - o.x) (a.y - o.y) (b.x - o.x) (b.y - o.y)
theorem less_iff (o a b : Pt) : lessS o a b = true ↔ nears [o, a, b] = true ∧ a ≠ o ∧ b ≠ o ∧ dirLt o a b := by
 unfold lessS
 simp only [Bool.and_eq_true, Bool.not_eq_true', decide_eq_false_iff_not]
 refine and_congr_right fun _ => and_congr_right fun _ => and_congr_right fun _ => ?_
 unfold dirLt ltV
 rw [← low_iff, ← low_iff]
 show _ ↔ _ ∨ (_ ∧ 0 < tw o a b)
 cases lowS o a <;> cases lowS o b <;> simp
theorem rless_iff (o a b : Pt) : rlessS o a b = true ↔ nears [o, a, b] = true ∧ a ≠ o ∧ b ≠ o ∧ dirLt o a b := by
 unfold rlessS
 simp only [Bool.and_eq_true, Bool.not_eq_true', decide_eq_false_iff_not]
 refine and_congr_right fun _ => and_congr_right fun h1 => and_congr_right fun h2 => ?_
 rw [Bool.or_eq_true, Bool.and_eq_true, decide_eq_true_eq, decide_eq_true_eq, decide_eq_true_eq]
 exact quart_lt (ne_vec.1 h1) (ne_vec.1 h2)
theorem less_eq (o a b : Pt) : lessS o a b = rlessS o a b := by
 rw [Bool.eq_iff_iff, less_iff, rless_iff]
end Go.Proofs.YtoclnkfeblfpbaaGreat
