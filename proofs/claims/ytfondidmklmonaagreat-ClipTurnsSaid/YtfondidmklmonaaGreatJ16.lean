/- clip.All. mapsheetsref41.SamePieces. mapsheetsref41.Same, SameAll. clip.Same (with its closure and slices.EqualFunc at pieces), mapsheetsref17.SameInts. PLAIN: one insertion into an ascending list, as mapsheetsref41.Arcs does it. mapsheetsref41.Arcs. -/
import Derived.Test.YtfondidmklmonaaGreatJ15
import Derived.Test.YtfondidmklmonaaGreatJ02
import Derived.Test.YtfondidmklmonaaGreatJ07
import Derived.Test.YtfondidmklmonaaGreatGB
import Derived.Deep.CutBlock
import Derived.Test.YtfondidmklmonaaGreatJ09
set_option linter.unusedSimpArgs false
set_option linter.unusedVariables false
namespace Go.Proofs.YtfondidmklmonaaGreat
open Go.RowKit

def prS (x : Prt × SV × SV) : List Value := [.int .i64 x.1.sheet, .slice x.2.1.a x.2.1.n x.2.1.c, .slice x.2.2.a x.2.2.n x.2.2.c]
theorem prS_len (x : Prt × SV × SV) : (prS x).length = 3 := rfl
theorem prS_one (x : Prt × SV × SV) : ∀ u ∈ prS x, u.oneCell' = true := by simp [prS, Value.oneCell']
theorem elem_prt : Elem Tryz.prog 41 35 3 56 := Elem.mk_ (z := .agg #[.int .i64 0, .slice none 0 0, .slice none 0 0]) (by kernel_rfl) (by kernel_rfl) rfl (by omega)
/-- a list of parts of the call's own -/
structure PrtsO (w : World) (B : Nat) (v : Value) (L : List (Prt × SV × SV)) : Prop where
 own : Own w B 35 3 prS v L
 part : ∀ x ∈ L, PrtO w B x.1 (.slice x.2.1.a x.2.1.n x.2.1.c) (.slice x.2.2.a x.2.2.n x.2.2.c)
theorem PrtsO.keep {w w' : World} {B : Nat} {v : Value} {L : List (Prt × SV × SV)} (h : PrtsO w B v L) (hb : Below w.heap.size w w') : PrtsO w' B v L := ⟨h.own.keep hb, fun x hx => (h.part x hx).keep hb⟩
def RetPrts (w : World) (r : List Prt × Int) (e : Ending) (w' : World) : Prop :=
 ∃ A c L, e = .returned (.tuple #[.slice A r.1.length c, .int .i64 r.2]) ∧ Below w.heap.size w w' ∧ L.map (·.1) = r.1 ∧ PrtsO w' w.heap.size (.slice A r.1.length c) L
def partI (p : Pl) (s : Se) (i : Nat) : Prt := partS p ((i : Int) + 1) (boxOf s ((i : Int) + 1))
def allS (p : Pl) (s : Se) : List Prt := (List.range (s.cols * s.rows).toNat).map (partI p s)
def allRes (p : Pl) (s : Se) : List Prt × Int :=
 if checkS p ≠ 0 then ([], checkS p) else if seCheck s ≠ 0 then ([], seCheck s) else (allS p s, 0)
theorem RetPrts.nil {w w' : World} (hb : Below w.heap.size w w') (z : Int) : RetPrts w ([], z) (.returned (.tuple #[.slice none 0 0, .int .i64 z])) w' :=
 ⟨none, 0, [], rfl, hb, rfl, Own.nil _ _ _ _ _, fun x hx => by cases hx⟩
set_option maxRecDepth 100000 in
set_option maxHeartbeats 8000000 in
theorem All_spec (v : Value) (p : Pl) (s : Se) (w : World) (h : PlV w v p) (hs : SmP p) : Calls Tryz.prog 15 #[v, seV s] w (RetPrts w (allRes p s)) := by
 have HP := Lib.hid h; have HSm := Lib.hid hs
 have TC := fun (W : World) hW => Check_spec v p W (h.mono hW)
 have HCk := Lib.hid TC
 have HSc := Lib.hid (fun W => sCheck_spec s W)
 have HBx := Lib.hid (fun n W => sBox_spec s n W)
 obtain ⟨q, hq⟩ : ∃ q, allRes p s = q := ⟨_, rfl⟩
 rw [hq]
 unfold allRes at hq
 have HQ := Lib.hid hq
 obtain ⟨vn, va, vf, al, rfl, -⟩ := h
 unfold seV at HSc HBx ⊢
 clear hq hs TC
 obtain ⟨s0, hs0⟩ : ∃ s0, w.heap.size = s0 := ⟨_, rfl⟩
 obtain ⟨g4, h4⟩ : ∃ g, s0 + 1 = g := ⟨_, rfl⟩
 obtain ⟨W, hW⟩ : ∃ W : World, W = (w.alloc (.cells #[vn, va, vf] 26)).alloc (.cells #[.int .i64 s.at_.x, .int .i64 s.at_.y, .int .i64 s.width, .int .i64 s.height, .int .i64 s.cols, .int .i64 s.rows] 30) := ⟨_, rfl⟩
 have HB0 := Lib.hid (show Below w.heap.size w W by rw [hW]; exact bA (bA (bR w) _) _)
 have X3 : Blk W s0 26 #[vn, va, vf] := by rw [hW]; exact (Blk.made hs0.symm _ _).alloc _
 have X4 : Blk W g4 30 #[.int .i64 s.at_.x, .int .i64 s.at_.y, .int .i64 s.width, .int .i64 s.height, .int .i64 s.cols, .int .i64 s.rows] := by rw [hW]; exact Blk.made (by simp; omega) _ _
 go_enter Tryz.func15, Tryz.ntmps15
 go_upto_region 1 with fail
 try rw [← hW]
 clear hW hs0 h4
 obtain ⟨X3l, X3a, X3b, X3c, -, -, -⟩ := X3.facts3
 go_wp2_with fail
 refine (HCk.out _ HB0.out).mono ?_
 rintro e w1 ⟨rfl, hb1⟩
 have HB1 := Lib.hid (bT HB0.out hb1)
 replace X3 := X3.keep hb1
 replace X4 := X4.keep hb1
 clear hb1 HCk HB0
 by_cases hck : checkS p = 0
 case neg =>
  have hne : (checkS p != 0) = true := by simp [hck]
  have hq := HQ.out
  rw [if_pos hck] at hq
  have HF := Lib.hid hq
  clear hq hck
  generalize checkS p = z at *
  go_wp2_with fail
  go_ret2
  rw [← HF.out]
  exact RetPrts.nil HB1.out _
 have hq := HQ.out
 rw [if_neg (fun h => h hck)] at hq
 have HQ1 := Lib.hid hq
 have HVd := Lib.hid ((check_zero p).1 hck)
 rw [hck]
 clear hq hck HQ
 try clear X3l X3a X3b X3c
 obtain ⟨X4l, X4a, X4b, X4c, X4d, X4e, X4f, -, -, -, -, -, -⟩ := X4.facts6
 go_wp2_with fail
 refine (HSc.out _).mono ?_
 rintro e w2 ⟨rfl, hb2⟩
 have HB2 := Lib.hid (bT HB1.out hb2)
 replace X3 := X3.keep hb2
 replace X4 := X4.keep hb2
 clear hb2 HB1 HSc X4l X4a X4b X4c X4d X4e X4f
 by_cases hfe : seCheck s = 0
 case neg =>
  have hne : (seCheck s != 0) = true := by simp [hfe]
  have hq := HQ1.out
  rw [if_pos hfe] at hq
  have HF := Lib.hid hq
  clear hq hfe
  generalize seCheck s = z at *
  go_wp2_with fail
  go_ret2
  rw [← HF.out]
  exact RetPrts.nil HB2.out _
 have hq := HQ1.out
 rw [if_neg (fun h => h hfe)] at hq
 rw [hfe]
 have hok : seOk s = true := by
  unfold seCheck at hfe
  cases h : seOk s
  · rw [h] at hfe; simp at hfe
  · rfl
 have hbd := seOk_bd hok
 have hc := hbd.c; have hr := hbd.r
 have hM := mul_bds (a := s.cols) (b := s.rows) (m := 16) (n := 16) (by omega) hc.2 (by omega) hr.2
 obtain ⟨M, hMe⟩ : ∃ M, s.cols * s.rows = M := ⟨_, rfl⟩
 have HIn := Lib.hid (fun (i : Nat) (hi : (i : Int) < M) => (InS.of hok (n := (i : Int) + 1) (by unfold thereS; rw [Bool.and_eq_true, decide_eq_true_eq, decide_eq_true_eq]; omega)))
 have hN : (M.toNat : Int) = M := by omega
 obtain ⟨N, hNe⟩ : ∃ N, M.toNat = N := ⟨_, rfl⟩
 unfold allS at hq
 rw [hMe, hNe] at hq
 rw [hNe] at hN
 have hN6 : N ≤ 256 := by omega
 rw [← hN] at hMe HIn
 have hmul : IntKind.i64.wrap (s.cols * s.rows) = (N : Int) := by rw [hMe]; exact IntWalk.i64_in _ (by omega)
 have HQ2 := Lib.hid hq
 clear hq hfe hok hbd hc hr hM hMe hN hNe HQ1
 try clear X4l
 try clear X4a
 try clear X4b
 try clear X4c
 try clear X4d
 try clear X4e
 try clear X4f
 obtain ⟨X4l, X4a, X4b, X4c, X4d, X4e, X4f, -, -, -, -, -, -⟩ := X4.facts6
 have HX3 := Lib.hid X3; have HX4 := Lib.hid X4
 go_wp2_with fail
 go_loopw [4, 24] (fun u v wr => ∃ (k : Nat) (L : List (Prt × SV × SV)) (A : Option Addr) (c : Nat), k ≤ N ∧ u = .slice A L.length c ∧ v = .int .i64 k ∧ PrtsO wr w.heap.size (.slice A L.length c) L ∧ L.map (·.1) = (List.range k).map (partI p s) ∧ L.length ≤ k ∧ Blk wr s0 26 #[vn, va, vf] ∧ Blk wr g4 30 #[.int .i64 s.at_.x, .int .i64 s.at_.y, .int .i64 s.width, .int .i64 s.height, .int .i64 s.cols, .int .i64 s.rows] ∧ Below w.heap.size w wr) (fun _ v _ => N - (intOf v).toNat)
 case atStart => exact ⟨0, [], none, 0, Nat.zero_le _, rfl, rfl, ⟨Own.nil _ _ _ _ _, fun x hx => by cases hx⟩, rfl, Nat.le_refl _, HX3.out, HX4.out, HB2.out⟩
 case round =>
  obtain ⟨k, L, A, c, hk, rfl, rfl, hpo, hmap, hlen, X3, X4, hb⟩ := hrel
  have HPO := Lib.hid hpo; have HMap := Lib.hid hmap; have HB := Lib.hid hb
  clear hpo hmap hb
  by_cases hlt : k < N
  ·
   have hin := HIn.out k (by omega)
   have hbr : boxRes s ((k : Int) + 1) = (boxOf s ((k : Int) + 1), 0) := boxRes_in hin
   have HBk := Lib.hid (HBx.out ((k : Int) + 1))
   rw [hbr] at HBk
   have HPt := Lib.hid (fun (W : World) hW => part_spec _ p ((k : Int) + 1) (boxOf s ((k : Int) + 1)) W (HP.out.mono hW) HVd.out HSm.out hin.smB.1)
   obtain ⟨x, hx⟩ : ∃ x, partS p ((k : Int) + 1) (boxOf s ((k : Int) + 1)) = x := ⟨_, rfl⟩
   have hxs : x.sheet = (k : Int) + 1 := by rw [← hx]; rfl
   have hsucc : (List.range (k + 1)).map (partI p s) = (List.range k).map (partI p s) ++ [x] := by
    rw [List.range_succ, List.map_append, ← hx]; rfl
   rw [hx] at HPt
   have HXs := Lib.hid hxs; have HSu := Lib.hid hsucc
   have HX3 := Lib.hid X3; have HX4 := Lib.hid X4
   generalize boxOf s ((k : Int) + 1) = bx at *
   have c1 : (k : Int) < N := by omega
   clear hin hbr hx hxs hsucc
   unfold boxV at HBk
   unfold bxV at HBk HPt
   try clear X4l
   try clear X4a
   try clear X4b
   try clear X4c
   try clear X4d
   try clear X4e
   try clear X4f
   obtain ⟨X4l, X4a, X4b, X4c, X4d, X4e, X4f, -, -, -, -, -, -⟩ := X4.facts6
   try clear X3l
   try clear X3a
   try clear X3b
   try clear X3c
   obtain ⟨X3l, X3a, X3b, X3c, -, -, -⟩ := X3.facts3
   go_wp2_with fail
   refine (HBk.out _).mono ?_
   rintro e w3 ⟨rfl, hb3⟩
   have HX33 := Lib.hid (HX3.out.keep hb3); have HX43 := Lib.hid (HX4.out.keep hb3); have HPO3 := Lib.hid (HPO.out.keep hb3)
   have HB3 := Lib.hid (bT HB.out hb3)
   have Y3 := HX33.out
   clear hb3 X3 X4 X3l X3a X3b X3c X4l X4a X4b X4c X4d X4e X4f HX3 HX4 HPO HB
   obtain ⟨Y3l, Y3a, Y3b, Y3c, -, -, -⟩ := Y3.facts3
   go_wp2_with fail
   refine (HPt.out _ (bA HB3.out _)).mono ?_
   rintro e w4 ⟨A4, m4, c4, A5, m5, c5, rfl, hb4, hpo4⟩
   rw [HXs.out]
   have hA4 : Below w3.heap.size w3 w4 := bT (bA (bR w3) _) hb4
   have HX34 := Lib.hid (HX33.out.keep hA4); have HX44 := Lib.hid (HX43.out.keep hA4); have HPO4 := Lib.hid (HPO3.out.keep hA4)
   have HB4 := Lib.hid (bT HB3.out hA4)
   have HPq := Lib.hid (hpo4.base (show w.heap.size ≤ _ from (bA HB3.out _).size))
   have hz4 := HB4.out.size
   clear hb4 hpo4 hA4 Y3 Y3l Y3a Y3b Y3c HX33 HX43 HPO3 HB3
   go_wp2_with
    (at_builtin
     refine wpList_appl _ rfl (.tmp 37) (.tmp 43) _ rfl (base := w.heap.size) elem_prt prS_len prS_one rfl (Own.alloc HPO4.out.own _) rfl (l2 := [((x, ⟨A4, m4, c4⟩, ⟨A5, m5, c5⟩) : Prt × SV × SV)]) (Sl.lit (n := 1) (Blk.made rfl _ _) (by simp [prS, HXs.out]) (le_maxLen (by omega))) (by simp only [List.length_cons, List.length_nil]; omega) (by simp only [List.length_cons, List.length_nil]; omega) (by simp; omega) ?_
     intro v5 w5 ho5 hg5 hat5
     obtain ⟨A9, c9, hv5, -⟩ := Own.shape_ ho5
     rw [show (L ++ [((x, ⟨A4, m4, c4⟩, ⟨A5, m5, c5⟩) : Prt × SV × SV)]).length = L.length + 1 by simp] at hv5
     subst hv5
     have nrow : ∀ α (f : α → List Value) v (l : List α) sz t, (t = 55 ∨ t = 28 ∨ t = 59) → Own (w4.alloc (.cells #[.int .i64 ((k : Int) + 1), .slice A4 m4 c4, .slice A5 m5 c5] 35)) w.heap.size t sz f v l → ∀ i, v.ownBlock = some i → some i ≠ (Value.slice A L.length c).ownBlock := fun α f v l sz t ht ho i hi => by
      rcases ht with rfl | rfl | rfl
      · exact Own.apart ho (Own.alloc HPO4.out.own _) (by decide) i hi
      · exact Own.apart ho (Own.alloc HPO4.out.own _) (by decide) i hi
      · exact Own.apart ho (Own.alloc HPO4.out.own _) (by decide) i hi
     have HPO5 := Lib.hid (show PrtsO w5 w.heap.size (.slice A9 (L.length + 1) c9) (L ++ [((x, ⟨A4, m4, c4⟩, ⟨A5, m5, c5⟩) : Prt × SV × SV)]) from ⟨ho5, fun y hy => by
      rcases List.mem_append.1 hy with hy | hy
      · exact ((HPO4.out.part y hy).keep (bA (bR w4) _)).grown hg5 nrow
      ·
       rw [List.mem_singleton] at hy
       subst hy
       exact (HPq.out.keep (bA (bR w4) _)).grown hg5 nrow⟩)
     have HX35 := Lib.hid (Blk.grown (HX34.out.alloc _) hg5 (fun e => Own.ne_blk HPO4.out.own HX34.out (by decide) e.symm))
     have HX45 := Lib.hid (Blk.grown (HX44.out.alloc _) hg5 (fun e => Own.ne_blk HPO4.out.own HX44.out (by decide) e.symm))
     have HB5 := Lib.hid (bG (bA HB4.out _) hg5 (fun i hi => (HPO4.out.own.lt i hi).1))
     clear ho5 hg5 hat5 nrow
     )
   go_wp2_with fail
   go_roundw
   case rel => (rw [show (L.length + 1) = (L ++ [((x, ⟨A4, m4, c4⟩, ⟨A5, m5, c5⟩) : Prt × SV × SV)]).length by simp] at *; exact ⟨k + 1, L ++ [((x, ⟨A4, m4, c4⟩, ⟨A5, m5, c5⟩) : Prt × SV × SV)], A9, c9, by omega, rfl, by go_num, HPO5.out, by rw [List.map_append, HMap.out, HSu.out]; rfl, by rw [List.length_append, List.length_singleton]; omega, HX35.out, HX45.out, HB5.out⟩)
   case measure => simp [intOf]; omega
  ·
   have hkn : k = N := by omega
   have hq := HQ2.out
   have hmp := HMap.out
   have hl : L.map (·.1) = q.1 := by rw [hmp, hkn, ← hq]
   have hll : L.length = q.1.length := by rw [← hl, List.length_map]
   have hq2 : q.2 = 0 := by rw [← hq]
   have HL := Lib.hid hl; have HQ3 := Lib.hid hq2
   have hpo := HPO.out
   rw [hll] at hpo ⊢
   have HPOf := Lib.hid hpo
   have c1 : ¬ (k : Int) < N := by omega
   clear hkn hq hmp hl hll hq2 hpo
   go_wp2_with fail
   go_ret2
   exact ⟨A, c, L, by rw [HQ3.out]; rfl, HB.out, HL.out, HPOf.out⟩
end Go.Proofs.YtfondidmklmonaaGreat
namespace Go.Proofs.YtfondidmklmonaaGreat
open Go.RowKit

theorem Pc.ext_iff' {a b : Pc} : a = b ↔ a.arc = b.arc ∧ a.enter = b.enter ∧ a.leave = b.leave ∧ a.path = b.path := by
 cases a; cases b
 simp only [Pc.mk.injEq]
 constructor
 · rintro ⟨h1, h2, h3, h4⟩; exact ⟨h1, h3, h4, h2⟩
 · rintro ⟨h1, h3, h4, h2⟩; exact ⟨h1, h2, h3, h4⟩
instance : DecidableEq Pc := fun a b =>
 if h : a.arc = b.arc ∧ a.enter = b.enter ∧ a.leave = b.leave ∧ a.path = b.path then isTrue (Pc.ext_iff'.2 h) else isFalse (fun e => h (Pc.ext_iff'.1 e))
theorem map_ne_at {α β : Type} [DecidableEq α] {l m : List (α × β)} (k : Nat) (h1 : k < l.length) (h2 : k < m.length) (hne : ¬ l[k].1 = m[k].1) : decide (l.map (·.1) = m.map (·.1)) = false := by
 rw [decide_eq_false_iff_not]
 intro e
 have := congrArg (fun x : List α => x[k]?) e
 simp [h1, h2] at this
 exact hne this
theorem map_eq_all {α β : Type} [DecidableEq α] {l m : List (α × β)} (hl : l.length = m.length) (h : ∀ j (hj : j < l.length) (hj' : j < m.length), l[j].1 = m[j].1) : decide (l.map (·.1) = m.map (·.1)) = true := by
 rw [decide_eq_true_iff]
 refine List.ext_getElem (by simpa using hl) fun i h1 h2 => ?_
 simp only [List.getElem_map]
 exact h i (by simpa using h1) (by simpa using h2)
theorem map_ne_len {α β : Type} [DecidableEq α] {l m : List (α × β)} (hl : ¬ l.length = m.length) : decide (l.map (·.1) = m.map (·.1)) = false := by
 rw [decide_eq_false_iff_not]
 exact fun e => hl (by simpa using congrArg List.length e)

set_option maxRecDepth 100000 in
set_option maxHeartbeats 4000000 in
theorem SamePieces_spec (v u : Value) (l m : List (Pc × Value)) (w : World) (h : Pcs w v l) (h' : Pcs w u m) :
  Calls Tryz.prog 32 #[v, u] w fun e w' => e = .returned (.bool (decide (l.map (·.1) = m.map (·.1)))) ∧ Below w.heap.size w w' := by
 obtain ⟨⟨A, c, rfl, hn, hc, hR⟩, hV⟩ := h
 obtain ⟨⟨A', c', rfl, hn', hc', hR'⟩, hV'⟩ := h'
 unfold maxLen at hc hc'
 have HV := Lib.hid hV; have HV' := Lib.hid hV'; have HR := Lib.hid hR; have HR' := Lib.hid hR'
 clear hV hV' hR hR'
 obtain ⟨q, hq⟩ : ∃ q, decide (l.map (·.1) = m.map (·.1)) = q := ⟨_, rfl⟩
 rw [hq]
 have Hq := Lib.hid hq; clear hq
 by_cases hlm : l.length = m.length
 case neg =>
  have hf := Lib.hid (show false = q by rw [← Hq.out, map_ne_len hlm])
  have hne : ((l.length : Int) != (m.length : Int)) = true := by simp; omega
  clear hlm
  go_enter Tryz.func32, Tryz.ntmps32
  go_wp2_with fail
  go_ret
  exact ⟨ret_bool hf.out, bR w⟩
 have hne : ((l.length : Int) != (m.length : Int)) = false := by simp; omega
 have Hlm := Lib.hid hlm
 have hle : l.length ≤ m.length := by omega
 clear hlm
 go_enter Tryz.func32, Tryz.ntmps32
 go_wp2_with fail
 go_loopw [5] (fun s wr => ∃ k : Nat, k ≤ l.length ∧ s = .int .i64 k ∧ Below w.heap.size w wr ∧ ∀ j (hj : j < l.length) (hj' : j < m.length), j < k → l[j].1 = m[j].1) (fun s _ => l.length - (intOf s).toNat)
 case atStart => exact ⟨0, Nat.zero_le _, rfl, bR w, fun _ _ _ h => by omega⟩
 case round =>
  obtain ⟨k, hk, rfl, hb, hno⟩ := hrel
  have Hb := Lib.hid hb
  have Hno := Lib.hid hno
  clear hb hno hne
  by_cases hlt : k < l.length
  case neg =>
   have hf := Lib.hid (show true = q by rw [← Hq.out, map_eq_all Hlm.out (fun i h1 h2 => Hno.out i h1 h2 (by omega))])
   go_wp2_with fail
   go_ret
   exact ⟨ret_bool hf.out, Hb.out⟩
  have hlt' : k < m.length := by omega
  obtain ⟨b, o, rfl, hlb, c0, c1, c2, c3⟩ := (HR.out.mono Hb.out).pc hlt
  obtain ⟨b', o', rfl, hlb', d0, d1, d2, d3⟩ := (HR'.out.mono Hb.out).pc hlt'
  have v1 := HV.out k hlt
  have v2 := HV'.out k hlt'
  obtain ⟨Av, cv, hv, -⟩ := HV.out k hlt
  obtain ⟨Av', cv', hv', -⟩ := HV'.out k hlt'
  have T1 : ∀ W, Below w.heap.size w W → Calls Tryz.prog 28 #[l[k].2, m[k].2] W _ := fun W hW => SamePath_spec l[k].2 m[k].2 l[k].1.path m[k].1.path W (v1.mono hW) (v2.mono hW)
  rw [hv, hv'] at T1
  rw [hv] at c1
  rw [hv'] at d1
  have HT := Lib.hid T1
  have r1 : 0 ≤ (k : Int) := by omega
  have r2 : (k : Int) < m.length := by omega
  have r3 : (k : Int) < l.length := by omega
  have HX := Lib.hid (@Pc.ext_iff' l[k].1 m[k].1)
  have HNe := Lib.hid (fun hh => map_ne_at (l := l) (m := m) k hlt hlt' hh)
  clear v1 v2 hv hv' T1
  obtain ⟨x, hx⟩ : ∃ x, l[k].1 = x := ⟨_, rfl⟩
  obtain ⟨y, hy⟩ : ∃ y, m[k].1 = y := ⟨_, rfl⟩
  rw [hx, hy] at HNe HX
  rw [hx] at c0 c1 c2 c3 HT
  rw [hy] at d0 d1 d2 d3 HT
  have HY := Lib.hid (⟨hx, hy⟩ : l[k].1 = x ∧ m[k].1 = y)
  clear hx hy
  cases e1 : (x.arc != y.arc)
  case true =>
   have hf := Lib.hid (show false = q by rw [← Hq.out, HNe.out (fun e => by rw [(HX.out.1 e).1] at e1; simp at e1)])
   go_upto_region 6 with fail
   refine rg_start (Since wr) (.run 51 0 0 (.done)) (by kernel_rfl) (bD (bR _)) (by kernel_rfl) (by kernel_rfl) (Nat.le_of_ble_eq_true (by kernel_rfl)) ?_
   intro opsR QR Hops HQrg hS
   iterate 12
    apply rg_p; exact Hops; exact rfl; exact hS; exact rfl
    · intro _ hqc; go_simp; try rfl
    try simp only [pu]
   iterate 11
    refine rg_yn Hops rfl hS rfl rfl rfl rfl rfl ?_
    try simp only [pu]
   iterate 2
    apply rg_p; exact Hops; exact rfl; exact hS; exact rfl
    · intro _ hqc; go_simp; try rfl
    try simp only [pu]
   iterate 11
    refine rg_yn Hops rfl hS rfl rfl rfl rfl rfl ?_
    try simp only [pu]
   iterate 2
    apply rg_p; exact Hops; exact rfl; exact hS; exact rfl
    · intro _ hqc; go_simp; try rfl
    try simp only [pu]
   iterate 12
    refine rg_yn Hops rfl hS rfl rfl rfl rfl rfl ?_
    try simp only [pu]
   apply rg_p; exact Hops; exact rfl; exact hS; exact rfl
   · intro _ hqc; go_simp; try rfl
   try simp only [pu]
   refine rg_done ?_
   refine HQrg.down _ _ ?_
   have hB : Below wr.heap.size wr wr.drew := hS
   clear hS HQrg Hops
   have Bw := bT Hb.out hB
   clear hB
   go_wp2_with fail
   go_ret
   exact ⟨ret_bool hf.out, Bw⟩
  case false =>
  cases e2 : (x.enter != y.enter)
  case true =>
   have hf := Lib.hid (show false = q by rw [← Hq.out, HNe.out (fun e => by rw [(HX.out.1 e).2.1] at e2; simp at e2)])
   go_upto_region 6 with fail
   refine rg_start (Since wr) (.run 51 0 0 (.done)) (by kernel_rfl) (bD (bR _)) (by kernel_rfl) (by kernel_rfl) (Nat.le_of_ble_eq_true (by kernel_rfl)) ?_
   intro opsR QR Hops HQrg hS
   iterate 12
    apply rg_p; exact Hops; exact rfl; exact hS; exact rfl
    · intro _ hqc; go_simp; try rfl
    try simp only [pu]
   iterate 11
    apply rg_g; exact Hops; exact rfl; exact hS; iterate 4 exact rfl
    · intro _ hqc; go_simp; try rfl
    try simp only [pu]
   iterate 2
    apply rg_p; exact Hops; exact rfl; exact hS; exact rfl
    · intro _ hqc; go_simp; try rfl
    try simp only [pu]
   iterate 11
    refine rg_yn Hops rfl hS rfl rfl rfl rfl rfl ?_
    try simp only [pu]
   iterate 2
    apply rg_p; exact Hops; exact rfl; exact hS; exact rfl
    · intro _ hqc; go_simp; try rfl
    try simp only [pu]
   iterate 12
    refine rg_yn Hops rfl hS rfl rfl rfl rfl rfl ?_
    try simp only [pu]
   apply rg_p; exact Hops; exact rfl; exact hS; exact rfl
   · intro _ hqc; go_simp; try rfl
   try simp only [pu]
   refine rg_done ?_
   refine HQrg.down _ _ ?_
   have hB : Below wr.heap.size wr wr.drew := hS
   clear hS HQrg Hops
   have Bw := bT Hb.out hB
   clear hB
   go_wp2_with fail
   go_ret
   exact ⟨ret_bool hf.out, Bw⟩
  case false =>
  cases e3 : (x.leave != y.leave)
  case true =>
   have hf := Lib.hid (show false = q by rw [← Hq.out, HNe.out (fun e => by rw [(HX.out.1 e).2.2.1] at e3; simp at e3)])
   go_upto_region 6 with fail
   refine rg_start (Since wr) (.run 51 0 0 (.done)) (by kernel_rfl) (bD (bR _)) (by kernel_rfl) (by kernel_rfl) (Nat.le_of_ble_eq_true (by kernel_rfl)) ?_
   intro opsR QR Hops HQrg hS
   iterate 12
    apply rg_p; exact Hops; exact rfl; exact hS; exact rfl
    · intro _ hqc; go_simp; try rfl
    try simp only [pu]
   iterate 11
    apply rg_g; exact Hops; exact rfl; exact hS; iterate 4 exact rfl
    · intro _ hqc; go_simp; try rfl
    try simp only [pu]
   iterate 2
    apply rg_p; exact Hops; exact rfl; exact hS; exact rfl
    · intro _ hqc; go_simp; try rfl
    try simp only [pu]
   iterate 11
    apply rg_g; exact Hops; exact rfl; exact hS; iterate 4 exact rfl
    · intro _ hqc; go_simp; try rfl
    try simp only [pu]
   iterate 2
    apply rg_p; exact Hops; exact rfl; exact hS; exact rfl
    · intro _ hqc; go_simp; try rfl
    try simp only [pu]
   iterate 12
    refine rg_yn Hops rfl hS rfl rfl rfl rfl rfl ?_
    try simp only [pu]
   apply rg_p; exact Hops; exact rfl; exact hS; exact rfl
   · intro _ hqc; go_simp; try rfl
   try simp only [pu]
   refine rg_done ?_
   refine HQrg.down _ _ ?_
   have hB : Below wr.heap.size wr wr.drew := hS
   clear hS HQrg Hops
   have Bw := bT Hb.out hB
   clear hB
   go_wp2_with fail
   go_ret
   exact ⟨ret_bool hf.out, Bw⟩
  case false =>
  have h123 := Lib.hid (show x.arc = y.arc ∧ x.enter = y.enter ∧ x.leave = y.leave from ⟨by simpa using e1, by simpa using e2, by simpa using e3⟩)
  obtain ⟨z, hz⟩ : ∃ z, decide (x.path = y.path) = z := ⟨_, rfl⟩
  rw [hz] at HT
  have HZ := Lib.hid hz
  clear hz
  generalize x.path.length = n1 at *
  generalize y.path.length = n2 at *
  go_upto_region 6 with fail
  refine rg_start (Since wr) (.run 48 0 0 (.call 48 562949953421311 (.take 49 1125899906842623 (.take 50 2251799813685247 (.done))))) (by kernel_rfl) (bD (bR _)) (by kernel_rfl) (by kernel_rfl) (Nat.le_of_ble_eq_true (by kernel_rfl)) ?_
  intro opsR QR Hops HQrg hS
  iterate 12
   apply rg_p; exact Hops; exact rfl; exact hS; exact rfl
   · intro _ hqc; go_simp; try rfl
   try simp only [pu]
  iterate 11
   apply rg_g; exact Hops; exact rfl; exact hS; iterate 4 exact rfl
   · intro _ hqc; go_simp; try rfl
   try simp only [pu]
  iterate 2
   apply rg_p; exact Hops; exact rfl; exact hS; exact rfl
   · intro _ hqc; go_simp; try rfl
   try simp only [pu]
  iterate 11
   apply rg_g; exact Hops; exact rfl; exact hS; iterate 4 exact rfl
   · intro _ hqc; go_simp; try rfl
   try simp only [pu]
  iterate 2
   apply rg_p; exact Hops; exact rfl; exact hS; exact rfl
   · intro _ hqc; go_simp; try rfl
   try simp only [pu]
  iterate 10
   apply rg_g; exact Hops; exact rfl; exact hS; iterate 4 exact rfl
   · intro _ hqc; go_simp; try rfl
   try simp only [pu]
  refine rg_call (i := 48) (get_of Hops rfl) (fun K hK => ?_)
  have HSrg := Lib.hid hS; clear hS
  refine rg_run (wanted_yes rfl (get_of Hops rfl) rfl rfl) ?_
  go_simp
  refine (HT.out _ (bT Hb.out HSrg.out)).mono ?_
  rintro e wr1 ⟨rfl, hbr1⟩
  have hS : Since wr wr1 := bT (w := wr) HSrg.out hbr1
  clear HSrg
  refine hK.out _ _ hS (fun _ => ?_)
  clear hK K
  try simp only [pu]
  apply rg_g; exact Hops; exact rfl; exact hS; iterate 4 exact rfl
  · intro _ hqc; go_simp; try rfl
  try simp only [pu]
  apply rg_p; exact Hops; exact rfl; exact hS; exact rfl
  · intro _ hqc; go_simp; try rfl
  try simp only [pu]
  refine rg_done ?_
  refine HQrg.down _ _ ?_
  have hB : Below wr.heap.size wr wr1 := hS
  clear hS HQrg Hops
  have Bw := bT Hb.out hB
  clear hB
  cases z
  ·
   have hf := Lib.hid (show false = q by rw [← Hq.out, HNe.out (fun e => of_decide_eq_false HZ.out (HX.out.1 e).2.2.2)])
   go_wp2_with fail
   go_ret
   exact ⟨ret_bool hf.out, Bw⟩
  ·
   have hg := Lib.hid (show l[k].1 = m[k].1 by rw [HY.out.1, HY.out.2]; exact HX.out.2 ⟨h123.out.1, h123.out.2.1, h123.out.2.2, of_decide_eq_true HZ.out⟩)
   go_wp2_with fail
   go_roundw
   case rel => exact ⟨k + 1, by omega, by go_num, Bw, fun j hj hj' hjk => if e : j < k then Hno.out j hj hj' e else by
     have : j = k := by omega
     subst this; exact hg.out⟩
   case measure => simp [intOf]; omega
end Go.Proofs.YtfondidmklmonaaGreat
namespace Go.Proofs.YtfondidmklmonaaGreat
open Go.RowKit

theorem Prt.ext_iff' {a b : Prt} : a = b ↔ a.sheet = b.sheet ∧ a.pieces = b.pieces ∧ a.nodes = b.nodes := by
 cases a; cases b
 simp only [Prt.mk.injEq]
instance : DecidableEq Prt := fun a b =>
 if h : a.sheet = b.sheet ∧ a.pieces = b.pieces ∧ a.nodes = b.nodes then isTrue (Prt.ext_iff'.2 h) else isFalse (fun e => h (Prt.ext_iff'.1 e))

end Go.Proofs.YtfondidmklmonaaGreat
namespace Go.Proofs.YtfondidmklmonaaGreat
open Go.RowKit

set_option maxHeartbeats 400000 in
theorem SameInts_spec (v u : Value) (l m : List Int) (w : World) (h : Ints w v l) (h' : Ints w u m) :
  Calls Tryz.prog 20 #[v, u] w fun e w' => e = .returned (.bool (decide (l = m))) ∧ Below w.heap.size w w' := by
 obtain ⟨A, c, rfl, hn, hc, hR⟩ := h
 obtain ⟨A', c', rfl, hn', hc', hR'⟩ := h'
 unfold maxLen at hc hc'
 by_cases hlen : l.length = m.length
 case neg =>
  have hf := Lib.hid (decide_eq_false (fun e : l = m => hlen (congrArg List.length e)))
  have hl1 : ((l.length : Int) != (m.length : Int)) = true := by rw [bne_iff_ne]; omega
  have hl2 : (l.length != m.length) = true := by rw [bne_iff_ne]; omega
  clear hlen
  go_enter Tryz.func20, Tryz.ntmps20
  go_wp2_with fail
  go_ret
  exact ⟨ret_bool hf.out.symm, bR w⟩
 case pos =>
 have hl1 : ((l.length : Int) != (m.length : Int)) = false := by simp [hlen]
 have hl2 : (l.length != m.length) = false := by simp [hlen]
 have Hlen := Lib.hid hlen; clear hlen
 go_enter Tryz.func20, Tryz.ntmps20
 go_wp2_with fail
 go_loopw [5] (fun i wr => ∃ k : Nat, k ≤ l.length ∧ i = .int .i64 k ∧ Below w.heap.size w wr ∧ ∀ j (hj : j < l.length) (hj' : j < m.length), j < k → l[j] = m[j]) (fun i _ => l.length - (intOf i).toNat)
 case atStart => exact ⟨0, Nat.zero_le _, rfl, bR w, fun j _ _ h => by omega⟩
 case round =>
  obtain ⟨k, hk, rfl, hb, hno⟩ := hrel
  have Hb := Lib.hid hb
  have Hno := Lib.hid hno
  clear hb hno hl1 hl2
  by_cases hlt : k < l.length
  ·
   have hlt' : k < m.length := by have := Hlen.out; omega
   obtain ⟨b, o, rfl, hlb, c0⟩ := (hR.mono Hb.out).int hlt
   obtain ⟨b', o', rfl, hlb', c0q⟩ := (hR'.mono Hb.out).int hlt'
   have HR := Lib.hid hR; have HR' := Lib.hid hR'; clear hR hR'
   have q1 : 0 ≤ (k : Int) := by omega
   have q2 : (k : Int) < l.length := by omega
   have q3 : (k : Int) < m.length := by omega
   by_cases he : l[k] = m[k]
   ·
    have hd : (l[k] != m[k]) = false := by simpa using he
    have He := Lib.hid he; clear he
    go_upto_region 6 with fail
    refine rg_start (Since wr) (.run 9 0 0 (.done)) (by kernel_rfl) (bD (bR _)) (by kernel_rfl) (by kernel_rfl) (Nat.le_of_ble_eq_true (by kernel_rfl)) ?_
    intro opsR QR Hops HQrg hS
    iterate 9
     apply rg_p; exact Hops; exact rfl; exact hS; exact rfl
     · intro _ hqc; go_simp; try rfl
     try simp only [pu]
    refine rg_done ?_
    refine HQrg.down _ _ ?_
    have hB : Below wr.heap.size wr wr.drew := hS
    clear hS HQrg Hops
    have Bw : Below w.heap.size w wr.drew := bT Hb.out hB
    clear hB
    go_wp2_with fail
    go_roundw
    case rel => exact ⟨k + 1, by omega, by go_num, Bw, fun j hj hj' hjk => if e : j < k then Hno.out j hj hj' e else by
      have : j = k := by omega
      subst this; exact He.out⟩
    case measure => simp [intOf]; omega
   ·
    have hd : (l[k] != m[k]) = true := by simpa using he
    have He := Lib.hid he; clear he
    go_upto_region 6 with fail
    refine rg_start (Since wr) (.run 9 0 0 (.done)) (by kernel_rfl) (bD (bR _)) (by kernel_rfl) (by kernel_rfl) (Nat.le_of_ble_eq_true (by kernel_rfl)) ?_
    intro opsR QR Hops HQrg hS
    iterate 9
     apply rg_p; exact Hops; exact rfl; exact hS; exact rfl
     · intro _ hqc; go_simp; try rfl
     try simp only [pu]
    refine rg_done ?_
    refine HQrg.down _ _ ?_
    have hB : Below wr.heap.size wr wr.drew := hS
    clear hS HQrg Hops
    have Bw : Below w.heap.size w wr.drew := bT Hb.out hB
    clear hB
    go_wp2_with fail
    go_ret
    exact ⟨ret_bool (decide_eq_false (ne_of_at k hlt hlt' He.out)).symm, Bw⟩
  ·
   have hf := Lib.hid (decide_eq_true (eq_of_all Hlen.out fun j hj => Hno.out j hj (by have := Hlen.out; omega) (by omega)))
   go_wp2_with fail
   go_ret
   exact ⟨ret_bool hf.out.symm, Hb.out⟩

set_option maxHeartbeats 1000000 in
theorem SamePc1_spec (a b : Pc) (va vb : Value) (w : World) (ha : Pts w va a.path) (hb : Pts w vb b.path) :
  Calls Tryz.prog 41 #[pcV a va, pcV b vb] w fun e w' => e = .returned (.bool (decide (a = b))) ∧ Below w.heap.size w w' := by
 have TP : ∀ W, Below w.heap.size w W → Calls Tryz.prog 42 #[va, vb] W _ := fun W hW => Equal_pt_spec va vb a.path b.path W (ha.mono hW) (hb.mono hW)
 obtain ⟨A, c, rfl, -⟩ := ha
 obtain ⟨A', c', rfl, -⟩ := hb
 have HP := Lib.hid TP; clear TP
 generalize hl : a.path.length = l at *
 generalize hl' : b.path.length = l' at *
 have hx := @Pc.ext_iff' a b
 have Hx := Lib.hid hx; clear hx hl hl'
 unfold pcV
 cases hid : (a.arc == b.arc)
 case false =>
  have hf := Lib.hid (decide_eq_false (fun e : a = b => by have := (Hx.out.1 e); simp_all) : decide (a = b) = false)
  go_enter Tryz.func41, Tryz.ntmps41
  go_wp2_with fail
  go_ret
  refine ⟨ret_bool hf.out.symm, ?_⟩
  repeat (first | with_reducible exact bR _ | with_reducible assumption | with_reducible refine bA ?_ _ | with_reducible refine bD ?_ | with_reducible refine bN ?_ _ | ((with_reducible refine bS ?_ ?_ _); rotate_left; (simp; try omega)) | ((with_reducible refine bT ?_ ?_); rotate_left; with_reducible assumption) | with_reducible refine bT ?_ (by assumption))
 case true =>
 cases hfr : (a.enter == b.enter)
 case false =>
  have hf := Lib.hid (decide_eq_false (fun e : a = b => by have := (Hx.out.1 e); simp_all) : decide (a = b) = false)
  go_enter Tryz.func41, Tryz.ntmps41
  go_wp2_with fail
  go_ret
  refine ⟨ret_bool hf.out.symm, ?_⟩
  repeat (first | with_reducible exact bR _ | with_reducible assumption | with_reducible refine bA ?_ _ | with_reducible refine bD ?_ | with_reducible refine bN ?_ _ | ((with_reducible refine bS ?_ ?_ _); rotate_left; (simp; try omega)) | ((with_reducible refine bT ?_ ?_); rotate_left; with_reducible assumption) | with_reducible refine bT ?_ (by assumption))
 case true =>
 cases hto : (a.leave == b.leave)
 case false =>
  have hf := Lib.hid (decide_eq_false (fun e : a = b => by have := (Hx.out.1 e); simp_all) : decide (a = b) = false)
  go_enter Tryz.func41, Tryz.ntmps41
  go_wp2_with fail
  go_ret
  refine ⟨ret_bool hf.out.symm, ?_⟩
  repeat (first | with_reducible exact bR _ | with_reducible assumption | with_reducible refine bA ?_ _ | with_reducible refine bD ?_ | with_reducible refine bN ?_ _ | ((with_reducible refine bS ?_ ?_ _); rotate_left; (simp; try omega)) | ((with_reducible refine bT ?_ ?_); rotate_left; with_reducible assumption) | with_reducible refine bT ?_ (by assumption))
 case true =>
 cases hv : decide (a.path = b.path)
 all_goals
  have hf : decide (a = b) = decide (a.path = b.path) := by
   rw [Bool.eq_iff_iff, decide_eq_true_iff, decide_eq_true_iff, Hx.out]
   simp only [beq_iff_eq] at *
   constructor
   · intro h; exact h.2.2.2
   · intro h; exact ⟨by assumption, by assumption, by assumption, h⟩
  rw [hv] at hf
  have Hf := Lib.hid hf; clear hf
  go_enter Tryz.func41, Tryz.ntmps41
  go_wp2_with fail
  refine (HP.out _ (bA (bA (bR w) _) _)).mono ?_
  rintro e w1 ⟨rfl, hb1⟩
  rw [hv]
  go_wp2_with fail
  go_ret
  exact ⟨ret_bool Hf.out.symm, bT (bA (bA (bR w) _) _) hb1⟩

set_option maxRecDepth 100000 in
set_option maxHeartbeats 1000000 in
theorem EqualFunc_pc_spec (v u : Value) (l m : List (Pc × Value)) (w : World) (h : Pcs w v l) (h' : Pcs w u m) :
  Calls Tryz.prog 43 #[v, u, .func (.func 41) #[] #[]] w fun e w' => e = .returned (.bool (decide (l.map (·.1) = m.map (·.1)))) ∧ Below w.heap.size w w' := by
 obtain ⟨⟨A, c, rfl, hn, hc, hR⟩, hV⟩ := h
 obtain ⟨⟨A', c', rfl, hn', hc', hR'⟩, hV'⟩ := h'
 unfold maxLen at hc hc'
 have HV := Lib.hid hV; have HV' := Lib.hid hV'; have HR := Lib.hid hR; have HR' := Lib.hid hR'
 clear hV hV' hR hR'
 obtain ⟨q, hq⟩ : ∃ q, decide (l.map (·.1) = m.map (·.1)) = q := ⟨_, rfl⟩
 rw [hq]
 have Hq := Lib.hid hq; clear hq
 by_cases hlm : l.length = m.length
 case neg =>
  have hf := Lib.hid (show false = q by rw [← Hq.out, eq_comm, decide_eq_false_iff_not]; exact fun e => hlm (by simpa using congrArg List.length e))
  have hne : ((l.length : Int) != (m.length : Int)) = true := by simp; omega
  clear hlm
  go_enter Tryz.func43, Tryz.ntmps43
  go_wp2_with fail
  go_ret
  exact ⟨ret_bool hf.out, bR w⟩
 have hne : ((l.length : Int) != (m.length : Int)) = false := by simp; omega
 have Hlm := Lib.hid hlm
 have hle : l.length ≤ m.length := by omega
 clear hlm
 go_enter Tryz.func43, Tryz.ntmps43
 go_wp2_with fail
 go_loopw [17] (fun s wr => ∃ k : Nat, k ≤ l.length ∧ s = .int .i64 k ∧ Below w.heap.size w wr ∧ ∀ j (hj : j < l.length) (hj' : j < m.length), j < k → l[j].1 = m[j].1) (fun s _ => l.length - (intOf s).toNat)
 case atStart => exact ⟨0, Nat.zero_le _, rfl, bR w, fun _ _ _ h => by omega⟩
 case round =>
  obtain ⟨k, hk, rfl, hb, hno⟩ := hrel
  have Hb := Lib.hid hb
  have Hno := Lib.hid hno
  clear hb hno
  by_cases hlt : k < l.length
  case neg =>
   have hf := Lib.hid (show true = q by
    rw [← Hq.out, eq_comm, decide_eq_true_iff]
    refine List.ext_getElem (by simpa using Hlm.out) fun i h1 h2 => ?_
    simp only [List.getElem_map]
    exact Hno.out i (by simpa using h1) (by simpa using h2) (by rw [List.length_map] at h1; omega))
   go_wp2_with fail
   go_ret
   exact ⟨ret_bool hf.out, Hb.out⟩
  have hlt' : k < m.length := by omega
  obtain ⟨b, o, rfl, hlb, c0, c1, c2, c3⟩ := (HR.out.mono Hb.out).pc hlt
  obtain ⟨b', o', rfl, hlb', d0, d1, d2, d3⟩ := (HR'.out.mono Hb.out).pc hlt'
  have v1 := HV.out k hlt
  have v2 := HV'.out k hlt'
  obtain ⟨Av, cv, hv, -⟩ := HV.out k hlt
  obtain ⟨Av', cv', hv', -⟩ := HV'.out k hlt'
  have T1 : ∀ W, Below w.heap.size w W → Calls Tryz.prog 41 #[pcV l[k].1 l[k].2, pcV m[k].1 m[k].2] W _ := fun W hW => SamePc1_spec l[k].1 m[k].1 l[k].2 m[k].2 W (v1.mono hW) (v2.mono hW)
  unfold pcV at T1
  rw [hv, hv'] at T1
  rw [hv] at c1
  rw [hv'] at d1
  have HT := Lib.hid T1
  have r1 : 0 ≤ (k : Int) := by omega
  have r2 : (k : Int) < m.length := by omega
  clear v1 v2 hv hv' T1
  go_wp2_with fail
  refine (HT.out _ (bA (bA Hb.out _) _)).mono ?_
  rintro e w2 ⟨rfl, hb2⟩
  have B2 := bT (bA (bA Hb.out _) _) hb2
  cases he : decide (l[k].1 = m[k].1)
  case false =>
   have hf := Lib.hid (show false = q by
    rw [← Hq.out, eq_comm, decide_eq_false_iff_not]
    intro e
    have := congrArg (fun x : List Pc => x[k]?) e
    simp [hlt, hlt'] at this
    exact of_decide_eq_false he this)
   clear he
   go_wp2_with fail
   go_ret
   exact ⟨ret_bool hf.out, B2⟩
  case true =>
   have hg := Lib.hid (of_decide_eq_true he)
   clear he
   go_wp2_with fail
   go_roundw
   case rel => exact ⟨k + 1, by omega, by go_num, B2, fun j hj hj' hjk => if e : j < k then Hno.out j hj hj' e else by
     have : j = k := by omega
     subst this; exact hg.out⟩
   case measure => simp [intOf]; omega
set_option maxRecDepth 100000 in
set_option maxHeartbeats 1000000 in
theorem cSame_spec (v u : Value) (a b : Prt) (w : World) (ha : PrtV w v a) (hb : PrtV w u b) :
  Calls Tryz.prog 19 #[v, u] w fun e w' => e = .returned (.bool (decide (a = b))) ∧ Below w.heap.size w w' := by
 obtain ⟨vp, vn, pl, rfl, hpa, h1, h2⟩ := ha
 obtain ⟨up, un, ql, rfl, hpb, k1, k2⟩ := hb
 have TN : ∀ W, Below w.heap.size w W → Calls Tryz.prog 44 #[vn, un] W _ := fun W hW => Equal_nd_spec vn un a.nodes b.nodes W (h2.mono hW) (k2.mono hW)
 have TA : ∀ W, Below w.heap.size w W → Calls Tryz.prog 43 #[vp, up, .func (.func 41) #[] #[]] W _ := fun W hW => EqualFunc_pc_spec vp up pl ql W (h1.mono hW) (k1.mono hW)
 rw [← hpa, ← hpb] at TA
 have HN := Lib.hid TN; have HA := Lib.hid TA
 obtain ⟨q, hq⟩ : ∃ q, decide (a = b) = q := ⟨_, rfl⟩
 rw [hq]
 have Hq := Lib.hid hq
 have HX := Lib.hid (@Prt.ext_iff' a b)
 obtain ⟨⟨Ap, cp, rfl, -⟩, -⟩ := h1
 obtain ⟨⟨Bp, dp, rfl, -⟩, -⟩ := k1
 obtain ⟨An, cn, rfl, -⟩ := h2
 obtain ⟨Bn, dn, rfl, -⟩ := k2
 generalize a.nodes.length = x1 at *
 generalize pl.length = x2 at *
 generalize b.nodes.length = y1 at *
 generalize ql.length = y2 at *
 clear TN TA hq hpa hpb
 cases e0 : (a.sheet == b.sheet)
 case false =>
  have hf := Lib.hid (show false = q by rw [← Hq.out, eq_comm, decide_eq_false_iff_not]; intro e; rw [e] at e0; simp at e0)
  go_enter Tryz.func19, Tryz.ntmps19
  go_wp2_with fail
  go_ret
  refine ⟨ret_bool hf.out, ?_⟩
  repeat (first | with_reducible exact bR _ | with_reducible assumption | with_reducible refine bA ?_ _ | with_reducible refine bD ?_ | with_reducible refine bN ?_ _ | ((with_reducible refine bS ?_ ?_ _); rotate_left; (simp; try omega)) | ((with_reducible refine bT ?_ ?_); rotate_left; with_reducible assumption) | with_reducible refine bT ?_ (by assumption))
 have hs := Lib.hid (show a.sheet = b.sheet by simpa using e0)
 go_enter Tryz.func19, Tryz.ntmps19
 go_wp2_with fail
 refine (HA.out _ (bA (bA (bR w) _) _)).mono ?_
 rintro e w1 ⟨rfl, hb1⟩
 have Bw : Below w.heap.size w w1 := by
  repeat (first | with_reducible exact bR _ | with_reducible assumption | with_reducible refine bA ?_ _ | with_reducible refine bD ?_ | with_reducible refine bN ?_ _ | ((with_reducible refine bS ?_ ?_ _); rotate_left; (simp; try omega)) | ((with_reducible refine bT ?_ ?_); rotate_left; with_reducible assumption) | with_reducible refine bT ?_ (by assumption))
 have X2 : Blk _ (w.heap.size) 35 #[.int .i64 a.sheet, .slice Ap x2 cp, .slice An x1 cn] := Blk.keep (by repeat (first | exact Blk.made (by simp) _ _ | refine Blk.alloc ?_ _)) hb1
 have X3 : Blk _ (w.heap.size + 1) 35 #[.int .i64 b.sheet, .slice Bp y2 dp, .slice Bn y1 dn] := Blk.keep (by repeat (first | exact Blk.made (by simp) _ _ | refine Blk.alloc ?_ _)) hb1
 clear hb1
 obtain ⟨X2l, X2a, X2b, X2c, -, -, -⟩ := X2.facts3
 obtain ⟨X3l, X3a, X3b, X3c, -, -, -⟩ := X3.facts3
 cases e1 : decide (a.pieces = b.pieces)
 case false =>
  have hf := Lib.hid (show false = q by rw [← Hq.out, eq_comm, decide_eq_false_iff_not]; intro e; exact of_decide_eq_false e1 (HX.out.1 e).2.1)
  clear e1
  go_wp2_with fail
  go_ret
  exact ⟨ret_bool hf.out, Bw⟩
 have E1 := Lib.hid (of_decide_eq_true e1); clear e1
 go_wp2_with fail
 refine (HN.out _ Bw).mono ?_
 rintro e w3 ⟨rfl, hb3⟩
 have hf := Lib.hid (show decide (a.nodes = b.nodes) = q by
  rw [← Hq.out, Bool.eq_iff_iff, decide_eq_true_iff, decide_eq_true_iff, HX.out]
  exact ⟨fun h => ⟨hs.out, E1.out, h⟩, fun h => h.2.2⟩)
 go_wp2_with fail
 go_ret
 exact ⟨ret_bool hf.out, bT Bw hb3⟩
end Go.Proofs.YtfondidmklmonaaGreat
namespace Go.Proofs.YtfondidmklmonaaGreat

/-- one insertion, as mapsheetsref41.Arcs does it -/
def insA (l : List Int) (n : Int) : List Int := l.takeWhile (fun x => decide (x < n)) ++ n :: l.filter (fun x => decide (n < x))
def arcsR (ns : List Int) : List Int := ns.foldl insA []
theorem insA_mem {l : List Int} (hl : l.Pairwise (· < ·)) (n x : Int) : x ∈ insA l n ↔ x = n ∨ x ∈ l := by
 unfold insA
 rw [List.mem_append, List.mem_cons, List.mem_filter]
 have key : x ∈ l.takeWhile (fun x => decide (x < n)) ↔ x ∈ l ∧ x < n := by
  induction l with
  | nil => simp
  | cons a l ih =>
   have hp := List.pairwise_cons.1 hl
   rw [List.takeWhile_cons]
   by_cases ha : a < n
   ·
    simp only [ha, decide_true, if_true, List.mem_cons, ih hp.2]
    constructor
    ·
     rintro (rfl | h)
     · exact ⟨.inl rfl, ha⟩
     · exact ⟨.inr h.1, h.2⟩
    ·
     rintro ⟨rfl | h, h2⟩
     · exact .inl rfl
     · exact .inr ⟨h, h2⟩
   ·
    simp only [ha, decide_false, Bool.false_eq_true, if_false, List.not_mem_nil, false_iff, List.mem_cons, not_and]
    rintro (rfl | h)
    · exact ha
    · have := hp.1 x h; omega
 rw [key]
 simp only [decide_eq_true_eq]
 constructor
 ·
  rintro (h | h | h)
  · exact .inr h.1
  · exact .inl h
  · exact .inr h.1
 ·
  rintro (h | h)
  · exact .inr (.inl h)
  ·
   rcases Int.lt_trichotomy x n with h1 | h1 | h1
   · exact .inl ⟨h, h1⟩
   · exact .inr (.inl h1)
   · exact .inr (.inr ⟨h, h1⟩)
theorem insA_asc {l : List Int} (hl : l.Pairwise (· < ·)) (n : Int) : (insA l n).Pairwise (· < ·) := by
 unfold insA
 have hlt : ∀ x ∈ l.takeWhile (fun x => decide (x < n)), x < n := by
  clear hl
  intro x hx
  induction l with
  | nil => cases hx
  | cons a l ih =>
   rw [List.takeWhile_cons] at hx
   by_cases ha : a < n
   ·
    simp only [ha, decide_true, if_true, List.mem_cons] at hx
    rcases hx with rfl | hx
    · exact ha
    · exact ih hx
   · simp only [ha, decide_false, Bool.false_eq_true, if_false, List.not_mem_nil] at hx
 have hgt : ∀ x ∈ l.filter (fun x => decide (n < x)), n < x := fun x hx => by have := (List.mem_filter.1 hx).2; simpa using this
 rw [List.pairwise_append]
 refine ⟨hl.sublist (List.takeWhile_sublist _), List.pairwise_cons.2 ⟨hgt, hl.sublist List.filter_sublist⟩, fun a ha b hb => ?_⟩
 have h1 := hlt a ha
 rcases List.mem_cons.1 hb with rfl | hb
 · exact h1
 · have := hgt b hb; omega
theorem foldl_insA : ∀ (ns l : List Int), l.Pairwise (· < ·) → (ns.foldl insA l).Pairwise (· < ·) ∧ ∀ x, x ∈ ns.foldl insA l ↔ x ∈ ns ∨ x ∈ l
 | [], l, hl => ⟨hl, fun x => by simp⟩
 | n :: ns, l, hl => by
  obtain ⟨h1, h2⟩ := foldl_insA ns (insA l n) (insA_asc hl n)
  refine ⟨h1, fun x => ?_⟩
  rw [List.foldl_cons, h2, insA_mem hl, List.mem_cons]
  constructor
  ·
   rintro (h | h | h)
   · exact .inl (.inr h)
   · exact .inl (.inl h)
   · exact .inr h
  ·
   rintro ((h | h) | h)
   · exact .inr (.inl h)
   · exact .inl h
   · exact .inr (.inr h)
end Go.Proofs.YtfondidmklmonaaGreat
namespace Go.Proofs.YtfondidmklmonaaGreat
open Go.RowKit

/-- a list of ints of the call's own -/
def RetIn (w : World) (l : List Int) (e : Ending) (w' : World) : Prop :=
 ∃ A c, e = .returned (.slice A l.length c) ∧ Below w.heap.size w w' ∧ Own w' w.heap.size 3 1 inC (.slice A l.length c) l
theorem take_snoc_ {α : Type} (l : List α) {j : Nat} (h : j < l.length) : l.take (j + 1) = l.take j ++ [l[j]] := List.take_succ_eq_append_getElem h
end Go.Proofs.YtfondidmklmonaaGreat
