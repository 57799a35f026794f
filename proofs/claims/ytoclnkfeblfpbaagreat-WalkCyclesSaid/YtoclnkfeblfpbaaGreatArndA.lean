/- walk.Around: its two closures. -/
import Derived.Test.YtoclnkfeblfpbaaGreatJ12
import Derived.Test.YtoclnkfeblfpbaaGreatJ13
import Derived.Test.YtoclnkfeblfpbaaGreatWalkD
import Derived.Test.YtoclnkfeblfpbaaGreatJ01
set_option linter.unusedSimpArgs false
set_option linter.unusedVariables false
namespace Go.Proofs.YtoclnkfeblfpbaaGreat
open Go.RowKit Go.Sort

theorem Own.shape {α : Type} {w : World} {base : Nat} {e : TypeId} {size : Nat} {f : α → List Value} {v : Value} {l : List α} (h : Own w base e size f v l) : ∃ A c, v = .slice A l.length c ∧ l.length ≤ c ∧ c ≤ maxLen := by
  obtain ⟨A, c, rfl, h1, h2, -⟩ := Own.sl h
  exact ⟨A, c, rfl, h1, h2⟩
/-- what the closure 'add' writes: the list of darts, and where each leads -/
structure Arnd (w : World) (B g4 g7 gm n : Nat) (dl : List Int) (f : Int → Pt) (v : Value) : Prop where
  x4 : Blk w g4 24 #[v]
  own : Own w B 3 1 inC v dl
  x7 : Blk w g7 71 #[.map (some gm)]
  mp : MapPts w gm n f
  b4 : B ≤ g4
  bm : B ≤ gm
theorem map_ne {w : World} {gm n : Nat} {f : Int → Pt} (h : MapPts w gm n f) {g : Nat} {t : TypeId} {cs : Array Value} (hg : Blk w g t cs) : g ≠ gm := by
  rintro rfl
  obtain ⟨D, h1, -⟩ := h
  obtain ⟨es, clock, h2, -⟩ := h1
  unfold Blk at hg
  rw [hg] at h2
  cases h2
theorem map_own {w : World} {gm n : Nat} {f : Int → Pt} (h : MapPts w gm n f) {base : Nat} {e : TypeId} {size : Nat} {α : Type} {fe : α → List Value} {v : Value} {l : List α} (ho : Own w base e size fe v l) : v.ownBlock ≠ some gm := by
  rcases ho.2 with ⟨rfl, _⟩ | ⟨g, cap, cur, rfl, _, hh, _⟩
  · simp [Value.ownBlock]
  · intro e'
    exact map_ne h (cs := cur) (g := g) hh (by simpa [Value.ownBlock] using e')

set_option maxRecDepth 100000 in
set_option maxHeartbeats 4000000 in
theorem addD_spec (d : Int) (q : Pt) (B g4 g7 gm n : Nat) (dl : List Int) (f : Int → Pt) (v : Value) (w : World) (h : Arnd w B g4 g7 gm n dl f v) (hB : B ≤ w.heap.size) (hn : n < 4294967296) (hl : dl.length ≤ 1000000) (hd : wfI d) :
    Calls Tryz.prog 47 #[.int .i64 d, .agg #[.int .i64 q.x, .int .i64 q.y], .pointer (some ⟨g4, 0, none⟩), .pointer (some ⟨g7, 0, none⟩)] w fun e w' => e = .returned (.tuple #[]) ∧ (∃ v', Arnd w' B g4 g7 gm (n + 1) (dl ++ [d]) (fun i => if i = d then q else f i) v') ∧ Below B w w' ∧ ∀ g t cs, Blk w g t cs → g ≠ g4 → g ≠ gm → v.ownBlock ≠ some g → Blk w' g t cs := by
  obtain ⟨x4, own, x7, mp, b4, bm⟩ := h
  obtain ⟨A, c, rfl, -⟩ := Own.shape own
  have HX4 := Lib.hid x4; have HO := Lib.hid own; have HX7 := Lib.hid x7; have HM := Lib.hid mp
  have n47 : g4 ≠ g7 := Blk.ne_ x4 x7 (by decide)
  have n4m := map_ne mp x4
  have n7m := map_ne mp x7
  have no4 := Own.ne_blk own x4 (by decide)
  have no7 := Own.ne_blk own x7 (by decide)
  have nom := map_own mp own
  clear own mp
  have HWf := Lib.hid hd
  clear hd
  have X4 := x4; have X7 := x7
  clear x4 x7
  try clear X4l
  try clear X4a
  try clear X4fa
  obtain ⟨X4l, X4a, X4fa⟩ := X4.facts1
  try clear X7l
  try clear X7a
  try clear X7fa
  obtain ⟨X7l, X7a, -⟩ := X7.facts1
  go_enter Tryz.func47, Tryz.ntmps47
  go_upto_region 1 with fail
  obtain ⟨W0, hW⟩ : ∃ W : World, W = w.alloc (.cells #[.int .i64 q.x, .int .i64 q.y] 41) := ⟨_, rfl⟩
  have hA0 : Below w.heap.size w W0 := by rw [hW]; exact bA (bR w) _
  have X5 : Blk W0 w.heap.size 41 #[.int .i64 q.x, .int .i64 q.y] := by rw [hW]; exact Blk.made rfl _ _
  rw [← hW]
  clear hW
  replace X4 := X4.keep hA0
  replace X7 := X7.keep hA0
  have HO0 := Lib.hid (HO.out.keep hA0)
  have HM0 := Lib.hid (HM.out.keep hA0)
  have HA0 := Lib.hid hA0
  have hlt4 : g4 < w.heap.size := HX4.out.lt
  have hz0 := hA0.size
  clear hA0 X4l X4a X4fa X7l X7a
  try clear X4l
  try clear X4a
  try clear X4fa
  obtain ⟨X4l, X4a, X4fa⟩ := X4.facts1
  try clear X5l
  try clear X5a
  try clear X5b
  try clear X5fa
  try clear X5fb
  obtain ⟨X5l, X5a, X5b, -, -⟩ := X5.facts2
  try clear X7l
  try clear X7a
  try clear X7fa
  obtain ⟨X7l, X7a, -⟩ := X7.facts1
  have n54 : w.heap.size ≠ g4 := by omega
  have n57 : w.heap.size ≠ g7 := by have := HX7.out.lt; omega
  have hmlt := HM.out.lt
  go_upto_region 2 with
    (at_builtin
     refine wpList_appl _ rfl (.tmp 6) (.tmp 8) _ rfl (base := B) elem_in inC_len inC_one rfl (Own.alloc HO0.out _) rfl (l2 := [d]) (Sl.lit (n := 1) (Blk.made rfl _ _) rfl (le_maxLen (by omega))) (by simp only [List.length_cons, List.length_nil]; omega) (by simp only [List.length_cons, List.length_nil]; omega) (by simp; omega) ?_
     intro v1 w1 ho1 hg1 hat1
     obtain ⟨A1, c1, hv1, -⟩ := Own.shape ho1
     rw [show (dl ++ [d]).length = dl.length + 1 by simp] at hv1
     subst hv1
     have HO1 := Lib.hid ho1
     have hB1 : Below B W0 w1 := Below.grown (Below.alloc (Below.refl _ _) (by omega) _) hg1 (by simp; omega) (fun g hg => (HO0.out.lt g hg).1)
     have HB1 := Lib.hid hB1
     have no5 : some w.heap.size ≠ (Value.slice A dl.length c).ownBlock := fun e => by have := (HO.out.lt _ e.symm).2; omega
     replace X4 := Blk.grown (X4.alloc _) hg1 (fun e => no4 e.symm)
     replace X5 := Blk.grown (X5.alloc _) hg1 no5
     replace X7 := Blk.grown (X7.alloc _) hg1 (fun e => no7 e.symm)
     have HM1 := Lib.hid ((HM0.out.keep (bA (bR W0) _)).kept hg1 (fun e => nom e.symm))
     have HK1 := Lib.hid (fun g t cs (h : Blk w g t cs) (hne : (Value.slice A dl.length c).ownBlock ≠ some g) => Blk.grown ((h.keep HA0.out).alloc (.cells #[.int .i64 d] 3)) hg1 (fun e => hne e.symm))
     clear ho1 hg1 hat1 hB1 X4l X4a X4fa X5l X5a X5b X7l X7a
     try clear X4l
     try clear X4a
     try clear X4fa
     obtain ⟨X4l, X4a, X4fa⟩ := X4.facts1
     try clear X5l
     try clear X5a
     try clear X5b
     try clear X5fa
     try clear X5fb
     obtain ⟨X5l, X5a, X5b, -, -⟩ := X5.facts2
     try clear X7l
     try clear X7a
     try clear X7fa
     obtain ⟨X7l, X7a, -⟩ := X7.facts1
     )
  obtain ⟨W2, hW2⟩ : ∃ W : World, W = w1.setCell ⟨g4, 0, none⟩ (.slice A1 (dl.length + 1) c1) := ⟨_, rfl⟩
  have no14 := Own.ne_blk HO1.out X4 (by decide)
  have Y4 : Blk W2 g4 24 #[.slice A1 (dl.length + 1) c1] := by rw [hW2]; exact Blk.put1 X4
  have Y7 : Blk W2 g7 71 #[.map (some gm)] := by rw [hW2]; exact X7.far (fun e => n47 e.symm) _
  have Y5 : Blk W2 w.heap.size 41 #[.int .i64 q.x, .int .i64 q.y] := by rw [hW2]; exact X5.far n54 _
  have YO : Own W2 B 3 1 inC (.slice A1 (dl.length + 1) c1) (dl ++ [d]) := by rw [hW2]; exact HO1.out.far no14 _
  have YM : MapPts W2 gm n f := by
    rw [hW2]
    exact HM1.out.kept (row := some g4) ⟨rfl, rfl, rfl, by simp, fun i _ hne => Below.heap_setCell w1 ⟨g4, 0, none⟩ _ i (fun e => hne (by rw [e]))⟩ (fun e => n4m (Option.some.inj e).symm)
  have YB : Below B w W2 := by rw [hW2]; exact (Below.trans (HA0.out.mono hB) HB1.out).setCell b4 _
  rw [← hW2]
  clear X4 X5 X7 X4l X4a X4fa X5l X5a X5b X7l X7a
  obtain ⟨w3, hr3, hm3, hg3⟩ := YM.upd hn d HWf.out q
  have Z4 := Lib.hid (Blk.grown Y4 hg3 (fun e => n4m (Option.some.inj e)))
  have Z7 := Lib.hid (Blk.grown Y7 hg3 (fun e => n7m (Option.some.inj e)))
  have ZO := Lib.hid (Own.grown YO hg3 (fun g' hg' e => map_own YM YO (by rw [hg', e])))
  have ZM := Lib.hid hm3
  have ZB := Lib.hid (YB.grown hg3 (by have := YB.size; omega) (fun g hg => by have := Option.some.inj hg; omega))
  have HK := Lib.hid (show ∀ g t cs, Blk w g t cs → g ≠ g4 → g ≠ gm → (Value.slice A dl.length c).ownBlock ≠ some g → Blk w3 g t cs from fun g t cs h h4 hm' ho => by
    refine Blk.grown ?_ hg3 (fun e => hm' (Option.some.inj e))
    rw [hW2]
    exact (HK1.out g t cs h ho).far h4 _)
  unfold ptV at hr3
  clear hm3 hg3 YO YM YB Y4 hW2
  try clear Y5l
  try clear Y5a
  try clear Y5b
  try clear Y5fa
  try clear Y5fb
  obtain ⟨Y5l, Y5a, Y5b, -, -⟩ := Y5.facts2
  try clear Y7l
  try clear Y7a
  try clear Y7fa
  obtain ⟨Y7l, Y7a, -⟩ := Y7.facts1
  go_wp2_with fail
  exact bodyPost_end (v := .tuple #[]) (results_none rfl _ _ _) rfl ⟨rfl, ⟨_, Z4.out, ZO.out, Z7.out, ZM.out, b4, bm⟩, ZB.out, HK.out⟩

def cmpZ (z1 z2 : Bool) : Int := if z1 then -1 else if z2 then 1 else 0
set_option maxRecDepth 100000 in
set_option maxHeartbeats 4000000 in
theorem cmpD_spec (nd : Nd) (x y : Int) (g5 g7 gm n : Nat) (f : Int → Pt) (w : World) (h5 : Blk w g5 43 #[.int .i64 nd.id, .int .i64 nd.pt.x, .int .i64 nd.pt.y]) (h7 : Blk w g7 71 #[.map (some gm)]) (hm : MapPts w gm n f) (hx : wfI x) (hy : wfI y) :
    Calls Tryz.prog 49 #[.int .i64 x, .int .i64 y, .pointer (some ⟨g5, 0, none⟩), .pointer (some ⟨g7, 0, none⟩)] w fun e w' => e = .returned (.int .i64 (cmpOf (fun a b => lessS nd.pt (f a) (f b)) x y)) ∧ BelowD w w' := by
  have T1 := fun W => Less_spec nd.pt (f x) (f y) W
  have T2 := fun W => Less_spec nd.pt (f y) (f x) W
  have L1 := hm.look x hx
  have L2 := hm.look y hy
  have HM := Lib.hid hm
  have H5 := Lib.hid h5; have H7 := Lib.hid h7
  unfold ptV at T1 T2 L1 L2
  have HX := Lib.hid hx; have HY := Lib.hid hy
  obtain ⟨r, hr⟩ : ∃ r, cmpOf (fun a b => lessS nd.pt (f a) (f b)) x y = r := ⟨_, rfl⟩
  rw [hr]
  replace hr : cmpZ (lessS nd.pt (f x) (f y)) (lessS nd.pt (f y) (f x)) = r := hr
  obtain ⟨z1, hz1⟩ : ∃ z1, lessS nd.pt (f x) (f y) = z1 := ⟨_, rfl⟩
  obtain ⟨z2, hz2⟩ : ∃ z2, lessS nd.pt (f y) (f x) = z2 := ⟨_, rfl⟩
  rw [hz1] at T1 hr
  rw [hz2] at T2 hr
  have Hr := Lib.hid hr
  have H1 := Lib.hid T1; have H2 := Lib.hid T2
  clear T1 T2 hm hx hy hz1 hz2 hr
  have X5 := h5; have X7 := h7
  clear h5 h7
  try clear X5l
  try clear X5a
  try clear X5b
  try clear X5c
  try clear X5fa
  try clear X5fb
  try clear X5fc
  obtain ⟨X5l, X5a, X5b, X5c, -, -, -⟩ := X5.facts3
  try clear X7l
  try clear X7a
  try clear X7fa
  obtain ⟨X7l, X7a, -⟩ := X7.facts1
  go_enter Tryz.func49, Tryz.ntmps49
  go_wp2_with fail
  refine (H1.out _).mono ?_
  rintro e w1 ⟨rfl, hb1, hd1⟩
  have B1 := Lib.hid hb1; have D1 := Lib.hid hd1
  clear hb1 hd1 X5 X7 X5l X5a X5b X5c X7l X7a L1 L2
  cases z1
  case true =>
    go_wp2_with fail
    go_ret
    exact ⟨ret_int (by rw [← Hr.out]; rfl), B1.out, D1.out⟩
  have X5 := H5.out.keep B1.out
  have X7 := H7.out.keep B1.out
  have HM1 := HM.out.keep B1.out
  have L1 := HM1.look x HX.out
  have L2 := HM1.look y HY.out
  unfold ptV at L1 L2
  clear HM1
  try clear X5l
  try clear X5a
  try clear X5b
  try clear X5c
  try clear X5fa
  try clear X5fb
  try clear X5fc
  obtain ⟨X5l, X5a, X5b, X5c, -, -, -⟩ := X5.facts3
  try clear X7l
  try clear X7a
  try clear X7fa
  obtain ⟨X7l, X7a, -⟩ := X7.facts1
  go_wp2_with fail
  refine (H2.out _).mono ?_
  rintro e w2 ⟨rfl, hb2, hd2⟩
  have B2 := Lib.hid (bT B1.out hb2); have D2 := Lib.hid (dT D1.out hd2)
  clear hb2 hd2 X5 X7 X5l X5a X5b X5c X7l X7a L1 L2
  cases z2
  · go_wp2_with fail
    go_ret
    exact ⟨ret_int (by rw [← Hr.out]; rfl), B2.out, D2.out⟩
  · go_wp2_with fail
    go_ret
    exact ⟨ret_int (by rw [← Hr.out]; rfl), B2.out, D2.out⟩
end Go.Proofs.YtoclnkfeblfpbaaGreat
