/- walk.Twice, mapsheetsref15.Twice, for plans with a valid geometry. walk.Around: its two closures. -/
import Derived.Test.YtoclnkfeblfpbaaGreatJ12
import Derived.Test.YtoclnkfeblfpbaaGreatJ11
import Derived.Test.YtoclnkfeblfpbaaGreatJ01
set_option linter.unusedSimpArgs false
set_option linter.unusedVariables false
namespace Go.Proofs.YtoclnkfeblfpbaaGreat
open Go.RowKit

theorem Valid.short {p : Pl} (h : Valid p) : Short p := fun a ha => by have := h.via_len ha; omega
theorem Short.long {p : Pl} (h : Short p) : ShortL p := fun a ha => by have := h a ha; omega
theorem Valid.path_of {p : Pl} (h : Valid p) {d : Int} {a : Ar} (e : arcD p d = some a) : pathOf p (absI d) = some (pathS p a) := by
 obtain ⟨ha, hi⟩ := arcD_mem e
 rw [hi]; exact h.sound.path ha
theorem max_abs (d : Int) : max d (-d) = absI d := by unfold absI; split <;> omega
theorem twiceUp_some {p : Pl} {l : List Int} {k : Nat} (hk : k < l.length) {a : Ar} (e : arcD p l[k] = some a) : twiceUp p l (k + 1) = twiceUp p l k + (if 0 < l[k] then twiceP (pathS p a) else -twiceP (pathS p a)) := by
 have : l.getD k 0 = l[k] := by rw [List.getD_eq_getElem?_getD, List.getElem?_eq_getElem hk]; rfl
 rw [twiceUp, this]
 unfold dartT
 rw [e]
theorem twiceD_bad {p : Pl} {l : List Int} {k : Nat} (hk : k < l.length) (e : arcD p l[k] = none) : twiceD p l = 0 := by
 unfold twiceD
 rw [if_neg]
 rintro ⟨-, h⟩
 have := h _ (List.getElem_mem hk)
 rw [e] at this; cases this
theorem twiceD_good {p : Pl} {l : List Int} (hl : l.length ≤ 512) (h : ∀ j (hj : j < l.length), j < l.length → (arcD p l[j]).isSome = true) : twiceD p l = twiceUp p l l.length := by
 unfold twiceD
 rw [if_pos]
 refine ⟨hl, fun d hd => ?_⟩
 obtain ⟨j, hj, rfl⟩ := List.mem_iff_getElem.1 hd
 exact h j hj hj

set_option maxRecDepth 100000 in
set_option maxHeartbeats 8000000 in
theorem Twice15w_spec (v u : Value) (p : Pl) (l : List Int) (w : World) (h : PlV w v p) (hu : Ints w u l) (hv : Valid p) (hw : ∀ d ∈ l, wfI d) :
  Calls Tryz.prog 19 #[v, u] w fun e w' => e = .returned (.int .i64 (twiceD p l)) ∧ Below w.heap.size w w' := by
 have HA := Lib.hid (fun d (hd : wfI d) W (hW : Below w.heap.size w W) => arcOf_spec v p d W (h.mono hW) hv.short.long hd)
 have HP := Lib.hid (fun id W (hW : Below w.heap.size w W) => Path_spec v p id W (h.mono hW) hv.short)
 obtain ⟨_, _, _, al, rfl, hpa, ⟨An, cn, rfl, -⟩, ⟨⟨Aa, ca, rfl, -⟩, -⟩, ⟨Af, cf, rfl, -⟩⟩ := h
 obtain ⟨Al, cl, rfl, hl1, hl2, hR⟩ := hu
 unfold maxLen at hl2
 have HR := Lib.hid hR
 have HV := Lib.hid hv
 have HW := Lib.hid hw
 generalize al.length = na at *
 generalize p.nodes.length = nn at *
 generalize p.faces.length = nf at *
 obtain ⟨q, hq⟩ : ∃ q, twiceD p l = q := ⟨_, rfl⟩
 rw [hq]
 have Hq := Lib.hid hq
 clear hpa hR hv hw hq
 go_enter Tryz.func19, Tryz.ntmps19
 by_cases hbig : 512 < l.length
 case pos =>
  have hbig' : 512 < (l.length : Int) := by omega
  have hf : q = 0 := by rw [← Hq.out]; unfold twiceD; rw [if_neg (by omega)]
  subst hf
  go_wp2_with fail
  go_ret
  exact ⟨rfl, bA (bR w) _⟩
 have hbig' : ¬ 512 < (l.length : Int) := by omega
 go_wp2_with fail
 obtain ⟨W0, hW⟩ : ∃ W0 : World, W0 = w.alloc (.cells #[.slice An nn cn, .slice Aa na ca, .slice Af nf cf] 26) := ⟨_, rfl⟩
 have HB0 := Lib.hid (show Below w.heap.size w W0 by rw [hW]; exact bA (bR w) _)
 have HX2 := Lib.hid (show Blk W0 w.heap.size 26 #[.slice An nn cn, .slice Aa na ca, .slice Af nf cf] by rw [hW]; exact Blk.made rfl _ _)
 rw [← hW]
 clear hW
 go_loopw [4, 18] (fun n i wr => ∃ k : Nat, k ≤ l.length ∧ i = .int .i64 k ∧ n = .int .i64 (twiceUp p l k) ∧ Below W0.heap.size W0 wr ∧ ∀ j (hj : j < l.length), j < k → (arcD p l[j]).isSome = true) (fun _ i _ => l.length - (intOf i).toNat)
 case atStart => exact ⟨0, Nat.zero_le _, rfl, rfl, bR W0, fun _ _ h => by omega⟩
 case round =>
  obtain ⟨k, hk, rfl, rfl, hb, hno⟩ := hrel
  have Hb := Lib.hid hb
  have Hno := Lib.hid hno
  have X2 := HX2.out.keep hb
  clear hb hno
  obtain ⟨X2l, X2a, X2b, X2c, -, -, -⟩ := X2.facts3
  by_cases hlt : k < l.length
  case neg =>
   have hkk : k = l.length := by omega
   subst hkk
   have hf := twiceD_good (p := p) (l := l) (by omega) Hno.out
   rw [Hq.out] at hf
   have HF := Lib.hid hf
   clear hf
   go_wp2_with fail
   go_ret
   exact ⟨ret_int HF.out.symm, bT HB0.out Hb.out⟩
  obtain ⟨b, o, rfl, hlb, c0⟩ := (HR.out.mono (bT HB0.out Hb.out)).int hlt
  have hwd := HW.out _ (List.getElem_mem hlt)
  have HAr := Lib.hid (HA.out l[k] hwd)
  cases har : arcD p l[k] with
  | none =>
   rw [har] at HAr
   have hf := twiceD_bad hlt har
   rw [Hq.out] at hf
   subst hf
   clear har hwd
   go_wp2_with fail
   refine (HAr.out _ (bT HB0.out Hb.out)).mono ?_
   rintro e w1 ⟨A1, n1, c1, rfl, hb1⟩
   have B1 := Lib.hid (bT Hb.out hb1)
   clear hb1
   simp only [Option.isSome_none]
   go_wp2_with fail
   go_ret
   exact ⟨rfl, bT HB0.out (bA B1.out _)⟩
  | some a =>
  rw [har] at HAr
  have hst := twiceUp_some hlt har
  have hpo := HV.out.path_of har
  have ha := (arcD_mem har).1
  have hpl := pathS_length p a
  have hvl := HV.out.via_len ha
  have HTb := Lib.hid (fun k hk => HV.out.twice_bd ha k hk)
  have hub := HV.out.twiceUp_bd l k
  have hne : l[k] ≠ -9223372036854775808 ∧ l[k] ≠ 0 := by
   constructor
   · intro e; rw [e] at har; unfold arcD at har; rw [if_pos (.inr rfl)] at har; cases har
   · intro e; rw [e] at har; unfold arcD at har; rw [if_pos (.inl rfl)] at har; cases har
  have hbd := wfI_bd hwd
  have HPt := Lib.hid (HP.out (max l[k] (-l[k])))
  have hpm : pathOf p (max l[k] (-l[k])) = some (pathS p a) := by rw [max_abs]; exact hpo
  rw [hpm] at HPt
  unfold RetPathE at HPt
  simp only [Option.getD_some, Option.isSome_some, if_true] at HPt
  have HSt := Lib.hid hst
  have HSo := Lib.hid (show (arcD p l[k]).isSome = true by rw [har]; rfl)
  have HNx := Lib.hid (all_succ (p := fun d => (arcD p d).isSome = true) Hno.out hlt HSo.out)
  have hk1 : IntKind.i64.wrap (-l[k]) = -l[k] := IntWalk.i64_in _ (by omega)
  have HBig := Lib.hid (fun q (hq : q ∈ pathS p a) => HV.out.big_path ha hq)
  have HTl := Lib.hid (HTb.out ((pathS p a).length - 1) (by omega))
  have HNe := Lib.hid hne
  have HSz := Lib.hid (show k + 1 ≤ 512 by omega)
  clear hst hpo har hwd hpm hne hbd
  unfold twiceP at HSt
  generalize twiceUp p l k = n at *
  generalize hP : pathS p a = P at *
  generalize l[k] = d at *
  generalize a.via.length = vl at *
  go_wp2_with fail
  refine (HAr.out _ (bT HB0.out Hb.out)).mono ?_
  rintro e w1 ⟨A1, n1, c1, rfl, hb1⟩
  replace X2 := X2.keep hb1
  have B1 := Lib.hid (bT Hb.out hb1)
  clear hb1 X2l X2a X2b X2c HAr c0 hlb
  simp only [Option.isSome_some, Option.getD_some]
  try clear X2l
  try clear X2a
  try clear X2b
  try clear X2c
  obtain ⟨X2l, X2a, X2b, X2c, -, -, -⟩ := X2.facts3
  go_wp2_with fail
  refine (HPt.out _ (bT HB0.out (bA B1.out _))).mono ?_
  rintro e w2 ⟨A2, c2, rfl, hb2, ho2⟩
  have B2 := Lib.hid (bT (bA B1.out _) hb2)
  obtain ⟨Aq, cq, he, hq1, hq2, hRP⟩ := ho2.sl
  injection he with e1 e2 e3
  subst e1 e3
  clear e2
  unfold maxLen at hq2
  have HRP := Lib.hid hRP
  clear hb2 ho2 hRP HPt X2 X2l X2a X2b X2c
  obtain ⟨N, hN⟩ : ∃ N, P.length = N + 1 := ⟨P.length - 1, by omega⟩
  have HN := Lib.hid hN
  have hNs : N ≤ 65 := by omega
  rw [hN] at HTl HSt
  simp only [Nat.add_sub_cancel] at HTl HSt
  have k2 : IntKind.i64.wrap (N : Int) = (N : Int) := IntWalk.i64_in _ (by omega)
  rw [hN] at hq1 ⊢
  clear hN hpl hvl
  go_wp2_with fail
  obtain ⟨W2, rfl⟩ : ∃ W2 : World, W2 = w2 := ⟨_, rfl⟩
  go_loopw [11, 44] (fun s i wx => ∃ j : Nat, j ≤ N ∧ i = .int .i64 j ∧ s = .int .i64 (twUp P j) ∧ Below W2.heap.size W2 wx) (fun _ i _ => N - (intOf i).toNat)
  case atStart => exact ⟨0, Nat.zero_le _, rfl, rfl, bR W2⟩
  case round =>
   obtain ⟨j, hj, rfl, rfl, hbx⟩ := hrel
   have Hbx := Lib.hid hbx
   clear hbx
   by_cases hjl : j < N
   case pos =>
    have hP1 : j < P.length := by have := HN.out; omega
    have hP2 : j + 1 < P.length := by have := HN.out; omega
    obtain ⟨b1, o1, hA1, hlb1, c0, c1'⟩ := (HRP.out.mono Hbx.out).pt hP1
    subst hA1
    obtain ⟨b2, o2, hA2, -, d0, d1⟩ := (HRP.out.mono Hbx.out).pt hP2
    simp only [Option.some.injEq, Addr.mk.injEq, and_true] at hA2
    obtain ⟨rfl, rfl⟩ := hA2
    have g1 := HBig.out _ (List.getElem_mem hP1)
    have g2 := HBig.out _ (List.getElem_mem hP2)
    have x1 := mul_big g1.1 g2.2
    have x2 := mul_big g2.1 g1.2
    have tb := HTb.out j (by have := HN.out; omega)
    have tb2 := HTb.out (j + 1) (by have := HN.out; omega)
    have hstep : twUp P (j + 1) = twUp P j + (P[j].x * P[j + 1].y - P[j + 1].x * P[j].y) := by
     rw [twUp]
     unfold crossG
     simp only [List.getD_eq_getElem?_getD, List.getElem?_eq_getElem hP1, List.getElem?_eq_getElem hP2, Option.getD_some]
    rw [hstep] at tb2
    have HStep := Lib.hid hstep
    clear hstep g1 g2
    generalize P[j] = p1 at *
    generalize P[j + 1] = p2 at *
    generalize hT : twUp P j = T at *
    have q1 : 0 ≤ (j : Int) := by omega
    have q2 : (j : Int) < (N : Int) + 1 := by omega
    have q3 : 0 ≤ (j : Int) + 1 := by omega
    have q4 : (j : Int) + 1 < (N : Int) + 1 := by omega
    have q5 : ((j : Int) + 1).toNat = j + 1 := by omega
    have m0 : IntKind.i64.wrap ((j : Int) + 1) = (j : Int) + 1 := IntWalk.i64_in _ (by omega)
    have m1 : IntKind.i64.wrap (p1.x * p2.y) = p1.x * p2.y := IntWalk.i64_in _ (by omega)
    have m2 : IntKind.i64.wrap (p2.x * p1.y) = p2.x * p1.y := IntWalk.i64_in _ (by omega)
    have m3 : IntKind.i64.wrap (p1.x * p2.y - p2.x * p1.y) = p1.x * p2.y - p2.x * p1.y := IntWalk.i64_in _ (by omega)
    have m4 : IntKind.i64.wrap (T + (p1.x * p2.y - p2.x * p1.y)) = T + (p1.x * p2.y - p2.x * p1.y) := IntWalk.i64_in _ (by omega)
    clear x1 x2 tb tb2 hT hub
    go_upto_region 16 with fail
    refine rg_start (Since wr) (.run 28 0 0 (.done)) (by kernel_rfl) (bD (bR _)) (by kernel_rfl) (by kernel_rfl) (Nat.le_of_ble_eq_true (by kernel_rfl)) ?_
    intro opsR QR Hops HQrg hS
    iterate 28
     apply rg_p; exact Hops; exact rfl; exact hS; exact rfl
     · intro _ hqc; go_simp; try rfl
     try simp only [pu]
    refine rg_done ?_
    refine HQrg.down _ _ ?_
    have hB : Below wr.heap.size wr wr.drew := hS
    clear hS HQrg Hops
    have Bx := Lib.hid (bT Hbx.out hB)
    clear hB m0 m1 m2 m3 m4
    go_wp2_with fail
    go_roundw
    case rel => exact ⟨j + 1, by omega, by go_num, by rw [HStep.out], Bx.out⟩
    case measure => simp [intOf]; omega
   case neg =>
   have hjj : j = N := by omega
   subst hjj
   have htl := HTl.out
   have hsz := HSz.out
   have Bx := Lib.hid (bT B2.out Hbx.out)
   generalize hT : twUp P j = T at *
   clear hT
   by_cases hneg : d < 0
   ·
    have hst := HSt.out
    rw [if_neg (by omega)] at hst
    have HSt' := Lib.hid hst
    have m1 : IntKind.i64.wrap (-T) = -T := IntWalk.i64_in _ (by omega)
    have m2 : IntKind.i64.wrap (n + -T) = n + -T := IntWalk.i64_in _ (by omega)
    clear hst htl hub hsz
    go_wp2_with fail
    go_roundw
    case rel => exact ⟨k + 1, by omega, by go_num, by rw [HSt'.out], Bx.out, HNx.out⟩
    case measure => simp [intOf]; omega
   ·
    have hst := HSt.out
    rw [if_pos (by have := HNe.out.2; omega)] at hst
    have HSt' := Lib.hid hst
    have m2 : IntKind.i64.wrap (n + T) = n + T := IntWalk.i64_in _ (by omega)
    clear hst htl hub hsz
    go_wp2_with fail
    go_roundw
    case rel => exact ⟨k + 1, by omega, by go_num, by rw [HSt'.out], Bx.out, HNx.out⟩
    case measure => simp [intOf]; omega

theorem pathR_eq {p : Pl} (h : Valid p) {d : Int} {a : Ar} (e : arcD p d = some a) : pathR p d = if 0 < d then pathS p a else (pathS p a).reverse := by
 have hpo := h.path_of e
 unfold absI at hpo
 unfold pathR
 by_cases h1 : 0 < d
 ·
  rw [if_neg (by omega)] at hpo
  rw [if_pos h1, if_pos h1, hpo]; rfl
 ·
  have hne : d ≠ 0 := by
   intro e0; rw [e0] at e; unfold arcD at e; rw [if_pos (.inl rfl)] at e; cases e
  rw [if_pos (by omega)] at hpo
  rw [if_neg h1, if_neg h1, hpo]; rfl
end Go.Proofs.YtoclnkfeblfpbaaGreat
namespace Go.Proofs.YtoclnkfeblfpbaaGreat
open Go.RowKit Go.Sort

theorem Own.shape {α : Type} {w : World} {base : Nat} {e : TypeId} {size : Nat} {f : α → List Value} {v : Value} {l : List α} (h : Own w base e size f v l) : ∃ A c, v = .slice A l.length c ∧ l.length ≤ c ∧ c ≤ maxLen := by
 obtain ⟨A, c, rfl, h1, h2, -⟩ := Own.sl h
 exact ⟨A, c, rfl, h1, h2⟩
/-- what the closure 'add' writes: the list of darts, and where each leads -/
structure Arnd (w : World) (B g4 g7 gm n : Nat) (dl : List Int) (f : Int → Pt) (v : Value) : Prop where
 x4 : Blk w g4 24 #[v]
 own : Own w B 3 1 inC v dl
 x7 : Blk w g7 71 #[.map (some gm)]
 mp : MapPts w gm n f
 b4 : B ≤ g4
 bm : B ≤ gm
theorem map_ne {w : World} {gm n : Nat} {f : Int → Pt} (h : MapPts w gm n f) {g : Nat} {t : TypeId} {cs : Array Value} (hg : Blk w g t cs) : g ≠ gm := by
 rintro rfl
 obtain ⟨D, h1, -⟩ := h
 obtain ⟨es, clock, h2, -⟩ := h1
 unfold Blk at hg
 rw [hg] at h2
 cases h2
theorem map_own {w : World} {gm n : Nat} {f : Int → Pt} (h : MapPts w gm n f) {base : Nat} {e : TypeId} {size : Nat} {α : Type} {fe : α → List Value} {v : Value} {l : List α} (ho : Own w base e size fe v l) : v.ownBlock ≠ some gm := by
 rcases ho.2 with ⟨rfl, _⟩ | ⟨g, cap, cur, rfl, _, hh, _⟩
 · simp [Value.ownBlock]
 ·
  intro e'
  exact map_ne h (cs := cur) (g := g) hh (by simpa [Value.ownBlock] using e')

set_option maxRecDepth 100000 in
set_option maxHeartbeats 4000000 in
theorem addD_spec (d : Int) (q : Pt) (B g4 g7 gm n : Nat) (dl : List Int) (f : Int → Pt) (v : Value) (w : World) (h : Arnd w B g4 g7 gm n dl f v) (hB : B ≤ w.heap.size) (hn : n < 4294967296) (hl : dl.length ≤ 1000000) (hd : wfI d) :
  Calls Tryz.prog 47 #[.int .i64 d, .agg #[.int .i64 q.x, .int .i64 q.y], .pointer (some ⟨g4, 0, none⟩), .pointer (some ⟨g7, 0, none⟩)] w fun e w' => e = .returned (.tuple #[]) ∧ (∃ v', Arnd w' B g4 g7 gm (n + 1) (dl ++ [d]) (fun i => if i = d then q else f i) v') ∧ Below B w w' ∧ ∀ g t cs, Blk w g t cs → g ≠ g4 → g ≠ gm → v.ownBlock ≠ some g → Blk w' g t cs := by
 obtain ⟨x4, own, x7, mp, b4, bm⟩ := h
 obtain ⟨A, c, rfl, -⟩ := Own.shape own
 have HX4 := Lib.hid x4; have HO := Lib.hid own; have HX7 := Lib.hid x7; have HM := Lib.hid mp
 have n47 : g4 ≠ g7 := Blk.ne_ x4 x7 (by decide)
 have n4m := map_ne mp x4
 have n7m := map_ne mp x7
 have no4 := Own.ne_blk own x4 (by decide)
 have no7 := Own.ne_blk own x7 (by decide)
 have nom := map_own mp own
 clear own mp
 have HWf := Lib.hid hd
 clear hd
 have X4 := x4; have X7 := x7
 clear x4 x7
 obtain ⟨X4l, X4a, X4fa⟩ := X4.facts1
 obtain ⟨X7l, X7a, -⟩ := X7.facts1
 go_enter Tryz.func47, Tryz.ntmps47
 go_upto_region 1 with fail
 obtain ⟨W0, hW⟩ : ∃ W : World, W = w.alloc (.cells #[.int .i64 q.x, .int .i64 q.y] 41) := ⟨_, rfl⟩
 have hA0 : Below w.heap.size w W0 := by rw [hW]; exact bA (bR w) _
 have X5 : Blk W0 w.heap.size 41 #[.int .i64 q.x, .int .i64 q.y] := by rw [hW]; exact Blk.made rfl _ _
 rw [← hW]
 clear hW
 replace X4 := X4.keep hA0
 replace X7 := X7.keep hA0
 have HO0 := Lib.hid (HO.out.keep hA0)
 have HM0 := Lib.hid (HM.out.keep hA0)
 have HA0 := Lib.hid hA0
 have hlt4 : g4 < w.heap.size := HX4.out.lt
 have hz0 := hA0.size
 clear hA0 X4l X4a X4fa X7l X7a
 try clear X4l
 try clear X4a
 try clear X4fa
 obtain ⟨X4l, X4a, X4fa⟩ := X4.facts1
 obtain ⟨X5l, X5a, X5b, -, -⟩ := X5.facts2
 try clear X7l
 try clear X7a
 obtain ⟨X7l, X7a, -⟩ := X7.facts1
 have n54 : w.heap.size ≠ g4 := by omega
 have n57 : w.heap.size ≠ g7 := by have := HX7.out.lt; omega
 have hmlt := HM.out.lt
 go_upto_region 2 with
  (at_builtin
   refine wpList_appl _ rfl (.tmp 6) (.tmp 8) _ rfl (base := B) elem_in inC_len inC_one rfl (Own.alloc HO0.out _) rfl (l2 := [d]) (Sl.lit (n := 1) (Blk.made rfl _ _) rfl (le_maxLen (by omega))) (by simp only [List.length_cons, List.length_nil]; omega) (by simp only [List.length_cons, List.length_nil]; omega) (by simp; omega) ?_
   intro v1 w1 ho1 hg1 hat1
   obtain ⟨A1, c1, hv1, -⟩ := Own.shape ho1
   rw [show (dl ++ [d]).length = dl.length + 1 by simp] at hv1
   subst hv1
   have HO1 := Lib.hid ho1
   have hB1 : Below B W0 w1 := Below.grown (Below.alloc (Below.refl _ _) (by omega) _) hg1 (by simp; omega) (fun g hg => (HO0.out.lt g hg).1)
   have HB1 := Lib.hid hB1
   have no5 : some w.heap.size ≠ (Value.slice A dl.length c).ownBlock := fun e => by have := (HO.out.lt _ e.symm).2; omega
   replace X4 := Blk.grown (X4.alloc _) hg1 (fun e => no4 e.symm)
   replace X5 := Blk.grown (X5.alloc _) hg1 no5
   replace X7 := Blk.grown (X7.alloc _) hg1 (fun e => no7 e.symm)
   have HM1 := Lib.hid ((HM0.out.keep (bA (bR W0) _)).kept hg1 (fun e => nom e.symm))
   have HK1 := Lib.hid (fun g t cs (h : Blk w g t cs) (hne : (Value.slice A dl.length c).ownBlock ≠ some g) => Blk.grown ((h.keep HA0.out).alloc (.cells #[.int .i64 d] 3)) hg1 (fun e => hne e.symm))
   clear ho1 hg1 hat1 hB1 X4l X4a X4fa X5l X5a X5b X7l X7a
   try clear X4l
   try clear X4a
   try clear X4fa
   obtain ⟨X4l, X4a, X4fa⟩ := X4.facts1
   try clear X5l
   try clear X5a
   try clear X5b
   obtain ⟨X5l, X5a, X5b, -, -⟩ := X5.facts2
   try clear X7l
   try clear X7a
   obtain ⟨X7l, X7a, -⟩ := X7.facts1
   )
 obtain ⟨W2, hW2⟩ : ∃ W : World, W = w1.setCell ⟨g4, 0, none⟩ (.slice A1 (dl.length + 1) c1) := ⟨_, rfl⟩
 have no14 := Own.ne_blk HO1.out X4 (by decide)
 have Y4 : Blk W2 g4 24 #[.slice A1 (dl.length + 1) c1] := by rw [hW2]; exact Blk.put1 X4
 have Y7 : Blk W2 g7 71 #[.map (some gm)] := by rw [hW2]; exact X7.far (fun e => n47 e.symm) _
 have Y5 : Blk W2 w.heap.size 41 #[.int .i64 q.x, .int .i64 q.y] := by rw [hW2]; exact X5.far n54 _
 have YO : Own W2 B 3 1 inC (.slice A1 (dl.length + 1) c1) (dl ++ [d]) := by rw [hW2]; exact HO1.out.far no14 _
 have YM : MapPts W2 gm n f := by
  rw [hW2]
  exact HM1.out.kept (row := some g4) ⟨rfl, rfl, rfl, by simp, fun i _ hne => Below.heap_setCell w1 ⟨g4, 0, none⟩ _ i (fun e => hne (by rw [e]))⟩ (fun e => n4m (Option.some.inj e).symm)
 have YB : Below B w W2 := by rw [hW2]; exact (Below.trans (HA0.out.mono hB) HB1.out).setCell b4 _
 rw [← hW2]
 clear X4 X5 X7 X4l X4a X4fa X5l X5a X5b X7l X7a
 obtain ⟨w3, hr3, hm3, hg3⟩ := YM.upd hn d HWf.out q
 have Z4 := Lib.hid (Blk.grown Y4 hg3 (fun e => n4m (Option.some.inj e)))
 have Z7 := Lib.hid (Blk.grown Y7 hg3 (fun e => n7m (Option.some.inj e)))
 have ZO := Lib.hid (Own.grown YO hg3 (fun g' hg' e => map_own YM YO (by rw [hg', e])))
 have ZM := Lib.hid hm3
 have ZB := Lib.hid (YB.grown hg3 (by have := YB.size; omega) (fun g hg => by have := Option.some.inj hg; omega))
 have HK := Lib.hid (show ∀ g t cs, Blk w g t cs → g ≠ g4 → g ≠ gm → (Value.slice A dl.length c).ownBlock ≠ some g → Blk w3 g t cs from fun g t cs h h4 hm' ho => by
  refine Blk.grown ?_ hg3 (fun e => hm' (Option.some.inj e))
  rw [hW2]
  exact (HK1.out g t cs h ho).far h4 _)
 unfold ptV at hr3
 clear hm3 hg3 YO YM YB Y4 hW2
 obtain ⟨Y5l, Y5a, Y5b, -, -⟩ := Y5.facts2
 obtain ⟨Y7l, Y7a, -⟩ := Y7.facts1
 go_wp2_with fail
 exact bodyPost_end (v := .tuple #[]) (results_none rfl _ _ _) rfl ⟨rfl, ⟨_, Z4.out, ZO.out, Z7.out, ZM.out, b4, bm⟩, ZB.out, HK.out⟩

def cmpZ (z1 z2 : Bool) : Int := if z1 then -1 else if z2 then 1 else 0
set_option maxRecDepth 100000 in
set_option maxHeartbeats 4000000 in
theorem cmpD_spec (nd : Nd) (x y : Int) (g5 g7 gm n : Nat) (f : Int → Pt) (w : World) (h5 : Blk w g5 43 #[.int .i64 nd.id, .int .i64 nd.pt.x, .int .i64 nd.pt.y]) (h7 : Blk w g7 71 #[.map (some gm)]) (hm : MapPts w gm n f) (hx : wfI x) (hy : wfI y) :
  Calls Tryz.prog 49 #[.int .i64 x, .int .i64 y, .pointer (some ⟨g5, 0, none⟩), .pointer (some ⟨g7, 0, none⟩)] w fun e w' => e = .returned (.int .i64 (cmpOf (fun a b => lessS nd.pt (f a) (f b)) x y)) ∧ BelowD w w' := by
 have T1 := fun W => Less_spec nd.pt (f x) (f y) W
 have T2 := fun W => Less_spec nd.pt (f y) (f x) W
 have L1 := hm.look x hx
 have L2 := hm.look y hy
 have HM := Lib.hid hm
 have H5 := Lib.hid h5; have H7 := Lib.hid h7
 unfold ptV at T1 T2 L1 L2
 have HX := Lib.hid hx; have HY := Lib.hid hy
 obtain ⟨r, hr⟩ : ∃ r, cmpOf (fun a b => lessS nd.pt (f a) (f b)) x y = r := ⟨_, rfl⟩
 rw [hr]
 replace hr : cmpZ (lessS nd.pt (f x) (f y)) (lessS nd.pt (f y) (f x)) = r := hr
 obtain ⟨z1, hz1⟩ : ∃ z1, lessS nd.pt (f x) (f y) = z1 := ⟨_, rfl⟩
 obtain ⟨z2, hz2⟩ : ∃ z2, lessS nd.pt (f y) (f x) = z2 := ⟨_, rfl⟩
 rw [hz1] at T1 hr
 rw [hz2] at T2 hr
 have Hr := Lib.hid hr
 have H1 := Lib.hid T1; have H2 := Lib.hid T2
 clear T1 T2 hm hx hy hz1 hz2 hr
 have X5 := h5; have X7 := h7
 clear h5 h7
 obtain ⟨X5l, X5a, X5b, X5c, -, -, -⟩ := X5.facts3
 obtain ⟨X7l, X7a, -⟩ := X7.facts1
 go_enter Tryz.func49, Tryz.ntmps49
 go_wp2_with fail
 refine (H1.out _).mono ?_
 rintro e w1 ⟨rfl, hb1, hd1⟩
 have B1 := Lib.hid hb1; have D1 := Lib.hid hd1
 clear hb1 hd1 X5 X7 X5l X5a X5b X5c X7l X7a L1 L2
 cases z1
 case true =>
  go_wp2_with fail
  go_ret
  exact ⟨ret_int (by rw [← Hr.out]; rfl), B1.out, D1.out⟩
 have X5 := H5.out.keep B1.out
 have X7 := H7.out.keep B1.out
 have HM1 := HM.out.keep B1.out
 have L1 := HM1.look x HX.out
 have L2 := HM1.look y HY.out
 unfold ptV at L1 L2
 clear HM1
 try clear X5l
 try clear X5a
 try clear X5b
 try clear X5c
 obtain ⟨X5l, X5a, X5b, X5c, -, -, -⟩ := X5.facts3
 try clear X7l
 try clear X7a
 obtain ⟨X7l, X7a, -⟩ := X7.facts1
 go_wp2_with fail
 refine (H2.out _).mono ?_
 rintro e w2 ⟨rfl, hb2, hd2⟩
 have B2 := Lib.hid (bT B1.out hb2); have D2 := Lib.hid (dT D1.out hd2)
 clear hb2 hd2 X5 X7 X5l X5a X5b X5c X7l X7a L1 L2
 cases z2
 ·
  go_wp2_with fail
  go_ret
  exact ⟨ret_int (by rw [← Hr.out]; rfl), B2.out, D2.out⟩
 ·
  go_wp2_with fail
  go_ret
  exact ⟨ret_int (by rw [← Hr.out]; rfl), B2.out, D2.out⟩
end Go.Proofs.YtoclnkfeblfpbaaGreat
