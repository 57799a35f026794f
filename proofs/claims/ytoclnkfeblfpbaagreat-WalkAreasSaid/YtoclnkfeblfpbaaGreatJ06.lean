/- mapsheetsref14.Segments. walk.Cycles: its closure 'follow'. mapsheetsref14.planar. -/
import Derived.Test.YtoclnkfeblfpbaaGreatJ05
import Derived.Test.YtoclnkfeblfpbaaGreatGB
import Derived.Test.YtoclnkfeblfpbaaGreatJ01
set_option linter.unusedSimpArgs false
set_option linter.unusedVariables false
namespace Go.Proofs.YtoclnkfeblfpbaaGreat
open Go.RowKit

section
variable {α β : Type} {w w' : World} {base base' : Nat} {e e' : TypeId} {size size' : Nat} {f : α → List Value} {f' : β → List Value} {v v' : Value} {l : List α} {l' : List β}
theorem Own.grown (h : Own w base e size f v l) {row : Option Nat} (hg : w.grownBy w' row) (hne : ∀ g, v.ownBlock = some g → some g ≠ row) : Own w' base e size f v l := by
 obtain ⟨h1, h2⟩ := h
 refine ⟨h1, ?_⟩
 rcases h2 with h2 | ⟨g, cap, cur, hv, hg', hh, r⟩
 · exact .inl h2
 ·
  subst hv
  refine .inr ⟨g, cap, cur, rfl, hg', ?_, r⟩
  exact Blk.grown (t := e) (cs := cur) hh hg (hne g rfl)
theorem Own.blk (h : Own w base e size f v l) {g : Nat} (hg : v.ownBlock = some g) : ∃ cs, Blk w g e cs := by
 rcases h.2 with ⟨rfl, _⟩ | ⟨g', cap, cur, rfl, _, hh, _⟩
 · simp [Value.ownBlock] at hg
 ·
  have : g' = g := by simpa [Value.ownBlock] using hg
  subst this
  exact ⟨_, hh⟩
theorem Own.apart (h : Own w base e size f v l) (h' : Own w base' e' size' f' v' l') (hne : e ≠ e') : ∀ g, v.ownBlock = some g → some g ≠ v'.ownBlock := by
 intro g hg hg'
 obtain ⟨cs, h1⟩ := h.blk hg
 obtain ⟨cs', h2⟩ := h'.blk hg'.symm
 exact Blk.ne_ h1 h2 hne rfl
end

def pt0 : Pt := ⟨0, 0⟩
def segsOf (a : Ar) (l : List Pt) : List Sg := (List.range (l.length - 1)).map fun k => ⟨a, k, l.length - 1, l.getD k pt0, l.getD (k + 1) pt0⟩
def segsS (p : Pl) : List Sg := p.arcs.flatMap fun a => segsOf a (pathS p a)
theorem segsOf_length (a : Ar) (l : List Pt) : (segsOf a l).length = l.length - 1 := by simp [segsOf]
theorem segsOf_succ (a : Ar) (l : List Pt) (k : Nat) (hk : k + 1 < l.length) : (segsOf a l).take (k + 1) = (segsOf a l).take k ++ [⟨a, k, l.length - 1, l[k], l[k + 1]⟩] := by
 have h : k < (segsOf a l).length := by rw [segsOf_length]; omega
 rw [List.take_succ_eq_append_getElem h]
 simp [segsOf, List.getD, List.getElem?_eq_getElem hk, List.getElem?_eq_getElem (show k < l.length by omega)]
theorem pathS_length (p : Pl) (a : Ar) : (pathS p a).length = a.via.length + 2 := by simp [pathS]
theorem segs_len (p : Pl) (l : List Ar) : (l.flatMap fun a => segsOf a (pathS p a)).length = (l.flatMap (·.via)).length + l.length := by
 induction l with
 | nil => rfl
 | cons a l ih => simp only [List.flatMap_cons, List.length_append, ih, segsOf_length, pathS_length, List.length_cons]; omega

def RetSegs (w : World) (l : List Sg) (e : Ending) (w' : World) : Prop :=
 ∃ sl v, sl.map (·.1) = l ∧ e = .returned v ∧ Below w.heap.size w w' ∧ Own w' w.heap.size 129 12 sgC v sl

theorem elem_sg : Elem Tryz.prog 125 129 12 112 := Elem.mk_ (z := .agg #[.int .i64 0, .int .i64 0, .int .i64 0, .slice none 0 0, .int .i64 0, .int .i64 0, .int .i64 0, .int .i64 0, .int .i64 0, .int .i64 0, .int .i64 0, .int .i64 0]) (by kernel_rfl) (by kernel_rfl) rfl (by omega)
theorem sgC_len (s : Sg × SV) : (sgC s).length = 12 := rfl
theorem sgC_one (s : Sg × SV) : ∀ u ∈ sgC s, u.oneCell' = true := by simp [sgC, Value.oneCell']
theorem Sl.one_sg {w : World} {g : Nat} {t : TypeId} {s : Sg} {u : SV} {n : Int} (hn : n = s.n) (h : Blk w g t #[.int .i64 s.arc.id, .int .i64 s.arc.fr, .int .i64 s.arc.dst, .slice u.a u.n u.c, .int .i64 s.arc.left, .int .i64 s.arc.right, .int .i64 s.i, .int .i64 n, .int .i64 s.a.x, .int .i64 s.a.y, .int .i64 s.b.x, .int .i64 s.b.y]) :
  Sl w (.slice (some ⟨g, 0, none⟩) 1 1) ([(s, u)] : List (Sg × SV)).length (([(s, u)] : List (Sg × SV)).flatMap sgC) := by
 subst hn
 exact Sl.lit (n := 1) h rfl (le_maxLen (by omega))

set_option maxRecDepth 100000 in
set_option maxHeartbeats 4000000 in
theorem Segments_spec (v : Value) (p : Pl) (w : World) (h : PlV w v p) (hl1 : p.arcs.length ≤ 4096) (hl2 : (p.arcs.flatMap (·.via)).length ≤ 1048576) :
  Calls Tryz.prog 107 #[v] w (RetSegs w (segsS p)) := by
 have HP := Lib.hid h
 obtain ⟨vn, _, vf, al, rfl, hpa, -, ⟨⟨Aa, ca, rfl, ha1, ha2, hRa⟩, hV⟩, -⟩ := h
 unfold maxLen at ha2
 have hS : segsS p = al.flatMap fun a => segsOf a.1 (pathS p a.1) := by unfold segsS; rw [hpa, List.flatMap_map]
 have hL : ∀ k, ((al.take k).flatMap fun a => segsOf a.1 (pathS p a.1)).length ≤ 1052672 := fun k => by
  have h1 := flat_take_le al (fun a => segsOf a.1 (pathS p a.1)) k
  rw [← hS] at h1
  unfold segsS at h1
  rw [segs_len] at h1
  omega
 have hsh : ∀ k (hk : k < al.length), al[k].1.via.length ≤ 1048576 := fun k hk => by
  have h1 := flat_take_succ_le al (fun a => a.1.via) k hk
  rw [hpa, List.flatMap_map] at hl2
  omega
 have hl : al.length ≤ 4096 := by rw [hpa, List.length_map] at hl1; exact hl1
 rw [hS]
 have HL := Lib.hid hL
 have HSh := Lib.hid hsh
 have HV := Lib.hid hV; clear hV
 have HRa := Lib.hid hRa; clear hRa
 clear hS hpa hl1 hl2 hL hsh
 go_enter Tryz.func107, Tryz.ntmps107
 go_wp2_with fail
 obtain ⟨W0, hW0⟩ : ∃ W0 : World, W0 = w.alloc (.cells #[vn, .slice Aa al.length ca, vf] 26) := ⟨_, rfl⟩
 have X1 : Blk W0 w.heap.size 26 #[vn, .slice Aa al.length ca, vf] := by rw [hW0]; exact Blk.made rfl _ _
 have Bw0 : Below w.heap.size w W0 := by rw [hW0]; exact bA (bR w) _
 have HX0 := Lib.hid X1
 have hwz := X1.lt
 rw [← hW0]
 clear hW0 X1
 go_loopw [3, 4] (fun s i wr => ∃ (k : Nat) (sl : List (Sg × SV)), k ≤ al.length ∧ i = .int .i64 k ∧ sl.map (·.1) = ((al.take k).flatMap fun a => segsOf a.1 (pathS p a.1)) ∧ Own wr W0.heap.size 129 12 sgC s sl ∧ Below W0.heap.size W0 wr) (fun _ i _ => al.length - (intOf i).toNat)
 case atStart => exact ⟨0, [], Nat.zero_le _, rfl, rfl, Own.nil _ _ _ _ _, bR W0⟩
 case round =>
  obtain ⟨k, sl, hk, rfl, hsl, hown, hb⟩ := hrel
  have Hb := Lib.hid hb
  have Hown := Lib.hid hown
  have Hsl := Lib.hid hsl
  have X1 := HX0.out.keep hb
  have hsz := hb.size
  clear hb hown hsl
  obtain ⟨X1l, X1a, X1b, X1c, -, -, -⟩ := X1.facts3
  by_cases hlt : k < al.length
  case neg =>
   have hE : al.take k = al := List.take_of_length_le (by omega)
   have Hf := Lib.hid (show sl.map (·.1) = al.flatMap fun a => segsOf a.1 (pathS p a.1) by rw [Hsl.out, hE])
   clear hE
   go_wp2_with fail
   go_ret
   exact ⟨sl, _, Hf.out, rfl, bT Bw0 Hb.out, Hown.out.mono_base Bw0.size⟩
  obtain ⟨b, o, rfl, hlb, c0, c1, c2, c3, c4, c5⟩ := (HRa.out.mono (bT Bw0 Hb.out)).ar hlt
  have hvk := (HV.out k hlt)
  obtain ⟨Av, cv, hv, -⟩ := hvk
  have hvk := (HV.out k hlt)
  rw [hv] at c3 hvk
  generalize hvl : al[k].1.via.length = vl at c3
  have Hvl := Lib.hid hvl
  have Hvk := Lib.hid hvk
  have Hshk := Lib.hid (HSh.out k hlt)
  have q1 : 0 ≤ (k : Int) := by omega
  have q2 : (k : Int) < al.length := by omega
  have Hlk := Lib.hid (HL.out (k + 1))
  clear hvk hv hvl
  have TL : ∀ W, Below w.heap.size w W → Calls Tryz.prog 65 #[.agg #[vn, .slice (some ⟨b, o, none⟩) al.length ca, vf], .agg #[.int .i64 al[k].1.id, .int .i64 al[k].1.fr, .int .i64 al[k].1.dst, .slice Av vl cv, .int .i64 al[k].1.left, .int .i64 al[k].1.right]] W (RetPath W (pathS p al[k].1) (hasEnds p al[k].1)) := fun W hW => by
   have := line_spec _ _ p al[k].1 _ (HP.out.mono hW) (Hvk.out.mono hW) Hshk.out
   rw [Hvl.out] at this
   exact this
  have HT := Lib.hid TL; clear TL
  go_upto_region 5 with fail
  go_cut [5] (fun s wx => ∃ A1 n1 c1, s = .slice A1 n1 c1 ∧ n1 = (pathS p al[k].1).length ∧ Own wx wr.heap.size 41 2 ptC (.slice A1 n1 c1) (pathS p al[k].1) ∧ Below wr.heap.size wr wx)
  case first =>
   refine rg_start (Since wr) (.run 6 0 0 (.call 6 127 (.run 5 7 127 (.done)))) (by kernel_rfl) (bD (bR _)) (by kernel_rfl) (by kernel_rfl) (Nat.le_of_ble_eq_true (by kernel_rfl)) ?_
   intro opsR QR Hops HQrg hS
   iterate 6
    apply rg_p; exact Hops; exact rfl; exact hS; exact rfl
    · intro _ hqc; go_simp; try rfl
    try simp only [pu]
   refine rg_call (i := 6) (get_of Hops rfl) (fun K hK => ?_)
   have HSrg := Lib.hid hS; clear hS
   refine rg_run (wanted_plain rfl) ?_
   go_simp
   refine (HT.out _ (bT (bT Bw0 Hb.out) HSrg.out)).mono ?_
   rintro e wr1 ⟨v1, rfl, hbr1, ho1⟩
   have hS : Since wr wr1 := bT (w := wr) HSrg.out hbr1
   clear HSrg
   refine hK.out _ _ hS (fun _ => ?_)
   clear hK K
   try simp only [pu]
   iterate 5
    apply rg_p; exact Hops; exact rfl; exact hS; exact rfl
    · intro _ hqc; go_simp; try rfl
    try simp only [pu]
   refine rg_done ?_
   refine HQrg.down _ _ ?_
   have hB : Below wr.heap.size wr wr1 := hS
   clear hS HQrg Hops
   obtain ⟨A1, c1', rfl, -⟩ := Own.sl ho1
   go_wp2_with fail
   go_meet
   case rel => exact ⟨A1, _, c1', rfl, rfl, ho1.mono_base (by simp), hB⟩
  case rest =>
   obtain ⟨A1, n1, c1', rfl, rfl, hpath, hBc⟩ := hcut
   have hown1 : Own wc W0.heap.size 129 12 sgC _ sl := Hown.out.keep hBc
   have Bc := bT Hb.out hBc
   have hszc := hBc.size
   have hmx : (pathS p al[k].1).length ≤ maxLen := by rw [pathS_length]; have := Hshk.out; exact le_maxLen (by omega)
   unfold maxLen at hmx
   have hpl2 : 2 ≤ (pathS p al[k].1).length := by rw [pathS_length]; omega
   generalize hPP : pathS p al[k].1 = PP at *
   have HPP := Lib.hid hPP
   obtain ⟨M, hM⟩ : ∃ M, PP.length = M + 1 := ⟨PP.length - 1, by omega⟩
   have HM := Lib.hid hM
   have hM1 : M < PP.length := by omega
   have Hp0 := Lib.hid hpath
   have Hs0 := Lib.hid hown1
   have HBc := Lib.hid Bc
   clear hpath hown1 Bc hBc hPP hM HT X1 X1l X1a X1b X1c c0 c1 c2 c3 c4 c5
   obtain ⟨wo, rfl⟩ : ∃ wo : World, wo = wr := ⟨_, rfl⟩
   go_wp2_with fail
   go_loopw [3, 7] (fun s i wx => ∃ (j : Nat) (sx : List (Sg × SV)), j + 1 ≤ PP.length ∧ i = .int .i64 j ∧ sx.map (·.1) = ((al.take k).flatMap fun a => segsOf a.1 (pathS p a.1)) ++ (segsOf al[k].1 PP).take j ∧ Own wx W0.heap.size 129 12 sgC s sx ∧ Own wx wo.heap.size 41 2 ptC (.slice A1 PP.length c1') PP ∧ Below W0.heap.size W0 wx) (fun _ i _ => PP.length - (intOf i).toNat)
   case atStart => exact ⟨0, sl, by omega, rfl, by rw [Hsl.out]; simp, Hs0.out, Hp0.out, HBc.out⟩
   case round =>
    obtain ⟨j, sx, hj, rfl, hsx, hownx, hpx, hbx⟩ := hrel
    have Hbx := Lib.hid hbx
    have Hownx := Lib.hid hownx
    have Hpx := Lib.hid hpx
    have Hsx := Lib.hid hsx
    have hszx := hbx.size
    have X1 := HX0.out.keep hbx
    clear hbx hownx hpx hsx
    try clear X1l
    try clear X1a
    try clear X1b
    try clear X1c
    obtain ⟨X1l, X1a, X1b, X1c, -, -, -⟩ := X1.facts3
    by_cases hlj : j + 1 < PP.length
    case neg =>
     have hjm : j = M := by have := HM.out; omega
     have Hf := Lib.hid (show sx.map (·.1) = ((al.take (k + 1)).flatMap fun a => segsOf a.1 (pathS p a.1)) by
      rw [Hsx.out, List.take_succ_eq_append_getElem hlt, List.flatMap_append, List.take_of_length_le (l := segsOf al[k].1 PP) (by rw [segsOf_length]; omega)]; simp [HPP.out])
     clear hjm
     go_wp2_with fail
     go_roundw
     case rel => exact ⟨k + 1, sx, by omega, by go_num, Hf.out, Hownx.out, Hbx.out⟩
     case measure => simp [intOf]; omega
    obtain ⟨b', o', hbo, hlb', d0, d1, d2, d3, d4, d5⟩ := (HRa.out.mono (bT Bw0 Hbx.out)).ar hlt
    simp only [Option.some.injEq, Addr.mk.injEq, and_true] at hbo
    obtain ⟨rfl, rfl⟩ := hbo
    have hvk := (HV.out k hlt)
    obtain ⟨Av', cv', hv, -⟩ := hvk
    have hrow := Own.sl Hpx.out
    obtain ⟨A1', c1'', he1, -, -, hrow⟩ := hrow
    injection he1 with he1 _ he3
    subst he1
    subst he3
    obtain ⟨pb, po, hpa1, hlp, f0, f1⟩ := hrow.pt (k := j) (by omega)
    subst hpa1
    obtain ⟨pb', po', hpa2, hlp', f2, f3⟩ := hrow.pt (k := j + 1) hlj
    simp only [Option.some.injEq, Addr.mk.injEq, and_true] at hpa2
    obtain ⟨rfl, rfl⟩ := hpa2
    rw [hv] at d3
    have Hvv := Lib.hid hv
    clear hrow hv
    have w1e : IntKind.i64.wrap ((j : Int) + 1) = (j : Int) + 1 := IntWalk.i64_in _ (by omega)
    have w2e : IntKind.i64.wrap ((PP.length : Int) - 1) = (M : Int) := by have := HM.out; rw [IntWalk.i64_in _ (by omega)]; omega
    have r1 : 0 ≤ (j : Int) := by omega
    have r2 : (j : Int) < PP.length := by omega
    have r3 : 0 ≤ (j : Int) + 1 := by omega
    have r4 : (j : Int) + 1 < PP.length := by omega
    have r5 : ((j : Int) + 1).toNat = j + 1 := by omega
    have r6 : 0 ≤ (k : Int) := by omega
    have r7 : (k : Int) < al.length := by omega
    have hb0 : b < w.heap.size := by
     obtain ⟨b2, o2, e2, h2, -⟩ := HRa.out.ar hlt
     simp only [Option.some.injEq, Addr.mk.injEq, and_true] at e2
     omega
    have n1 : some w.heap.size ≠ (u3 : Value).ownBlock := fun e => by have := (Hownx.out.lt _ e.symm).1; omega
    have n2 : some b ≠ (u3 : Value).ownBlock := fun e => by have := (Hownx.out.lt _ e.symm).1; omega
    have n3 : some pb ≠ (u3 : Value).ownBlock := Own.apart Hpx.out Hownx.out (by decide) pb rfl
    have Hb0 := Lib.hid hb0
    have Hlk2 := Lib.hid (show sx.length + 1 ≤ 1052673 by
     have h1 := Hlk
     have h2 := congrArg List.length Hsx.out
     rw [List.length_map, List.length_append, List.length_take, segsOf_length] at h2
     have h3 := HL.out (k + 1)
     rw [List.take_succ_eq_append_getElem hlt, List.flatMap_append, List.length_append] at h3
     simp only [List.flatMap_cons, List.flatMap_nil, List.append_nil, segsOf_length, HPP.out] at h3
     omega)
    clear hb0
    go_upto_region 9 with fail
    refine rg_start (SinceX wr ((u3 : Value).ownBlock)) (.run 20 0 0 (.call 20 2097151 (.call 21 4194303 (.take 22 8388607 (.done))))) (by kernel_rfl) (gD (gR _ _)) (by kernel_rfl) (by kernel_rfl) (Nat.le_of_ble_eq_true (by kernel_rfl)) ?_
    intro opsR QR Hops HQrg hS
    iterate 20
     apply rg_pX; exact Hops; exact rfl; exact hS; exact rfl
     · intro _ hqc; go_simp; try rfl
     try simp only [pu]
    refine rg_call (i := 20) (get_of Hops rfl) (fun K hK => ?_)
    have HSrg := Lib.hid hS; clear hS
    refine rg_run (wanted_plain rfl) ?_
    go_simp
    refine hK.out _ _ (gA HSrg.out _) (fun hS => ?_)
    clear hK K HSrg
    try simp only [pu]
    refine rg_call (i := 21) (get_of Hops rfl) (fun K hK => ?_)
    have HSrg := Lib.hid hS; clear hS
    refine rg_run (wanted_plain rfl) ?_
    refine wp_appl (.tmp 32) (.tmp 52) _ rfl (base := W0.heap.size) elem_sg sgC_len sgC_one rfl ((Hownx.out.drew).alloc _) rfl (l2 := [((⟨al[k].1, j, PP.length - 1, PP[j], PP[j + 1]⟩ : Sg), (⟨Av', al[k].1.via.length, cv'⟩ : SV))]) (Sl.one_sg (n := (M : Int)) (by have := HM.out; simp only []; omega) (Blk.made (by simp) _ _)) (by have := Hlk2.out; simp only [List.length_cons, List.length_nil]; omega) (by have := Hlk2.out; simp only [List.length_cons, List.length_nil]; omega) (by simp; omega) ?_
    intro v3 wr3 ho3 hg hat
    have hS : SinceX wr (u3 : Value).ownBlock wr3 := gT HSrg.out hg
    clear HSrg
    refine hK.out _ _ hS (fun _ => ?_)
    clear hK K
    try simp only [pu]
    apply rg_pX; exact Hops; exact rfl; exact hS; exact rfl
    · intro _ hqc; go_simp; try rfl
    try simp only [pu]
    refine rg_done ?_
    refine HQrg.down _ _ ?_
    have hB : wr.grownBy _ ((u3 : Value).ownBlock) := hS
    clear hS HQrg Hops
    have Ho3 := Lib.hid ho3
    have Hpy := Lib.hid (Hpx.out.grown hB (fun g hg => Own.apart Hpx.out Hownx.out (by decide) g hg))
    have Hby := Lib.hid (gBelow Hbx.out hszx hB (fun g hg => (Hownx.out.lt g hg).1))
    have Hsy := Lib.hid (show (sx ++ [((⟨al[k].1, j, PP.length - 1, PP[j], PP[j + 1]⟩ : Sg), (⟨Av', al[k].1.via.length, cv'⟩ : SV))]).map (·.1) = ((al.take k).flatMap fun a => segsOf a.1 (pathS p a.1)) ++ (segsOf al[k].1 PP).take (j + 1) by
     rw [List.map_append, Hsx.out, segsOf_succ _ _ _ hlj, List.append_assoc]; rfl)
    clear ho3 hg hat hB d0 d1 d2 d3 d4 d5 f0 f1 f2 f3 w1e w2e r1 r2 r3 r4 r5 r6 r7 n1 n2 n3 X1 X1l X1a X1b X1c
    go_wp2_with fail
    go_roundw
    case rel => exact ⟨j + 1, sx ++ [((⟨al[k].1, j, PP.length - 1, PP[j], PP[j + 1]⟩ : Sg), (⟨Av', al[k].1.via.length, cv'⟩ : SV))], by omega, by go_num, Hsy.out, Ho3.out, Hpy.out, Hby.out⟩
    case measure => simp [intOf]; omega
end Go.Proofs.YtoclnkfeblfpbaaGreat
namespace Go.Proofs.YtoclnkfeblfpbaaGreat
open Go.RowKit

def lenV : Value → Nat
 | .slice _ n _ => n
 | _ => 0
def seenL (S : Int → Bool) (l : List Int) (x : Int) : Bool := S x || decide (x ∈ l)
theorem seenL_nil (S : Int → Bool) : seenL S [] = S := by
 funext x; simp [seenL]
theorem seenL_snoc (S : Int → Bool) (l : List Int) (y : Int) : (fun i => if i = y then true else seenL S l i) = seenL S (l ++ [y]) := by
 funext x
 unfold seenL
 by_cases e : x = y
 · subst e; simp
 · simp [e]
theorem orb_new {f : Int → Int} {D : List Int} (hD : ∀ x ∈ D, f x ∈ D) (hi : ∀ x ∈ D, ∀ y ∈ D, f x = f y → x = y) {x : Int} (hx : x ∈ D) {j : Nat} (hj : j < orbN f D x) : pw f x j ∉ iter f x j ∧ pw f x j ∈ orb f D x := by
 obtain ⟨-, -, -, -, h5, -⟩ := orb_facts hD hi hx
 constructor
 ·
  intro hm
  obtain ⟨k, hk, e⟩ := mem_iter.1 hm
  unfold orb List.Nodup at h5
  rw [List.pairwise_iff_getElem] at h5
  have := h5 k j (by rw [iter_len]; omega) (by rw [iter_len]; omega) hk
  rw [iter_get, iter_get] at this
  exact this e
 · exact mem_iter.2 ⟨j, hj, rfl⟩
theorem orb_end {f : Int → Int} {D : List Int} (hD : ∀ x ∈ D, f x ∈ D) (hi : ∀ x ∈ D, ∀ y ∈ D, f x = f y → x = y) {x : Int} (hx : x ∈ D) : pw f x (orbN f D x) ∈ orb f D x := by
 obtain ⟨h1, -, h3, -, -, -⟩ := orb_facts hD hi hx
 rw [h3]
 exact mem_iter.2 ⟨0, h1, rfl⟩

/-- the cycle that 'follow' returns, and what it has marked -/
def RetFol (w : World) (gm n : Nat) (S : Int → Bool) (l : List Int) (e : Ending) (w' : World) : Prop :=
 ∃ A c, e = .returned (.slice A l.length c) ∧ Own w' w.heap.size 3 1 inC (.slice A l.length c) l ∧ MapIB w' gm (n + l.length) (seenL S l) ∧ w.grownBy w' (some gm)

theorem mapIB_ne {w : World} {gm n : Nat} {f : Int → Bool} (h : MapIB w gm n f) {g : Nat} {t : TypeId} {cs : Array Value} (hg : Blk w g t cs) : g ≠ gm := by
 rintro rfl
 obtain ⟨D, h1, -⟩ := h
 obtain ⟨es, clock, h2, -⟩ := h1
 unfold Blk at hg
 rw [hg] at h2
 cases h2
theorem mapIB_own {w : World} {gm n : Nat} {f : Int → Bool} (h : MapIB w gm n f) {base : Nat} {e : TypeId} {size : Nat} {α : Type} {fe : α → List Value} {v : Value} {l : List α} (ho : Own w base e size fe v l) : v.ownBlock ≠ some gm := by
 rcases ho.2 with ⟨rfl, _⟩ | ⟨g, cap, cur, rfl, _, hh, _⟩
 · simp [Value.ownBlock]
 ·
  intro e'
  exact mapIB_ne h (cs := cur) (g := g) hh (by simpa [Value.ownBlock] using e')
theorem Own.shape_ {α : Type} {w : World} {base : Nat} {e : TypeId} {size : Nat} {f : α → List Value} {v : Value} {l : List α} (h : Own w base e size f v l) : ∃ A c, v = .slice A l.length c ∧ l.length ≤ c ∧ c ≤ maxLen := by
 obtain ⟨A, c, rfl, h1, h2, -⟩ := Own.sl h
 exact ⟨A, c, rfl, h1, h2⟩

set_option maxRecDepth 100000 in
set_option maxHeartbeats 4000000 in
theorem follow_spec (f : Int → Int) (D : List Int) (hD : ∀ x ∈ D, f x ∈ D) (hi : ∀ x ∈ D, ∀ y ∈ D, f x = f y → x = y) (F : Int → Int) (hF : ∀ x ∈ D, F x = f x) (hw : ∀ x ∈ D, wfI x) (hl : D.length ≤ 100000) (S : Int → Bool) (d : Int) (hd : d ∈ D) (hS : ∀ x ∈ orb f D d, S x = false)
  (gs gn gm gk n m : Nat) (w : World) (hn : n ≤ 1000000) (h1 : Blk w gs 57 #[.map (some gm)]) (h2 : Blk w gn 54 #[.map (some gk)]) (hm : MapIB w gm n S) (hk : MapII w gk m F) (hne : gm ≠ gk) :
  Calls Tryz.prog 34 #[.int .i64 d, .pointer (some ⟨gs, 0, none⟩), .pointer (some ⟨gn, 0, none⟩)] w (RetFol w gm n S (orb f D d)) := by
 obtain ⟨o1, o2, o3, -, -, o6⟩ := orb_facts hD hi hd
 obtain ⟨q, hq⟩ : ∃ q, orb f D d = q := ⟨_, rfl⟩
 have hitN : iter f d (orbN f D d) = q := hq
 have HNew := Lib.hid (fun j (hj : j < orbN f D d) => orb_new hD hi hd hj)
 have HMem := Lib.hid (fun j => pw_mem (f := f) hD hd j)
 have hend := orb_end hD hi hd
 rw [hq] at o6 hS hend HNew ⊢
 have HF := Lib.hid hF; have HW := Lib.hid hw; have HS := Lib.hid hS; have HEnd := Lib.hid hend; have HIt := Lib.hid hitN; have HLq := Lib.hid o6
 clear hF hw hS hend hitN o6 o3 hD hi hq hd
 generalize orbN f D d = N at *
 have Hm0 := Lib.hid hm; have Hk0 := Lib.hid hk; have H1 := Lib.hid h1; have H2 := Lib.hid h2
 have n1 := mapIB_ne hm h1; have n2 := mapIB_ne hm h2
 have hlt1 := h1.lt; have hlt2 := h2.lt; have hltm := hm.lt; have hltk := hk.lt
 clear hm hk h1 h2
 go_enter Tryz.func34, Tryz.ntmps34
 go_wp2_with fail
 go_loopw [0, 4] (fun x s wr => ∃ j : Nat, j ≤ N ∧ x = .int .i64 (pw f d j) ∧ (∃ A c, s = .slice A j c) ∧ Own wr w.heap.size 3 1 inC s (iter f d j) ∧ MapIB wr gm (n + j) (seenL S (iter f d j)) ∧ w.grownBy wr (some gm)) (fun _ s _ => N - lenV s)
 case atStart => exact ⟨0, Nat.zero_le _, rfl, ⟨none, 0, rfl⟩, Own.nil _ _ _ _ _, by rw [show iter f d 0 = [] from rfl, seenL_nil]; exact Hm0.out, gR w _⟩
 case round =>
  obtain ⟨j, hj, rfl, ⟨A, c, rfl⟩, own, mp, hg⟩ := hrel
  have HO := Lib.hid own; have HM := Lib.hid mp; have HG := Lib.hid hg
  have X1 := H1.out.grow hg (fun e => n1 (Option.some.inj e))
  have hszr : w.heap.size ≤ wr.heap.size := hg.size
  clear own mp hg
  obtain ⟨y, hy⟩ : ∃ y, pw f d j = y := ⟨_, rfl⟩
  have hym := HMem.out j
  have hy2 : f y = pw f d (j + 1) := by rw [← hy]; rfl
  have hFy : F y = pw f d (j + 1) := by rw [← hy2]; exact HF.out y (hy ▸ hym)
  have hwy : wfI y := HW.out y (hy ▸ hym)
  have hnewj := HNew.out j
  have hlk := HM.out.look y hwy
  rw [hy] at hnewj ⊢
  have HY := Lib.hid hy; have HFy := Lib.hid hFy; have HWy := Lib.hid hwy; have HN := Lib.hid hnewj; have HYm := Lib.hid (hy ▸ hym)
  clear hym hy2 hFy hwy hnewj
  by_cases hlt : j < N
  ·
   have hsf : seenL S (iter f d j) y = false := by
    unfold seenL
    have h := HN.out hlt
    rw [HS.out y h.2]
    simpa using h.1
   rw [hsf] at hlk
   obtain ⟨w3, hr3, hm3, hg3⟩ := HM.out.upd (by omega) y HWy.out true
   rw [seenL_snoc] at hm3
   have hsn : iter f d j ++ [y] = iter f d (j + 1) := by rw [iter_snoc, HY.out]
   rw [hsn] at hm3
   have HM3 := Lib.hid hm3; have HG3 := Lib.hid (gT HG.out hg3)
   have HO3 := Lib.hid (Own.grown HO.out hg3 (fun g' hg' e => mapIB_own HM.out HO.out (by rw [hg', e])))
   have hsz3 : wr.heap.size ≤ w3.heap.size := hg3.size
   have HSn := Lib.hid hsn
   clear hsf hm3 hg3 hsn hy
   obtain ⟨X1l, X1a, -⟩ := X1.facts1
   go_upto_region 3 with fail
   clear hlk hr3 X1 X1l X1a
   go_upto_region 4 with
    (at_builtin
     refine wpList_appl _ rfl (.tmp 11) (.tmp 13) _ rfl (base := w.heap.size) elem_in inC_len inC_one rfl (Own.alloc HO3.out _) rfl (l2 := [y]) (Sl.lit (n := 1) (Blk.made rfl _ _) rfl (le_maxLen (by omega))) (by simp only [iter_len, List.length_cons, List.length_nil]; omega) (by simp only [iter_len, List.length_cons, List.length_nil]; omega) (by simp; omega) ?_
     intro v1 w1 ho1 hg1 hat1
     rw [HSn.out] at ho1
     obtain ⟨A1, c1, hv1, -⟩ := Own.shape_ ho1
     rw [iter_len] at hv1
     subst hv1
     have HO1 := Lib.hid ho1
     have hown := HO3.out.lt
     have hG1 : w.grownBy w1 (some gm) := ⟨by rw [hg1.os]; exact HG3.out.os, by rw [hg1.tape]; exact HG3.out.tape, by rw [hg1.output]; exact HG3.out.output, Nat.le_trans HG3.out.size (Nat.le_trans (by simp) hg1.size), fun i hi hne => by
      rw [hg1.block i (by simp; have := HG3.out.size; omega) (fun e => by have := (hown i e.symm).1; omega), ← HG3.out.block i hi hne]
      exact (bA (bR w3) (.cells #[.int .i64 y] 3)).block i (by have := HG3.out.size; omega)⟩
     have HG1 := Lib.hid hG1
     have HM1 := Lib.hid ((HM3.out.keep (bA (bR w3) (.cells #[.int .i64 y] 3))).kept hg1 (fun e => mapIB_own HM3.out HO3.out e.symm))
     clear ho1 hg1 hat1 hG1 hown
     )
   have X2 := H2.out.grow HG1.out (fun e => n2 (Option.some.inj e))
   have hlk2 := (Hk0.out.kept HG1.out (fun e => hne (Option.some.inj e).symm)).look y HWy.out
   rw [HFy.out] at hlk2
   obtain ⟨X2l, X2a, -⟩ := X2.facts1
   go_wp2_with fail
   go_roundw
   case rel => exact ⟨j + 1, by omega, rfl, ⟨A1, c1, rfl⟩, HO1.out, HM1.out, HG1.out⟩
   case measure => simp only [lenV]; omega
  ·
   have hjN : j = N := by omega
   subst hjN
   have hst : seenL S (iter f d j) y = true := by
    unfold seenL
    have h := HEnd.out
    rw [HY.out, ← HIt.out] at h
    simp [h]
   rw [hst] at hlk
   clear hst
   try clear X1l
   try clear X1a
   obtain ⟨X1l, X1a, -⟩ := X1.facts1
   go_wp2_with fail
   go_ret
   rw [HIt.out] at HO HM
   have hL := HLq.out
   have ho := HO.out
   have hm := HM.out
   subst hL
   exact ⟨A, c, rfl, ho, hm, HG.out⟩
end Go.Proofs.YtoclnkfeblfpbaaGreat
namespace Go.Proofs.YtoclnkfeblfpbaaGreat
open Go.RowKit

/-- f at each element, g at each two. -/
def triB {α : Type} (l : List α) (f : α → Bool) (g : α → α → Bool) : Bool := (List.range l.length).all fun i => match l[i]? with
 | none => true
 | some t => f t && (l.take i).all fun s => g s t
theorem tri_f {α : Type} (l : List α) (f : α → Bool) (g : α → α → Bool) (i : Nat) (hi : i < l.length) (h : f l[i] = false) : triB l f g = false := by
 unfold triB
 rw [List.all_eq_false]
 exact ⟨i, List.mem_range.2 hi, by simp [List.getElem?_eq_getElem hi, h]⟩
theorem tri_g {α : Type} (l : List α) (f : α → Bool) (g : α → α → Bool) (i k : Nat) (hk : k < i) (hi : i < l.length) (h : g (l[k]'(by omega)) l[i] = false) : triB l f g = false := by
 unfold triB
 rw [List.all_eq_false]
 refine ⟨i, List.mem_range.2 hi, ?_⟩
 have : (l.take i).all (fun s => g s l[i]) = false := by
  rw [List.all_eq_false]
  refine ⟨l[k]'(by omega), ?_, by simp [h]⟩
  rw [List.mem_iff_getElem]
  exact ⟨k, by rw [List.length_take]; omega, by simp⟩
 simp [List.getElem?_eq_getElem hi, this]
theorem tri_ok {α : Type} (l : List α) (f : α → Bool) (g : α → α → Bool) (h1 : ∀ i (hi : i < l.length), f l[i] = true) (h2 : ∀ i k (hk : k < i) (hi : i < l.length), g (l[k]'(by omega)) l[i] = true) : triB l f g = true := by
 unfold triB
 rw [List.all_eq_true]
 intro i hi
 have hi := List.mem_range.1 hi
 rw [List.getElem?_eq_getElem hi]
 simp only [Bool.and_eq_true]
 refine ⟨h1 i hi, List.all_eq_true.2 fun s hs => ?_⟩
 obtain ⟨k, hk, rfl⟩ := List.mem_iff_getElem.1 hs
 rw [List.length_take] at hk
 have := h2 i k (by omega) hi
 simpa using this

def pairR (p : Pl) (s t : Sg) : Bool := if s.arc.id = t.arc.id then apartS s t else joinedS p s t
def planarR (p : Pl) : Bool := triB (segsS p) (aloneS p) (pairR p)

theorem segs_ok (p : Pl) (hl : (p.arcs.flatMap (·.via)).length ≤ 1048576) (s : Sg) (hs : s ∈ segsS p) : s.i ≤ 2097152 ∧ 1 ≤ s.n ∧ s.n ≤ 2097152 := by
 unfold segsS at hs
 obtain ⟨a, ha, hs⟩ := List.mem_flatMap.1 hs
 unfold segsOf at hs
 obtain ⟨k, hk, rfl⟩ := List.mem_map.1 hs
 have hk := List.mem_range.1 hk
 rw [pathS_length] at hk ⊢
 obtain ⟨i, hi, rfl⟩ := List.mem_iff_getElem.1 ha
 have := flat_take_succ_le p.arcs (·.via) i hi
 simp only []
 omega

theorem Row.sg {w : World} {A : Option Addr} {l : List (Sg × SV)} (h : Row w A (l.flatMap sgC)) {k : Nat} (hk : k < l.length) :
  ∃ b o, A = some ⟨b, o, none⟩ ∧ b < w.heap.size ∧ w.cell? ⟨b, o + k * 12, none⟩ = some (.int .i64 l[k].1.arc.id) ∧ w.cell? ⟨b, o + k * 12 + 1, none⟩ = some (.int .i64 l[k].1.arc.fr) ∧ w.cell? ⟨b, o + k * 12 + 2, none⟩ = some (.int .i64 l[k].1.arc.dst) ∧ w.cell? ⟨b, o + k * 12 + 3, none⟩ = some (.slice l[k].2.a l[k].2.n l[k].2.c) ∧ w.cell? ⟨b, o + k * 12 + 4, none⟩ = some (.int .i64 l[k].1.arc.left) ∧ w.cell? ⟨b, o + k * 12 + 5, none⟩ = some (.int .i64 l[k].1.arc.right) ∧ w.cell? ⟨b, o + k * 12 + 6, none⟩ = some (.int .i64 l[k].1.i) ∧ w.cell? ⟨b, o + k * 12 + 7, none⟩ = some (.int .i64 l[k].1.n) ∧ w.cell? ⟨b, o + k * 12 + 8, none⟩ = some (.int .i64 l[k].1.a.x) ∧ w.cell? ⟨b, o + k * 12 + 9, none⟩ = some (.int .i64 l[k].1.a.y) ∧ w.cell? ⟨b, o + k * 12 + 10, none⟩ = some (.int .i64 l[k].1.b.x) ∧ w.cell? ⟨b, o + k * 12 + 11, none⟩ = some (.int .i64 l[k].1.b.y) := by
 obtain ⟨b, o, hA, hb, hc⟩ := h.at_ (n := 12) (fun _ => rfl) hk (by omega)
 exact ⟨b, o, hA, hb, hc 0 _ rfl, hc 1 _ rfl, hc 2 _ rfl, hc 3 _ rfl, hc 4 _ rfl, hc 5 _ rfl, hc 6 _ rfl, hc 7 _ rfl, hc 8 _ rfl, hc 9 _ rfl, hc 10 _ rfl, hc 11 _ rfl⟩

set_option maxRecDepth 100000 in
set_option maxHeartbeats 8000000 in
theorem planar_ref_spec (v : Value) (p : Pl) (w : World) (h : PlV w v p) (hl1 : p.arcs.length ≤ 4096) (hl2 : (p.arcs.flatMap (·.via)).length ≤ 1048576) :
  Calls Tryz.prog 67 #[v] w fun e w' => e = .returned (.bool (planarR p)) ∧ Below w.heap.size w w' := by
 have HP := Lib.hid h
 obtain ⟨vn, va, vf, al, rfl, -⟩ := h
 have hok := segs_ok p hl2
 have HOk := Lib.hid hok; clear hok
 obtain ⟨q, hq⟩ : ∃ q, planarR p = q := ⟨_, rfl⟩
 rw [hq]
 have Hq := Lib.hid hq; clear hq
 have HL1 := Lib.hid hl1; have HL2 := Lib.hid hl2
 have Hbd := Lib.hid (show (segsS p).length ≤ 1052672 by unfold segsS; rw [segs_len]; omega)
 clear hl1 hl2
 go_enter Tryz.func67, Tryz.ntmps67
 go_wp2_with fail
 refine (Segments_spec _ p _ (HP.out.mono (bA (bR w) _)) HL1.out HL2.out).mono ?_
 rintro e w1 ⟨sl, v1, hsl, rfl, hb1, hown⟩
 have Bw : Below w.heap.size w w1 := by
  repeat (first | with_reducible exact bR _ | with_reducible assumption | with_reducible refine bA ?_ _ | with_reducible refine bD ?_ | with_reducible refine bN ?_ _ | ((with_reducible refine bS ?_ ?_ _); rotate_left; (simp; try omega)) | ((with_reducible refine bT ?_ ?_); rotate_left; with_reducible assumption) | with_reducible refine bT ?_ (by assumption))
 have X2 : Blk _ (w.heap.size) 26 #[vn, va, vf] := Blk.keep (by repeat (first | exact Blk.made (by simp) _ _ | refine Blk.alloc ?_ _)) hb1
 clear hb1
 have hsl2 := Own.sl hown
 obtain ⟨A, c, rfl, hn1, hn2, hR⟩ := hsl2
 unfold maxLen at hn2
 have HR := Lib.hid hR
 have Hsl := Lib.hid hsl
 have hlen : sl.length ≤ 1052672 := by have := congrArg List.length hsl; rw [List.length_map] at this; have := Hbd.out; omega
 have HX2 := Lib.hid X2
 have HB := Lib.hid Bw
 clear X2 Bw hown hR hsl
 -- each element is a segment of the plan
 have hin : ∀ k (hk : k < sl.length), sl[k].1.i ≤ 2097152 ∧ 1 ≤ sl[k].1.n ∧ sl[k].1.n ≤ 2097152 := fun k hk => HOk.out _ (by rw [← Hsl.out]; exact List.mem_map_of_mem (List.getElem_mem hk))
 have Hin := Lib.hid hin; clear hin
 have hF : ∀ i (hi : i < sl.length), aloneS p sl[i].1 = false → q = false := fun i hi h => by
  rw [← Hq.out, planarR, ← Hsl.out]
  exact tri_f _ _ _ i (by simpa using hi) (by simpa using h)
 have hG : ∀ i k (hk : k < i) (hi : i < sl.length), pairR p (sl[k]'(by omega)).1 sl[i].1 = false → q = false := fun i k hk hi h => by
  rw [← Hq.out, planarR, ← Hsl.out]
  exact tri_g _ _ _ i k hk (by simpa using hi) (by simpa using h)
 have hY : (∀ i (hi : i < sl.length), aloneS p sl[i].1 = true) → (∀ i k (hk : k < i) (hi : i < sl.length), pairR p (sl[k]'(by omega)).1 sl[i].1 = true) → q = true := fun h1 h2 => by
  rw [← Hq.out, planarR, ← Hsl.out]
  refine tri_ok _ _ _ (fun i hi => ?_) (fun i k hk hi => ?_)
  · have := h1 i (by simpa using hi); simpa using this
  · have := h2 i k hk (by simpa using hi); simpa using this
 have HF := Lib.hid hF; have HG := Lib.hid hG; have HY := Lib.hid hY
 clear hF hG hY
 go_wp2_with fail
 go_loopw [4] (fun u wr => ∃ i : Nat, i ≤ sl.length ∧ u = .int .i64 i ∧ Below w1.heap.size w1 wr ∧ (∀ j (hj : j < sl.length), j < i → aloneS p sl[j].1 = true) ∧ (∀ j k (hk : k < j) (hj : j < sl.length), j < i → pairR p (sl[k]'(by omega)).1 sl[j].1 = true)) (fun u _ => sl.length - (intOf u).toNat)
 case atStart => exact ⟨0, Nat.zero_le _, rfl, bR w1, fun _ _ h => by omega, fun _ _ _ _ h => by omega⟩
 case round =>
  obtain ⟨i, hi, rfl, hb, hno1, hno2⟩ := hrel
  have Hb := Lib.hid hb
  have Hn1 := Lib.hid hno1
  have Hn2 := Lib.hid hno2
  have X2 := HX2.out.keep hb
  clear hb hno1 hno2
  obtain ⟨X2l, X2a, X2b, X2c, -, -, -⟩ := X2.facts3
  by_cases hlt : i < sl.length
  case neg =>
   have hf := Lib.hid (HY.out (fun j hj => Hn1.out j hj (by omega)) (fun j k hk hj => Hn2.out j k hk hj (by omega)))
   go_wp2_with fail
   go_ret
   exact ⟨ret_bool hf.out.symm, bT HB.out Hb.out⟩
  obtain ⟨b, o, rfl, hlb, c0, c1, c2, c3, c4, c5, c6, c7, c8, c9, c10, c11⟩ := (HR.out.mono Hb.out).sg hlt
  have q1 : 0 ≤ (i : Int) := by omega
  have q2 : (i : Int) < sl.length := by omega
  have TA : ∀ W, Below w.heap.size w W → Calls Tryz.prog 108 #[.agg #[vn, va, vf], sgV sl[i].1 (.slice sl[i].2.a sl[i].2.n sl[i].2.c)] W _ := fun W hW => alone_spec _ p sl[i].1 sl[i].2.a sl[i].2.n sl[i].2.c W (HP.out.mono hW) (Hin.out i hlt).1 (Hin.out i hlt).2.2
  unfold sgV at TA
  have HA := Lib.hid TA; clear TA
  go_upto_region 5 with fail
  refine rg_start (Since wr) (.run 5 0 0 (.call 5 63 (.take 6 127 (.done)))) (by kernel_rfl) (bD (bR _)) (by kernel_rfl) (by kernel_rfl) (Nat.le_of_ble_eq_true (by kernel_rfl)) ?_
  intro opsR QR Hops HQrg hS
  iterate 5
   apply rg_p; exact Hops; exact rfl; exact hS; exact rfl
   · intro _ hqc; go_simp; try rfl
   try simp only [pu]
  refine rg_call (i := 5) (get_of Hops rfl) (fun K hK => ?_)
  have HSrg := Lib.hid hS; clear hS
  refine rg_run (wanted_plain rfl) ?_
  go_simp
  refine (HA.out _ (bT (bT HB.out Hb.out) HSrg.out)).mono ?_
  rintro e wr1 ⟨rfl, hbr1⟩
  have hS : Since wr wr1 := bT (w := wr) HSrg.out hbr1
  clear HSrg
  refine hK.out _ _ hS (fun _ => ?_)
  clear hK K
  try simp only [pu]
  apply rg_p; exact Hops; exact rfl; exact hS; exact rfl
  · intro _ hqc; go_simp; try rfl
  try simp only [pu]
  refine rg_done ?_
  refine HQrg.down _ _ ?_
  have hB : Below wr.heap.size wr wr1 := hS
  clear hS HQrg Hops
  have Bi : Below w1.heap.size w1 wr1 := bT Hb.out hB
  cases ha : aloneS p sl[i].1
  case false =>
   have hf := Lib.hid (HF.out i hlt ha)
   clear ha
   go_wp2_with fail
   go_ret
   exact ⟨ret_bool hf.out.symm, bT HB.out Bi⟩
  have Ha := Lib.hid ha
  have HBi := Lib.hid Bi
  clear ha Bi hB c0 c1 c2 c3 c4 c5 c6 c7 c8 c9 c10 c11 hlb X2 X2l X2a X2b X2c HA
  simp only [Bool.not_true]
  go_wp2_with fail
  obtain ⟨wo, rfl⟩ : ∃ wo : World, wo = wr := ⟨_, rfl⟩
  go_loopw [5] (fun u wr => ∃ k : Nat, k ≤ i ∧ u = .int .i64 k ∧ Below w1.heap.size w1 wr ∧ ∀ j (hj : j < sl.length), j < k → pairR p sl[j].1 sl[i].1 = true) (fun u _ => i - (intOf u).toNat)
  case atStart => exact ⟨0, Nat.zero_le _, rfl, HBi.out, fun _ _ h => by omega⟩
  case round =>
   obtain ⟨k, hk, rfl, hb, hno⟩ := hrel
   have Hb2 := Lib.hid hb
   have Hn3 := Lib.hid hno
   have X2 := HX2.out.keep hb
   clear hb hno
   try clear X2l
   try clear X2a
   try clear X2b
   try clear X2c
   obtain ⟨X2l, X2a, X2b, X2c, -, -, -⟩ := X2.facts3
   by_cases hki : k < i
   case neg =>
    have Hs1 := Lib.hid (all_succ (p := fun x => aloneS p x.1 = true) Hn1.out hlt Ha.out)
    have Hs2 : Hid (∀ j m (hm : m < j) (hj : j < sl.length), j < i + 1 → pairR p (sl[m]'(by omega)).1 sl[j].1 = true) := Lib.hid fun j m hm hj hji => by
     by_cases e : j < i
     · exact Hn2.out j m hm hj e
     ·
      have : j = i := by omega
      subst this
      exact Hn3.out m (by omega) (by omega)
    go_wp2_with fail
    go_roundw
    case rel => exact ⟨i + 1, by omega, by go_num, Hb2.out, Hs1.out, Hs2.out⟩
    case measure => simp [intOf]; omega
   have hkl : k < sl.length := by omega
   obtain ⟨b', o', hbo, hlb, c0, c1, c2, c3, c4, c5, c6, c7, c8, c9, c10, c11⟩ := (HR.out.mono Hb2.out).sg hlt
   simp only [Option.some.injEq, Addr.mk.injEq, and_true] at hbo
   obtain ⟨rfl, rfl⟩ := hbo
   obtain ⟨b', o', hbo, -, d0, d1, d2, d3, d4, d5, d6, d7, d8, d9, d10, d11⟩ := (HR.out.mono Hb2.out).sg hkl
   simp only [Option.some.injEq, Addr.mk.injEq, and_true] at hbo
   obtain ⟨rfl, rfl⟩ := hbo
   have r1 : 0 ≤ (k : Int) := by omega
   have r2 : (k : Int) < sl.length := by omega
   have TA : ∀ W, Calls Tryz.prog 109 #[sgV sl[k].1 (.slice sl[k].2.a sl[k].2.n sl[k].2.c), sgV sl[i].1 (.slice sl[i].2.a sl[i].2.n sl[i].2.c)] W _ := fun W => apart_spec sl[k].1 sl[i].1 sl[k].2.a sl[i].2.a sl[k].2.n sl[i].2.n sl[k].2.c sl[i].2.c W (Hin.out k hkl).1 (Hin.out i hlt).2.2 (Hin.out i hlt).2.1
   have TJ : ∀ W, Below w.heap.size w W → Calls Tryz.prog 110 #[.agg #[vn, va, vf], sgV sl[k].1 (.slice sl[k].2.a sl[k].2.n sl[k].2.c), sgV sl[i].1 (.slice sl[i].2.a sl[i].2.n sl[i].2.c)] W _ := fun W hW => joined_spec _ p sl[k].1 sl[i].1 sl[k].2.a sl[i].2.a sl[k].2.n sl[i].2.n sl[k].2.c sl[i].2.c W (HP.out.mono hW)
   unfold sgV at TA TJ
   have HJ := Lib.hid TJ; clear TJ
   cases hid : (sl[k].1.arc.id == sl[i].1.arc.id)
   case true =>
    have hpr : pairR p sl[k].1 sl[i].1 = apartS sl[k].1 sl[i].1 := by unfold pairR; rw [if_pos (eq_of_beq hid)]
    have hid2 : (sl[k].1.arc.id != sl[i].1.arc.id) = false := by simp [bne, hid]
    have Hpr := Lib.hid hpr; clear hpr
    cases ha : apartS sl[k].1 sl[i].1
    case false =>
     rw [ha] at TA
     have HA := Lib.hid TA
     have hf := Lib.hid (HG.out i k hki hlt (Hpr.out.trans ha))
     clear TA ha
     go_upto_region 10 with fail
     refine rg_start (Since wr) (.run 22 0 0 (.call 22 8388607 (.run 30 23 8388607 (.done)))) (by kernel_rfl) (bD (bR _)) (by kernel_rfl) (by kernel_rfl) (Nat.le_of_ble_eq_true (by kernel_rfl)) ?_
     intro opsR QR Hops HQrg hS
     iterate 14
      apply rg_p; exact Hops; exact rfl; exact hS; exact rfl
      · intro _ hqc; go_simp; try rfl
      try simp only [pu]
     iterate 8
      apply rg_g; exact Hops; exact rfl; exact hS; iterate 4 exact rfl
      · intro _ hqc; go_simp; try rfl
      try simp only [pu]
     refine rg_call (i := 22) (get_of Hops rfl) (fun K hK => ?_)
     have HSrg := Lib.hid hS; clear hS
     refine rg_run (wanted_yes rfl (get_of Hops rfl) rfl rfl) ?_
     go_simp
     refine (HA.out _).mono ?_
     rintro e wr1 ⟨rfl, hbr1⟩
     have hS : Since wr wr1 := bT (w := wr) HSrg.out hbr1
     clear HSrg
     refine hK.out _ _ hS (fun _ => ?_)
     clear hK K
     try simp only [pu]
     apply rg_g; exact Hops; exact rfl; exact hS; iterate 4 exact rfl
     · intro _ hqc; go_simp; try rfl
     try simp only [pu]
     iterate 2
      apply rg_p; exact Hops; exact rfl; exact hS; exact rfl
      · intro _ hqc; go_simp; try rfl
      try simp only [pu]
     iterate 26
      refine rg_yn Hops rfl hS rfl rfl rfl rfl rfl ?_
      try simp only [pu]
     apply rg_p; exact Hops; exact rfl; exact hS; exact rfl
     · intro _ hqc; go_simp; try rfl
     try simp only [pu]
     refine rg_done ?_
     refine HQrg.down _ _ ?_
     have hB : Below wr.heap.size wr wr1 := hS
     clear hS HQrg Hops
     have B3 : Below w1.heap.size w1 wr1 := bT Hb2.out hB
     go_wp2_with fail
     go_ret
     exact ⟨ret_bool hf.out.symm, bT HB.out B3⟩
    case true =>
     rw [ha] at TA
     have HA := Lib.hid TA
     have hg := Lib.hid (Hpr.out.trans ha)
     clear TA ha
     go_upto_region 10 with fail
     refine rg_start (Since wr) (.run 22 0 0 (.call 22 8388607 (.run 30 23 8388607 (.done)))) (by kernel_rfl) (bD (bR _)) (by kernel_rfl) (by kernel_rfl) (Nat.le_of_ble_eq_true (by kernel_rfl)) ?_
     intro opsR QR Hops HQrg hS
     iterate 14
      apply rg_p; exact Hops; exact rfl; exact hS; exact rfl
      · intro _ hqc; go_simp; try rfl
      try simp only [pu]
     iterate 8
      apply rg_g; exact Hops; exact rfl; exact hS; iterate 4 exact rfl
      · intro _ hqc; go_simp; try rfl
      try simp only [pu]
     refine rg_call (i := 22) (get_of Hops rfl) (fun K hK => ?_)
     have HSrg := Lib.hid hS; clear hS
     refine rg_run (wanted_yes rfl (get_of Hops rfl) rfl rfl) ?_
     go_simp
     refine (HA.out _).mono ?_
     rintro e wr1 ⟨rfl, hbr1⟩
     have hS : Since wr wr1 := bT (w := wr) HSrg.out hbr1
     clear HSrg
     refine hK.out _ _ hS (fun _ => ?_)
     clear hK K
     try simp only [pu]
     apply rg_g; exact Hops; exact rfl; exact hS; iterate 4 exact rfl
     · intro _ hqc; go_simp; try rfl
     try simp only [pu]
     iterate 2
      apply rg_p; exact Hops; exact rfl; exact hS; exact rfl
      · intro _ hqc; go_simp; try rfl
      try simp only [pu]
     iterate 14
      apply rg_g; exact Hops; exact rfl; exact hS; iterate 4 exact rfl
      · intro _ hqc; go_simp; try rfl
      try simp only [pu]
     iterate 11
      refine rg_yn Hops rfl hS rfl rfl rfl rfl rfl ?_
      try simp only [pu]
     apply rg_g; exact Hops; exact rfl; exact hS; iterate 4 exact rfl
     · intro _ hqc; go_simp; try rfl
     try simp only [pu]
     apply rg_p; exact Hops; exact rfl; exact hS; exact rfl
     · intro _ hqc; go_simp; try rfl
     try simp only [pu]
     refine rg_done ?_
     refine HQrg.down _ _ ?_
     have hB : Below wr.heap.size wr wr1 := hS
     clear hS HQrg Hops
     have B3 : Below w1.heap.size w1 wr1 := bT Hb2.out hB
     go_wp2_with fail
     go_roundw
     case rel => exact ⟨k + 1, by omega, by go_num, B3, all_succ (p := fun x => pairR p x.1 sl[i].1 = true) Hn3.out hkl hg.out⟩
     case measure => simp [intOf]; omega
   case false =>
    have hpr : pairR p sl[k].1 sl[i].1 = joinedS p sl[k].1 sl[i].1 := by unfold pairR; rw [if_neg (ne_of_beq_false hid)]
    have hid2 : (sl[k].1.arc.id != sl[i].1.arc.id) = true := by simp [bne, hid]
    have Hpr := Lib.hid hpr; clear hpr TA
    go_upto_region 10 with fail
    refine rg_start (Since wr) (.run 49 0 0 (.call 49 1125899906842623 (.run 3 50 1125899906842623 (.done)))) (by kernel_rfl) (bD (bR _)) (by kernel_rfl) (by kernel_rfl) (Nat.le_of_ble_eq_true (by kernel_rfl)) ?_
    intro opsR QR Hops HQrg hS
    iterate 14
     apply rg_p; exact Hops; exact rfl; exact hS; exact rfl
     · intro _ hqc; go_simp; try rfl
     try simp only [pu]
    iterate 10
     refine rg_yn Hops rfl hS rfl rfl rfl rfl rfl ?_
     try simp only [pu]
    iterate 2
     apply rg_p; exact Hops; exact rfl; exact hS; exact rfl
     · intro _ hqc; go_simp; try rfl
     try simp only [pu]
    iterate 23
     apply rg_g; exact Hops; exact rfl; exact hS; iterate 4 exact rfl
     · intro _ hqc; go_simp; try rfl
     try simp only [pu]
    refine rg_call (i := 49) (get_of Hops rfl) (fun K hK => ?_)
    have HSrg := Lib.hid hS; clear hS
    refine rg_run (wanted_yes rfl (get_of Hops rfl) rfl rfl) ?_
    go_simp
    refine (HJ.out _ (bT (bT HB.out Hb2.out) HSrg.out)).mono ?_
    rintro e wr1 ⟨rfl, hbr1⟩
    have hS : Since wr wr1 := bT (w := wr) HSrg.out hbr1
    clear HSrg
    refine hK.out _ _ hS (fun _ => ?_)
    clear hK K
    try simp only [pu]
    iterate 2
     apply rg_g; exact Hops; exact rfl; exact hS; iterate 4 exact rfl
     · intro _ hqc; go_simp; try rfl
     try simp only [pu]
    apply rg_p; exact Hops; exact rfl; exact hS; exact rfl
    · intro _ hqc; go_simp; try rfl
    try simp only [pu]
    refine rg_done ?_
    refine HQrg.down _ _ ?_
    have hB : Below wr.heap.size wr wr1 := hS
    clear hS HQrg Hops
    have B3 : Below w1.heap.size w1 wr1 := bT Hb2.out hB
    cases ha : joinedS p sl[k].1 sl[i].1
    case false =>
     have hf := Lib.hid (HG.out i k hki hlt (Hpr.out.trans ha))
     clear ha
     go_wp2_with fail
     go_ret
     exact ⟨ret_bool hf.out.symm, bT HB.out B3⟩
    case true =>
     have hg := Lib.hid (Hpr.out.trans ha)
     clear ha
     go_wp2_with fail
     go_roundw
     case rel => exact ⟨k + 1, by omega, by go_num, B3, all_succ (p := fun x => pairR p x.1 sl[i].1 = true) Hn3.out hkl hg.out⟩
     case measure => simp [intOf]; omega
end Go.Proofs.YtoclnkfeblfpbaaGreat
