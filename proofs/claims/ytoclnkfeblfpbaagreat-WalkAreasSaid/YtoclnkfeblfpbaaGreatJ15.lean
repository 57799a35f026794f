/- Plain law: links that lead to the roots of a forest; the number of connected parts by joining. No walk here. walk.Euler: its closure 'top'. walk.Euler. mapsheetsref15: Same, SameCycles; mapsheetslaw15.count. -/
import Derived.Test.YtoclnkfeblfpbaaGreatJ01
import Derived.Test.YtoclnkfeblfpbaaGreatJ11
import Derived.Test.YtoclnkfeblfpbaaGreatJ14
set_option linter.unusedSimpArgs false
set_option linter.unusedVariables false
namespace Go.Proofs.YtoclnkfeblfpbaaGreat
open Go.RowKit

/-- every path of links ends within K steps -/
def FlatF (F : Int → Int) (K : Nat) : Prop := ∀ x, F (pw F x K) = pw F x K
theorem pw_fix {F : Int → Int} {x : Int} {K : Nat} (h : F (pw F x K) = pw F x K) (n : Nat) : pw F x (K + n) = pw F x K := by
 induction n with
 | zero => rfl
 | succ n ih => show F (pw F x (K + n)) = _; rw [ih, h]
theorem pw_fix2 {F : Int → Int} {x : Int} {i j : Nat} (hi : F (pw F x i) = pw F x i) (hj : F (pw F x j) = pw F x j) : pw F x i = pw F x j := by
 rcases Nat.le_total i j with h | h
 ·
  have := pw_fix hi (j - i)
  rw [show i + (j - i) = j by omega] at this
  exact this.symm
 ·
  have := pw_fix hj (i - j)
  rw [show j + (i - j) = i by omega] at this
  exact this
theorem FlatF.more {F : Int → Int} {K M : Nat} (h : FlatF F K) (hm : K ≤ M) : FlatF F M := by
 intro x
 have := pw_fix (h x) (M - K)
 rw [show K + (M - K) = M by omega] at this
 rw [this]; exact h x
theorem FlatF.eq {F : Int → Int} {K M : Nat} (h : FlatF F K) (hm : K ≤ M) (x : Int) : pw F x M = pw F x K := pw_fix2 (h.more hm x) (h x)
def linkF (F : Int → Int) (a b : Int) (i : Int) : Int := if i = a then b else F i
theorem link_same {F : Int → Int} {a b x : Int} (n : Nat) (h : ∀ j, j < n → pw F x j ≠ a) : pw (linkF F a b) x n = pw F x n := by
 induction n with
 | zero => rfl
 | succ n ih =>
  show linkF F a b (pw (linkF F a b) x n) = F (pw F x n)
  rw [ih (fun j hj => h j (by omega))]
  unfold linkF
  rw [if_neg (h n (by omega))]
theorem first_hit {P : Nat → Prop} [DecidablePred P] : ∀ n, P n → ∃ j, j ≤ n ∧ P j ∧ ∀ i, i < j → ¬ P i
 | 0, h => ⟨0, Nat.le_refl _, h, fun i hi => by omega⟩
 | n + 1, h => by
  by_cases h2 : ∃ m, m ≤ n ∧ P m
  ·
   obtain ⟨m, hm, hp⟩ := h2
   obtain ⟨j, h1, h3, h4⟩ := first_hit m hp
   exact ⟨j, by omega, h3, h4⟩
  · exact ⟨n + 1, Nat.le_refl _, h, fun i hi hp => h2 ⟨i, by omega, hp⟩⟩
termination_by n => n
decreasing_by omega
theorem link_pw {F : Int → Int} {K : Nat} (h : FlatF F K) {a b : Int} (ha : F a = a) (hb : F b = b) (hne : a ≠ b) :
  FlatF (linkF F a b) (K + 1) ∧ ∀ x, pw (linkF F a b) x (K + 1) = if pw F x K = a then b else pw F x K := by
 have hfb : linkF F a b b = b := by unfold linkF; rw [if_neg (fun e => hne e.symm), hb]
 have key : ∀ x, pw (linkF F a b) x (K + 1) = if pw F x K = a then b else pw F x K := by
  intro x
  by_cases hx : pw F x K = a
  ·
   rw [if_pos hx]
   obtain ⟨j, h1, h2, h3⟩ := first_hit (P := fun j => pw F x j = a) K hx
   have e1 : pw (linkF F a b) x j = a := by rw [link_same j h3]; exact h2
   have e2 : pw (linkF F a b) x (j + 1) = b := by
    show linkF F a b (pw (linkF F a b) x j) = b
    rw [e1]; unfold linkF; rw [if_pos rfl]
   have e3 : linkF F a b (pw (linkF F a b) x (j + 1)) = pw (linkF F a b) x (j + 1) := by rw [e2]; exact hfb
   have := pw_fix e3 (K - j)
   rw [show j + 1 + (K - j) = K + 1 by omega] at this
   rw [this, e2]
  ·
   rw [if_neg hx]
   have hn : ∀ j, j < K + 1 → pw F x j ≠ a := by
    intro j hj e
    have e2 : F (pw F x j) = pw F x j := by rw [e]; exact ha
    exact hx ((pw_fix2 (h x) e2).trans e)
   rw [link_same (K + 1) hn]
   exact pw_fix (h x) 1
 refine ⟨fun x => ?_, key⟩
 rw [key x]
 split
 · exact hfb
 ·
  rename_i hx
  unfold linkF
  rw [if_neg hx]; exact h x
/-- the number of steps to a root, at most n -/
def distF (F : Int → Int) : Nat → Int → Nat
 | 0, _ => 0
 | n + 1, y => if F y = y then 0 else distF F n (F y) + 1
theorem dist_more {F : Int → Int} : ∀ (n : Nat) (y : Int), F (pw F y n) = pw F y n → ∀ k, distF F (n + k) y = distF F n y
 | 0, y, h, k => by
  have h' : F y = y := h
  cases k with
  | zero => rfl
  | succ k => show distF F (0 + k + 1) y = _; unfold distF; rw [if_pos h']
 | n + 1, y, h, k => by
  rw [show n + 1 + k = (n + k) + 1 by omega]
  unfold distF
  split
  · rfl
  · rw [dist_more n (F y) (by rw [pw_succ]; exact h) k]
theorem dist_lt {F : Int → Int} {K : Nat} {y : Int} (h : F (pw F y K) = pw F y K) (hne : F y ≠ y) : distF F K (F y) < distF F K y := by
 cases K with
 | zero => exact absurd h hne
 | succ n =>
  have h2 : F (pw F (F y) n) = pw F (F y) n := by rw [pw_succ]; exact h
  rw [dist_more n (F y) h2 1]
  rw [show distF F (n + 1) y = distF F n (F y) + 1 by show (if F y = y then 0 else _) = _; rw [if_neg hne]]
  omega

/-- the links before the arcs are read: each node to itself -/
def above0 (l : List Nd) (i : Int) : Int := if i ∈ l.map (·.id) then i else 0
theorem above0_snoc (l : List Nd) (n : Nd) : (fun i => if i = n.id then n.id else above0 l i) = above0 (l ++ [n]) := by
 funext i
 unfold above0
 by_cases e : i = n.id
 · subst e; simp
 · simp only [e, if_false, List.map_append, List.mem_append, List.map_cons, List.map_nil, List.mem_singleton, or_false]
theorem above0_nil : above0 [] = fun _ => 0 := by funext i; simp [above0]
theorem above0_flat (l : List Nd) : FlatF (above0 l) 1 := by
 intro x
 show above0 l (above0 l x) = above0 l x
 unfold above0
 by_cases h : x ∈ l.map (·.id)
 · rw [if_pos h, if_pos h]
 · rw [if_neg h]; split <;> rfl
def eulStep (K : Nat) (s : (Int → Int) × Int) (a : Ar) : (Int → Int) × Int :=
 if pw s.1 a.fr K = pw s.1 a.dst K then s else (linkF s.1 (pw s.1 a.fr K) (pw s.1 a.dst K), s.2 - 1)
/-- the links and the number of parts behind the first k arcs -/
def eulSt (p : Pl) (k : Nat) : (Int → Int) × Int := (p.arcs.take k).foldl (eulStep (p.arcs.length + 1)) (above0 p.nodes, (p.nodes.length : Int))
def partsD (p : Pl) : Int := (eulSt p p.arcs.length).2
theorem eulSt_succ (p : Pl) (k : Nat) (hk : k < p.arcs.length) : eulSt p (k + 1) = eulStep (p.arcs.length + 1) (eulSt p k) p.arcs[k] := by
 unfold eulSt
 rw [List.take_succ_eq_append_getElem hk, List.foldl_append]
 rfl
structure EulOK (p : Pl) (k : Nat) (s : (Int → Int) × Int) : Prop where
 flat : FlatF s.1 (k + 1)
 bd : ∀ x, -1073741824 ≤ s.1 x ∧ s.1 x ≤ 1073741824
 lo : (p.nodes.length : Int) - k ≤ s.2
 hi : s.2 ≤ p.nodes.length
theorem eul_ok {p : Pl} (h : Valid p) (k : Nat) (hk : k ≤ p.arcs.length) : EulOK p k (eulSt p k) := by
 induction k with
 | zero =>
  refine ⟨above0_flat _, fun x => ?_, by simp [eulSt], by simp [eulSt]⟩
  show -1073741824 ≤ above0 p.nodes x ∧ above0 p.nodes x ≤ 1073741824
  unfold above0
  split
  ·
   rename_i hm
   obtain ⟨n, hn, rfl⟩ := List.mem_map.1 hm
   have := h.nid_pos hn
   omega
  · omega
 | succ k ih =>
  obtain ⟨h1, h2, h3, h4⟩ := ih (by omega)
  rw [eulSt_succ p k (by omega)]
  generalize eulSt p k = s at *
  unfold eulStep
  split
  · exact ⟨h1.more (by omega), h2, by omega, h4⟩
  ·
   rename_i hne
   have e1 : ∀ x, s.1 (pw s.1 x (p.arcs.length + 1)) = pw s.1 x (p.arcs.length + 1) := h1.more (by omega)
   refine ⟨(link_pw h1 (e1 _) (e1 _) hne).1, fun x => ?_, by show _ ≤ s.2 - 1; omega, by show s.2 - 1 ≤ _; omega⟩
   show -1073741824 ≤ linkF _ _ _ x ∧ linkF _ _ _ x ≤ 1073741824
   unfold linkF
   split
   · rw [← e1]; exact h2 _
   · exact h2 _
end Go.Proofs.YtoclnkfeblfpbaaGreat
namespace Go.Proofs.YtoclnkfeblfpbaaGreat
open Go.RowKit

set_option maxRecDepth 100000 in
set_option maxHeartbeats 4000000 in
theorem top_spec (F : Int → Int) (K : Nat) (hF : FlatF F K) (hb : ∀ x, -1073741824 ≤ F x ∧ F x ≤ 1073741824) (d : Int) (hd : wfI d) (g gm n : Nat) (w : World) (h1 : Blk w g 54 #[.map (some gm)]) (hm : MapII w gm n F) :
  Calls Tryz.prog 43 #[.int .i64 d, .pointer (some ⟨g, 0, none⟩)] w fun e w' => e = .returned (.int .i64 (pw F d K)) ∧ Below w.heap.size w w' := by
 have HF := Lib.hid hF; have HM := Lib.hid hm
 have HW := Lib.hid (show ∀ j, wfI (pw F d j) from fun j => by
  cases j with
  | zero => exact hd
  | succ j => have := hb (pw F d j); exact wfI_of (by show _ ≤ F _; omega) (by show F _ ≤ _; omega))
 obtain ⟨q, hq⟩ : ∃ q, pw F d K = q := ⟨_, rfl⟩
 rw [hq]
 have Hq := Lib.hid hq
 clear hF hm hb hd hq
 have X1 := h1
 clear h1
 obtain ⟨X1l, X1a, -⟩ := X1.facts1
 go_enter Tryz.func43, Tryz.ntmps43
 go_wp2_with fail
 go_loop [0] (fun x => ∃ j : Nat, x = .int .i64 (pw F d j)) (fun x => distF F K (intOf x))
 case atStart => exact ⟨0, rfl⟩
 case round =>
  obtain ⟨j, rfl⟩ := hrel
  obtain ⟨y, hy⟩ : ∃ y, pw F d j = y := ⟨_, rfl⟩
  have hs : F y = pw F d (j + 1) := by rw [← hy]; rfl
  have hlk := HM.out.look y (hy ▸ HW.out j)
  rw [hs] at hlk
  rw [hy]
  have HY := Lib.hid hy
  have HS := Lib.hid hs
  clear hy hs
  by_cases he : pw F d (j + 1) = y
  ·
   have hfix : q = y := by
    rw [← Hq.out, ← HY.out]
    refine pw_fix2 (HF.out d) ?_
    rw [HY.out, HS.out, he]
   rw [he] at hlk
   have hn : (y != y) = false := by simp
   subst hfix
   clear he
   go_wp2_with fail
   go_ret
   exact ⟨rfl, bR w⟩
  ·
   have hn : (pw F d (j + 1) != y) = true := by simpa using he
   have hdl : distF F K (pw F d (j + 1)) < distF F K y := by
    rw [← HS.out]
    refine dist_lt (HF.out y) (by rw [HS.out]; exact he)
   clear he
   go_wp2_with fail
   go_round
   case rel => exact ⟨j + 1, rfl⟩
   case measure => simp only [intOf]; exact hdl
end Go.Proofs.YtoclnkfeblfpbaaGreat
namespace Go.Proofs.YtoclnkfeblfpbaaGreat
open Go.RowKit

theorem results_tmp5 {P : Program} {fn : Func} {p q r s t : Tmp} (h : fn.results = #[.tmp p, .tmp q, .tmp r, .tmp s, .tmp t]) (a : Array Value) (w : World) :
  (results fn a).run P w = .ok (.tuple #[a.getD p undef, a.getD q undef, a.getD r undef, a.getD s undef, a.getD t undef]) w := by
 simp only [results, h]
 simp [Sem.run_bind, Sem.run_pure, Result.andThen]
def RetEul (w : World) (a b c d z : Int) (e : Ending) (w' : World) : Prop :=
 e = .returned (.tuple #[.int .i64 a, .int .i64 b, .int .i64 c, .int .i64 d, .int .i64 z]) ∧ Below w.heap.size w w'

set_option maxRecDepth 100000 in
set_option maxHeartbeats 8000000 in
theorem Euler_spec (v : Value) (p : Pl) (w : World) (h : PlV w v p) (hv : Valid p) :
  Calls Tryz.prog 21 #[v] w (RetEul w p.nodes.length p.arcs.length (cyclesD p).length (partsD p) 0) := by
 have HCk := Lib.hid (fun W (hW : Below w.heap.size w W) => Cycles_spec v p W (h.mono hW) hv)
 obtain ⟨_, _, _, al, rfl, hpa, ⟨An, cn, rfl, hn1, hn2, hR⟩, ⟨⟨Aa, ca, rfl, hm1, hm2, hRa⟩, hVi⟩, ⟨Af, cf, rfl, -⟩⟩ := h
 unfold maxLen at hn2 hm2
 have HR := Lib.hid hR; have HV := Lib.hid hv; have HRa := Lib.hid hRa; have HVi := Lib.hid hVi
 have hnl := hv.nodes_len
 have hall : al.length ≤ 256 := by
  have hl := hv.lim
  unfold limS at hl
  simp only [Bool.or_eq_false_iff, decide_eq_false_iff_not] at hl
  have h2 := hl.2
  rw [hpa, List.length_map] at h2
  omega
 have hpl : p.arcs.length = al.length := by rw [hpa, List.length_map]
 have HOk := Lib.hid (fun k hk => eul_ok hv k hk)
 have HSt := Lib.hid (fun k hk => eulSt_succ p k hk)
 have HId := Lib.hid (fun k (hk : k < p.nodes.length) => hv.nid_pos (List.getElem_mem hk))
 have HEn := Lib.hid (fun k (hk : k < al.length) => show (-1073741824 ≤ al[k].1.fr ∧ al[k].1.fr ≤ 1073741824) ∧ (-1073741824 ≤ al[k].1.dst ∧ al[k].1.dst ≤ 1073741824) from by
  have ham : al[k].1 ∈ p.arcs := by rw [hpa]; exact List.mem_map_of_mem (List.getElem_mem hk)
  obtain ⟨n1, h1, e1, -⟩ := hv.sound.at_fr ham
  obtain ⟨n2, h2, e2, -⟩ := hv.sound.at_dst ham
  have g1 := hv.nid_pos h1
  have g2 := hv.nid_pos h2
  omega)
 generalize p.faces.length = nf at *
 obtain ⟨cy, hcy⟩ : ∃ cy, cyclesD p = cy := ⟨_, rfl⟩
 obtain ⟨pn, hpn⟩ : ∃ pn, partsD p = pn := ⟨_, rfl⟩
 obtain ⟨nn, hnn⟩ : ∃ nn, p.nodes.length = nn := ⟨_, rfl⟩
 rw [hcy] at HCk
 rw [hnn] at hn1 hnl HCk
 rw [hcy, hpn, hnn, hpl]
 have HCy := Lib.hid hcy; have HPn := Lib.hid hpn; have HNN := Lib.hid hnn; have HPa := Lib.hid hpa; have HPl := Lib.hid hpl
 clear hpa hR hv hRa hVi hpl hcy hpn hnn
 go_enter Tryz.func21, Tryz.ntmps21
 go_wp2_with fail
 refine (HCk.out _ (bA (bR w) _)).mono ?_
 rintro e w1 ⟨Ac, cc, cl, rfl, hb1, hcl, hco⟩
 have X1 : Blk w1 w.heap.size 26 #[.slice An nn cn, .slice Aa al.length ca, .slice Af nf cf] := (Blk.made rfl _ _).keep hb1
 have B1 := Lib.hid (bT (bA (bR w) _) hb1)
 clear hb1 HCk hcl hco
 have hmm := @run_makeMap Tryz.prog
 go_upto_region 5 with fail
 obtain ⟨gk, hgk⟩ : ∃ gk, w1.heap.size = gk := ⟨_, rfl⟩
 obtain ⟨W5, hW⟩ : ∃ W : World, W = (w1.alloc (.map #[] 0)).alloc (.cells #[.map (some w1.heap.size)] 54) := ⟨_, rfl⟩
 have hA : Below w1.heap.size w1 W5 := by rw [hW]; exact bA (bA (bR w1) _) _
 have HX5 := Lib.hid (show Blk W5 (w1.heap.size + 1) 54 #[.map (some w1.heap.size)] by rw [hW]; exact Blk.made (by simp) _ _)
 have HM5 := Lib.hid (show MapII W5 w1.heap.size 0 (fun _ => 0) by rw [hW]; exact (MapII.made w1).keep (bA (bR _) _))
 have HX1 := Lib.hid (X1.keep hA)
 have B5 := Lib.hid (bT B1.out hA)
 have hz1 : w.heap.size + 1 ≤ w1.heap.size := X1.lt
 rw [← hW]
 clear hW hA X1 hmm
 rw [hgk] at HX5 HM5 hz1 ⊢
 clear hgk
 have hz5 : gk + 1 < W5.heap.size := HX5.out.lt
 have X1 := HX1.out
 obtain ⟨X1l, X1a, X1b, X1c, -, -, -⟩ := X1.facts3
 go_upto_block 0 with fail
 go_wp2_with fail
 go_loopw [28] (fun i wr => ∃ k : Nat, k ≤ nn ∧ i = .int .i64 k ∧ MapII wr gk k (above0 (p.nodes.take k)) ∧ Blk wr w.heap.size 26 #[.slice An nn cn, .slice Aa al.length ca, .slice Af nf cf] ∧ Blk wr (gk + 1) 54 #[.map (some gk)] ∧ Below w.heap.size w wr) (fun i _ => nn - (intOf i).toNat)
 case atStart => exact ⟨0, Nat.zero_le _, rfl, by rw [List.take_zero, above0_nil]; exact HM5.out, X1, HX5.out, B5.out⟩
 case round =>
  obtain ⟨k, hk, rfl, mp, X1, X5, hb⟩ := hrel
  obtain ⟨wo, rfl⟩ : ∃ wo : World, wo = wr := ⟨_, rfl⟩
  have HM := Lib.hid mp; have HX1 := Lib.hid X1; have HX5 := Lib.hid X5; have Hb := Lib.hid hb
  clear mp hb X1l X1a X1b X1c
  by_cases hlt : k < nn
  ·
   have hkn : k < p.nodes.length := by have := HNN.out; omega
   obtain ⟨b, o, rfl, hlb, c0, c1, c2⟩ := (HR.out.mono Hb.out).nd hkn
   have hid := HId.out k hkn
   have htk : p.nodes.take (k + 1) = p.nodes.take k ++ [p.nodes[k]] := List.take_succ_eq_append_getElem hkn
   generalize p.nodes[k] = nd at *
   obtain ⟨w3, hr3, hm3, hg3⟩ := (HM.out.keep (bA (bR wo) (.cells #[.int .i64 nd.id, .int .i64 nd.pt.x, .int .i64 nd.pt.y] 43))).upd (by omega) nd.id (wfI_of (by omega) (by omega)) nd.id
   rw [above0_snoc, ← htk] at hm3
   have m1 := mapII_ne HM.out X1
   have m5 := mapII_ne HM.out X5
   have HM3 := Lib.hid hm3
   have HX13 := Lib.hid (Blk.grow (X1.alloc _) hg3 (fun e => m1 (Option.some.inj e)))
   have HX53 := Lib.hid (Blk.grow (X5.alloc _) hg3 (fun e => m5 (Option.some.inj e)))
   have HB3 := Lib.hid (bG (bA Hb.out _) hg3 (fun g hg => by have := Option.some.inj hg; omega))
   clear hm3 hg3 htk
   obtain ⟨X5l, X5a, -⟩ := X5.facts1
   go_wp2_with fail
   go_roundw
   case rel => exact ⟨k + 1, by omega, by go_num, HM3.out, HX13.out, HX53.out, HB3.out⟩
   case measure => simp [intOf]; omega
  ·
   obtain rfl : nn = k := by omega
   have hst : p.nodes.take nn = p.nodes := List.take_of_length_le (by rw [HNN.out]; omega)
   rw [hst] at HM
   have hs0 : (eulSt p 0) = (above0 p.nodes, (nn : Int)) := by unfold eulSt; rw [List.take_zero, HNN.out]; rfl
   have HS0 := Lib.hid hs0
   clear hst hs0
   have hzo : gk + 1 < wo.heap.size := HX5.out.lt
   try clear X1l
   try clear X1a
   try clear X1b
   try clear X1c
   obtain ⟨X1l, X1a, X1b, X1c, -, -, -⟩ := X1.facts3
   clear hlt
   go_upto_block 2 with fail
   go_wp2_with fail
   go_loopw [5, 45] (fun s i wr => ∃ (j cnt : Nat), j ≤ al.length ∧ i = .int .i64 j ∧ s = .int .i64 (eulSt p j).2 ∧ cnt ≤ nn + j ∧ MapII wr gk cnt (eulSt p j).1 ∧ Blk wr w.heap.size 26 #[.slice An nn cn, .slice Aa al.length ca, .slice Af nf cf] ∧ Blk wr (gk + 1) 54 #[.map (some gk)] ∧ Below w.heap.size w wr ∧ gk + 1 < wr.heap.size) (fun _ i _ => al.length - (intOf i).toNat)
   case atStart => exact ⟨0, nn, Nat.zero_le _, rfl, by rw [HS0.out], by omega, by rw [HS0.out]; exact HM.out, HX1.out, HX5.out, Hb.out, hzo⟩
   case round =>
    obtain ⟨j, cnt, hj, rfl, rfl, hcnt, mp, X1, X5, hb, hzr⟩ := hrel
    have HM3 := Lib.hid mp; have HX13 := Lib.hid X1; have HX53 := Lib.hid X5; have HB3 := Lib.hid hb
    clear mp hb X1l X1a X1b X1c X5
    have hok := HOk.out j (by have := HPl.out; omega)
    have hlo := hok.lo; have hhi := hok.hi
    rw [HNN.out] at hlo hhi
    have HO := Lib.hid hok
    clear hok
    by_cases hlt : j < al.length
    ·
     obtain ⟨b, o, rfl, hlb, c0, c1, c2, c3, c4, c5⟩ := (HRa.out.mono HB3.out).ar hlt
     obtain ⟨Av, cv, hv, -⟩ := HVi.out j hlt
     rw [hv] at c3
     have hen := HEn.out j hlt
     have hst := HSt.out j (by have := HPl.out; omega)
     have hpj : p.arcs[j]'(by have := HPl.out; omega) = al[j].1 := by simp only [HPa.out, List.getElem_map]
     rw [hpj, HPl.out] at hst
     clear hv hpj
     generalize al[j].1.via.length = vn at *
     generalize al[j].1 = a at *
     obtain ⟨st, hst0⟩ : ∃ st, eulSt p j = st := ⟨_, rfl⟩
     rw [hst0] at hst HO hlo hhi HM3 ⊢
     have HSt1 := Lib.hid hst
     clear hst hst0
     unfold eulStep at HSt1
     have hf := HO.out.flat.more (M := al.length + 1) (by omega)
     have HT := Lib.hid (fun d (hd : wfI d) W (hW : Below wr.heap.size wr W) => top_spec st.1 (al.length + 1) hf HO.out.bd d hd (gk + 1) gk cnt W (HX53.out.keep hW) (HM3.out.keep hW))
     have hbd1 : ∀ x, -1073741824 ≤ pw st.1 x (al.length + 1) ∧ pw st.1 x (al.length + 1) ≤ 1073741824 := fun x => by rw [← hf x]; exact HO.out.bd _
     obtain ⟨r1, hr1⟩ : ∃ r1, pw st.1 a.fr (al.length + 1) = r1 := ⟨_, rfl⟩
     obtain ⟨r2, hr2⟩ : ∃ r2, pw st.1 a.dst (al.length + 1) = r2 := ⟨_, rfl⟩
     have hw1 := hbd1 a.fr
     have hw2 := hbd1 a.dst
     have HT1 := Lib.hid (HT.out a.fr (wfI_of (by omega) (by omega)))
     have HT2 := Lib.hid (HT.out a.dst (wfI_of (by omega) (by omega)))
     rw [hr1] at HT1 HSt1 hw1
     rw [hr2] at HT2 HSt1 hw2
     clear hbd1 hf HT hr1 hr2
     obtain ⟨s1, s2⟩ := st
     simp only at HSt1 HM3 hlo hhi ⊢
     go_upto_region 15 with fail
     clear c0 c1 c2 c3 c4 c5 hlb
     obtain ⟨W7, hW⟩ : ∃ W : World, W = wr.alloc (.cells #[.int .i64 a.id, .int .i64 a.fr, .int .i64 a.dst, .slice Av vn cv, .int .i64 a.left, .int .i64 a.right] 47) := ⟨_, rfl⟩
     have HA := Lib.hid (show Below wr.heap.size wr W7 by rw [hW]; exact bA (bR wr) _)
     have X13 : Blk W7 wr.heap.size 47 #[.int .i64 a.id, .int .i64 a.fr, .int .i64 a.dst, .slice Av vn cv, .int .i64 a.left, .int .i64 a.right] := by rw [hW]; exact Blk.made rfl _ _
     rw [← hW]
     clear hW
     obtain ⟨X13l, X13a, X13b, X13c, X13d, X13e, X13f, -, -, -, -, -, -⟩ := X13.facts6
     refine rg_start (Since W7) (.run 3 0 0 (.run 3 4 7 (.call 3 127 (.call 7 255 (.take 8 511 (.take 9 1023 (.done))))))) (by kernel_rfl) (bD (bR _)) (by kernel_rfl) (by kernel_rfl) (Nat.le_of_ble_eq_true (by kernel_rfl)) ?_
     intro opsR QR Hops HQrg hS
     iterate 6
      apply rg_p; exact Hops; exact rfl; exact hS; exact rfl
      · intro _ hqc; go_simp; try rfl
      try simp only [pu]
     refine rg_call (i := 3) (get_of Hops rfl) (fun K hK => ?_)
     have HSrg := Lib.hid hS; clear hS
     refine rg_run (wanted_plain rfl) ?_
     go_simp
     refine (HT1.out _ (bT HA.out (bD (bR W7)))).mono ?_
     rintro e wr1 ⟨rfl, hbr1⟩
     have hS : Since W7 wr1 := bT (w := W7) HSrg.out hbr1
     clear HSrg
     refine hK.out _ _ hS (fun _ => ?_)
     clear hK K
     try simp only [pu]
     refine rg_call (i := 7) (get_of Hops rfl) (fun K hK => ?_)
     have HSrg := Lib.hid hS; clear hS
     refine rg_run (wanted_plain rfl) ?_
     go_simp
     refine (HT2.out _ (bT HA.out (bT (bD (bR W7)) hbr1))).mono ?_
     rintro e wr2 ⟨rfl, hbr2⟩
     have hS : Since W7 wr2 := bT (w := W7) HSrg.out hbr2
     clear HSrg
     refine hK.out _ _ hS (fun _ => ?_)
     clear hK K
     try simp only [pu]
     iterate 2
      apply rg_p; exact Hops; exact rfl; exact hS; exact rfl
      · intro _ hqc; go_simp; try rfl
      try simp only [pu]
     refine rg_done ?_
     refine HQrg.down _ _ ?_
     have hB : Below W7.heap.size W7 wr2 := hS
     clear hS HQrg Hops
     have HW := Lib.hid (bT HA.out hB)
     obtain ⟨W8, hW8⟩ : ∃ W8, W8 = wr2 := ⟨_, rfl⟩
     rw [← hW8] at HW ⊢
     clear hB hbr1 hbr2 hW8 X13l X13a X13b X13c X13d X13e X13f X13 HT1 HT2
     cases hne : (r1 != r2)
     ·
      have he : eulSt p (j + 1) = (s1, s2) := by rw [HSt1.out, if_pos (by simpa using hne)]
      have HE := Lib.hid he
      clear he
      go_wp2_with fail
      go_roundw
      case rel => exact ⟨j + 1, cnt, by omega, by go_num, by rw [HE.out], by omega, by rw [HE.out]; exact HM3.out.keep HW.out, HX13.out.keep HW.out, HX53.out.keep HW.out, bT HB3.out HW.out, Nat.lt_of_lt_of_le hzr HW.out.size⟩
      case measure => simp [intOf]; omega
     ·
      have he : eulSt p (j + 1) = (linkF s1 r1 r2, s2 - 1) := by rw [HSt1.out, if_neg (by simpa using hne)]
      have HE := Lib.hid he
      clear he
      have X8 := HX53.out.keep HW.out
      have X18 := HX13.out.keep HW.out
      have HM8 := Lib.hid (HM3.out.keep HW.out)
      obtain ⟨w9, hr9, hm9, hg9⟩ := HM8.out.upd (by omega) r1 (wfI_of (by omega) (by omega)) r2
      have m1 := mapII_ne HM8.out X18
      have m8 := mapII_ne HM8.out X8
      have HM9 := Lib.hid (show MapII w9 gk (cnt + 1) (linkF s1 r1 r2) from hm9)
      have HX19 := Lib.hid (Blk.grow X18 hg9 (fun e => m1 (Option.some.inj e)))
      have HX89 := Lib.hid (Blk.grow X8 hg9 (fun e => m8 (Option.some.inj e)))
      have HB9 := Lib.hid (bG (bT HB3.out HW.out) hg9 (fun g hg => by have := Option.some.inj hg; omega))
      have hz9 := Nat.le_trans HW.out.size hg9.size
      clear hm9 hg9 X18
      have g1 : IntKind.i64.wrap (s2 - 1) = s2 - 1 := IntWalk.i64_in _ (by omega)
      obtain ⟨X8l, X8a, -⟩ := X8.facts1
      go_wp2_with fail
      go_roundw
      case rel => exact ⟨j + 1, cnt + 1, by omega, by go_num, by rw [HE.out], by omega, by rw [HE.out]; exact HM9.out, HX19.out, HX89.out, HB9.out, by omega⟩
      case measure => simp [intOf]; omega
    ·
     obtain rfl : j = al.length := by omega
     have hp : (eulSt p al.length).2 = pn := by rw [← HPn.out]; unfold partsD; rw [HPl.out]
     rw [hp] at hlo hhi ⊢
     clear hp HSt HEn HO HOk
     have X1 := HX13.out
     try clear X1l
     try clear X1a
     try clear X1b
     try clear X1c
     obtain ⟨X1l, X1a, X1b, X1c, -, -, -⟩ := X1.facts3
     go_upto_region 20 with fail
     refine rg_start (Since wr) (.run 14 0 0 (.done)) (by kernel_rfl) (bD (bR _)) (by kernel_rfl) (by kernel_rfl) (Nat.le_of_ble_eq_true (by kernel_rfl)) ?_
     intro opsR QR Hops HQrg hS
     iterate 14
      apply rg_p; exact Hops; exact rfl; exact hS; exact rfl
      · intro _ hqc; go_simp; try rfl
      try simp only [pu]
     refine rg_done ?_
     refine HQrg.down _ _ ?_
     have hB : Below wr.heap.size wr wr.drew := hS
     clear hS HQrg Hops
     go_wp2_with fail
     exact bodyPost_ret (results_tmp5 rfl _ _) rfl ⟨rfl, bT HB3.out hB⟩
end Go.Proofs.YtoclnkfeblfpbaaGreat
namespace Go.Proofs.YtoclnkfeblfpbaaGreat
open Go.RowKit

/-- a list of lists of ints that is read -/
def CyR (w : World) (v : Value) (L : List (List Int × SV)) : Prop := Sl w v L.length (L.flatMap cyC) ∧ ∀ x ∈ L, Ints w (.slice x.2.a x.2.n x.2.c) x.1
theorem CyR.mono {w w' : World} {v : Value} {L : List (List Int × SV)} (h : CyR w v L) (hb : Below w.heap.size w w') : CyR w' v L :=
 ⟨Sl.mono h.1 hb, fun x hx => (h.2 x hx).mono hb⟩
theorem CysO.read {w : World} {B : Nat} {v : Value} {L : List (List Int × SV)} (h : CysO w B v L) : CyR w v L := ⟨h.1.sl, fun x hx => (h.2 x hx).sl⟩
theorem Row.cy {w : World} {A : Option Addr} {l : List (List Int × SV)} (h : Row w A (l.flatMap cyC)) {k : Nat} (hk : k < l.length) :
  ∃ b o, A = some ⟨b, o, none⟩ ∧ b < w.heap.size ∧ w.cell? ⟨b, o + k, none⟩ = some (.slice l[k].2.a l[k].2.n l[k].2.c) := by
 obtain ⟨b, o, hA, hb, hc⟩ := h.at_ (n := 1) (fun _ => rfl) hk (by omega)
 exact ⟨b, o, hA, hb, by simpa using hc 0 _ rfl⟩

def sameI (l m : List Int) : Bool := decide (l = m)
theorem sameI_ne {l m : List Int} (h : l.length ≠ m.length) : sameI l m = false := by
 unfold sameI; rw [decide_eq_false_iff_not]; rintro rfl; exact h rfl
theorem sameI_at {l m : List Int} {k : Nat} (h1 : k < l.length) (h2 : k < m.length) (h : l[k] ≠ m[k]) : sameI l m = false := by
 unfold sameI; rw [decide_eq_false_iff_not]; rintro rfl; exact h rfl
theorem sameI_all {l m : List Int} (hl : l.length = m.length) (h : ∀ j (h1 : j < l.length) (h2 : j < m.length), l[j] = m[j]) : sameI l m = true := by
 unfold sameI; rw [decide_eq_true_iff]; exact List.ext_getElem hl h

set_option maxRecDepth 100000 in
set_option maxHeartbeats 4000000 in
theorem Same15_spec (u v : Value) (l m : List Int) (w : World) (h : Ints w u l) (h' : Ints w v m) :
  Calls Tryz.prog 29 #[u, v] w fun e w' => e = .returned (.bool (sameI l m)) ∧ Below w.heap.size w w' := by
 obtain ⟨A1, c1, rfl, hn1, hc1, hR1⟩ := h
 obtain ⟨A2, c2, rfl, hn2, hc2, hR2⟩ := h'
 unfold maxLen at hc1 hc2
 have HR1 := Lib.hid hR1; have HR2 := Lib.hid hR2
 obtain ⟨q, hq⟩ : ∃ q, sameI l m = q := ⟨_, rfl⟩
 rw [hq]
 have Hq := Lib.hid hq
 clear hq hR1 hR2
 by_cases hl : l.length = m.length
 case neg =>
  have hf : q = false := by rw [← Hq.out]; exact sameI_ne hl
  subst hf
  have hl' : ((l.length : Int) != (m.length : Int)) = true := by simp; omega
  generalize l.length = n1 at *
  generalize m.length = n2 at *
  go_enter Tryz.func29, Tryz.ntmps29
  go_wp2_with fail
  go_ret
  exact ⟨rfl, bR w⟩
 have HL := Lib.hid hl
 rw [← hl] at hn2 ⊢
 clear hl
 go_enter Tryz.func29, Tryz.ntmps29
 go_wp2_with fail
 go_loopw [5] (fun i wr => ∃ k : Nat, k ≤ l.length ∧ i = .int .i64 k ∧ Below w.heap.size w wr ∧ ∀ j (h1 : j < l.length) (h2 : j < m.length), j < k → l[j] = m[j]) (fun i _ => l.length - (intOf i).toNat)
 case atStart => exact ⟨0, Nat.zero_le _, rfl, bR w, fun j _ _ h => by omega⟩
 case round =>
  obtain ⟨k, hk, rfl, hb, hno⟩ := hrel
  have Hb := Lib.hid hb; have Hno := Lib.hid hno
  clear hb hno
  by_cases hlt : k < l.length
  ·
   have hlt2 : k < m.length := by have := HL.out; omega
   obtain ⟨b1, o1, rfl, hlb1, e1⟩ := (HR1.out.mono Hb.out).int hlt
   obtain ⟨b2, o2, rfl, hlb2, e2⟩ := (HR2.out.mono Hb.out).int hlt2
   have HT := Lib.hid (show l[k] ≠ m[k] → q = false from fun h => by rw [← Hq.out]; exact sameI_at hlt hlt2 h)
   have HE := Lib.hid (show l[k] = m[k] → ∀ j (h1 : j < l.length) (h2 : j < m.length), j < k + 1 → l[j] = m[j] from fun he j h1 h2 hjk => by
    by_cases e : j = k
    · subst e; exact he
    · exact Hno.out j h1 h2 (by omega))
   generalize l[k] = x at *
   generalize m[k] = y at *
   clear hlt2
   go_upto_region 6 with fail
   refine rg_start (Since wr) (.run 9 0 0 (.done)) (by kernel_rfl) (bD (bR _)) (by kernel_rfl) (by kernel_rfl) (Nat.le_of_ble_eq_true (by kernel_rfl)) ?_
   intro opsR QR Hops HQrg hS
   iterate 9
    apply rg_p; exact Hops; exact rfl; exact hS; exact rfl
    · intro _ hqc; go_simp; try rfl
    try simp only [pu]
   refine rg_done ?_
   refine HQrg.down _ _ ?_
   have hB : Below wr.heap.size wr wr.drew := hS
   clear hS HQrg Hops
   have HB := Lib.hid (bT Hb.out hB)
   clear hB
   cases hxy : (x != y)
   ·
    have he := Lib.hid (HE.out (by simpa using hxy))
    go_wp2_with fail
    go_roundw
    case rel => exact ⟨k + 1, by omega, by go_num, HB.out, he.out⟩
    case measure => simp [intOf]; omega
   ·
    have hf := HT.out (by simpa using hxy)
    subst hf
    go_wp2_with fail
    go_ret
    exact ⟨rfl, HB.out⟩
  ·
   have hf : q = true := by rw [← Hq.out]; exact sameI_all HL.out (fun j h1 h2 => Hno.out j h1 h2 (by omega))
   subst hf
   go_wp2_with fail
   go_ret
   exact ⟨rfl, Hb.out⟩

def sameC (l m : List (List Int)) : Bool := decide (l = m)
theorem sameC_ne {l m : List (List Int)} (h : l.length ≠ m.length) : sameC l m = false := by
 unfold sameC; rw [decide_eq_false_iff_not]; rintro rfl; exact h rfl
theorem sameC_at {l m : List (List Int × SV)} {k : Nat} (h1 : k < l.length) (h2 : k < m.length) (h : sameI l[k].1 m[k].1 = false) : sameC (l.map (·.1)) (m.map (·.1)) = false := by
 unfold sameC
 rw [decide_eq_false_iff_not]
 intro e
 have := List.getElem_of_eq e (i := k) (by simpa using h1)
 simp only [List.getElem_map] at this
 rw [this] at h
 unfold sameI at h
 simp at h
theorem sameC_all {l m : List (List Int × SV)} (hl : l.length = m.length) (h : ∀ j (h1 : j < l.length) (h2 : j < m.length), sameI l[j].1 m[j].1 = true) : sameC (l.map (·.1)) (m.map (·.1)) = true := by
 unfold sameC; rw [decide_eq_true_iff]
 refine List.ext_getElem (by simpa using hl) fun j h1 h2 => ?_
 simp only [List.getElem_map]
 have := h j (by simpa using h1) (by simpa using h2)
 unfold sameI at this
 simpa using this
set_option maxRecDepth 100000 in
set_option maxHeartbeats 4000000 in
theorem SameCyc_spec (u v : Value) (l m : List (List Int × SV)) (w : World) (h : CyR w u l) (h' : CyR w v m) :
  Calls Tryz.prog 17 #[u, v] w fun e w' => e = .returned (.bool (sameC (l.map (·.1)) (m.map (·.1)))) ∧ Below w.heap.size w w' := by
 obtain ⟨⟨A1, c1, rfl, hn1, hc1, hR1⟩, hI1⟩ := h
 obtain ⟨⟨A2, c2, rfl, hn2, hc2, hR2⟩, hI2⟩ := h'
 unfold maxLen at hc1 hc2
 have HR1 := Lib.hid hR1; have HR2 := Lib.hid hR2; have HI1 := Lib.hid hI1; have HI2 := Lib.hid hI2
 obtain ⟨q, hq⟩ : ∃ q, sameC (l.map (·.1)) (m.map (·.1)) = q := ⟨_, rfl⟩
 rw [hq]
 have Hq := Lib.hid hq
 clear hq hR1 hR2 hI1 hI2
 by_cases hl : l.length = m.length
 case neg =>
  have hf : q = false := by rw [← Hq.out]; exact sameC_ne (by simpa using hl)
  subst hf
  have hl' : ((l.length : Int) != (m.length : Int)) = true := by simp; omega
  generalize l.length = n1 at *
  generalize m.length = n2 at *
  go_enter Tryz.func17, Tryz.ntmps17
  go_wp2_with fail
  go_ret
  exact ⟨rfl, bR w⟩
 have HL := Lib.hid hl
 rw [← hl] at hn2 ⊢
 clear hl
 go_enter Tryz.func17, Tryz.ntmps17
 go_wp2_with fail
 go_loopw [5] (fun i wr => ∃ k : Nat, k ≤ l.length ∧ i = .int .i64 k ∧ Below w.heap.size w wr ∧ ∀ j (h1 : j < l.length) (h2 : j < m.length), j < k → sameI l[j].1 m[j].1 = true) (fun i _ => l.length - (intOf i).toNat)
 case atStart => exact ⟨0, Nat.zero_le _, rfl, bR w, fun j _ _ h => by omega⟩
 case round =>
  obtain ⟨k, hk, rfl, hb, hno⟩ := hrel
  have Hb := Lib.hid hb; have Hno := Lib.hid hno
  clear hb hno
  by_cases hlt : k < l.length
  ·
   have hlt2 : k < m.length := by have := HL.out; omega
   obtain ⟨b1, o1, rfl, hlb1, e1⟩ := (HR1.out.mono Hb.out).cy hlt
   obtain ⟨b2, o2, rfl, hlb2, e2⟩ := (HR2.out.mono Hb.out).cy hlt2
   have HS := Lib.hid (fun W (hW : Below w.heap.size w W) => Same15_spec _ _ l[k].1 m[k].1 W ((HI1.out l[k] (List.getElem_mem hlt)).mono hW) ((HI2.out m[k] (List.getElem_mem hlt2)).mono hW))
   have HT := Lib.hid (show sameI l[k].1 m[k].1 = false → q = false from fun h => by rw [← Hq.out]; exact sameC_at hlt hlt2 h)
   have HE := Lib.hid (show sameI l[k].1 m[k].1 = true → ∀ j (h1 : j < l.length) (h2 : j < m.length), j < k + 1 → sameI l[j].1 m[j].1 = true from fun he j h1 h2 hjk => by
    by_cases e : j = k
    · subst e; exact he
    · exact Hno.out j h1 h2 (by omega))
   generalize sameI l[k].1 m[k].1 = z at *
   generalize l[k].2 = x at *
   generalize m[k].2 = y at *
   obtain ⟨xa, xn, xc⟩ := x
   obtain ⟨ya, yn, yc⟩ := y
   simp only at e1 e2 HS
   clear hlt2
   go_upto_region 6 with fail
   refine rg_start (Since wr) (.run 8 0 0 (.call 8 511 (.take 9 1023 (.done)))) (by kernel_rfl) (bD (bR _)) (by kernel_rfl) (by kernel_rfl) (Nat.le_of_ble_eq_true (by kernel_rfl)) ?_
   intro opsR QR Hops HQrg hS
   iterate 8
    apply rg_p; exact Hops; exact rfl; exact hS; exact rfl
    · intro _ hqc; go_simp; try rfl
    try simp only [pu]
   refine rg_call (i := 8) (get_of Hops rfl) (fun K hK => ?_)
   have HSrg := Lib.hid hS; clear hS
   refine rg_run (wanted_plain rfl) ?_
   go_simp
   refine (HS.out _ (bT Hb.out (bD (bR wr)))).mono ?_
   rintro e wr1 ⟨rfl, hbr1⟩
   have hS : Since wr wr1 := bT (w := wr) HSrg.out hbr1
   clear HSrg
   refine hK.out _ _ hS (fun _ => ?_)
   clear hK K
   try simp only [pu]
   apply rg_p; exact Hops; exact rfl; exact hS; exact rfl
   · intro _ hqc; go_simp; try rfl
   try simp only [pu]
   refine rg_done ?_
   refine HQrg.down _ _ ?_
   have hB : Below wr.heap.size wr wr1 := hS
   clear hS HQrg Hops
   have HB := Lib.hid (bT Hb.out hB)
   clear hB
   cases z
   ·
    have hf := HT.out rfl
    subst hf
    go_wp2_with fail
    go_ret
    exact ⟨rfl, HB.out⟩
   ·
    have he := Lib.hid (HE.out rfl)
    go_wp2_with fail
    go_roundw
    case rel => exact ⟨k + 1, by omega, by go_num, HB.out, he.out⟩
    case measure => simp [intOf]; omega
  ·
   have hf : q = true := by rw [← Hq.out]; exact sameC_all HL.out (fun j h1 h2 => Hno.out j h1 h2 (by omega))
   subst hf
   go_wp2_with fail
   go_ret
   exact ⟨rfl, Hb.out⟩
end Go.Proofs.YtoclnkfeblfpbaaGreat
