/- mapsheetslaw41.of: the pieces of an arc. Points and pieces of a row all at once; what an answer of Part says. PLAIN: the part of a segment within a box: its ends lie in the box, and the other way round it is the same part. PLAIN: the pieces of a path in a box lie in the box, without repetitions, and their ends lie on the sides that are named. PLAIN: what each piece of a path in a box is. PLAIN: a path in the box has one piece, itself; a path beside it has none; an arc without pieces can be left out. -/
import Derived.Test.YtfondidmklmonaaGreatJ17
import Derived.Test.YtfondidmklmonaaGreatJ15
import Derived.Test.YtfondidmklmonaaGreatJ02
import Derived.Test.YtfondidmklmonaaGreatJ21
set_option linter.unusedSimpArgs false
set_option linter.unusedVariables false
namespace Go.Proofs.YtfondidmklmonaaGreat
open Go.RowKit

/-- a list of pieces that reads -/
def RetPcF (w : World) (F : List Pc) (e : Ending) (w' : World) : Prop :=
 ∃ A c L, e = .returned (.slice A F.length c) ∧ Below w.heap.size w w' ∧ L.map (·.1) = F ∧ Pcs w' (.slice A F.length c) L
theorem own_pcs {w : World} {B : Nat} {A : Option Addr} {c : Nat} {L : List (Pc × SV)} (h : Own w B 55 4 pcS (.slice A L.length c) L) (hp : ∀ x ∈ L, Pts w (.slice x.2.a x.2.n x.2.c) x.1.path) : Pcs w (.slice A L.length c) (L.map rdP) := by
 have e : (L.map rdP).flatMap pcC = L.flatMap pcS := by rw [List.flatMap_map]; rfl
 refine ⟨by rw [e, List.length_map]; exact h.sl, fun k hk => ?_⟩
 have hk' : k < L.length := by simpa using hk
 rw [show (L.map rdP)[k] = rdP L[k] by simp]
 exact hp _ (List.getElem_mem hk')
set_option maxRecDepth 100000 in
set_option maxHeartbeats 4000000 in
theorem of41_spec (v : Value) (l : List (Pc × Value)) (arc : Int) (w : World) (h : Pcs w v l) (hl : l.length ≤ 1000000) :
  Calls Tryz.prog 30 #[v, .int .i64 arc] w (RetPcF w ((l.map (·.1)).filter (fun y => decide (y.arc = arc)))) := by
 obtain ⟨⟨Aa, ca, rfl, ha1, ha2, hRa⟩, hV⟩ := h
 unfold maxLen at ha2
 have HRa := Lib.hid hRa; have HV := Lib.hid hV
 obtain ⟨q, hq⟩ : ∃ q, (l.map (·.1)).filter (fun y => decide (y.arc = arc)) = q := ⟨_, rfl⟩
 rw [hq]
 have HQ := Lib.hid hq
 obtain ⟨ln, hln⟩ : ∃ n, l.length = n := ⟨_, rfl⟩
 have HLn := Lib.hid hln
 rw [hln] at ha1 hl ⊢
 clear hRa hV hq hln
 unfold RetPcF
 go_enter Tryz.func30, Tryz.ntmps30
 go_wp2_with fail
 go_loopw [5, 6] (fun s i wr => ∃ (k : Nat) (L : List (Pc × SV)) (A : Option Addr) (c : Nat), k ≤ ln ∧ i = .int .i64 k ∧ s = .slice A L.length c ∧ L.map (·.1) = ((l.take k).map (·.1)).filter (fun y => decide (y.arc = arc)) ∧ L.length ≤ k ∧ Own wr w.heap.size 55 4 pcS (.slice A L.length c) L ∧ (∀ x ∈ L, Pts w (.slice x.2.a x.2.n x.2.c) x.1.path) ∧ Below w.heap.size w wr) (fun _ i _ => ln - (intOf i).toNat)
 case atStart => exact ⟨0, [], none, 0, Nat.zero_le _, rfl, rfl, rfl, Nat.le_refl _, Own.nil _ _ _ _ _, (fun x hx => by cases hx), bR w⟩
 case round =>
  obtain ⟨k, L, A, c, hk, rfl, rfl, hL, hLl, hown, hps, hb⟩ := hrel
  have Hb := Lib.hid hb; have HL := Lib.hid hL; have HOwn := Lib.hid hown; have HPs := Lib.hid hps
  have hz2 := hb.size
  clear hb hL hown hps
  by_cases hlt : k < ln
  case neg =>
   have hLq : L.map (·.1) = q := by rw [HL.out, List.take_of_length_le (by have := HLn.out; omega), HQ.out]
   have hll : L.length = q.length := by rw [← hLq, List.length_map]
   have HLq := Lib.hid hLq
   have HPc := Lib.hid (own_pcs HOwn.out (fun x hx => (HPs.out x hx).mono Hb.out))
   rw [hll] at HPc ⊢
   clear hLq hll
   go_wp2_with fail
   go_ret
   exact ⟨A, c, L.map rdP, rfl, Hb.out, by rw [List.map_map]; exact HLq.out, HPc.out⟩
  have hkl : k < l.length := by rw [HLn.out]; exact hlt
  obtain ⟨b, o, rfl, hlb, c0, c1, c2, c3⟩ := (HRa.out.mono Hb.out).pc hkl
  have hp := HV.out k hkl
  obtain ⟨Av, cv, hv, -⟩ := HV.out k hkl
  rw [hv] at c1 hp
  have HP := Lib.hid hp
  have HSt := Lib.hid (show ((l.take (k + 1)).map (·.1)).filter (fun y => decide (y.arc = arc)) = L.map (·.1) ++ (if l[k].1.arc = arc then [l[k].1] else []) by
   rw [List.take_succ_eq_append_getElem hkl, List.map_append, List.filter_append, ← HL.out]
   congr 1
   by_cases hz : l[k].1.arc = arc
   · rw [if_pos hz]; simp [hz]
   · rw [if_neg hz]; simp [hz])
  obtain ⟨y, hy⟩ : ∃ y, l[k].1 = y := ⟨_, rfl⟩
  rw [hy] at c0 c1 c2 c3 HP HSt
  obtain ⟨e, he⟩ : ∃ e, (y.arc == arc) = e := ⟨_, rfl⟩
  have HE := Lib.hid he
  have r2 : (k : Int) < ln := by omega
  clear hv hp hy
  cases e
  ·
   have HL2 := Lib.hid (show L.map (·.1) = ((l.take (k + 1)).map (·.1)).filter (fun y => decide (y.arc = arc)) by rw [HSt.out, if_neg (by have := HE.out; simpa using this)]; simp)
   go_wp2_with fail
   go_roundw
   case rel => exact ⟨k + 1, L, A, c, by omega, by go_num, rfl, HL2.out, by omega, HOwn.out, HPs.out, Hb.out⟩
   case measure => simp [intOf]; omega
  ·
   have HL2 := Lib.hid (show (L ++ [((y, ⟨Av, y.path.length, cv⟩) : Pc × SV)]).map (·.1) = ((l.take (k + 1)).map (·.1)).filter (fun y => decide (y.arc = arc)) by rw [HSt.out, if_pos (by have := HE.out; simpa using this), List.map_append]; rfl)
   go_wp2_with
    (at_builtin
     refine wpList_appl _ rfl (.tmp 20) (.tmp 25) _ rfl (base := w.heap.size) elem_pc pcS_len pcS_one rfl (Own.alloc HOwn.out _) rfl (l2 := [((y, ⟨Av, y.path.length, cv⟩) : Pc × SV)]) (Sl.lit (n := 1) (Blk.made rfl _ _) rfl (le_maxLen (by omega))) (by simp only [List.length_cons, List.length_nil]; omega) (by simp only [List.length_cons, List.length_nil]; omega) (by simp; omega) ?_
     intro v5 w5 ho5 hg5 hat5
     obtain ⟨A5, c5, hv5, -⟩ := Own.shape_ ho5
     rw [show (L ++ [((y, ⟨Av, y.path.length, cv⟩) : Pc × SV)]).length = L.length + 1 by simp] at hv5
     subst hv5
     have HB5 := Lib.hid (Below.grown (Hb.out.alloc hz2 _) hg5 (by simp; omega) (fun i hi => (HOwn.out.lt i hi).1))
     have HO5 := Lib.hid ho5
     clear ho5 hg5 hat5)
   go_roundw
   case rel => (rw [show (L.length + 1) = (L ++ [((y, ⟨Av, y.path.length, cv⟩) : Pc × SV)]).length by simp] at *; exact ⟨k + 1, L ++ [((y, ⟨Av, y.path.length, cv⟩) : Pc × SV)], A5, c5, by omega, by go_num, rfl, HL2.out, by rw [List.length_append, List.length_singleton]; omega, HO5.out, fun x hx => (List.mem_append.1 hx).elim (HPs.out x) (fun hx => by rw [List.mem_singleton] at hx; subst hx; exact HP.out), HB5.out⟩)
   case measure => simp [intOf]; omega
end Go.Proofs.YtfondidmklmonaaGreat
namespace Go.Proofs.YtfondidmklmonaaGreat
open Go.RowKit

theorem partRes_ok {p : Pl} {s : Se} {n : Int} {x : Prt} (h : partRes p s n = (x, 0)) : Valid p ∧ InS s n ∧ findE s n = 0 ∧ x = partS p n (boxOf s n) := by
 unfold partRes at h
 split at h
 ·
  rename_i h1
  injection h with h2 h3
  exact absurd h3 h1
 ·
  rename_i h1
  split at h
  ·
   rename_i h4
   injection h with h2 h3
   exact absurd h3 h4
  ·
   rename_i h4
   injection h with h2 h3
   have hc : checkS p = 0 := Classical.byContradiction h1
   have hs : findE s n = 0 := Classical.byContradiction h4
   exact ⟨(check_zero p).1 hc, findE_zero.1 hs, hs, h2.symm⟩
end Go.Proofs.YtfondidmklmonaaGreat
namespace Go.Proofs.YtfondidmklmonaaGreat

theorem round_neg {a b : Int} (hb : b ≠ 0) : roundS (-a) (-b) = roundS a b := by
 have h1 := roundS_near (a := a) hb
 have h2 := roundS_near (a := -a) (b := -b) (by omega)
 rcases Int.lt_or_gt_of_ne hb with h | h
 · exact near_unique (a := -a) (b := -b) (by omega) (h2.1 (by omega)).1 (h2.1 (by omega)).2 (h1.2 h).1 (h1.2 h).2
 ·
  have h3 := h2.2 (by omega)
  simp only [Int.neg_neg] at h3
  exact near_unique (a := a) (b := b) h h3.1 h3.2 (h1.1 h).1 (h1.1 h).2
theorem round_shift_pos {a b k : Int} (hb : 0 < b) : roundS (a + k * b) b = roundS a b + k := by
 have h1 := (roundS_near (a := a) (b := b) (by omega)).1 hb
 have h2 := (roundS_near (a := a + k * b) (b := b) (by omega)).1 hb
 refine near_unique (a := a + k * b) (b := b) hb h2.1 h2.2 ?_ ?_
 · rw [Int.add_mul]; omega
 · rw [Int.add_mul]; omega
theorem round_shift {a b k : Int} (hb : b ≠ 0) : roundS (a + k * b) b = roundS a b + k := by
 rcases Int.lt_or_gt_of_ne hb with h | h
 ·
  rw [← round_neg (a := a + k * b) hb, ← round_neg (a := a) hb, show -(a + k * b) = -a + k * -b by rw [Int.mul_neg]; omega]
  exact round_shift_pos (by omega)
 · exact round_shift_pos h
theorem round_lo_pos {a b k : Int} (hb : 0 < b) (h : k * b ≤ a) : k ≤ roundS a b := by
 have h1 := (roundS_near (a := a) (b := b) (by omega)).1 hb
 rcases Int.lt_or_le (roundS a b) k with h2 | h2
 · have := mul_lt_le h2 hb; omega
 · exact h2
theorem round_hi_pos {a b k : Int} (hb : 0 < b) (h : a ≤ k * b) : roundS a b ≤ k := by
 have h1 := (roundS_near (a := a) (b := b) (by omega)).1 hb
 rcases Int.lt_or_le k (roundS a b) with h2 | h2
 · have := mul_lt_le h2 hb; omega
 · exact h2
/-- a rounded quotient lies between whole numbers between which the quotient n / d lies -/
theorem round_btw {a b n d lo hi : Int} (hb : b ≠ 0) (hd : 0 < d) (he : a * d = n * b) (h1 : lo * d ≤ n) (h2 : n ≤ hi * d) : lo ≤ roundS a b ∧ roundS a b ≤ hi := by
 have key : ∀ a b : Int, 0 < b → a * d = n * b → lo ≤ roundS a b ∧ roundS a b ≤ hi := by
  intro a b hb he
  have e1 : lo * b * d ≤ a * d := by
   rw [he, Int.mul_right_comm]
   exact Int.mul_le_mul_of_nonneg_right h1 (Int.le_of_lt hb)
  have e2 : a * d ≤ hi * b * d := by
   rw [he, Int.mul_right_comm]
   exact Int.mul_le_mul_of_nonneg_right h2 (Int.le_of_lt hb)
  exact ⟨round_lo_pos hb (Int.le_of_mul_le_mul_right e1 hd), round_hi_pos hb (Int.le_of_mul_le_mul_right e2 hd)⟩
 rcases Int.lt_or_gt_of_ne hb with h | h
 ·
  rw [← round_neg (a := a) hb]
  exact key _ _ (by omega) (by rw [Int.neg_mul, he, Int.mul_neg])
 · exact key _ _ h he
theorem atx_rev {a b : Pt} (h : b.x - a.x ≠ 0) (v : Int) : atxS b a v = atxS a b v := by
 unfold atxS
 have e : (a.y - b.y) * (v - b.x) = -((b.y - a.y) * (v - a.x) + (-(b.y - a.y)) * (b.x - a.x)) := by
  have e1 : (a.y - b.y) = -(b.y - a.y) := by omega
  have e2 : (v - b.x) = (v - a.x) - (b.x - a.x) := by omega
  rw [e1, e2, Int.neg_mul, Int.neg_mul, Int.mul_sub]
  omega
 rw [e, show a.x - b.x = -(b.x - a.x) by omega, round_neg h, round_shift h]
 omega
theorem goodAt_rev {a b : Pt} {x : Bx} {p : Plc} (h : GoodAt a b x p) : GoodAt b a x ⟨p.d - p.n, p.d, p.at_⟩ := by
 have alg : ∀ A B E : Int, (B - A) * p.n = (E - A) * p.d → (A - B) * (p.d - p.n) = (E - B) * p.d := by
  intro A B E h
  have e1 : (A - B) * (p.d - p.n) = (A - B) * p.d + (B - A) * p.n := by
   rw [Int.mul_sub, show (A - B) * p.n = -((B - A) * p.n) by rw [← Int.neg_mul]; congr 1; omega]; omega
  rw [e1, h, ← Int.add_mul]
  congr 1
  omega
 rcases h with ⟨h1, h2⟩ | ⟨h1, h2⟩ | ⟨E, hE, hx, h1, h2⟩ | ⟨E, hE, hy, h1, h2⟩
 · exact .inr (.inl ⟨show p.d - p.n = p.d by omega, h2⟩)
 · exact .inl ⟨show p.d - p.n = 0 by omega, h2⟩
 ·
  refine .inr (.inr (.inl ⟨E, hE, by omega, alg _ _ _ h1, ?_⟩))
  rw [h2]
  unfold atX
  rw [atx_rev hx]
 ·
  refine .inr (.inr (.inr ⟨E, hE, by omega, alg _ _ _ h1, ?_⟩))
  rw [h2]
  unfold atY
  rw [atx_rev (a := turnP a) (b := turnP b) hy]
theorem good_in {a b : Pt} {x : Bx} {p : Plc} (hp : Par p.n p.d) (h : GoodAt a b x p) (hq : InQ a b x p.n p.d) : inB x p.at_ = true := by
 obtain ⟨⟨x1, x2⟩, y1, y2⟩ := hq
 have cancel : ∀ {u v : Int}, u * p.d ≤ v * p.d → u ≤ v := fun h => Int.le_of_mul_le_mul_right h hp.1
 unfold inB
 rw [decide_eq_true_iff]
 rcases h with ⟨h1, h2⟩ | ⟨h1, h2⟩ | ⟨E, hE, hx, h1, h2⟩ | ⟨E, hE, hy, h1, h2⟩
 ·
  rw [h1, Int.mul_zero, Int.add_zero] at x1 x2 y1 y2
  rw [h2]
  exact ⟨cancel x1, cancel x2, cancel y1, cancel y2⟩
 ·
  rw [h1, ← Int.add_mul] at x1 x2 y1 y2
  rw [h2]
  have := cancel x1; have := cancel x2; have := cancel y1; have := cancel y2
  omega
 ·
  rw [h1, ← Int.add_mul] at x1 x2
  have e1 := cancel x1; have e2 := cancel x2
  have hr := round_btw (a := (b.y - a.y) * (E - a.x)) (b := b.x - a.x) (n := (b.y - a.y) * p.n) (d := p.d) (lo := x.y0 - a.y) (hi := x.y1 - a.y) hx hp.1
   (by rw [Int.mul_assoc, ← h1, Int.mul_comm (b.x - a.x), ← Int.mul_assoc]) (by rw [Int.sub_mul x.y0]; omega) (by rw [Int.sub_mul x.y1]; omega)
  rw [h2]
  unfold atX atxS
  simp only
  omega
 ·
  rw [h1, ← Int.add_mul] at y1 y2
  have e1 := cancel y1; have e2 := cancel y2
  have hr := round_btw (a := (b.x - a.x) * (E - a.y)) (b := b.y - a.y) (n := (b.x - a.x) * p.n) (d := p.d) (lo := x.x0 - a.x) (hi := x.x1 - a.x) hy hp.1
   (by rw [Int.mul_assoc, ← h1, Int.mul_comm (b.y - a.y), ← Int.mul_assoc]) (by rw [Int.sub_mul x.x0]; omega) (by rw [Int.sub_mul x.x1]; omega)
  rw [h2]
  unfold atY atxS turnP
  simp only
  omega
/-- the part, with the places of its ends -/
theorem clip_goodP {a b : Pt} {x : Bx} {c e : Pt} (h : clipS a b x = some (c, e)) : ∃ P1 P2 : Plc, P1.at_ = c ∧ P2.at_ = e ∧ GoodAt a b x P1 ∧ GoodAt a b x P2 ∧ ClipSome a b x c e P1.n P1.d P2.n P2.d := by
 have i0 := cl0_ok a b
 have i1 := limit_ok i0 a.x (b.x - a.x) x.x0 x.x1 (atX a b)
 have i2 := limit_ok i1 a.y (b.y - a.y) x.y0 x.y1 (atY a b)
 have g1 := limit_good (a := a) (b := b) (x := x) i0.first i0.last (.inl ⟨rfl, rfl⟩) (.inr (.inl ⟨rfl, rfl⟩)) a.x (b.x - a.x) x.x0 x.x1 (atX a b)
  (fun hw p v hv hp he => .inr (.inr (.inl ⟨v, hv, hw, he, hp⟩)))
 have g2 := limit_good (a := a) (b := b) (x := x) i1.first i1.last g1.1 g1.2 a.y (b.y - a.y) x.y0 x.y1 (atY a b)
  (fun hw p v hv hp he => .inr (.inr (.inr ⟨v, hv, hw, he, hp⟩)))
 unfold clipS clipSt at h
 generalize limitS (limitS ⟨⟨0, 1, a⟩, ⟨1, 1, b⟩, true⟩ a.x (b.x - a.x) x.x0 x.x1 (atX a b)) a.y (b.y - a.y) x.y0 x.y1 (atY a b) = st at *
 have hC : ∀ n d, ((True ∧ Btw a.x (b.x - a.x) x.x0 x.x1 n d) ∧ Btw a.y (b.y - a.y) x.y0 x.y1 n d) ↔ InQ a b x n d := fun n d => by
  unfold InQ; simp
 simp only at h
 by_cases hn : st.ok = false ∨ st.last.n * st.first.d < st.first.n * st.last.d
 · rw [if_pos hn] at h; cases h
 ·
  rw [if_neg hn] at h
  have hk : st.ok = true := by
   cases hk : st.ok
   · exact absurd (.inl hk) hn
   · rfl
  injection h with h
  injection h with h1 h2
  refine ⟨st.first, st.last, h1, h2, g2.1, g2.2, i2.first, i2.last, ?_, fun n d hp => ?_, ?_, ?_⟩
  ·
   unfold leQ
   have : ¬ st.last.n * st.first.d < st.first.n * st.last.d := fun e => hn (.inr e)
   omega
  · rw [← hC]; exact i2.yes hk n d hp
  · rw [← h1]; exact good_pt i2.first.1 g2.1
  · rw [← h2]; exact good_pt i2.last.1 g2.2
theorem clip_in {a b : Pt} {x : Bx} {c e : Pt} (h : clipS a b x = some (c, e)) : inB x c = true ∧ inB x e = true := by
 obtain ⟨P1, P2, rfl, rfl, g1, g2, k⟩ := clip_goodP h
 exact ⟨good_in k.lo g1 k.inLo, good_in k.hi g2 k.inHi⟩
theorem par_rev {n d : Int} (h : Par n d) : Par (d - n) d := ⟨h.1, by have := h.2; omega, by have := h.2; omega⟩
theorem leQ_rev {n d m e : Int} : leQ (d - n) d (e - m) e ↔ leQ m e n d := by
 unfold leQ
 rw [Int.sub_mul, Int.sub_mul, Int.mul_comm d e]
 omega
/-- a segment the other way round has the same part, the other way round -/
theorem clip_rev (a b : Pt) (x : Bx) : clipS b a x = (clipS a b x).map (fun r => (r.2, r.1)) := by
 refine clip_uniq (a := b) (b := a) (x := x) (clip_is b a x) ?_
 cases h : clipS a b x with
 | none =>
  intro n d hp hq
  have hn := clip_is a b x
  rw [h] at hn
  have hq2 : InQ b a x (d - (d - n)) d := by rw [show d - (d - n) = n by omega]; exact hq
  exact hn (d - n) d (par_rev hp) (inQ_rev.1 hq2)
 | some r =>
  obtain ⟨c, e⟩ := r
  obtain ⟨P1, P2, h1, h2, g1, g2, k⟩ := clip_goodP h
  refine ⟨P2.d - P2.n, P2.d, P1.d - P1.n, P1.d, par_rev k.hi, par_rev k.lo, leQ_rev.2 k.le, fun n d hp => ?_, ?_, ?_⟩
  ·
   have e1 := k.all (d - n) d (par_rev hp)
   have e2 : InQ b a x n d ↔ InQ a b x (d - n) d := by
    have := inQ_rev (a := a) (b := b) (x := x) (n := d - n) (d := d)
    rw [show d - (d - n) = n by omega] at this
    exact this
   rw [e2, e1]
   have r1 := leQ_rev (n := d - n) (d := d) (m := P1.n) (e := P1.d)
   have r2 := leQ_rev (n := P2.n) (d := P2.d) (m := d - n) (e := d)
   rw [show d - (d - n) = n by omega] at r1 r2
   rw [r1, r2]
   exact ⟨fun h => ⟨h.2, h.1⟩, fun h => ⟨h.2, h.1⟩⟩
  · rw [← h2]; exact good_pt (p := ⟨P2.d - P2.n, P2.d, P2.at_⟩) k.hi.1 (goodAt_rev g2)
  · rw [← h1]; exact good_pt (p := ⟨P1.d - P1.n, P1.d, P1.at_⟩) k.lo.1 (goodAt_rev g1)
end Go.Proofs.YtfondidmklmonaaGreat
namespace Go.Proofs.YtfondidmklmonaaGreat

/-- a point lies on the line of a side, or the side is 0 -/
def onSd (b : Bx) (side : Int) (p : Pt) : Prop := (side = 1 ∧ p.x = b.x0) ∨ (side = 2 ∧ p.y = b.y0) ∨ (side = 3 ∧ p.x = b.x1) ∨ (side = 4 ∧ p.y = b.y1) ∨ side = 0
theorem btw_conv {s w f t m e n d n1 d1 : Int} (he : 0 < e) (hd : 0 < d) (hd1 : 0 < d1) (h0 : Btw s w f t m e) (h1 : Btw s w f t n1 d1) (a : leQ m e n d) (b : leQ n d n1 d1) : Btw s w f t n d := by
 unfold Btw leQ at *
 have mulr : ∀ {x y z : Int}, x ≤ y → 0 ≤ z → x * z ≤ y * z := fun h hz => Int.mul_le_mul_of_nonneg_right h hz
 have A1 := mulr h0.1 (Int.le_of_lt hd); have A2 := mulr h0.2 (Int.le_of_lt hd)
 have B1 := mulr h1.1 (Int.le_of_lt hd); have B2 := mulr h1.2 (Int.le_of_lt hd)
 rw [Int.add_mul] at A1 A2 B1 B2
 have r1 : ∀ x y z : Int, x * y * z = x * z * y := fun x y z => Int.mul_right_comm x y z
 rcases Int.lt_or_le w 0 with hw | hw
 ·
  -- falling: the lower bound from the end, the upper one from the beginning
  have c1 : w * (n1 * d) ≤ w * (n * d1) := by
   have := Int.mul_le_mul_of_nonneg_left b (show 0 ≤ -w by omega)
   rw [Int.neg_mul, Int.neg_mul] at this; omega
  have c2 : w * (n * e) ≤ w * (m * d) := by
   have := Int.mul_le_mul_of_nonneg_left a (show 0 ≤ -w by omega)
   rw [Int.neg_mul, Int.neg_mul] at this; omega
  constructor
  ·
   refine Int.le_of_mul_le_mul_right (a := d1) ?_ hd1
   rw [Int.add_mul, r1 f, r1 s, Int.mul_assoc w]
   rw [Int.mul_assoc w n1 d] at B1
   omega
  ·
   refine Int.le_of_mul_le_mul_right (a := e) ?_ he
   rw [Int.add_mul, r1 t, r1 s, Int.mul_assoc w]
   rw [Int.mul_assoc w m d] at A2
   omega
 ·
  have c1 : w * (m * d) ≤ w * (n * e) := Int.mul_le_mul_of_nonneg_left a hw
  have c2 : w * (n * d1) ≤ w * (n1 * d) := Int.mul_le_mul_of_nonneg_left b hw
  constructor
  ·
   refine Int.le_of_mul_le_mul_right (a := e) ?_ he
   rw [Int.add_mul, r1 f, r1 s, Int.mul_assoc w]
   rw [Int.mul_assoc w m d] at A1
   omega
  ·
   refine Int.le_of_mul_le_mul_right (a := d1) ?_ hd1
   rw [Int.add_mul, r1 t, r1 s, Int.mul_assoc w]
   rw [Int.mul_assoc w n1 d] at B2
   omega
theorem sd_btw {p q b0 b1 k1 k3 : Int} {X : Int × Int × Int} (h : SdX p q b0 b1 k1 k3 X) (hb : b0 ≤ b1) : Btw p (q - p) b0 b1 X.2.1 X.2.2 := by
 have hpos := h.pos
 unfold Btw
 rcases h.cases with ⟨h1, h2, h3⟩ | ⟨h1, h2, h3, h4, h5⟩ | ⟨h1, h2, h3, h4, h5⟩
 ·
  subst h1
  simp only [Int.mul_one, Int.mul_zero, Int.add_zero]
  exact ⟨h2, h3⟩
 ·
  have e : p * X.2.2 + (q - p) * X.2.1 = b0 * X.2.2 := by
   rw [← h4, Int.mul_comm X.2.2 X.2.1, ← Int.add_mul]; congr 1; omega
  rw [e]
  exact ⟨Int.le_refl _, Int.mul_le_mul_of_nonneg_right hb (Int.le_of_lt hpos.1)⟩
 ·
  have e : p * X.2.2 + (q - p) * X.2.1 = b1 * X.2.2 := by
   rw [show q - p = -X.2.2 by omega, Int.neg_mul, Int.mul_comm X.2.2 X.2.1, show p * X.2.2 + -(X.2.1 * X.2.2) = p * X.2.2 - X.2.1 * X.2.2 by omega, ← Int.sub_mul]; congr 1; omega
  rw [e]
  exact ⟨Int.mul_le_mul_of_nonneg_right hb (Int.le_of_lt hpos.1), Int.le_refl _⟩
theorem sd_le {p q b0 b1 k1 k3 n d : Int} {X : Int × Int × Int} (h : SdX p q b0 b1 k1 k3 X) (hp : Par n d) (hq : Btw p (q - p) b0 b1 n d) : leQ X.2.1 X.2.2 n d := by
 unfold Btw at hq
 unfold leQ
 rcases h.cases with ⟨h1, h2, h3⟩ | ⟨h1, h2, h3, h4, h5⟩ | ⟨h1, h2, h3, h4, h5⟩
 ·
  subst h1
  have := hp.2.1
  simp only [Int.zero_mul, Int.mul_one]
  exact this
 · rw [h3, h4, Int.sub_mul, Int.mul_comm n]; omega
 · rw [h3, h4, Int.sub_mul, Int.mul_comm n, show p - q = -(q - p) by omega, Int.neg_mul]; omega
theorem entry_par {n1 d1 n d : Int} (hp : Par n1 d1) (hd : 0 < d) (hn : 0 ≤ n) (h : leQ n d n1 d1) : Par n d := by
 refine ⟨hd, hn, ?_⟩
 unfold leQ at h
 have h2 := Int.mul_le_mul_of_nonneg_right hp.2.2 (Int.le_of_lt hd)
 rw [Int.mul_comm d1 d] at h2
 exact Int.le_of_mul_le_mul_right (Int.le_trans h h2) hp.1
theorem entry_x {p q : Pt} {b : Bx} {c e : Pt} {n1 d1 n2 d2 E n d : Int} (k : ClipSome p q b c e n1 d1 n2 d2) (hE : E = b.x0 ∨ E = b.x1) (hb : b.x0 ≤ b.x1) (hd : 0 < d) (hn : 0 ≤ n)
  (he : (q.x - p.x) * n = (E - p.x) * d) (h1 : leQ n d n1 d1) (hy : Btw p.y (q.y - p.y) b.y0 b.y1 n d) : c.x = E := by
 have hp := entry_par k.lo hd hn h1
 have hx : Btw p.x (q.x - p.x) b.x0 b.x1 n d := by
  unfold Btw
  rw [he, ← Int.add_mul, show p.x + (E - p.x) = E by omega]
  exact ⟨Int.mul_le_mul_of_nonneg_right (by omega) (Int.le_of_lt hd), Int.mul_le_mul_of_nonneg_right (by omega) (Int.le_of_lt hd)⟩
 have h2 := ((k.all n d hp).1 ⟨hx, hy⟩).1
 have hv : n1 * d = n * d1 := by unfold leQ at h1 h2; omega
 rw [k.pc, ptQ_val k.lo.1 hd hv]
 obtain ⟨e1, e2⟩ := div_of hd he
 unfold ptQ
 rw [e2]
 by_cases hc : ((q.x - p.x) * n) % d = 0 ∧ ((q.y - p.y) * n) % d = 0
 · rw [if_pos hc]; show p.x + (E - p.x) = E; omega
 · rw [if_neg hc, if_pos ⟨e1, by omega⟩]; show p.x + (E - p.x) = E; omega
theorem entry_y {p q : Pt} {b : Bx} {c e : Pt} {n1 d1 n2 d2 E n d : Int} (k : ClipSome p q b c e n1 d1 n2 d2) (hE : E = b.y0 ∨ E = b.y1) (hb : b.y0 ≤ b.y1) (hd : 0 < d) (hn : 0 ≤ n)
  (he : (q.y - p.y) * n = (E - p.y) * d) (h1 : leQ n d n1 d1) (hx : Btw p.x (q.x - p.x) b.x0 b.x1 n d) : c.y = E := by
 have hp := entry_par k.lo hd hn h1
 have hy : Btw p.y (q.y - p.y) b.y0 b.y1 n d := by
  unfold Btw
  rw [he, ← Int.add_mul, show p.y + (E - p.y) = E by omega]
  exact ⟨Int.mul_le_mul_of_nonneg_right (by omega) (Int.le_of_lt hd), Int.mul_le_mul_of_nonneg_right (by omega) (Int.le_of_lt hd)⟩
 have h2 := ((k.all n d hp).1 ⟨hx, hy⟩).1
 have hv : n1 * d = n * d1 := by unfold leQ at h1 h2; omega
 rw [k.pc, ptQ_val k.lo.1 hd hv]
 obtain ⟨e1, e2⟩ := div_of hd he
 unfold ptQ
 rw [e2]
 by_cases hc : ((q.x - p.x) * n) % d = 0 ∧ ((q.y - p.y) * n) % d = 0
 · rw [if_pos hc]; show p.y + (E - p.y) = E; omega
 · rw [if_neg hc, if_neg (fun h => hc ⟨h.1, e1⟩)]; show p.y + (E - p.y) = E; omega
theorem sdx_of {p q : Pt} {b : Bx} {n d : Int} (hp : Par n d) (hq : InQ p q b n d) : SdX p.x q.x b.x0 b.x1 1 3 (clSideX p q b) ∧ SdX p.y q.y b.y0 b.y1 2 4 (clSideY p q b) := by
 obtain ⟨g1, g2, g3, g4⟩ := goes hp hq
 constructor
 ·
  unfold clSideX
  constructor
  by_cases h1 : p.x < b.x0
  · rw [if_pos h1]; exact .inr (.inl ⟨rfl, h1, rfl, rfl, g1 h1⟩)
  ·
   rw [if_neg h1]
   by_cases h2 : b.x1 < p.x
   · rw [if_pos h2]; exact .inr (.inr ⟨rfl, h2, rfl, rfl, by have := g2 h2; show 0 < p.x - q.x; omega⟩)
   · rw [if_neg h2]; exact .inl ⟨rfl, by omega, by omega⟩
 ·
  unfold clSideY
  constructor
  by_cases h1 : p.y < b.y0
  · rw [if_pos h1]; exact .inr (.inl ⟨rfl, h1, rfl, rfl, g3 h1⟩)
  ·
   rw [if_neg h1]
   by_cases h2 : b.y1 < p.y
   · rw [if_pos h2]; exact .inr (.inr ⟨rfl, h2, rfl, rfl, by have := g4 h2; show 0 < p.y - q.y; omega⟩)
   · rw [if_neg h2]; exact .inl ⟨rfl, by omega, by omega⟩
/-- where a segment comes into a box, it lies on the line of the side that is named -/
theorem through_on {p q : Pt} {b : Bx} (hx : b.x0 < b.x1) (hy : b.y0 < b.y1) {c e : Pt} (h : clipS p q b = some (c, e)) : onSd b (throughS p q b) c := by
 cases hin : inB b p
 case true => unfold throughS; rw [if_pos hin]; exact .inr (.inr (.inr (.inr rfl)))
 have hci := clip_is p q b
 rw [h] at hci
 obtain ⟨n1, d1, n2, d2, k⟩ := hci
 rw [through_eq hx hy hin k.lo k.inLo]
 obtain ⟨hX, hY⟩ := sdx_of k.lo k.inLo
 have px := hX.pos; have py := hY.pos
 have bx := sd_btw hX (Int.le_of_lt hx); have bY := sd_btw hY (Int.le_of_lt hy)
 have lx := sd_le hX k.lo k.inLo.1; have ly := sd_le hY k.lo k.inLo.2
 unfold clSide
 simp only
 by_cases hc : (clSideX p q b).1 ≠ 0 ∧ ((clSideY p q b).1 = 0 ∨ (clSideY p q b).2.1 * (clSideX p q b).2.2 < (clSideX p q b).2.1 * (clSideY p q b).2.2)
 ·
  rw [if_pos hc]
  split
  · exact .inr (.inr (.inr (.inr rfl)))
  have hle : leQ (clSideY p q b).2.1 (clSideY p q b).2.2 (clSideX p q b).2.1 (clSideX p q b).2.2 := by
   unfold leQ
   rcases hc.2 with h0 | h0
   ·
    rcases hY.cases with ⟨h1, -⟩ | ⟨h1, -⟩ | ⟨h1, -⟩
    · rw [h1]; simp only [Int.zero_mul, Int.mul_one]; exact px.2
    · omega
    · omega
   · omega
  have hby := btw_conv py.1 px.1 k.lo.1 bY k.inLo.2 hle lx
  rcases hX.cases with ⟨h1, -⟩ | ⟨h1, h2, h3, h4, h5⟩ | ⟨h1, h2, h3, h4, h5⟩
  · rw [h1] at hc; exact absurd rfl hc.1
  ·
   left
   exact ⟨h1, entry_x k (.inl rfl) (Int.le_of_lt hx) px.1 px.2 (by rw [h3, h4, Int.mul_comm]) lx hby⟩
  ·
   right; right; left
   exact ⟨h1, entry_x k (.inr rfl) (Int.le_of_lt hx) px.1 px.2 (by rw [h3, h4, show q.x - p.x = -(p.x - q.x) by omega, show b.x1 - p.x = -(p.x - b.x1) by omega, Int.neg_mul, Int.neg_mul, Int.mul_comm]) lx hby⟩
 ·
  rw [if_neg hc]
  split
  · exact .inr (.inr (.inr (.inr rfl)))
  have hle : (clSideY p q b).1 ≠ 0 → leQ (clSideX p q b).2.1 (clSideX p q b).2.2 (clSideY p q b).2.1 (clSideY p q b).2.2 := by
   intro hy0
   unfold leQ
   rcases hX.cases with ⟨h1, -⟩ | ⟨h1, -⟩ | ⟨h1, -⟩
   · rw [h1]; simp only [Int.zero_mul, Int.mul_one]; exact py.2
   ·
    have : ¬ ((clSideY p q b).2.1 * (clSideX p q b).2.2 < (clSideX p q b).2.1 * (clSideY p q b).2.2) := fun h => hc ⟨by omega, .inr h⟩
    omega
   ·
    have : ¬ ((clSideY p q b).2.1 * (clSideX p q b).2.2 < (clSideX p q b).2.1 * (clSideY p q b).2.2) := fun h => hc ⟨by omega, .inr h⟩
    omega
  rcases hY.cases with ⟨h1, -⟩ | ⟨h1, h2, h3, h4, h5⟩ | ⟨h1, h2, h3, h4, h5⟩
  · rw [h1]; exact .inr (.inr (.inr (.inr rfl)))
  ·
   right; left
   exact ⟨h1, entry_y k (.inl rfl) (Int.le_of_lt hy) py.1 py.2 (by rw [h3, h4, Int.mul_comm]) ly (btw_conv px.1 py.1 k.lo.1 bx k.inLo.1 (hle (by omega)) ly)⟩
  ·
   right; right; right; left
   exact ⟨h1, entry_y k (.inr rfl) (Int.le_of_lt hy) py.1 py.2 (by rw [h3, h4, show q.y - p.y = -(p.y - q.y) by omega, show b.y1 - p.y = -(p.y - b.y1) by omega, Int.neg_mul, Int.neg_mul, Int.mul_comm]) ly (btw_conv px.1 py.1 k.lo.1 bx k.inLo.1 (hle (by omega)) ly)⟩
theorem through_on2 {p q : Pt} {b : Bx} (hx : b.x0 < b.x1) (hy : b.y0 < b.y1) {c e : Pt} (h : clipS p q b = some (c, e)) : onSd b (throughS q p b) e := by
 have h2 : clipS q p b = some (e, c) := by rw [clip_rev p q b, h]; rfl
 exact through_on hx hy h2
/-- a segment whose end lies in the box ends there -/
theorem clip_first {p q : Pt} {b : Bx} {c e : Pt} (h : clipS p q b = some (c, e)) (hin : inB b p = true) : c = p := by
 have hci := clip_is p q b
 rw [h] at hci
 obtain ⟨n1, d1, n2, d2, k⟩ := hci
 have hp0 : Par 0 1 := ⟨by decide, by decide, by decide⟩
 have h1 := ((k.all 0 1 hp0).1 (in_box_Q hin)).1
 have hv : n1 * 1 = 0 * d1 := by unfold leQ at h1; have := k.lo.2.1; omega
 rw [k.pc, ptQ_val k.lo.1 (by decide) hv]
 exact (good_pt (p := ⟨0, 1, p⟩) (show (0 : Int) < 1 by decide) (.inl ⟨rfl, rfl⟩)).symm
theorem clip_last {p q : Pt} {b : Bx} {c e : Pt} (h : clipS p q b = some (c, e)) (hin : inB b q = true) : e = q := by
 have h2 : clipS q p b = some (e, c) := by rw [clip_rev p q b, h]; rfl
 exact clip_first h2 hin
end Go.Proofs.YtfondidmklmonaaGreat
namespace Go.Proofs.YtfondidmklmonaaGreat

def cmpStep (acc : List Pt) (p : Pt) : List Pt := if acc.getLast? = some p then acc else acc ++ [p]
theorem cmp_mem : ∀ (l acc : List Pt), ∀ x ∈ l.foldl cmpStep acc, x ∈ acc ∨ x ∈ l
 | [], acc, x, hx => .inl hx
 | p :: l, acc, x, hx => by
  rcases cmp_mem l (cmpStep acc p) x hx with h | h
  ·
   unfold cmpStep at h
   split at h
   · exact .inl h
   ·
    rcases List.mem_append.1 h with h | h
    · exact .inl h
    · exact .inr (by rw [List.mem_singleton.1 h]; simp)
  · exact .inr (by simp [h])
theorem cmpP_mem {l : List Pt} {x : Pt} (h : x ∈ cmpP l) : x ∈ l := by
 rcases cmp_mem l [] x h with h | h
 · cases h
 · exact h
def NoRep (l : List Pt) : Prop := ∀ k (h : k + 1 < l.length), l[k] ≠ l[k + 1]
theorem noRep_snoc {l : List Pt} {p : Pt} (h : NoRep l) (hp : l.getLast? ≠ some p) : NoRep (l ++ [p]) := by
 intro k hk
 rw [List.length_append, List.length_singleton] at hk
 by_cases e : k + 1 < l.length
 ·
  rw [List.getElem_append_left (by omega), List.getElem_append_left e]
  exact h k e
 ·
  have hk2 : k + 1 = l.length := by omega
  rw [List.getElem_append_left (by omega), List.getElem_append_right (by omega)]
  intro e2
  apply hp
  rw [List.getLast?_eq_getElem?, show l.length - 1 = k by omega, List.getElem?_eq_getElem (by omega), e2]
  simp
theorem cmp_noRep : ∀ (l acc : List Pt), NoRep acc → NoRep (l.foldl cmpStep acc)
 | [], _, h => h
 | p :: l, acc, h => by
  refine cmp_noRep l (cmpStep acc p) ?_
  unfold cmpStep
  split
  · exact h
  · rename_i hp; exact noRep_snoc h hp
theorem cmpP_noRep (l : List Pt) : NoRep (cmpP l) := cmp_noRep l [] (fun k h => by simp at h)
theorem cmp_head : ∀ (l : List Pt) (c : Pt) (r : List Pt), ∃ r', l.foldl cmpStep (c :: r) = c :: r'
 | [], c, r => ⟨r, rfl⟩
 | p :: l, c, r => by
  show ∃ r', l.foldl cmpStep (cmpStep (c :: r) p) = c :: r'
  unfold cmpStep
  split
  · exact cmp_head l c r
  · exact cmp_head l c (r ++ [p])
theorem cmpP_head (c : Pt) (r : List Pt) : ∃ r', cmpP (c :: r) = c :: r' := by
 show ∃ r', r.foldl cmpStep (cmpStep [] c) = c :: r'
 unfold cmpStep
 rw [if_neg (by simp)]
 exact cmp_head r c []
/-- what a piece is -/
structure GoodPc (b : Bx) (arc : Int) (y : Pc) : Prop where
 arc : y.arc = arc
 two : 2 ≤ y.path.length
 inb : ∀ p ∈ y.path, inB b p = true
 ne : NoRep y.path
 enter : onSd b y.enter (y.path.getD 0 ptz)
 leave : onSd b y.leave (y.path.getD (y.path.length - 1) ptz)
structure OpenI (b : Bx) (arc : Int) (at_ : Pt) (x : Pc) : Prop where
 inp : inB b at_ = true
 arc : x.arc = arc
 leave : x.leave = 0
 inb : ∀ p ∈ x.path, inB b p = true
 head : ∃ c r, x.path = c :: r ∧ onSd b x.enter c
 last : x.path.getLast? = some at_
structure StI (b : Bx) (arc : Int) (at_ : Pt) (s : PSt) : Prop where
 lst : ∀ y ∈ s.l, GoodPc b arc y
 opn : s.open_ = true → OpenI b arc at_ s.x
/-- an open piece that ends is good -/
theorem end_good {b : Bx} {arc : Int} {x : Pc} {at_ : Pt} (h1 : x.arc = arc) (h2 : ∀ p ∈ x.path, inB b p = true) (h3 : ∃ c r, x.path = c :: r ∧ onSd b x.enter c) (h4 : x.path.getLast? = some at_) (h5 : onSd b x.leave at_) (h6 : 1 < (cmpP x.path).length) :
  GoodPc b arc ⟨x.arc, cmpP x.path, x.enter, x.leave⟩ := by
 obtain ⟨c, r, hp, he⟩ := h3
 refine ⟨h1, h6, fun p hp => h2 p (cmpP_mem hp), cmpP_noRep _, ?_, ?_⟩
 ·
  show onSd b x.enter ((cmpP x.path).getD 0 ptz)
  obtain ⟨r', hr⟩ := cmpP_head c r
  rw [hp, hr]
  exact he
 ·
  show onSd b x.leave ((cmpP x.path).getD ((cmpP x.path).length - 1) ptz)
  have hl : (cmpP x.path).getLast? = some at_ := by
   obtain ⟨l, q, hlq⟩ : ∃ l q, x.path = l ++ [q] := by
    rcases List.eq_nil_or_concat x.path with h | ⟨l, q, h⟩
    · rw [h] at hp; cases hp
    · exact ⟨l, q, by rw [h, List.concat_eq_append]⟩
   rw [hlq] at h4 ⊢
   rw [List.getLast?_append] at h4
   simp at h4
   rw [← h4]
   exact cmpP_last l q
  rw [List.getLast?_eq_getElem?] at hl
  rw [List.getD_eq_getElem?_getD, hl]
  exact h5
theorem endS_good {b : Bx} {arc : Int} {s : PSt} (h : ∀ y ∈ s.l, GoodPc b arc y) (ho : s.open_ = true → 1 < (cmpP s.x.path).length → GoodPc b arc ⟨s.x.arc, cmpP s.x.path, s.x.enter, s.x.leave⟩) : (∀ y ∈ (endS s).l, GoodPc b arc y) ∧ (endS s).open_ = false := by
 unfold endS
 by_cases e : s.open_ = false
 · rw [if_pos e]; exact ⟨h, e⟩
 ·
  rw [if_neg e]
  refine ⟨fun y hy => ?_, rfl⟩
  have e' : s.open_ = true := by simpa using e
  by_cases hl : 1 < (cmpP s.x.path).length
  ·
   simp only [hl, if_true] at hy
   rcases List.mem_append.1 hy with hy | hy
   · exact h y hy
   · rw [List.mem_singleton.1 hy]; exact ho e' hl
  ·
   simp only [hl, if_false] at hy
   exact h y hy
theorem step_good {arc : Int} {b : Bx} (hx : b.x0 < b.x1) (hy : b.y0 < b.y1) {p q : Pt} {s : PSt} (h : StI b arc p s) : StI b arc q (stepS arc b s p q) := by
 unfold stepS
 cases hc : clipS p q b with
 | none =>
  simp only
  have hno : s.open_ = false := by
   cases ho : s.open_
   · rfl
   ·
    have hcl := clip_is p q b
    rw [hc] at hcl
    exact absurd (in_box_Q (h.opn ho).inp) (hcl 0 1 ⟨by decide, by decide, by decide⟩)
  obtain ⟨k1, k2⟩ := endS_good h.lst (fun e => by rw [hno] at e; cases e)
  exact ⟨k1, fun e => by rw [k2] at e; cases e⟩
 | some r =>
  obtain ⟨c, d⟩ := r
  simp only
  obtain ⟨ic, id_⟩ := clip_in hc
  -- the piece behind this segment
  have hA : (clAdd arc b s p q c d).x.arc = arc ∧ (∀ t ∈ (clAdd arc b s p q c d).x.path, inB b t = true) ∧ (∃ c' r, (clAdd arc b s p q c d).x.path = c' :: r ∧ onSd b (clAdd arc b s p q c d).x.enter c') ∧ (clAdd arc b s p q c d).x.path.getLast? = some d ∧ onSd b (clAdd arc b s p q c d).x.leave d := by
   have hlv : onSd b (throughS q p b) d := through_on2 hx hy hc
   unfold clAdd
   cases ho : s.open_
   ·
    simp only [Bool.false_eq_true, if_false]
    refine ⟨trivial, fun t ht => ?_, ⟨c, [d], rfl, through_on hx hy hc⟩, by simp, hlv⟩
    simp only [List.cons_append, List.nil_append, List.mem_cons, List.not_mem_nil, or_false] at ht
    rcases ht with rfl | rfl
    · exact ic
    · exact id_
   ·
    obtain ⟨o1, o2, o3, o4, ⟨c0, r0, o5, o5'⟩, o6⟩ := h.opn ho
    simp only [if_true]
    refine ⟨o2, fun t ht => ?_, ⟨c0, r0 ++ [d], by rw [o5]; rfl, o5'⟩, by simp, hlv⟩
    rcases List.mem_append.1 ht with ht | ht
    · exact o4 t ht
    · rw [List.mem_singleton.1 ht]; exact id_
  obtain ⟨a1, a2, a3, a4, a5⟩ := hA
  by_cases hin : inB b q = true
  ·
   rw [if_pos hin]
   have hd : d = q := clip_last hc hin
   refine ⟨h.lst, fun _ => ⟨hin, a1, ?_, a2, a3, by rw [a4, hd]⟩⟩
   show throughS q p b = 0
   unfold throughS
   rw [if_pos hin]
  ·
   rw [if_neg hin]
   obtain ⟨k1, k2⟩ := endS_good (s := clAdd arc b s p q c d) (b := b) (arc := arc) h.lst (fun _ hl => end_good a1 a2 a3 a4 a5 hl)
   exact ⟨k1, fun e => by rw [k2] at e; cases e⟩
theorem stAt_good {arc : Int} {b : Bx} (hx : b.x0 < b.x1) (hy : b.y0 < b.y1) (l : List Pt) : ∀ i, StI b arc (l.getD i ptz) (stAt arc b l i)
 | 0 => ⟨fun y hy => absurd hy (by simp [stAt]), fun e => absurd e (by simp [stAt])⟩
 | i + 1 => step_good hx hy (stAt_good hx hy l i)
/-- each piece of a path in a box -/
theorem pieces_good {arc : Int} {b : Bx} (hx : b.x0 < b.x1) (hy : b.y0 < b.y1) (l : List Pt) : ∀ y ∈ piecesS arc l b, GoodPc b arc y := by
 have h := stAt_good (arc := arc) hx hy l (l.length - 1)
 exact (endS_good h.lst (fun ho hl => by
  obtain ⟨o1, o2, o3, o4, o5, o6⟩ := h.opn ho
  exact end_good o2 o4 o5 o6 (by rw [o3]; exact .inr (.inr (.inr (.inr rfl)))) hl)).1
end Go.Proofs.YtfondidmklmonaaGreat
namespace Go.Proofs.YtfondidmklmonaaGreat

theorem clip_both {p q : Pt} {b : Bx} (hp : inB b p = true) (hq : inB b q = true) : clipS p q b = some (p, q) := by
 cases h : clipS p q b with
 | none =>
  have hn := clip_is p q b
  rw [h] at hn
  exact absurd (in_box_Q hp) (hn 0 1 ⟨by decide, by decide, by decide⟩)
 | some r =>
  obtain ⟨c, d⟩ := r
  rw [clip_first h hp, clip_last h hq]
theorem through_in {p q : Pt} {b : Bx} (hp : inB b p = true) : throughS p q b = 0 := by unfold throughS; rw [if_pos hp]
/-- beside the box -/
def beside (c b : Bx) : Prop := c.x1 < b.x0 ∨ b.x1 < c.x0 ∨ c.y1 < b.y0 ∨ b.y1 < c.y0
theorem pieces_arc {p : Pl} (hV : Valid p) {b : Bx} (hx : b.x0 < b.x1) (hy : b.y0 < b.y1) (n : Int) {a : Ar} (ha : a ∈ p.arcs) : (partS p n b).pieces.filter (fun y => decide (y.arc = a.id)) = piecesS a.id (pathS p a) b := by
 have hs := hV.sound.arcs
 have huq : ∀ c ∈ p.arcs, c.id = a.id → c = a := by
  intro c hc e
  have h1 := find_uniq (fun x : Ar => x.id) p.arcs hs c hc
  have h2 := find_uniq (fun x : Ar => x.id) p.arcs hs a ha
  rw [e, h2] at h1
  injection h1 with h1
  exact h1.symm
 have key : ∀ l : List Ar, (l.map (·.id)).Pairwise (· < ·) → (∀ c ∈ l, c.id = a.id → c = a) → (l.flatMap (fun a => piecesS a.id (pathS p a) b)).filter (fun y => decide (y.arc = a.id)) = if a ∈ l then piecesS a.id (pathS p a) b else [] := by
  intro l
  induction l with
  | nil => intro _ _; simp
  | cons c l ih =>
   intro h hu
   rw [List.map_cons, List.pairwise_cons] at h
   rw [List.flatMap_cons, List.filter_append, ih h.2 (fun c hc => hu c (by simp [hc]))]
   have hc : (piecesS c.id (pathS p c) b).filter (fun y => decide (y.arc = a.id)) = if c.id = a.id then piecesS c.id (pathS p c) b else [] := by
    by_cases e : c.id = a.id
    ·
     rw [if_pos e, List.filter_eq_self]
     intro y hy'
     rw [(pieces_good hx hy _ y hy').arc, e]; simp
    ·
     rw [if_neg e, List.filter_eq_nil_iff]
     intro y hy'
     rw [(pieces_good hx hy _ y hy').arc]; simpa using e
   rw [hc]
   by_cases hca : c = a
   ·
    subst hca
    have hni : ¬ c ∈ l := fun hm => by have := h.1 c.id (List.mem_map_of_mem hm); omega
    rw [if_pos rfl, if_neg hni, if_pos (by simp), List.append_nil]
   ·
    by_cases hal : a ∈ l
    ·
     have hne : c.id ≠ a.id := fun e => by have := h.1 a.id (List.mem_map_of_mem hal); omega
     rw [if_neg hne, if_pos hal, if_pos (by simp [hal]), List.nil_append]
    ·
     by_cases e : c.id = a.id
     · exact absurd (hu c (by simp) e) hca
     · rw [if_neg e, if_neg hal, if_neg (by simp [hal]; exact fun e => hca e.symm), List.nil_append]
 have := key p.arcs hs huq
 rw [if_pos ha] at this
 exact this
end Go.Proofs.YtfondidmklmonaaGreat
