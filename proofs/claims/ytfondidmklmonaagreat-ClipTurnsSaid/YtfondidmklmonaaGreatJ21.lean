/- Lists of arcs that a call makes itself: appended, one arc replaced. Plain law: reversing an arc does not change what Check gives. No walk here. mapsheetsref14.Reversed. -/
import Derived.Test.YtfondidmklmonaaGreatJ09
import Derived.Test.YtfondidmklmonaaGreatJ07
import Derived.Test.YtfondidmklmonaaGreatJ05
import Derived.Test.YtfondidmklmonaaGreatJ14
import Derived.Test.YtfondidmklmonaaGreatJ20
set_option linter.unusedSimpArgs false
set_option linter.unusedVariables false
namespace Go.Proofs.YtfondidmklmonaaGreat
open Go.RowKit

/-- An arc with the slice value of its Via. -/
def arS (x : Ar × SV) : List Value := [.int .i64 x.1.id, .int .i64 x.1.fr, .int .i64 x.1.dst, .slice x.2.a x.2.n x.2.c, .int .i64 x.1.left, .int .i64 x.1.right]
theorem arS_len (x : Ar × SV) : (arS x).length = 6 := rfl
theorem arS_one (x : Ar × SV) : ∀ u ∈ arS x, u.oneCell' = true := by simp [arS, Value.oneCell']
def svA (x : Ar × SV) : Ar × Value := (x.1, .slice x.2.a x.2.n x.2.c)
def svOf : Value → SV
 | .slice a n c => ⟨a, n, c⟩
 | _ => ⟨none, 0, 0⟩
theorem arS_flat (l : List (Ar × SV)) : (l.map svA).flatMap arC = l.flatMap arS := by rw [List.flatMap_map]; rfl
theorem Vias.sv {w : World} {al : List (Ar × Value)} (h : Vias w al) : ∃ bl : List (Ar × SV), al = bl.map svA := by
 refine ⟨al.map fun x => (x.1, svOf x.2), ?_⟩
 rw [List.map_map]
 have : ∀ x ∈ al, (svA ∘ fun x : Ar × Value => (x.1, svOf x.2)) x = x := fun x hx => by
  obtain ⟨k, hk, rfl⟩ := List.mem_iff_getElem.1 hx
  obtain ⟨A, c, hv, -⟩ := h k hk
  show (al[k].1, Value.slice (svOf al[k].2).a (svOf al[k].2).n (svOf al[k].2).c) = al[k]
  rw [Prod.ext_iff]
  exact ⟨rfl, by rw [hv]; rfl⟩
 exact (List.map_id al).symm.trans (List.map_congr_left fun x hx => (this x hx).symm)
theorem flat_set {α : Type} (f : α → List Value) (n : Nat) (hn : ∀ a, (f a).length = n) (l : List α) (i : Nat) (hi : i < l.length) (y : α) (m : Nat) (hm : m < l.length * n) :
  ((l.set i y).flatMap f)[m]? = if m / n = i then (f y)[m % n]? else (l.flatMap f)[m]? := by
 have hn0 : 0 < n := by
  rcases Nat.eq_zero_or_pos n with h0 | h0
  · subst h0; omega
  · exact h0
 have h1 : m / n < l.length := Nat.div_lt_of_lt_mul (by rw [Nat.mul_comm]; exact hm)
 have h2 : m % n < n := Nat.mod_lt _ hn0
 have e1 := flat_get f n hn (l.set i y) (m / n) (m % n) (by simpa using h1) h2
 have e2 := flat_get f n hn l (m / n) (m % n) h1 h2
 rw [Nat.div_add_mod'] at e1 e2
 rw [e1, e2, List.getElem_set]
 by_cases e : i = m / n
 · rw [if_pos e, if_pos e.symm]
 · rw [if_neg e, if_neg (fun h => e h.symm)]
/-- One element of a row of the call's own is replaced: its six cells. -/
theorem Own.set6 {w : World} {base g n c i : Nat} {e : TypeId} {l : List (Ar × SV)} (h : Own w base e 6 arS (.slice (some ⟨g, 0, none⟩) n c) l) (hi : i < l.length) (y : Ar × SV) :
  Own ((((((w.setCell ⟨g, i * 6, none⟩ (.int .i64 y.1.id)).setCell ⟨g, i * 6 + 1, none⟩ (.int .i64 y.1.fr)).setCell ⟨g, i * 6 + 2, none⟩ (.int .i64 y.1.dst)).setCell ⟨g, i * 6 + 3, none⟩ (.slice y.2.a y.2.n y.2.c)).setCell ⟨g, i * 6 + 4, none⟩ (.int .i64 y.1.left)).setCell ⟨g, i * 6 + 5, none⟩ (.int .i64 y.1.right)) base e 6 arS (.slice (some ⟨g, 0, none⟩) n c) (l.set i y) := by
 obtain ⟨h1, h2⟩ := h
 rcases h2 with ⟨hv, h0⟩ | ⟨g', cap, cur, hv, hg, hh, hnc, hcm, hcs, hx⟩
 · cases hv
 ·
  injection hv with e1 e2 e3
  injection e1 with e1
  injection e1 with e1 _ _
  subst e1 e3
  have hl : (l.set i y).length = l.length := by simp
  refine ⟨by rw [flat_length arS 6 arS_len], .inr ⟨g, c, _, by rw [hl, e2], hg, Blk.set_ (Blk.set_ (Blk.set_ (Blk.set_ (Blk.set_ (Blk.set_ hh (i * 6) _) (i * 6 + 1) _) (i * 6 + 2) _) (i * 6 + 3) _) (i * 6 + 4) _) (i * 6 + 5) _, by rw [hl]; exact hnc, hcm, by simpa using hcs, ?_⟩⟩
  apply List.ext_getElem?
  intro m
  rw [List.getElem?_take, hl]
  by_cases hm : m < l.length * 6
  ·
   rw [if_pos hm, flat_set arS 6 arS_len l i hi y m hm]
   have hcur : (l.flatMap arS)[m]? = cur[m]? := by
    rw [← hx, List.getElem?_take, if_pos hm]; simp
   have hmc : m < cur.size := by rw [hcs]; have := Nat.mul_le_mul_right 6 hnc; omega
   rw [hcur]
   simp only [Array.getElem?_toList, Array.getElem?_setIfInBounds, Array.size_setIfInBounds]
   by_cases hmi : m / 6 = i
   ·
    rw [if_pos hmi]
    obtain ⟨r, hr, rfl⟩ : ∃ r, r < 6 ∧ m = i * 6 + r := ⟨m % 6, by omega, by omega⟩
    rw [show (i * 6 + r) % 6 = r by omega]
    match r, hr with
    | 0, _ => simp [arS]; omega
    | 1, _ => simp [arS]; omega
    | 2, _ => simp [arS]; omega
    | 3, _ => simp [arS]; omega
    | 4, _ => simp [arS]; omega
    | 5, _ => simp [arS]; omega
   · rw [if_neg hmi, if_neg (by omega), if_neg (by omega), if_neg (by omega), if_neg (by omega), if_neg (by omega), if_neg (by omega)]
  · rw [if_neg hm, List.getElem?_eq_none (by rw [flat_length arS 6 arS_len, hl]; omega)]
end Go.Proofs.YtfondidmklmonaaGreat
namespace Go.Proofs.YtfondidmklmonaaGreat
open Go.RowKit

/- ## The geometry: a segment turned round -/
theorem ron_flip (a b q : Pt) : ronS b a q = ronS a b q := by
 unfold ronS
 have hn : nears [b, a, q] = nears [a, b, q] := by rw [Bool.eq_iff_iff]; simp [nears]; constructor <;> (rintro ⟨h1, h2, h3⟩; exact ⟨h2, h1, h3⟩)
 have e1 : crossS b a b q = - crossS a b a q := by unfold crossS; grind
 have e2 : dotS b q a q = dotS a q b q := by unfold dotS; grind
 rw [hn, e1, e2]
 have : decide (-crossS a b a q = 0) = decide (crossS a b a q = 0) := by
  rw [Bool.eq_iff_iff]; simp
 rw [this]
theorem rmeet_flip (a b c d : Pt) : rmeetS b a c d = rmeetS a b c d := by
 unfold rmeetS
 have hn : nears [b, a, c, d] = nears [a, b, c, d] := by rw [Bool.eq_iff_iff]; simp [nears]; constructor <;> (rintro ⟨h1, h2, h3, h4⟩; exact ⟨h2, h1, h3, h4⟩)
 rw [hn]
 split
 case isFalse => rfl
 unfold rmeetN
 have e0 : crossS b a c d = - crossS a b c d := by unfold crossS; grind
 have e1 : crossS b a b c = - crossS a b a c := by unfold crossS; grind
 have e2 : crossS b a b d = - crossS a b a d := by unfold crossS; grind
 have e3 : crossS b c c d = crossS a c c d - crossS a b c d := by unfold crossS; grind
 have e4 : crossS b c b a = - crossS a c a b := by unfold crossS; grind
 rw [e0, e1, e2, e3, e4, ← sharedS_flip a b c d]
 by_cases h1 : a = b ∧ c = d ∧ ¬ a = c
 · rw [if_pos h1, if_pos ⟨h1.1.symm, h1.2.1, by rw [← h1.1]; exact h1.2.2⟩]
 rw [if_neg h1, if_neg (show ¬ (b = a ∧ c = d ∧ ¬ b = c) from fun e => h1 ⟨e.1.symm, e.2.1, by rw [← e.1]; exact e.2.2⟩)]
 generalize crossS a b c d = n at *
 by_cases h0 : n = 0
 ·
  rw [if_pos h0, if_pos (show -n = 0 by omega)]
  have : ((-crossS a b a c = 0 ∧ -crossS a b a d = 0 ∧ crossS c d c b = 0 ∧ crossS c d c a = 0) ↔ (crossS a b a c = 0 ∧ crossS a b a d = 0 ∧ crossS c d c a = 0 ∧ crossS c d c b = 0)) := by omega
  simp only [this]
 ·
  rw [if_neg h0, if_neg (show ¬ -n = 0 by omega)]
  by_cases hn' : n < 0
  ·
   rw [if_pos hn', if_neg (show ¬ -n < 0 by omega)]
   congr 1
   simp only [eq_iff_iff]
   omega
  ·
   rw [if_neg hn', if_pos (show -n < 0 by omega)]
   congr 1
   simp only [eq_iff_iff]
   omega
theorem rmeet_flip2 (a b c d : Pt) : rmeetS a b d c = rmeetS a b c d := by rw [rmeetS_comm a b d c, rmeet_flip, rmeetS_comm]

/- ## Planar, arc by arc -/
def ArcGood (p : Pl) (a : Ar) : Prop := (∀ k, k + 1 < (pathS p a).length → aloneS p (segK p a k) = true) ∧ (∀ k m, k < m → m + 1 < (pathS p a).length → apartS (segK p a k) (segK p a m) = true)
def ArcPair (p : Pl) (a b : Ar) : Prop := ∀ k, k + 1 < (pathS p a).length → ∀ m, m + 1 < (pathS p b).length → joinedS p (segK p a k) (segK p b m) = true
theorem segsOf_iff {p : Pl} {a : Ar} {s : Sg} : s ∈ segsOf a (pathS p a) ↔ ∃ k, k + 1 < (pathS p a).length ∧ s = segK p a k := by
 unfold segsOf
 rw [List.mem_map]
 constructor
 · rintro ⟨k, hk, rfl⟩; have := List.mem_range.1 hk; exact ⟨k, by omega, rfl⟩
 · rintro ⟨k, hk, rfl⟩; exact ⟨k, List.mem_range.2 (by omega), rfl⟩
theorem planar_iff (p : Pl) (hs : (p.arcs.map (·.id)).Pairwise (· < ·)) : planarR p = true ↔ (∀ a ∈ p.arcs, ArcGood p a) ∧ p.arcs.Pairwise (ArcPair p) := by
 rw [List.pairwise_map] at hs
 unfold planarR
 rw [triB_iff]
 unfold segsS
 rw [List.pairwise_flatMap]
 constructor
 ·
  rintro ⟨h1, h2, h3⟩
  refine ⟨fun a ha => ⟨fun k hk => h1 _ (List.mem_flatMap.2 ⟨a, ha, segK_mem hk⟩), fun k m hkm hm => ?_⟩, ?_⟩
  ·
   have h4 := h2 a ha
   unfold segsOf at h4
   rw [List.pairwise_map, List.pairwise_iff_getElem] at h4
   have h5 := h4 k m (by rw [List.length_range]; omega) (by rw [List.length_range]; omega) hkm
   simp only [List.getElem_range] at h5
   unfold pairR at h5
   rw [if_pos rfl] at h5
   exact h5
  ·
   refine (hs.and h3).imp ?_
   rintro a b ⟨hlt, h4⟩ k hk m hm
   have h5 := h4 _ (segK_mem hk) _ (segK_mem hm)
   unfold pairR at h5
   rw [if_neg (show ¬ (segK p a k).arc.id = (segK p b m).arc.id from fun e => by have e' : a.id = b.id := e; omega)] at h5
   exact h5
 ·
  rintro ⟨h1, h2⟩
  refine ⟨fun s hs' => ?_, fun a ha => ?_, ?_⟩
  ·
   obtain ⟨a, ha, hs'⟩ := List.mem_flatMap.1 hs'
   obtain ⟨k, hk, rfl⟩ := segsOf_iff.1 hs'
   exact (h1 a ha).1 k hk
  ·
   unfold segsOf
   rw [List.pairwise_map, List.pairwise_iff_getElem]
   intro k m hk hm hkm
   simp only [List.getElem_range]
   rw [List.length_range] at hm
   unfold pairR
   rw [if_pos rfl]
   exact (h1 a ha).2 k m hkm (by omega)
  ·
   refine (hs.and h2).imp ?_
   rintro a b ⟨hlt, h4⟩ s hs1 t ht
   obtain ⟨k, hk, rfl⟩ := segsOf_iff.1 hs1
   obtain ⟨m, hm, rfl⟩ := segsOf_iff.1 ht
   unfold pairR
   rw [if_neg (show ¬ (segK p a k).arc.id = (segK p b m).arc.id from fun e => by have e' : a.id = b.id := e; omega)]
   exact h4 k hk m hm
theorem joined_comm (p : Pl) (s t : Sg) : joinedS p s t = joinedS p t s := by
 unfold joinedS
 rw [rmeetS_comm t.a t.b s.a s.b]
 have : meetAt s t = meetAt t s := by
  funext x
  unfold meetAt
  cases endsS s.arc x.id <;> cases endsS t.arc x.id <;> cases ronS s.a s.b x.pt <;> cases ronS t.a t.b x.pt <;> rfl
 rw [this]
theorem ArcPair.symm {p : Pl} {a b : Ar} (h : ArcPair p a b) : ArcPair p b a := fun k hk m hm => by rw [joined_comm]; exact h m hm k hk

/- ## An arc reversed -/
def revA (a : Ar) : Ar := ⟨a.id, a.dst, a.fr, a.via.reverse, a.right, a.left⟩
theorem revA_revA (a : Ar) : revA (revA a) = a := by cases a; simp [revA]
theorem path_rev (p : Pl) (a : Ar) : pathS p (revA a) = (pathS p a).reverse := by simp [pathS, revA]
theorem getD_rev (l : List Pt) (k : Nat) (hk : k < l.length) : l.reverse.getD k pt0 = l.getD (l.length - 1 - k) pt0 := by
 rw [List.getD_eq_getElem?_getD, List.getD_eq_getElem?_getD, List.getElem?_reverse hk]
theorem seg_rev (p : Pl) (a : Ar) (k : Nat) (hk : k + 1 < (pathS p a).length) :
  segK p (revA a) k = ⟨revA a, k, (pathS p a).length - 1, (segK p a ((pathS p a).length - 2 - k)).b, (segK p a ((pathS p a).length - 2 - k)).a⟩ := by
 unfold segK
 rw [path_rev, List.length_reverse, getD_rev _ _ (by omega), getD_rev _ _ hk]
 simp only [Sg.mk.injEq, true_and]
 exact ⟨by congr 1; omega, by congr 1; omega⟩
theorem alone_rev (p : Pl) (a : Ar) (k : Nat) (hk : k + 1 < (pathS p a).length) : aloneS p (segK p (revA a) k) = aloneS p (segK p a ((pathS p a).length - 2 - k)) := by
 rw [seg_rev p a k hk]
 unfold aloneS
 have h1 : offNd ⟨revA a, k, (pathS p a).length - 1, (segK p a ((pathS p a).length - 2 - k)).b, (segK p a ((pathS p a).length - 2 - k)).a⟩ = offNd (segK p a ((pathS p a).length - 2 - k)) := by
  funext x
  unfold offNd
  rw [ron_flip]
  congr 1
  unfold isEnd
  have c1 : (((k : Nat) : Int) == 0) = (((((pathS p a).length - 2 - k : Nat) : Int)) == (((pathS p a).length - 1 : Nat) : Int) - 1) := by
   rw [Bool.eq_iff_iff, beq_iff_eq, beq_iff_eq]; omega
  have c2 : (((k : Nat) : Int) == (((pathS p a).length - 1 : Nat) : Int) - 1) = (((((pathS p a).length - 2 - k : Nat) : Int)) == 0) := by
   rw [Bool.eq_iff_iff, beq_iff_eq, beq_iff_eq]; omega
  show ((((k : Nat) : Int) == 0) && (a.dst == x.id) || (((k : Nat) : Int) == (((pathS p a).length - 1 : Nat) : Int) - 1) && (a.fr == x.id)) = (((((pathS p a).length - 2 - k : Nat) : Int) == 0) && (a.fr == x.id) || (((((pathS p a).length - 2 - k : Nat) : Int)) == (((pathS p a).length - 1 : Nat) : Int) - 1) && (a.dst == x.id))
  rw [c1, c2, Bool.or_comm]
 have h2 : soundS ⟨revA a, k, (pathS p a).length - 1, (segK p a ((pathS p a).length - 2 - k)).b, (segK p a ((pathS p a).length - 2 - k)).a⟩ = soundS (segK p a ((pathS p a).length - 2 - k)) := by
  unfold soundS
  have c1 : decide ((segK p a ((pathS p a).length - 2 - k)).b = (segK p a ((pathS p a).length - 2 - k)).a) = decide ((segK p a ((pathS p a).length - 2 - k)).a = (segK p a ((pathS p a).length - 2 - k)).b) := by
   rw [Bool.eq_iff_iff, decide_eq_true_eq, decide_eq_true_eq]; exact eq_comm
  have c2 : ((revA a).fr != (revA a).dst) = (a.fr != a.dst) := by
   show (a.dst != a.fr) = _
   rw [Bool.eq_iff_iff, bne_iff_ne, bne_iff_ne]; exact ne_comm
  simp only [c1, c2]
  rfl
 rw [h1, h2]
theorem good_rev1 (p : Pl) (a : Ar) (h : ArcGood p a) : ArcGood p (revA a) := by
 constructor
 ·
  intro k hk
  rw [path_rev, List.length_reverse] at hk
  rw [alone_rev p a k hk]
  exact h.1 _ (by omega)
 ·
  intro k m hkm hm
  rw [path_rev, List.length_reverse] at hm
  have h1 := h.2 ((pathS p a).length - 2 - m) ((pathS p a).length - 2 - k) (by omega) (by omega)
  rw [seg_rev p a k (by omega), seg_rev p a m hm]
  unfold apartS at h1 ⊢
  simp only [] at h1 ⊢
  rw [rmeet_flip, rmeet_flip2, rmeetS_comm]
  have hc : (m = k + 1 ∨ (k = 0 ∧ m + 1 = (pathS p a).length - 1 ∧ (revA a).fr = (revA a).dst)) ↔ ((segK p a ((pathS p a).length - 2 - k)).i = (segK p a ((pathS p a).length - 2 - m)).i + 1 ∨ ((segK p a ((pathS p a).length - 2 - m)).i = 0 ∧ (segK p a ((pathS p a).length - 2 - k)).i + 1 = (segK p a ((pathS p a).length - 2 - k)).n ∧ (segK p a ((pathS p a).length - 2 - m)).arc.fr = (segK p a ((pathS p a).length - 2 - m)).arc.dst)) := by
   show (m = k + 1 ∨ (k = 0 ∧ m + 1 = (pathS p a).length - 1 ∧ a.dst = a.fr)) ↔ ((pathS p a).length - 2 - k = (pathS p a).length - 2 - m + 1 ∨ ((pathS p a).length - 2 - m = 0 ∧ (pathS p a).length - 2 - k + 1 = (pathS p a).length - 1 ∧ a.fr = a.dst))
   have : a.dst = a.fr ↔ a.fr = a.dst := eq_comm
   omega
  simp only [hc]
  exact h1
theorem good_rev (p : Pl) (a : Ar) : ArcGood p (revA a) ↔ ArcGood p a := ⟨fun h => by have := good_rev1 p _ h; rwa [revA_revA] at this, good_rev1 p a⟩
theorem pair_rev1 (p : Pl) (a b : Ar) (h : ArcPair p a b) : ArcPair p (revA a) b := by
 intro k hk m hm
 rw [path_rev, List.length_reverse] at hk
 have h1 := h ((pathS p a).length - 2 - k) (by omega) m hm
 rw [seg_rev p a k hk]
 unfold joinedS at h1 ⊢
 simp only [] at h1 ⊢
 rw [rmeet_flip]
 have : meetAt ⟨revA a, k, (pathS p a).length - 1, (segK p a ((pathS p a).length - 2 - k)).b, (segK p a ((pathS p a).length - 2 - k)).a⟩ (segK p b m) = meetAt (segK p a ((pathS p a).length - 2 - k)) (segK p b m) := by
  funext x
  unfold meetAt
  rw [ron_flip]
  have : endsS (revA a) x.id = endsS a x.id := by unfold endsS revA; exact Bool.or_comm _ _
  show (endsS (revA a) x.id && _ && _ && _) = (endsS a x.id && _ && _ && _)
  rw [this]
 rw [this]
 exact h1
theorem pair_rev (p : Pl) (a b : Ar) : ArcPair p (revA a) b ↔ ArcPair p a b := ⟨fun h => by have := pair_rev1 p _ b h; rwa [revA_revA] at this, pair_rev1 p a b⟩
theorem pair_rev' (p : Pl) (a b : Ar) : ArcPair p b (revA a) ↔ ArcPair p b a := ⟨fun h => ((pair_rev p a b).1 h.symm).symm, fun h => ((pair_rev p a b).2 h.symm).symm⟩

def revP (p : Pl) (i : Nat) (hi : i < p.arcs.length) : Pl := ⟨p.nodes, p.arcs.set i (revA p.arcs[i]), p.faces⟩
theorem map_set {α β : Type} (l : List α) (i : Nat) (hi : i < l.length) (b : α) (f : α → β) (h : f b = f l[i]) : (l.set i b).map f = l.map f := by
 apply List.ext_getElem
 · simp
 ·
  intro j h1 h2
  simp only [List.getElem_map, List.getElem_set]
  split
  · rename_i e; subst e; exact h
  · rfl
theorem all_map' {α : Type} (l : List α) (f : α → Bool) : l.all f = (l.map f).all id := by rw [List.all_map]; rfl
theorem any_map' {α : Type} (l : List α) (f : α → Bool) : l.any f = (l.map f).any id := by rw [List.any_map]; rfl
theorem revP_len (p : Pl) (i : Nat) (hi : i < p.arcs.length) : (revP p i hi).arcs.length = p.arcs.length := by unfold revP; simp
theorem revP_get (p : Pl) (i : Nat) (hi : i < p.arcs.length) (j : Nat) (hj : j < p.arcs.length) : (revP p i hi).arcs[j]'(by rw [revP_len]; exact hj) = if i = j then revA p.arcs[i] else p.arcs[j] := by
 unfold revP
 simp only [List.getElem_set]
theorem planar_rev (p : Pl) (i : Nat) (hi : i < p.arcs.length) (hs : (p.arcs.map (·.id)).Pairwise (· < ·)) : planarR (revP p i hi) = planarR p := by
 have hs' : ((revP p i hi).arcs.map (·.id)).Pairwise (· < ·) := by
  have e : (revP p i hi).arcs.map (·.id) = p.arcs.map (·.id) := map_set p.arcs i hi _ (·.id) rfl
  rw [e]
  exact hs
 rw [Bool.eq_iff_iff, planar_iff _ hs, planar_iff _ hs']
 have hg : ∀ a, ArcGood (revP p i hi) a ↔ ArcGood p a := fun a => Iff.rfl
 have hq : ∀ a b, ArcPair (revP p i hi) a b ↔ ArcPair p a b := fun a b => Iff.rfl
 have hl := revP_len p i hi
 constructor
 ·
  rintro ⟨h1, h2⟩
  rw [List.pairwise_iff_getElem] at h2 ⊢
  constructor
  ·
   intro a ha
   obtain ⟨j, hj, rfl⟩ := List.mem_iff_getElem.1 ha
   have h3 := (hg _).1 (h1 _ (List.getElem_mem (show j < (revP p i hi).arcs.length by omega)))
   rw [revP_get p i hi j hj] at h3
   split at h3
   · rename_i e; subst e; exact (good_rev p _).1 h3
   · exact h3
  ·
   intro j k hj hk hjk
   have h3 := (hq _ _).1 (h2 j k (by omega) (by omega) hjk)
   rw [revP_get p i hi j hj, revP_get p i hi k hk] at h3
   by_cases e1 : i = j
   ·
    rw [if_pos e1, if_neg (by omega)] at h3
    subst e1
    exact (pair_rev p _ _).1 h3
   ·
    rw [if_neg e1] at h3
    by_cases e2 : i = k
    ·
     rw [if_pos e2] at h3
     subst e2
     exact (pair_rev' p _ _).1 h3
    ·
     rw [if_neg e2] at h3
     exact h3
 ·
  rintro ⟨h1, h2⟩
  rw [List.pairwise_iff_getElem] at h2 ⊢
  constructor
  ·
   intro a ha
   obtain ⟨j, hj, rfl⟩ := List.mem_iff_getElem.1 ha
   have h3 := h1 _ (List.getElem_mem (show j < p.arcs.length by omega))
   refine (hg _).2 ?_
   rw [revP_get p i hi j (by omega)]
   split
   · rename_i e; subst e; exact (good_rev p _).2 h3
   · exact h3
  ·
   intro j k hj hk hjk
   have h3 := h2 j k (by omega) (by omega) hjk
   refine (hq _ _).2 ?_
   rw [revP_get p i hi j (by omega), revP_get p i hi k (by omega)]
   by_cases e1 : i = j
   ·
    rw [if_pos e1, if_neg (by omega)]
    subst e1
    exact (pair_rev p _ _).2 h3
   ·
    rw [if_neg e1]
    by_cases e2 : i = k
    ·
     rw [if_pos e2]
     subst e2
     exact (pair_rev' p _ _).2 h3
    ·
     rw [if_neg e2]
     exact h3
theorem check_rev (p : Pl) (i : Nat) (hi : i < p.arcs.length) : checkS (revP p i hi) = checkS p := by
 have e1 : limS (revP p i hi) = limS p := by
  unfold limS
  rw [any_map' (revP p i hi).arcs, any_map' p.arcs]
  have : (revP p i hi).arcs.map (fun a => decide (64 < a.via.length)) = p.arcs.map fun a => decide (64 < a.via.length) := map_set _ i hi _ _ (by simp [revA])
  rw [this]
  have hl : (revP p i hi).arcs.length = p.arcs.length := revP_len p i hi
  rw [hl]
  rfl
 have e2 : (revP p i hi).arcs.map (·.id) = p.arcs.map (·.id) := map_set _ i hi _ _ rfl
 have e3 : orderedS (revP p i hi) = orderedS p := by unfold orderedS; rw [e2]; rfl
 have e4 : rangesS (revP p i hi) = rangesS p := by
  unfold rangesS pointsS
  rw [e2, List.all_append, List.all_append, List.all_flatMap, List.all_flatMap, all_map' (revP p i hi).arcs, all_map' p.arcs]
  have : (revP p i hi).arcs.map (fun a => a.via.all ptOk) = p.arcs.map fun a => a.via.all ptOk := map_set _ i hi _ _ (by simp [revA])
  rw [this]
  rfl
 have e5 : (revP p i hi).arcs.all (hasEnds (revP p i hi)) = p.arcs.all (hasEnds p) := by
  rw [all_map', all_map' p.arcs]
  have : (revP p i hi).arcs.map (hasEnds (revP p i hi)) = p.arcs.map (hasEnds p) := map_set _ i hi _ (hasEnds p) (by unfold hasEnds revA; exact Bool.and_comm _ _)
  rw [this]
 have e6 : sidesS (revP p i hi) = sidesS p := by
  unfold sidesS
  rw [all_map', all_map' p.arcs]
  have : (revP p i hi).arcs.map (fun a => faceS (revP p i hi).faces a.left && faceS (revP p i hi).faces a.right) = p.arcs.map (fun a => faceS p.faces a.left && faceS p.faces a.right) := map_set _ i hi _ (fun a => faceS p.faces a.left && faceS p.faces a.right) (by unfold revA; exact Bool.and_comm _ _)
  rw [this]
 unfold checkS
 rw [e1, e3, e4, e5, e6]
 show (if limS p = true then 3 else if orderedS p = false then 10 else if rangesS p = false then 2 else if dupS (p.nodes.map (·.pt)) = true then 8 else if p.arcs.all (hasEnds p) = false then 7 else if sidesS p = false then 12 else if planarR (revP p i hi) = false then 11 else 0) = _
 by_cases ho : orderedS p = false
 · simp only [ho, if_true]
 ·
  have ha : (p.arcs.map (·.id)).Pairwise (· < ·) := by
   have := ho
   unfold orderedS at this
   rw [Bool.not_eq_false, Bool.and_eq_true, Bool.and_eq_true] at this
   exact asc_pw _ this.1.2
  rw [planar_rev p i hi ha]
end Go.Proofs.YtfondidmklmonaaGreat
namespace Go.Proofs.YtfondidmklmonaaGreat
open Go.RowKit

/-- What gives a plan of the call's own. -/
def RetPlan (w : World) (p : Pl) (e : Ending) (w' : World) : Prop := ∃ v, e = .returned v ∧ Below w.heap.size w w' ∧ PlV w' v p

theorem Row.as_ {w : World} {A : Option Addr} {l : List (Ar × SV)} (h : Row w A (l.flatMap arS)) {k : Nat} (hk : k < l.length) :
  ∃ b o, A = some ⟨b, o, none⟩ ∧ b < w.heap.size ∧ w.cell? ⟨b, o + k * 6, none⟩ = some (.int .i64 l[k].1.id) ∧ w.cell? ⟨b, o + k * 6 + 1, none⟩ = some (.int .i64 l[k].1.fr) ∧ w.cell? ⟨b, o + k * 6 + 2, none⟩ = some (.int .i64 l[k].1.dst) ∧
   w.cell? ⟨b, o + k * 6 + 3, none⟩ = some (.slice l[k].2.a l[k].2.n l[k].2.c) ∧ w.cell? ⟨b, o + k * 6 + 4, none⟩ = some (.int .i64 l[k].1.left) ∧ w.cell? ⟨b, o + k * 6 + 5, none⟩ = some (.int .i64 l[k].1.right) := by
 obtain ⟨b, o, hA, hb, hc⟩ := h.at_ (n := 6) (fun _ => rfl) hk (by omega)
 exact ⟨b, o, hA, hb, hc 0 _ rfl, hc 1 _ rfl, hc 2 _ rfl, hc 3 _ rfl, hc 4 _ rfl, hc 5 _ rfl⟩
theorem Own.belowB {α : Type} {w w' : World} {base B : Nat} {e : TypeId} {size : Nat} {f : α → List Value} {v : Value} {l : List α} (h : Own w base e size f v l) (hb : Below B w w') (hr : ∀ g, v.ownBlock = some g → g < B) : Own w' base e size f v l := by
 obtain ⟨h1, h2⟩ := h
 refine ⟨h1, ?_⟩
 rcases h2 with h2 | ⟨g, cap, cur, hv, hg, hh, r⟩
 · exact .inl h2
 ·
  subst hv
  exact .inr ⟨g, cap, cur, rfl, hg, (hb.block g (hr g rfl)).trans hh, r⟩
/-- A row of the call's own that is not empty: its block. -/
theorem Own.form {α : Type} {w : World} {base : Nat} {e : TypeId} {size : Nat} {f : α → List Value} {v : Value} {l : List α} (h : Own w base e size f v l) (hl : 0 < l.length) : ∃ g c, v = .slice (some ⟨g, 0, none⟩) l.length c ∧ base ≤ g ∧ g < w.heap.size ∧ l.length ≤ c ∧ c ≤ maxLen ∧ (∃ cur, Blk w g e cur ∧ cur.size = c * size) := by
 rcases h.2 with ⟨_, h0⟩ | ⟨g, cap, cur, hv, hg, hh, hnc, hcm, hcs, _⟩
 · omega
 · exact ⟨g, cap, hv, hg, Blk.lt hh, hnc, hcm, cur, hh, hcs⟩

set_option maxRecDepth 100000 in
set_option maxHeartbeats 4000000 in
theorem Reversed_spec (v : Value) (p : Pl) (i : Nat) (w : World) (h : PlV w v p) (hi : i < p.arcs.length) (hl : p.arcs.length ≤ 1000) (hvl : ∀ a ∈ p.arcs, a.via.length ≤ 1000) :
  Calls Tryz.prog 29 #[v, .int .i64 i] w (RetPlan w (revP p i hi)) := by
 obtain ⟨vn, _, vf, al, rfl, hpa, hN, ⟨⟨Aa, ca, rfl, ha1, ha2, hRa⟩, hV⟩, hF⟩ := h
 obtain ⟨bl, rfl⟩ := hV.sv
 have hpl : p.arcs.length = bl.length := by rw [hpa, List.length_map, List.length_map]
 rw [List.length_map] at ha1
 unfold maxLen at ha2
 rw [arS_flat] at hRa
 have hib : i < bl.length := by omega
 have hbl : bl.length ≤ 1000 := by omega
 have hVk : ∀ k (hk : k < bl.length), Pts w (.slice bl[k].2.a bl[k].2.n bl[k].2.c) bl[k].1.via := fun k hk => by
  have := hV k (by simpa using hk)
  simpa [svA] using this
 have hvk : ∀ k (hk : k < bl.length), bl[k].1.via.length ≤ 1000 := fun k hk => hvl _ (by rw [hpa]; exact List.mem_map.2 ⟨svA bl[k], List.mem_map_of_mem (List.getElem_mem hk), rfl⟩)
 have hres : (revP p i hi).arcs = (bl.map (·.1)).set i (revA bl[i].1) := by
  have e1 : p.arcs = bl.map (·.1) := by rw [hpa, List.map_map]; rfl
  show p.arcs.set i (revA p.arcs[i]) = _
  simp only [e1]
  simp
 have HN := Lib.hid hN; have HF := Lib.hid hF
 obtain ⟨An, cn, rfl, -⟩ := hN
 obtain ⟨Af, cf, rfl, -⟩ := hF
 have HVk := Lib.hid hVk; have Hvk := Lib.hid hvk
 have Hres := Lib.hid hres
 have HRa : Hid (Sl w (.slice Aa bl.length ca) bl.length (bl.flatMap arS)) := Lib.hid ⟨_, _, rfl, ha1, by unfold maxLen; exact ha2, hRa⟩
 rw [List.length_map]
 obtain ⟨sa, sc, hsv, hsn1, hsn2, hsR⟩ := hVk i hib
 injection hsv with e1 e2 e3
 unfold maxLen at hsn2
 have hsn3 := hvk i hib
 have HSv := Lib.hid (⟨e1, e2, e3⟩ : bl[i].2.a = sa ∧ bl[i].2.n = bl[i].1.via.length ∧ bl[i].2.c = sc)
 have HsR := Lib.hid hsR
 clear hV hVk hvk hres hRa hpa e1 e2 e3 hsR
 go_enter Tryz.func29, Tryz.ntmps29
 go_upto_region 2 with
  (at_builtin
   refine wpList_appl _ rfl (.tmp 8) (.tmp 10) _ rfl (base := w.heap.size + 1 + 1) elem_ar arS_len arS_one rfl (Own.lit _ _ _ _ arS [] _ 0 _ (by simp) rfl (by simp) (le_maxLen (by omega)) rfl rfl) rfl (l2 := bl) (Sl.mono HRa.out (bA (bA (bA (bR w) _) _) _)) (by simp only [List.length_nil]; omega) (by simp only [List.length_nil]; omega) (by simp) ?_
   intro v5 w5 ho5 hg5 hat5)
 have hT2 : Blk w5 w.heap.size 26 #[.slice An p.nodes.length cn, .slice Aa bl.length ca, .slice Af p.faces.length cf] := by
  refine Blk.grown (Blk.alloc (Blk.alloc (Blk.made rfl _ _) _) _) hg5 (fun e => ?_)
  have h := Option.some.inj e
  simp at h
  try omega
 have hT4 : Blk w5 (w.heap.size + 1) 26 #[.slice none 0 0, .slice none 0 0, .slice none 0 0] := by
  refine Blk.grown (Blk.alloc (Blk.made (by simp) _ _) _) hg5 (fun e => ?_)
  have h := Option.some.inj e
  simp at h
  try omega
 have hB5 : Below w.heap.size w w5 := bG (bA (bA (bA (bR w) _) _) _) hg5 (fun g hg => by have h := Option.some.inj hg; simp at h; omega)
 have hsz5 := hg5.size
 simp only [World.size_alloc] at hsz5
 replace ho5 : Own w5 (w.heap.size + 1 + 1) 63 6 arS v5 bl := ho5
 obtain ⟨g5, c5, rfl, hg5b, hg5l, hn5, hm5, hb5⟩ := Own.form ho5 (by omega)
 unfold maxLen at hm5
 have HO5 := Lib.hid ho5
 obtain ⟨A5, C5, he5, -, -, hR5⟩ := Own.sl ho5
 injection he5 with e1 e2 e3
 subst e1
 clear e2 e3 ho5 hg5 hat5 hb5
 obtain ⟨b, o, hbo, hlb, c0, c1, c2, c3, c4, c5'⟩ := hR5.as_ hib
 simp only [Option.some.injEq, Addr.mk.injEq, and_true] at hbo
 obtain ⟨rfl, rfl⟩ := hbo
 simp only [Nat.zero_add] at c0 c1 c2 c3 c4 c5'
 have HB5 := Lib.hid hB5
 have HT2 := Lib.hid hT2; have HT4 := Lib.hid hT4
 clear hB5 hR5 hT2 hT4
 obtain ⟨g6, hg6⟩ : ∃ g6, g6 = w5.heap.size := ⟨_, rfl⟩
 obtain ⟨e1, e2, e3⟩ := HSv.out
 rw [e1, e2, e3] at c3
 clear e1 e2 e3
 generalize hx : bl[i].1 = x at *
 have HX := Lib.hid hx
 clear hx
 generalize hVV : x.via = V at *
 have HVV := Lib.hid hVV
 clear hVV
 go_upto_region 4 with fail
 rw [← hg6]
 obtain ⟨W6, hW6⟩ : ∃ W6 : World, W6 = w5.alloc (.cells #[.int .i64 x.id, .int .i64 x.dst, .int .i64 x.fr, .slice none 0 0, .int .i64 x.right, .int .i64 x.left] 63) := ⟨_, rfl⟩
 have hA6 : Below w5.heap.size w5 W6 := by rw [hW6]; exact bA (bR w5) _
 have hs6 : W6.heap.size = g6 + 1 := by rw [hW6, hg6]; simp
 have X6 : Blk W6 g6 63 #[.int .i64 x.id, .int .i64 x.dst, .int .i64 x.fr, .slice none 0 0, .int .i64 x.right, .int .i64 x.left] := by rw [hW6, hg6]; exact Blk.made rfl _ _
 have O6 := HO5.out.keep hA6
 have hB6 : Below w.heap.size w W6 := bT HB5.out hA6
 have hg56 : g5 < g6 := by omega
 have hg6w : w.heap.size + 2 < g6 := by omega
 rw [← hW6]
 have HX6 := Lib.hid X6; have HO6 := Lib.hid O6; have HB6 := Lib.hid hB6
 replace HT2 := Lib.hid (HT2.out.keep hA6); replace HT4 := Lib.hid (HT4.out.keep hA6)
 have HS6 := Lib.hid hs6
 clear X6 O6 hB6 hs6 hW6 hA6 hg6 c0 c1 c2 c3 c4 c5' hlb HO5 HB5
 obtain ⟨A5, C5, he5, -, -, hR6⟩ := Own.sl HO6.out
 injection he5 with e1 e2 e3
 subst e1
 clear e2 e3
 have HR6 := Lib.hid hR6
 obtain ⟨b, o, hbo, hlb, c0, c1, c2, c3, c4, c5'⟩ := hR6.as_ hib
 simp only [Option.some.injEq, Addr.mk.injEq, and_true] at hbo
 obtain ⟨rfl, rfl⟩ := hbo
 simp only [Nat.zero_add] at c0 c1 c2 c3 c4 c5'
 obtain ⟨e1, e2, e3⟩ := HSv.out
 rw [e1, e2, e3] at c3
 clear e1 e2 e3 hR6
 go_wp2_with fail
 clear c0 c1 c2 c3 c4 c5' hlb
 go_loopw [7] (fun u wr => ∃ (k : Nat) (A : Option Addr) (c : Nat), k ≤ V.length ∧ u = .int .i64 ((k : Int) - 1) ∧ Blk wr g6 63 #[.int .i64 x.id, .int .i64 x.dst, .int .i64 x.fr, .slice A (V.length - k) c, .int .i64 x.right, .int .i64 x.left] ∧ Own wr (g6 + 1) 28 2 ptC (.slice A (V.length - k) c) (V.drop k).reverse ∧ Below g6 W6 wr) (fun u _ => (intOf u + 1).toNat)
 case atStart => exact ⟨V.length, none, 0, Nat.le_refl _, rfl, by rw [Nat.sub_self]; exact HX6.out, by rw [Nat.sub_self, List.drop_length]; exact Own.nil _ _ _ _ _, Below.refl _ _⟩
 case round =>
  obtain ⟨k, A, c, hk, rfl, hx6, ho6, hb⟩ := hrel
  have Hb := Lib.hid hb
  have hsz := hb.size
  have hs6 := HS6.out
  have Hx6 := Lib.hid hx6
  have Ho6 := Lib.hid ho6
  have HOa := Lib.hid (show Own wr (w.heap.size + 1 + 1) 63 6 arS (.slice (some ⟨g5, 0, none⟩) bl.length c5) bl from HO6.out.belowB hb (fun g hg => by have h := Option.some.inj hg; change g5 = g at h; omega))
  have Bw : Below w.heap.size w wr := HB6.out.trans (hb.mono (by omega))
  have HBw := Lib.hid Bw
  clear hb Bw hx6 ho6
  rcases k with _ | m
  case zero =>
   have hR6 := HOa.out.sl
   obtain ⟨A5, C5, he5, -, -, hR6⟩ := hR6
   injection he5 with e1 e2 e3
   subst e1
   clear e2 e3
   obtain ⟨b, o, hbo, hlb, c0, c1, c2, c3, c4, c5'⟩ := hR6.as_ hib
   simp only [Option.some.injEq, Addr.mk.injEq, and_true] at hbo
   obtain ⟨rfl, rfl⟩ := hbo
   simp only [Nat.zero_add] at c0 c1 c2 c3 c4 c5'
   obtain ⟨gq, cq, hvq, -, -, -, -, cur, hcur, -⟩ := Own.form HOa.out (by omega)
   injection hvq with e1 e2 e3
   injection e1 with e1
   injection e1 with e1 _ _
   subst e1
   have hfz : ∀ j, wr.frozen? ⟨g5, j, none⟩ = false := fun j => Blk.frozen hcur j
   have hf0 := hfz (i * 6); have hf1 := hfz (i * 6 + 1); have hf2 := hfz (i * 6 + 2); have hf3 := hfz (i * 6 + 3); have hf4 := hfz (i * 6 + 4); have hf5 := hfz (i * 6 + 5)
   clear e2 e3 hR6 hfz hcur
   have X6 := Hx6.out
   rw [Nat.sub_zero] at X6
   have T2 := HT2.out.below Hb.out (by omega)
   have T4 := HT4.out.below Hb.out (by omega)
   obtain ⟨X6l, X6a, X6b, X6c, X6d, X6e, X6f, -, -, -, -, -, -⟩ := X6.facts6
   obtain ⟨T2l, T2a, T2b, T2c, T2fa, T2fb, T2fc⟩ := T2.facts3
   obtain ⟨T4l, T4a, T4b, T4c, T4fa, T4fb, T4fc⟩ := T4.facts3
   have n1 : ¬ g5 = w.heap.size := by omega
   have n2 : ¬ g5 = w.heap.size + 1 := by omega
   have n3 : ¬ w.heap.size = g5 := by omega
   have n4 : ¬ w.heap.size + 1 = g5 := by omega
   have n5 : ¬ g6 = g5 := by omega
   go_wp2_with fail
   have Bf : Below w.heap.size w ((((((((((wr.setCell ⟨g5, i * 6, none⟩ (.int .i64 x.id)).setCell ⟨g5, i * 6 + 1, none⟩ (.int .i64 x.dst)).setCell ⟨g5, i * 6 + 2, none⟩ (.int .i64 x.fr)).setCell ⟨g5, i * 6 + 3, none⟩ (.slice A V.length c)).setCell ⟨g5, i * 6 + 4, none⟩ (.int .i64 x.right)).setCell ⟨g5, i * 6 + 5, none⟩ (.int .i64 x.left)).setCell ⟨w.heap.size, 1, none⟩ (.slice (some ⟨g5, 0, none⟩) bl.length c5)).setCell ⟨w.heap.size + 1, 0, none⟩ (.slice An p.nodes.length cn)).setCell ⟨w.heap.size + 1, 1, none⟩ (.slice (some ⟨g5, 0, none⟩) bl.length c5)).setCell ⟨w.heap.size + 1, 2, none⟩ (.slice Af p.faces.length cf)) :=
    bS (bS (bS (bS (bS (bS (bS (bS (bS (bS HBw.out (p := ⟨g5, _, none⟩) (by simp; omega) _) (p := ⟨g5, _, none⟩) (by simp; omega) _) (p := ⟨g5, _, none⟩) (by simp; omega) _) (p := ⟨g5, _, none⟩) (by simp; omega) _) (p := ⟨g5, _, none⟩) (by simp; omega) _) (p := ⟨g5, _, none⟩) (by simp; omega) _) (p := ⟨w.heap.size, _, none⟩) (by simp) _) (p := ⟨w.heap.size + 1, _, none⟩) (by simp) _) (p := ⟨w.heap.size + 1, _, none⟩) (by simp) _) (p := ⟨w.heap.size + 1, _, none⟩) (by simp) _
   refine res_cell (t := 26) (g := w.heap.size + 1) (cs := #[.slice An p.nodes.length cn, .slice (some ⟨g5, 0, none⟩) bl.length c5, .slice Af p.faces.length cf]) rfl struct_pl rfl rfl ?_ ⟨_, rfl, Bf, ?_⟩
   ·
    have h := T4.far (p := ⟨g5, i * 6, none⟩) n4 (.int .i64 x.id)
    have h := h.far (p := ⟨g5, i * 6 + 1, none⟩) n4 (.int .i64 x.dst)
    have h := h.far (p := ⟨g5, i * 6 + 2, none⟩) n4 (.int .i64 x.fr)
    have h := h.far (p := ⟨g5, i * 6 + 3, none⟩) n4 (.slice A V.length c)
    have h := h.far (p := ⟨g5, i * 6 + 4, none⟩) n4 (.int .i64 x.right)
    have h := h.far (p := ⟨g5, i * 6 + 5, none⟩) n4 (.int .i64 x.left)
    have h := h.far (p := ⟨w.heap.size, 1, none⟩) (by simp) (.slice (some ⟨g5, 0, none⟩) bl.length c5)
    exact Blk.put3 h
   ·
    have ho := Own.set6 (i := i) HOa.out hib (revA x, ⟨A, V.length, c⟩)
    have ho2 := (((ho.far (p := ⟨w.heap.size, 1, none⟩) (fun e => by have h := Option.some.inj e; exact n1 h) (.slice (some ⟨g5, 0, none⟩) bl.length c5)).far (p := ⟨w.heap.size + 1, 0, none⟩) (fun e => by have h := Option.some.inj e; exact n2 h) (.slice An p.nodes.length cn)).far (p := ⟨w.heap.size + 1, 1, none⟩) (fun e => by have h := Option.some.inj e; exact n2 h) (.slice (some ⟨g5, 0, none⟩) bl.length c5)).far (p := ⟨w.heap.size + 1, 2, none⟩) (fun e => by have h := Option.some.inj e; exact n2 h) (.slice Af p.faces.length cf)
    have hsl := Own.sl ho2
    refine PlV.blocks (al := (bl.set i (revA x, ⟨A, V.length, c⟩)).map svA) ?_ (HN.out.mono Bf) ?_ ?_ (HF.out.mono Bf)
    ·
     rw [Hres.out, List.map_map, List.map_set]
     rfl
    ·
     rw [arS_flat, List.length_map]
     exact hsl
    ·
     intro k hk
     rw [List.length_map, List.length_set] at hk
     simp only [List.getElem_map, List.getElem_set]
     by_cases e : i = k
     ·
      rw [if_pos e]
      have hne : ∀ (g : Nat), g < g6 + 1 → (Value.slice A (V.length - 0) c).ownBlock ≠ some g := fun g hg e => by have := (Ho6.out.lt g e).1; omega
      have h := Ho6.out
      replace h := h.far (p := ⟨g5, i * 6, none⟩) (hne _ (by simp; omega)) (.int .i64 x.id)
      replace h := h.far (p := ⟨g5, i * 6 + 1, none⟩) (hne _ (by simp; omega)) (.int .i64 x.dst)
      replace h := h.far (p := ⟨g5, i * 6 + 2, none⟩) (hne _ (by simp; omega)) (.int .i64 x.fr)
      replace h := h.far (p := ⟨g5, i * 6 + 3, none⟩) (hne _ (by simp; omega)) (.slice A V.length c)
      replace h := h.far (p := ⟨g5, i * 6 + 4, none⟩) (hne _ (by simp; omega)) (.int .i64 x.right)
      replace h := h.far (p := ⟨g5, i * 6 + 5, none⟩) (hne _ (by simp; omega)) (.int .i64 x.left)
      replace h := h.far (p := ⟨w.heap.size, 1, none⟩) (hne _ (by simp; omega)) (.slice (some ⟨g5, 0, none⟩) bl.length c5)
      replace h := h.far (p := ⟨w.heap.size + 1, 0, none⟩) (hne _ (by simp; omega)) (.slice An p.nodes.length cn)
      replace h := h.far (p := ⟨w.heap.size + 1, 1, none⟩) (hne _ (by simp; omega)) (.slice (some ⟨g5, 0, none⟩) bl.length c5)
      replace h := h.far (p := ⟨w.heap.size + 1, 2, none⟩) (hne _ (by simp; omega)) (.slice Af p.faces.length cf)
      have hv := Own.sl h
      rw [List.drop_zero] at hv
      show Pts _ (.slice A V.length c) (revA x).via
      unfold revA Pts
      rw [HVV.out]
      rw [Nat.sub_zero] at hv
      exact hv
     ·
      rw [if_neg e]
      exact (HVk.out k hk).mono Bf
  case succ =>
   have hmV : m < V.length := by omega
   have hm1 : (((m + 1 : Nat) : Int) - 1) = (m : Int) := by omega
   rw [hm1]
   clear hm1
   have hR6 := HOa.out.sl
   obtain ⟨A5, C5, he5, -, -, hR6⟩ := hR6
   injection he5 with e1 e2 e3
   subst e1
   clear e2 e3
   obtain ⟨b, o, hbo, hlb, c0, c1, c2, c3, c4, c5'⟩ := hR6.as_ hib
   simp only [Option.some.injEq, Addr.mk.injEq, and_true] at hbo
   obtain ⟨rfl, rfl⟩ := hbo
   simp only [Nat.zero_add] at c0 c1 c2 c3 c4 c5'
   obtain ⟨e1, e2, e3⟩ := HSv.out
   rw [e1, e2, e3] at c3
   clear e1 e2 e3 hR6 c0 c1 c2 c4 c5'
   obtain ⟨bv, ov, rfl, hlv, d0', d1'⟩ := HsR.out.pt hmV
   have d0 := keepc HBw.out d0'
   have d1 := keepc HBw.out d1'
   have hlv6 : bv < g6 := by omega
   clear d0' d1'
   have X6 := Hx6.out
   try clear X6l
   try clear X6a
   try clear X6b
   try clear X6c
   try clear X6d
   try clear X6e
   try clear X6f
   obtain ⟨X6l, X6a, X6b, X6c, X6d, X6e, X6f, X6fa, X6fb, X6fc, X6fd, X6fe, X6ff⟩ := X6.facts6
   have q1 : 0 ≤ (m : Int) := by omega
   have q2 : (m : Int) < V.length := by omega
   have q3 : (m : Int).toNat = m := by omega
   have hnew := Lib.hid (show (V.drop (m + 1)).reverse ++ [V[m]] = (V.drop m).reverse by rw [← List.reverse_cons, List.drop_eq_getElem_cons hmV])
   have hlen := Lib.hid (show (V.drop (m + 1)).reverse.length = V.length - (m + 1) by simp)
   have hlen' := Lib.hid (show (V.drop m).reverse.length = V.length - m by simp)
   go_upto_region 7 with fail
   have hg6r : g6 < wr.heap.size := X6l
   refine rg_start (SinceB (g6) wr) (.take 0 1 (.run 8 2 1 (.two 1 1023 (.call 10 2047 (.call 11 4095 (.take 12 8191 (.call 13 16383 (.done))))) 10 2045 (.call 1 2047 (.call 11 4095 (.take 12 8191 (.call 13 16383 (.done)))))))) (by kernel_rfl) (Below.drew (Below.refl _ _)) (by kernel_rfl) (by kernel_rfl) (Nat.le_of_ble_eq_true (by kernel_rfl)) ?_
   intro opsR QR Hops HQrg hS
   iterate 9
    apply rg_pB; exact Hops; exact rfl; exact hS; exact rfl
    · intro _ hqc; go_simp; try rfl
    try simp only [pu]
   refine rg_two (i := 1) (j := 10) (get_of Hops rfl) (get_of Hops rfl) (fun K hK => ?_) (fun K hK => ?_)
   -- operation 1 first
   ·
    have HSrg := Lib.hid hS; clear hS
    refine rg_run (wanted_plain rfl) ?_
    go_simp
    refine hK.out _ _ HSrg.out (fun hS => ?_)
    clear hK K HSrg
    try simp only [pu]
    refine rg_call (i := 10) (get_of Hops rfl) (fun K hK => ?_)
    have HSrg := Lib.hid hS; clear hS
    refine rg_run (wanted_plain rfl) ?_
    go_simp
    refine hK.out _ _ (bAB (by omega) HSrg.out _) (fun hS => ?_)
    clear hK K HSrg
    try simp only [pu]
    refine rg_call (i := 11) (get_of Hops rfl) (fun K hK => ?_)
    have HSrg := Lib.hid hS; clear hS
    refine rg_run (wanted_plain rfl) ?_
    refine wp_appl (.tmp 41) (.tmp 50) _ rfl (base := g6 + 1) (l := (V.drop (m + 1)).reverse) (l2 := [V[m]]) elem_pt ptC_len ptC_one rfl (Own.alloc Ho6.out _) rfl (Pts.one (x := V[m]) (Blk.made rfl _ _)) (by have := hlen.out; simp only [List.length_cons, List.length_nil]; omega) (by have := hlen.out; simp only [List.length_cons, List.length_nil]; omega) (by simp; omega) ?_
    intro v9 wn hon hgn hatn
    rw [hnew.out] at hon
    obtain ⟨A9, c9, hv9, -⟩ := Own.sl hon
    rw [hlen'.out] at hv9
    subst hv9
    have X6n := Blk.grown (Blk.alloc (Blk.drew Hx6.out) _) hgn (fun e => by have := (Ho6.out.lt g6 e.symm).1; omega)
    obtain ⟨-, -, -, -, n3, -, -, -, -, -, nf3, -, -⟩ := X6n.facts6
    have HX6n := Lib.hid X6n
    have Hon := Lib.hid hon
    clear X6n hon
    have hS : SinceB g6 wr wn := Below.grown (Below.alloc (Below.drew (Below.refl _ _)) (by simp; omega) _) hgn (by simp; omega) (fun g hg => by have := (Ho6.out.lt g hg).1; omega)
    clear HSrg
    refine hK.out _ _ hS (fun _ => ?_)
    clear hK K
    try simp only [pu]
    apply rg_pB; exact Hops; exact rfl; exact hS; exact rfl
    · intro _ hqc; go_simp; try rfl
    try simp only [pu]
    refine rg_call (i := 13) (get_of Hops rfl) (fun K hK => ?_)
    have HSrg := Lib.hid hS; clear hS
    refine rg_run (wanted_plain rfl) ?_
    go_simp
    refine hK.out _ _ (by unfold SinceB; have h : Below _ _ _ := HSrg.out; repeat (first | with_reducible assumption | with_reducible exact Below.refl _ _ | with_reducible refine bSB ?_ (by first | omega | (simp; omega)) _ | with_reducible refine Below.drew ?_ | with_reducible refine bAB (by omega) ?_ _ | exact h)) ?_
    intro hS
    clear hK K HSrg
    try simp only [pu]
    refine rg_done ?_
    refine HQrg.down _ _ ?_
    have hB : Below (g6) wr _ := hS
    clear hS HQrg Hops
    go_wp2_with fail
    go_roundw
    case rel => exact ⟨m, A9, c9, by omega, rfl, by have h := Blk.set_ HX6n.out 3 (.slice A9 (V.length - m) c9); simpa using h, Hon.out.far (p := ⟨g6, 3, none⟩) (fun e => by have := (Hon.out.lt g6 e).1; omega) _, Hb.out.trans hB⟩
    case measure => simp [intOf]
   -- operation 10 first
   ·
    have HSrg := Lib.hid hS; clear hS
    refine rg_run (wanted_plain rfl) ?_
    go_simp
    refine hK.out _ _ (bAB (by omega) HSrg.out _) (fun hS => ?_)
    clear hK K HSrg
    try simp only [pu]
    refine rg_call (i := 1) (get_of Hops rfl) (fun K hK => ?_)
    have HSrg := Lib.hid hS; clear hS
    refine rg_run (wanted_plain rfl) ?_
    go_simp
    refine hK.out _ _ HSrg.out (fun hS => ?_)
    clear hK K HSrg
    try simp only [pu]
    refine rg_call (i := 11) (get_of Hops rfl) (fun K hK => ?_)
    have HSrg := Lib.hid hS; clear hS
    refine rg_run (wanted_plain rfl) ?_
    refine wp_appl (.tmp 41) (.tmp 50) _ rfl (base := g6 + 1) (l := (V.drop (m + 1)).reverse) (l2 := [V[m]]) elem_pt ptC_len ptC_one rfl (Own.alloc Ho6.out _) rfl (Pts.one (x := V[m]) (Blk.made rfl _ _)) (by have := hlen.out; simp only [List.length_cons, List.length_nil]; omega) (by have := hlen.out; simp only [List.length_cons, List.length_nil]; omega) (by simp; omega) ?_
    intro v9 wn hon hgn hatn
    rw [hnew.out] at hon
    obtain ⟨A9, c9, hv9, -⟩ := Own.sl hon
    rw [hlen'.out] at hv9
    subst hv9
    have X6n := Blk.grown (Blk.alloc (Blk.drew Hx6.out) _) hgn (fun e => by have := (Ho6.out.lt g6 e.symm).1; omega)
    obtain ⟨-, -, -, -, n3, -, -, -, -, -, nf3, -, -⟩ := X6n.facts6
    have HX6n := Lib.hid X6n
    have Hon := Lib.hid hon
    clear X6n hon
    have hS : SinceB g6 wr wn := Below.grown (Below.alloc (Below.drew (Below.refl _ _)) (by simp; omega) _) hgn (by simp; omega) (fun g hg => by have := (Ho6.out.lt g hg).1; omega)
    clear HSrg
    refine hK.out _ _ hS (fun _ => ?_)
    clear hK K
    try simp only [pu]
    apply rg_pB; exact Hops; exact rfl; exact hS; exact rfl
    · intro _ hqc; go_simp; try rfl
    try simp only [pu]
    refine rg_call (i := 13) (get_of Hops rfl) (fun K hK => ?_)
    have HSrg := Lib.hid hS; clear hS
    refine rg_run (wanted_plain rfl) ?_
    go_simp
    refine hK.out _ _ (by unfold SinceB; have h : Below _ _ _ := HSrg.out; repeat (first | with_reducible assumption | with_reducible exact Below.refl _ _ | with_reducible refine bSB ?_ (by first | omega | (simp; omega)) _ | with_reducible refine Below.drew ?_ | with_reducible refine bAB (by omega) ?_ _ | exact h)) ?_
    intro hS
    clear hK K HSrg
    try simp only [pu]
    refine rg_done ?_
    refine HQrg.down _ _ ?_
    have hB : Below (g6) wr _ := hS
    clear hS HQrg Hops
    go_wp2_with fail
    go_roundw
    case rel => exact ⟨m, A9, c9, by omega, rfl, by have h := Blk.set_ HX6n.out 3 (.slice A9 (V.length - m) c9); simpa using h, Hon.out.far (p := ⟨g6, 3, none⟩) (fun e => by have := (Hon.out.lt g6 e).1; omega) _, Hb.out.trans hB⟩
    case measure => simp [intOf]
end Go.Proofs.YtfondidmklmonaaGreat
