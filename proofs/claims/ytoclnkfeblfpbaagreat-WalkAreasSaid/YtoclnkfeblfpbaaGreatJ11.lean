/- Plain law: the darts of a plan, their order around a node, the dart that follows. No walk here. Plain law: the darts around a node, the dart that follows, the cycles of a plan. No walk here. slices.SortFunc at ints: any comparison that is an order on the list's elements. geom: near, twice, lower, Less (draws counted); mapsheetsref08: quarter, Less. -/
import Derived.Test.YtoclnkfeblfpbaaGreatJ10
import Derived.Test.YtoclnkfeblfpbaaGreatJ01
import Derived.Shelf.SlSortCmp.NoneTotal
import Derived.Test.YtoclnkfeblfpbaaGreatJ09
import Derived.Test.YtoclnkfeblfpbaaGreatLaySortIn
import Derived.Test.YtoclnkfeblfpbaaGreatJ04
import Derived.Test.YtoclnkfeblfpbaaGreatGB
set_option linter.unusedSimpArgs false
set_option linter.unusedVariables false
namespace Go.Proofs.YtoclnkfeblfpbaaGreat
open Go.RowKit

def absI (d : Int) : Int := if d < 0 then -d else d
def minI : Int := -9223372036854775808
/-- the arc of a dart -/
def arcD (p : Pl) (d : Int) : Option Ar := if d = 0 ∨ d = minI then none else findAr p.arcs (absI d)
def startD (p : Pl) (d : Int) : Int := match arcD p d with
 | none => 0
 | some a => if 0 < d then a.fr else a.dst
def sideD (p : Pl) (d : Int) : Int := match arcD p d with
 | none => 0
 | some a => if 0 < d then a.left else a.right
/-- the darts that begin at a node, in the order of the arcs -/
def dartL (l : List Ar) (n : Int) : List Int := l.flatMap fun a => (if a.fr = n then [a.id] else []) ++ (if a.dst = n then [-a.id] else [])
/-- the second point of a dart -/
def toD (p : Pl) (d : Int) : Pt := match findAr p.arcs (absI d) with
 | none => pt0
 | some a => if 0 < d then (pathS p a).getD 1 pt0 else (pathS p a).getD a.via.length pt0
/-- all darts, ascending -/
def dartsD (p : Pl) : List Int := (p.arcs.map (fun a => -a.id)).reverse ++ p.arcs.map (·.id)

section
variable {p : Pl} (h : Valid p)
include h
theorem Valid.id_pos {a : Ar} (ha : a ∈ p.arcs) : 1 ≤ a.id ∧ a.id ≤ 1073741824 := by
 have hr := h.rng
 unfold rangesS at hr
 rw [Bool.and_eq_true] at hr
 have h1 := hr.1
 rw [Bool.not_eq_true', List.any_eq_false] at h1
 have := h1 a.id (List.mem_append_left _ (List.mem_append_right _ (List.mem_map_of_mem ha)))
 unfold idBad at this
 simp only [Bool.or_eq_true, decide_eq_true_eq, not_or] at this
 omega
theorem Valid.nid_pos {n : Nd} (hn : n ∈ p.nodes) : 1 ≤ n.id ∧ n.id ≤ 1073741824 := by
 have hr := h.rng
 unfold rangesS at hr
 rw [Bool.and_eq_true] at hr
 have h1 := hr.1
 rw [Bool.not_eq_true', List.any_eq_false] at h1
 have := h1 n.id (List.mem_append_left _ (List.mem_append_left _ (List.mem_map_of_mem hn)))
 unfold idBad at this
 simp only [Bool.or_eq_true, decide_eq_true_eq, not_or] at this
 omega
theorem Valid.find {a : Ar} (ha : a ∈ p.arcs) : findAr p.arcs a.id = some a := find_uniq (fun x : Ar => x.id) p.arcs h.sound.arcs a ha
theorem Valid.arc_eq {a b : Ar} (ha : a ∈ p.arcs) (hb : b ∈ p.arcs) (e : a.id = b.id) : a = b := by
 have h1 := h.find ha
 rw [e, h.find hb] at h1
 exact (Option.some.inj h1).symm
theorem Valid.arcD_pos {a : Ar} (ha : a ∈ p.arcs) : arcD p a.id = some a := by
 have := h.id_pos ha
 unfold arcD absI minI
 rw [if_neg (by omega), if_neg (by omega), h.find ha]
theorem Valid.arcD_neg {a : Ar} (ha : a ∈ p.arcs) : arcD p (-a.id) = some a := by
 have := h.id_pos ha
 unfold arcD absI minI
 rw [if_neg (by omega), if_pos (by omega), Int.neg_neg, h.find ha]
theorem Valid.start_pos {a : Ar} (ha : a ∈ p.arcs) : startD p a.id = a.fr := by
 have := h.id_pos ha
 unfold startD
 rw [h.arcD_pos ha]
 show (if 0 < a.id then a.fr else a.dst) = a.fr
 rw [if_pos (by omega)]
theorem Valid.start_neg {a : Ar} (ha : a ∈ p.arcs) : startD p (-a.id) = a.dst := by
 have := h.id_pos ha
 unfold startD
 rw [h.arcD_neg ha]
 show (if 0 < -a.id then a.fr else a.dst) = a.dst
 rw [if_neg (by omega)]
theorem Valid.to_pos {a : Ar} (ha : a ∈ p.arcs) : toD p a.id = (pathS p a).getD 1 pt0 := by
 have := h.id_pos ha
 unfold toD absI
 rw [if_neg (by omega), h.find ha]
 show (if 0 < a.id then _ else _) = _
 rw [if_pos (by omega)]
theorem Valid.to_neg {a : Ar} (ha : a ∈ p.arcs) : toD p (-a.id) = (pathS p a).getD a.via.length pt0 := by
 have := h.id_pos ha
 unfold toD absI
 rw [if_pos (by omega), Int.neg_neg, h.find ha]
 show (if 0 < -a.id then _ else _) = _
 rw [if_neg (by omega)]
end
theorem mem_dartL {l : List Ar} {n d : Int} : d ∈ dartL l n ↔ ∃ a ∈ l, (d = a.id ∧ a.fr = n) ∨ (d = -a.id ∧ a.dst = n) := by
 unfold dartL
 rw [List.mem_flatMap]
 refine exists_congr fun a => and_congr_right fun _ => ?_
 rw [List.mem_append]
 constructor
 ·
  rintro (h | h)
  ·
   split at h
   · rw [List.mem_singleton] at h; exact .inl ⟨h, by assumption⟩
   · cases h
  ·
   split at h
   · rw [List.mem_singleton] at h; exact .inr ⟨h, by assumption⟩
   · cases h
 ·
  rintro (⟨h1, h2⟩ | ⟨h1, h2⟩)
  · left; rw [if_pos h2, h1]; exact List.mem_singleton.2 rfl
  · right; rw [if_pos h2, h1]; exact List.mem_singleton.2 rfl
theorem mem_dartsD {p : Pl} {d : Int} : d ∈ dartsD p ↔ ∃ a ∈ p.arcs, d = a.id ∨ d = -a.id := by
 unfold dartsD
 rw [List.mem_append, List.mem_reverse, List.mem_map, List.mem_map]
 constructor
 ·
  rintro (⟨a, ha, rfl⟩ | ⟨a, ha, rfl⟩)
  · exact ⟨a, ha, .inr rfl⟩
  · exact ⟨a, ha, .inl rfl⟩
 ·
  rintro ⟨a, ha, rfl | rfl⟩
  · exact .inr ⟨a, ha, rfl⟩
  · exact .inl ⟨a, ha, rfl⟩
section
variable {p : Pl} (h : Valid p)
include h
/-- the segment with which a dart begins at a node -/
theorem Valid.dart_seg {n : Nd} (hn : n ∈ p.nodes) {d : Int} (hd : d ∈ dartL p.arcs n.id) : ∃ a ∈ p.arcs, ∃ k, k + 1 < (pathS p a).length ∧
  ((d = a.id ∧ k = 0 ∧ a.fr = n.id ∧ (pathS p a).getD k pt0 = n.pt ∧ (pathS p a).getD (k + 1) pt0 = toD p d) ∨ (d = -a.id ∧ k = a.via.length ∧ a.dst = n.id ∧ (pathS p a).getD (k + 1) pt0 = n.pt ∧ (pathS p a).getD k pt0 = toD p d)) := by
 obtain ⟨a, ha, h1⟩ := mem_dartL.1 hd
 have hl := pathS_length p a
 rcases h1 with ⟨rfl, h2⟩ | ⟨rfl, h2⟩
 ·
  refine ⟨a, ha, 0, by omega, .inl ⟨rfl, rfl, h2, ?_, (h.to_pos ha).symm⟩⟩
  rw [path_0, h2]; exact h.sound.node_eq hn
 ·
  refine ⟨a, ha, a.via.length, by omega, .inr ⟨rfl, rfl, h2, ?_, (h.to_neg ha).symm⟩⟩
  have : (pathS p a).getD (a.via.length + 1) pt0 = nodeAt p a.dst := by
   unfold pathS
   rw [List.getD_cons_succ, List.getD_eq_getElem?_getD, List.getElem?_append_right (by omega)]
   simp
  rw [this, h2]; exact h.sound.node_eq hn
theorem Valid.to_facts {n : Nd} (hn : n ∈ p.nodes) {d : Int} (hd : d ∈ dartL p.arcs n.id) : near1 n.pt = true ∧ near1 (toD p d) = true ∧ toD p d ≠ n.pt := by
 obtain ⟨a, ha, k, hk, h1⟩ := h.dart_seg hn hd
 have n1 := h.pt_near ha (k := k) (by omega)
 have n2 := h.pt_near ha (k := k + 1) hk
 have hne := (h.distinct ha hk).1
 rcases h1 with ⟨-, -, -, e1, e2⟩ | ⟨-, -, -, e1, e2⟩
 · rw [e1] at n1 hne; rw [e2] at n2 hne; exact ⟨n1, n2, hne.symm⟩
 · rw [e1] at n2 hne; rw [e2] at n1 hne; exact ⟨n2, n1, hne⟩
/-- different darts at a node leave in different directions -/
theorem Valid.dirs {n : Nd} (hn : n ∈ p.nodes) {d1 d2 : Int} (h1 : d1 ∈ dartL p.arcs n.id) (h2 : d2 ∈ dartL p.arcs n.id) (hne : d1 ≠ d2) : dirLt n.pt (toD p d1) (toD p d2) ∨ dirLt n.pt (toD p d2) (toD p d1) := by
 by_cases c1 : dirLt n.pt (toD p d1) (toD p d2)
 · exact .inl c1
 by_cases c2 : dirLt n.pt (toD p d2) (toD p d1)
 · exact .inr c2
 exfalso
 have key : ∀ {e1 e2 : Int}, e1 ∈ dartL p.arcs n.id → e2 ∈ dartL p.arcs n.id → ¬ dirLt n.pt (toD p e1) (toD p e2) → ¬ dirLt n.pt (toD p e2) (toD p e1) → ∀ {a b : Ar} {k m : Nat}, 
   ((pathS p a).getD k pt0 = n.pt ∧ (pathS p a).getD (k + 1) pt0 = toD p e1 ∨ (pathS p a).getD (k + 1) pt0 = n.pt ∧ (pathS p a).getD k pt0 = toD p e1) →
   ((pathS p b).getD m pt0 = n.pt ∧ (pathS p b).getD (m + 1) pt0 = toD p e2 ∨ (pathS p b).getD (m + 1) pt0 = n.pt ∧ (pathS p b).getD m pt0 = toD p e2) →
   rmeetS (segK p a k).a (segK p a k).b (segK p b m).a (segK p b m).b = 2 := by
  intro e1 e2 m1 m2 q1 q2 a b k m s1 s2
  obtain ⟨n0, n1, x1⟩ := h.to_facts hn m1
  obtain ⟨-, n2, x2⟩ := h.to_facts hn m2
  obtain ⟨r1, r2, r3, r4⟩ := meet_dir n0 n1 n2 x1 x2 q1 q2
  unfold segK
  rcases s1 with ⟨u1, u2⟩ | ⟨u1, u2⟩ <;> rcases s2 with ⟨v1, v2⟩ | ⟨v1, v2⟩ <;> simp only [u1, u2, v1, v2]
  · exact r1
  · exact r3
  · exact r2
  · exact r4
 obtain ⟨a, ha, k, hk, s1⟩ := h.dart_seg hn h1
 obtain ⟨b, hb, m, hm, s2⟩ := h.dart_seg hn h2
 have t1 : (pathS p a).getD k pt0 = n.pt ∧ (pathS p a).getD (k + 1) pt0 = toD p d1 ∨ (pathS p a).getD (k + 1) pt0 = n.pt ∧ (pathS p a).getD k pt0 = toD p d1 := by
  rcases s1 with ⟨-, -, -, e1, e2⟩ | ⟨-, -, -, e1, e2⟩
  · exact .inl ⟨e1, e2⟩
  · exact .inr ⟨e1, e2⟩
 have t2 : (pathS p b).getD m pt0 = n.pt ∧ (pathS p b).getD (m + 1) pt0 = toD p d2 ∨ (pathS p b).getD (m + 1) pt0 = n.pt ∧ (pathS p b).getD m pt0 = toD p d2 := by
  rcases s2 with ⟨-, -, -, e1, e2⟩ | ⟨-, -, -, e1, e2⟩
  · exact .inl ⟨e1, e2⟩
  · exact .inr ⟨e1, e2⟩
 have r12 := key h1 h2 c1 c2 t1 t2
 have r21 := key h2 h1 c2 c1 t2 t1
 by_cases hab : a = b
 ·
  subst hab
  have hl := pathS_length p a
  have same : ∀ {d3 d4 : Int} {i j : Nat}, d3 ≠ d4 → ((d3 = a.id ∧ i = 0 ∧ a.fr = n.id) ∨ (d3 = -a.id ∧ i = a.via.length ∧ a.dst = n.id)) → ((d4 = a.id ∧ j = 0 ∧ a.fr = n.id) ∨ (d4 = -a.id ∧ j = a.via.length ∧ a.dst = n.id)) → rmeetS (segK p a i).a (segK p a i).b (segK p a j).a (segK p a j).b = 2 → i < j → False := by
   intro d3 d4 i j hne z1 z2 z3 z4
   rcases z1 with ⟨y1, y2, y3⟩ | ⟨y1, y2, y3⟩
   ·
    rcases z2 with ⟨x1, x2, x3⟩ | ⟨x1, x2, x3⟩
    · omega
    ·
     have h4 := (h.distinct ha (k := i) (by omega)).2 (y3.trans x3.symm)
     have hap := h.segs.2.1 a ha i j z4 (by omega)
     unfold apartS at hap
     rw [z3] at hap
     split at hap
     · simp at hap
     · simp at hap
   ·
    rcases z2 with ⟨x1, x2, x3⟩ | ⟨x1, x2, x3⟩
    · omega
    · omega
  have q1 : (d1 = a.id ∧ k = 0 ∧ a.fr = n.id) ∨ (d1 = -a.id ∧ k = a.via.length ∧ a.dst = n.id) := by
   rcases s1 with ⟨y1, y2, y3, -⟩ | ⟨y1, y2, y3, -⟩
   · exact .inl ⟨y1, y2, y3⟩
   · exact .inr ⟨y1, y2, y3⟩
  have q2 : (d2 = a.id ∧ m = 0 ∧ a.fr = n.id) ∨ (d2 = -a.id ∧ m = a.via.length ∧ a.dst = n.id) := by
   rcases s2 with ⟨y1, y2, y3, -⟩ | ⟨y1, y2, y3, -⟩
   · exact .inl ⟨y1, y2, y3⟩
   · exact .inr ⟨y1, y2, y3⟩
  rcases Nat.lt_trichotomy k m with hkm | hkm | hkm
  · exact same hne q1 q2 r12 hkm
  ·
   subst hkm
   -- one segment for both: its ends are the node and the dart's point
   have hd4 := h.distinct ha hk
   rcases q1 with ⟨y1, y2, y3⟩ | ⟨y1, y2, y3⟩
   ·
    rcases q2 with ⟨x1, x2, x3⟩ | ⟨x1, x2, x3⟩
    · exact hne (y1.trans x1.symm)
    · have := hd4.2 (y3.trans x3.symm); omega
   ·
    rcases q2 with ⟨x1, x2, x3⟩ | ⟨x1, x2, x3⟩
    · have := hd4.2 (x3.trans y3.symm); omega
    · exact hne (y1.trans x1.symm)
  · exact same (fun e => hne e.symm) q2 q1 r21 hkm
 ·
  have hp := h.segs.2.2
  obtain ⟨i, hi, rfl⟩ := List.mem_iff_getElem.1 ha
  obtain ⟨j, hj, rfl⟩ := List.mem_iff_getElem.1 hb
  rw [List.pairwise_iff_getElem] at hp
  have no2 : ∀ {s t : Sg}, joinedS p s t = true → rmeetS s.a s.b t.a t.b = 2 → False := by
   intro s t hj2 h2
   unfold joinedS at hj2
   rw [h2] at hj2
   simp at hj2
  rcases Nat.lt_trichotomy i j with hij | hij | hij
  · exact no2 (hp i j hi hj hij k hk m hm) r12
  · subst hij; exact hab rfl
  · exact no2 (hp j i hj hi hij m hm k hk) r21
end
end Go.Proofs.YtoclnkfeblfpbaaGreat
namespace Go.Proofs.YtoclnkfeblfpbaaGreat
open Go.RowKit

def insB (lt : Int → Int → Bool) (l : List Int) (c : Int) : List Int := l.takeWhile (fun x => !lt c x) ++ c :: l.dropWhile (fun x => !lt c x)
def sortB (lt : Int → Int → Bool) (l : List Int) : List Int := l.foldl (insB lt) []
theorem insB_perm (lt : Int → Int → Bool) (l : List Int) (c : Int) : (insB lt l c).Perm (c :: l) := by
 unfold insB
 refine List.perm_middle.trans ?_
 rw [List.takeWhile_append_dropWhile]
/-- an order on the elements of a list -/
structure OrdOn (lt : Int → Int → Bool) (D : List Int) : Prop where
 asym : ∀ x ∈ D, ∀ y ∈ D, lt x y = true → lt y x = false
 ntr : ∀ x ∈ D, ∀ y ∈ D, ∀ z ∈ D, lt x y = false → lt y z = false → lt x z = false
 tri : ∀ x ∈ D, ∀ y ∈ D, lt x y = false → lt y x = false → x = y
theorem insB_sorted {lt : Int → Int → Bool} {D : List Int} (ho : OrdOn lt D) {l : List Int} (h : l.Pairwise (fun a b => lt b a = false)) (hl : ∀ x ∈ l, x ∈ D) {c : Int} (hc : c ∈ D) : (insB lt l c).Pairwise (fun a b => lt b a = false) := by
 induction l with
 | nil => simp [insB]
 | cons a l ih =>
  have h' := List.pairwise_cons.1 h
  have ha := hl a List.mem_cons_self
  unfold insB
  cases hca : lt c a
  ·
   have e1 : (a :: l).takeWhile (fun x => !lt c x) = a :: l.takeWhile (fun x => !lt c x) := by rw [List.takeWhile_cons]; simp [hca]
   have e2 : (a :: l).dropWhile (fun x => !lt c x) = l.dropWhile (fun x => !lt c x) := by rw [List.dropWhile_cons]; simp [hca]
   rw [e1, e2]
   show List.Pairwise _ (a :: insB lt l c)
   refine List.pairwise_cons.2 ⟨fun x hx => ?_, ih h'.2 (fun x hx => hl x (List.mem_cons_of_mem _ hx))⟩
   rcases List.mem_cons.1 ((insB_perm lt l c).subset hx) with rfl | hx
   · exact hca
   · exact h'.1 x hx
  ·
   have e1 : (a :: l).takeWhile (fun x => !lt c x) = [] := by rw [List.takeWhile_cons]; simp [hca]
   have e2 : (a :: l).dropWhile (fun x => !lt c x) = a :: l := by rw [List.dropWhile_cons]; simp [hca]
   rw [e1, e2, List.nil_append]
   refine List.pairwise_cons.2 ⟨fun x hx => ?_, h⟩
   have h1 := ho.asym c hc a ha hca
   rcases List.mem_cons.1 hx with rfl | hx'
   · exact h1
   · exact ho.ntr x (hl x hx) a ha c hc (h'.1 x hx') h1
theorem sortB_fold {lt : Int → Int → Bool} {D : List Int} (ho : OrdOn lt D) : ∀ (l acc : List Int), acc.Pairwise (fun a b => lt b a = false) → (∀ x ∈ l, x ∈ D) → (∀ x ∈ acc, x ∈ D) → (l.foldl (insB lt) acc).Perm (acc ++ l) ∧ (l.foldl (insB lt) acc).Pairwise (fun a b => lt b a = false)
 | [], acc, h, _, _ => by simpa using h
 | c :: l, acc, h, hl, ha => by
  have hc := hl c List.mem_cons_self
  have := sortB_fold ho l (insB lt acc c) (insB_sorted ho h ha hc) (fun x hx => hl x (List.mem_cons_of_mem _ hx)) (fun x hx => by
   rcases List.mem_cons.1 ((insB_perm lt acc c).subset hx) with rfl | hx
   · exact hc
   · exact ha x hx)
  refine ⟨this.1.trans ?_, this.2⟩
  refine ((insB_perm lt acc c).append_right l).trans ?_
  rw [List.cons_append]
  exact List.perm_middle.symm
theorem sortB_facts {lt : Int → Int → Bool} {D : List Int} (ho : OrdOn lt D) : (sortB lt D).Perm D ∧ (sortB lt D).Pairwise (fun a b => lt b a = false) := by
 have := sortB_fold ho D [] List.Pairwise.nil (fun x hx => hx) (fun x hx => by cases hx)
 simpa [sortB] using this
theorem sortB_of {lt : Int → Int → Bool} {D m : List Int} (ho : OrdOn lt D) (hp : m.Perm D) (hs : m.Pairwise (fun a b => lt b a = false)) : m = sortB lt D := by
 obtain ⟨h1, h2⟩ := sortB_facts ho
 exact sorted_uniq (hp.trans h1.symm) hs h2 (fun a ha b hb => ho.tri a (hp.subset ha) b (hp.subset hb))

/-- the darts that begin at a node, counterclockwise -/
def ltD (p : Pl) (o : Pt) (d e : Int) : Bool := lessS o (toD p d) (toD p e)
def aroundD (p : Pl) (n : Int) : List Int := match findNd p.nodes n with
 | none => []
 | some x => sortB (ltD p x.pt) (dartL p.arcs n)
/-- the element before another one, cyclically -/
def precD (l : List Int) (d : Int) : Int := match l.findIdx? (fun x => x == d) with
 | none => 0
 | some i => l.getD ((i + l.length - 1) % l.length) 0
def nextD (p : Pl) (d : Int) : Int := if (arcD p d).isSome then precD (aroundD p (startD p (-d))) (-d) else 0
/-- the cycles -/
def cyclesD (p : Pl) : List (List Int) := cycL (nextD p) (dartsD p) (dartsD p)

section
variable {p : Pl} (h : Valid p)
include h
theorem Valid.ordOn {n : Nd} (hn : n ∈ p.nodes) : OrdOn (ltD p n.pt) (dartL p.arcs n.id) := by
 have key : ∀ d ∈ dartL p.arcs n.id, ∀ e ∈ dartL p.arcs n.id, (ltD p n.pt d e = true ↔ dirLt n.pt (toD p d) (toD p e)) := fun d hd e he => by
  obtain ⟨n0, n1, x1⟩ := h.to_facts hn hd
  obtain ⟨-, n2, x2⟩ := h.to_facts hn he
  unfold ltD
  rw [less_iff]
  exact ⟨fun h => h.2.2.2, fun h => ⟨by simp [nears, n0, n1, n2], x1, x2, h⟩⟩
 have keyf : ∀ d ∈ dartL p.arcs n.id, ∀ e ∈ dartL p.arcs n.id, (ltD p n.pt d e = false ↔ ¬ dirLt n.pt (toD p d) (toD p e)) := fun d hd e he => by
  rw [← key d hd e he, Bool.not_eq_true]
 have nz : ∀ d ∈ dartL p.arcs n.id, ¬ ((toD p d).x - n.pt.x = 0 ∧ (toD p d).y - n.pt.y = 0) := fun d hd => ne_vec.1 (h.to_facts hn hd).2.2
 refine ⟨fun x hx y hy h1 => ?_, fun x hx y hy z hz h1 h2 => ?_, fun x hx y hy h1 h2 => ?_⟩
 ·
  rw [keyf y hy x hx]
  rw [key x hx y hy] at h1
  exact fun h2 => ltV_irr _ _ (ltV_trans (nz x hx) (nz y hy) (nz x hx) h1 h2)
 ·
  rw [keyf x hx y hy] at h1
  rw [keyf y hy z hz] at h2
  rw [keyf x hx z hz]
  exact ltV_ntrans (nz x hx) (nz y hy) (nz z hz) h1 h2
 ·
  rw [keyf x hx y hy] at h1
  rw [keyf y hy x hx] at h2
  rcases Decidable.em (x = y) with e | e
  · exact e
  ·
   rcases h.dirs hn hx hy e with h3 | h3
   · exact absurd h3 h1
   · exact absurd h3 h2
theorem Valid.findNode {n : Nd} (hn : n ∈ p.nodes) : findNd p.nodes n.id = some n := find_uniq (fun x : Nd => x.id) p.nodes h.sound.nodes n hn
theorem Valid.around_eq {n : Nd} (hn : n ∈ p.nodes) : aroundD p n.id = sortB (ltD p n.pt) (dartL p.arcs n.id) := by
 unfold aroundD
 rw [h.findNode hn]
theorem Valid.around_perm {n : Nd} (hn : n ∈ p.nodes) : (aroundD p n.id).Perm (dartL p.arcs n.id) := by
 rw [h.around_eq hn]; exact (sortB_facts (h.ordOn hn)).1
theorem Valid.dartL_nodup {n : Int} : (dartL p.arcs n).Nodup := by
 have hs := h.sound.arcs
 rw [List.pairwise_map] at hs
 have hpos : ∀ a ∈ p.arcs, 1 ≤ a.id := fun a ha => (h.id_pos ha).1
 unfold dartL List.Nodup
 rw [List.pairwise_flatMap]
 refine ⟨fun a ha => ?_, ?_⟩
 ·
  have := hpos a ha
  split <;> split <;> simp <;> omega
 ·
  have hs2 : p.arcs.Pairwise (fun a b => 1 ≤ a.id ∧ 1 ≤ b.id ∧ a.id < b.id) := by
   rw [List.pairwise_iff_getElem] at hs ⊢
   exact fun i j hi hj hij => ⟨hpos _ (List.getElem_mem hi), hpos _ (List.getElem_mem hj), hs i j hi hj hij⟩
  refine hs2.imp ?_
  rintro a b ⟨h1, h2, h3⟩ x hx y hy
  have hx' : x = a.id ∨ x = -a.id := by
   rcases List.mem_append.1 hx with hx | hx
   ·
    split at hx
    · exact .inl (List.mem_singleton.1 hx)
    · cases hx
   ·
    split at hx
    · exact .inr (List.mem_singleton.1 hx)
    · cases hx
  have hy' : y = b.id ∨ y = -b.id := by
   rcases List.mem_append.1 hy with hy | hy
   ·
    split at hy
    · exact .inl (List.mem_singleton.1 hy)
    · cases hy
   ·
    split at hy
    · exact .inr (List.mem_singleton.1 hy)
    · cases hy
  omega
theorem Valid.darts_sorted : (dartsD p).Pairwise (· < ·) := by
 have hs := h.sound.arcs
 have hpos : ∀ a ∈ p.arcs, 1 ≤ a.id := fun a ha => (h.id_pos ha).1
 unfold dartsD
 rw [List.pairwise_append]
 refine ⟨?_, hs, fun x hx y hy => ?_⟩
 ·
  rw [List.pairwise_reverse, List.pairwise_map]
  rw [List.pairwise_map] at hs
  exact hs.imp (fun h => by omega)
 ·
  rw [List.mem_reverse, List.mem_map] at hx
  obtain ⟨a, ha, rfl⟩ := hx
  obtain ⟨b, hb, rfl⟩ := List.mem_map.1 hy
  have := hpos a ha; have := hpos b hb
  omega
end
end Go.Proofs.YtoclnkfeblfpbaaGreat
namespace Go.Proofs.YtoclnkfeblfpbaaGreat
open Go.RowKit Go.Sort

def cmpOf (lt : Int → Int → Bool) (x y : Int) : Int := if lt x y then -1 else if lt y x then 1 else 0
section
variable {α : Type} [Inhabited α] (enc : α → Value) (w : World)
theorem sortW_heap (blk off m : Nat) (dk : Array α) (os : Array Obj) : (sortWorld enc w blk off m dk os).heap = w.heap.modify blk (onCells (putCells enc off dk)) ++ os := rfl
theorem sortW_grown (blk off m : Nat) (dk : Array α) (os : Array Obj) : w.grownBy (sortWorld enc w blk off m dk os) (some blk) := by
 refine ⟨rfl, rfl, rfl, ?_, fun i hi hne => ?_⟩
 · rw [sortW_heap]; simp
 ·
  have hne' : blk ≠ i := fun e => hne (by rw [e])
  rw [sortW_heap, Array.getElem?_append_left (by simpa using hi), Array.getElem?_modify, if_neg hne']
end
def ltE (lt : Int → Int → Bool) (D : List Int) (x y : {x : Int // x ∈ D}) : Int := cmpOf lt x.1 y.1
theorem lt_ltE {lt : Int → Int → Bool} {D : List Int} (x y : {x : Int // x ∈ D}) : ltOf (ltE lt D) x y = lt x.1 y.1 := by
 unfold ltOf ltE cmpOf
 cases h1 : lt x.1 y.1
 · cases h2 : lt y.1 x.1 <;> simp
 · simp
theorem swo_el {lt : Int → Int → Bool} {D : List Int} (ho : OrdOn lt D) : SWO (ltOf (ltE lt D)) where
 irrefl x := by
  rw [lt_ltE]
  cases h : lt x.1 x.1
  · rfl
  · have := ho.asym _ x.2 _ x.2 h; rw [h] at this; cases this
 trans x y z h1 h2 := by
  rw [lt_ltE] at *
  cases h : lt x.1 z.1
  ·
   have h3 := ho.asym _ y.2 _ z.2 h2
   have := ho.ntr _ x.2 _ z.2 _ y.2 h h3
   rw [h1] at this; cases this
  · rfl
 ntrans x y z h1 h2 := by
  rw [lt_ltE] at *
  exact ho.ntr _ x.2 _ y.2 _ z.2 h1 h2
set_option maxHeartbeats 1000000 in
theorem Sort_in_spec (base : Nat) (v : Value) (sl : List Int) (lt : Int → Int → Bool) (fn : Nat) (cb : Array Value) (w : World) (hown : Own w base 3 1 inC v sl) (ho : OrdOn lt sl) (hn : sl.length ≤ 4294967296)
  (eg : ∀ args w, (callFunc fn args).run Tryz.prog w = .ok (.enter fn args) w)
  (hc : ∀ W, w.grownBy W v.ownBlock → ∀ x ∈ sl, ∀ y ∈ sl, Calls Tryz.prog fn (#[.int .i64 x, .int .i64 y] ++ cb) W fun e w' => e = .returned (.int .i64 (cmpOf lt x y)) ∧ BelowD W w') :
  Calls Tryz.prog 48 #[v, .func (.func fn) #[] cb] w (RetSortIn w base v (sortB lt sl)) := by
 rcases sl with _ | ⟨s0, rest⟩
 ·
  have hv : ∃ p cap, v = .slice p 0 cap := by
   rcases hown.2 with ⟨h, _⟩ | ⟨g, cap, cur, h, _⟩
   · exact ⟨_, _, h⟩
   · exact ⟨_, _, h⟩
  obtain ⟨p, cap, rfl⟩ := hv
  refine Calls.mono (AnyF.slices_SortFunc_none { Tryz.sortIn with } p cap (.func (.func fn) #[] cb) w) ?_
  rintro e w' ⟨rfl, rfl⟩
  exact ⟨rfl, hown, World.grownBy.refl _ _⟩
 generalize hsl : s0 :: rest = sl at *
 have hs0 : s0 ∈ sl := by rw [← hsl]; simp
 have hpos : 0 < sl.length := by rw [← hsl]; simp
 obtain ⟨hlen, hown2⟩ := hown
 rcases hown2 with ⟨_, h0⟩ | ⟨g, cap, cur, rfl, hg, hh, hnc, hcm, hcs, hx⟩
 · omega
 haveI hI : Inhabited ({x : Int // x ∈ sl}) := ⟨⟨s0, hs0⟩⟩
 have hdl : ∃ dl : List ({x : Int // x ∈ sl}), dl.map (·.1) = sl := ⟨sl.attachWith (· ∈ sl) (fun _ h => h), by simp⟩
 obtain ⟨dl, hdl⟩ := hdl
 have hdn : dl.length = sl.length := by have := congrArg List.length hdl; simpa using this
 have hcur : ∀ j, j < sl.length → cur[j]? = (sl[j]?).map (.int .i64 ·) := fun j hj => by
  rw [← flat_in, ← hx, List.getElem?_take, if_pos (by omega)]; simp
 let enc : {x : Int // x ∈ sl} → Value := fun x => .int .i64 x.1
 have hcmp : CmpLays1 Tryz.prog fn cb enc (ltE lt sl) g 0 dl.toArray.size w := fun m os dk hdk x y => by
  have hg' := sortW_grown enc w g 0 m dk os
  exact (hc _ hg' x.1 x.2 y.1 y.2).mono fun e w' h => ⟨h.1, belowD_grow h.2⟩
 have hget : ∀ j, j < dl.length → sl[j]? = some (dl.toArray[j]!).1 := fun j hj => by
  have e1 : dl.toArray[j]! = dl[j] := by rw [getElem!_pos dl.toArray j (by simpa using hj)]; simp
  rw [e1]
  have : sl[j]? = (dl.map (·.1))[j]? := by rw [hdl]
  rw [this, List.getElem?_map, List.getElem?_eq_getElem hj]; rfl
 have hH : Holds enc w g 0 dl.toArray := fun j hj => by
  have hj' : j < dl.length := by simpa using hj
  refine ⟨?_, Blk.frozen (t := 3) (cs := cur) hh _⟩
  rw [cell_of_row w g _ cur 3 (0, 0) hh, Nat.zero_add, hcur j (by omega), hget j hj']
  rfl
 have hcon := Any.slices_SortFunc Tryz.sortIn enc (fun _ => rfl) (ltE lt sl) (swo_el ho) fn cb g 0 cap dl.toArray w eg hcmp hH (Blk.lt hh) (by simp; omega)
 have hns : dl.toArray.size = sl.length := by simp [hdn]
 rw [hns] at hcon
 refine Calls.mono hcon ?_
 rintro e w' ⟨rfl, d', n, os, hp, hs, rfl⟩
 obtain ⟨p1, -, p3⟩ := hp
 have hd' : d'.size = sl.length := by rw [p1, hns]
 have hperm : d'.toList.Perm dl := by
  have e1 : d'.extract 0 sl.length = d' := by rw [← hd']; simp
  have e2 : dl.toArray.extract 0 sl.length = dl.toArray := by rw [← hns]; simp
  rw [e1, e2] at p3
  simpa using p3
 have hperm2 : (d'.toList.map (·.1)).Perm sl := by
  have h1 : (d'.toList.map (·.1)).Perm (dl.map (·.1)) := hperm.map _
  exact h1.trans (List.Perm.of_eq hdl)
 have hsorted : (d'.toList.map (·.1)).Pairwise (fun a b => lt b a = false) := by
  rw [List.pairwise_map, List.pairwise_iff_getElem]
  intro i j hi hj hij
  have hj' : j < d'.size := by simpa using hj
  have := hs i j (Nat.zero_le _) hij (by rw [← hd']; exact hj')
  rw [lt_ltE, getElem!_pos d' j hj', getElem!_pos d' i (by omega)] at this
  simpa using this
 have hd2 : d'.toList.map (·.1) = sortB lt sl := sortB_of ho hperm2 hsorted
 refine ⟨rfl, ?_, sortW_grown enc w g 0 n d' os⟩
 rw [← hd2]
 have hl' : (d'.toList.map (·.1)).length = sl.length := by simp [hd']
 unfold Own
 rw [hl']
 refine ⟨by rw [flat_in_len, hl']; omega, .inr ⟨g, cap, putCells enc 0 d' cur, rfl, hg, ?_, hnc, hcm, by simp [putCells, hcs], ?_⟩⟩
 ·
  have hgl : g < w.heap.size := Blk.lt hh
  rw [sortW_heap, Array.getElem?_append_left (by simpa using hgl), Array.getElem?_modify, if_pos rfl, hh]
  rfl
 ·
  apply List.ext_getElem?
  intro j
  rw [List.getElem?_take]
  by_cases hj : j < sl.length * 1
  ·
   rw [if_pos hj]
   have hjc : j < cur.size := by rw [hcs]; omega
   have hjd : j < d'.size := by rw [hd']; omega
   rw [flat_in, List.getElem?_map]
   have e1 : (putCells enc 0 d' cur).toList[j]? = some (enc d'[j]!) := by
    simp [putCells, hjc, hjd]
   rw [e1, getElem!_pos d' j hjd, Array.getElem?_toList, Array.getElem?_eq_getElem hjd]
   rfl
  · rw [if_neg hj, List.getElem?_eq_none (by rw [flat_in_len, hl']; omega)]
end Go.Proofs.YtoclnkfeblfpbaaGreat
namespace Go.Proofs.YtoclnkfeblfpbaaGreat
open Go.RowKit

set_option maxHeartbeats 400000 in
theorem near_specD (v : Value) (l : List Pt) (w : World) (h : Pts w v l) :
  Calls Tryz.prog 74 #[v] w fun e w' => e = .returned (.bool (nears l)) ∧ BelowD w w' := by
 obtain ⟨A, c, rfl, hn, hc, hR⟩ := h
 unfold maxLen at hc
 go_enter Tryz.func74, Tryz.ntmps74
 go_wp2_with fail
 go_loopw [7] (fun i wr => ∃ k : Nat, k ≤ l.length ∧ i = .int .i64 k ∧ BelowD w wr ∧ ∀ j (hj : j < l.length), j < k → near1 l[j] = true) (fun i _ => l.length - (intOf i).toNat)
 case atStart => exact ⟨0, Nat.zero_le _, rfl, ⟨Below.refl _ _, dR w⟩, fun j _ h => by omega⟩
 case round =>
  obtain ⟨k, hk, rfl, hb, hno⟩ := hrel
  have Hb := Lib.hid hb.1
  have Hd := Lib.hid hb.2
  have Hno := Lib.hid hno
  have hs := hb.1.size
  clear hb hno
  by_cases hlt : k < l.length
  ·
   obtain ⟨b, o, rfl, hlb, c0, c1⟩ := (hR.mono Hb.out).pt hlt
   have HR := Lib.hid hR; clear hR
   by_cases hnr : near1 l[k] = true
   ·
    have Hn := Lib.hid hnr
    obtain ⟨n1, n2, n3, n4⟩ := (near1_iff _).1 hnr
    clear hnr
    go_wp2
    go_roundw
    case rel => exact ⟨k + 1, by omega, by go_num, ⟨Hb.out.alloc hs _, dA Hd.out _⟩, all_succ (p := fun x => near1 x = true) Hno.out hlt Hn.out⟩
    case measure => simp [intOf]; omega
   ·
    have hn' : near1 l[k] = false := by simpa using hnr
    have Hf := Lib.hid (nears_hit l k hlt hn')
    clear hn'
    have Hnr := Lib.hid hnr; clear hnr
    go_wp2
    all_goals first
     | (go_ret; exact ⟨ret_bool Hf.out.symm, Hb.out.alloc hs _, dA Hd.out _⟩)
     | (exfalso; exact Hnr.out ((near1_iff _).2 ⟨by omega, by omega, by omega, by omega⟩))
  ·
   go_wp2
   go_ret
   exact ⟨ret_bool (nears_all l fun j hj => Hno.out j hj (by omega)).symm, Hb.out, Hd.out⟩
set_option maxHeartbeats 400000 in
theorem twice_specD (a b c : Pt) (w : World) (ha : lim a) (hb : lim b) (hc : lim c) :
  Calls Tryz.prog 76 #[ptV a, ptV b, ptV c] w fun e w' => e = .returned (.int .i64 (tw a b c)) ∧ BelowD w w' := by
 obtain ⟨a1, a2, a3, a4⟩ := ha
 obtain ⟨b1, b2, b3, b4⟩ := hb
 obtain ⟨c1, c2, c3, c4⟩ := hc
 obtain ⟨m1, m2⟩ := mul_bd (b.x - a.x) (c.y - a.y) 4194304 (by omega) (by omega) (by omega) (by omega)
 obtain ⟨m3, m4⟩ := mul_bd (b.y - a.y) (c.x - a.x) 4194304 (by omega) (by omega) (by omega) (by omega)
 simp only [Int.reduceMul, Int.reduceNeg] at m1 m2 m3 m4
 unfold ptV
 go_enter Tryz.func76, Tryz.ntmps76
 go_wp2
 go_ret
 exact ⟨ret_int rfl, (((Below.refl _ _).alloc (Nat.le_refl _) _).alloc (by simp) _).alloc (by simp; omega) _, dA (dA (dA (dR w) _) _) _⟩
set_option maxHeartbeats 1000000 in
theorem lower_spec (o p : Pt) (w : World) : Calls Tryz.prog 75 #[ptV o, ptV p] w fun e w' => e = .returned (.bool (lowS o p)) ∧ BelowD w w' := by
 unfold ptV lowS
 by_cases h1 : p.y < o.y
 ·
  go_enter Tryz.func75, Tryz.ntmps75
  go_wp2_with fail
  go_ret
  exact ⟨ret_bool (by simp [h1]), bA (bA (bR w) _) _, dA (dA (dR w) _) _⟩
 ·
  by_cases h2 : p.y = o.y
  ·
   have h2' : (p.y == o.y) = true := by simpa using h2
   have H2 := Lib.hid h2
   clear h2
   by_cases h3 : p.x < o.x
   ·
    go_enter Tryz.func75, Tryz.ntmps75
    go_wp2_with fail
    go_ret
    exact ⟨ret_bool (by simp [h1, H2.out, h3]), bA (bA (bR w) _) _, dA (dA (dR w) _) _⟩
   ·
    go_enter Tryz.func75, Tryz.ntmps75
    go_wp2_with fail
    go_ret
    exact ⟨ret_bool (by simp [h1, H2.out, h3]), bA (bA (bR w) _) _, dA (dA (dR w) _) _⟩
  ·
   have h2' : (p.y == o.y) = false := by simpa using h2
   have H2 := Lib.hid h2
   clear h2
   go_enter Tryz.func75, Tryz.ntmps75
   go_wp2_with fail
   go_ret
   exact ⟨ret_bool (by simp [h1, H2.out]), bA (bA (bR w) _) _, dA (dA (dR w) _) _⟩
theorem lim_near {p : Pt} (h : near1 p = true) : lim p := (near1_iff p).1 h
theorem nears_lim {a b c : Pt} (h : nears [a, b, c] = true) : lim a ∧ lim b ∧ lim c := by
 simp only [nears, List.all_cons, List.all_nil, Bool.and_true, Bool.and_eq_true] at h
 exact ⟨lim_near h.1, lim_near h.2.1, lim_near h.2.2⟩

set_option maxRecDepth 100000 in
set_option maxHeartbeats 4000000 in
theorem Less_spec (o a b : Pt) (w : World) : Calls Tryz.prog 50 #[ptV o, ptV a, ptV b] w fun e w' => e = .returned (.bool (lessS o a b)) ∧ BelowD w w' := by
 have TN := fun (v : Value) W => near_specD v [o, a, b] W
 have TL1 := fun W => lower_spec o a W
 have TL2 := fun W => lower_spec o b W
 have TT := fun (h : nears [o, a, b] = true) W => twice_specD o a b W (nears_lim h).1 (nears_lim h).2.1 (nears_lim h).2.2
 have E1 := run_eql_pt a o
 have E2 := run_eql_pt b o
 obtain ⟨r, hr⟩ : ∃ r, lessS o a b = r := ⟨_, rfl⟩
 rw [hr]
 unfold lessS at hr
 unfold ptV at TL1 TL2 TT ⊢
 have HN := Lib.hid TN; have H1 := Lib.hid TL1; have H2 := Lib.hid TL2; have HT := Lib.hid TT
 clear TN TL1 TL2 TT
 generalize hz : nears [o, a, b] = z at *
 generalize decide (a = o) = z1 at *
 generalize decide (b = o) = z2 at *
 generalize hl1 : lowS o a = l1 at *
 generalize hl2 : lowS o b = l2 at *
 generalize hq : decide (0 < tw o a b) = q at *
 have Hr := Lib.hid hr; have Hq := Lib.hid hq; have Hz := Lib.hid hz
 clear hr hq hz hl1 hl2
 go_enter Tryz.func50, Tryz.ntmps50
 go_wp2_with fail
 have HPts : Hid (Pts ((((w.alloc (.cells #[.int .i64 o.x, .int .i64 o.y] 41)).alloc (.cells #[.int .i64 a.x, .int .i64 a.y] 41)).alloc (.cells #[.int .i64 b.x, .int .i64 b.y] 41)).alloc (.cells #[.int .i64 o.x, .int .i64 o.y, .int .i64 a.x, .int .i64 a.y, .int .i64 b.x, .int .i64 b.y] 41)) (.slice (some ⟨w.heap.size + 1 + 1 + 1, 0, none⟩) 3 3) [o, a, b]) := Lib.hid (Pts.lit3 (Blk.made (by simp) _ _))
 refine (HN.out _ _ HPts.out).mono ?_
 rintro e w1 ⟨rfl, hb1, hd1⟩
 have B1 := Lib.hid (bT (bA (bA (bA (bA (bR w) _) _) _) _) hb1)
 have D1 := Lib.hid (dT (dA (dA (dA (dA (dR w) _) _) _) _) hd1)
 have HX3 := Lib.hid (show Blk w1 w.heap.size 41 #[.int .i64 o.x, .int .i64 o.y] from ((((Blk.made rfl _ _).alloc _).alloc _).alloc _).keep hb1)
 have HX4 := Lib.hid (show Blk w1 (w.heap.size + 1) 41 #[.int .i64 a.x, .int .i64 a.y] from (((Blk.made (by simp) _ _).alloc _).alloc _).keep hb1)
 have HX5 := Lib.hid (show Blk w1 (w.heap.size + 1 + 1) 41 #[.int .i64 b.x, .int .i64 b.y] from ((Blk.made (by simp) _ _).alloc _).keep hb1)
 clear hb1 hd1 HPts HN
 have X3 := HX3.out; have X4 := HX4.out; have X5 := HX5.out
 obtain ⟨X3l, X3a, X3b, -, -⟩ := X3.facts2
 obtain ⟨X4l, X4a, X4b, -, -⟩ := X4.facts2
 obtain ⟨X5l, X5a, X5b, -, -⟩ := X5.facts2
 cases z
 case false =>
  go_wp2_with fail
  go_ret
  exact ⟨ret_bool (by rw [← Hr.out]; rfl), B1.out, D1.out⟩
 cases z1
 case true =>
  go_wp2_with fail
  go_ret
  exact ⟨ret_bool (by rw [← Hr.out]; rfl), B1.out, D1.out⟩
 cases z2
 case true =>
  go_wp2_with fail
  go_ret
  exact ⟨ret_bool (by rw [← Hr.out]; rfl), B1.out, D1.out⟩
 have hr := Hr.out
 simp only [Bool.true_and, Bool.not_false] at hr
 have HT2 := Lib.hid (HT.out rfl)
 clear HT Hr Hz
 go_upto_region 3 with fail
 refine rg_start (Since w1) (.take 0 1 (.take 1 3 (.take 3 11 (.take 4 27 (.call 2 31 (.call 5 63 (.take 6 127 (.done)))))))) (by kernel_rfl) (bD (bR _)) (by kernel_rfl) (by kernel_rfl) (Nat.le_of_ble_eq_true (by kernel_rfl)) ?_
 intro opsR QR Hops HQrg hS
 iterate 4
  apply rg_p; exact Hops; exact rfl; exact hS; exact rfl
  · intro _ hqc; go_simp; try rfl
  try simp only [pu]
 refine rg_call (i := 2) (get_of Hops rfl) (fun K hK => ?_)
 have HSrg := Lib.hid hS; clear hS
 refine rg_run (wanted_plain rfl) ?_
 go_simp
 refine (H1.out _).mono ?_
 rintro e wr1 ⟨rfl, hbr1, hdr1⟩
 have hS : Since w1 wr1 := bT (w := w1) HSrg.out hbr1
 clear HSrg
 refine hK.out _ _ hS (fun _ => ?_)
 clear hK K
 try simp only [pu]
 refine rg_call (i := 5) (get_of Hops rfl) (fun K hK => ?_)
 have HSrg := Lib.hid hS; clear hS
 refine rg_run (wanted_plain rfl) ?_
 go_simp
 refine (H2.out _).mono ?_
 rintro e wr2 ⟨rfl, hbr2, hdr2⟩
 have hS : Since w1 wr2 := bT (w := w1) HSrg.out hbr2
 clear HSrg
 refine hK.out _ _ hS (fun _ => ?_)
 clear hK K
 try simp only [pu]
 apply rg_p; exact Hops; exact rfl; exact hS; exact rfl
 · intro _ hqc; go_simp; try rfl
 try simp only [pu]
 refine rg_done ?_
 refine HQrg.down _ _ ?_
 have hB : Below w1.heap.size w1 wr2 := hS
 clear hS HQrg Hops
 have B2 := Lib.hid (bT B1.out hB)
 have D2 := Lib.hid (dT (dT (dD D1.out) hdr1) hdr2)
 replace HX3 := Lib.hid (HX3.out.keep hB)
 replace HX4 := Lib.hid (HX4.out.keep hB)
 replace HX5 := Lib.hid (HX5.out.keep hB)
 clear hB hdr1 hdr2 X3 X4 X5 X3l X3a X3b X4l X4a X4b X5l X5a X5b
 have X3 := HX3.out; have X4 := HX4.out; have X5 := HX5.out
 try clear X3l
 try clear X3a
 try clear X3b
 obtain ⟨X3l, X3a, X3b, -, -⟩ := X3.facts2
 try clear X4l
 try clear X4a
 try clear X4b
 obtain ⟨X4l, X4a, X4b, -, -⟩ := X4.facts2
 try clear X5l
 try clear X5a
 try clear X5b
 obtain ⟨X5l, X5a, X5b, -, -⟩ := X5.facts2
 by_cases hl : l1 = l2
 ·
  subst hl
  rw [if_pos rfl] at hr
  have Hr := Lib.hid hr
  clear hr
  cases l1
  all_goals
   go_wp2_with fail
   refine (HT2.out _).mono ?_
   rintro e w3 ⟨rfl, hb3, hd3⟩
   have B3 := Lib.hid (bT B2.out hb3)
   have D3 := Lib.hid (dT D2.out hd3)
   clear hb3 hd3
   go_wp2_with fail
   go_ret
   exact ⟨ret_bool (by rw [← Hr.out, ← Hq.out]), B3.out, D3.out⟩
 ·
  rw [if_neg hl] at hr
  have Hr := Lib.hid hr
  have hl2 : l2 = !l1 := by cases l1 <;> cases l2 <;> simp_all
  clear hl hr
  subst hl2
  cases l1
  all_goals
   go_wp2_with fail
   refine (H2.out _).mono ?_
   rintro e w3 ⟨rfl, hb3, hd3⟩
   have B3 := Lib.hid (bT B2.out hb3)
   have D3 := Lib.hid (dT D2.out hd3)
   clear hb3 hd3
   go_wp2_with fail
   go_ret
   exact ⟨ret_bool Hr.out, B3.out, D3.out⟩

set_option maxRecDepth 100000 in
set_option maxHeartbeats 2000000 in
theorem quarter_spec (o a : Pt) (w : World) (ho : lim o) (ha : lim a) : Calls Tryz.prog 136 #[ptV o, ptV a] w fun e w' => e = .returned (.int .i64 (quartS o a)) ∧ Below w.heap.size w w' := by
 obtain ⟨o1, o2, o3, o4⟩ := ho
 obtain ⟨a1, a2, a3, a4⟩ := ha
 have k1 : IntKind.i64.wrap (a.x - o.x) = a.x - o.x := IntWalk.i64_in _ (by omega)
 have k2 : IntKind.i64.wrap (a.y - o.y) = a.y - o.y := IntWalk.i64_in _ (by omega)
 obtain ⟨q, hq⟩ : ∃ q, quartS o a = q := ⟨_, rfl⟩
 rw [hq]
 have Hq := Lib.hid hq
 unfold ptV
 clear o1 o2 o3 o4 a1 a2 a3 a4 hq
 go_enter Tryz.func136, Tryz.ntmps136
 go_upto_region 1 with fail
 obtain ⟨W, hW⟩ : ∃ W : World, W = (w.alloc (.cells #[.int .i64 o.x, .int .i64 o.y] 41)).alloc (.cells #[.int .i64 a.x, .int .i64 a.y] 41) := ⟨_, rfl⟩
 have BW : Below w.heap.size w W := by rw [hW]; exact bA (bA (bR w) _) _
 have X2 : Blk W w.heap.size 41 #[.int .i64 o.x, .int .i64 o.y] := by rw [hW]; exact (Blk.made rfl _ _).alloc _
 have X3 : Blk W (w.heap.size + 1) 41 #[.int .i64 a.x, .int .i64 a.y] := by rw [hW]; exact Blk.made (by simp) _ _
 rw [← hW]
 clear hW
 obtain ⟨X2l, X2a, X2b, -, -⟩ := X2.facts2
 obtain ⟨X3l, X3a, X3b, -, -⟩ := X3.facts2
 refine rg_start (Since W) (.run 12 0 0 (.done)) (by kernel_rfl) (bD (bR _)) (by kernel_rfl) (by kernel_rfl) (Nat.le_of_ble_eq_true (by kernel_rfl)) ?_
 intro opsR QR Hops HQrg hS
 iterate 12
  apply rg_p; exact Hops; exact rfl; exact hS; exact rfl
  · intro _ hqc; go_simp; try rfl
  try simp only [pu]
 refine rg_done ?_
 refine HQrg.down _ _ ?_
 have hB : Below W.heap.size W W.drew := hS
 clear hS HQrg Hops
 have B1 := Lib.hid (bT BW hB)
 clear hB BW X2 X3 X2l X2a X2b X3l X3a X3b
 have hqq := Hq.out
 unfold quartS at hqq
 generalize a.x - o.x = x at *
 generalize a.y - o.y = y at *
 replace Hq := Lib.hid hqq
 clear hqq
 by_cases h1 : 0 < x
 ·
  by_cases h2 : 0 ≤ y
  ·
   go_wp2_with fail
   go_ret
   exact ⟨ret_int (by rw [← Hq.out, if_pos (by omega)]), B1.out⟩
  ·
   have h3 : ¬ x ≤ 0 := by omega
   have h4 : ¬ x < 0 := by omega
   go_wp2_with fail
   go_ret
   exact ⟨ret_int (by rw [← Hq.out, if_neg (by omega), if_neg (by omega), if_neg (by omega)]), B1.out⟩
 ·
  have h3 : x ≤ 0 := by omega
  by_cases h2 : 0 < y
  ·
   go_wp2_with fail
   go_ret
   exact ⟨ret_int (by rw [← Hq.out, if_neg (by omega), if_pos (by omega)]), B1.out⟩
  ·
   by_cases h4 : x < 0
   ·
    go_wp2_with fail
    go_ret
    exact ⟨ret_int (by rw [← Hq.out, if_neg (by omega), if_neg (by omega), if_pos (by omega)]), B1.out⟩
   ·
    go_wp2_with fail
    go_ret
    exact ⟨ret_int (by rw [← Hq.out, if_neg (by omega), if_neg (by omega), if_neg (by omega)]), B1.out⟩

set_option maxRecDepth 100000 in
set_option maxHeartbeats 4000000 in
theorem rLess_spec (o a b : Pt) (w : World) : Calls Tryz.prog 112 #[ptV o, ptV a, ptV b] w fun e w' => e = .returned (.bool (rlessS o a b)) ∧ Below w.heap.size w w' := by
 have TN := fun (v : Value) W => RNear_spec v [o, a, b] W
 have TL1 := fun (h : nears [o, a, b] = true) W => quarter_spec o a W (nears_lim h).1 (nears_lim h).2.1
 have TL2 := fun (h : nears [o, a, b] = true) W => quarter_spec o b W (nears_lim h).1 (nears_lim h).2.2
 have TT := fun (h : nears [o, a, b] = true) W => cross_spec o a o b W (nears_lim h).1 (nears_lim h).2.1 (nears_lim h).1 (nears_lim h).2.2
 have E1 := run_eql_pt a o
 have E2 := run_eql_pt b o
 obtain ⟨r, hr⟩ : ∃ r, rlessS o a b = r := ⟨_, rfl⟩
 rw [hr]
 unfold rlessS at hr
 unfold ptV at TL1 TL2 TT ⊢
 have HN := Lib.hid TN; have H1 := Lib.hid TL1; have H2 := Lib.hid TL2; have HT := Lib.hid TT
 clear TN TL1 TL2 TT
 generalize hz : nears [o, a, b] = z at *
 generalize decide (a = o) = z1 at *
 generalize decide (b = o) = z2 at *
 generalize hl1 : quartS o a = l1 at *
 generalize hl2 : quartS o b = l2 at *
 generalize hq : crossS o a o b = q at *
 have Hr := Lib.hid hr
 clear hr hq hz hl1 hl2
 go_enter Tryz.func112, Tryz.ntmps112
 go_wp2_with fail
 have HPts : Hid (Pts ((((w.alloc (.cells #[.int .i64 o.x, .int .i64 o.y] 41)).alloc (.cells #[.int .i64 a.x, .int .i64 a.y] 41)).alloc (.cells #[.int .i64 b.x, .int .i64 b.y] 41)).alloc (.cells #[.int .i64 o.x, .int .i64 o.y, .int .i64 a.x, .int .i64 a.y, .int .i64 b.x, .int .i64 b.y] 41)) (.slice (some ⟨w.heap.size + 1 + 1 + 1, 0, none⟩) 3 3) [o, a, b]) := Lib.hid (Pts.lit3 (Blk.made (by simp) _ _))
 refine (HN.out _ _ HPts.out).mono ?_
 rintro e w1 ⟨rfl, hb1⟩
 have B1 := Lib.hid (bT (bA (bA (bA (bA (bR w) _) _) _) _) hb1)
 have HX3 := Lib.hid (show Blk w1 w.heap.size 41 #[.int .i64 o.x, .int .i64 o.y] from ((((Blk.made rfl _ _).alloc _).alloc _).alloc _).keep hb1)
 have HX4 := Lib.hid (show Blk w1 (w.heap.size + 1) 41 #[.int .i64 a.x, .int .i64 a.y] from (((Blk.made (by simp) _ _).alloc _).alloc _).keep hb1)
 have HX5 := Lib.hid (show Blk w1 (w.heap.size + 1 + 1) 41 #[.int .i64 b.x, .int .i64 b.y] from ((Blk.made (by simp) _ _).alloc _).keep hb1)
 clear hb1 HPts HN
 have X3 := HX3.out; have X4 := HX4.out; have X5 := HX5.out
 obtain ⟨X3l, X3a, X3b, -, -⟩ := X3.facts2
 obtain ⟨X4l, X4a, X4b, -, -⟩ := X4.facts2
 obtain ⟨X5l, X5a, X5b, -, -⟩ := X5.facts2
 cases z
 case false =>
  go_wp2_with fail
  go_ret
  exact ⟨ret_bool (by rw [← Hr.out]; rfl), B1.out⟩
 cases z1
 case true =>
  go_wp2_with fail
  go_ret
  exact ⟨ret_bool (by rw [← Hr.out]; rfl), B1.out⟩
 cases z2
 case true =>
  go_wp2_with fail
  go_ret
  exact ⟨ret_bool (by rw [← Hr.out]; rfl), B1.out⟩
 have hr := Hr.out
 simp only [Bool.true_and, Bool.not_false] at hr
 have HT2 := Lib.hid (HT.out rfl)
 have HQ1 := Lib.hid (H1.out rfl)
 have HQ2 := Lib.hid (H2.out rfl)
 clear HT Hr H1 H2
 go_upto_region 3 with fail
 refine rg_start (Since w1) (.take 0 1 (.take 1 3 (.take 3 11 (.take 4 27 (.call 2 31 (.call 5 63 (.take 6 127 (.take 7 255 (.done))))))))) (by kernel_rfl) (bD (bR _)) (by kernel_rfl) (by kernel_rfl) (Nat.le_of_ble_eq_true (by kernel_rfl)) ?_
 intro opsR QR Hops HQrg hS
 iterate 4
  apply rg_p; exact Hops; exact rfl; exact hS; exact rfl
  · intro _ hqc; go_simp; try rfl
  try simp only [pu]
 refine rg_call (i := 2) (get_of Hops rfl) (fun K hK => ?_)
 have HSrg := Lib.hid hS; clear hS
 refine rg_run (wanted_plain rfl) ?_
 go_simp
 refine (HQ1.out _).mono ?_
 rintro e wr1 ⟨rfl, hbr1⟩
 have hS : Since w1 wr1 := bT (w := w1) HSrg.out hbr1
 clear HSrg
 refine hK.out _ _ hS (fun _ => ?_)
 clear hK K
 try simp only [pu]
 refine rg_call (i := 5) (get_of Hops rfl) (fun K hK => ?_)
 have HSrg := Lib.hid hS; clear hS
 refine rg_run (wanted_plain rfl) ?_
 go_simp
 refine (HQ2.out _).mono ?_
 rintro e wr2 ⟨rfl, hbr2⟩
 have hS : Since w1 wr2 := bT (w := w1) HSrg.out hbr2
 clear HSrg
 refine hK.out _ _ hS (fun _ => ?_)
 clear hK K
 try simp only [pu]
 iterate 2
  apply rg_p; exact Hops; exact rfl; exact hS; exact rfl
  · intro _ hqc; go_simp; try rfl
  try simp only [pu]
 refine rg_done ?_
 refine HQrg.down _ _ ?_
 have hB : Below w1.heap.size w1 wr2 := hS
 clear hS HQrg Hops
 have B2 := Lib.hid (bT B1.out hB)
 replace HX3 := Lib.hid (HX3.out.keep hB)
 replace HX4 := Lib.hid (HX4.out.keep hB)
 replace HX5 := Lib.hid (HX5.out.keep hB)
 clear hB X3 X4 X5 X3l X3a X3b X4l X4a X4b X5l X5a X5b
 have X3 := HX3.out; have X4 := HX4.out; have X5 := HX5.out
 try clear X3l
 try clear X3a
 try clear X3b
 obtain ⟨X3l, X3a, X3b, -, -⟩ := X3.facts2
 try clear X4l
 try clear X4a
 try clear X4b
 obtain ⟨X4l, X4a, X4b, -, -⟩ := X4.facts2
 try clear X5l
 try clear X5a
 try clear X5b
 obtain ⟨X5l, X5a, X5b, -, -⟩ := X5.facts2
 by_cases hlt : l1 < l2
 ·
  rw [decide_eq_true hlt] at hr
  have Hr := Lib.hid hr
  clear hr
  go_wp2_with fail
  go_ret
  exact ⟨ret_bool (by rw [← Hr.out]; rfl), B2.out⟩
 ·
  rw [decide_eq_false hlt, Bool.false_or] at hr
  by_cases hl : l1 = l2
  ·
   have hl' : (l1 == l2) = true := by simpa using hl
   rw [decide_eq_true hl, Bool.true_and] at hr
   have Hr := Lib.hid hr
   clear hl hr
   go_wp2_with fail
   refine (HT2.out _).mono ?_
   rintro e w3 ⟨rfl, hb3⟩
   have B3 := Lib.hid (bT B2.out hb3)
   clear hb3
   go_wp2_with fail
   go_ret
   exact ⟨ret_bool Hr.out, B3.out⟩
  ·
   have hl' : (l1 == l2) = false := by simpa using hl
   rw [decide_eq_false hl, Bool.false_and] at hr
   have Hr := Lib.hid hr
   clear hl hr
   go_wp2_with fail
   go_ret
   exact ⟨ret_bool Hr.out, B2.out⟩
end Go.Proofs.YtoclnkfeblfpbaaGreat
