/- Plain law: crossings in their order: a sorted list of the same crossings is the one that is made by inserting each. No walk here. Words for memory of layer 42: crossings, pieces, parts, series. mapsheetsref42.Small, mapsheetsref15.Small. (printed by gen/smalle.py) -/
import Derived.Test.YtoclnkfeblfpbaaGreatGB
set_option linter.unusedSimpArgs false
set_option linter.unusedVariables false
namespace Go.Proofs.YtoclnkfeblfpbaaGreat

structure Cr where
  pos : Int
  arc : Int
  out : Int
theorem Cr.ext_iff' {a b : Cr} : a = b ↔ a.pos = b.pos ∧ a.arc = b.arc ∧ a.out = b.out := by cases a; cases b; simp
instance : DecidableEq Cr := fun a b =>
  if h : a.pos = b.pos ∧ a.arc = b.arc ∧ a.out = b.out then isTrue (by cases a; cases b; simp_all) else isFalse (by rintro rfl; simp at h)
def crLt (a b : Cr) : Bool := if a.pos = b.pos then (if a.arc = b.arc then decide (a.out < b.out) else decide (a.arc < b.arc)) else decide (a.pos < b.pos)
def insCr (l : List Cr) (c : Cr) : List Cr := l.takeWhile (fun x => !crLt c x) ++ c :: l.dropWhile (fun x => !crLt c x)
def sortCr (l : List Cr) : List Cr := l.foldl insCr []
def flipCr (c : Cr) : Cr := ⟨c.pos, c.arc, if c.out = 0 then 1 else 0⟩

theorem crLt_irrefl (a : Cr) : crLt a a = false := by simp [crLt]
theorem crLt_tri {a b : Cr} (h1 : crLt a b = false) (h2 : crLt b a = false) : a = b := by
  rw [Cr.ext_iff']
  unfold crLt at h1 h2
  split at h1
  · rename_i e
    rw [if_pos e.symm] at h2
    split at h1
    · rename_i e'
      rw [if_pos e'.symm] at h2
      simp only [decide_eq_false_iff_not] at h1 h2
      exact ⟨e, e', by omega⟩
    · rename_i e'
      rw [if_neg (fun h => e' h.symm)] at h2
      simp only [decide_eq_false_iff_not] at h1 h2
      omega
  · rename_i e
    rw [if_neg (fun h => e h.symm)] at h2
    simp only [decide_eq_false_iff_not] at h1 h2
    omega
theorem crLt_asymm {a b : Cr} (h : crLt a b = true) : crLt b a = false := by
  unfold crLt at *
  split at h
  · rename_i e
    rw [if_pos e.symm]
    split at h
    · rename_i e'
      rw [if_pos e'.symm]
      simp only [decide_eq_true_eq, decide_eq_false_iff_not] at *
      omega
    · rename_i e'
      rw [if_neg (fun h => e' h.symm)]
      simp only [decide_eq_true_eq, decide_eq_false_iff_not] at *
      omega
  · rename_i e
    rw [if_neg (fun h => e h.symm)]
    simp only [decide_eq_true_eq, decide_eq_false_iff_not] at *
    omega
/-- not after: a total order -/
def leCr (a b : Cr) : Prop := a.pos < b.pos ∨ (a.pos = b.pos ∧ (a.arc < b.arc ∨ (a.arc = b.arc ∧ a.out ≤ b.out)))
theorem leCr_iff (a b : Cr) : leCr a b ↔ crLt b a = false := by
  unfold crLt leCr
  split
  · split
    · simp only [decide_eq_false_iff_not]; omega
    · simp only [decide_eq_false_iff_not]; omega
  · simp only [decide_eq_false_iff_not]; omega
theorem leCr_trans {a b c : Cr} (h1 : leCr a b) (h2 : leCr b c) : leCr a c := by
  unfold leCr at *; omega
theorem leCr_total (a b : Cr) : leCr a b ∨ leCr b a := by
  unfold leCr; omega
theorem leCr_anti {a b : Cr} (h1 : leCr a b) (h2 : leCr b a) : a = b := by
  rw [Cr.ext_iff']; unfold leCr at *; omega

def SortedCr (l : List Cr) : Prop := l.Pairwise leCr
theorem sortedCr_uniq : ∀ {l m : List Cr}, l.Perm m → SortedCr l → SortedCr m → l = m
  | [], m, hp, _, _ => (List.nil_perm.1 hp).symm
  | a :: l, [], hp, _, _ => by have := hp.length_eq; simp at this
  | a :: l, b :: m, hp, h1, h2 => by
    have h1' := List.pairwise_cons.1 h1
    have h2' := List.pairwise_cons.1 h2
    have hab : a = b := by
      have ha : a ∈ b :: m := hp.subset (List.mem_cons_self)
      have hb : b ∈ a :: l := hp.symm.subset (List.mem_cons_self)
      rcases List.mem_cons.1 ha with rfl | ha
      · rfl
      rcases List.mem_cons.1 hb with rfl | hb
      · rfl
      exact leCr_anti (h1'.1 b hb) (h2'.1 a ha)
    subst hab
    rw [sortedCr_uniq (List.Perm.cons_inv hp) h1'.2 h2'.2]
theorem insCr_perm (l : List Cr) (c : Cr) : (insCr l c).Perm (c :: l) := by
  unfold insCr
  refine List.perm_middle.trans ?_
  rw [List.takeWhile_append_dropWhile]
theorem insCr_sorted {l : List Cr} (h : SortedCr l) (c : Cr) : SortedCr (insCr l c) := by
  induction l with
  | nil => simp [insCr, SortedCr]
  | cons a l ih =>
    have h' := List.pairwise_cons.1 h
    unfold insCr
    cases hc : crLt c a
    · have e1 : (a :: l).takeWhile (fun x => !crLt c x) = a :: l.takeWhile (fun x => !crLt c x) := by rw [List.takeWhile_cons]; simp [hc]
      have e2 : (a :: l).dropWhile (fun x => !crLt c x) = l.dropWhile (fun x => !crLt c x) := by rw [List.dropWhile_cons]; simp [hc]
      rw [e1, e2]
      show SortedCr (a :: insCr l c)
      refine List.pairwise_cons.2 ⟨fun x hx => ?_, ih h'.2⟩
      rcases List.mem_cons.1 ((insCr_perm l c).subset hx) with rfl | hx
      · exact (leCr_iff _ _).2 hc
      · exact h'.1 x hx
    · have e1 : (a :: l).takeWhile (fun x => !crLt c x) = [] := by rw [List.takeWhile_cons]; simp [hc]
      have e2 : (a :: l).dropWhile (fun x => !crLt c x) = a :: l := by rw [List.dropWhile_cons]; simp [hc]
      rw [e1, e2, List.nil_append]
      refine List.pairwise_cons.2 ⟨fun x hx => ?_, h⟩
      have hca : leCr c a := (leCr_iff _ _).2 (crLt_asymm hc)
      rcases List.mem_cons.1 hx with rfl | hx
      · exact hca
      · exact leCr_trans hca (h'.1 x hx)
theorem sortCr_fold : ∀ (l acc : List Cr), SortedCr acc → (l.foldl insCr acc).Perm (acc ++ l) ∧ SortedCr (l.foldl insCr acc)
  | [], acc, h => by simpa using h
  | c :: l, acc, h => by
    have := sortCr_fold l (insCr acc c) (insCr_sorted h c)
    refine ⟨this.1.trans ?_, this.2⟩
    refine ((insCr_perm acc c).append_right l).trans ?_
    rw [List.cons_append]
    exact List.perm_middle.symm
theorem sortCr_perm (l : List Cr) : (sortCr l).Perm l := by simpa [sortCr] using (sortCr_fold l [] List.Pairwise.nil).1
theorem sortCr_sorted (l : List Cr) : SortedCr (sortCr l) := (sortCr_fold l [] List.Pairwise.nil).2
theorem sortCr_of {l m : List Cr} (hp : m.Perm l) (hs : SortedCr m) : m = sortCr l := sortedCr_uniq (hp.trans (sortCr_perm l).symm) hs (sortCr_sorted l)
theorem sortCr_congr {l m : List Cr} (hp : m.Perm l) : sortCr m = sortCr l := sortCr_of ((sortCr_perm m).trans hp) (sortCr_sorted m)
theorem sortCr_snoc (l : List Cr) (c : Cr) : sortCr (l ++ [c]) = insCr (sortCr l) c := by simp [sortCr, List.foldl_append]
theorem sortCr_map (l : List Cr) (f : Cr → Cr) : sortCr ((sortCr l).map f) = sortCr (l.map f) := sortCr_congr ((sortCr_perm l).map f)
theorem sortCr_len (l : List Cr) : (sortCr l).length = l.length := (sortCr_perm l).length_eq
theorem flip_flip {c : Cr} (h : c.out = 0 ∨ c.out = 1) : flipCr (flipCr c) = c := by
  rw [Cr.ext_iff']
  refine ⟨rfl, rfl, ?_⟩
  rcases h with h | h <;> simp [flipCr, h]
theorem flip_twice {l : List Cr} (h : ∀ c ∈ l, c.out = 0 ∨ c.out = 1) : sortCr ((sortCr (l.map flipCr)).map flipCr) = sortCr l := by
  rw [sortCr_map, List.map_map]
  congr 1
  conv => rhs; rw [← List.map_id l]
  exact List.map_congr_left fun c hc => flip_flip (h c hc)
end Go.Proofs.YtoclnkfeblfpbaaGreat
namespace Go.Proofs.YtoclnkfeblfpbaaGreat
open Go.RowKit

structure Pc where
  arc : Int
  path : List Pt
  enter : Int
  leave : Int
structure Prt where
  sheet : Int
  pieces : List Pc
  nodes : List Nd
structure Se where
  at_ : Pt
  width : Int
  height : Int
  cols : Int
  rows : Int

def crC (c : Cr) : List Value := [.int .i64 c.pos, .int .i64 c.arc, .int .i64 c.out]
def crV (c : Cr) : Value := .agg #[.int .i64 c.pos, .int .i64 c.arc, .int .i64 c.out]
def pcC (x : Pc × Value) : List Value := [.int .i64 x.1.arc, x.2, .int .i64 x.1.enter, .int .i64 x.1.leave]
def pcV (x : Pc) (v : Value) : Value := .agg #[.int .i64 x.arc, v, .int .i64 x.enter, .int .i64 x.leave]
def seV (s : Se) : Value := .agg #[.int .i64 s.at_.x, .int .i64 s.at_.y, .int .i64 s.width, .int .i64 s.height, .int .i64 s.cols, .int .i64 s.rows]
theorem crC_len (p : Cr) : (crC p).length = 3 := rfl
theorem pcC_len (p : Pc × Value) : (pcC p).length = 4 := rfl
theorem crC_one (p : Cr) : ∀ u ∈ crC p, u.oneCell' = true := by simp [crC, Value.oneCell']

def Crs (w : World) (v : Value) (l : List Cr) : Prop := Sl w v l.length (l.flatMap crC)
/-- The pieces, each with its value in the cell of its Path. -/
def Paths (w : World) (l : List (Pc × Value)) : Prop := ∀ k (hk : k < l.length), Pts w l[k].2 l[k].1.path
def Pcs (w : World) (v : Value) (l : List (Pc × Value)) : Prop := Sl w v l.length (l.flatMap pcC) ∧ Paths w l
def prtV (x : Prt) (vp vn : Value) : Value := .agg #[.int .i64 x.sheet, vp, vn]
def PrtV (w : World) (v : Value) (x : Prt) : Prop :=
  ∃ vp vn pl, v = .agg #[.int .i64 x.sheet, vp, vn] ∧ x.pieces = pl.map (·.1) ∧ Pcs w vp pl ∧ Nds w vn x.nodes
def prC (x : Prt × Value × Value) : List Value := [.int .i64 x.1.sheet, x.2.1, x.2.2]
theorem prC_len (p : Prt × Value × Value) : (prC p).length = 3 := rfl
/-- A list of parts, each with its values in the cells of its pieces and nodes. -/
def Prts (w : World) (v : Value) (l : List (Prt × Value × Value)) : Prop :=
  Sl w v l.length (l.flatMap prC) ∧ ∀ k (hk : k < l.length), PrtV w (.agg #[.int .i64 l[k].1.sheet, l[k].2.1, l[k].2.2]) l[k].1

section
variable {w w' : World} {v : Value}
theorem Crs.mono {l : List Cr} (h : Crs w v l) (hb : Below w.heap.size w w') : Crs w' v l := Sl.mono h hb
theorem Paths.mono {l : List (Pc × Value)} (h : Paths w l) (hb : Below w.heap.size w w') : Paths w' l := fun k hk => (h k hk).mono hb
theorem Pcs.mono {l : List (Pc × Value)} (h : Pcs w v l) (hb : Below w.heap.size w w') : Pcs w' v l := ⟨Sl.mono h.1 hb, h.2.mono hb⟩
theorem PrtV.mono {x : Prt} (h : PrtV w v x) (hb : Below w.heap.size w w') : PrtV w' v x := by
  obtain ⟨vp, vn, pl, hv, hp, h1, h2⟩ := h
  exact ⟨vp, vn, pl, hv, hp, h1.mono hb, h2.mono hb⟩
theorem Prts.mono {l : List (Prt × Value × Value)} (h : Prts w v l) (hb : Below w.heap.size w w') : Prts w' v l := ⟨Sl.mono h.1 hb, fun k hk => (h.2 k hk).mono hb⟩
end
section
variable {w : World} {A : Option Addr}
theorem Row.cr {l : List Cr} (h : Row w A (l.flatMap crC)) {k : Nat} (hk : k < l.length) :
    ∃ b o, A = some ⟨b, o, none⟩ ∧ b < w.heap.size ∧ w.cell? ⟨b, o + k * 3, none⟩ = some (.int .i64 l[k].pos) ∧ w.cell? ⟨b, o + k * 3 + 1, none⟩ = some (.int .i64 l[k].arc) ∧ w.cell? ⟨b, o + k * 3 + 2, none⟩ = some (.int .i64 l[k].out) := by
  obtain ⟨b, o, hA, hb, hc⟩ := h.at_ (n := 3) (fun _ => rfl) hk (by omega)
  exact ⟨b, o, hA, hb, hc 0 _ rfl, hc 1 _ rfl, hc 2 _ rfl⟩
theorem Row.pc {l : List (Pc × Value)} (h : Row w A (l.flatMap pcC)) {k : Nat} (hk : k < l.length) :
    ∃ b o, A = some ⟨b, o, none⟩ ∧ b < w.heap.size ∧ w.cell? ⟨b, o + k * 4, none⟩ = some (.int .i64 l[k].1.arc) ∧ w.cell? ⟨b, o + k * 4 + 1, none⟩ = some l[k].2 ∧ w.cell? ⟨b, o + k * 4 + 2, none⟩ = some (.int .i64 l[k].1.enter) ∧ w.cell? ⟨b, o + k * 4 + 3, none⟩ = some (.int .i64 l[k].1.leave) := by
  obtain ⟨b, o, hA, hb, hc⟩ := h.at_ (n := 4) (fun _ => rfl) hk (by omega)
  exact ⟨b, o, hA, hb, hc 0 _ rfl, hc 1 _ rfl, hc 2 _ rfl, hc 3 _ rfl⟩
theorem Row.prt {l : List (Prt × Value × Value)} (h : Row w A (l.flatMap prC)) {k : Nat} (hk : k < l.length) :
    ∃ b o, A = some ⟨b, o, none⟩ ∧ b < w.heap.size ∧ w.cell? ⟨b, o + k * 3, none⟩ = some (.int .i64 l[k].1.sheet) ∧ w.cell? ⟨b, o + k * 3 + 1, none⟩ = some l[k].2.1 ∧ w.cell? ⟨b, o + k * 3 + 2, none⟩ = some l[k].2.2 := by
  obtain ⟨b, o, hA, hb, hc⟩ := h.at_ (n := 3) (fun _ => rfl) hk (by omega)
  exact ⟨b, o, hA, hb, hc 0 _ rfl, hc 1 _ rfl, hc 2 _ rfl⟩
end
end Go.Proofs.YtoclnkfeblfpbaaGreat
namespace Go.Proofs.YtoclnkfeblfpbaaGreat
open Go.RowKit

theorem total_step {α β : Type} (f : α → List β) (l : List α) (k : Nat) (hk : k < l.length) : ((l.take (k + 1)).flatMap f).length = ((l.take k).flatMap f).length + (f l[k]).length := by
  rw [List.take_succ_eq_append_getElem hk, List.flatMap_append, List.length_append]; simp
/-- A part with at most 60 pieces, 600 points and 100 nodes. -/
def smallS (x : Prt) : Bool := (decide (x.pieces.length ≤ 60) && decide (x.nodes.length ≤ 100)) && (x.pieces.all (fun y => decide (y.path.length ≤ 600)) && decide ((x.pieces.flatMap (·.path)).length ≤ 600))
/-- A plan with at most 40 nodes and arcs, 80 faces and 300 inner points. -/
def small15 (p : Pl) : Bool := (decide (p.nodes.length ≤ 40) && (decide (p.arcs.length ≤ 40) && decide (p.faces.length ≤ 80))) && (p.arcs.all (fun y => decide (y.via.length ≤ 300)) && decide ((p.arcs.flatMap (·.via)).length ≤ 300))

set_option maxRecDepth 100000 in
set_option maxHeartbeats 2000000 in
theorem Small15_spec (v : Value) (p : Pl) (w : World) (h : PlV w v p) :
    Calls Tryz.prog 14 #[v] w fun e w' => e = .returned (.bool (small15 p)) ∧ Below w.heap.size w w' := by
  obtain ⟨_, _, _, al, rfl, hpa, ⟨An, cn, rfl, hn1, hn2, -⟩, ⟨⟨Aa, ca, rfl, ha1, ha2, hRa⟩, hV⟩, ⟨Af, cf, rfl, hf1, hf2, -⟩⟩ := h
  unfold maxLen at hn2 ha2 hf2
  have hS : small15 p = ((decide (p.nodes.length ≤ 40) && (decide (al.length ≤ 40) && decide (p.faces.length ≤ 80))) && (al.all (fun y => decide (y.1.via.length ≤ 300)) && decide ((al.flatMap (fun a => a.1.via)).length ≤ 300))) := by
    rw [small15, hpa, List.flatMap_map, List.length_map, List.all_map]; rfl
  rw [hS]
  clear hS hpa
  generalize p.nodes.length = nn at *
  generalize p.faces.length = nf at *
  have HV := Lib.hid hV; clear hV
  have HRa := Lib.hid hRa; clear hRa
  by_cases hc1 : 40 < nn
  case pos =>
    have h1' : (40 : Int) < (nn : Int) := by omega
    have hf := Lib.hid (decide_eq_false (show ¬ nn ≤ 40 by omega))
    clear hc1
    go_enter Tryz.func14, Tryz.ntmps14
    go_wp2_with fail
    go_ret
    exact ⟨ret_bool (by rw [hf.out]; rfl), bA (bR w) _⟩
  by_cases hc2 : 40 < al.length
  case pos =>
    have h1' : ¬ (40 : Int) < (nn : Int) := by omega
    have h2' : (40 : Int) < (al.length : Int) := by omega
    have hf := Lib.hid (decide_eq_false (show ¬ al.length ≤ 40 by omega))
    clear hc1 hc2
    go_enter Tryz.func14, Tryz.ntmps14
    go_wp2_with fail
    go_ret
    exact ⟨ret_bool (by rw [hf.out, Bool.false_and, Bool.and_false]; rfl), bA (bR w) _⟩
  by_cases hc3 : 80 < nf
  case pos =>
    have h1' : ¬ (40 : Int) < (nn : Int) := by omega
    have h2' : ¬ (40 : Int) < (al.length : Int) := by omega
    have h3' : (80 : Int) < (nf : Int) := by omega
    have hf := Lib.hid (decide_eq_false (show ¬ nf ≤ 80 by omega))
    clear hc1 hc2 hc3
    go_enter Tryz.func14, Tryz.ntmps14
    go_wp2_with fail
    go_ret
    exact ⟨ret_bool (by rw [hf.out, Bool.and_false, Bool.and_false]; rfl), bA (bR w) _⟩
  have h1' : ¬ (40 : Int) < (nn : Int) := by omega
  have h2' : ¬ (40 : Int) < (al.length : Int) := by omega
  have h3' : ¬ (80 : Int) < (nf : Int) := by omega
  rw [decide_eq_true (show al.length ≤ 40 by omega), decide_eq_true (show nn ≤ 40 by omega), decide_eq_true (show nf ≤ 80 by omega), Bool.true_and, Bool.true_and, Bool.true_and]
  obtain ⟨q, hq⟩ : ∃ q, (al.all (fun y => decide (y.1.via.length ≤ 300)) && decide ((al.flatMap (fun a => a.1.via)).length ≤ 300)) = q := ⟨_, rfl⟩
  rw [hq]
  have Hq := Lib.hid hq; clear hq
  go_enter Tryz.func14, Tryz.ntmps14
  go_wp2_with fail
  obtain ⟨W0, hW0⟩ : ∃ W0 : World, W0 = w.alloc (.cells #[.slice An nn cn, .slice Aa al.length ca, .slice Af nf cf] 26) := ⟨_, rfl⟩
  have HX0 := Lib.hid (show Blk W0 w.heap.size 26 #[.slice An nn cn, .slice Aa al.length ca, .slice Af nf cf] by rw [hW0]; exact Blk.made rfl _ _)
  have HB0 := Lib.hid (show Below w.heap.size w W0 by rw [hW0]; exact bA (bR w) _)
  rw [← hW0]
  clear hW0
  go_loopw [3, 4] (fun s i wr => ∃ k : Nat, k ≤ al.length ∧ i = .int .i64 k ∧ s = .int .i64 (((al.take k).flatMap (fun a => a.1.via)).length : Nat) ∧ Below W0.heap.size W0 wr ∧ ((al.take k).flatMap (fun a => a.1.via)).length ≤ 300 * k ∧ ∀ j (hj : j < al.length), j < k → decide (al[j].1.via.length ≤ 300) = true) (fun _ i _ => al.length - (intOf i).toNat)
  case atStart => exact ⟨0, Nat.zero_le _, rfl, by simp, bR W0, by simp, fun _ _ h => by omega⟩
  case round =>
    obtain ⟨k, hk, rfl, rfl, hb, hM, hno⟩ := hrel
    have Hb := Lib.hid hb
    have Hno := Lib.hid hno
    have X1 := HX0.out.keep hb
    clear hb hno
    try clear X1l
    try clear X1a
    try clear X1b
    try clear X1c
    try clear X1fa
    try clear X1fb
    try clear X1fc
    obtain ⟨X1l, X1a, X1b, X1c, -, -, -⟩ := X1.facts3
    by_cases hlt : k < al.length
    case pos =>
      obtain ⟨b, o, rfl, hlb, c0, c1, c2, c3, c4, c5⟩ := (HRa.out.mono (bT HB0.out Hb.out)).ar hlt
      obtain ⟨Av, cv, hv, hvc, hvm, -⟩ := HV.out k hlt
      rw [hv] at c3
      clear hv
      unfold maxLen at hvm
      have ht := total_step (fun a : Ar × Value => a.1.via) al k hlt
      have Ht := Lib.hid ht
      clear ht
      generalize hT : ((al.take k).flatMap (fun a => a.1.via)).length = T at *
      have HT := Lib.hid hT
      clear hT
      by_cases h1 : 300 < al[k].1.via.length
      · have h1' : (300 : Int) < (al[k].1.via.length : Int) := by omega
        have hf : q = false := by
          rw [← Hq.out]
          have : (al.all fun a => decide (a.1.via.length ≤ 300)) = false := by
            rw [List.all_eq_false]
            exact ⟨al[k], List.getElem_mem hlt, by simp; omega⟩
          rw [this]; simp
        have HF := Lib.hid hf
        clear hf
        go_wp2_with fail
        go_ret
        exact ⟨ret_bool HF.out.symm, bT HB0.out Hb.out⟩
      · have h1' : ¬ (300 : Int) < (al[k].1.via.length : Int) := by omega
        have hd := Lib.hid (show decide (al[k].1.via.length ≤ 300) = true by simp; omega)
        have hq : IntKind.i64.wrap ((T : Int) + (al[k].1.via.length : Int)) = (T : Int) + (al[k].1.via.length : Int) := IntWalk.i64_in _ (by have h0 : k ≤ 100 := (by omega); omega)
        go_wp2_with fail
        go_roundw
        case rel => exact ⟨k + 1, by omega, by go_num, by rw [Ht.out]; go_num, Hb.out, by rw [Ht.out]; omega, all_succ (p := fun n : Ar × Value => decide (n.1.via.length ≤ 300) = true) Hno.out hlt hd.out⟩
        case measure => simp [intOf]; omega
    case neg =>
    have hall : al.take k = al := List.take_of_length_le (by omega)
    have hf : q = decide ((al.flatMap (fun a => a.1.via)).length ≤ 300) := by
      rw [← Hq.out]
      have : (al.all fun a => decide (a.1.via.length ≤ 300)) = true := by
        rw [List.all_eq_true]
        intro x hx
        obtain ⟨j, hj, rfl⟩ := List.mem_iff_getElem.1 hx
        exact Hno.out j hj (by omega)
      rw [this, Bool.true_and]
    have HF := Lib.hid hf
    rw [hall] at hM ⊢
    clear hall hf
    generalize (al.flatMap (fun a => a.1.via)).length = T at *
    go_wp2_with fail
    go_ret
    refine ⟨ret_bool ?_, bT HB0.out Hb.out⟩
    rw [HF.out]
    first | rfl | (rw [Bool.eq_iff_iff]; simp; done) | (rw [Bool.eq_iff_iff]; simp; omega)

end Go.Proofs.YtoclnkfeblfpbaaGreat
