/- Plain law: crossings in their order: a sorted list of the same crossings is the one that is made by inserting each. No walk here. Words for memory of layer 42: crossings, pieces, parts, series. Finding elements: plan.Node, mapsheetsref14.Node, slices.Clone (points), plan.Degree, mapsheetsref14.Degree. Finding arcs: plan.Arc, mapsheetsref14.Arc. Plain words of layer 42: an edge, runs, crossings. No walk here. cmp.Compare at ints. The edge of edgematch: makeEdge, along, off; and of the reference: sided, along, across, on, inner. -/
import Derived.Test.YtfdbidagdjnipaaGreatDoorGB
set_option linter.unusedSimpArgs false
set_option linter.unusedVariables false
namespace Go.Proofs.YtfdbidagdjnipaaGreatDoor

structure Cr where
 pos : Int
 arc : Int
 out : Int
theorem Cr.ext_iff' {a b : Cr} : a = b ↔ a.pos = b.pos ∧ a.arc = b.arc ∧ a.out = b.out := by cases a; cases b; simp
instance : DecidableEq Cr := fun a b =>
 if h : a.pos = b.pos ∧ a.arc = b.arc ∧ a.out = b.out then isTrue (by cases a; cases b; simp_all) else isFalse (by rintro rfl; simp at h)
def crLt (a b : Cr) : Bool := if a.pos = b.pos then (if a.arc = b.arc then decide (a.out < b.out) else decide (a.arc < b.arc)) else decide (a.pos < b.pos)
def insCr (l : List Cr) (c : Cr) : List Cr := l.takeWhile (fun x => !crLt c x) ++ c :: l.dropWhile (fun x => !crLt c x)
def sortCr (l : List Cr) : List Cr := l.foldl insCr []
def flipCr (c : Cr) : Cr := ⟨c.pos, c.arc, if c.out = 0 then 1 else 0⟩

theorem crLt_irrefl (a : Cr) : crLt a a = false := by simp [crLt]
theorem crLt_asymm {a b : Cr} (h : crLt a b = true) : crLt b a = false := by
 unfold crLt at *
 split at h
 ·
  rename_i e
  rw [if_pos e.symm]
  split at h
  ·
   rename_i e'
   rw [if_pos e'.symm]
   simp only [decide_eq_true_eq, decide_eq_false_iff_not] at *
   omega
  ·
   rename_i e'
   rw [if_neg (fun h => e' h.symm)]
   simp only [decide_eq_true_eq, decide_eq_false_iff_not] at *
   omega
 ·
  rename_i e
  rw [if_neg (fun h => e h.symm)]
  simp only [decide_eq_true_eq, decide_eq_false_iff_not] at *
  omega
/-- not after: a total order -/
def leCr (a b : Cr) : Prop := a.pos < b.pos ∨ (a.pos = b.pos ∧ (a.arc < b.arc ∨ (a.arc = b.arc ∧ a.out ≤ b.out)))
theorem leCr_iff (a b : Cr) : leCr a b ↔ crLt b a = false := by
 unfold crLt leCr
 split
 ·
  split
  · simp only [decide_eq_false_iff_not]; omega
  · simp only [decide_eq_false_iff_not]; omega
 · simp only [decide_eq_false_iff_not]; omega
theorem leCr_trans {a b c : Cr} (h1 : leCr a b) (h2 : leCr b c) : leCr a c := by
 unfold leCr at *; omega
theorem leCr_anti {a b : Cr} (h1 : leCr a b) (h2 : leCr b a) : a = b := by
 rw [Cr.ext_iff']; unfold leCr at *; omega

def SortedCr (l : List Cr) : Prop := l.Pairwise leCr
theorem sortedCr_uniq : ∀ {l m : List Cr}, l.Perm m → SortedCr l → SortedCr m → l = m
 | [], m, hp, _, _ => (List.nil_perm.1 hp).symm
 | a :: l, [], hp, _, _ => by have := hp.length_eq; simp at this
 | a :: l, b :: m, hp, h1, h2 => by
  have h1' := List.pairwise_cons.1 h1
  have h2' := List.pairwise_cons.1 h2
  have hab : a = b := by
   have ha : a ∈ b :: m := hp.subset (List.mem_cons_self)
   have hb : b ∈ a :: l := hp.symm.subset (List.mem_cons_self)
   rcases List.mem_cons.1 ha with rfl | ha
   · rfl
   rcases List.mem_cons.1 hb with rfl | hb
   · rfl
   exact leCr_anti (h1'.1 b hb) (h2'.1 a ha)
  subst hab
  rw [sortedCr_uniq (List.Perm.cons_inv hp) h1'.2 h2'.2]
theorem insCr_perm (l : List Cr) (c : Cr) : (insCr l c).Perm (c :: l) := by
 unfold insCr
 refine List.perm_middle.trans ?_
 rw [List.takeWhile_append_dropWhile]
theorem insCr_sorted {l : List Cr} (h : SortedCr l) (c : Cr) : SortedCr (insCr l c) := by
 induction l with
 | nil => simp [insCr, SortedCr]
 | cons a l ih =>
  have h' := List.pairwise_cons.1 h
  unfold insCr
  cases hc : crLt c a
  ·
   have e1 : (a :: l).takeWhile (fun x => !crLt c x) = a :: l.takeWhile (fun x => !crLt c x) := by rw [List.takeWhile_cons]; simp [hc]
   have e2 : (a :: l).dropWhile (fun x => !crLt c x) = l.dropWhile (fun x => !crLt c x) := by rw [List.dropWhile_cons]; simp [hc]
   rw [e1, e2]
   show SortedCr (a :: insCr l c)
   refine List.pairwise_cons.2 ⟨fun x hx => ?_, ih h'.2⟩
   rcases List.mem_cons.1 ((insCr_perm l c).subset hx) with rfl | hx
   · exact (leCr_iff _ _).2 hc
   · exact h'.1 x hx
  ·
   have e1 : (a :: l).takeWhile (fun x => !crLt c x) = [] := by rw [List.takeWhile_cons]; simp [hc]
   have e2 : (a :: l).dropWhile (fun x => !crLt c x) = a :: l := by rw [List.dropWhile_cons]; simp [hc]
   rw [e1, e2, List.nil_append]
   refine List.pairwise_cons.2 ⟨fun x hx => ?_, h⟩
   have hca : leCr c a := (leCr_iff _ _).2 (crLt_asymm hc)
   rcases List.mem_cons.1 hx with rfl | hx
   · exact hca
   · exact leCr_trans hca (h'.1 x hx)
theorem sortCr_fold : ∀ (l acc : List Cr), SortedCr acc → (l.foldl insCr acc).Perm (acc ++ l) ∧ SortedCr (l.foldl insCr acc)
 | [], acc, h => by simpa using h
 | c :: l, acc, h => by
  have := sortCr_fold l (insCr acc c) (insCr_sorted h c)
  refine ⟨this.1.trans ?_, this.2⟩
  refine ((insCr_perm acc c).append_right l).trans ?_
  rw [List.cons_append]
  exact List.perm_middle.symm
theorem sortCr_perm (l : List Cr) : (sortCr l).Perm l := by simpa [sortCr] using (sortCr_fold l [] List.Pairwise.nil).1
theorem sortCr_sorted (l : List Cr) : SortedCr (sortCr l) := (sortCr_fold l [] List.Pairwise.nil).2
theorem sortCr_of {l m : List Cr} (hp : m.Perm l) (hs : SortedCr m) : m = sortCr l := sortedCr_uniq (hp.trans (sortCr_perm l).symm) hs (sortCr_sorted l)
theorem sortCr_congr {l m : List Cr} (hp : m.Perm l) : sortCr m = sortCr l := sortCr_of ((sortCr_perm m).trans hp) (sortCr_sorted m)
theorem sortCr_map (l : List Cr) (f : Cr → Cr) : sortCr ((sortCr l).map f) = sortCr (l.map f) := sortCr_congr ((sortCr_perm l).map f)
theorem sortCr_len (l : List Cr) : (sortCr l).length = l.length := (sortCr_perm l).length_eq
theorem flip_flip {c : Cr} (h : c.out = 0 ∨ c.out = 1) : flipCr (flipCr c) = c := by
 rw [Cr.ext_iff']
 refine ⟨rfl, rfl, ?_⟩
 rcases h with h | h <;> simp [flipCr, h]
theorem flip_twice {l : List Cr} (h : ∀ c ∈ l, c.out = 0 ∨ c.out = 1) : sortCr ((sortCr (l.map flipCr)).map flipCr) = sortCr l := by
 rw [sortCr_map, List.map_map]
 congr 1
 conv => rhs; rw [← List.map_id l]
 exact List.map_congr_left fun c hc => flip_flip (h c hc)
end Go.Proofs.YtfdbidagdjnipaaGreatDoor
namespace Go.Proofs.YtfdbidagdjnipaaGreatDoor
open Go.RowKit

structure Pc where
 arc : Int
 path : List Pt
 enter : Int
 leave : Int
structure Prt where
 sheet : Int
 pieces : List Pc
 nodes : List Nd
structure Se where
 at_ : Pt
 width : Int
 height : Int
 cols : Int
 rows : Int

def crC (c : Cr) : List Value := [.int .i64 c.pos, .int .i64 c.arc, .int .i64 c.out]
def crV (c : Cr) : Value := .agg #[.int .i64 c.pos, .int .i64 c.arc, .int .i64 c.out]
def pcC (x : Pc × Value) : List Value := [.int .i64 x.1.arc, x.2, .int .i64 x.1.enter, .int .i64 x.1.leave]
def pcV (x : Pc) (v : Value) : Value := .agg #[.int .i64 x.arc, v, .int .i64 x.enter, .int .i64 x.leave]
def seV (s : Se) : Value := .agg #[.int .i64 s.at_.x, .int .i64 s.at_.y, .int .i64 s.width, .int .i64 s.height, .int .i64 s.cols, .int .i64 s.rows]
theorem crC_len (p : Cr) : (crC p).length = 3 := rfl
theorem pcC_len (p : Pc × Value) : (pcC p).length = 4 := rfl
theorem crC_one (p : Cr) : ∀ u ∈ crC p, u.oneCell' = true := by simp [crC, Value.oneCell']

def Crs (w : World) (v : Value) (l : List Cr) : Prop := Sl w v l.length (l.flatMap crC)
/-- The pieces, each with its value in the cell of its Path. -/
def Paths (w : World) (l : List (Pc × Value)) : Prop := ∀ k (hk : k < l.length), Pts w l[k].2 l[k].1.path
def Pcs (w : World) (v : Value) (l : List (Pc × Value)) : Prop := Sl w v l.length (l.flatMap pcC) ∧ Paths w l
def PrtV (w : World) (v : Value) (x : Prt) : Prop :=
 ∃ vp vn pl, v = .agg #[.int .i64 x.sheet, vp, vn] ∧ x.pieces = pl.map (·.1) ∧ Pcs w vp pl ∧ Nds w vn x.nodes
def prC (x : Prt × Value × Value) : List Value := [.int .i64 x.1.sheet, x.2.1, x.2.2]
theorem prC_len (p : Prt × Value × Value) : (prC p).length = 3 := rfl
/-- A list of parts, each with its values in the cells of its pieces and nodes. -/
def Prts (w : World) (v : Value) (l : List (Prt × Value × Value)) : Prop :=
 Sl w v l.length (l.flatMap prC) ∧ ∀ k (hk : k < l.length), PrtV w (.agg #[.int .i64 l[k].1.sheet, l[k].2.1, l[k].2.2]) l[k].1

section
variable {w w' : World} {v : Value}
theorem Crs.mono {l : List Cr} (h : Crs w v l) (hb : Below w.heap.size w w') : Crs w' v l := Sl.mono h hb
theorem Paths.mono {l : List (Pc × Value)} (h : Paths w l) (hb : Below w.heap.size w w') : Paths w' l := fun k hk => (h k hk).mono hb
theorem Pcs.mono {l : List (Pc × Value)} (h : Pcs w v l) (hb : Below w.heap.size w w') : Pcs w' v l := ⟨Sl.mono h.1 hb, h.2.mono hb⟩
theorem PrtV.mono {x : Prt} (h : PrtV w v x) (hb : Below w.heap.size w w') : PrtV w' v x := by
 obtain ⟨vp, vn, pl, hv, hp, h1, h2⟩ := h
 exact ⟨vp, vn, pl, hv, hp, h1.mono hb, h2.mono hb⟩
theorem Prts.mono {l : List (Prt × Value × Value)} (h : Prts w v l) (hb : Below w.heap.size w w') : Prts w' v l := ⟨Sl.mono h.1 hb, fun k hk => (h.2 k hk).mono hb⟩
end
section
variable {w : World} {A : Option Addr}
theorem Row.cr {l : List Cr} (h : Row w A (l.flatMap crC)) {k : Nat} (hk : k < l.length) :
  ∃ b o, A = some ⟨b, o, none⟩ ∧ b < w.heap.size ∧ w.cell? ⟨b, o + k * 3, none⟩ = some (.int .i64 l[k].pos) ∧ w.cell? ⟨b, o + k * 3 + 1, none⟩ = some (.int .i64 l[k].arc) ∧ w.cell? ⟨b, o + k * 3 + 2, none⟩ = some (.int .i64 l[k].out) := by
 obtain ⟨b, o, hA, hb, hc⟩ := h.at_ (n := 3) (fun _ => rfl) hk (by omega)
 exact ⟨b, o, hA, hb, hc 0 _ rfl, hc 1 _ rfl, hc 2 _ rfl⟩
theorem Row.pc {l : List (Pc × Value)} (h : Row w A (l.flatMap pcC)) {k : Nat} (hk : k < l.length) :
  ∃ b o, A = some ⟨b, o, none⟩ ∧ b < w.heap.size ∧ w.cell? ⟨b, o + k * 4, none⟩ = some (.int .i64 l[k].1.arc) ∧ w.cell? ⟨b, o + k * 4 + 1, none⟩ = some l[k].2 ∧ w.cell? ⟨b, o + k * 4 + 2, none⟩ = some (.int .i64 l[k].1.enter) ∧ w.cell? ⟨b, o + k * 4 + 3, none⟩ = some (.int .i64 l[k].1.leave) := by
 obtain ⟨b, o, hA, hb, hc⟩ := h.at_ (n := 4) (fun _ => rfl) hk (by omega)
 exact ⟨b, o, hA, hb, hc 0 _ rfl, hc 1 _ rfl, hc 2 _ rfl, hc 3 _ rfl⟩
theorem Row.prt {l : List (Prt × Value × Value)} (h : Row w A (l.flatMap prC)) {k : Nat} (hk : k < l.length) :
  ∃ b o, A = some ⟨b, o, none⟩ ∧ b < w.heap.size ∧ w.cell? ⟨b, o + k * 3, none⟩ = some (.int .i64 l[k].1.sheet) ∧ w.cell? ⟨b, o + k * 3 + 1, none⟩ = some l[k].2.1 ∧ w.cell? ⟨b, o + k * 3 + 2, none⟩ = some l[k].2.2 := by
 obtain ⟨b, o, hA, hb, hc⟩ := h.at_ (n := 3) (fun _ => rfl) hk (by omega)
 exact ⟨b, o, hA, hb, hc 0 _ rfl, hc 1 _ rfl, hc 2 _ rfl⟩
end
theorem elem_cr : Elem Tryz.prog 48 70 3 24 := Elem.mk_ (z := .agg #[.int .i64 0, .int .i64 0, .int .i64 0]) (by kernel_rfl) (by kernel_rfl) rfl (by omega)
theorem run_neq_cr (a b : Cr) (W : World) : (binOp .neq 70 (.agg #[.int .i64 a.pos, .int .i64 a.arc, .int .i64 a.out]) (.agg #[.int .i64 b.pos, .int .i64 b.arc, .int .i64 b.out])).run Tryz.prog W = .ok (.bool (!decide (a = b))) W := by
 by_cases h : a = b
 ·
  subst h
  go_simp
 ·
  have h' : ¬ (a.pos = b.pos ∧ a.arc = b.arc ∧ a.out = b.out) := fun e => h (Cr.ext_iff'.2 e)
  by_cases hi : (a.pos == b.pos) = true
  ·
   have hi' : a.pos = b.pos := by simpa using hi
   by_cases hx : (a.arc == b.arc) = true
   ·
    have hx' : a.arc = b.arc := by simpa using hx
    have hy : (a.out == b.out) = false := by simpa [hi', hx'] using h'
    clear hi' hx'
    go_simp
   ·
    have hx' : (a.arc == b.arc) = false := by simpa using hx
    clear hx hi'
    go_simp
  ·
   have hi' : (a.pos == b.pos) = false := by simpa using hi
   clear hi
   go_simp
end Go.Proofs.YtfdbidagdjnipaaGreatDoor
namespace Go.Proofs.YtfdbidagdjnipaaGreatDoor
open Go.RowKit

def findNd (l : List Nd) (id : Int) : Option Nd := l.find? (fun n => n.id == id)
def nd0 : Nd := ⟨0, ⟨0, 0⟩⟩
def ndRes (r : Option Nd) : Value := .tuple #[ndV (r.getD nd0), .bool r.isSome]

theorem PlV.nodes {w : World} {vn va vf : Value} {p : Pl} (h : PlV w (.agg #[vn, va, vf]) p) : Nds w vn p.nodes := by
 obtain ⟨_, _, _, _, e, _, h1, _, _⟩ := h
 simp only [Value.agg.injEq, Array.mk.injEq, List.cons.injEq, and_true] at e
 obtain ⟨rfl, rfl, rfl⟩ := e
 exact h1

set_option maxHeartbeats 400000 in
theorem Node_spec (v : Value) (p : Pl) (id : Int) (w : World) (h : PlV w v p) :
  Calls Tryz.prog 70 #[v, .int .i64 id] w fun e w' => e = .returned (ndRes (findNd p.nodes id)) ∧ Below w.heap.size w w' := by
 obtain ⟨_, va, vf, al, rfl, hpa, ⟨An, cn, rfl, hn1, hn2, hR⟩, -, -⟩ := h
 unfold maxLen at hn2
 generalize p.nodes = l at *
 clear hpa
 go_enter Tryz.func70, Tryz.ntmps70
 go_wp2_with fail
 go_loopw [11] (fun i wr => ∃ k : Nat, k ≤ l.length ∧ i = .int .i64 k ∧ Below w.heap.size w wr ∧ Blk wr (w.heap.size + 1) 93 #[.int .i64 0, .int .i64 0, .int .i64 0] ∧ ∀ j (hj : j < l.length), j < k → (l[j].id == id) = false) (fun i _ => l.length - (intOf i).toNat)
 case atStart => exact ⟨0, Nat.zero_le _, rfl, bA (bA (bR w) _) _, Blk.made (by simp) _ _, fun j _ h => by omega⟩
 case round =>
  obtain ⟨k, hk, rfl, hb, X4, hno⟩ := hrel
  have Hb := Lib.hid hb
  have Hno := Lib.hid hno
  clear hb hno
  obtain ⟨X4l, X4a, X4b, X4c, X4fa, X4fb, X4fc⟩ := X4.facts3
  by_cases hlt : k < l.length
  ·
   obtain ⟨b, o, rfl, hlb, c0, c1, c2⟩ := (hR.mono Hb.out).nd hlt
   have HR := Lib.hid hR; clear hR
   cases he : (l[k].id == id)
   ·
    go_wp2
    go_roundw
    case rel => exact ⟨k + 1, by omega, by go_num, bA Hb.out _, X4.alloc _, all_succ (p := fun x => (x.id == id) = false) Hno.out hlt he⟩
    case measure => simp [intOf]; omega
   ·
    have hf := find_hit l (fun n => n.id == id) k hlt Hno.out he
    have Hf := Lib.hid hf; clear hf
    go_wp2
    have Bw := Hb.out
    refine res_cell_tmp (g := w.heap.size + 1) (cs := #[.int .i64 l[k].id, .int .i64 l[k].pt.x, .int .i64 l[k].pt.y]) rfl struct_nd rfl rfl (Blk.put3 X4 |>.alloc _) ⟨by rw [findNd, Hf.out]; rfl, ?_⟩
    repeat (first | with_reducible exact bR _ | with_reducible assumption | with_reducible refine bA ?_ _ | with_reducible refine bD ?_ | with_reducible refine bN ?_ _ | ((with_reducible refine bS ?_ ?_ _); rotate_left; (simp; try omega)) | ((with_reducible refine bT ?_ ?_); rotate_left; with_reducible assumption) | with_reducible refine bT ?_ (by assumption))
  ·
   have hf := find_miss l (fun n => n.id == id) (fun j hj => Hno.out j hj (by omega))
   have Hf := Lib.hid hf; clear hf
   go_wp2
   have Bw := Hb.out
   refine res_cell_tmp (g := w.heap.size + 1) (cs := #[.int .i64 0, .int .i64 0, .int .i64 0]) rfl struct_nd rfl rfl (Blk.put3 X4) ⟨by rw [findNd, Hf.out]; rfl, ?_⟩
   repeat (first | with_reducible exact bR _ | with_reducible assumption | with_reducible refine bA ?_ _ | with_reducible refine bD ?_ | with_reducible refine bN ?_ _ | ((with_reducible refine bS ?_ ?_ _); rotate_left; (simp; try omega)) | ((with_reducible refine bT ?_ ?_); rotate_left; with_reducible assumption) | with_reducible refine bT ?_ (by assumption))

set_option maxHeartbeats 400000 in
theorem RNode_spec (v : Value) (p : Pl) (id : Int) (w : World) (h : PlV w v p) :
  Calls Tryz.prog 47 #[v, .int .i64 id] w fun e w' => e = .returned (ndRes (findNd p.nodes id)) ∧ Below w.heap.size w w' := by
 obtain ⟨_, va, vf, al, rfl, hpa, ⟨An, cn, rfl, hn1, hn2, hR⟩, -, -⟩ := h
 unfold maxLen at hn2
 generalize p.nodes = l at *
 clear hpa
 go_enter Tryz.func47, Tryz.ntmps47
 go_wp2_with fail
 go_loopw [6] (fun i wr => ∃ k : Nat, k ≤ l.length ∧ i = .int .i64 k ∧ Below w.heap.size w wr ∧ Blk wr w.heap.size 26 #[.slice An l.length cn, va, vf] ∧ Blk wr (w.heap.size + 1) 93 #[.int .i64 0, .int .i64 0, .int .i64 0] ∧ ∀ j (hj : j < l.length), j < k → (l[j].id == id) = false) (fun i _ => l.length - (intOf i).toNat)
 case atStart => exact ⟨0, Nat.zero_le _, rfl, bA (bA (bR w) _) _, (Blk.made rfl _ _).alloc _, Blk.made (by simp) _ _, fun j _ h => by omega⟩
 case round =>
  obtain ⟨k, hk, rfl, hb, X2, X4, hno⟩ := hrel
  have Hb := Lib.hid hb
  have Hno := Lib.hid hno
  clear hb hno
  obtain ⟨X2l, X2a, X2b, X2c, -, -, -⟩ := X2.facts3
  obtain ⟨X4l, X4a, X4b, X4c, X4fa, X4fb, X4fc⟩ := X4.facts3
  by_cases hlt : k < l.length
  ·
   obtain ⟨b, o, rfl, hlb, c0, c1, c2⟩ := (hR.mono Hb.out).nd hlt
   have HR := Lib.hid hR; clear hR
   cases he : (l[k].id == id)
   ·
    go_wp2
    go_roundw
    case rel => exact ⟨k + 1, by omega, by go_num, Hb.out, X2, X4, all_succ (p := fun x => (x.id == id) = false) Hno.out hlt he⟩
    case measure => simp [intOf]; omega
   ·
    have hf := find_hit l (fun n => n.id == id) k hlt Hno.out he
    have Hf := Lib.hid hf; clear hf
    go_wp2
    have Bw := Hb.out
    refine res_cell_tmp (g := w.heap.size + 1) (cs := #[.int .i64 l[k].id, .int .i64 l[k].pt.x, .int .i64 l[k].pt.y]) rfl struct_nd rfl rfl (Blk.put3 X4) ⟨by rw [findNd, Hf.out]; rfl, ?_⟩
    repeat (first | with_reducible exact bR _ | with_reducible assumption | with_reducible refine bA ?_ _ | with_reducible refine bD ?_ | with_reducible refine bN ?_ _ | ((with_reducible refine bS ?_ ?_ _); rotate_left; (simp; try omega)) | ((with_reducible refine bT ?_ ?_); rotate_left; with_reducible assumption) | with_reducible refine bT ?_ (by assumption))
  ·
   have hf := find_miss l (fun n => n.id == id) (fun j hj => Hno.out j hj (by omega))
   have Hf := Lib.hid hf; clear hf
   go_wp2
   have Bw := Hb.out
   refine res_cell_tmp (g := w.heap.size + 1) (cs := #[.int .i64 0, .int .i64 0, .int .i64 0]) rfl struct_nd rfl rfl (Blk.put3 X4) ⟨by rw [findNd, Hf.out]; rfl, ?_⟩
   repeat (first | with_reducible exact bR _ | with_reducible assumption | with_reducible refine bA ?_ _ | with_reducible refine bD ?_ | with_reducible refine bN ?_ _ | ((with_reducible refine bS ?_ ?_ _); rotate_left; (simp; try omega)) | ((with_reducible refine bT ?_ ?_); rotate_left; with_reducible assumption) | with_reducible refine bT ?_ (by assumption))

/-- A slice of points of the call's own. -/
def RetPts (w : World) (l : List Pt) (e : Ending) (w' : World) : Prop :=
 ∃ A c, e = .returned (.slice A l.length c) ∧ Below w.heap.size w w' ∧ Own w' w.heap.size 28 2 ptC (.slice A l.length c) l

set_option maxHeartbeats 400000 in
theorem Clone_pt_spec (v : Value) (l : List Pt) (w : World) (h : Pts w v l) (hl : l.length ≤ 1048576) :
  Calls Tryz.prog 103 #[v] w (RetPts w l) := by
 have H := h
 obtain ⟨A, c, rfl, hn, hc, hR⟩ := h
 have hE := Lib.run_eql_slice_nil (P := Tryz.prog) (t := 56) (e := 28)
 rcases A with _ | ad
 ·
  have hl0 : l = [] := by
   rcases l with _ | ⟨a, l⟩
   · rfl
   ·
    obtain ⟨b, o, e, _⟩ := hR (by simp [ptC])
    cases e
  subst hl0
  clear hR H
  simp only [List.length_nil] at hn ⊢
  have hE1 : ∀ W : World, (binOp .eql 56 (.slice none 0 c) (.slice none 0 0)).run Tryz.prog W = .ok (.bool true) W := fun W => Lib.run_eql_slice_nil W _ 28 none _ c 0 0 Tryz.underlying56
  clear hE
  go_enter Tryz.func103, Tryz.ntmps103
  go_wp2
  go_ret
  exact ⟨_, _, rfl, bR w, Own.nil _ _ _ _ _⟩
 ·
  have hE1 : ∀ W : World, (binOp .eql 56 (.slice (some ad) l.length c) (.slice none 0 0)).run Tryz.prog W = .ok (.bool false) W := fun W => Lib.run_eql_slice_nil W _ 28 (some ad) _ c 0 0 Tryz.underlying56
  clear hE hR
  have HH := Lib.hid H; clear H
  go_enter Tryz.func103, Tryz.ntmps103
  go_wp2_with
   (at_builtin
    refine wpList_appl _ rfl (.tmp 5) (.tmp 6) _ rfl (base := w.heap.size) elem_pt ptC_len ptC_one rfl (Own.lit _ _ _ _ ptC [] _ 0 _ rfl rfl (Nat.le_refl _) (le_maxLen (by omega)) rfl rfl) rfl (HH.out.mono (bA (bR w) _)) (by simp only [List.length_nil]; omega) (by simp only [List.length_nil]; omega) (by simp) ?_
    intro v1 w1 hown hg hat)
  go_ret
  obtain ⟨A1, c1, rfl, -⟩ := Own.sl hown
  simp only [List.nil_append] at hown ⊢
  exact ⟨A1, c1, rfl, bG (bA (bR w) _) hg (fun k hk => by have : w.heap.size = k := Option.some.inj hk; omega), hown⟩
end Go.Proofs.YtfdbidagdjnipaaGreatDoor
namespace Go.Proofs.YtfdbidagdjnipaaGreatDoor
open Go.RowKit

def findAr (l : List Ar) (id : Int) : Option Ar := l.find? (fun a => a.id == id)
def ar0 : Ar := ⟨0, 0, 0, [], 0, 0⟩
def ArRes (w : World) (r : Option Ar) (e : Ending) (w' : World) : Prop :=
 ∃ v', e = .returned (.tuple #[arV (r.getD ar0) v', .bool r.isSome]) ∧ Below w.heap.size w w' ∧ Pts w' v' (r.getD ar0).via
/-- No Via is very long. -/
def Short (p : Pl) : Prop := ∀ a ∈ p.arcs, a.via.length ≤ 1048576

theorem Sl.nil (w : World) : Sl w (.slice none 0 0) 0 [] := ⟨none, 0, rfl, Nat.le_refl _, le_maxLen (by omega), Row.nil⟩

theorem findAr_hit (al : List (Ar × Value)) (id : Int) (k : Nat) (hk : k < al.length) (h : ∀ j (hj : j < al.length), j < k → (al[j].1.id == id) = false) (he : (al[k].1.id == id) = true) :
  findAr (al.map (·.1)) id = some al[k].1 := by
 have := find_hit al (fun a => a.1.id == id) k hk h he
 rw [findAr, List.find?_map]
 show (al.find? (fun a => a.1.id == id)).map _ = _
 rw [this]
 rfl
theorem findAr_miss (al : List (Ar × Value)) (id : Int) (h : ∀ j (hj : j < al.length), (al[j].1.id == id) = false) : findAr (al.map (·.1)) id = none := by
 have := find_miss al (fun a => a.1.id == id) h
 rw [findAr, List.find?_map]
 show (al.find? (fun a => a.1.id == id)).map _ = _
 rw [this]
 rfl

set_option maxHeartbeats 4000000 in
theorem Arc_spec (v : Value) (p : Pl) (id : Int) (w : World) (h : PlV w v p) (hsh : Short p) :
  Calls Tryz.prog 69 #[v, .int .i64 id] w (ArRes w (findAr p.arcs id)) := by
 obtain ⟨vn, _, vf, al, rfl, hpa, -, ⟨⟨An, cn, rfl, hn1, hn2, hR⟩, hV⟩, -⟩ := h
 unfold maxLen at hn2
 unfold Short at hsh
 rw [hpa] at hsh ⊢
 clear hpa
 have hsh' : ∀ k (hk : k < al.length), al[k].1.via.length ≤ 1048576 := fun k hk => hsh _ (List.mem_map_of_mem (List.getElem_mem hk))
 have HV := Lib.hid hV; clear hV hsh
 have HSh := Lib.hid hsh'; clear hsh'
 go_enter Tryz.func69, Tryz.ntmps69
 go_wp2_with fail
 go_loopw [11] (fun i wr => ∃ k : Nat, k ≤ al.length ∧ i = .int .i64 k ∧ Below w.heap.size w wr ∧ Blk wr (w.heap.size + 1) 58 #[.int .i64 0, .int .i64 0, .int .i64 0, .slice none 0 0, .int .i64 0, .int .i64 0] ∧ ∀ j (hj : j < al.length), j < k → (al[j].1.id == id) = false) (fun i _ => al.length - (intOf i).toNat)
 case atStart => exact ⟨0, Nat.zero_le _, rfl, bA (bA (bR w) _) _, Blk.made (by simp) _ _, fun j _ h => by omega⟩
 case round =>
  obtain ⟨k, hk, rfl, hb, X4, hno⟩ := hrel
  have Hb := Lib.hid hb
  have Hno := Lib.hid hno
  clear hb hno
  obtain ⟨X4l, X4a, X4b, X4c, X4d, X4e, X4f, X4fa, X4fb, X4fc, X4fd, X4fe, X4ff⟩ := X4.facts6
  by_cases hlt : k < al.length
  ·
   obtain ⟨b, o, rfl, hlb, c0, c1, c2, c3, c4, c5⟩ := (hR.mono Hb.out).ar hlt
   have HR := Lib.hid hR; clear hR
   have hvk := (HV.out k hlt)
   obtain ⟨Av, cv, hv, -⟩ := hvk
   have hvk := (HV.out k hlt)
   rw [hv] at c3 hvk
   generalize hvl : al[k].1.via.length = vl at *
   have Hvl := Lib.hid hvl
   have Hvk := Lib.hid hvk; clear hvk hv hvl
   cases he : (al[k].1.id == id)
   ·
    go_wp2
    go_roundw
    case rel => exact ⟨k + 1, by omega, by go_num, bA Hb.out _, X4.alloc _, all_succ (p := fun x => (x.1.id == id) = false) Hno.out hlt he⟩
    case measure => simp [intOf]; omega
   ·
    have hf := findAr_hit al id k hlt Hno.out he
    have Hf := Lib.hid hf; clear hf
    go_wp2_with fail
    refine (Clone_pt_spec _ _ _ (Hvk.out.mono (bA Hb.out _)) (HSh.out k hlt)).mono ?_
    rintro e w1 ⟨A1, cc1, rfl, hb1, hown⟩
    have Bw : Below w.heap.size w w1 := bT (bA Hb.out _) hb1
    have X7 : Blk w1 wr.heap.size 58 #[.int .i64 al[k].1.id, .int .i64 al[k].1.fr,   .int .i64 al[k].1.dst, .slice Av vl cv, .int .i64 al[k].1.left, .int .i64 al[k].1.right] := (Blk.made rfl _ _).keep hb1
    have hw8 : w.heap.size + 1 < wr.heap.size := by omega
    have hw7 : w.heap.size + 1 ≠ wr.heap.size := by omega
    replace X4 := (X4.alloc _).keep hb1
    have hown' := hown.mono_base (b' := wr.heap.size + 1) (by simp)
    have hP := Own.sl hown
    have Hown := Lib.hid hown'
    clear hb1 c0 c1 c2 c3 c4 c5 hlb hown hown' hP
    try clear X4l
    try clear X4a
    try clear X4b
    try clear X4c
    try clear X4d
    try clear X4e
    try clear X4f
    try clear X4fa
    try clear X4fb
    try clear X4fc
    try clear X4fd
    try clear X4fe
    try clear X4ff
    obtain ⟨X4l, X4a, X4b, X4c, X4d, X4e, X4f, X4fa, X4fb, X4fc, X4fd, X4fe, X4ff⟩ := X4.facts6
    obtain ⟨X7l, X7a, X7b, X7c, X7d, X7e, X7f, X7fa, X7fb, X7fc, X7fd, X7fe, X7ff⟩ := X7.facts6
    go_wp2_with fail
    have hszr := Hb.out.size
    have ne7 : (Value.slice A1 al[k].1.via.length cc1).ownBlock ≠ some wr.heap.size := fun e => by have := (Hown.out.lt _ e).1; omega
    have ne4 : (Value.slice A1 al[k].1.via.length cc1).ownBlock ≠ some (w.heap.size + 1) := fun e => by have := (Hown.out.lt _ e).1; omega
    have HP := Own.sl (((((((Hown.out.far (p := ⟨wr.heap.size, 3, none⟩) ne7 (.slice A1 al[k].1.via.length cc1)).far (p := ⟨w.heap.size + 1, 0, none⟩) ne4 (.int .i64 al[k].1.id)).far (p := ⟨w.heap.size + 1, 1, none⟩) ne4 (.int .i64 al[k].1.fr)).far (p := ⟨w.heap.size + 1, 2, none⟩) ne4 (.int .i64 al[k].1.dst)).far (p := ⟨w.heap.size + 1, 3, none⟩) ne4 (.slice A1 al[k].1.via.length cc1)).far (p := ⟨w.heap.size + 1, 4, none⟩) ne4 (.int .i64 al[k].1.left)).far (p := ⟨w.heap.size + 1, 5, none⟩) ne4 (.int .i64 al[k].1.right))
    refine res_cell_tmp (g := w.heap.size + 1) (cs := #[.int .i64 al[k].1.id, .int .i64 al[k].1.fr, .int .i64 al[k].1.dst, .slice A1 al[k].1.via.length cc1, .int .i64 al[k].1.left, .int .i64 al[k].1.right]) rfl struct_ar rfl rfl (Blk.put6 (X4.far (p := ⟨wr.heap.size, 3, none⟩) hw7 _)) ⟨.slice A1 al[k].1.via.length cc1, by rw [Hf.out]; rfl, ?_, by rw [Hf.out]; exact HP⟩
    repeat (first | with_reducible exact bR _ | with_reducible assumption | with_reducible refine bA ?_ _ | with_reducible refine bD ?_ | with_reducible refine bN ?_ _ | ((with_reducible refine bS ?_ ?_ _); rotate_left; (simp; try omega)) | ((with_reducible refine bT ?_ ?_); rotate_left; with_reducible assumption) | with_reducible refine bT ?_ (by assumption))
  ·
   have hf := findAr_miss al id (fun j hj => Hno.out j hj (by omega))
   have Hf := Lib.hid hf; clear hf
   go_wp2
   have Bw := Hb.out
   refine res_cell_tmp (g := w.heap.size + 1) (cs := #[.int .i64 0, .int .i64 0, .int .i64 0, .slice none 0 0, .int .i64 0, .int .i64 0]) rfl struct_ar rfl rfl (Blk.put6 X4) ⟨.slice none 0 0, by rw [Hf.out]; rfl, ?_, by rw [Hf.out]; exact Sl.nil _⟩
   repeat (first | with_reducible exact bR _ | with_reducible assumption | with_reducible refine bA ?_ _ | with_reducible refine bD ?_ | with_reducible refine bN ?_ _ | ((with_reducible refine bS ?_ ?_ _); rotate_left; (simp; try omega)) | ((with_reducible refine bT ?_ ?_); rotate_left; with_reducible assumption) | with_reducible refine bT ?_ (by assumption))
end Go.Proofs.YtfdbidagdjnipaaGreatDoor
namespace Go.Proofs.YtfdbidagdjnipaaGreatDoor
open Go.RowKit

structure Ed where
 side : Int
 upright : Bool
 line : Int
 lo : Int
 hi : Int
def edOf (b : Bx) (side : Int) : Option Ed :=
 if side = 1 then some ⟨1, true, b.x0, b.y0, b.y1⟩
 else if side = 2 then some ⟨2, false, b.y0, b.x0, b.x1⟩
 else if side = 3 then some ⟨3, true, b.x1, b.y0, b.y1⟩
 else if side = 4 then some ⟨4, false, b.y1, b.x0, b.x1⟩
 else none
def ed0 : Ed := ⟨0, false, 0, 0, 0⟩
def posS (g : Ed) : Bool := decide (g.side = 1) || decide (g.side = 2)
def edV (g : Ed) : Value := .agg #[.int .i64 g.side, .bool g.upright, .int .i64 g.line, .int .i64 g.lo, .int .i64 g.hi]
def alongS (g : Ed) (p : Pt) : Int := if g.upright then p.y else p.x
def acrossS (g : Ed) (p : Pt) : Int := if g.upright then p.x else p.y
def onE (g : Ed) (p : Pt) : Bool := decide (acrossS g p = g.line)
def innerS (g : Ed) (p : Pt) : Bool := if posS g then decide (g.line < acrossS g p) else decide (acrossS g p < g.line)
def strictS (g : Ed) (ns : List Nd) (p : Pt) : Bool := !ns.any (fun n => decide (n.pt = p)) && (decide (g.lo < alongS g p) && decide (alongS g p < g.hi))
def firstP (l : List Pt) : Pt := l.getD 0 ⟨0, 0⟩
def lastP (l : List Pt) : Pt := l.getD (l.length - 1) ⟨0, 0⟩
def openS (g : Ed) (ns : List Nd) (run : List Pt) : Bool := decide (0 < run.length) && (strictS g ns (firstP run) && strictS g ns (lastP run))
def leadN (g : Ed) (l : List Pt) : Nat := (l.takeWhile (onE g)).length
def trailN (g : Ed) (l : List Pt) : Nat := l.length - (l.reverse.takeWhile (onE g)).length
def enterS (g : Ed) (y : Pc) : List Pt :=
 if y.enter ≠ g.side then []
 else if leadN g y.path = y.path.length then (if y.leave = 0 ∨ y.leave = g.side then [] else y.path.take (if 1 < y.path.length then y.path.length - 1 else y.path.length))
 else y.path.take (leadN g y.path)
def leaveS (g : Ed) (y : Pc) : List Pt :=
 if y.leave ≠ g.side then []
 else if trailN g y.path = 0 then (if y.enter = 0 ∨ y.enter = g.side then [] else y.path.drop (if 1 < y.path.length then 1 else 0))
 else y.path.drop (trailN g y.path)
def pieceS (g : Ed) (ns : List Nd) (y : Pc) : List Cr :=
 (if openS g ns (enterS g y) then [⟨alongS g (lastP (enterS g y)), y.arc, 0⟩] else []) ++ (if openS g ns (leaveS g y) then [⟨alongS g (lastP (leaveS g y)), y.arc, 1⟩] else [])
def crossL (g : Ed) (x : Prt) : List Cr := x.pieces.flatMap (pieceS g x.nodes)
/-- Crossings: the list and the error. -/
def crossResS (x : Prt) (b : Bx) (side : Int) : List Cr × Int :=
 match edOf b side with
 | none => ([], 1)
 | some g => (sortCr (crossL g x), 0)
def oppS (l : List Cr) : List Cr := sortCr (l.map flipCr)

theorem leadN_all (g : Ed) (l : List Pt) : leadN g l = l.length ↔ l.all (onE g) = true := by
 unfold leadN
 induction l with
 | nil => simp
 | cons a l ih =>
  rw [List.takeWhile_cons, List.all_cons]
  cases h : onE g a
  · simp
  · simpa [h] using ih
theorem trailN_all (g : Ed) (l : List Pt) : trailN g l = 0 ↔ l.all (onE g) = true := by
 have h := leadN_all g l.reverse
 unfold leadN at h
 rw [List.length_reverse, List.all_reverse] at h
 rw [← h]
 unfold trailN
 have := (List.takeWhile_prefix (onE g) (l := l.reverse)).length_le
 rw [List.length_reverse] at this
 omega
theorem leadN_step {g : Ed} {l : List Pt} {k : Nat} (hk : k < l.length) (h : ∀ j (hj : j < l.length), j < k → onE g l[j] = true) : (onE g l[k] = false → leadN g l = k) := by
 intro hn
 unfold leadN
 induction l generalizing k with
 | nil => simp at hk
 | cons a l ih =>
  cases k with
  | zero =>
   simp only [List.getElem_cons_zero] at hn
   rw [List.takeWhile_cons, hn]; rfl
  | succ k =>
   have h0 := h 0 (by simp) (by omega)
   simp only [List.getElem_cons_zero] at h0
   rw [List.takeWhile_cons, h0]
   simp only [List.getElem_cons_succ] at hn
   simp only [if_true, List.length_cons]
   rw [ih (k := k) (by simpa using hk) (fun j hj hjk => by have h1 := h (j + 1) (by simpa using hj) (by omega); simpa only [List.getElem_cons_succ] using h1) hn]
theorem leadN_end {g : Ed} {l : List Pt} (h : ∀ j (hj : j < l.length), onE g l[j] = true) : leadN g l = l.length := by
 rw [leadN_all, List.all_eq_true]
 intro x hx
 obtain ⟨j, hj, rfl⟩ := List.mem_iff_getElem.1 hx
 exact h j hj
theorem trailN_step {g : Ed} {l : List Pt} {k : Nat} (hk0 : 0 < k) (hk : k ≤ l.length) (h : ∀ j (hj : j < l.length), k ≤ j → onE g l[j] = true) (hn : onE g (l[k - 1]'(by omega)) = false) : trailN g l = k := by
 have h2 := leadN_step (g := g) (l := l.reverse) (k := l.length - k) (by rw [List.length_reverse]; omega) (fun j hj hjk => by
  rw [List.getElem_reverse]
  rw [List.length_reverse] at hj
  exact h _ _ (by omega)) (by
   rw [List.getElem_reverse]
   have : l.length - 1 - (l.length - k) = k - 1 := by omega
   simp only [this]
   exact hn)
 unfold leadN at h2
 unfold trailN
 rw [h2]
 omega
theorem trailN_end {g : Ed} {l : List Pt} (h : ∀ j (hj : j < l.length), onE g l[j] = true) : trailN g l = 0 := by
 rw [trailN_all, List.all_eq_true]
 intro x hx
 obtain ⟨j, hj, rfl⟩ := List.mem_iff_getElem.1 hx
 exact h j hj
end Go.Proofs.YtfdbidagdjnipaaGreatDoor
namespace Go.Proofs.YtfdbidagdjnipaaGreatDoor
open Go.RowKit

set_option maxHeartbeats 400000 in
theorem isNaN_int_spec (x : Int) (w : World) : Calls Tryz.prog 102 #[.int .i64 x] w fun e w' => e = .returned (.bool false) ∧ w = w' := by
 have hx : (x != x) = false := by simp
 go_enter Tryz.func102, Tryz.ntmps102
 go_wp2_with fail
 go_ret
 exact ⟨by simp, rfl⟩

def cmpI (x y : Int) : Int := if x < y then -1 else if y < x then 1 else 0
set_option maxHeartbeats 400000 in
theorem Compare_int_spec (x y : Int) (w : World) : Calls Tryz.prog 68 #[.int .i64 x, .int .i64 y] w fun e w' => e = .returned (.int .i64 (cmpI x y)) ∧ w = w' := by
 have HN := Lib.hid (fun (z : Int) (W : World) => isNaN_int_spec z W)
 obtain ⟨q, hq⟩ : ∃ q, cmpI x y = q := ⟨_, rfl⟩
 rw [hq]
 have Hq := Lib.hid hq; clear hq
 go_enter Tryz.func68, Tryz.ntmps68
 go_wp2_with fail
 refine (HN.out _ _).mono ?_
 rintro e w' ⟨rfl, rfl⟩
 go_wp2_with fail
 refine (HN.out _ _).mono ?_
 rintro e w' ⟨rfl, rfl⟩
 go_wp2_with fail
 all_goals
  go_ret
  refine ⟨ret_int ?_, rfl⟩
  rw [← Hq.out]
  unfold cmpI
  first | rw [if_pos (by assumption)] | (rw [if_neg (by assumption), if_pos (by assumption)]) | (rw [if_neg (by assumption), if_neg (by assumption)]) | (split <;> (try split) <;> omega)

end Go.Proofs.YtfdbidagdjnipaaGreatDoor
namespace Go.Proofs.YtfdbidagdjnipaaGreatDoor
open Go.RowKit

theorem struct_ed : StructOf Tryz.prog 78 5 := .mk_ Tryz.underlying78 (by kernel_rfl)
theorem Blk.facts5 {w : World} {g : Nat} {t : TypeId} {v0 v1 v2 v3 v4 : Value} (h : Blk w g t #[v0, v1, v2, v3, v4]) : g < w.heap.size ∧ w.cell? ⟨g, 0, none⟩ = some v0 ∧ w.cell? ⟨g, 1, none⟩ = some v1 ∧ w.cell? ⟨g, 2, none⟩ = some v2 ∧ w.cell? ⟨g, 3, none⟩ = some v3 ∧ w.cell? ⟨g, 4, none⟩ = some v4 ∧ w.frozen? ⟨g, 0, none⟩ = false ∧ w.frozen? ⟨g, 1, none⟩ = false ∧ w.frozen? ⟨g, 2, none⟩ = false ∧ w.frozen? ⟨g, 3, none⟩ = false ∧ w.frozen? ⟨g, 4, none⟩ = false :=
 ⟨h.lt, h.cell 0, h.cell 1, h.cell 2, h.cell 3, h.cell 4, h.frozen 0, h.frozen 1, h.frozen 2, h.frozen 3, h.frozen 4⟩
set_option maxHeartbeats 1000000 in
theorem along_spec (g : Ed) (p : Pt) (w : World) : Calls Tryz.prog 38 #[edV g, ptV p] w fun e w' => e = .returned (.int .i64 (alongS g p)) ∧ Below w.heap.size w w' := by
 unfold edV ptV alongS
 generalize g.upright = u
 cases u
 all_goals
  go_enter Tryz.func38, Tryz.ntmps38
  go_wp2_with fail
  go_ret
  exact ⟨rfl, bA (bA (bR w) _) _⟩

def offS (g : Ed) (p : Pt) : Int := if posS g then cmpI (acrossS g p) g.line else cmpI g.line (acrossS g p)
theorem off_on (g : Ed) (p : Pt) : offS g p = 0 ↔ onE g p = true := by
 unfold offS onE cmpI
 rw [decide_eq_true_eq]
 split
 all_goals
  split
  · omega
  ·
   split
   · omega
   · omega
theorem off_in (g : Ed) (p : Pt) : offS g p = 1 ↔ innerS g p = true := by
 unfold offS innerS cmpI
 cases posS g
 all_goals
  simp only [if_true, Bool.false_eq_true, if_false, decide_eq_true_eq]
  split
  · omega
  ·
   split
   · omega
   · omega
theorem off_three (g : Ed) (p : Pt) : offS g p = 0 ∨ offS g p = 1 ∨ offS g p = -1 := by
 unfold offS cmpI
 split
 all_goals
  split
  · simp
  ·
   split
   · simp
   · simp

set_option maxHeartbeats 1000000 in
theorem off_spec (g : Ed) (p : Pt) (w : World) : Calls Tryz.prog 42 #[edV g, ptV p] w fun e w' => e = .returned (.int .i64 (offS g p)) ∧ Below w.heap.size w w' := by
 obtain ⟨q, hq⟩ : ∃ q, offS g p = q := ⟨_, rfl⟩
 rw [hq]
 have Hq := Lib.hid hq; clear hq
 unfold edV ptV
 cases hu : g.upright
 all_goals
  have Hu := Lib.hid hu; clear hu
  by_cases h1 : g.side = 1
  case pos =>
   rw [h1]
   have H1 := Lib.hid h1; clear h1
   go_enter Tryz.func42, Tryz.ntmps42
   go_wp2_with fail
   refine (Compare_int_spec _ _ _).mono ?_
   rintro e w' ⟨rfl, rfl⟩
   go_wp2_with fail
   go_ret
   refine ⟨ret_int ?_, bA (bA (bR w) _) _⟩
   rw [← Hq.out]; simp [offS, posS, H1.out, acrossS, Hu.out]
  by_cases h2 : g.side = 2
  case pos =>
   rw [h2]
   have H1 := Lib.hid h2; clear h1 h2
   go_enter Tryz.func42, Tryz.ntmps42
   go_wp2_with fail
   refine (Compare_int_spec _ _ _).mono ?_
   rintro e w' ⟨rfl, rfl⟩
   go_wp2_with fail
   go_ret
   refine ⟨ret_int ?_, bA (bA (bR w) _) _⟩
   rw [← Hq.out]; simp [offS, posS, H1.out, acrossS, Hu.out]
  have h1' : (g.side == 1) = false := by simpa using h1
  have h2' : (g.side == 2) = false := by simpa using h2
  have H1 := Lib.hid h1; have H2 := Lib.hid h2; clear h1 h2
  go_enter Tryz.func42, Tryz.ntmps42
  go_wp2_with fail
  refine (Compare_int_spec _ _ _).mono ?_
  rintro e w' ⟨rfl, rfl⟩
  go_wp2_with fail
  go_ret
  refine ⟨ret_int ?_, bA (bA (bR w) _) _⟩
  rw [← Hq.out]; simp [offS, posS, H1.out, H2.out, acrossS, Hu.out]

/-- what makeEdge gives back -/
def edRes (o : Option Ed) : Value := .tuple #[edV (o.getD ed0), .bool o.isSome]
set_option maxRecDepth 100000 in
set_option maxHeartbeats 1000000 in
theorem makeEdge_spec (b : Bx) (side : Int) (w : World) : Calls Tryz.prog 34 #[bxV b, .int .i64 side] w fun e w' => e = .returned (edRes (edOf b side)) ∧ Below w.heap.size w w' := by
 unfold bxV edOf
 by_cases h1 : side = 1
 case pos =>
  subst h1
  go_enter Tryz.func34, Tryz.ntmps34
  go_wp2_with fail
  refine res_cell_tmp (t := 78) (g := w.heap.size + 1) (cs := #[.int .i64 1, .bool true, .int .i64 b.x0, .int .i64 b.y0, .int .i64 b.y1]) rfl struct_ed rfl rfl ?_ ⟨rfl, ?_⟩
  · exact Blk.made (by simp) _ _
  · exact bA (bA (bR w) _) _
 by_cases h2 : side = 2
 case pos =>
  subst h2
  clear h1
  go_enter Tryz.func34, Tryz.ntmps34
  go_wp2_with fail
  refine res_cell_tmp (t := 78) (g := w.heap.size + 1) (cs := #[.int .i64 2, .bool false, .int .i64 b.y0, .int .i64 b.x0, .int .i64 b.x1]) rfl struct_ed rfl rfl ?_ ⟨rfl, ?_⟩
  · exact Blk.made (by simp) _ _
  · exact bA (bA (bR w) _) _
 by_cases h3 : side = 3
 case pos =>
  subst h3
  clear h1 h2
  go_enter Tryz.func34, Tryz.ntmps34
  go_wp2_with fail
  refine res_cell_tmp (t := 78) (g := w.heap.size + 1) (cs := #[.int .i64 3, .bool true, .int .i64 b.x1, .int .i64 b.y0, .int .i64 b.y1]) rfl struct_ed rfl rfl ?_ ⟨rfl, ?_⟩
  · exact Blk.made (by simp) _ _
  · exact bA (bA (bR w) _) _
 by_cases h4 : side = 4
 case pos =>
  subst h4
  clear h1 h2 h3
  go_enter Tryz.func34, Tryz.ntmps34
  go_wp2_with fail
  refine res_cell_tmp (t := 78) (g := w.heap.size + 1) (cs := #[.int .i64 4, .bool false, .int .i64 b.y1, .int .i64 b.x0, .int .i64 b.x1]) rfl struct_ed rfl rfl ?_ ⟨rfl, ?_⟩
  · exact Blk.made (by simp) _ _
  · exact bA (bA (bR w) _) _
 have k1 : (side == 1) = false := by simpa using h1
 have k2 : (side == 2) = false := by simpa using h2
 have k3 : (side == 3) = false := by simpa using h3
 have k4 : (side == 4) = false := by simpa using h4
 rw [if_neg h1, if_neg h2, if_neg h3, if_neg h4]
 clear h1 h2 h3 h4
 go_enter Tryz.func34, Tryz.ntmps34
 go_wp2_with fail
 refine res_cell_tmp (t := 78) (g := w.heap.size + 1) (cs := #[.int .i64 0, .bool false, .int .i64 0, .int .i64 0, .int .i64 0]) rfl struct_ed rfl rfl ?_ ⟨rfl, ?_⟩
 · exact Blk.made (by simp) _ _
 · exact bA (bA (bR w) _) _
end Go.Proofs.YtfdbidagdjnipaaGreatDoor
