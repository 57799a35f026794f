/- A plan that comes in as an argument: its reading opened to cells and lists. The last step of a law's row: behind a call that leaves all old memory alone (Below) the arguments read as they did. A set of points (a map from points to bools) that the call has made: as a function. Parts, lists of parts, lists of crossings, series and boxes that come in as arguments: their reading opened to cells and lists. edgematch: points, entering, leaving, open. -/
import Derived.Deep.Slices
import Derived.Lib.SmallJoins
import Derived.Test.YtfdbidagdjnipaaGreatDoorGB
import Derived.ProofKit
import Derived.Test.YtfdbidagdjnipaaGreatDoorProg
import Derived.Test.YtfdbidagdjnipaaGreatDoorChecked
import Derived.Maps.Own
import Derived.Maps.Views
import Derived.DeepKeys4
import Derived.Test.YtfdbidagdjnipaaGreatDoorJ01
set_option linter.unusedSimpArgs false
set_option linter.unusedVariables false
namespace Go.Proofs.YtfdbidagdjnipaaGreatDoor
open Go.RowKit Go.ChangeShapes Go.WideShapes Go.Deep Go.Joins

instance : Inhabited Pt := ⟨⟨0, 0⟩⟩
instance : Inhabited Nd := ⟨⟨0, ⟨0, 0⟩⟩⟩
instance : Inhabited Ar := ⟨⟨0, 0, 0, [], 0, 0⟩⟩

/- The numbers are those of their type. -/
def wfPt (p : Pt) : Prop := wfI p.x ∧ wfI p.y
def wfNd (n : Nd) : Prop := wfI n.id ∧ wfPt n.pt
def wfAr (a : Ar) : Prop := wfI a.id ∧ wfI a.fr ∧ wfI a.dst ∧ wfI a.left ∧ wfI a.right ∧ ∀ p ∈ a.via, wfPt p
def wfPl (p : Pl) : Prop := (∀ n ∈ p.nodes, wfNd n) ∧ (∀ a ∈ p.arcs, wfAr a) ∧ ∀ f ∈ p.faces, wfI f

theorem lst2 {α : Type} {l : List α} (h : l.length = 2) : ∃ a b, l = [a, b] := by
 match l, h with
 | [a, b], _ => exact ⟨a, b, rfl⟩
theorem lst3 {α : Type} {l : List α} (h : l.length = 3) : ∃ a b c, l = [a, b, c] := by
 match l, h with
 | [a, b, c], _ => exact ⟨a, b, c, rfl⟩
theorem lst6 {α : Type} {l : List α} (h : l.length = 6) : ∃ a b c d e f, l = [a, b, c, d, e, f] := by
 match l, h with
 | [a, b, c, d, e, f], _ => exact ⟨a, b, c, d, e, f, rfl⟩

section
variable {H : Type} {enc : TypeId × Value → H} {w : World} {base : Nat} {spare : Nat → Bool} {held : Bool}
theorem sl_of {P : Program} {α : Type} [Inhabited α] {t e : TypeId} {n : Nat} (f : α → List Value) (Q : α → Prop) (ht : P.underlying t = some (.slice e)) (hc : P.cellsOf e = n) (hn : ∀ a, (f a).length = n)
  (hel : ∀ m cs x, DataW.trod enc P w base spare held m e cs = some x → ∃ a, cs = f a ∧ Q a) {fuel : Nat} {cs : List Value} {x : DataW H × List MemPlace} (h : DataW.trod enc P w base spare held fuel t cs = some x) :
  ∃ l : List α, (∃ v, cs = [v] ∧ Sl w v l.length (l.flatMap f)) ∧ ∀ a ∈ l, Q a := by
 rcases open_slice ht h with ⟨rfl, _⟩ | ⟨a, len, cap, m, k, D, Pl, rfl, hb, hl, hm, hmm, -, hi⟩
 · exact ⟨[], ⟨_, rfl, none, 0, rfl, Nat.le_refl _, by simp [maxLen], Row.nil⟩, fun _ h => by cases h⟩
 ·
  have hlm : len ≤ m := by rw [hmm]; split <;> omega
  obtain ⟨F, hF⟩ := choose_lt (α := α) (p := fun i y => w.cells? base (a.add (i * n)) n = some (f y) ∧ Q y) (n := len) (fun i hil => by
   obtain ⟨cs', h1, h2⟩ := hi i (by omega)
   obtain ⟨y, rfl, hq⟩ := hel _ _ _ h2
   rw [hc] at h1
   exact ⟨y, h1, hq⟩)
  have hlen : ((List.range len).map F).length = len := by simp
  refine ⟨(List.range len).map F, ⟨_, rfl, some a, cap, by rw [hlen], by rw [hlen]; exact hl, hm, ?_⟩, fun y hy => ?_⟩
  ·
   intro hne
   have hfl := flat_length f n hn ((List.range len).map F)
   rw [hlen] at hfl
   have hpos : 0 < len * n := by
    rcases Nat.eq_zero_or_pos (len * n) with h0 | h0
    · exact absurd (List.eq_nil_of_length_eq_zero (by omega)) hne
    · exact h0
   have hn0 : 0 < n := Nat.pos_of_mul_pos_left hpos
   have key : ∀ j, j < len * n → w.cell? (a.add j) = (((List.range len).map F).flatMap f)[j]? := fun j hj => by
    have h1 : j / n < len := Nat.div_lt_of_lt_mul (by rw [Nat.mul_comm]; exact hj)
    have h2 : j % n < n := Nat.mod_lt _ hn0
    have h3 := flat_get f n hn ((List.range len).map F) (j / n) (j % n) (by rw [hlen]; exact h1) h2
    rw [Nat.div_add_mod'] at h3
    have h4 := (World.cells?_some (hF (j / n) h1).1).2.2 (j % n) h2
    rw [Go.Deep.add_add, Nat.div_add_mod'] at h4
    rw [h4, h3]
    simp
   have h00 := key 0 hpos
   obtain ⟨b, o, spot⟩ := a
   have hex : ∃ v, w.cell? (Addr.add ⟨b, o, spot⟩ 0) = some v := by
    rw [h00, List.getElem?_eq_getElem (by omega)]
    exact ⟨_, rfl⟩
   obtain ⟨v0, hv0⟩ := hex
   have hspot : spot = none := by simpa [Addr.add] using World.cell?_spot hv0
   subst hspot
   refine ⟨b, o, rfl, ?_, fun j v hj => ?_⟩
   ·
    have := World.block_lt_of_cell? w _ hv0
    simpa [Addr.add] using this
   ·
    have hjl : j < len * n := by
     rcases Nat.lt_or_ge j (len * n) with h' | h'
     · exact h'
     · rw [List.getElem?_eq_none (by omega)] at hj; cases hj
    rw [← Go.WideShapes.add_plain, key j hjl]
    exact hj
  ·
   obtain ⟨i, hi', rfl⟩ := List.mem_map.1 hy
   exact (hF i (List.mem_range.1 hi')).2

theorem trod_struct6 {P : Program} {t : TypeId} {f0 f1 f2 f3 f4 f5 : Field} {fuel : Nat} {cs : List Value} {x : DataW H × List MemPlace} (ht : P.underlying t = some (.struct #[f0, f1, f2, f3, f4, f5])) (h : DataW.trod enc P w base spare held fuel t cs = some x) :
  ∃ (y0 y1 y2 y3 y4 y5 : DataW H × List MemPlace) (n : Nat), cs.length = P.cellsOf t ∧ DataW.trod enc P w base spare held n f0.type ((cs.drop f0.offset).take (P.cellsOf f0.type)) = some y0 ∧ DataW.trod enc P w base spare held n f1.type ((cs.drop f1.offset).take (P.cellsOf f1.type)) = some y1 ∧ DataW.trod enc P w base spare held n f2.type ((cs.drop f2.offset).take (P.cellsOf f2.type)) = some y2 ∧ DataW.trod enc P w base spare held n f3.type ((cs.drop f3.offset).take (P.cellsOf f3.type)) = some y3 ∧ DataW.trod enc P w base spare held n f4.type ((cs.drop f4.offset).take (P.cellsOf f4.type)) = some y4 ∧ DataW.trod enc P w base spare held n f5.type ((cs.drop f5.offset).take (P.cellsOf f5.type)) = some y5 := by
 obtain ⟨xs, n, _, -, hl, hlen, hf⟩ := DataW.trod_struct ht h
 match xs, hlen with
 | [y0, y1, y2, y3, y4, y5], _ => exact ⟨y0, y1, y2, y3, y4, y5, n, hl, by simpa using hf 0 f0 rfl, by simpa using hf 1 f1 rfl, by simpa using hf 2 f2 rfl, by simpa using hf 3 f3 rfl, by simpa using hf 4 f4 rfl, by simpa using hf 5 f5 rfl⟩
theorem c_int : Tryz.prog.cellsOf 3 = 1 := by kernel_rfl
theorem c_pt : Tryz.prog.cellsOf 28 = 2 := by kernel_rfl
theorem c_nd : Tryz.prog.cellsOf 93 = 3 := by kernel_rfl
theorem c_ar : Tryz.prog.cellsOf 58 = 6 := by kernel_rfl
theorem c_pl : Tryz.prog.cellsOf 26 = 3 := by kernel_rfl
theorem c_pts : Tryz.prog.cellsOf 56 = 1 := by kernel_rfl
theorem trod_in {fuel : Nat} {cs : List Value} {x : DataW H × List MemPlace} (h : DataW.trod enc Tryz.prog w base spare held fuel 3 cs = some x) : ∃ n : Int, cs = inC n ∧ wfI n := by
 obtain ⟨n, h1, -, h2⟩ := DataW.trod_int Tryz.underlying3 h
 exact ⟨n, h1, h2⟩
theorem trod_pt {fuel : Nat} {cs : List Value} {x : DataW H × List MemPlace} (h : DataW.trod enc Tryz.prog w base spare held fuel 28 cs = some x) : ∃ p : Pt, cs = ptC p ∧ wfPt p := by
 obtain ⟨y0, y1, n, -, hl, h0, h1⟩ := trod_struct2 Tryz.underlying28 h
 rw [c_pt] at hl
 obtain ⟨c0, c1, rfl⟩ := lst2 hl
 simp only [c_int, List.drop_zero, List.drop_succ_cons, List.take_succ_cons, List.take_zero] at h0 h1
 obtain ⟨a, ha, hwa⟩ := trod_in h0
 obtain ⟨b, hb, hwb⟩ := trod_in h1
 simp only [inC, List.cons.injEq, and_true] at ha hb
 subst ha hb
 exact ⟨⟨a, b⟩, rfl, hwa, hwb⟩
theorem trod_nd {fuel : Nat} {cs : List Value} {x : DataW H × List MemPlace} (h : DataW.trod enc Tryz.prog w base spare held fuel 93 cs = some x) : ∃ p : Nd, cs = ndC p ∧ wfNd p := by
 obtain ⟨y0, y1, n, -, hl, h0, h1⟩ := trod_struct2 Tryz.underlying93 h
 rw [c_nd] at hl
 obtain ⟨c0, c1, c2, rfl⟩ := lst3 hl
 simp only [c_int, c_pt, List.drop_zero, List.drop_succ_cons, List.take_succ_cons, List.take_zero] at h0 h1
 obtain ⟨a, ha, hwa⟩ := trod_in h0
 obtain ⟨b, hb, hwb⟩ := trod_pt h1
 simp only [inC, ptC, List.cons.injEq, and_true] at ha hb
 obtain ⟨hb1, hb2⟩ := hb
 subst ha hb1 hb2
 exact ⟨⟨a, b⟩, rfl, hwa, hwb⟩
theorem trod_pts {fuel : Nat} {cs : List Value} {x : DataW H × List MemPlace} (h : DataW.trod enc Tryz.prog w base spare held fuel 56 cs = some x) : ∃ l : List Pt, (∃ v, cs = [v] ∧ Pts w v l) ∧ ∀ p ∈ l, wfPt p :=
 sl_of ptC wfPt Tryz.underlying56 c_pt ptC_len (fun _ _ _ h => trod_pt h) h
set_option maxRecDepth 100000 in
theorem trod_ar {fuel : Nat} {cs : List Value} {x : DataW H × List MemPlace} (h : DataW.trod enc Tryz.prog w base spare held fuel 58 cs = some x) : ∃ p : Ar × Value, cs = arC p ∧ Pts w p.2 p.1.via ∧ wfAr p.1 := by
 obtain ⟨y0, y1, y2, y3, y4, y5, n, hl, h0, h1, h2, h3, h4, h5⟩ := trod_struct6 Tryz.underlying58 h
 rw [c_ar] at hl
 obtain ⟨c0, c1, c2, c3, c4, c5, rfl⟩ := lst6 hl
 simp only [c_int, c_pts, List.drop_zero, List.drop_succ_cons, List.take_succ_cons, List.take_zero] at h0 h1 h2 h3 h4 h5
 obtain ⟨a0, e0, k0⟩ := trod_in h0
 obtain ⟨a1, e1, k1⟩ := trod_in h1
 obtain ⟨a2, e2, k2⟩ := trod_in h2
 obtain ⟨l, ⟨v, e3, hv⟩, k3⟩ := trod_pts h3
 obtain ⟨a4, e4, k4⟩ := trod_in h4
 obtain ⟨a5, e5, k5⟩ := trod_in h5
 simp only [inC, List.cons.injEq, and_true] at e0 e1 e2 e3 e4 e5
 subst e0 e1 e2 e3 e4 e5
 exact ⟨(⟨a0, a1, a2, l, a4, a5⟩, c3), rfl, hv, k0, k1, k2, k4, k5, k3⟩

set_option maxRecDepth 100000 in
/-- THE ARGUMENT: a plan by value, whose reading is there, reads as a plain plan. -/
theorem PlV.of_trod {r : Reach} {b0 : Nat} {v : Value} {d : DataW H} {ps : List MemPlace} (hv : Value.okWide Tryz.prog w r b0 26 v) (h : DataW.Trod enc Tryz.prog w base spare held 26 v d ps) : ∃ p, PlV w v p ∧ wfPl p := by
 obtain ⟨v0, v1, v2, y0, y1, y2, n, rfl, -, -, h0, h1, h2⟩ := open_agg3 Tryz.underlying26 (by kernel_rfl) c_pl hv h
 obtain ⟨nl, ⟨u0, e0, hn⟩, wn⟩ := sl_of ndC wfNd Tryz.underlying22 c_nd ndC_len (fun _ _ _ h => trod_nd h) h0
 obtain ⟨al, ⟨u1, e1, ha⟩, wa⟩ := sl_of arC (fun x => Pts w x.2 x.1.via ∧ wfAr x.1) Tryz.underlying23 c_ar arC_len (fun _ _ _ h => trod_ar h) h1
 obtain ⟨fl, ⟨u2, e2, hf⟩, wf⟩ := sl_of inC wfI Tryz.underlying24 c_int inC_len (fun _ _ _ h => trod_in h) h2
 simp only [List.cons.injEq, and_true] at e0 e1 e2
 subst e0 e1 e2
 refine ⟨⟨nl, al.map (·.1), fl⟩, ⟨v0, v1, v2, al, rfl, rfl, hn, ⟨ha, fun k hk => (wa _ (List.getElem_mem hk)).1⟩, hf⟩, wn, fun a ha => ?_, wf⟩
 obtain ⟨x, hx, rfl⟩ := List.mem_map.1 ha
 exact (wa x hx).2
end
end Go.Proofs.YtfdbidagdjnipaaGreatDoor
namespace Go.Proofs.YtfdbidagdjnipaaGreatDoor
open Go.ChangeShapes Go.WideShapes Go.RowKit

theorem own_knob : ownKnob Tryz.prog.godebug = none := by kernel_rfl
theorem laid_out : laidOutB Tryz.prog = true := by kernel_rfl

section
variable {H : Type} {enc : TypeId × Value → H} {P : Program}
/-- An argument by value is read again: for whatever test on spares that lets its own blocks. -/
theorem arg_again {t : TypeId} (hl : laidOutB P = true) (hr : P.readableRec t = true) (hrow : t < P.types.size) {W W' : World} {v : Value} {d : DataW H} {ps : List MemPlace} {sp : Nat → Bool}
  (h : DataW.Trod enc P W 0 (fun _ => true) true t v d ps) (hb : Below W.heap.size W W') (hlt : ∀ x ∈ ps, x.block < W.heap.size) (hs : ∀ x ∈ ps, sp x.block = true) : DataW.Trod enc P W' 0 sp true t v d ps :=
 WideElems.Trod_stays hl hr hrow h (fun x hx => hb.same (hlt x hx)) hs

/-- The post of a law that gives one bool, where the world behind is 'Below'. -/
theorem law_post {f : Func} {s : ChangeSpec} {W W' : World} {args : Array Value} {v : Value} {ds gs : List (DataW H)} {before : List MemPlace}
  (hW : DataW.Whole enc P f.params.toList s.vars false W args.toList ds gs before) (hv : s.vars = []) (hb : Below W.heap.size W W')
  (hres : ∀ (b : Nat) (sp : Nat → Bool) (hd : Bool), DataW.TrodAll enc P W' b sp hd f.resultTypes.toList (v.resultList f.resultTypes.size) (s.fn H (ds ++ gs)).results [])
  (hargs : ∀ sp : Nat → Bool, (∀ p ∈ before, sp p.block = true) → DataW.TrodAll enc P W' 0 sp true f.params.toList args.toList (s.fn H (ds ++ gs)).args before)
  (hvars : (s.fn H (ds ++ gs)).vars = [])
  (hok : ∀ (j : Nat) (t : TypeId) (r : Value), f.resultTypes[j]? = some t → (v.resultList f.resultTypes.size)[j]? = some r → Value.okWide P W' .any 0 t r) :
  s.post enc P f false true false false W args v W' := by
 have hlow : ∀ p ∈ before, p.block < W.heap.size := fun p hp => hW.lt p hp
 have hno : ∀ sp : Nat → Bool, DataW.TrodVars enc P W' sp s.vars (s.fn H (ds ++ gs)).vars [] := fun sp => by rw [hv, hvars]; rfl
 have htest : ∀ p ∈ before, (fun b => decide (b < W.heap.size)) p.block = true := fun p hp => decide_eq_true (hlow p hp)
 refine ⟨ds, gs, before, [], before, [], hW, hres _ _ _, hargs _ htest, hno _, ?_, fun hc => by cases hc⟩
 exact World.keptBut_mono (fun p hp => ⟨hp, Or.inr (Or.inl hp)⟩) (hb.frame (· ∈ before))
end
end Go.Proofs.YtfdbidagdjnipaaGreatDoor
namespace Go.Proofs.YtfdbidagdjnipaaGreatDoor
open Go.RowKit

def boD (b : Bool) : DataW Unit := .lit (.bool b)
def boR : Value → Option (DataW Unit × List MemPlace)
 | .bool b => some (boD b, [])
 | _ => none
theorem boR_inv {v : Value} {b : Bool} {ps : List MemPlace} (h : boR v = some (boD b, ps)) : v = .bool b := by
 unfold boR at h
 split at h
 ·
  simp only [boD, Option.some.injEq, Prod.mk.injEq, DataW.lit.injEq, Lit.bool.injEq] at h
  rw [h.1]
 · cases h
theorem keyed_pt : Maps.Keyed Tryz.prog 28 := Maps.Keyed.of_law (deep_law_laid laid_out (m := 2) (by omega) (of_decide_eq_true (by kernel_rfl)) (by kernel_rfl) (by kernel_rfl))
theorem ntypes : ∃ n, Tryz.prog.types.size = n + 1 := ⟨Tryz.prog.types.size - 1, by kernel_rfl⟩
theorem key_pt (p : Pt) (h : wfPt p) : ∃ l, keyOf Tryz.prog 28 (ptV p) = some l := by
 obtain ⟨n, hn⟩ := ntypes
 have h1 : Tryz.prog.keyType 28 = true := by kernel_rfl
 have h2 : (ptV p).formed Tryz.prog 28 = true := by
  unfold ptV Value.formed
  rw [Tryz.underlying28]
  simp only [c_pt]
  rfl
 have h3 : ∃ ls, Tryz.prog.keyLits (n + 1 + 1) 28 (ptV p).cells.toList = some ls := by
  have hx := h.1; have hy := h.2
  unfold wfI at hx hy
  simp [Program.keyLits, Tryz.underlying28, Tryz.underlying3, c_pt, c_int, ptV, Value.cells, hx, hy]
 obtain ⟨ls, h3⟩ := h3
 refine ⟨.string (keyBytes ls), ?_⟩
 unfold keyOf
 rw [Tryz.underlying28, hn]
 simp only
 rw [h1, h2, h3]
 rfl

/-- Block b is a set of at most n points. -/
def MapSet (w : World) (b n : Nat) (S : Pt → Bool) : Prop :=
 ∃ D : DataW Unit, w.ownsMap Tryz.prog 28 boR b n D ∧ Maps.IsMap D ∧ ∀ p l, keyOf Tryz.prog 28 (ptV p) = some l → D.atKey l (boD false) = boD (S p)
theorem MapSet.kept {w w' : World} {b n : Nat} {f : Pt → Bool} (h : MapSet w b n f) {row : Option Nat} (hg : w.grownBy w' row) (hr : some b ≠ row) : MapSet w' b n f := by
 obtain ⟨D, h1, h2⟩ := h
 exact ⟨D, h1.kept hg hr, h2⟩
theorem MapSet.keep {w w' : World} {b n : Nat} {f : Pt → Bool} (h : MapSet w b n f) (hb : Below w.heap.size w w') : MapSet w' b n f :=
 h.kept (row := none) ⟨hb.os, hb.tape, hb.output, hb.size, fun i hi _ => hb.block i hi⟩ (by simp)
theorem MapSet.lt {w : World} {b n : Nat} {f : Pt → Bool} (h : MapSet w b n f) : b < w.heap.size := by
 obtain ⟨D, h1, h2⟩ := h
 exact h1.lt
theorem MapSet.made (w : World) : MapSet (w.alloc (.map #[] 0)) w.heap.size 0 (fun _ => false) :=
 ⟨.map [], World.ownsMap_made _ _ _ _, ⟨_, rfl⟩, fun _ _ _ => rfl⟩
theorem zero_bo (w : World) : (zeroValue 4).run Tryz.prog w = .ok (.bool false) w := by kernel_rfl
theorem MapSet.look {w : World} {b n : Nat} {f : Pt → Bool} (h : MapSet w b n f) (p : Pt) (hp : wfPt p) :
  (Instr.lookup 81 (.map (some b)) (.agg #[.int .i64 p.x, .int .i64 p.y]) false).run Tryz.prog w = .ok (.bool (f p)) w := by
 obtain ⟨D, h1, -, h2⟩ := h
 obtain ⟨l, hl⟩ := key_pt p hp
 obtain ⟨v, ps, hr, hv⟩ := h1.lookup keyed_pt Tryz.underlying81 (zero_bo w) (zd := boD false) (zp := []) rfl hl
 rw [h2 p l hl] at hv
 have hr' : (Instr.lookup 81 (.map (some b)) (.agg #[.int .i64 p.x, .int .i64 p.y]) false).run Tryz.prog w = .ok v w := hr
 rw [hr', boR_inv hv]
set_option maxRecDepth 100000 in
theorem MapSet.upd {w : World} {b n : Nat} {f : Pt → Bool} (h : MapSet w b n f) (hn : n < 4294967296) (p : Pt) (hp : wfPt p) (x : Bool) :
  ∃ w', (Instr.mapUpdate 81 (.map (some b)) (.agg #[.int .i64 p.x, .int .i64 p.y]) (.bool x)).run Tryz.prog w = .ok () w' ∧ MapSet w' b (n + 1) (fun i => if i = p then x else f i) ∧ w.grownBy w' (some b) := by
 obtain ⟨D, h1, hm, h2⟩ := h
 obtain ⟨l, hl⟩ := key_pt p hp
 obtain ⟨w', hr, ho, hg⟩ := h1.update keyed_pt Tryz.underlying81 (by unfold maxLen; omega) hl (val := .bool x) (d := boD x) (ps := []) rfl
 refine ⟨w', hr, ⟨_, ho, ?_, fun i l' hl' => ?_⟩, hg⟩
 · obtain ⟨es, rfl⟩ := hm; exact ⟨_, rfl⟩
 ·
  show _ = boD (if i = p then x else f i)
  by_cases e : i = p
  ·
   subst e
   rw [hl] at hl'
   injection hl' with hl'
   subst hl'
   rw [if_pos rfl]
   exact Maps.atKey_put_same hm (keyed_pt.key hl) _ _
  ·
   have hne : l' ≠ l := fun h => by
    subst h
    have := keyed_pt.inj hl hl'
    unfold ptV at this
    simp only [Value.agg.injEq] at this
    have h0 := congrArg (fun a : Array Value => a.toList) this
    simp only [List.cons.injEq, Value.int.injEq, and_true, true_and] at h0
    exact e (Pt.ext_iff'.2 ⟨h0.1.symm, h0.2.symm⟩)
   rw [if_neg e, Maps.atKey_put_other hne, h2 i l' hl']
end Go.Proofs.YtfdbidagdjnipaaGreatDoor
namespace Go.Proofs.YtfdbidagdjnipaaGreatDoor
open Go.RowKit Go.ChangeShapes Go.WideShapes Go.Deep Go.Joins

instance : Inhabited Cr := ⟨⟨0, 0, 0⟩⟩
instance : Inhabited Pc := ⟨⟨0, [], 0, 0⟩⟩
instance : Inhabited Prt := ⟨⟨0, [], []⟩⟩
def wfCr (c : Cr) : Prop := wfI c.pos ∧ wfI c.arc ∧ wfI c.out
def wfPc (x : Pc) : Prop := wfI x.arc ∧ wfI x.enter ∧ wfI x.leave ∧ ∀ p ∈ x.path, wfPt p
def wfPrt (x : Prt) : Prop := wfI x.sheet ∧ (∀ y ∈ x.pieces, wfPc y) ∧ ∀ n ∈ x.nodes, wfNd n
def wfBx (b : Bx) : Prop := wfI b.x0 ∧ wfI b.y0 ∧ wfI b.x1 ∧ wfI b.y1
def wfSe (s : Se) : Prop := wfPt s.at_ ∧ wfI s.width ∧ wfI s.height ∧ wfI s.cols ∧ wfI s.rows

theorem lst4 {α : Type} {l : List α} (h : l.length = 4) : ∃ a b c d, l = [a, b, c, d] := by
 match l, h with
 | [a, b, c, d], _ => exact ⟨a, b, c, d, rfl⟩

section
variable {H : Type} {enc : TypeId × Value → H} {w : World} {base : Nat} {spare : Nat → Bool} {held : Bool}
theorem trod_struct5 {P : Program} {t : TypeId} {f0 f1 f2 f3 f4 : Field} {fuel : Nat} {cs : List Value} {x : DataW H × List MemPlace} (ht : P.underlying t = some (.struct #[f0, f1, f2, f3, f4])) (h : DataW.trod enc P w base spare held fuel t cs = some x) :
  ∃ (y0 y1 y2 y3 y4 : DataW H × List MemPlace) (n : Nat), x.2 = y0.2 ++ (y1.2 ++ (y2.2 ++ (y3.2 ++ y4.2))) ∧ cs.length = P.cellsOf t ∧ DataW.trod enc P w base spare held n f0.type ((cs.drop f0.offset).take (P.cellsOf f0.type)) = some y0 ∧ DataW.trod enc P w base spare held n f1.type ((cs.drop f1.offset).take (P.cellsOf f1.type)) = some y1 ∧ DataW.trod enc P w base spare held n f2.type ((cs.drop f2.offset).take (P.cellsOf f2.type)) = some y2 ∧ DataW.trod enc P w base spare held n f3.type ((cs.drop f3.offset).take (P.cellsOf f3.type)) = some y3 ∧ DataW.trod enc P w base spare held n f4.type ((cs.drop f4.offset).take (P.cellsOf f4.type)) = some y4 := by
 obtain ⟨xs, n, _, rfl, hl, hlen, hf⟩ := DataW.trod_struct ht h
 match xs, hlen with
 | [y0, y1, y2, y3, y4], _ => exact ⟨y0, y1, y2, y3, y4, n, by simp, hl, by simpa using hf 0 f0 rfl, by simpa using hf 1 f1 rfl, by simpa using hf 2 f2 rfl, by simpa using hf 3 f3 rfl, by simpa using hf 4 f4 rfl⟩
theorem agg_of {P : Program} {r : Reach} {b0 : Nat} {t : TypeId} {fs : Array Field} {v : Value} {d : DataW H} {p : List MemPlace} (hs : P.underlying t = some (.struct fs)) (hv : Value.okWide P w r b0 t v) (h : DataW.Trod enc P w base spare held t v d p) :
  ∃ cs : Array Value, v = .agg cs ∧ ∃ fuel, DataW.trod enc P w base spare held fuel t cs.toList = some (d, p) := by
 obtain ⟨cs, rfl, _⟩ := okWide_struct hs hv
 obtain ⟨fuel, hf⟩ := h
 exact ⟨cs, rfl, fuel, by simpa [Value.cells] using hf⟩
theorem c_cr : Tryz.prog.cellsOf 70 = 3 := by kernel_rfl
theorem c_pc : Tryz.prog.cellsOf 68 = 4 := by kernel_rfl
theorem c_prt : Tryz.prog.cellsOf 45 = 3 := by kernel_rfl
theorem c_bx : Tryz.prog.cellsOf 40 = 4 := by kernel_rfl
theorem c_se : Tryz.prog.cellsOf 30 = 6 := by kernel_rfl
theorem c_pcs : Tryz.prog.cellsOf 43 = 1 := by kernel_rfl
theorem c_nds : Tryz.prog.cellsOf 22 = 1 := by kernel_rfl
set_option maxRecDepth 100000 in
theorem trod_cr {fuel : Nat} {cs : List Value} {x : DataW H × List MemPlace} (h : DataW.trod enc Tryz.prog w base spare held fuel 70 cs = some x) : ∃ c : Cr, cs = crC c ∧ wfCr c := by
 obtain ⟨y0, y1, y2, n, -, hl, h0, h1, h2⟩ := trod_struct3 Tryz.underlying70 h
 rw [c_cr] at hl
 obtain ⟨c0, c1, c2, rfl⟩ := lst3 hl
 simp only [c_int, List.drop_zero, List.drop_succ_cons, List.take_succ_cons, List.take_zero] at h0 h1 h2
 obtain ⟨a0, e0, k0⟩ := trod_in h0
 obtain ⟨a1, e1, k1⟩ := trod_in h1
 obtain ⟨a2, e2, k2⟩ := trod_in h2
 simp only [inC, List.cons.injEq, and_true] at e0 e1 e2
 subst e0 e1 e2
 exact ⟨⟨a0, a1, a2⟩, rfl, k0, k1, k2⟩
set_option maxRecDepth 100000 in
theorem trod_pc {fuel : Nat} {cs : List Value} {x : DataW H × List MemPlace} (h : DataW.trod enc Tryz.prog w base spare held fuel 68 cs = some x) : ∃ p : Pc × Value, cs = pcC p ∧ Pts w p.2 p.1.path ∧ wfPc p.1 := by
 obtain ⟨y0, y1, y2, y3, n, -, hl, h0, h1, h2, h3⟩ := trod_struct4 Tryz.underlying68 h
 rw [c_pc] at hl
 obtain ⟨c0, c1, c2, c3, rfl⟩ := lst4 hl
 simp only [c_int, c_pts, List.drop_zero, List.drop_succ_cons, List.take_succ_cons, List.take_zero] at h0 h1 h2 h3
 obtain ⟨a0, e0, k0⟩ := trod_in h0
 obtain ⟨l, ⟨v, e1, hv⟩, k1⟩ := trod_pts h1
 obtain ⟨a2, e2, k2⟩ := trod_in h2
 obtain ⟨a3, e3, k3⟩ := trod_in h3
 simp only [inC, List.cons.injEq, and_true] at e0 e1 e2 e3
 subst e0 e1 e2 e3
 exact ⟨(⟨a0, l, a2, a3⟩, c1), rfl, hv, k0, k2, k3, k1⟩
set_option maxRecDepth 100000 in
theorem trod_prt {fuel : Nat} {cs : List Value} {x : DataW H × List MemPlace} (h : DataW.trod enc Tryz.prog w base spare held fuel 45 cs = some x) : ∃ p : Prt × Value × Value, cs = prC p ∧ PrtV w (.agg #[.int .i64 p.1.sheet, p.2.1, p.2.2]) p.1 ∧ wfPrt p.1 := by
 obtain ⟨y0, y1, y2, n, -, hl, h0, h1, h2⟩ := trod_struct3 Tryz.underlying45 h
 rw [c_prt] at hl
 obtain ⟨c0, c1, c2, rfl⟩ := lst3 hl
 simp only [c_int, c_pcs, c_nds, List.drop_zero, List.drop_succ_cons, List.take_succ_cons, List.take_zero] at h0 h1 h2
 obtain ⟨a0, e0, k0⟩ := trod_in h0
 obtain ⟨pl, ⟨u1, e1, hp⟩, wp⟩ := sl_of pcC (fun x => Pts w x.2 x.1.path ∧ wfPc x.1) Tryz.underlying43 c_pc pcC_len (fun _ _ _ h => trod_pc h) h1
 obtain ⟨nl, ⟨u2, e2, hn⟩, wn⟩ := sl_of ndC wfNd Tryz.underlying22 c_nd ndC_len (fun _ _ _ h => trod_nd h) h2
 simp only [inC, List.cons.injEq, and_true] at e0 e1 e2
 subst e0 e1 e2
 refine ⟨(⟨a0, pl.map (·.1), nl⟩, c1, c2), rfl, ⟨c1, c2, pl, rfl, rfl, ⟨hp, fun k hk => (wp _ (List.getElem_mem hk)).1⟩, hn⟩, k0, fun y hy => ?_, wn⟩
 obtain ⟨x, hx, rfl⟩ := List.mem_map.1 hy
 exact (wp x hx).2
set_option maxRecDepth 100000 in
theorem PrtV.of_trod {r : Reach} {b0 : Nat} {v : Value} {d : DataW H} {ps : List MemPlace} (hv : Value.okWide Tryz.prog w r b0 45 v) (h : DataW.Trod enc Tryz.prog w base spare held 45 v d ps) : ∃ x, PrtV w v x ∧ wfPrt x := by
 obtain ⟨cs, rfl, fuel, h⟩ := agg_of Tryz.underlying45 hv h
 obtain ⟨⟨p, c1, c2⟩, hc, h1, h2⟩ := trod_prt h
 obtain ⟨cs⟩ := cs
 simp only [prC] at hc
 subst hc
 exact ⟨p, h1, h2⟩
set_option maxRecDepth 100000 in
theorem Prts.of_trod {v : Value} {d : DataW H} {ps : List MemPlace} (h : DataW.Trod enc Tryz.prog w base spare held 36 v d ps) (hv : ∃ A n c, v = .slice A n c) : ∃ l, Prts w v l ∧ ∀ x ∈ l, wfPrt x.1 := by
 obtain ⟨fuel, hf⟩ := h
 obtain ⟨A, n, c, rfl⟩ := hv
 obtain ⟨pl, ⟨u1, e1, hp⟩, wp⟩ := sl_of prC (fun p => PrtV w (.agg #[.int .i64 p.1.sheet, p.2.1, p.2.2]) p.1 ∧ wfPrt p.1) Tryz.underlying36 c_prt prC_len (fun _ _ _ h => trod_prt h) hf
 simp only [Value.cells, List.cons.injEq, and_true] at e1
 subst e1
 exact ⟨pl, ⟨hp, fun k hk => (wp _ (List.getElem_mem hk)).1⟩, fun x hx => (wp x hx).2⟩
set_option maxRecDepth 100000 in
theorem Crs.of_trod {v : Value} {d : DataW H} {ps : List MemPlace} (h : DataW.Trod enc Tryz.prog w base spare held 48 v d ps) (hv : ∃ A n c, v = .slice A n c) : ∃ l, Crs w v l ∧ ∀ x ∈ l, wfCr x := by
 obtain ⟨fuel, hf⟩ := h
 obtain ⟨A, n, c, rfl⟩ := hv
 obtain ⟨pl, ⟨u1, e1, hp⟩, wp⟩ := sl_of crC wfCr Tryz.underlying48 c_cr crC_len (fun _ _ _ h => trod_cr h) hf
 simp only [Value.cells, List.cons.injEq, and_true] at e1
 subst e1
 exact ⟨pl, hp, wp⟩
set_option maxRecDepth 100000 in
theorem Bx.of_trod {r : Reach} {b0 : Nat} {v : Value} {d : DataW H} {ps : List MemPlace} (hv : Value.okWide Tryz.prog w r b0 40 v) (h : DataW.Trod enc Tryz.prog w base spare held 40 v d ps) : ∃ b : Bx, v = bxV b ∧ wfBx b ∧ ps = [] := by
 obtain ⟨v0, v1, v2, v3, y0, y1, y2, y3, n, rfl, -, rfl, h0, h1, h2, h3⟩ := open_agg4 Tryz.underlying40 (by kernel_rfl) c_bx hv h
 obtain ⟨a0, e0, x0, k0⟩ := DataW.trod_int Tryz.underlying3 h0
 obtain ⟨a1, e1, x1, k1⟩ := DataW.trod_int Tryz.underlying3 h1
 obtain ⟨a2, e2, x2, k2⟩ := DataW.trod_int Tryz.underlying3 h2
 obtain ⟨a3, e3, x3, k3⟩ := DataW.trod_int Tryz.underlying3 h3
 simp only [List.cons.injEq, and_true] at e0 e1 e2 e3
 subst e0 e1 e2 e3 x0 x1 x2 x3
 exact ⟨⟨a0, a1, a2, a3⟩, rfl, ⟨k0, k1, k2, k3⟩, rfl⟩
set_option maxRecDepth 100000 in
theorem Se.of_trod {r : Reach} {b0 : Nat} {v : Value} {d : DataW H} {ps : List MemPlace} (hv : Value.okWide Tryz.prog w r b0 30 v) (h : DataW.Trod enc Tryz.prog w base spare held 30 v d ps) : ∃ s : Se, v = seV s ∧ wfSe s ∧ ps = [] := by
 obtain ⟨cs, rfl, fuel, h⟩ := agg_of Tryz.underlying30 hv h
 obtain ⟨y0, y1, y2, y3, y4, n, hps, hl, h0, h1, h2, h3, h4⟩ := trod_struct5 Tryz.underlying30 h
 rw [c_se] at hl
 obtain ⟨cs⟩ := cs
 obtain ⟨c0, c1, c2, c3, c4, c5, rfl⟩ := lst6 hl
 simp only [c_int, c_pt, List.drop_zero, List.drop_succ_cons, List.take_succ_cons, List.take_zero] at h0 h1 h2 h3 h4
 obtain ⟨p0, p1, np, hy0, -, hp0, hp1⟩ := trod_struct2 Tryz.underlying28 h0
 simp only [c_int, List.drop_zero, List.drop_succ_cons, List.take_succ_cons, List.take_zero] at hp0 hp1
 obtain ⟨a0, e0, x0, k0⟩ := DataW.trod_int Tryz.underlying3 hp0
 obtain ⟨a5, e5, x5, k5⟩ := DataW.trod_int Tryz.underlying3 hp1
 obtain ⟨a1, e1, x1, k1⟩ := DataW.trod_int Tryz.underlying3 h1
 obtain ⟨a2, e2, x2, k2⟩ := DataW.trod_int Tryz.underlying3 h2
 obtain ⟨a3, e3, x3, k3⟩ := DataW.trod_int Tryz.underlying3 h3
 obtain ⟨a4, e4, x4, k4⟩ := DataW.trod_int Tryz.underlying3 h4
 simp only [List.cons.injEq, and_true] at e0 e1 e2 e3 e4 e5
 subst e0 e1 e2 e3 e4 e5 x0 x1 x2 x3 x4 x5
 rw [hy0] at hps
 exact ⟨⟨⟨a0, a5⟩, a1, a2, a3, a4⟩, rfl, ⟨⟨k0, k5⟩, k1, k2, k3, k4⟩, hps⟩
end
end Go.Proofs.YtfdbidagdjnipaaGreatDoor
namespace Go.Proofs.YtfdbidagdjnipaaGreatDoor
open Go.RowKit

def inS (l : List Nd) (p : Pt) : Bool := l.any (fun n => decide (n.pt = p))
theorem inS_succ (l : List Nd) (k : Nat) (hk : k < l.length) : inS (l.take (k + 1)) = fun p => if p = l[k].pt then true else inS (l.take k) p := by
 funext p
 unfold inS
 rw [List.take_succ_eq_append_getElem hk, List.any_append]
 by_cases h : p = l[k].pt
 · simp [h]
 ·
  have : ¬ l[k].pt = p := fun e => h e.symm
  simp [h, this]

set_option maxRecDepth 100000 in
set_option maxHeartbeats 1000000 in
theorem points_spec (v : Value) (l : List Nd) (w : World) (h : Nds w v l) (hw : ∀ n ∈ l, wfNd n) (hl : l.length ≤ 4294967000) :
  Calls Tryz.prog 35 #[v] w fun e w' => e = .returned (.map (some w.heap.size)) ∧ Below w.heap.size w w' ∧ MapSet w' w.heap.size l.length (inS l) := by
 obtain ⟨A, c, rfl, hn, hc, hR⟩ := h
 unfold maxLen at hc
 have HR := Lib.hid hR; clear hR
 have HW := Lib.hid hw; clear hw
 have HM0 := Lib.hid (MapSet.made w)
 have hmm := @run_makeMap Tryz.prog
 go_enter Tryz.func35, Tryz.ntmps35
 go_wp2_with fail
 obtain ⟨W2, hW2⟩ : ∃ W2 : World, W2 = w.alloc (.map #[] 0) := ⟨_, rfl⟩
 have HM2 : Hid (MapSet W2 w.heap.size 0 (fun _ => false)) := by rw [hW2]; exact HM0
 have HB2 := Lib.hid (show Below w.heap.size w W2 by rw [hW2]; exact bA (bR w) _)
 rw [← hW2]
 clear hmm hW2 HM0
 have hx2 := HB2.out.size
 go_loopw [9] (fun u wr => ∃ k : Nat, k ≤ l.length ∧ u = .int .i64 k ∧ Below w.heap.size w wr ∧ MapSet wr w.heap.size k (inS (l.take k))) (fun u _ => l.length - (intOf u).toNat)
 case atStart => exact ⟨0, Nat.zero_le _, rfl, HB2.out, HM2.out⟩
 case round =>
  obtain ⟨k, hk, rfl, hb, hm⟩ := hrel
  have Hb := Lib.hid hb
  have Hm := Lib.hid hm
  have hszr := hb.size
  have hml := hm.lt
  clear hb hm
  by_cases hlt : k < l.length
  case pos =>
   obtain ⟨b, o, rfl, hlb, c0, c1, c2⟩ := (HR.out.mono Hb.out).nd hlt
   have hwk := HW.out _ (List.getElem_mem hlt)
   obtain ⟨w3, hr3, hm3, hg3⟩ := MapSet.upd (Hm.out.keep (bA (bR wr) (.cells #[.int .i64 l[k].id, .int .i64 l[k].pt.x, .int .i64 l[k].pt.y] 93))) (by omega) l[k].pt hwk.2 true
   have hm4 : MapSet w3 w.heap.size (k + 1) (inS (l.take (k + 1))) := by rw [inS_succ l k hlt]; exact hm3
   have B3 : Below w.heap.size w w3 := bG (bA Hb.out _) hg3 (fun g hg => by injection hg with hg; omega)
   have Hm4 := Lib.hid hm4
   have HB3 := Lib.hid B3
   clear hm3 hg3 hm4 B3 hwk
   go_wp2_with fail
   go_roundw
   case rel => exact ⟨k + 1, by omega, by go_num, HB3.out, Hm4.out⟩
   case measure => simp [intOf]; omega
  case neg =>
  have hall : l.take k = l := List.take_of_length_le (by omega)
  have hm := Hm.out
  rw [hall] at hm
  have hkl : k = l.length := by omega
  have HM := Lib.hid (show MapSet wr w.heap.size l.length (inS l) by rw [← hkl]; exact hm)
  clear hm hall hkl
  go_wp2_with fail
  go_ret
  exact ⟨rfl, Hb.out, HM.out⟩

theorem sizeOf_pt : ∀ w, (Go.sizeOf 28).run Tryz.prog w = .ok 2 w := fun _ => by kernel_rfl

set_option maxRecDepth 100000 in
set_option maxHeartbeats 2000000 in
theorem entering_spec (g : Ed) (y : Pc) (v : Value) (w : World) (h : Pts w v y.path) :
  Calls Tryz.prog 36 #[edV g, pcV y v] w fun e w' => ∃ v', e = .returned v' ∧ Below w.heap.size w w' ∧ ∀ W, Pts W v y.path → Pts W v' (enterS g y) := by
 obtain ⟨A, c, rfl, hn, hc, hR⟩ := h
 unfold maxLen at hc
 have HR := Lib.hid hR; clear hR
 have TO : ∀ (p : Pt) (W : World), Calls Tryz.prog 42 #[edV g, ptV p] W fun e w' => e = .returned (.int .i64 (offS g p)) ∧ Below W.heap.size W w' := fun p W => off_spec g p W
 unfold edV ptV at TO
 have HO := Lib.hid TO; clear TO
 unfold edV pcV
 go_enter Tryz.func36, Tryz.ntmps36
 go_wp2_with fail
 obtain ⟨W0, hW0⟩ : ∃ W0 : World, W0 = (w.alloc (.cells #[.int .i64 g.side, .bool g.upright, .int .i64 g.line, .int .i64 g.lo, .int .i64 g.hi] 78)).alloc (.cells #[.int .i64 y.arc, .slice A y.path.length c, .int .i64 y.enter, .int .i64 y.leave] 68) := ⟨_, rfl⟩
 have X2 : Blk W0 w.heap.size 78 #[.int .i64 g.side, .bool g.upright, .int .i64 g.line, .int .i64 g.lo, .int .i64 g.hi] := by rw [hW0]; exact (Blk.made rfl _ _).alloc _
 have X3 : Blk W0 (w.heap.size + 1) 68 #[.int .i64 y.arc, .slice A y.path.length c, .int .i64 y.enter, .int .i64 y.leave] := by rw [hW0]; exact Blk.made (by simp) _ _
 have HB0 := Lib.hid (show Below w.heap.size w W0 by rw [hW0]; exact bA (bA (bR w) _) _)
 rw [← hW0]
 have HX2 := Lib.hid X2; have HX3 := Lib.hid X3
 clear hW0 X2 X3
 go_loopw [5] (fun u wr => ∃ k : Nat, k ≤ y.path.length ∧ u = .int .i64 k ∧ Below W0.heap.size W0 wr ∧ ∀ j (hj : j < y.path.length), j < k → onE g y.path[j] = true) (fun u _ => y.path.length - (intOf u).toNat)
 case atStart => exact ⟨0, Nat.zero_le _, rfl, bR W0, fun _ _ h => by omega⟩
 case round =>
  obtain ⟨k, hk, rfl, hb, hon⟩ := hrel
  have Hb := Lib.hid hb
  have Hon := Lib.hid hon
  have X2 := HX2.out.keep hb
  have X3 := HX3.out.keep hb
  clear hb hon
  obtain ⟨X2l, X2a, X2b, X2c, X2d, X2e, -, -, -, -, -⟩ := X2.facts5
  obtain ⟨X3l, X3a, X3b, X3c, X3d, -, -, -, -⟩ := X3.facts4
  by_cases hlt : k < y.path.length
  case pos =>
   obtain ⟨b, o, rfl, hlb, c0, c1⟩ := (HR.out.mono (bT HB0.out Hb.out)).pt hlt
   have q1 : 0 ≤ (k : Int) := by omega
   have q2 : (k : Int) < y.path.length := by omega
   by_cases ho : onE g y.path[k] = true
   ·
    have hz : offS g y.path[k] = 0 := (off_on g _).2 ho
    have TK : ∀ W, Calls Tryz.prog 42 #[.agg #[.int .i64 g.side, .bool g.upright, .int .i64 g.line, .int .i64 g.lo, .int .i64 g.hi], .agg #[.int .i64 y.path[k].x, .int .i64 y.path[k].y]] W fun e w' => e = .returned (.int .i64 0) ∧ Below W.heap.size W w' := fun W => by
     have := HO.out y.path[k] W
     rw [hz] at this
     exact this
    have HK := Lib.hid TK
    have Ho := Lib.hid ho
    clear TK hz ho
    go_upto_region 2 with fail
    refine rg_start (Since wr) (.run 12 0 0 (.call 12 8191 (.take 13 16383 (.take 14 32767 (.done))))) (by kernel_rfl) (bD (bR _)) (by kernel_rfl) (by kernel_rfl) (Nat.le_of_ble_eq_true (by kernel_rfl)) ?_
    intro opsR QR Hops HQrg hS
    iterate 6
     apply rg_p; exact Hops; exact rfl; exact hS; exact rfl
     · intro _ hqc; go_simp; try rfl
     try simp only [pu]
    iterate 6
     apply rg_g; exact Hops; exact rfl; exact hS; iterate 4 exact rfl
     · intro _ hqc; go_simp; try rfl
     try simp only [pu]
    refine rg_call (i := 12) (get_of Hops rfl) (fun K hK => ?_)
    have HSrg := Lib.hid hS; clear hS
    refine rg_run (wanted_yes rfl (get_of Hops rfl) rfl rfl) ?_
    go_simp
    refine (HK.out _).mono ?_
    rintro e wr1 ⟨rfl, hbr1⟩
    have hS : Since wr wr1 := bT (w := wr) HSrg.out hbr1
    clear HSrg
    refine hK.out _ _ hS (fun _ => ?_)
    clear hK K
    try simp only [pu]
    apply rg_g; exact Hops; exact rfl; exact hS; iterate 4 exact rfl
    · intro _ hqc; go_simp; try rfl
    try simp only [pu]
    apply rg_p; exact Hops; exact rfl; exact hS; exact rfl
    · intro _ hqc; go_simp; try rfl
    try simp only [pu]
    refine rg_done ?_
    refine HQrg.down _ _ ?_
    have hB : Below wr.heap.size wr wr1 := hS
    clear hS HQrg Hops
    have Bw := Lib.hid (bT Hb.out hB)
    clear hB
    go_wp2_with fail
    go_roundw
    case rel => exact ⟨k + 1, by omega, by go_num, Bw.out, fun j hj hjk => if e : j < k then Hon.out j hj e else by
      have : j = k := by omega
      subst this; exact Ho.out⟩
    case measure => simp [intOf]; omega
   ·
    have hz : ¬ offS g y.path[k] = 0 := fun e => ho ((off_on g _).1 e)
    obtain ⟨z, hzz⟩ : ∃ z, offS g y.path[k] = z := ⟨_, rfl⟩
    rw [hzz] at hz
    have hz' : (z == 0) = false := by simpa using hz
    have TK : ∀ W, Calls Tryz.prog 42 #[.agg #[.int .i64 g.side, .bool g.upright, .int .i64 g.line, .int .i64 g.lo, .int .i64 g.hi], .agg #[.int .i64 y.path[k].x, .int .i64 y.path[k].y]] W fun e w' => e = .returned (.int .i64 z) ∧ Below W.heap.size W w' := fun W => by
     have := HO.out y.path[k] W
     rw [hzz] at this
     exact this
    have HK := Lib.hid TK
    have hlead := leadN_step (g := g) hlt (fun j hj hjk => Hon.out j hj hjk) (by simpa using ho)
    have hE : enterS g y = if y.enter ≠ g.side then [] else y.path.take k := by
     unfold enterS
     rw [hlead, if_neg (show ¬ k = y.path.length by omega)]
    have HE := Lib.hid hE
    clear TK hz ho hzz hlead hE
    go_upto_region 2 with fail
    refine rg_start (Since wr) (.run 12 0 0 (.call 12 8191 (.take 13 16383 (.take 14 32767 (.done))))) (by kernel_rfl) (bD (bR _)) (by kernel_rfl) (by kernel_rfl) (Nat.le_of_ble_eq_true (by kernel_rfl)) ?_
    intro opsR QR Hops HQrg hS
    iterate 6
     apply rg_p; exact Hops; exact rfl; exact hS; exact rfl
     · intro _ hqc; go_simp; try rfl
     try simp only [pu]
    iterate 6
     apply rg_g; exact Hops; exact rfl; exact hS; iterate 4 exact rfl
     · intro _ hqc; go_simp; try rfl
     try simp only [pu]
    refine rg_call (i := 12) (get_of Hops rfl) (fun K hK => ?_)
    have HSrg := Lib.hid hS; clear hS
    refine rg_run (wanted_yes rfl (get_of Hops rfl) rfl rfl) ?_
    go_simp
    refine (HK.out _).mono ?_
    rintro e wr1 ⟨rfl, hbr1⟩
    have hS : Since wr wr1 := bT (w := wr) HSrg.out hbr1
    clear HSrg
    refine hK.out _ _ hS (fun _ => ?_)
    clear hK K
    try simp only [pu]
    apply rg_g; exact Hops; exact rfl; exact hS; iterate 4 exact rfl
    · intro _ hqc; go_simp; try rfl
    try simp only [pu]
    apply rg_p; exact Hops; exact rfl; exact hS; exact rfl
    · intro _ hqc; go_simp; try rfl
    try simp only [pu]
    refine rg_done ?_
    refine HQrg.down _ _ ?_
    have hB : Below wr.heap.size wr wr1 := hS
    clear hS HQrg Hops
    have X2 := X2.keep hB
    have X3 := X3.keep hB
    have Bw := Lib.hid (bT HB0.out (bT Hb.out hB))
    clear hB X2l X2a X2b X2c X2d X2e X3l X3a X3b X3c X3d c0 c1 hlb
    try clear X2l
    try clear X2a
    try clear X2b
    try clear X2c
    try clear X2d
    try clear X2e
    obtain ⟨X2l, X2a, X2b, X2c, X2d, X2e, -, -, -, -, -⟩ := X2.facts5
    try clear X3l
    try clear X3a
    try clear X3b
    try clear X3c
    try clear X3d
    obtain ⟨X3l, X3a, X3b, X3c, X3d, -, -, -, -⟩ := X3.facts4
    by_cases he : y.enter = g.side
    ·
     have he' : (y.enter != g.side) = false := by simp [he]
     have hk' : ((k : Int) == (y.path.length : Int)) = false := by simp; omega
     have hrun := run_pre Tryz.underlying56 sizeOf_pt (some ⟨b, o, none⟩) y.path.length c k (by omega) hn
     have He := Lib.hid he; clear he
     go_wp2_with fail
     go_ret
     refine ⟨_, rfl, Bw.out, ?_⟩
     rw [HE.out, if_neg (fun h => h He.out)]
     exact fun W hW => Sl.pre_ hW k (by omega)
    ·
     have he' : (y.enter != g.side) = true := by simp [he]
     have He := Lib.hid he; clear he
     go_wp2_with fail
     go_ret
     refine ⟨_, rfl, Bw.out, ?_⟩
     rw [HE.out, if_pos He.out]
     exact fun W _ => Sl.nil _
  case neg =>
  have hkk : k = y.path.length := by omega
  subst hkk
  have hlead := leadN_end (g := g) (l := y.path) (fun j hj => Hon.out j hj hj)
  have hE : enterS g y = if y.enter ≠ g.side then [] else if y.leave = 0 ∨ y.leave = g.side then [] else y.path.take (if 1 < y.path.length then y.path.length - 1 else y.path.length) := by
   unfold enterS
   rw [hlead, if_pos rfl]
  have HE := Lib.hid hE
  have q3 : ¬ (y.path.length : Int) < (y.path.length : Int) := by omega
  clear hlead hE hlt
  go_upto_region 2 with fail
  refine rg_start (Since wr) (.run 15 0 0 (.done)) (by kernel_rfl) (bD (bR _)) (by kernel_rfl) (by kernel_rfl) (Nat.le_of_ble_eq_true (by kernel_rfl)) ?_
  intro opsR QR Hops HQrg hS
  iterate 6
   apply rg_p; exact Hops; exact rfl; exact hS; exact rfl
   · intro _ hqc; go_simp; try rfl
   try simp only [pu]
  iterate 8
   refine rg_yn Hops rfl hS rfl rfl rfl rfl rfl ?_
   try simp only [pu]
  apply rg_p; exact Hops; exact rfl; exact hS; exact rfl
  · intro _ hqc; go_simp; try rfl
  try simp only [pu]
  refine rg_done ?_
  refine HQrg.down _ _ ?_
  have hB : Below wr.heap.size wr wr.drew := hS
  clear hS HQrg Hops
  have X2 := X2.keep hB
  have X3 := X3.keep hB
  have Bw := Lib.hid (bT HB0.out (bT Hb.out hB))
  clear hB X2l X2a X2b X2c X2d X2e X3l X3a X3b X3c X3d
  try clear X2l
  try clear X2a
  try clear X2b
  try clear X2c
  try clear X2d
  try clear X2e
  obtain ⟨X2l, X2a, X2b, X2c, X2d, X2e, -, -, -, -, -⟩ := X2.facts5
  try clear X3l
  try clear X3a
  try clear X3b
  try clear X3c
  try clear X3d
  obtain ⟨X3l, X3a, X3b, X3c, X3d, -, -, -, -⟩ := X3.facts4
  by_cases he : y.enter = g.side
  case neg =>
   have he' : (y.enter != g.side) = true := by simp [he]
   have He := Lib.hid he; clear he
   go_wp2_with fail
   go_ret
   refine ⟨_, rfl, Bw.out, ?_⟩
   rw [HE.out, if_pos He.out]
   exact fun W _ => Sl.nil _
  have he' : (y.enter != g.side) = false := by simp [he]
  have He := Lib.hid he; clear he
  by_cases hv : y.leave = 0 ∨ y.leave = g.side
  ·
   have hv' : (y.leave == 0) = true ∨ ((y.leave == 0) = false ∧ (y.leave == g.side) = true) := by
    by_cases h0 : y.leave = 0
    · left; simp [h0]
    · right; exact ⟨by simpa using h0, by rcases hv with h | h <;> simp_all⟩
   have Hv := Lib.hid hv; clear hv
   rcases hv' with h1 | ⟨h1, h2⟩
   all_goals
    go_wp2_with fail
    go_ret
    refine ⟨_, rfl, Bw.out, ?_⟩
    rw [HE.out, if_neg (fun h => h He.out), if_pos Hv.out]
    exact fun W _ => Sl.nil _
  ·
   have h1 : (y.leave == 0) = false := by simp; omega
   have h2 : (y.leave == g.side) = false := by simp; omega
   have Hv := Lib.hid hv; clear hv
   by_cases h3 : 1 < y.path.length
   ·
    have hrun := run_pre Tryz.underlying56 sizeOf_pt A y.path.length c (y.path.length - 1) (by omega) hn
    have hcast : ((y.path.length - 1 : Nat) : Int) = (y.path.length : Int) - 1 := by omega
    rw [hcast] at hrun
    have h4 : 1 < (y.path.length : Int) := by omega
    clear hcast
    go_wp2_with fail
    go_ret
    refine ⟨_, rfl, Bw.out, ?_⟩
    rw [HE.out, if_neg (fun h => h He.out), if_neg Hv.out, if_pos h3]
    exact fun W hW => Sl.pre_ hW _ (by omega)
   ·
    have hrun := run_pre Tryz.underlying56 sizeOf_pt A y.path.length c y.path.length (by omega) hn
    have h4 : ¬ 1 < (y.path.length : Int) := by omega
    go_wp2_with fail
    go_ret
    refine ⟨_, rfl, Bw.out, ?_⟩
    rw [HE.out, if_neg (fun h => h He.out), if_neg Hv.out, if_neg h3]
    exact fun W hW => Sl.pre_ hW _ (by omega)
end Go.Proofs.YtfdbidagdjnipaaGreatDoor
