/- A plan that comes in as an argument: its reading opened to cells and lists. Parts, lists of parts, lists of crossings, series and boxes that come in as arguments: their reading opened to cells and lists. sheetgrid: Check, find, Box. mapsheetsref10.Point; mapsheetsref40: Check, there, place, Box. sheetgrid.Check; mapsheetsref40.Check. mapsheetsref40: Check, there, place. sheetgrid.find. sheetgrid.Box, Neighbor; mapsheetsref40.Box, Neighbor. (printed by gen/gridd.py) -/
import Derived.Deep.Slices
import Derived.Lib.SmallJoins
import Derived.Test.YtfondidmklmonaaGreatGB
import Derived.Test.YtfondidmklmonaaGreatJ02
set_option linter.unusedSimpArgs false
set_option linter.unusedVariables false
namespace Go.Proofs.YtfondidmklmonaaGreat
open Go.RowKit Go.ChangeShapes Go.WideShapes Go.Deep Go.Joins

instance : Inhabited Pt := ⟨⟨0, 0⟩⟩
instance : Inhabited Nd := ⟨⟨0, ⟨0, 0⟩⟩⟩
instance : Inhabited Ar := ⟨⟨0, 0, 0, [], 0, 0⟩⟩

/- The numbers are those of their type. -/
def wfPt (p : Pt) : Prop := wfI p.x ∧ wfI p.y
def wfNd (n : Nd) : Prop := wfI n.id ∧ wfPt n.pt
def wfAr (a : Ar) : Prop := wfI a.id ∧ wfI a.fr ∧ wfI a.dst ∧ wfI a.left ∧ wfI a.right ∧ ∀ p ∈ a.via, wfPt p
def wfPl (p : Pl) : Prop := (∀ n ∈ p.nodes, wfNd n) ∧ (∀ a ∈ p.arcs, wfAr a) ∧ ∀ f ∈ p.faces, wfI f

theorem lst2 {α : Type} {l : List α} (h : l.length = 2) : ∃ a b, l = [a, b] := by
 match l, h with
 | [a, b], _ => exact ⟨a, b, rfl⟩
theorem lst3 {α : Type} {l : List α} (h : l.length = 3) : ∃ a b c, l = [a, b, c] := by
 match l, h with
 | [a, b, c], _ => exact ⟨a, b, c, rfl⟩
theorem lst6 {α : Type} {l : List α} (h : l.length = 6) : ∃ a b c d e f, l = [a, b, c, d, e, f] := by
 match l, h with
 | [a, b, c, d, e, f], _ => exact ⟨a, b, c, d, e, f, rfl⟩

section
variable {H : Type} {enc : TypeId × Value → H} {w : World} {base : Nat} {spare : Nat → Bool} {held : Bool}
theorem sl_of {P : Program} {α : Type} [Inhabited α] {t e : TypeId} {n : Nat} (f : α → List Value) (Q : α → Prop) (ht : P.underlying t = some (.slice e)) (hc : P.cellsOf e = n) (hn : ∀ a, (f a).length = n)
  (hel : ∀ m cs x, DataW.trod enc P w base spare held m e cs = some x → ∃ a, cs = f a ∧ Q a) {fuel : Nat} {cs : List Value} {x : DataW H × List MemPlace} (h : DataW.trod enc P w base spare held fuel t cs = some x) :
  ∃ l : List α, (∃ v, cs = [v] ∧ Sl w v l.length (l.flatMap f)) ∧ ∀ a ∈ l, Q a := by
 rcases open_slice ht h with ⟨rfl, _⟩ | ⟨a, len, cap, m, k, D, Pl, rfl, hb, hl, hm, hmm, -, hi⟩
 · exact ⟨[], ⟨_, rfl, none, 0, rfl, Nat.le_refl _, by simp [maxLen], Row.nil⟩, fun _ h => by cases h⟩
 ·
  have hlm : len ≤ m := by rw [hmm]; split <;> omega
  obtain ⟨F, hF⟩ := choose_lt (α := α) (p := fun i y => w.cells? base (a.add (i * n)) n = some (f y) ∧ Q y) (n := len) (fun i hil => by
   obtain ⟨cs', h1, h2⟩ := hi i (by omega)
   obtain ⟨y, rfl, hq⟩ := hel _ _ _ h2
   rw [hc] at h1
   exact ⟨y, h1, hq⟩)
  have hlen : ((List.range len).map F).length = len := by simp
  refine ⟨(List.range len).map F, ⟨_, rfl, some a, cap, by rw [hlen], by rw [hlen]; exact hl, hm, ?_⟩, fun y hy => ?_⟩
  ·
   intro hne
   have hfl := flat_length f n hn ((List.range len).map F)
   rw [hlen] at hfl
   have hpos : 0 < len * n := by
    rcases Nat.eq_zero_or_pos (len * n) with h0 | h0
    · exact absurd (List.eq_nil_of_length_eq_zero (by omega)) hne
    · exact h0
   have hn0 : 0 < n := Nat.pos_of_mul_pos_left hpos
   have key : ∀ j, j < len * n → w.cell? (a.add j) = (((List.range len).map F).flatMap f)[j]? := fun j hj => by
    have h1 : j / n < len := Nat.div_lt_of_lt_mul (by rw [Nat.mul_comm]; exact hj)
    have h2 : j % n < n := Nat.mod_lt _ hn0
    have h3 := flat_get f n hn ((List.range len).map F) (j / n) (j % n) (by rw [hlen]; exact h1) h2
    rw [Nat.div_add_mod'] at h3
    have h4 := (World.cells?_some (hF (j / n) h1).1).2.2 (j % n) h2
    rw [Go.Deep.add_add, Nat.div_add_mod'] at h4
    rw [h4, h3]
    simp
   have h00 := key 0 hpos
   obtain ⟨b, o, spot⟩ := a
   have hex : ∃ v, w.cell? (Addr.add ⟨b, o, spot⟩ 0) = some v := by
    rw [h00, List.getElem?_eq_getElem (by omega)]
    exact ⟨_, rfl⟩
   obtain ⟨v0, hv0⟩ := hex
   have hspot : spot = none := by simpa [Addr.add] using World.cell?_spot hv0
   subst hspot
   refine ⟨b, o, rfl, ?_, fun j v hj => ?_⟩
   ·
    have := World.block_lt_of_cell? w _ hv0
    simpa [Addr.add] using this
   ·
    have hjl : j < len * n := by
     rcases Nat.lt_or_ge j (len * n) with h' | h'
     · exact h'
     · rw [List.getElem?_eq_none (by omega)] at hj; cases hj
    rw [← Go.WideShapes.add_plain, key j hjl]
    exact hj
  ·
   obtain ⟨i, hi', rfl⟩ := List.mem_map.1 hy
   exact (hF i (List.mem_range.1 hi')).2

theorem trod_struct6 {P : Program} {t : TypeId} {f0 f1 f2 f3 f4 f5 : Field} {fuel : Nat} {cs : List Value} {x : DataW H × List MemPlace} (ht : P.underlying t = some (.struct #[f0, f1, f2, f3, f4, f5])) (h : DataW.trod enc P w base spare held fuel t cs = some x) :
  ∃ (y0 y1 y2 y3 y4 y5 : DataW H × List MemPlace) (n : Nat), cs.length = P.cellsOf t ∧ DataW.trod enc P w base spare held n f0.type ((cs.drop f0.offset).take (P.cellsOf f0.type)) = some y0 ∧ DataW.trod enc P w base spare held n f1.type ((cs.drop f1.offset).take (P.cellsOf f1.type)) = some y1 ∧ DataW.trod enc P w base spare held n f2.type ((cs.drop f2.offset).take (P.cellsOf f2.type)) = some y2 ∧ DataW.trod enc P w base spare held n f3.type ((cs.drop f3.offset).take (P.cellsOf f3.type)) = some y3 ∧ DataW.trod enc P w base spare held n f4.type ((cs.drop f4.offset).take (P.cellsOf f4.type)) = some y4 ∧ DataW.trod enc P w base spare held n f5.type ((cs.drop f5.offset).take (P.cellsOf f5.type)) = some y5 := by
 obtain ⟨xs, n, _, -, hl, hlen, hf⟩ := DataW.trod_struct ht h
 match xs, hlen with
 | [y0, y1, y2, y3, y4, y5], _ => exact ⟨y0, y1, y2, y3, y4, y5, n, hl, by simpa using hf 0 f0 rfl, by simpa using hf 1 f1 rfl, by simpa using hf 2 f2 rfl, by simpa using hf 3 f3 rfl, by simpa using hf 4 f4 rfl, by simpa using hf 5 f5 rfl⟩
theorem c_int : Tryz.prog.cellsOf 3 = 1 := by kernel_rfl
theorem c_pt : Tryz.prog.cellsOf 28 = 2 := by kernel_rfl
theorem c_nd : Tryz.prog.cellsOf 59 = 3 := by kernel_rfl
theorem c_ar : Tryz.prog.cellsOf 63 = 6 := by kernel_rfl
theorem c_pl : Tryz.prog.cellsOf 26 = 3 := by kernel_rfl
theorem c_pts : Tryz.prog.cellsOf 53 = 1 := by kernel_rfl
theorem trod_in {fuel : Nat} {cs : List Value} {x : DataW H × List MemPlace} (h : DataW.trod enc Tryz.prog w base spare held fuel 3 cs = some x) : ∃ n : Int, cs = inC n ∧ wfI n := by
 obtain ⟨n, h1, -, h2⟩ := DataW.trod_int Tryz.underlying3 h
 exact ⟨n, h1, h2⟩
theorem trod_pt {fuel : Nat} {cs : List Value} {x : DataW H × List MemPlace} (h : DataW.trod enc Tryz.prog w base spare held fuel 28 cs = some x) : ∃ p : Pt, cs = ptC p ∧ wfPt p := by
 obtain ⟨y0, y1, n, -, hl, h0, h1⟩ := trod_struct2 Tryz.underlying28 h
 rw [c_pt] at hl
 obtain ⟨c0, c1, rfl⟩ := lst2 hl
 simp only [c_int, List.drop_zero, List.drop_succ_cons, List.take_succ_cons, List.take_zero] at h0 h1
 obtain ⟨a, ha, hwa⟩ := trod_in h0
 obtain ⟨b, hb, hwb⟩ := trod_in h1
 simp only [inC, List.cons.injEq, and_true] at ha hb
 subst ha hb
 exact ⟨⟨a, b⟩, rfl, hwa, hwb⟩
theorem trod_nd {fuel : Nat} {cs : List Value} {x : DataW H × List MemPlace} (h : DataW.trod enc Tryz.prog w base spare held fuel 59 cs = some x) : ∃ p : Nd, cs = ndC p ∧ wfNd p := by
 obtain ⟨y0, y1, n, -, hl, h0, h1⟩ := trod_struct2 Tryz.underlying59 h
 rw [c_nd] at hl
 obtain ⟨c0, c1, c2, rfl⟩ := lst3 hl
 simp only [c_int, c_pt, List.drop_zero, List.drop_succ_cons, List.take_succ_cons, List.take_zero] at h0 h1
 obtain ⟨a, ha, hwa⟩ := trod_in h0
 obtain ⟨b, hb, hwb⟩ := trod_pt h1
 simp only [inC, ptC, List.cons.injEq, and_true] at ha hb
 obtain ⟨hb1, hb2⟩ := hb
 subst ha hb1 hb2
 exact ⟨⟨a, b⟩, rfl, hwa, hwb⟩
theorem trod_pts {fuel : Nat} {cs : List Value} {x : DataW H × List MemPlace} (h : DataW.trod enc Tryz.prog w base spare held fuel 53 cs = some x) : ∃ l : List Pt, (∃ v, cs = [v] ∧ Pts w v l) ∧ ∀ p ∈ l, wfPt p :=
 sl_of ptC wfPt Tryz.underlying53 c_pt ptC_len (fun _ _ _ h => trod_pt h) h
set_option maxRecDepth 100000 in
theorem trod_ar {fuel : Nat} {cs : List Value} {x : DataW H × List MemPlace} (h : DataW.trod enc Tryz.prog w base spare held fuel 63 cs = some x) : ∃ p : Ar × Value, cs = arC p ∧ Pts w p.2 p.1.via ∧ wfAr p.1 := by
 obtain ⟨y0, y1, y2, y3, y4, y5, n, hl, h0, h1, h2, h3, h4, h5⟩ := trod_struct6 Tryz.underlying63 h
 rw [c_ar] at hl
 obtain ⟨c0, c1, c2, c3, c4, c5, rfl⟩ := lst6 hl
 simp only [c_int, c_pts, List.drop_zero, List.drop_succ_cons, List.take_succ_cons, List.take_zero] at h0 h1 h2 h3 h4 h5
 obtain ⟨a0, e0, k0⟩ := trod_in h0
 obtain ⟨a1, e1, k1⟩ := trod_in h1
 obtain ⟨a2, e2, k2⟩ := trod_in h2
 obtain ⟨l, ⟨v, e3, hv⟩, k3⟩ := trod_pts h3
 obtain ⟨a4, e4, k4⟩ := trod_in h4
 obtain ⟨a5, e5, k5⟩ := trod_in h5
 simp only [inC, List.cons.injEq, and_true] at e0 e1 e2 e3 e4 e5
 subst e0 e1 e2 e3 e4 e5
 exact ⟨(⟨a0, a1, a2, l, a4, a5⟩, c3), rfl, hv, k0, k1, k2, k4, k5, k3⟩

set_option maxRecDepth 100000 in
/-- THE ARGUMENT: a plan by value, whose reading is there, reads as a plain plan. -/
theorem PlV.of_trod {r : Reach} {b0 : Nat} {v : Value} {d : DataW H} {ps : List MemPlace} (hv : Value.okWide Tryz.prog w r b0 26 v) (h : DataW.Trod enc Tryz.prog w base spare held 26 v d ps) : ∃ p, PlV w v p ∧ wfPl p := by
 obtain ⟨v0, v1, v2, y0, y1, y2, n, rfl, -, -, h0, h1, h2⟩ := open_agg3 Tryz.underlying26 (by kernel_rfl) c_pl hv h
 obtain ⟨nl, ⟨u0, e0, hn⟩, wn⟩ := sl_of ndC wfNd Tryz.underlying22 c_nd ndC_len (fun _ _ _ h => trod_nd h) h0
 obtain ⟨al, ⟨u1, e1, ha⟩, wa⟩ := sl_of arC (fun x => Pts w x.2 x.1.via ∧ wfAr x.1) Tryz.underlying23 c_ar arC_len (fun _ _ _ h => trod_ar h) h1
 obtain ⟨fl, ⟨u2, e2, hf⟩, wf⟩ := sl_of inC wfI Tryz.underlying24 c_int inC_len (fun _ _ _ h => trod_in h) h2
 simp only [List.cons.injEq, and_true] at e0 e1 e2
 subst e0 e1 e2
 refine ⟨⟨nl, al.map (·.1), fl⟩, ⟨v0, v1, v2, al, rfl, rfl, hn, ⟨ha, fun k hk => (wa _ (List.getElem_mem hk)).1⟩, hf⟩, wn, fun a ha => ?_, wf⟩
 obtain ⟨x, hx, rfl⟩ := List.mem_map.1 ha
 exact (wa x hx).2
end
end Go.Proofs.YtfondidmklmonaaGreat
namespace Go.Proofs.YtfondidmklmonaaGreat
open Go.RowKit Go.ChangeShapes Go.WideShapes Go.Deep Go.Joins

instance : Inhabited Cr := ⟨⟨0, 0, 0⟩⟩
instance : Inhabited Pc := ⟨⟨0, [], 0, 0⟩⟩
instance : Inhabited Prt := ⟨⟨0, [], []⟩⟩
def wfPc (x : Pc) : Prop := wfI x.arc ∧ wfI x.enter ∧ wfI x.leave ∧ ∀ p ∈ x.path, wfPt p
def wfPrt (x : Prt) : Prop := wfI x.sheet ∧ (∀ y ∈ x.pieces, wfPc y) ∧ ∀ n ∈ x.nodes, wfNd n
def wfBx (b : Bx) : Prop := wfI b.x0 ∧ wfI b.y0 ∧ wfI b.x1 ∧ wfI b.y1
def wfSe (s : Se) : Prop := wfPt s.at_ ∧ wfI s.width ∧ wfI s.height ∧ wfI s.cols ∧ wfI s.rows

theorem lst4 {α : Type} {l : List α} (h : l.length = 4) : ∃ a b c d, l = [a, b, c, d] := by
 match l, h with
 | [a, b, c, d], _ => exact ⟨a, b, c, d, rfl⟩

section
variable {H : Type} {enc : TypeId × Value → H} {w : World} {base : Nat} {spare : Nat → Bool} {held : Bool}
theorem trod_struct5 {P : Program} {t : TypeId} {f0 f1 f2 f3 f4 : Field} {fuel : Nat} {cs : List Value} {x : DataW H × List MemPlace} (ht : P.underlying t = some (.struct #[f0, f1, f2, f3, f4])) (h : DataW.trod enc P w base spare held fuel t cs = some x) :
  ∃ (y0 y1 y2 y3 y4 : DataW H × List MemPlace) (n : Nat), x.2 = y0.2 ++ (y1.2 ++ (y2.2 ++ (y3.2 ++ y4.2))) ∧ cs.length = P.cellsOf t ∧ DataW.trod enc P w base spare held n f0.type ((cs.drop f0.offset).take (P.cellsOf f0.type)) = some y0 ∧ DataW.trod enc P w base spare held n f1.type ((cs.drop f1.offset).take (P.cellsOf f1.type)) = some y1 ∧ DataW.trod enc P w base spare held n f2.type ((cs.drop f2.offset).take (P.cellsOf f2.type)) = some y2 ∧ DataW.trod enc P w base spare held n f3.type ((cs.drop f3.offset).take (P.cellsOf f3.type)) = some y3 ∧ DataW.trod enc P w base spare held n f4.type ((cs.drop f4.offset).take (P.cellsOf f4.type)) = some y4 := by
 obtain ⟨xs, n, _, rfl, hl, hlen, hf⟩ := DataW.trod_struct ht h
 match xs, hlen with
 | [y0, y1, y2, y3, y4], _ => exact ⟨y0, y1, y2, y3, y4, n, by simp, hl, by simpa using hf 0 f0 rfl, by simpa using hf 1 f1 rfl, by simpa using hf 2 f2 rfl, by simpa using hf 3 f3 rfl, by simpa using hf 4 f4 rfl⟩
theorem agg_of {P : Program} {r : Reach} {b0 : Nat} {t : TypeId} {fs : Array Field} {v : Value} {d : DataW H} {p : List MemPlace} (hs : P.underlying t = some (.struct fs)) (hv : Value.okWide P w r b0 t v) (h : DataW.Trod enc P w base spare held t v d p) :
  ∃ cs : Array Value, v = .agg cs ∧ ∃ fuel, DataW.trod enc P w base spare held fuel t cs.toList = some (d, p) := by
 obtain ⟨cs, rfl, _⟩ := okWide_struct hs hv
 obtain ⟨fuel, hf⟩ := h
 exact ⟨cs, rfl, fuel, by simpa [Value.cells] using hf⟩
theorem c_pc : Tryz.prog.cellsOf 55 = 4 := by kernel_rfl
theorem c_prt : Tryz.prog.cellsOf 35 = 3 := by kernel_rfl
theorem c_bx : Tryz.prog.cellsOf 50 = 4 := by kernel_rfl
theorem c_se : Tryz.prog.cellsOf 30 = 6 := by kernel_rfl
theorem c_pcs : Tryz.prog.cellsOf 33 = 1 := by kernel_rfl
theorem c_nds : Tryz.prog.cellsOf 22 = 1 := by kernel_rfl
set_option maxRecDepth 100000 in
theorem trod_pc {fuel : Nat} {cs : List Value} {x : DataW H × List MemPlace} (h : DataW.trod enc Tryz.prog w base spare held fuel 55 cs = some x) : ∃ p : Pc × Value, cs = pcC p ∧ Pts w p.2 p.1.path ∧ wfPc p.1 := by
 obtain ⟨y0, y1, y2, y3, n, -, hl, h0, h1, h2, h3⟩ := trod_struct4 Tryz.underlying55 h
 rw [c_pc] at hl
 obtain ⟨c0, c1, c2, c3, rfl⟩ := lst4 hl
 simp only [c_int, c_pts, List.drop_zero, List.drop_succ_cons, List.take_succ_cons, List.take_zero] at h0 h1 h2 h3
 obtain ⟨a0, e0, k0⟩ := trod_in h0
 obtain ⟨l, ⟨v, e1, hv⟩, k1⟩ := trod_pts h1
 obtain ⟨a2, e2, k2⟩ := trod_in h2
 obtain ⟨a3, e3, k3⟩ := trod_in h3
 simp only [inC, List.cons.injEq, and_true] at e0 e1 e2 e3
 subst e0 e1 e2 e3
 exact ⟨(⟨a0, l, a2, a3⟩, c1), rfl, hv, k0, k2, k3, k1⟩
set_option maxRecDepth 100000 in
theorem trod_prt {fuel : Nat} {cs : List Value} {x : DataW H × List MemPlace} (h : DataW.trod enc Tryz.prog w base spare held fuel 35 cs = some x) : ∃ p : Prt × Value × Value, cs = prC p ∧ PrtV w (.agg #[.int .i64 p.1.sheet, p.2.1, p.2.2]) p.1 ∧ wfPrt p.1 := by
 obtain ⟨y0, y1, y2, n, -, hl, h0, h1, h2⟩ := trod_struct3 Tryz.underlying35 h
 rw [c_prt] at hl
 obtain ⟨c0, c1, c2, rfl⟩ := lst3 hl
 simp only [c_int, c_pcs, c_nds, List.drop_zero, List.drop_succ_cons, List.take_succ_cons, List.take_zero] at h0 h1 h2
 obtain ⟨a0, e0, k0⟩ := trod_in h0
 obtain ⟨pl, ⟨u1, e1, hp⟩, wp⟩ := sl_of pcC (fun x => Pts w x.2 x.1.path ∧ wfPc x.1) Tryz.underlying33 c_pc pcC_len (fun _ _ _ h => trod_pc h) h1
 obtain ⟨nl, ⟨u2, e2, hn⟩, wn⟩ := sl_of ndC wfNd Tryz.underlying22 c_nd ndC_len (fun _ _ _ h => trod_nd h) h2
 simp only [inC, List.cons.injEq, and_true] at e0 e1 e2
 subst e0 e1 e2
 refine ⟨(⟨a0, pl.map (·.1), nl⟩, c1, c2), rfl, ⟨c1, c2, pl, rfl, rfl, ⟨hp, fun k hk => (wp _ (List.getElem_mem hk)).1⟩, hn⟩, k0, fun y hy => ?_, wn⟩
 obtain ⟨x, hx, rfl⟩ := List.mem_map.1 hy
 exact (wp x hx).2
set_option maxRecDepth 100000 in
theorem PrtV.of_trod {r : Reach} {b0 : Nat} {v : Value} {d : DataW H} {ps : List MemPlace} (hv : Value.okWide Tryz.prog w r b0 35 v) (h : DataW.Trod enc Tryz.prog w base spare held 35 v d ps) : ∃ x, PrtV w v x ∧ wfPrt x := by
 obtain ⟨cs, rfl, fuel, h⟩ := agg_of Tryz.underlying35 hv h
 obtain ⟨⟨p, c1, c2⟩, hc, h1, h2⟩ := trod_prt h
 obtain ⟨cs⟩ := cs
 simp only [prC] at hc
 subst hc
 exact ⟨p, h1, h2⟩
set_option maxRecDepth 100000 in
theorem Prts.of_trod {v : Value} {d : DataW H} {ps : List MemPlace} (h : DataW.Trod enc Tryz.prog w base spare held 41 v d ps) (hv : ∃ A n c, v = .slice A n c) : ∃ l, Prts w v l ∧ ∀ x ∈ l, wfPrt x.1 := by
 obtain ⟨fuel, hf⟩ := h
 obtain ⟨A, n, c, rfl⟩ := hv
 obtain ⟨pl, ⟨u1, e1, hp⟩, wp⟩ := sl_of prC (fun p => PrtV w (.agg #[.int .i64 p.1.sheet, p.2.1, p.2.2]) p.1 ∧ wfPrt p.1) Tryz.underlying41 c_prt prC_len (fun _ _ _ h => trod_prt h) hf
 simp only [Value.cells, List.cons.injEq, and_true] at e1
 subst e1
 exact ⟨pl, ⟨hp, fun k hk => (wp _ (List.getElem_mem hk)).1⟩, fun x hx => (wp x hx).2⟩
set_option maxRecDepth 100000 in
theorem Bx.of_trod {r : Reach} {b0 : Nat} {v : Value} {d : DataW H} {ps : List MemPlace} (hv : Value.okWide Tryz.prog w r b0 50 v) (h : DataW.Trod enc Tryz.prog w base spare held 50 v d ps) : ∃ b : Bx, v = bxV b ∧ wfBx b ∧ ps = [] := by
 obtain ⟨v0, v1, v2, v3, y0, y1, y2, y3, n, rfl, -, rfl, h0, h1, h2, h3⟩ := open_agg4 Tryz.underlying50 (by kernel_rfl) c_bx hv h
 obtain ⟨a0, e0, x0, k0⟩ := DataW.trod_int Tryz.underlying3 h0
 obtain ⟨a1, e1, x1, k1⟩ := DataW.trod_int Tryz.underlying3 h1
 obtain ⟨a2, e2, x2, k2⟩ := DataW.trod_int Tryz.underlying3 h2
 obtain ⟨a3, e3, x3, k3⟩ := DataW.trod_int Tryz.underlying3 h3
 simp only [List.cons.injEq, and_true] at e0 e1 e2 e3
 subst e0 e1 e2 e3 x0 x1 x2 x3
 exact ⟨⟨a0, a1, a2, a3⟩, rfl, ⟨k0, k1, k2, k3⟩, rfl⟩
set_option maxRecDepth 100000 in
theorem Se.of_trod {r : Reach} {b0 : Nat} {v : Value} {d : DataW H} {ps : List MemPlace} (hv : Value.okWide Tryz.prog w r b0 30 v) (h : DataW.Trod enc Tryz.prog w base spare held 30 v d ps) : ∃ s : Se, v = seV s ∧ wfSe s ∧ ps = [] := by
 obtain ⟨cs, rfl, fuel, h⟩ := agg_of Tryz.underlying30 hv h
 obtain ⟨y0, y1, y2, y3, y4, n, hps, hl, h0, h1, h2, h3, h4⟩ := trod_struct5 Tryz.underlying30 h
 rw [c_se] at hl
 obtain ⟨cs⟩ := cs
 obtain ⟨c0, c1, c2, c3, c4, c5, rfl⟩ := lst6 hl
 simp only [c_int, c_pt, List.drop_zero, List.drop_succ_cons, List.take_succ_cons, List.take_zero] at h0 h1 h2 h3 h4
 obtain ⟨p0, p1, np, hy0, -, hp0, hp1⟩ := trod_struct2 Tryz.underlying28 h0
 simp only [c_int, List.drop_zero, List.drop_succ_cons, List.take_succ_cons, List.take_zero] at hp0 hp1
 obtain ⟨a0, e0, x0, k0⟩ := DataW.trod_int Tryz.underlying3 hp0
 obtain ⟨a5, e5, x5, k5⟩ := DataW.trod_int Tryz.underlying3 hp1
 obtain ⟨a1, e1, x1, k1⟩ := DataW.trod_int Tryz.underlying3 h1
 obtain ⟨a2, e2, x2, k2⟩ := DataW.trod_int Tryz.underlying3 h2
 obtain ⟨a3, e3, x3, k3⟩ := DataW.trod_int Tryz.underlying3 h3
 obtain ⟨a4, e4, x4, k4⟩ := DataW.trod_int Tryz.underlying3 h4
 simp only [List.cons.injEq, and_true] at e0 e1 e2 e3 e4 e5
 subst e0 e1 e2 e3 e4 e5 x0 x1 x2 x3 x4 x5
 rw [hy0] at hps
 exact ⟨⟨⟨a0, a5⟩, a1, a2, a3, a4⟩, rfl, ⟨⟨k0, k5⟩, k1, k2, k3, k4⟩, hps⟩
end
end Go.Proofs.YtfondidmklmonaaGreat
namespace Go.Proofs.YtfondidmklmonaaGreat
open Go.RowKit

def rngI (n lo hi : Int) : Bool := decide (lo ≤ n) && decide (n ≤ hi)
theorem rngI_iff (n lo hi : Int) : rngI n lo hi = true ↔ lo ≤ n ∧ n ≤ hi := by simp [rngI]
def gridPt (p : Pt) : Bool := rngI p.x (-1048576) 1048576 && rngI p.y (-1048576) 1048576
def seFar (s : Se) : Pt := ⟨s.at_.x + s.cols * s.width, s.at_.y + s.rows * s.height⟩
def seIn (s : Se) : Bool := gridPt s.at_ && (rngI s.width 1 65536 && (rngI s.height 1 65536 && (rngI s.cols 1 16 && rngI s.rows 1 16)))
def seOk (s : Se) : Bool := seIn s && gridPt (seFar s)
def seCheck (s : Se) : Int := if seOk s then 0 else 2
def thereS (s : Se) (n : Int) : Bool := decide (1 ≤ n) && decide (n ≤ s.cols * s.rows)
def colS (s : Se) (n : Int) : Int := (n - 1).tmod s.cols
def rowS (s : Se) (n : Int) : Int := (n - 1).tdiv s.cols
/-- the error of 'find' and of 'Box' -/
def findE (s : Se) (n : Int) : Int := if seOk s then (if thereS s n then 0 else 7) else 2
def boxOf (s : Se) (n : Int) : Bx := ⟨s.at_.x + colS s n * s.width, s.at_.y + rowS s n * s.height, s.at_.x + colS s n * s.width + s.width, s.at_.y + rowS s n * s.height + s.height⟩
def bx0 : Bx := ⟨0, 0, 0, 0⟩
def boxRes (s : Se) (n : Int) : Bx × Int := if findE s n = 0 then (boxOf s n, 0) else (bx0, findE s n)

theorem mul_bds {a b m n : Int} (h1 : 0 ≤ a) (h2 : a ≤ m) (h3 : 0 ≤ b) (h4 : b ≤ n) : 0 ≤ a * b ∧ a * b ≤ m * n :=
 ⟨Int.mul_nonneg h1 h3, Int.mul_le_mul h2 h4 h3 (by omega)⟩
structure SeBd (s : Se) : Prop where
 x : -1048576 ≤ s.at_.x ∧ s.at_.x ≤ 1048576
 y : -1048576 ≤ s.at_.y ∧ s.at_.y ≤ 1048576
 w : 1 ≤ s.width ∧ s.width ≤ 65536
 h : 1 ≤ s.height ∧ s.height ≤ 65536
 c : 1 ≤ s.cols ∧ s.cols ≤ 16
 r : 1 ≤ s.rows ∧ s.rows ≤ 16
theorem seIn_bd {s : Se} (h : seIn s = true) : SeBd s := by
 unfold seIn gridPt at h
 simp only [Bool.and_eq_true, rngI_iff] at h
 obtain ⟨⟨h1, h2⟩, h3, h4, h5, h6⟩ := h
 exact ⟨h1, h2, h3, h4, h5, h6⟩
theorem seOk_bd {s : Se} (h : seOk s = true) : SeBd s := by
 unfold seOk at h
 rw [Bool.and_eq_true] at h
 exact seIn_bd h.1

set_option maxRecDepth 100000 in
set_option maxHeartbeats 1000000 in
theorem from_spec (n lo hi : Int) (w : World) : Calls Tryz.prog 69 #[.int .i64 n, .int .i64 lo, .int .i64 hi] w fun e w' => e = .returned (.bool (rngI n lo hi)) ∧ w = w' := by
 unfold rngI
 by_cases h1 : lo ≤ n
 ·
  go_enter Tryz.func69, Tryz.ntmps69
  go_wp2_with fail
  go_ret
  exact ⟨ret_bool (by rw [decide_eq_true (show lo ≤ n by omega)]; rfl), rfl⟩
 ·
  go_enter Tryz.func69, Tryz.ntmps69
  go_wp2_with fail
  go_ret
  exact ⟨ret_bool (by rw [decide_eq_false (show ¬ lo ≤ n by omega)]; rfl), rfl⟩

set_option maxRecDepth 100000 in
set_option maxHeartbeats 1000000 in
theorem valid_spec (x y : Int) (g : Nat) (t : TypeId) (w : World) (h : Blk w g t #[.func (.func 69) #[] #[]]) : Calls Tryz.prog 70 #[.int .i64 x, .int .i64 y, .pointer (some ⟨g, 0, none⟩)] w fun e w' => e = .returned (.bool (gridPt ⟨x, y⟩)) ∧ w = w' := by
 unfold gridPt
 have HF := Lib.hid (fun (n lo hi : Int) (w : World) => from_spec n lo hi w)
 obtain ⟨hl, ha, -⟩ := h.facts1
 obtain ⟨z1, hz1⟩ : ∃ z1, rngI x (-1048576) 1048576 = z1 := ⟨_, rfl⟩
 have Hz1 := Lib.hid hz1
 rw [show rngI (⟨x, y⟩ : Pt).x (-1048576) 1048576 = z1 from hz1]
 clear hz1
 cases z1
 ·
  go_enter Tryz.func70, Tryz.ntmps70
  go_wp2_with fail
  refine (HF.out _ _ _ _).mono ?_
  rintro e w1 ⟨rfl, rfl⟩
  rw [Hz1.out]
  go_wp2_with fail
  go_ret
  exact ⟨ret_bool rfl, rfl⟩
 ·
  go_enter Tryz.func70, Tryz.ntmps70
  go_wp2_with fail
  refine (HF.out _ _ _ _).mono ?_
  rintro e w1 ⟨rfl, rfl⟩
  rw [Hz1.out]
  go_wp2_with fail
  refine (HF.out _ _ _ _).mono ?_
  rintro e w1 ⟨rfl, rfl⟩
  go_wp2_with fail
  go_ret
  exact ⟨ret_bool rfl, rfl⟩

end Go.Proofs.YtfondidmklmonaaGreat
namespace Go.Proofs.YtfondidmklmonaaGreat
open Go.RowKit

theorem check_no {s : Se} (h : seIn s = false) : seCheck s = 2 := by
 unfold seCheck seOk
 rw [h]; rfl
theorem wrap_far {s : Se} (h : SeBd s) : IntKind.i64.wrap (s.cols * s.width) = s.cols * s.width ∧ IntKind.i64.wrap (s.at_.x + s.cols * s.width) = s.at_.x + s.cols * s.width ∧ IntKind.i64.wrap (s.rows * s.height) = s.rows * s.height ∧ IntKind.i64.wrap (s.at_.y + s.rows * s.height) = s.at_.y + s.rows * s.height := by
 have h1 := mul_bds (a := s.cols) (b := s.width) (m := 16) (n := 65536) (by have := h.c; omega) h.c.2 (by have := h.w; omega) h.w.2
 have h2 := mul_bds (a := s.rows) (b := s.height) (m := 16) (n := 65536) (by have := h.r; omega) h.r.2 (by have := h.h; omega) h.h.2
 have hx := h.x; have hy := h.y
 exact ⟨IntWalk.i64_in _ (by omega), IntWalk.i64_in _ (by omega), IntWalk.i64_in _ (by omega), IntWalk.i64_in _ (by omega)⟩

set_option maxRecDepth 100000 in
set_option maxHeartbeats 4000000 in
theorem sCheck_spec (s : Se) (w : World) : Calls Tryz.prog 39 #[seV s] w fun e w' => e = .returned (.int .i64 (seCheck s)) ∧ Below w.heap.size w w' := by
 unfold seV
 have HF := Lib.hid (fun (n lo hi : Int) (w : World) => from_spec n lo hi w)
 have HV := Lib.hid (fun (x y : Int) (g : Nat) (t : TypeId) (w : World) h => valid_spec x y g t w h)
 have hd : seIn s = (gridPt s.at_ && (rngI s.width 1 65536 && (rngI s.height 1 65536 && (rngI s.cols 1 16 && rngI s.rows 1 16)))) := rfl
 have Hd := Lib.hid hd
 clear hd
 obtain ⟨z1, hz1⟩ : ∃ z, gridPt s.at_ = z := ⟨_, rfl⟩
 obtain ⟨z2, hz2⟩ : ∃ z, rngI s.width 1 65536 = z := ⟨_, rfl⟩
 obtain ⟨z3, hz3⟩ : ∃ z, rngI s.height 1 65536 = z := ⟨_, rfl⟩
 obtain ⟨z4, hz4⟩ : ∃ z, rngI s.cols 1 16 = z := ⟨_, rfl⟩
 obtain ⟨z5, hz5⟩ : ∃ z, rngI s.rows 1 16 = z := ⟨_, rfl⟩
 have Z1 := Lib.hid hz1; have Z2 := Lib.hid hz2; have Z3 := Lib.hid hz3; have Z4 := Lib.hid hz4; have Z5 := Lib.hid hz5
 clear hz1 hz2 hz3 hz4 hz5
 obtain ⟨q, hq⟩ : ∃ q, seCheck s = q := ⟨_, rfl⟩
 rw [hq]
 have Hq := Lib.hid hq
 clear hq
 have B0 := Lib.hid (show Below w.heap.size w ((w.alloc (.cells #[.int .i64 s.at_.x, .int .i64 s.at_.y, .int .i64 s.width, .int .i64 s.height, .int .i64 s.cols, .int .i64 s.rows] 30)).alloc (.cells #[.func (.func 69) #[] #[]] 99)) from bA (bA (bR w) _) _)
 have HX3 : Hid (Blk ((w.alloc (.cells #[.int .i64 s.at_.x, .int .i64 s.at_.y, .int .i64 s.width, .int .i64 s.height, .int .i64 s.cols, .int .i64 s.rows] 30)).alloc (.cells #[.func (.func 69) #[] #[]] 99)) (w.heap.size + 1) 99 #[.func (.func 69) #[] #[]]) := Lib.hid (Blk.made (by simp) _ _)
 have hst := fun (a : Addr) (w : World) => run_store Tryz.prog w a (.func (.func 69) #[] #[]) .plain rfl
 go_enter Tryz.func39, Tryz.ntmps39
 go_wp2_with fail
 refine (HV.out _ _ _ _ _ HX3.out).mono ?_
 rintro e w1 ⟨rfl, rfl⟩
 rw [show gridPt ⟨s.at_.x, s.at_.y⟩ = z1 from Z1.out]
 cases z1
 case false =>
  have hf := Lib.hid (check_no (s := s) (by rw [Hd.out, Z1.out]; rfl))
  go_wp2_with fail
  go_ret
  exact ⟨ret_int (by rw [← Hq.out, hf.out]), B0.out⟩
 go_wp2_with fail
 refine (HF.out _ _ _ _).mono ?_
 rintro e w1 ⟨rfl, rfl⟩
 rw [Z2.out]
 cases z2
 case false =>
  have hf := Lib.hid (check_no (s := s) (by rw [Hd.out, Z1.out, Z2.out]; rfl))
  go_wp2_with fail
  go_ret
  exact ⟨ret_int (by rw [← Hq.out, hf.out]), B0.out⟩
 go_wp2_with fail
 refine (HF.out _ _ _ _).mono ?_
 rintro e w1 ⟨rfl, rfl⟩
 rw [Z3.out]
 cases z3
 case false =>
  have hf := Lib.hid (check_no (s := s) (by rw [Hd.out, Z1.out, Z2.out, Z3.out]; rfl))
  go_wp2_with fail
  go_ret
  exact ⟨ret_int (by rw [← Hq.out, hf.out]), B0.out⟩
 go_wp2_with fail
 refine (HF.out _ _ _ _).mono ?_
 rintro e w1 ⟨rfl, rfl⟩
 rw [Z4.out]
 cases z4
 case false =>
  have hf := Lib.hid (check_no (s := s) (by rw [Hd.out, Z1.out, Z2.out, Z3.out, Z4.out]; rfl))
  go_wp2_with fail
  go_ret
  exact ⟨ret_int (by rw [← Hq.out, hf.out]), B0.out⟩
 go_wp2_with fail
 refine (HF.out _ _ _ _).mono ?_
 rintro e w1 ⟨rfl, rfl⟩
 rw [Z5.out]
 cases z5
 case false =>
  have hf := Lib.hid (check_no (s := s) (by rw [Hd.out, Z1.out, Z2.out, Z3.out, Z4.out, Z5.out]; rfl))
  go_wp2_with fail
  go_ret
  exact ⟨ret_int (by rw [← Hq.out, hf.out]), B0.out⟩
 have hin : seIn s = true := by rw [Hd.out, Z1.out, Z2.out, Z3.out, Z4.out, Z5.out]; rfl
 obtain ⟨k1, k2, k3, k4⟩ := wrap_far (seIn_bd hin)
 have Hin := Lib.hid hin
 clear hin
 go_wp2_with fail
 refine (HV.out _ _ _ _ _ HX3.out).mono ?_
 rintro e w1 ⟨rfl, rfl⟩
 obtain ⟨z6, hz6⟩ : ∃ z, gridPt ⟨s.at_.x + s.cols * s.width, s.at_.y + s.rows * s.height⟩ = z := ⟨_, rfl⟩
 rw [hz6]
 have hf : q = if z6 = true then 0 else 2 := by
  rw [← Hq.out, seCheck, seOk, Hin.out, seFar, hz6, Bool.true_and]
 have HF6 := Lib.hid hf
 clear hf hz6 k1 k2 k3 k4
 cases z6
 ·
  go_wp2_with fail
  go_ret
  exact ⟨ret_int (by rw [HF6.out]; rfl), B0.out⟩
 ·
  go_wp2_with fail
  go_ret
  exact ⟨ret_int (by rw [HF6.out]; rfl), B0.out⟩
end Go.Proofs.YtfondidmklmonaaGreat
namespace Go.Proofs.YtfondidmklmonaaGreat
open Go.RowKit

theorem wrap_cr {s : Se} (h : SeBd s) : IntKind.i64.wrap (s.cols * s.rows) = s.cols * s.rows ∧ s.cols * s.rows ≤ 256 := by
 have h1 := mul_bds (a := s.cols) (b := s.rows) (m := 16) (n := 16) (by have := h.c; omega) h.c.2 (by have := h.r; omega) h.r.2
 exact ⟨IntWalk.i64_in _ (by omega), by omega⟩

structure InS (s : Se) (n : Int) : Prop where
 ok : seOk s = true
 lo : 1 ≤ n
 hi : n ≤ s.cols * s.rows
theorem InS.of {s : Se} {n : Int} (h1 : seOk s = true) (h2 : thereS s n = true) : InS s n := by
 unfold thereS at h2
 simp only [Bool.and_eq_true, decide_eq_true_eq] at h2
 exact ⟨h1, h2.1, h2.2⟩
theorem InS.bd {s : Se} {n : Int} (h : InS s n) : 0 ≤ colS s n ∧ colS s n < s.cols ∧ 0 ≤ rowS s n ∧ rowS s n < s.rows ∧ n = rowS s n * s.cols + colS s n + 1 := by
 have hb := seOk_bd h.ok
 have h1 := h.lo; have h2 := h.hi
 have hc := hb.c
 unfold colS rowS
 rw [Int.tmod_eq_emod_of_nonneg (by omega), Int.tdiv_eq_ediv_of_nonneg (by omega)]
 have e1 := Int.emod_nonneg (n - 1) (show s.cols ≠ 0 by omega)
 have e2 := Int.emod_lt_of_pos (n - 1) (show 0 < s.cols by omega)
 have e3 := Int.mul_ediv_add_emod (n - 1) s.cols
 have e4 : 0 ≤ (n - 1) / s.cols := Int.ediv_nonneg (by omega) (by omega)
 refine ⟨e1, e2, e4, ?_, ?_⟩
 ·
  rcases Int.lt_or_le ((n - 1) / s.cols) s.rows with h3 | h3
  · exact h3
  ·
   have := Int.mul_le_mul_of_nonneg_left h3 (show 0 ≤ s.cols by omega)
   omega
 · rw [Int.mul_comm]; omega

theorem results_tmp3 {fn : Func} {t u v : Tmp} (h : fn.results = #[.tmp t, .tmp u, .tmp v]) (tmps : Array Value) (P : Program) (w : World) : (results fn tmps).run P w = .ok (.tuple #[tmps.getD t undef, tmps.getD u undef, tmps.getD v undef]) w := by
 simp [results, h]
/-- what 'find' gives back -/
def findRes (s : Se) (n : Int) : Value := if findE s n = 0 then .tuple #[.int .i64 (colS s n), .int .i64 (rowS s n), .int .i64 0] else .tuple #[.int .i64 0, .int .i64 0, .int .i64 (findE s n)]
theorem findE_zero {s : Se} {n : Int} : findE s n = 0 ↔ InS s n := by
 unfold findE
 constructor
 ·
  intro h
  by_cases h1 : seOk s = true
  ·
   rw [if_pos h1] at h
   by_cases h2 : thereS s n = true
   · exact InS.of h1 h2
   · rw [if_neg h2] at h; omega
  · rw [if_neg h1] at h; omega
 ·
  intro h
  rw [if_pos h.ok, if_pos]
  unfold thereS
  simp [h.lo, h.hi]

set_option maxRecDepth 100000 in
set_option maxHeartbeats 4000000 in
theorem find_spec (s : Se) (n : Int) (w : World) : Calls Tryz.prog 56 #[seV s, .int .i64 n] w fun e w' => e = .returned (findRes s n) ∧ Below w.heap.size w w' := by
 have TC : ∀ w, Calls Tryz.prog 39 #[seV s] w _ := fun w => sCheck_spec s w
 unfold seV at TC
 unfold seV
 have HC := Lib.hid TC
 clear TC
 obtain ⟨r, hr⟩ : ∃ r, findRes s n = r := ⟨_, rfl⟩
 rw [hr]
 have Hr := Lib.hid hr
 clear hr
 go_enter Tryz.func56, Tryz.ntmps56
 go_wp2_with fail
 refine (HC.out _).mono ?_
 rintro e w1 ⟨rfl, hb1⟩
 have X1 : Blk w1 w.heap.size 30 #[.int .i64 s.at_.x, .int .i64 s.at_.y, .int .i64 s.width, .int .i64 s.height, .int .i64 s.cols, .int .i64 s.rows] := (Blk.made rfl _ _).keep hb1
 have B1 := Lib.hid (bT (bA (bR w) _) hb1)
 clear hb1
 obtain ⟨X1l, X1a, X1b, X1c, X1d, X1e, X1f, -, -, -, -, -, -⟩ := X1.facts6
 by_cases hok : seOk s = true
 case neg =>
  have hf : seCheck s = 2 := by unfold seCheck; rw [if_neg hok]
  have hE : r = .tuple #[.int .i64 0, .int .i64 0, .int .i64 2] := by
   rw [← Hr.out]
   have : findE s n = 2 := by unfold findE; rw [if_neg hok]
   unfold findRes
   rw [this]; rfl
  have HE := Lib.hid hE
  rw [hf]
  clear hf hok hE
  go_wp2_with fail
  have h := HE.out
  subst h
  exact bodyPost_ret (results_tmp3 rfl _ _ _) rfl ⟨rfl, B1.out⟩
 have hf : seCheck s = 0 := by unfold seCheck; rw [if_pos hok]
 have hb := seOk_bd hok
 obtain ⟨k1, k2⟩ := wrap_cr hb
 have hc := hb.c
 rw [hf]
 by_cases h1 : n < 1
 ·
  have hE : r = .tuple #[.int .i64 0, .int .i64 0, .int .i64 7] := by
   rw [← Hr.out]
   have : findE s n = 7 := by
    unfold findE; rw [if_pos hok, if_neg]
    unfold thereS; simp; omega
   unfold findRes
   rw [this]; rfl
  have HE := Lib.hid hE
  clear hf hok hE hb k1 k2 hc
  go_wp2_with fail
  have h := HE.out
  subst h
  exact bodyPost_ret (results_tmp3 rfl _ _ _) rfl ⟨rfl, B1.out⟩
 by_cases h2 : s.cols * s.rows < n
 ·
  have hE : r = .tuple #[.int .i64 0, .int .i64 0, .int .i64 7] := by
   rw [← Hr.out]
   have : findE s n = 7 := by
    unfold findE; rw [if_pos hok, if_neg]
    unfold thereS; simp; omega
   unfold findRes
   rw [this]; rfl
  have HE := Lib.hid hE
  clear hf hok hE hb k2 hc
  go_wp2_with fail
  have h := HE.out
  subst h
  exact bodyPost_ret (results_tmp3 rfl _ _ _) rfl ⟨rfl, B1.out⟩
 have hin : InS s n := ⟨hok, by omega, by omega⟩
 have hE : r = .tuple #[.int .i64 (colS s n), .int .i64 (rowS s n), .int .i64 0] := by
  rw [← Hr.out]
  unfold findRes
  rw [if_pos (findE_zero.2 hin)]
 have HE := Lib.hid hE
 have hbd := hin.bd
 have hbr := hb.r
 have k5 : IntKind.i64.wrap (n - 1) = n - 1 := IntWalk.i64_in _ (by omega)
 have k6 : ¬ s.cols = 0 := by omega
 have k3 : IntKind.i64.wrap ((n - 1).tmod s.cols) = (n - 1).tmod s.cols := IntWalk.i64_in _ (by unfold colS at hbd; omega)
 have k4 : IntKind.i64.wrap ((n - 1).tdiv s.cols) = (n - 1).tdiv s.cols := IntWalk.i64_in _ (by unfold rowS at hbd; omega)
 clear hf hok hE hb k2 hc hin hbd hbr
 go_upto_region 6 with fail
 refine rg_start (Since w1) (.run 13 0 0 (.done)) (by kernel_rfl) (bD (bR _)) (by kernel_rfl) (by kernel_rfl) (Nat.le_of_ble_eq_true (by kernel_rfl)) ?_
 intro opsR QR Hops HQrg hS
 iterate 13
  apply rg_p; exact Hops; exact rfl; exact hS; exact rfl
  · intro _ hqc; go_simp; try rfl
  try simp only [pu]
 refine rg_done ?_
 refine HQrg.down _ _ ?_
 have hB : Below w1.heap.size w1 w1.drew := hS
 clear hS HQrg Hops
 have HB := Lib.hid (bT B1.out hB)
 go_wp2_with fail
 have h := HE.out
 unfold colS rowS at h
 subst h
 exact bodyPost_ret (results_tmp3 rfl _ _ _) rfl ⟨rfl, HB.out⟩
end Go.Proofs.YtfondidmklmonaaGreat
namespace Go.Proofs.YtfondidmklmonaaGreat
open Go.RowKit

theorem box_wraps {s : Se} {n : Int} (h : InS s n) : IntKind.i64.wrap (colS s n * s.width) = colS s n * s.width ∧ IntKind.i64.wrap (s.at_.x + colS s n * s.width) = s.at_.x + colS s n * s.width ∧ IntKind.i64.wrap (rowS s n * s.height) = rowS s n * s.height ∧ IntKind.i64.wrap (s.at_.y + rowS s n * s.height) = s.at_.y + rowS s n * s.height ∧ IntKind.i64.wrap (s.at_.x + colS s n * s.width + s.width) = s.at_.x + colS s n * s.width + s.width ∧ IntKind.i64.wrap (s.at_.y + rowS s n * s.height + s.height) = s.at_.y + rowS s n * s.height + s.height := by
 have hb := seOk_bd h.ok
 have hi := h.bd
 have hx := hb.x; have hy := hb.y; have hw := hb.w; have hh := hb.h; have hc := hb.c; have hr := hb.r
 have h1 := mul_bds (a := colS s n) (b := s.width) (m := 16) (n := 65536) hi.1 (by omega) (by omega) hw.2
 have h2 := mul_bds (a := rowS s n) (b := s.height) (m := 16) (n := 65536) hi.2.2.1 (by omega) (by omega) hh.2
 exact ⟨IntWalk.i64_in _ (by omega), IntWalk.i64_in _ (by omega), IntWalk.i64_in _ (by omega), IntWalk.i64_in _ (by omega), IntWalk.i64_in _ (by omega), IntWalk.i64_in _ (by omega)⟩
def boxV (r : Bx × Int) : Value := .tuple #[bxV r.1, .int .i64 r.2]
theorem boxRes_in {s : Se} {n : Int} (h : InS s n) : boxRes s n = (boxOf s n, 0) := by
 unfold boxRes; rw [if_pos (findE_zero.2 h)]
theorem boxRes_out {s : Se} {n : Int} (h : ¬ InS s n) : boxRes s n = (bx0, findE s n) ∧ findE s n ≠ 0 := by
 have h' : findE s n ≠ 0 := fun e => h (findE_zero.1 e)
 unfold boxRes; rw [if_neg h']; exact ⟨rfl, h'⟩

set_option maxRecDepth 100000 in
set_option maxHeartbeats 4000000 in
theorem sBox_spec (s : Se) (n : Int) (w : World) : Calls Tryz.prog 35 #[seV s, .int .i64 n] w fun e w' => e = .returned (boxV (boxRes s n)) ∧ Below w.heap.size w w' := by
 have TF : ∀ w, Calls Tryz.prog 56 #[seV s, .int .i64 n] w _ := fun w => find_spec s n w
 unfold seV at TF
 unfold seV
 by_cases hin : InS s n
 case neg =>
  obtain ⟨h1, h2⟩ := boxRes_out hin
  have hfr : findRes s n = .tuple #[.int .i64 0, .int .i64 0, .int .i64 (findE s n)] := by unfold findRes; rw [if_neg h2]
  rw [hfr] at TF
  rw [h1]
  have HF := Lib.hid TF
  have h2' : (findE s n != 0) = true := by simp [h2]
  clear TF h1 hfr h2
  generalize findE s n = z at *
  unfold boxV bxV bx0
  go_enter Tryz.func35, Tryz.ntmps35
  go_wp2_with fail
  refine (HF.out _).mono ?_
  rintro e w1 ⟨rfl, hb1⟩
  have B1 := Lib.hid (bT (bA (bA (bR w) _) _) hb1)
  have X4 : Blk w1 (w.heap.size + 1) 50 #[.int .i64 0, .int .i64 0, .int .i64 0, .int .i64 0] := (Blk.made (by simp) _ _).keep hb1
  clear hb1
  have HX4 := Lib.hid X4
  obtain ⟨X4l, X4a, X4b, X4c, X4d, X4fa, X4fb, X4fc, X4fd⟩ := X4.facts4
  go_wp2_with fail
  refine res_cell_tmp (t := 50) (g := w.heap.size + 1) (cs := #[.int .i64 0, .int .i64 0, .int .i64 0, .int .i64 0]) rfl struct_bx rfl rfl ?_ ⟨rfl, ?_⟩
  · exact Blk.put4 HX4.out
  · exact bS (bS (bS (bS B1.out (by simp) _) (by simp) _) (by simp) _) (by simp) _
 have hfr : findRes s n = .tuple #[.int .i64 (colS s n), .int .i64 (rowS s n), .int .i64 0] := by unfold findRes; rw [if_pos (findE_zero.2 hin)]
 rw [hfr] at TF
 rw [boxRes_in hin]
 obtain ⟨k1, k2, k3, k4, k5, k6⟩ := box_wraps hin
 have HF := Lib.hid TF
 clear TF hfr hin
 unfold boxV bxV boxOf
 generalize colS s n = c at *
 generalize rowS s n = r at *
 go_enter Tryz.func35, Tryz.ntmps35
 go_wp2_with fail
 refine (HF.out _).mono ?_
 rintro e w1 ⟨rfl, hb1⟩
 have B1 := Lib.hid (bT (bA (bA (bR w) _) _) hb1)
 have X1 : Blk w1 w.heap.size 30 #[.int .i64 s.at_.x, .int .i64 s.at_.y, .int .i64 s.width, .int .i64 s.height, .int .i64 s.cols, .int .i64 s.rows] := ((Blk.made rfl _ _).alloc _).keep hb1
 have X4 : Blk w1 (w.heap.size + 1) 50 #[.int .i64 0, .int .i64 0, .int .i64 0, .int .i64 0] := (Blk.made (by simp) _ _).keep hb1
 clear hb1
 have HX4 := Lib.hid X4
 obtain ⟨X1l, X1a, X1b, X1c, X1d, X1e, X1f, -, -, -, -, -, -⟩ := X1.facts6
 try clear X4l
 try clear X4a
 try clear X4b
 try clear X4c
 try clear X4d
 try clear X4fa
 try clear X4fb
 try clear X4fc
 try clear X4fd
 obtain ⟨X4l, X4a, X4b, X4c, X4d, X4fa, X4fb, X4fc, X4fd⟩ := X4.facts4
 go_wp2_with fail
 refine res_cell_tmp (t := 50) (g := w.heap.size + 1) (cs := #[.int .i64 (s.at_.x + c * s.width), .int .i64 (s.at_.y + r * s.height), .int .i64 (s.at_.x + c * s.width + s.width), .int .i64 (s.at_.y + r * s.height + s.height)]) rfl struct_bx rfl rfl ?_ ⟨rfl, ?_⟩
 ·
  have h := Blk.put4 (x0 := .int .i64 (s.at_.x + c * s.width)) (x1 := .int .i64 (s.at_.y + r * s.height)) (x2 := .int .i64 (s.at_.x + c * s.width + s.width)) (x3 := .int .i64 (s.at_.y + r * s.height + s.height)) (Blk.put4 (x0 := .int .i64 (s.at_.x + c * s.width)) (x1 := .int .i64 (s.at_.y + r * s.height)) (x2 := .int .i64 (s.at_.x + c * s.width + s.width)) (x3 := .int .i64 (s.at_.y + r * s.height + s.height)) HX4.out)
  first | exact h | exact Blk.put4 HX4.out
 · first | exact bS (bS (bS (bS (bS (bS (bS (bS B1.out (by simp) _) (by simp) _) (by simp) _) (by simp) _) (by simp) _) (by simp) _) (by simp) _) (by simp) _ | exact bS (bS (bS (bS B1.out (by simp) _) (by simp) _) (by simp) _) (by simp) _

end Go.Proofs.YtfondidmklmonaaGreat
