/- Words for memory of layer 42: crossings, pieces, parts, series. Plain law: the pieces of a path in a box: the program's way and the reference's give the same. No walk here. num: size, check, Floor, Round. mapsheetsref01: size, parts, signed, Round. (printed by gen/rounda.py) Finding elements: plan.Node, mapsheetsref14.Node, slices.Clone (points), plan.Degree, mapsheetsref14.Degree. -/
import Derived.Test.YtfondidmklmonaaGreatJ01
import Derived.Test.YtfondidmklmonaaGreatGB
set_option linter.unusedSimpArgs false
set_option linter.unusedVariables false
namespace Go.Proofs.YtfondidmklmonaaGreat
open Go.RowKit

structure Pc where
 arc : Int
 path : List Pt
 enter : Int
 leave : Int
structure Prt where
 sheet : Int
 pieces : List Pc
 nodes : List Nd
structure Se where
 at_ : Pt
 width : Int
 height : Int
 cols : Int
 rows : Int

def crC (c : Cr) : List Value := [.int .i64 c.pos, .int .i64 c.arc, .int .i64 c.out]
def pcC (x : Pc × Value) : List Value := [.int .i64 x.1.arc, x.2, .int .i64 x.1.enter, .int .i64 x.1.leave]
def pcV (x : Pc) (v : Value) : Value := .agg #[.int .i64 x.arc, v, .int .i64 x.enter, .int .i64 x.leave]
def seV (s : Se) : Value := .agg #[.int .i64 s.at_.x, .int .i64 s.at_.y, .int .i64 s.width, .int .i64 s.height, .int .i64 s.cols, .int .i64 s.rows]
theorem pcC_len (p : Pc × Value) : (pcC p).length = 4 := rfl
def Crs (w : World) (v : Value) (l : List Cr) : Prop := Sl w v l.length (l.flatMap crC)
/-- The pieces, each with its value in the cell of its Path. -/
def Paths (w : World) (l : List (Pc × Value)) : Prop := ∀ k (hk : k < l.length), Pts w l[k].2 l[k].1.path
def Pcs (w : World) (v : Value) (l : List (Pc × Value)) : Prop := Sl w v l.length (l.flatMap pcC) ∧ Paths w l
def PrtV (w : World) (v : Value) (x : Prt) : Prop :=
 ∃ vp vn pl, v = .agg #[.int .i64 x.sheet, vp, vn] ∧ x.pieces = pl.map (·.1) ∧ Pcs w vp pl ∧ Nds w vn x.nodes
def prC (x : Prt × Value × Value) : List Value := [.int .i64 x.1.sheet, x.2.1, x.2.2]
theorem prC_len (p : Prt × Value × Value) : (prC p).length = 3 := rfl
/-- A list of parts, each with its values in the cells of its pieces and nodes. -/
def Prts (w : World) (v : Value) (l : List (Prt × Value × Value)) : Prop :=
 Sl w v l.length (l.flatMap prC) ∧ ∀ k (hk : k < l.length), PrtV w (.agg #[.int .i64 l[k].1.sheet, l[k].2.1, l[k].2.2]) l[k].1

section
variable {w w' : World} {v : Value}
theorem Crs.mono {l : List Cr} (h : Crs w v l) (hb : Below w.heap.size w w') : Crs w' v l := Sl.mono h hb
theorem Paths.mono {l : List (Pc × Value)} (h : Paths w l) (hb : Below w.heap.size w w') : Paths w' l := fun k hk => (h k hk).mono hb
theorem Pcs.mono {l : List (Pc × Value)} (h : Pcs w v l) (hb : Below w.heap.size w w') : Pcs w' v l := ⟨Sl.mono h.1 hb, h.2.mono hb⟩
theorem PrtV.mono {x : Prt} (h : PrtV w v x) (hb : Below w.heap.size w w') : PrtV w' v x := by
 obtain ⟨vp, vn, pl, hv, hp, h1, h2⟩ := h
 exact ⟨vp, vn, pl, hv, hp, h1.mono hb, h2.mono hb⟩
theorem Prts.mono {l : List (Prt × Value × Value)} (h : Prts w v l) (hb : Below w.heap.size w w') : Prts w' v l := ⟨Sl.mono h.1 hb, fun k hk => (h.2 k hk).mono hb⟩
end
section
variable {w : World} {A : Option Addr}
theorem Row.pc {l : List (Pc × Value)} (h : Row w A (l.flatMap pcC)) {k : Nat} (hk : k < l.length) :
  ∃ b o, A = some ⟨b, o, none⟩ ∧ b < w.heap.size ∧ w.cell? ⟨b, o + k * 4, none⟩ = some (.int .i64 l[k].1.arc) ∧ w.cell? ⟨b, o + k * 4 + 1, none⟩ = some l[k].2 ∧ w.cell? ⟨b, o + k * 4 + 2, none⟩ = some (.int .i64 l[k].1.enter) ∧ w.cell? ⟨b, o + k * 4 + 3, none⟩ = some (.int .i64 l[k].1.leave) := by
 obtain ⟨b, o, hA, hb, hc⟩ := h.at_ (n := 4) (fun _ => rfl) hk (by omega)
 exact ⟨b, o, hA, hb, hc 0 _ rfl, hc 1 _ rfl, hc 2 _ rfl, hc 3 _ rfl⟩
theorem Row.prt {l : List (Prt × Value × Value)} (h : Row w A (l.flatMap prC)) {k : Nat} (hk : k < l.length) :
  ∃ b o, A = some ⟨b, o, none⟩ ∧ b < w.heap.size ∧ w.cell? ⟨b, o + k * 3, none⟩ = some (.int .i64 l[k].1.sheet) ∧ w.cell? ⟨b, o + k * 3 + 1, none⟩ = some l[k].2.1 ∧ w.cell? ⟨b, o + k * 3 + 2, none⟩ = some l[k].2.2 := by
 obtain ⟨b, o, hA, hb, hc⟩ := h.at_ (n := 3) (fun _ => rfl) hk (by omega)
 exact ⟨b, o, hA, hb, hc 0 _ rfl, hc 1 _ rfl, hc 2 _ rfl⟩
end
end Go.Proofs.YtfondidmklmonaaGreat
namespace Go.Proofs.YtfondidmklmonaaGreat
open Go.RowKit

def ptz : Pt := ⟨0, 0⟩
/-- slices.Compact: without elements that equal the one before them -/
def cmpP (l : List Pt) : List Pt := l.foldl (fun acc p => if acc.getLast? = some p then acc else acc ++ [p]) []
theorem cmpP_snoc (l : List Pt) (p : Pt) : cmpP (l ++ [p]) = if (cmpP l).getLast? = some p then cmpP l else cmpP l ++ [p] := by
 unfold cmpP; rw [List.foldl_append]; rfl
theorem cmpP_last (l : List Pt) (p : Pt) : (cmpP (l ++ [p])).getLast? = some p := by
 rw [cmpP_snoc]
 split
 · assumption
 · simp
structure PSt where
 open_ : Bool
 x : Pc
 l : List Pc
def pc0 : Pc := ⟨0, [], 0, 0⟩
def endS (s : PSt) : PSt := if s.open_ = false then s else ⟨false, ⟨s.x.arc, cmpP s.x.path, s.x.enter, s.x.leave⟩, if 1 < (cmpP s.x.path).length then s.l ++ [⟨s.x.arc, cmpP s.x.path, s.x.enter, s.x.leave⟩] else s.l⟩
/-- a segment of which the part from c to d lies in the box -/
def clAdd (arc : Int) (b : Bx) (s : PSt) (p q c d : Pt) : PSt :=
 ⟨true, ⟨if s.open_ = true then s.x.arc else arc, (if s.open_ = true then s.x.path else [c]) ++ [d], if s.open_ = true then s.x.enter else throughS p q b, throughS q p b⟩, s.l⟩
def stepS (arc : Int) (b : Bx) (s : PSt) (p q : Pt) : PSt := match clipS p q b with
 | none => endS s
 | some (c, d) => if inB b q = true then clAdd arc b s p q c d else endS (clAdd arc b s p q c d)
def stAt (arc : Int) (b : Bx) (l : List Pt) : Nat → PSt
 | 0 => ⟨false, pc0, []⟩
 | i + 1 => stepS arc b (stAt arc b l i) (l.getD i ptz) (l.getD (i + 1) ptz)
def piecesS (arc : Int) (l : List Pt) (b : Bx) : List Pc := (endS (stAt arc b l (l.length - 1))).l

theorem in_box_Q {a b : Pt} {x : Bx} (h : inB x a = true) : InQ a b x 0 1 := by
 unfold inB at h
 rw [decide_eq_true_iff] at h
 unfold InQ Btw
 omega
theorem in_box_Q1 {a b : Pt} {x : Bx} (h : inB x b = true) : InQ a b x 1 1 := by
 unfold inB at h
 rw [decide_eq_true_iff] at h
 unfold InQ Btw
 omega
/-- a segment the other way round -/
theorem inQ_rev {a b : Pt} {x : Bx} {n d : Int} : InQ b a x (d - n) d ↔ InQ a b x n d := by
 unfold InQ Btw
 have e1 : (a.x - b.x) * (d - n) = (a.x - b.x) * d + (b.x - a.x) * n := by
  rw [Int.mul_sub, ← Int.neg_sub b.x a.x, Int.neg_mul, Int.neg_mul]; omega
 have e2 : (a.y - b.y) * (d - n) = (a.y - b.y) * d + (b.y - a.y) * n := by
  rw [Int.mul_sub, ← Int.neg_sub b.y a.y, Int.neg_mul, Int.neg_mul]; omega
 rw [e1, e2, Int.sub_mul a.x, Int.sub_mul a.y]
 generalize (b.x - a.x) * n = u
 generalize (b.y - a.y) * n = v
 omega
end Go.Proofs.YtfondidmklmonaaGreat
namespace Go.Proofs.YtfondidmklmonaaGreat
open Go.RowKit

theorem u64w (n : Int) : IntKind.u64.wrap n = n % 18446744073709551616 := by
 unfold IntKind.wrap
 simp [IntKind.signed, IntKind.bits]
/-- of absolute value at most 2^60 -/
def bd60 (n : Int) : Prop := -1152921504606846976 ≤ n ∧ n ≤ 1152921504606846976
theorem abs_wraps {n : Int} (h : bd60 n) (hn : n < 0) : IntKind.u64.wrap n = n + 18446744073709551616 ∧ n % 18446744073709551616 = n + 18446744073709551616 ∧ IntKind.u64.wrap (-(n + 18446744073709551616)) = -n ∧ (-(n + 18446744073709551616)) % 18446744073709551616 = -n := by
 unfold bd60 at h
 rw [u64w, u64w]
 omega
theorem pos_wraps {n : Int} (h : bd60 n) (hn : ¬ n < 0) : IntKind.u64.wrap n = n ∧ n % 18446744073709551616 = n := by
 unfold bd60 at h
 rw [u64w]
 omega
theorem absS_bd {n : Int} (h : bd60 n) : 0 ≤ absS n ∧ absS n ≤ 1152921504606846976 := by
 unfold bd60 at h
 unfold absS
 split <;> omega

set_option maxHeartbeats 1000000 in
theorem size_spec (n : Int) (w : World) (h : bd60 n) : Calls Tryz.prog 183 #[.int .i64 n] w fun e w' => e = .returned (.int .u64 (absS n)) ∧ w = w' := by
 unfold absS
 by_cases hn : n < 0
 ·
  obtain ⟨k1, k2, k3, k4⟩ := abs_wraps h hn
  rw [if_pos hn]
  clear h
  go_enter Tryz.func183, Tryz.ntmps183
  go_wp2_with fail
  go_ret
  exact ⟨by first | rfl | (congr 1; done) | (congr 2; omega), rfl⟩
 ·
  obtain ⟨k1, k2⟩ := pos_wraps h hn
  rw [if_neg hn]
  clear h
  go_enter Tryz.func183, Tryz.ntmps183
  go_wp2_with fail
  go_ret
  exact ⟨by first | rfl | (congr 1; done) | (congr 2; omega), rfl⟩

set_option maxHeartbeats 1000000 in
theorem ncheck_spec (x y : Int) (w : World) (h : bd60 x) (hy : y ≠ 0) : Calls Tryz.prog 189 #[.int .i64 x, .int .i64 y] w fun e w' => e = .returned (.int .i64 0) ∧ w = w' := by
 have k1 : (y == 0) = false := by simpa using hy
 have k2 : (x == -9223372036854775808) = false := by rw [beq_eq_false_iff_ne]; unfold bd60 at h; omega
 clear h hy
 go_enter Tryz.func189, Tryz.ntmps189
 go_wp2_with fail
 go_ret
 exact ⟨rfl, rfl⟩

theorem tdiv_bd {a b : Int} (h : bd60 a) (hb : b ≠ 0) : bd60 (a.tdiv b) ∧ bd60 (a.tmod b) := by
 have h1 : (a.tdiv b).natAbs ≤ a.natAbs := by rw [Int.natAbs_tdiv]; exact Nat.div_le_self _ _
 have h2 : (a.tmod b).natAbs ≤ a.natAbs := by rw [Int.natAbs_tmod]; exact Nat.mod_le _ _
 unfold bd60 at *
 omega
set_option maxRecDepth 100000 in
set_option maxHeartbeats 1000000 in
theorem Floor_spec (x y : Int) (w : World) (h : bd60 x) (hy : y ≠ 0) : Calls Tryz.prog 182 #[.int .i64 x, .int .i64 y] w fun e w' => e = .returned (.tuple #[.int .i64 (floorS x y), .int .i64 0]) ∧ w = w' := by
 have HC := Lib.hid (fun w => ncheck_spec x y w h hy)
 have hbd := tdiv_bd h hy
 obtain ⟨⟨b1, b2⟩, b3, b4⟩ := hbd
 have k1 : IntKind.i64.wrap (x.tdiv y) = x.tdiv y := IntWalk.i64_in _ (by omega)
 have k2 : IntKind.i64.wrap (x.tmod y) = x.tmod y := IntWalk.i64_in _ (by omega)
 have k3 : ¬ y = 0 := hy
 have k4 : IntKind.i64.wrap (x.tdiv y - 1) = x.tdiv y - 1 := IntWalk.i64_in _ (by omega)
 obtain ⟨r, hr⟩ : ∃ r, floorS x y = r := ⟨_, rfl⟩
 rw [hr]
 unfold floorS at hr
 have Hr := Lib.hid hr
 clear hr hy h b1 b2 b3 b4
 by_cases h0 : x.tmod y = 0
 ·
  have e0 : (x.tmod y != 0) = false := by simp [h0]
  have hf := Hr.out
  rw [if_neg (fun e => e.1 h0)] at hf
  have HF := Lib.hid hf
  clear hf h0
  go_enter Tryz.func182, Tryz.ntmps182
  go_wp2_with fail
  refine (HC.out _).mono ?_
  rintro e w1 ⟨rfl, rfl⟩
  go_wp2_with fail
  go_ret2
  exact ⟨by rw [← HF.out]; rfl, rfl⟩
 ·
  have e0 : (x.tmod y != 0) = true := by simp [h0]
  by_cases h1 : decide (x.tmod y < 0) = decide (y < 0)
  ·
   have hf := Hr.out
   rw [if_neg (fun e => e.2 h1)] at hf
   have HF := Lib.hid hf
   have H1 := Lib.hid h1
   clear hf h0 h1
   have e1 : (decide (x.tmod y < 0) == decide (y < 0)) = true := by rw [H1.out]; simp
   go_enter Tryz.func182, Tryz.ntmps182
   go_wp2_with fail
   refine (HC.out _).mono ?_
   rintro e w1 ⟨rfl, rfl⟩
   go_wp2_with fail
   go_ret2
   exact ⟨by rw [← HF.out]; rfl, rfl⟩
  ·
   have hf := Hr.out
   rw [if_pos ⟨h0, h1⟩] at hf
   have HF := Lib.hid hf
   have e1 : (decide (x.tmod y < 0) == decide (y < 0)) = false := by simpa using h1
   clear hf h0 h1
   go_enter Tryz.func182, Tryz.ntmps182
   go_wp2_with fail
   refine (HC.out _).mono ?_
   rintro e w1 ⟨rfl, rfl⟩
   go_wp2_with fail
   go_ret2
   exact ⟨by rw [← HF.out]; rfl, rfl⟩

theorem floor_rest {a b : Int} (h : bd60 a) (hb : b ≠ 0) (hb' : bd60 b) : bd60 (a - floorS a b * b) ∧ absS (a - floorS a b * b) ≤ absS b ∧ -2305843009213693952 ≤ floorS a b * b ∧ floorS a b * b ≤ 2305843009213693952 ∧ -1152921504606846977 ≤ floorS a b ∧ floorS a b ≤ 1152921504606846976 := by
 obtain ⟨f1, f2⟩ := floorS_spec (a := a) hb
 have hq : -1152921504606846977 ≤ floorS a b ∧ floorS a b ≤ 1152921504606846976 := by
  have h1 := (tdiv_bd h hb).1
  unfold bd60 at h1
  unfold floorS
  split <;> omega
 unfold bd60 at *
 unfold absS
 generalize floorS a b = q at *
 generalize q * b = t at *
 rcases Int.lt_or_gt_of_ne hb with h1 | h1
 ·
  have := f2 h1
  refine ⟨by omega, ?_, by omega, by omega, hq.1, hq.2⟩
  rw [if_pos h1]
  split <;> omega
 ·
  have := f1 h1
  refine ⟨by omega, ?_, by omega, by omega, hq.1, hq.2⟩
  rw [if_neg (by omega)]
  split <;> omega

set_option maxRecDepth 100000 in
set_option maxHeartbeats 1000000 in
theorem Round_spec (x y : Int) (w : World) (h : bd60 x) (hy : y ≠ 0) (hy' : bd60 y) : Calls Tryz.prog 156 #[.int .i64 x, .int .i64 y] w fun e w' => e = .returned (.tuple #[.int .i64 (roundS x y), .int .i64 0]) ∧ w = w' := by
 have HFl := Lib.hid (fun w => Floor_spec x y w h hy)
 obtain ⟨r1, r2, r3, r4, r5, r6⟩ := floor_rest h hy hy'
 have HS1 := Lib.hid (fun w => size_spec _ w r1)
 have HS2 := Lib.hid (fun w => size_spec _ w hy')
 have a1 := absS_bd r1
 have a2 := absS_bd hy'
 have k1 : IntKind.i64.wrap (floorS x y * y) = floorS x y * y := IntWalk.i64_in _ (by omega)
 have k2 : IntKind.i64.wrap (x - floorS x y * y) = x - floorS x y * y := IntWalk.i64_in _ (by unfold bd60 at r1; omega)
 have k3 : IntKind.i64.wrap (floorS x y + 1) = floorS x y + 1 := IntWalk.i64_in _ (by omega)
 obtain ⟨r, hr⟩ : ∃ r, roundS x y = r := ⟨_, rfl⟩
 rw [hr]
 unfold roundS at hr
 have Hr := Lib.hid hr
 clear hr r1 r3 r4 r5 r6 h hy hy'
 generalize floorS x y = q at *
 generalize absS (x - q * y) = u at *
 generalize absS y = v at *
 have k4 : IntKind.u64.wrap (v - u) = v - u := by rw [u64w]; omega
 have k5 : (v - u) % 18446744073709551616 = v - u := by omega
 by_cases hc : v - u ≤ u
 ·
  have hf := Hr.out
  rw [if_pos hc] at hf
  have HF := Lib.hid hf
  clear hf a1 a2 r2
  go_enter Tryz.func156, Tryz.ntmps156
  go_wp2_with fail
  refine (HFl.out _).mono ?_
  rintro e w1 ⟨rfl, rfl⟩
  go_wp2_with fail
  refine (HS1.out _).mono ?_
  rintro e w1 ⟨rfl, rfl⟩
  go_wp2_with fail
  refine (HS2.out _).mono ?_
  rintro e w1 ⟨rfl, rfl⟩
  go_wp2_with fail
  go_ret2
  exact ⟨by rw [← HF.out]; rfl, rfl⟩
 ·
  have hf := Hr.out
  rw [if_neg hc] at hf
  have HF := Lib.hid hf
  clear hf a1 a2 r2
  go_enter Tryz.func156, Tryz.ntmps156
  go_wp2_with fail
  refine (HFl.out _).mono ?_
  rintro e w1 ⟨rfl, rfl⟩
  go_wp2_with fail
  refine (HS1.out _).mono ?_
  rintro e w1 ⟨rfl, rfl⟩
  go_wp2_with fail
  refine (HS2.out _).mono ?_
  rintro e w1 ⟨rfl, rfl⟩
  go_wp2_with fail
  go_ret2
  exact ⟨by rw [← HF.out]; rfl, rfl⟩
end Go.Proofs.YtfondidmklmonaaGreat
namespace Go.Proofs.YtfondidmklmonaaGreat
open Go.RowKit

def findNd (l : List Nd) (id : Int) : Option Nd := l.find? (fun n => n.id == id)
def nd0 : Nd := ⟨0, ⟨0, 0⟩⟩
def ndRes (r : Option Nd) : Value := .tuple #[ndV (r.getD nd0), .bool r.isSome]

theorem PlV.nodes {w : World} {vn va vf : Value} {p : Pl} (h : PlV w (.agg #[vn, va, vf]) p) : Nds w vn p.nodes := by
 obtain ⟨_, _, _, _, e, _, h1, _, _⟩ := h
 simp only [Value.agg.injEq, Array.mk.injEq, List.cons.injEq, and_true] at e
 obtain ⟨rfl, rfl, rfl⟩ := e
 exact h1

set_option maxHeartbeats 400000 in
theorem Node_spec (v : Value) (p : Pl) (id : Int) (w : World) (h : PlV w v p) :
  Calls Tryz.prog 91 #[v, .int .i64 id] w fun e w' => e = .returned (ndRes (findNd p.nodes id)) ∧ Below w.heap.size w w' := by
 obtain ⟨_, va, vf, al, rfl, hpa, ⟨An, cn, rfl, hn1, hn2, hR⟩, -, -⟩ := h
 unfold maxLen at hn2
 generalize p.nodes = l at *
 clear hpa
 go_enter Tryz.func91, Tryz.ntmps91
 go_wp2_with fail
 go_loopw [11] (fun i wr => ∃ k : Nat, k ≤ l.length ∧ i = .int .i64 k ∧ Below w.heap.size w wr ∧ Blk wr (w.heap.size + 1) 59 #[.int .i64 0, .int .i64 0, .int .i64 0] ∧ ∀ j (hj : j < l.length), j < k → (l[j].id == id) = false) (fun i _ => l.length - (intOf i).toNat)
 case atStart => exact ⟨0, Nat.zero_le _, rfl, bA (bA (bR w) _) _, Blk.made (by simp) _ _, fun j _ h => by omega⟩
 case round =>
  obtain ⟨k, hk, rfl, hb, X4, hno⟩ := hrel
  have Hb := Lib.hid hb
  have Hno := Lib.hid hno
  clear hb hno
  obtain ⟨X4l, X4a, X4b, X4c, X4fa, X4fb, X4fc⟩ := X4.facts3
  by_cases hlt : k < l.length
  ·
   obtain ⟨b, o, rfl, hlb, c0, c1, c2⟩ := (hR.mono Hb.out).nd hlt
   have HR := Lib.hid hR; clear hR
   cases he : (l[k].id == id)
   ·
    go_wp2
    go_roundw
    case rel => exact ⟨k + 1, by omega, by go_num, bA Hb.out _, X4.alloc _, all_succ (p := fun x => (x.id == id) = false) Hno.out hlt he⟩
    case measure => simp [intOf]; omega
   ·
    have hf := find_hit l (fun n => n.id == id) k hlt Hno.out he
    have Hf := Lib.hid hf; clear hf
    go_wp2
    have Bw := Hb.out
    refine res_cell_tmp (g := w.heap.size + 1) (cs := #[.int .i64 l[k].id, .int .i64 l[k].pt.x, .int .i64 l[k].pt.y]) rfl struct_nd rfl rfl (Blk.put3 X4 |>.alloc _) ⟨by rw [findNd, Hf.out]; rfl, ?_⟩
    repeat (first | with_reducible exact bR _ | with_reducible assumption | with_reducible refine bA ?_ _ | with_reducible refine bD ?_ | with_reducible refine bN ?_ _ | ((with_reducible refine bS ?_ ?_ _); rotate_left; (simp; try omega)) | ((with_reducible refine bT ?_ ?_); rotate_left; with_reducible assumption) | with_reducible refine bT ?_ (by assumption))
  ·
   have hf := find_miss l (fun n => n.id == id) (fun j hj => Hno.out j hj (by omega))
   have Hf := Lib.hid hf; clear hf
   go_wp2
   have Bw := Hb.out
   refine res_cell_tmp (g := w.heap.size + 1) (cs := #[.int .i64 0, .int .i64 0, .int .i64 0]) rfl struct_nd rfl rfl (Blk.put3 X4) ⟨by rw [findNd, Hf.out]; rfl, ?_⟩
   repeat (first | with_reducible exact bR _ | with_reducible assumption | with_reducible refine bA ?_ _ | with_reducible refine bD ?_ | with_reducible refine bN ?_ _ | ((with_reducible refine bS ?_ ?_ _); rotate_left; (simp; try omega)) | ((with_reducible refine bT ?_ ?_); rotate_left; with_reducible assumption) | with_reducible refine bT ?_ (by assumption))

/-- A slice of points of the call's own. -/
def RetPts (w : World) (l : List Pt) (e : Ending) (w' : World) : Prop :=
 ∃ A c, e = .returned (.slice A l.length c) ∧ Below w.heap.size w w' ∧ Own w' w.heap.size 28 2 ptC (.slice A l.length c) l

set_option maxHeartbeats 400000 in
theorem Clone_pt_spec (v : Value) (l : List Pt) (w : World) (h : Pts w v l) (hl : l.length ≤ 1048576) :
  Calls Tryz.prog 119 #[v] w (RetPts w l) := by
 have H := h
 obtain ⟨A, c, rfl, hn, hc, hR⟩ := h
 have hE := Lib.run_eql_slice_nil (P := Tryz.prog) (t := 53) (e := 28)
 rcases A with _ | ad
 ·
  have hl0 : l = [] := by
   rcases l with _ | ⟨a, l⟩
   · rfl
   ·
    obtain ⟨b, o, e, _⟩ := hR (by simp [ptC])
    cases e
  subst hl0
  clear hR H
  simp only [List.length_nil] at hn ⊢
  have hE1 : ∀ W : World, (binOp .eql 53 (.slice none 0 c) (.slice none 0 0)).run Tryz.prog W = .ok (.bool true) W := fun W => Lib.run_eql_slice_nil W _ 28 none _ c 0 0 Tryz.underlying53
  clear hE
  go_enter Tryz.func119, Tryz.ntmps119
  go_wp2
  go_ret
  exact ⟨_, _, rfl, bR w, Own.nil _ _ _ _ _⟩
 ·
  have hE1 : ∀ W : World, (binOp .eql 53 (.slice (some ad) l.length c) (.slice none 0 0)).run Tryz.prog W = .ok (.bool false) W := fun W => Lib.run_eql_slice_nil W _ 28 (some ad) _ c 0 0 Tryz.underlying53
  clear hE hR
  have HH := Lib.hid H; clear H
  go_enter Tryz.func119, Tryz.ntmps119
  go_wp2_with
   (at_builtin
    refine wpList_appl _ rfl (.tmp 5) (.tmp 6) _ rfl (base := w.heap.size) elem_pt ptC_len ptC_one rfl (Own.lit _ _ _ _ ptC [] _ 0 _ rfl rfl (Nat.le_refl _) (le_maxLen (by omega)) rfl rfl) rfl (HH.out.mono (bA (bR w) _)) (by simp only [List.length_nil]; omega) (by simp only [List.length_nil]; omega) (by simp) ?_
    intro v1 w1 hown hg hat)
  go_ret
  obtain ⟨A1, c1, rfl, -⟩ := Own.sl hown
  simp only [List.nil_append] at hown ⊢
  exact ⟨A1, c1, rfl, bG (bA (bR w) _) hg (fun k hk => by have : w.heap.size = k := Option.some.inj hk; omega), hown⟩
end Go.Proofs.YtfondidmklmonaaGreat
