/- PLAIN: the parts of all sheets cross the sides where the plan is expected to, and all neighbours agree. Lists of parts that the call made read as lists of parts. mapsheetsref42.Small, mapsheetsref15.Small. (printed by gen/smalle.py) -/
import Derived.Test.YtfdbidagdjnipaaGreatDoorJ27
import Derived.Test.YtfdbidagdjnipaaGreatDoorJ16
import Derived.Test.YtfdbidagdjnipaaGreatDoorJ02
import Derived.Test.YtfdbidagdjnipaaGreatDoorJ01
import Derived.Test.YtfdbidagdjnipaaGreatDoorGB
set_option linter.unusedSimpArgs false
set_option linter.unusedVariables false
namespace Go.Proofs.YtfdbidagdjnipaaGreatDoor
open Go.RowKit

/- ## the nodes of a part are enough -/
theorem strict_part {b : Bx} (hx : b.x0 < b.x1) (hy : b.y0 < b.y1) {side : Int} {g : Ed} (hg : edOf b side = some g) (ns : List Nd) {q : Pt} (ho : onE g q = true) : strictS g (ns.filter (fun n => inB b n.pt)) q = strictS g ns q := by
 unfold strictS
 by_cases hr : rngE g q
 ·
  have hin : inB b q = true := by
   cases h : inB b q
   ·
    rw [inB_no] at h
    rw [on_iffE hg] at ho
    rw [rng_iffE hg] at hr
    have hs : side = 1 ∨ side = 2 ∨ side = 3 ∨ side = 4 := by obtain ⟨-, h⟩ := ed_cases hg; omega
    exfalso
    apply h
    obtain ⟨-, hgs⟩ := ed_cases hg
    rcases hgs with ⟨rfl, rfl⟩ | ⟨rfl, rfl⟩ | ⟨rfl, rfl⟩ | ⟨rfl, rfl⟩ <;> omega
   · rfl
  congr 2
  rw [List.any_filter]
  congr 1
  funext n
  by_cases e : n.pt = q
  · rw [e, hin]; simp
  · simp [e]
 ·
  have h0 : (decide (g.lo < alongS g q) && decide (alongS g q < g.hi)) = false := by
   rw [Bool.eq_false_iff]
   intro h
   rw [Bool.and_eq_true, decide_eq_true_eq, decide_eq_true_eq] at h
   exact hr h
  rw [h0, Bool.and_false, Bool.and_false]
theorem first_mem {l : List Pt} (h : 0 < l.length) : firstP l ∈ l ∧ lastP l ∈ l := by
 unfold firstP lastP
 rw [List.getD_eq_getElem?_getD, List.getD_eq_getElem?_getD, List.getElem?_eq_getElem h, List.getElem?_eq_getElem (by omega)]
 exact ⟨List.getElem_mem _, List.getElem_mem _⟩
theorem open_part {b : Bx} (hx : b.x0 < b.x1) (hy : b.y0 < b.y1) {side : Int} {g : Ed} (hg : edOf b side = some g) (ns : List Nd) {l : List Pt} (ho : ∀ q ∈ l, onE g q = true) : openS g (ns.filter (fun n => inB b n.pt)) l = openS g ns l := by
 unfold openS
 by_cases h : 0 < l.length
 ·
  obtain ⟨h1, h2⟩ := first_mem h
  rw [strict_part hx hy hg ns (ho _ h1), strict_part hx hy hg ns (ho _ h2)]
 · rw [decide_eq_false h, Bool.false_and, Bool.false_and]
theorem exp_part {b : Bx} (hx : b.x0 < b.x1) (hy : b.y0 < b.y1) {side : Int} {g : Ed} (hg : edOf b side = some g) (ns : List Nd) (id : Int) : ∀ (l : List Pt) (st : Option (Pt × List Pt)), (∀ q ∈ rnS st, onE g q = true) → expR g (ns.filter (fun n => inB b n.pt)) id st l = expR g ns id st l
 | [], st, _ => by rw [exp_nil, exp_nil]
 | q :: l, st, hst => by
  cases ho : onE g q
  ·
   have ih := exp_part hx hy hg ns id l (some (q, [])) (fun x hx => by cases hx)
   cases st with
   | none => rw [exp_none_off ho, exp_none_off ho, ih]
   | some s =>
    obtain ⟨m, R⟩ := s
    rw [exp_off ho, exp_off ho, ih]
    congr 1
    have hc : ∀ o, crO g (ns.filter (fun n => inB b n.pt)) id o (runO g m R q) = crO g ns id o (runO g m R q) := by
     intro o
     unfold crO
     rw [open_part hx hy hg ns]
     intro x hx
     unfold runO at hx
     split at hx
     · rw [List.mem_singleton] at hx; rw [hx]; exact meet_line hg m q
     · exact hst x hx
    rw [hc]
  · cases st with
   | none => rw [exp_none_on ho, exp_none_on ho]; exact exp_part hx hy hg ns id l none hst
   | some s =>
    obtain ⟨m, R⟩ := s
    rw [exp_on ho, exp_on ho]
    exact exp_part hx hy hg ns id l (some (m, R ++ [q])) (fun x hx => (List.mem_append.1 hx).elim (hst x) (fun h => by rw [List.mem_singleton] at h; subst h; exact ho))
theorem flatMap_eq {α β : Type} (l : List α) (f k : α → List β) (h : ∀ x ∈ l, f x = k x) : l.flatMap f = l.flatMap k := by
 induction l with
 | nil => rfl
 | cons a l ih => rw [List.flatMap_cons, List.flatMap_cons, h a (by simp), ih (fun x hx => h x (by simp [hx]))]
theorem ed_some (b : Bx) {side : Int} (h : 1 ≤ side ∧ side ≤ 4) : ∃ g, edOf b side = some g := by
 rcases (show side = 1 ∨ side = 2 ∨ side = 3 ∨ side = 4 by omega) with rfl | rfl | rfl | rfl
 · exact ⟨_, rfl⟩
 · exact ⟨_, rfl⟩
 · exact ⟨_, rfl⟩
 · exact ⟨_, rfl⟩
/-- P42.4, the first half -/
theorem cross_exp {p : Pl} (hV : Valid p) {s : Se} {n : Int} (hn : InS s n) {side : Int} (h : 1 ≤ side ∧ side ≤ 4) : crossResS (partS p n (boxOf s n)) (boxOf s n) side = expectedS p s n side ∧ (expectedS p s n side).2 = 0 := by
 obtain ⟨-, hx, hy⟩ := hn.smB
 obtain ⟨g, hg⟩ := ed_some (boxOf s n) h
 unfold crossResS expectedS
 rw [if_pos ((check_zero p).2 hV), if_pos (findE_zero.2 hn), hg]
 refine ⟨?_, rfl⟩
 show (sortCr _, (0 : Int)) = (sortCr _, 0)
 congr 2
 unfold crossL expL partS
 simp only
 rw [List.flatMap_assoc]
 refine flatMap_eq _ _ _ fun a ha => ?_
 rw [path_exp hV ha hx hy hg, exp_all, exp_all]
 exact exp_part hx hy hg p.nodes a.id _ none (fun q hq => by cases hq)
theorem seOk_grid {s : Se} (h : seOk s = true) : 1 ≤ s.cols * s.rows ∧ s.cols * s.rows ≤ 256 := by
 have hb := seOk_bd h
 have h1 := hb.c; have h2 := hb.r
 have e1 : 1 * 1 ≤ s.cols * s.rows := Int.mul_le_mul (by omega) (by omega) (by omega) (by omega)
 have e2 : s.cols * s.rows ≤ 16 * 16 := Int.mul_le_mul (by omega) (by omega) (by omega) (by omega)
 exact ⟨by omega, by omega⟩
/- ## the neighbours -/
theorem all_len (p : Pl) (s : Se) : (allS p s).length = (s.cols * s.rows).toNat := by unfold allS; rw [List.length_map, List.length_range]
theorem all_at (p : Pl) {s : Se} {n : Int} (h : InS s n) : prtAt (allS p s) n = partS p n (boxOf s n) := by
 have h1 := h.lo; have h2 := h.hi
 have hk : (n - 1).toNat < (s.cols * s.rows).toNat := by omega
 unfold prtAt allS
 rw [List.getD_eq_getElem?_getD, List.getElem?_map, List.getElem?_range hk]
 show partI p s (n - 1).toNat = _
 unfold partI
 rw [show (((n - 1).toNat : Nat) : Int) + 1 = n by omega]
theorem all_get (p : Pl) (s : Se) (k : Nat) (hk : k < (allS p s).length) : (allS p s)[k] = partI p s k := by
 have e : (allS p s)[k]? = some (partI p s k) := by
  rw [all_len] at hk
  unfold allS
  rw [List.getElem?_map, List.getElem?_range hk]; rfl
 rw [List.getElem?_eq_getElem hk] at e
 injection e
theorem agS_all {p : Pl} (hV : Valid p) {s : Se} {n side : Int} : agS (allS p s) s n side = true := by
 unfold agS
 cases hnb : nbS s n side with
 | none => rfl
 | some m =>
  simp only
  obtain ⟨h1, h2, -, -⟩ := nbS_some hnb
  have h3 := (nbS_in hnb).1
  rw [decide_eq_true_eq, all_at p h1, all_at p h3, (cross_exp hV h1 h2).1]
  have hf : 1 ≤ facS side ∧ facS side ≤ 4 := by unfold facS; split <;> omega
  rw [(cross_exp hV h3 hf).1]
  exact (expected_facing ((check_zero p).2 hV) hnb).2.2
/-- P42.4, the second half -/
theorem match_all {p : Pl} (hV : Valid p) {s : Se} (hs : seOk s = true) : matchS (allS p s) s = ([], 0) := by
 have h0 := seOk_grid hs
 have hnum : numbered (allS p s) 0 = true := numbered_all fun j hj => by
  rw [all_get]
  show ((j : Int) + 1) = _
  omega
 have hbad : ∀ k, badUp (allS p s) s k = [] := by
  intro k
  induction k with
  | zero => rfl
  | succ k ih =>
   rw [badUp, ih]
   unfold badOne agAll
   rw [agS_all hV, agS_all hV, agS_all hV, agS_all hV]
   rfl
 unfold matchS
 rw [if_pos hs, if_pos ⟨by rw [all_len]; omega, hnum⟩, hbad]
/- ## parts have words and lengths -/
theorem part_wf {p : Pl} (hV : Valid p) (hw : wfPl p) {s : Se} {n : Int} (hn : InS s n) : wfPrt (partS p n (boxOf s n)) := by
 obtain ⟨hb, hx, hy⟩ := hn.smB
 have hn' : wfI n := by
  have := hn.lo; have := hn.hi; have := seOk_grid hn.ok
  exact wfI_of (by omega) (by omega)
 refine ⟨hn', fun y hy' => ?_, fun m hm => hw.1 m (List.mem_filter.1 hm).1⟩
 obtain ⟨a, ha, hya⟩ := List.mem_flatMap.1 hy'
 have hg := pieces_good hx hy _ y hya
 have hsd : ∀ {z : Int} {c : Pt}, onSd (boxOf s n) z c → wfI z := by
  intro z c h
  unfold onSd at h
  exact wfI_of (by omega) (by omega)
 refine ⟨by rw [hg.arc]; exact (hw.2.1 a ha).1, hsd hg.enter, hsd hg.leave, fun q hq => ?_⟩
 have hq' := inB_iff.1 (hg.inb q hq)
 unfold smB sm22 at hb
 exact ⟨wfI_of (by omega) (by omega), wfI_of (by omega) (by omega)⟩
theorem part_few {p : Pl} (h : p.nodes.length ≤ 40 ∧ p.arcs.length ≤ 40 ∧ (p.arcs.flatMap (·.via)).length ≤ 300) (n : Int) (b : Bx) : (partS p n b).pieces.length ≤ 60000 ∧ (partS p n b).nodes.length ≤ 60000 := by
 constructor
 ·
  have key : ∀ l : List Ar, (l.flatMap (fun a => piecesS a.id (pathS p a) b)).length ≤ (l.flatMap (·.via)).length + 3 * l.length := by
   intro l
   induction l with
   | nil => simp
   | cons a l ih =>
    rw [List.flatMap_cons, List.flatMap_cons, List.length_append, List.length_append, List.length_cons]
    have h1 := pcs_len a.id (pathS p a) b
    have h2 := pathS_length p a
    omega
  have := key p.arcs
  unfold partS
  simp only
  omega
 ·
  have := List.length_filter_le (fun n : Nd => inB b n.pt) p.nodes
  unfold partS
  simp only
  omega
end Go.Proofs.YtfdbidagdjnipaaGreatDoor
namespace Go.Proofs.YtfdbidagdjnipaaGreatDoor
open Go.RowKit

/-- pieces of the call's own read as pieces -/
def rdP (x : Pc × SV) : Pc × Value := (x.1, .slice x.2.a x.2.n x.2.c)
theorem PcsO.read {w : World} {B : Nat} {v : Value} {L : List (Pc × SV)} (h : PcsO w B v L) : Pcs w v (L.map rdP) := by
 have h1 := h.own.sl
 have e : (L.map rdP).flatMap pcC = L.flatMap pcS := by rw [List.flatMap_map]; rfl
 refine ⟨by rw [e, List.length_map]; exact h1, fun k hk => ?_⟩
 have hk' : k < L.length := by simpa using hk
 rw [show (L.map rdP)[k] = rdP L[k] by simp]
 exact (h.path _ (List.getElem_mem hk')).sl
theorem PrtO.read {w : World} {B : Nat} {x : Prt} {vp vn : Value} (h : PrtO w B x vp vn) : PrtV w (.agg #[.int .i64 x.sheet, vp, vn]) x := by
 obtain ⟨L, h1, h2, h3⟩ := h
 exact ⟨vp, vn, L.map rdP, rfl, by rw [← h2, List.map_map]; rfl, h1.read, h3.sl⟩
def rdX (x : Prt × SV × SV) : Prt × Value × Value := (x.1, .slice x.2.1.a x.2.1.n x.2.1.c, .slice x.2.2.a x.2.2.n x.2.2.c)
theorem PrtsO.read {w : World} {B : Nat} {v : Value} {L : List (Prt × SV × SV)} (h : PrtsO w B v L) : Prts w v (L.map rdX) := by
 have h1 := h.own.sl
 have e : (L.map rdX).flatMap prC = L.flatMap prS := by rw [List.flatMap_map]; rfl
 refine ⟨by rw [e, List.length_map]; exact h1, fun k hk => ?_⟩
 have hk' : k < L.length := by simpa using hk
 rw [show (L.map rdX)[k] = rdX L[k] by simp]
 exact (h.part _ (List.getElem_mem hk')).read
def RetPrtR (w : World) (x : Prt) (z : Int) (e : Ending) (w' : World) : Prop :=
 ∃ A n c A' n' c', e = .returned (.tuple #[.agg #[.int .i64 x.sheet, .slice A n c, .slice A' n' c'], .int .i64 z]) ∧ Below w.heap.size w w' ∧ PrtV w' (.agg #[.int .i64 x.sheet, .slice A n c, .slice A' n' c']) x
theorem RetPrtE.rd {w : World} {r : Prt × Int} {e : Ending} {w' : World} (h : RetPrtE w r e w') : RetPrtR w r.1 r.2 e w' := by
 obtain ⟨A, n, c, A', n', c', he, hb, ho⟩ := h
 exact ⟨A, n, c, A', n', c', he, hb, ho.read⟩
def RetPrtsR (w : World) (l : List Prt) (z : Int) (e : Ending) (w' : World) : Prop :=
 ∃ A c L, e = .returned (.tuple #[.slice A l.length c, .int .i64 z]) ∧ Below w.heap.size w w' ∧ L.map (·.1) = l ∧ Prts w' (.slice A l.length c) L
theorem RetPrts.rd {w : World} {r : List Prt × Int} {e : Ending} {w' : World} (h : RetPrts w r e w') : RetPrtsR w r.1 r.2 e w' := by
 obtain ⟨A, c, L, he, hb, hl, ho⟩ := h
 exact ⟨A, c, L.map rdX, he, hb, by rw [List.map_map]; exact hl, ho.read⟩
end Go.Proofs.YtfdbidagdjnipaaGreatDoor
namespace Go.Proofs.YtfdbidagdjnipaaGreatDoor
open Go.RowKit

theorem total_step {α β : Type} (f : α → List β) (l : List α) (k : Nat) (hk : k < l.length) : ((l.take (k + 1)).flatMap f).length = ((l.take k).flatMap f).length + (f l[k]).length := by
 rw [List.take_succ_eq_append_getElem hk, List.flatMap_append, List.length_append]; simp
/-- A plan with at most 40 nodes and arcs, 80 faces and 300 inner points. -/
def small15 (p : Pl) : Bool := (decide (p.nodes.length ≤ 40) && (decide (p.arcs.length ≤ 40) && decide (p.faces.length ≤ 80))) && (p.arcs.all (fun y => decide (y.via.length ≤ 300)) && decide ((p.arcs.flatMap (·.via)).length ≤ 300))

set_option maxRecDepth 100000 in
set_option maxHeartbeats 2000000 in
theorem Small15_spec (v : Value) (p : Pl) (w : World) (h : PlV w v p) :
  Calls Tryz.prog 4 #[v] w fun e w' => e = .returned (.bool (small15 p)) ∧ Below w.heap.size w w' := by
 obtain ⟨_, _, _, al, rfl, hpa, ⟨An, cn, rfl, hn1, hn2, -⟩, ⟨⟨Aa, ca, rfl, ha1, ha2, hRa⟩, hV⟩, ⟨Af, cf, rfl, hf1, hf2, -⟩⟩ := h
 unfold maxLen at hn2 ha2 hf2
 have hS : small15 p = ((decide (p.nodes.length ≤ 40) && (decide (al.length ≤ 40) && decide (p.faces.length ≤ 80))) && (al.all (fun y => decide (y.1.via.length ≤ 300)) && decide ((al.flatMap (fun a => a.1.via)).length ≤ 300))) := by
  rw [small15, hpa, List.flatMap_map, List.length_map, List.all_map]; rfl
 rw [hS]
 clear hS hpa
 generalize p.nodes.length = nn at *
 generalize p.faces.length = nf at *
 have HV := Lib.hid hV; clear hV
 have HRa := Lib.hid hRa; clear hRa
 by_cases hc1 : 40 < nn
 case pos =>
  have h1' : (40 : Int) < (nn : Int) := by omega
  have hf := Lib.hid (decide_eq_false (show ¬ nn ≤ 40 by omega))
  clear hc1
  go_enter Tryz.func4, Tryz.ntmps4
  go_wp2_with fail
  go_ret
  exact ⟨ret_bool (by rw [hf.out]; rfl), bA (bR w) _⟩
 by_cases hc2 : 40 < al.length
 case pos =>
  have h1' : ¬ (40 : Int) < (nn : Int) := by omega
  have h2' : (40 : Int) < (al.length : Int) := by omega
  have hf := Lib.hid (decide_eq_false (show ¬ al.length ≤ 40 by omega))
  clear hc1 hc2
  go_enter Tryz.func4, Tryz.ntmps4
  go_wp2_with fail
  go_ret
  exact ⟨ret_bool (by rw [hf.out, Bool.false_and, Bool.and_false]; rfl), bA (bR w) _⟩
 by_cases hc3 : 80 < nf
 case pos =>
  have h1' : ¬ (40 : Int) < (nn : Int) := by omega
  have h2' : ¬ (40 : Int) < (al.length : Int) := by omega
  have h3' : (80 : Int) < (nf : Int) := by omega
  have hf := Lib.hid (decide_eq_false (show ¬ nf ≤ 80 by omega))
  clear hc1 hc2 hc3
  go_enter Tryz.func4, Tryz.ntmps4
  go_wp2_with fail
  go_ret
  exact ⟨ret_bool (by rw [hf.out, Bool.and_false, Bool.and_false]; rfl), bA (bR w) _⟩
 have h1' : ¬ (40 : Int) < (nn : Int) := by omega
 have h2' : ¬ (40 : Int) < (al.length : Int) := by omega
 have h3' : ¬ (80 : Int) < (nf : Int) := by omega
 rw [decide_eq_true (show al.length ≤ 40 by omega), decide_eq_true (show nn ≤ 40 by omega), decide_eq_true (show nf ≤ 80 by omega), Bool.true_and, Bool.true_and, Bool.true_and]
 obtain ⟨q, hq⟩ : ∃ q, (al.all (fun y => decide (y.1.via.length ≤ 300)) && decide ((al.flatMap (fun a => a.1.via)).length ≤ 300)) = q := ⟨_, rfl⟩
 rw [hq]
 have Hq := Lib.hid hq; clear hq
 go_enter Tryz.func4, Tryz.ntmps4
 go_wp2_with fail
 obtain ⟨W0, hW0⟩ : ∃ W0 : World, W0 = w.alloc (.cells #[.slice An nn cn, .slice Aa al.length ca, .slice Af nf cf] 26) := ⟨_, rfl⟩
 have HX0 := Lib.hid (show Blk W0 w.heap.size 26 #[.slice An nn cn, .slice Aa al.length ca, .slice Af nf cf] by rw [hW0]; exact Blk.made rfl _ _)
 have HB0 := Lib.hid (show Below w.heap.size w W0 by rw [hW0]; exact bA (bR w) _)
 rw [← hW0]
 clear hW0
 go_loopw [3, 4] (fun s i wr => ∃ k : Nat, k ≤ al.length ∧ i = .int .i64 k ∧ s = .int .i64 (((al.take k).flatMap (fun a => a.1.via)).length : Nat) ∧ Below W0.heap.size W0 wr ∧ ((al.take k).flatMap (fun a => a.1.via)).length ≤ 300 * k ∧ ∀ j (hj : j < al.length), j < k → decide (al[j].1.via.length ≤ 300) = true) (fun _ i _ => al.length - (intOf i).toNat)
 case atStart => exact ⟨0, Nat.zero_le _, rfl, by simp, bR W0, by simp, fun _ _ h => by omega⟩
 case round =>
  obtain ⟨k, hk, rfl, rfl, hb, hM, hno⟩ := hrel
  have Hb := Lib.hid hb
  have Hno := Lib.hid hno
  have X1 := HX0.out.keep hb
  clear hb hno
  obtain ⟨X1l, X1a, X1b, X1c, -, -, -⟩ := X1.facts3
  by_cases hlt : k < al.length
  case pos =>
   obtain ⟨b, o, rfl, hlb, c0, c1, c2, c3, c4, c5⟩ := (HRa.out.mono (bT HB0.out Hb.out)).ar hlt
   obtain ⟨Av, cv, hv, hvc, hvm, -⟩ := HV.out k hlt
   rw [hv] at c3
   clear hv
   unfold maxLen at hvm
   have ht := total_step (fun a : Ar × Value => a.1.via) al k hlt
   have Ht := Lib.hid ht
   clear ht
   generalize hT : ((al.take k).flatMap (fun a => a.1.via)).length = T at *
   have HT := Lib.hid hT
   clear hT
   by_cases h1 : 300 < al[k].1.via.length
   ·
    have h1' : (300 : Int) < (al[k].1.via.length : Int) := by omega
    have hf : q = false := by
     rw [← Hq.out]
     have : (al.all fun a => decide (a.1.via.length ≤ 300)) = false := by
      rw [List.all_eq_false]
      exact ⟨al[k], List.getElem_mem hlt, by simp; omega⟩
     rw [this]; simp
    have HF := Lib.hid hf
    clear hf
    go_wp2_with fail
    go_ret
    exact ⟨ret_bool HF.out.symm, bT HB0.out Hb.out⟩
   ·
    have h1' : ¬ (300 : Int) < (al[k].1.via.length : Int) := by omega
    have hd := Lib.hid (show decide (al[k].1.via.length ≤ 300) = true by simp; omega)
    have hq : IntKind.i64.wrap ((T : Int) + (al[k].1.via.length : Int)) = (T : Int) + (al[k].1.via.length : Int) := IntWalk.i64_in _ (by have h0 : k ≤ 100 := (by omega); omega)
    go_wp2_with fail
    go_roundw
    case rel => exact ⟨k + 1, by omega, by go_num, by rw [Ht.out]; go_num, Hb.out, by rw [Ht.out]; omega, all_succ (p := fun n : Ar × Value => decide (n.1.via.length ≤ 300) = true) Hno.out hlt hd.out⟩
    case measure => simp [intOf]; omega
  case neg =>
  have hall : al.take k = al := List.take_of_length_le (by omega)
  have hf : q = decide ((al.flatMap (fun a => a.1.via)).length ≤ 300) := by
   rw [← Hq.out]
   have : (al.all fun a => decide (a.1.via.length ≤ 300)) = true := by
    rw [List.all_eq_true]
    intro x hx
    obtain ⟨j, hj, rfl⟩ := List.mem_iff_getElem.1 hx
    exact Hno.out j hj (by omega)
   rw [this, Bool.true_and]
  have HF := Lib.hid hf
  rw [hall] at hM ⊢
  clear hall hf
  generalize (al.flatMap (fun a => a.1.via)).length = T at *
  go_wp2_with fail
  go_ret
  refine ⟨ret_bool ?_, bT HB0.out Hb.out⟩
  rw [HF.out]
  first | rfl | (rw [Bool.eq_iff_iff]; simp; done) | (rw [Bool.eq_iff_iff]; simp; omega)

end Go.Proofs.YtfdbidagdjnipaaGreatDoor
