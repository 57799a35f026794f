/- clip.Same (with its closure and slices.EqualFunc at pieces), mapsheetsref17.SameInts. PLAIN: one insertion into an ascending list, as mapsheetsref41.Arcs does it. mapsheetsref41.Arcs. slices.Grow, slices.Concat at ints (one list). Sorting ints: words. slices.Sort at ints. -/
import Derived.Test.YtfondidmklmonaaGreatJ20
import Derived.Test.YtfondidmklmonaaGreatGB
import Derived.Deep.CutBlock
import Derived.Test.YtfondidmklmonaaGreatJ02
import Derived.Test.YtfondidmklmonaaGreatJ11
import Derived.Lib.AppendZerosOnto
import Derived.Test.YtfondidmklmonaaGreatJ13
import Derived.Shelf.SortM.Plain
import Derived.Shelf.SortM.SortNone
import Derived.Test.YtfondidmklmonaaGreatJ07
import Derived.Test.YtfondidmklmonaaGreatLaySortN
set_option linter.unusedSimpArgs false
set_option linter.unusedVariables false
namespace Go.Proofs.YtfondidmklmonaaGreat
open Go.RowKit

set_option maxHeartbeats 400000 in
theorem SameInts_spec (v u : Value) (l m : List Int) (w : World) (h : Ints w v l) (h' : Ints w u m) :
  Calls Tryz.prog 20 #[v, u] w fun e w' => e = .returned (.bool (decide (l = m))) ∧ Below w.heap.size w w' := by
 obtain ⟨A, c, rfl, hn, hc, hR⟩ := h
 obtain ⟨A', c', rfl, hn', hc', hR'⟩ := h'
 unfold maxLen at hc hc'
 by_cases hlen : l.length = m.length
 case neg =>
  have hf := Lib.hid (decide_eq_false (fun e : l = m => hlen (congrArg List.length e)))
  have hl1 : ((l.length : Int) != (m.length : Int)) = true := by rw [bne_iff_ne]; omega
  have hl2 : (l.length != m.length) = true := by rw [bne_iff_ne]; omega
  clear hlen
  go_enter Tryz.func20, Tryz.ntmps20
  go_wp2_with fail
  go_ret
  exact ⟨ret_bool hf.out.symm, bR w⟩
 case pos =>
 have hl1 : ((l.length : Int) != (m.length : Int)) = false := by simp [hlen]
 have hl2 : (l.length != m.length) = false := by simp [hlen]
 have Hlen := Lib.hid hlen; clear hlen
 go_enter Tryz.func20, Tryz.ntmps20
 go_wp2_with fail
 go_loopw [5] (fun i wr => ∃ k : Nat, k ≤ l.length ∧ i = .int .i64 k ∧ Below w.heap.size w wr ∧ ∀ j (hj : j < l.length) (hj' : j < m.length), j < k → l[j] = m[j]) (fun i _ => l.length - (intOf i).toNat)
 case atStart => exact ⟨0, Nat.zero_le _, rfl, bR w, fun j _ _ h => by omega⟩
 case round =>
  obtain ⟨k, hk, rfl, hb, hno⟩ := hrel
  have Hb := Lib.hid hb
  have Hno := Lib.hid hno
  clear hb hno hl1 hl2
  by_cases hlt : k < l.length
  ·
   have hlt' : k < m.length := by have := Hlen.out; omega
   obtain ⟨b, o, rfl, hlb, c0⟩ := (hR.mono Hb.out).int hlt
   obtain ⟨b', o', rfl, hlb', c0q⟩ := (hR'.mono Hb.out).int hlt'
   have HR := Lib.hid hR; have HR' := Lib.hid hR'; clear hR hR'
   have q1 : 0 ≤ (k : Int) := by omega
   have q2 : (k : Int) < l.length := by omega
   have q3 : (k : Int) < m.length := by omega
   by_cases he : l[k] = m[k]
   ·
    have hd : (l[k] != m[k]) = false := by simpa using he
    have He := Lib.hid he; clear he
    go_upto_region 6 with fail
    refine rg_start (Since wr) (.run 9 0 0 (.done)) (by kernel_rfl) (bD (bR _)) (by kernel_rfl) (by kernel_rfl) (Nat.le_of_ble_eq_true (by kernel_rfl)) ?_
    intro opsR QR Hops HQrg hS
    iterate 9
     apply rg_p; exact Hops; exact rfl; exact hS; exact rfl
     · intro _ hqc; go_simp; try rfl
     try simp only [pu]
    refine rg_done ?_
    refine HQrg.down _ _ ?_
    have hB : Below wr.heap.size wr wr.drew := hS
    clear hS HQrg Hops
    have Bw : Below w.heap.size w wr.drew := bT Hb.out hB
    clear hB
    go_wp2_with fail
    go_roundw
    case rel => exact ⟨k + 1, by omega, by go_num, Bw, fun j hj hj' hjk => if e : j < k then Hno.out j hj hj' e else by
      have : j = k := by omega
      subst this; exact He.out⟩
    case measure => simp [intOf]; omega
   ·
    have hd : (l[k] != m[k]) = true := by simpa using he
    have He := Lib.hid he; clear he
    go_upto_region 6 with fail
    refine rg_start (Since wr) (.run 9 0 0 (.done)) (by kernel_rfl) (bD (bR _)) (by kernel_rfl) (by kernel_rfl) (Nat.le_of_ble_eq_true (by kernel_rfl)) ?_
    intro opsR QR Hops HQrg hS
    iterate 9
     apply rg_p; exact Hops; exact rfl; exact hS; exact rfl
     · intro _ hqc; go_simp; try rfl
     try simp only [pu]
    refine rg_done ?_
    refine HQrg.down _ _ ?_
    have hB : Below wr.heap.size wr wr.drew := hS
    clear hS HQrg Hops
    have Bw : Below w.heap.size w wr.drew := bT Hb.out hB
    clear hB
    go_wp2_with fail
    go_ret
    exact ⟨ret_bool (decide_eq_false (ne_of_at k hlt hlt' He.out)).symm, Bw⟩
  ·
   have hf := Lib.hid (decide_eq_true (eq_of_all Hlen.out fun j hj => Hno.out j hj (by have := Hlen.out; omega) (by omega)))
   go_wp2_with fail
   go_ret
   exact ⟨ret_bool hf.out.symm, Hb.out⟩

set_option maxHeartbeats 1000000 in
theorem SamePc1_spec (a b : Pc) (va vb : Value) (w : World) (ha : Pts w va a.path) (hb : Pts w vb b.path) :
  Calls Tryz.prog 41 #[pcV a va, pcV b vb] w fun e w' => e = .returned (.bool (decide (a = b))) ∧ Below w.heap.size w w' := by
 have TP : ∀ W, Below w.heap.size w W → Calls Tryz.prog 42 #[va, vb] W _ := fun W hW => Equal_pt_spec va vb a.path b.path W (ha.mono hW) (hb.mono hW)
 obtain ⟨A, c, rfl, -⟩ := ha
 obtain ⟨A', c', rfl, -⟩ := hb
 have HP := Lib.hid TP; clear TP
 generalize hl : a.path.length = l at *
 generalize hl' : b.path.length = l' at *
 have hx := @Pc.ext_iff' a b
 have Hx := Lib.hid hx; clear hx hl hl'
 unfold pcV
 cases hid : (a.arc == b.arc)
 case false =>
  have hf := Lib.hid (decide_eq_false (fun e : a = b => by have := (Hx.out.1 e); simp_all) : decide (a = b) = false)
  go_enter Tryz.func41, Tryz.ntmps41
  go_wp2_with fail
  go_ret
  refine ⟨ret_bool hf.out.symm, ?_⟩
  repeat (first | with_reducible exact bR _ | with_reducible assumption | with_reducible refine bA ?_ _ | with_reducible refine bD ?_ | with_reducible refine bN ?_ _ | ((with_reducible refine bS ?_ ?_ _); rotate_left; (simp; try omega)) | ((with_reducible refine bT ?_ ?_); rotate_left; with_reducible assumption) | with_reducible refine bT ?_ (by assumption))
 case true =>
 cases hfr : (a.enter == b.enter)
 case false =>
  have hf := Lib.hid (decide_eq_false (fun e : a = b => by have := (Hx.out.1 e); simp_all) : decide (a = b) = false)
  go_enter Tryz.func41, Tryz.ntmps41
  go_wp2_with fail
  go_ret
  refine ⟨ret_bool hf.out.symm, ?_⟩
  repeat (first | with_reducible exact bR _ | with_reducible assumption | with_reducible refine bA ?_ _ | with_reducible refine bD ?_ | with_reducible refine bN ?_ _ | ((with_reducible refine bS ?_ ?_ _); rotate_left; (simp; try omega)) | ((with_reducible refine bT ?_ ?_); rotate_left; with_reducible assumption) | with_reducible refine bT ?_ (by assumption))
 case true =>
 cases hto : (a.leave == b.leave)
 case false =>
  have hf := Lib.hid (decide_eq_false (fun e : a = b => by have := (Hx.out.1 e); simp_all) : decide (a = b) = false)
  go_enter Tryz.func41, Tryz.ntmps41
  go_wp2_with fail
  go_ret
  refine ⟨ret_bool hf.out.symm, ?_⟩
  repeat (first | with_reducible exact bR _ | with_reducible assumption | with_reducible refine bA ?_ _ | with_reducible refine bD ?_ | with_reducible refine bN ?_ _ | ((with_reducible refine bS ?_ ?_ _); rotate_left; (simp; try omega)) | ((with_reducible refine bT ?_ ?_); rotate_left; with_reducible assumption) | with_reducible refine bT ?_ (by assumption))
 case true =>
 cases hv : decide (a.path = b.path)
 all_goals
  have hf : decide (a = b) = decide (a.path = b.path) := by
   rw [Bool.eq_iff_iff, decide_eq_true_iff, decide_eq_true_iff, Hx.out]
   simp only [beq_iff_eq] at *
   constructor
   · intro h; exact h.2.2.2
   · intro h; exact ⟨by assumption, by assumption, by assumption, h⟩
  rw [hv] at hf
  have Hf := Lib.hid hf; clear hf
  go_enter Tryz.func41, Tryz.ntmps41
  go_wp2_with fail
  refine (HP.out _ (bA (bA (bR w) _) _)).mono ?_
  rintro e w1 ⟨rfl, hb1⟩
  rw [hv]
  go_wp2_with fail
  go_ret
  exact ⟨ret_bool Hf.out.symm, bT (bA (bA (bR w) _) _) hb1⟩

set_option maxRecDepth 100000 in
set_option maxHeartbeats 1000000 in
theorem EqualFunc_pc_spec (v u : Value) (l m : List (Pc × Value)) (w : World) (h : Pcs w v l) (h' : Pcs w u m) :
  Calls Tryz.prog 43 #[v, u, .func (.func 41) #[] #[]] w fun e w' => e = .returned (.bool (decide (l.map (·.1) = m.map (·.1)))) ∧ Below w.heap.size w w' := by
 obtain ⟨⟨A, c, rfl, hn, hc, hR⟩, hV⟩ := h
 obtain ⟨⟨A', c', rfl, hn', hc', hR'⟩, hV'⟩ := h'
 unfold maxLen at hc hc'
 have HV := Lib.hid hV; have HV' := Lib.hid hV'; have HR := Lib.hid hR; have HR' := Lib.hid hR'
 clear hV hV' hR hR'
 obtain ⟨q, hq⟩ : ∃ q, decide (l.map (·.1) = m.map (·.1)) = q := ⟨_, rfl⟩
 rw [hq]
 have Hq := Lib.hid hq; clear hq
 by_cases hlm : l.length = m.length
 case neg =>
  have hf := Lib.hid (show false = q by rw [← Hq.out, eq_comm, decide_eq_false_iff_not]; exact fun e => hlm (by simpa using congrArg List.length e))
  have hne : ((l.length : Int) != (m.length : Int)) = true := by simp; omega
  clear hlm
  go_enter Tryz.func43, Tryz.ntmps43
  go_wp2_with fail
  go_ret
  exact ⟨ret_bool hf.out, bR w⟩
 have hne : ((l.length : Int) != (m.length : Int)) = false := by simp; omega
 have Hlm := Lib.hid hlm
 have hle : l.length ≤ m.length := by omega
 clear hlm
 go_enter Tryz.func43, Tryz.ntmps43
 go_wp2_with fail
 go_loopw [17] (fun s wr => ∃ k : Nat, k ≤ l.length ∧ s = .int .i64 k ∧ Below w.heap.size w wr ∧ ∀ j (hj : j < l.length) (hj' : j < m.length), j < k → l[j].1 = m[j].1) (fun s _ => l.length - (intOf s).toNat)
 case atStart => exact ⟨0, Nat.zero_le _, rfl, bR w, fun _ _ _ h => by omega⟩
 case round =>
  obtain ⟨k, hk, rfl, hb, hno⟩ := hrel
  have Hb := Lib.hid hb
  have Hno := Lib.hid hno
  clear hb hno
  by_cases hlt : k < l.length
  case neg =>
   have hf := Lib.hid (show true = q by
    rw [← Hq.out, eq_comm, decide_eq_true_iff]
    refine List.ext_getElem (by simpa using Hlm.out) fun i h1 h2 => ?_
    simp only [List.getElem_map]
    exact Hno.out i (by simpa using h1) (by simpa using h2) (by rw [List.length_map] at h1; omega))
   go_wp2_with fail
   go_ret
   exact ⟨ret_bool hf.out, Hb.out⟩
  have hlt' : k < m.length := by omega
  obtain ⟨b, o, rfl, hlb, c0, c1, c2, c3⟩ := (HR.out.mono Hb.out).pc hlt
  obtain ⟨b', o', rfl, hlb', d0, d1, d2, d3⟩ := (HR'.out.mono Hb.out).pc hlt'
  have v1 := HV.out k hlt
  have v2 := HV'.out k hlt'
  obtain ⟨Av, cv, hv, -⟩ := HV.out k hlt
  obtain ⟨Av', cv', hv', -⟩ := HV'.out k hlt'
  have T1 : ∀ W, Below w.heap.size w W → Calls Tryz.prog 41 #[pcV l[k].1 l[k].2, pcV m[k].1 m[k].2] W _ := fun W hW => SamePc1_spec l[k].1 m[k].1 l[k].2 m[k].2 W (v1.mono hW) (v2.mono hW)
  unfold pcV at T1
  rw [hv, hv'] at T1
  rw [hv] at c1
  rw [hv'] at d1
  have HT := Lib.hid T1
  have r1 : 0 ≤ (k : Int) := by omega
  have r2 : (k : Int) < m.length := by omega
  clear v1 v2 hv hv' T1
  go_wp2_with fail
  refine (HT.out _ (bA (bA Hb.out _) _)).mono ?_
  rintro e w2 ⟨rfl, hb2⟩
  have B2 := bT (bA (bA Hb.out _) _) hb2
  cases he : decide (l[k].1 = m[k].1)
  case false =>
   have hf := Lib.hid (show false = q by
    rw [← Hq.out, eq_comm, decide_eq_false_iff_not]
    intro e
    have := congrArg (fun x : List Pc => x[k]?) e
    simp [hlt, hlt'] at this
    exact of_decide_eq_false he this)
   clear he
   go_wp2_with fail
   go_ret
   exact ⟨ret_bool hf.out, B2⟩
  case true =>
   have hg := Lib.hid (of_decide_eq_true he)
   clear he
   go_wp2_with fail
   go_roundw
   case rel => exact ⟨k + 1, by omega, by go_num, B2, fun j hj hj' hjk => if e : j < k then Hno.out j hj hj' e else by
     have : j = k := by omega
     subst this; exact hg.out⟩
   case measure => simp [intOf]; omega
set_option maxRecDepth 100000 in
set_option maxHeartbeats 1000000 in
theorem cSame_spec (v u : Value) (a b : Prt) (w : World) (ha : PrtV w v a) (hb : PrtV w u b) :
  Calls Tryz.prog 19 #[v, u] w fun e w' => e = .returned (.bool (decide (a = b))) ∧ Below w.heap.size w w' := by
 obtain ⟨vp, vn, pl, rfl, hpa, h1, h2⟩ := ha
 obtain ⟨up, un, ql, rfl, hpb, k1, k2⟩ := hb
 have TN : ∀ W, Below w.heap.size w W → Calls Tryz.prog 44 #[vn, un] W _ := fun W hW => Equal_nd_spec vn un a.nodes b.nodes W (h2.mono hW) (k2.mono hW)
 have TA : ∀ W, Below w.heap.size w W → Calls Tryz.prog 43 #[vp, up, .func (.func 41) #[] #[]] W _ := fun W hW => EqualFunc_pc_spec vp up pl ql W (h1.mono hW) (k1.mono hW)
 rw [← hpa, ← hpb] at TA
 have HN := Lib.hid TN; have HA := Lib.hid TA
 obtain ⟨q, hq⟩ : ∃ q, decide (a = b) = q := ⟨_, rfl⟩
 rw [hq]
 have Hq := Lib.hid hq
 have HX := Lib.hid (@Prt.ext_iff' a b)
 obtain ⟨⟨Ap, cp, rfl, -⟩, -⟩ := h1
 obtain ⟨⟨Bp, dp, rfl, -⟩, -⟩ := k1
 obtain ⟨An, cn, rfl, -⟩ := h2
 obtain ⟨Bn, dn, rfl, -⟩ := k2
 generalize a.nodes.length = x1 at *
 generalize pl.length = x2 at *
 generalize b.nodes.length = y1 at *
 generalize ql.length = y2 at *
 clear TN TA hq hpa hpb
 cases e0 : (a.sheet == b.sheet)
 case false =>
  have hf := Lib.hid (show false = q by rw [← Hq.out, eq_comm, decide_eq_false_iff_not]; intro e; rw [e] at e0; simp at e0)
  go_enter Tryz.func19, Tryz.ntmps19
  go_wp2_with fail
  go_ret
  refine ⟨ret_bool hf.out, ?_⟩
  repeat (first | with_reducible exact bR _ | with_reducible assumption | with_reducible refine bA ?_ _ | with_reducible refine bD ?_ | with_reducible refine bN ?_ _ | ((with_reducible refine bS ?_ ?_ _); rotate_left; (simp; try omega)) | ((with_reducible refine bT ?_ ?_); rotate_left; with_reducible assumption) | with_reducible refine bT ?_ (by assumption))
 have hs := Lib.hid (show a.sheet = b.sheet by simpa using e0)
 go_enter Tryz.func19, Tryz.ntmps19
 go_wp2_with fail
 refine (HA.out _ (bA (bA (bR w) _) _)).mono ?_
 rintro e w1 ⟨rfl, hb1⟩
 have Bw : Below w.heap.size w w1 := by
  repeat (first | with_reducible exact bR _ | with_reducible assumption | with_reducible refine bA ?_ _ | with_reducible refine bD ?_ | with_reducible refine bN ?_ _ | ((with_reducible refine bS ?_ ?_ _); rotate_left; (simp; try omega)) | ((with_reducible refine bT ?_ ?_); rotate_left; with_reducible assumption) | with_reducible refine bT ?_ (by assumption))
 have X2 : Blk _ (w.heap.size) 35 #[.int .i64 a.sheet, .slice Ap x2 cp, .slice An x1 cn] := Blk.keep (by repeat (first | exact Blk.made (by simp) _ _ | refine Blk.alloc ?_ _)) hb1
 have X3 : Blk _ (w.heap.size + 1) 35 #[.int .i64 b.sheet, .slice Bp y2 dp, .slice Bn y1 dn] := Blk.keep (by repeat (first | exact Blk.made (by simp) _ _ | refine Blk.alloc ?_ _)) hb1
 clear hb1
 obtain ⟨X2l, X2a, X2b, X2c, -, -, -⟩ := X2.facts3
 obtain ⟨X3l, X3a, X3b, X3c, -, -, -⟩ := X3.facts3
 cases e1 : decide (a.pieces = b.pieces)
 case false =>
  have hf := Lib.hid (show false = q by rw [← Hq.out, eq_comm, decide_eq_false_iff_not]; intro e; exact of_decide_eq_false e1 (HX.out.1 e).2.1)
  clear e1
  go_wp2_with fail
  go_ret
  exact ⟨ret_bool hf.out, Bw⟩
 have E1 := Lib.hid (of_decide_eq_true e1); clear e1
 go_wp2_with fail
 refine (HN.out _ Bw).mono ?_
 rintro e w3 ⟨rfl, hb3⟩
 have hf := Lib.hid (show decide (a.nodes = b.nodes) = q by
  rw [← Hq.out, Bool.eq_iff_iff, decide_eq_true_iff, decide_eq_true_iff, HX.out]
  exact ⟨fun h => ⟨hs.out, E1.out, h⟩, fun h => h.2.2⟩)
 go_wp2_with fail
 go_ret
 exact ⟨ret_bool hf.out, bT Bw hb3⟩
end Go.Proofs.YtfondidmklmonaaGreat
namespace Go.Proofs.YtfondidmklmonaaGreat

theorem tw_at {α : Type} {l : List α} {q : α → Bool} {k : Nat} (h : ∀ j (hj : j < l.length), j < k → q l[j] = true) (he : k = l.length ∨ ∃ hk : k < l.length, q l[k] = false) : l.takeWhile q = l.take k ∧ l.dropWhile q = l.drop k := by
 induction l generalizing k with
 | nil => simp
 | cons a l ih =>
  cases k with
  | zero =>
   rcases he with h0 | ⟨hk, h0⟩
   · simp at h0
   ·
    simp only [List.getElem_cons_zero] at h0
    rw [List.takeWhile_cons, List.dropWhile_cons]
    simp [h0]
  | succ k =>
   have h0 := h 0 (by simp) (by omega)
   simp only [List.getElem_cons_zero] at h0
   rw [List.takeWhile_cons, List.dropWhile_cons]
   simp only [h0, if_true]
   rw [List.take_succ_cons, List.drop_succ_cons]
   obtain ⟨e1, e2⟩ := ih (k := k) (fun j hj hjk => by have h1 := h (j + 1) (by simpa using hj) (by omega); simpa only [List.getElem_cons_succ] using h1) (by
    rcases he with h1 | ⟨hk, h1⟩
    · left; simpa using h1
    · right; exact ⟨by simpa using hk, by simpa only [List.getElem_cons_succ] using h1⟩)
   rw [e1, e2]
   exact ⟨rfl, rfl⟩
/-- one insertion, as mapsheetsref41.Arcs does it -/
def insA (l : List Int) (n : Int) : List Int := l.takeWhile (fun x => decide (x < n)) ++ n :: l.filter (fun x => decide (n < x))
def arcsR (ns : List Int) : List Int := ns.foldl insA []
theorem insA_mem {l : List Int} (hl : l.Pairwise (· < ·)) (n x : Int) : x ∈ insA l n ↔ x = n ∨ x ∈ l := by
 unfold insA
 rw [List.mem_append, List.mem_cons, List.mem_filter]
 have key : x ∈ l.takeWhile (fun x => decide (x < n)) ↔ x ∈ l ∧ x < n := by
  induction l with
  | nil => simp
  | cons a l ih =>
   have hp := List.pairwise_cons.1 hl
   rw [List.takeWhile_cons]
   by_cases ha : a < n
   ·
    simp only [ha, decide_true, if_true, List.mem_cons, ih hp.2]
    constructor
    ·
     rintro (rfl | h)
     · exact ⟨.inl rfl, ha⟩
     · exact ⟨.inr h.1, h.2⟩
    ·
     rintro ⟨rfl | h, h2⟩
     · exact .inl rfl
     · exact .inr ⟨h, h2⟩
   ·
    simp only [ha, decide_false, Bool.false_eq_true, if_false, List.not_mem_nil, false_iff, List.mem_cons, not_and]
    rintro (rfl | h)
    · exact ha
    · have := hp.1 x h; omega
 rw [key]
 simp only [decide_eq_true_eq]
 constructor
 ·
  rintro (h | h | h)
  · exact .inr h.1
  · exact .inl h
  · exact .inr h.1
 ·
  rintro (h | h)
  · exact .inr (.inl h)
  ·
   rcases Int.lt_trichotomy x n with h1 | h1 | h1
   · exact .inl ⟨h, h1⟩
   · exact .inr (.inl h1)
   · exact .inr (.inr ⟨h, h1⟩)
theorem insA_asc {l : List Int} (hl : l.Pairwise (· < ·)) (n : Int) : (insA l n).Pairwise (· < ·) := by
 unfold insA
 have hlt : ∀ x ∈ l.takeWhile (fun x => decide (x < n)), x < n := by
  clear hl
  intro x hx
  induction l with
  | nil => cases hx
  | cons a l ih =>
   rw [List.takeWhile_cons] at hx
   by_cases ha : a < n
   ·
    simp only [ha, decide_true, if_true, List.mem_cons] at hx
    rcases hx with rfl | hx
    · exact ha
    · exact ih hx
   · simp only [ha, decide_false, Bool.false_eq_true, if_false, List.not_mem_nil] at hx
 have hgt : ∀ x ∈ l.filter (fun x => decide (n < x)), n < x := fun x hx => by have := (List.mem_filter.1 hx).2; simpa using this
 rw [List.pairwise_append]
 refine ⟨hl.sublist (List.takeWhile_sublist _), List.pairwise_cons.2 ⟨hgt, hl.sublist List.filter_sublist⟩, fun a ha b hb => ?_⟩
 have h1 := hlt a ha
 rcases List.mem_cons.1 hb with rfl | hb
 · exact h1
 · have := hgt b hb; omega
theorem foldl_insA : ∀ (ns l : List Int), l.Pairwise (· < ·) → (ns.foldl insA l).Pairwise (· < ·) ∧ ∀ x, x ∈ ns.foldl insA l ↔ x ∈ ns ∨ x ∈ l
 | [], l, hl => ⟨hl, fun x => by simp⟩
 | n :: ns, l, hl => by
  obtain ⟨h1, h2⟩ := foldl_insA ns (insA l n) (insA_asc hl n)
  refine ⟨h1, fun x => ?_⟩
  rw [List.foldl_cons, h2, insA_mem hl, List.mem_cons]
  constructor
  ·
   rintro (h | h | h)
   · exact .inl (.inr h)
   · exact .inl (.inl h)
   · exact .inr h
  ·
   rintro ((h | h) | h)
   · exact .inr (.inl h)
   · exact .inl h
   · exact .inr (.inr h)
theorem tw_filter_len (l : List Int) (n : Int) : (l.takeWhile (fun x => decide (x < n))).length + (l.filter (fun x => decide (n < x))).length ≤ l.length := by
 induction l with
 | nil => simp
 | cons a l ih =>
  by_cases ha : a < n
  ·
   have hb : ¬ n < a := by omega
   rw [List.takeWhile_cons, List.filter_cons]
   simp only [ha, hb, decide_true, decide_false, if_true, Bool.false_eq_true, if_false, List.length_cons]
   omega
  ·
   rw [List.takeWhile_cons]
   simp only [ha, decide_false, Bool.false_eq_true, if_false, List.length_nil]
   have := List.length_filter_le (fun x => decide (n < x)) (a :: l)
   omega
theorem insA_len (l : List Int) (n : Int) : (insA l n).length ≤ l.length + 1 := by
 unfold insA
 rw [List.length_append, List.length_cons]
 have := tw_filter_len l n
 omega
theorem arcsR_snoc (l : List Int) (n : Int) : arcsR (l ++ [n]) = insA (arcsR l) n := by unfold arcsR; rw [List.foldl_append]; rfl
end Go.Proofs.YtfondidmklmonaaGreat
namespace Go.Proofs.YtfondidmklmonaaGreat
open Go.RowKit

/-- a list of ints of the call's own -/
def RetIn (w : World) (l : List Int) (e : Ending) (w' : World) : Prop :=
 ∃ A c, e = .returned (.slice A l.length c) ∧ Below w.heap.size w w' ∧ Own w' w.heap.size 3 1 inC (.slice A l.length c) l
theorem take_snoc_ {α : Type} (l : List α) {j : Nat} (h : j < l.length) : l.take (j + 1) = l.take j ++ [l[j]] := List.take_succ_eq_append_getElem h
set_option maxRecDepth 100000 in
set_option maxHeartbeats 8000000 in
theorem RArcs_spec (v : Value) (x : Prt) (w : World) (h : PrtV w v x) (hl : x.pieces.length ≤ 1000) :
  Calls Tryz.prog 22 #[v] w (RetIn w (arcsR (x.pieces.map (·.arc)))) := by
 obtain ⟨vp, vn, al, rfl, hpa, ⟨⟨Aa, ca, rfl, ha1, ha2, hRa⟩, -⟩, ⟨An, cn, rfl, hn1, hn2, -⟩⟩ := h
 unfold maxLen at ha2
 have hal : al.length ≤ 1000 := by rw [hpa, List.length_map] at hl; exact hl
 obtain ⟨ns, hns⟩ : ∃ ns, x.pieces.map (·.arc) = ns := ⟨_, rfl⟩
 rw [hns]
 have HNl := Lib.hid (show ns.length = al.length by rw [← hns, hpa]; simp)
 have HG := Lib.hid (show ∀ k (hk : k < al.length) (hk' : k < ns.length), ns[k] = al[k].1.arc by
  intro k hk hk'
  subst hns
  simp [hpa])
 obtain ⟨q, hq⟩ : ∃ q, arcsR ns = q := ⟨_, rfl⟩
 rw [hq]
 have HQ := Lib.hid hq
 have HRa := Lib.hid hRa
 generalize x.nodes.length = nn at *
 generalize x.sheet = sh at *
 clear hl hpa hns hq hRa
 unfold RetIn
 go_enter Tryz.func22, Tryz.ntmps22
 go_wp2_with fail
 obtain ⟨W0, hW0⟩ : ∃ W0 : World, W0 = w.alloc (.cells #[.int .i64 sh, .slice Aa al.length ca, .slice An nn cn] 35) := ⟨_, rfl⟩
 have X1 : Blk W0 w.heap.size 35 #[.int .i64 sh, .slice Aa al.length ca, .slice An nn cn] := by rw [hW0]; exact Blk.made rfl _ _
 have Bw0 : Below w.heap.size w W0 := by rw [hW0]; exact bA (bR w) _
 rw [← hW0]
 have HX0 := Lib.hid X1
 have HB0 := Lib.hid Bw0
 clear hW0 X1 Bw0
 go_loopw [3, 4] (fun s i wr => ∃ (k : Nat) (L : List Int) (A : Option Addr) (c : Nat), k ≤ al.length ∧ i = .int .i64 k ∧ s = .slice A L.length c ∧ L = arcsR (ns.take k) ∧ L.length ≤ k ∧ Own wr W0.heap.size 3 1 inC (.slice A L.length c) L ∧ Below W0.heap.size W0 wr) (fun _ i _ => al.length - (intOf i).toNat)
 case atStart => exact ⟨0, [], none, 0, Nat.zero_le _, rfl, rfl, rfl, Nat.le_refl _, Own.nil _ _ _ _ _, bR W0⟩
 case round =>
  obtain ⟨k, L, A, c, hk, rfl, rfl, hL, hLl, hown, hb⟩ := hrel
  have Hb := Lib.hid hb
  have HL := Lib.hid hL
  have HOwn := Lib.hid hown
  have X1 := HX0.out.keep hb
  have hLc : L.length ≤ 1000 := by omega
  obtain ⟨A', c', hv', hl1, hl2, hRL⟩ := hown.sl
  injection hv' with hA' _ hc'
  subst hA' hc'
  have HRL := Lib.hid hRL
  clear hb hL hown hl1 hl2 hRL
  obtain ⟨X1l, X1a, X1b, X1c, -, -, -⟩ := X1.facts3
  by_cases hlt : k < al.length
  case neg =>
   have HLq := Lib.hid (show L = q by rw [HL.out, ← HQ.out, List.take_of_length_le (by have := HNl.out; omega)])
   go_wp2_with fail
   go_ret
   refine ⟨A, c, by rw [HLq.out]; rfl, HB0.out.trans (Hb.out.mono HB0.out.size), ?_⟩
   rw [← HLq.out]
   exact HOwn.out.mono_base HB0.out.size
  obtain ⟨b, o, rfl, hlb, c0, c1, c2, c3⟩ := (HRa.out.mono (bT HB0.out Hb.out)).pc hlt
  have hkn : k < ns.length := by have := HNl.out; omega
  obtain ⟨n, hn⟩ : ∃ n, al[k].1.arc = n := ⟨_, rfl⟩
  have HSt := Lib.hid (show arcsR (ns.take (k + 1)) = insA L n by rw [take_snoc_ ns hkn, arcsR_snoc, ← HL.out, HG.out k hlt hkn, hn])
  rw [hn] at c0
  clear hn hkn c1
  obtain ⟨wo, rfl⟩ : ∃ wo : World, wo = wr := ⟨_, rfl⟩
  go_upto_block 2 with fail
  go_cut [6, 7] (fun s u wx => ∃ (T : List Int) (A2 : Option Addr) (c2 : Nat), s = .slice A2 T.length c2 ∧ T = L.takeWhile (fun x => decide (x < n)) ∧ T.length ≤ L.length ∧ Own wx wo.heap.size 3 1 inC (.slice A2 T.length c2) T ∧ Below wo.heap.size wo wx)
  case first =>
   go_wp2_with fail
   go_loopw [6, 7] (fun s i wx => ∃ (j : Nat) (T : List Int) (A2 : Option Addr) (c2 : Nat), j ≤ L.length ∧ i = .int .i64 j ∧ s = .slice A2 T.length c2 ∧ T = L.take j ∧ T.length ≤ j ∧ Own wx wo.heap.size 3 1 inC (.slice A2 T.length c2) T ∧ Below wo.heap.size wo wx ∧ ∀ i (hi : i < L.length), i < j → decide (L[i] < n) = true) (fun _ i _ => L.length - (intOf i).toNat)
   case atStart => exact ⟨0, [], none, 0, Nat.zero_le _, rfl, rfl, rfl, Nat.le_refl _, Own.nil _ _ _ _ _, bR wo, fun _ _ h => by omega⟩
   case round =>
    obtain ⟨j, T, A2, c2, hj, rfl, rfl, hT, hTl, hown2, hb2, hno⟩ := hrel
    have Hb2 := Lib.hid hb2; have HT := Lib.hid hT; have HOwn2 := Lib.hid hown2; have Hno := Lib.hid hno
    have hz2 := hb2.size
    clear hb2 hT hown2 hno
    by_cases hgo : ∃ hlt : j < L.length, L[j] < n
    case pos =>
     obtain ⟨hj1, hj2⟩ := hgo
     obtain ⟨b2, o2, rfl, hlb2, d0⟩ := (HRL.out.mono Hb2.out).int hj1
     have q2 : (j : Int) < L.length := by omega
     have Hz := Lib.hid (decide_eq_true hj2)
     have HT2 := Lib.hid (show T ++ [L[j]] = L.take (j + 1) by rw [take_snoc_ L hj1, HT.out])
     obtain ⟨m, hm⟩ : ∃ m, L[j] = m := ⟨_, rfl⟩
     rw [hm] at d0 HT2 hj2
     clear hm
     go_wp2_with
      (at_builtin
       refine wpList_appl _ rfl (.tmp 36) (.tmp 41) _ rfl (base := wo.heap.size) elem_in inC_len inC_one rfl (Own.alloc HOwn2.out _) rfl (l2 := [m]) (Sl.lit (n := 1) (Blk.made rfl _ _) rfl (le_maxLen (by omega))) (by simp only [List.length_cons, List.length_nil]; omega) (by simp only [List.length_cons, List.length_nil]; omega) (by simp; omega) ?_
       intro v5 w5 ho5 hg5 hat5
       obtain ⟨A5, c5, hv5, -⟩ := Own.shape_ ho5
       rw [show (T ++ [m]).length = T.length + 1 by simp] at hv5
       subst hv5
       have HB5 := Lib.hid (Below.grown (Hb2.out.alloc hz2 _) hg5 (by simp; omega) (fun i hi => (HOwn2.out.lt i hi).1))
       have HO5 := Lib.hid ho5
       clear ho5 hg5 hat5)
     go_roundw
     case rel => (rw [show (T.length + 1) = (T ++ [m]).length by simp] at *; exact ⟨j + 1, T ++ [m], A5, c5, by omega, by go_num, rfl, HT2.out, by rw [List.length_append, List.length_singleton]; omega, HO5.out, HB5.out, all_succ (p := fun y => decide (y < n) = true) Hno.out hj1 Hz.out⟩)
     case measure => simp [intOf]; omega
    case neg =>
     have he : j = L.length ∨ ∃ hk : j < L.length, decide (L[j] < n) = false := by
      by_cases h1 : j < L.length
      ·
       right
       exact ⟨h1, decide_eq_false fun h2 => hgo ⟨h1, h2⟩⟩
      · left; omega
     obtain ⟨ht, -⟩ := tw_at (q := fun y => decide (y < n)) (fun i hi hij => Hno.out i hi hij) he
     have HTw := Lib.hid (show T = L.takeWhile (fun x => decide (x < n)) by rw [ht, HT.out])
     clear ht hgo
     rcases he with rfl | ⟨hj1, hj2⟩
     ·
      go_wp2_with fail
      go_meet
      case rel => exact ⟨T, A2, c2, rfl, HTw.out, by omega, HOwn2.out, Hb2.out⟩
     ·
      obtain ⟨b2, o2, rfl, hlb2, d0⟩ := (HRL.out.mono Hb2.out).int hj1
      have q2 : (j : Int) < L.length := by omega
      have q3 : ¬ L[j] < n := by simpa using hj2
      clear hj2
      go_wp2_with fail
      go_meet
      case rel => exact ⟨T, A2, c2, rfl, HTw.out, by omega, HOwn2.out, Hb2.out⟩
  case rest =>
   obtain ⟨T, A2, c2, rfl, hT, hTl, hown2, hb2⟩ := hcut
   have Hb2 := Lib.hid hb2; have HT := Lib.hid hT; have HOwn2 := Lib.hid hown2
   have hz2 := hb2.size
   clear hb2 hT hown2
   go_wp2_with
    (at_builtin
     refine wpList_appl _ rfl (.tmp 43) (.tmp 45) _ rfl (base := wo.heap.size) elem_in inC_len inC_one rfl (Own.alloc HOwn2.out _) rfl (l2 := [n]) (Sl.lit (n := 1) (Blk.made rfl _ _) rfl (le_maxLen (by omega))) (by simp only [List.length_cons, List.length_nil]; omega) (by simp only [List.length_cons, List.length_nil]; omega) (by simp; omega) ?_
     intro v5 w5 ho5 hg5 hat5
     obtain ⟨A5, c5, hv5, -⟩ := Own.shape_ ho5
     rw [show (T ++ [n]).length = T.length + 1 by simp] at hv5
     subst hv5
     have HB5 := Lib.hid (Below.grown (Hb2.out.alloc hz2 _) hg5 (by simp; omega) (fun i hi => (HOwn2.out.lt i hi).1))
     have HO5 := Lib.hid ho5
     clear ho5 hg5 hat5)
   rw [show (T.length + 1) = (T ++ [n]).length by simp] at *
   have hQl : (T ++ [n]).length ≤ 1001 := by rw [List.length_append, List.length_singleton]; omega
   obtain ⟨Q, hQ⟩ : ∃ Q, T ++ [n] = Q := ⟨_, rfl⟩
   rw [hQ] at HO5 hQl ⊢
   have HQ2 := Lib.hid hQ
   clear hQ
   go_loopw [6, 8] (fun s i wx => ∃ (j : Nat) (D : List Int) (A2 : Option Addr) (c2 : Nat), j ≤ L.length ∧ i = .int .i64 j ∧ s = .slice A2 D.length c2 ∧ D = Q ++ (L.take j).filter (fun x => decide (n < x)) ∧ D.length ≤ 1001 + j ∧ Own wx wo.heap.size 3 1 inC (.slice A2 D.length c2) D ∧ Below wo.heap.size wo wx) (fun _ i _ => L.length - (intOf i).toNat)
   case atStart => exact ⟨0, Q, A5, c5, Nat.zero_le _, rfl, rfl, by simp, hQl, HO5.out, HB5.out⟩
   case round =>
    obtain ⟨j, D, A3, c3, hj, rfl, rfl, hD, hDl, hown3, hb3⟩ := hrel
    have Hb3 := Lib.hid hb3; have HD := Lib.hid hD; have HOwn3 := Lib.hid hown3
    have hz3 := hb3.size
    clear hb3 hD hown3
    by_cases hj1 : j < L.length
    case pos =>
     obtain ⟨b2, o2, rfl, hlb2, d0⟩ := (HRL.out.mono Hb3.out).int hj1
     have q2 : (j : Int) < L.length := by omega
     have hst : (L.take (j + 1)).filter (fun x => decide (n < x)) = (L.take j).filter (fun x => decide (n < x)) ++ (if n < L[j] then [L[j]] else []) := by
      rw [take_snoc_ L hj1, List.filter_append]
      by_cases hz : n < L[j] <;> simp [hz]
     have HSt3 := Lib.hid hst
     obtain ⟨m, hm⟩ : ∃ m, L[j] = m := ⟨_, rfl⟩
     rw [hm] at d0 HSt3
     clear hm hst
     by_cases hz : n < m
     ·
      have HD2 := Lib.hid (show D ++ [m] = Q ++ (L.take (j + 1)).filter (fun x => decide (n < x)) by rw [HSt3.out, if_pos hz, HD.out, List.append_assoc])
      go_wp2_with
       (at_builtin
        refine wpList_appl _ rfl (.tmp 59) (.tmp 64) _ rfl (base := wo.heap.size) elem_in inC_len inC_one rfl (Own.alloc HOwn3.out _) rfl (l2 := [m]) (Sl.lit (n := 1) (Blk.made rfl _ _) rfl (le_maxLen (by omega))) (by simp only [List.length_cons, List.length_nil]; omega) (by simp only [List.length_cons, List.length_nil]; omega) (by simp; omega) ?_
        intro v6 w6 ho6 hg6 hat6
        obtain ⟨A6, c6, hv6, -⟩ := Own.shape_ ho6
        rw [show (D ++ [m]).length = D.length + 1 by simp] at hv6
        subst hv6
        have HB6 := Lib.hid (Below.grown (Hb3.out.alloc hz3 _) hg6 (by simp; omega) (fun i hi => (HOwn3.out.lt i hi).1))
        have HO6 := Lib.hid ho6
        clear ho6 hg6 hat6)
      go_roundw
      case rel => (rw [show (D.length + 1) = (D ++ [m]).length by simp] at *; exact ⟨j + 1, D ++ [m], A6, c6, by omega, by go_num, rfl, HD2.out, by rw [List.length_append, List.length_singleton]; omega, HO6.out, HB6.out⟩)
      case measure => simp [intOf]; omega
     ·
      have HD2 := Lib.hid (show D = Q ++ (L.take (j + 1)).filter (fun x => decide (n < x)) by rw [HSt3.out, if_neg hz, HD.out, List.append_nil])
      go_wp2_with fail
      go_roundw
      case rel => exact ⟨j + 1, D, A3, c3, by omega, by go_num, rfl, HD2.out, by omega, HOwn3.out, Hb3.out⟩
      case measure => simp [intOf]; omega
    case neg =>
     have HDi := Lib.hid (show D = insA L n by
      rw [HD.out, ← HQ2.out, List.take_of_length_le (by omega), HT.out]
      unfold insA
      rw [List.append_assoc, List.singleton_append])
     have hDl2 := Lib.hid (show D.length ≤ L.length + 1 by rw [HDi.out]; exact insA_len L n)
     go_wp2_with fail
     go_roundw
     case rel => exact ⟨k + 1, D, A3, c3, by omega, by go_num, rfl, by rw [HSt.out, HDi.out], by have := hDl2.out; omega, HOwn3.out.mono_base Hb.out.size, Hb.out.trans (Hb3.out.mono Hb.out.size)⟩
     case measure => simp [intOf]; omega
end Go.Proofs.YtfondidmklmonaaGreat
namespace Go.Proofs.YtfondidmklmonaaGreat
open Go.RowKit

theorem info_in : ∃ i, Tryz.prog.info? 3 = some i ∧ i.zero = some (.int .i64 0) ∧ i.size = 1 ∧ i.bytes = 8 := info_parts (by kernel_rfl)
set_option maxRecDepth 100000 in
set_option maxHeartbeats 1000000 in
theorem Grow_in_spec (n : Nat) (w : World) (h2 : n ≤ 2097152) :
  Calls Tryz.prog 142 #[.slice none 0 0, .int .i64 n] w fun e w' => ∃ A c, e = .returned (.slice A 0 c) ∧ Below w.heap.size w w' ∧ Own w' w.heap.size 3 1 inC (.slice A 0 c) [] := by
 rcases Nat.eq_zero_or_pos n with rfl | h1
 ·
  go_enter Tryz.func142, Tryz.ntmps142
  go_wp2_with fail
  go_ret
  exact ⟨none, 0, rfl, bR w, Own.nil _ _ _ _ _⟩
 obtain ⟨i, hi, hz, hs, hb⟩ := info_in
 have hr : ∀ ty, (Builtin.append_ #[24, 3] ty #[.slice none 0 0, .int .i64 n]).run Tryz.prog w = _ := fun ty =>
  Lib.run_append_grow_zeros w 24 3 ty 3 i _ .i64 .i64 Tryz.underlying24 Tryz.underlying3 hi hz none 0 0 [] (by simpa using run_firstCells_none (P := Tryz.prog) (w := w.drew) i.size 0 0 0) n (by omega) (by omega) (by omega) (by omega) (by rw [hb]; omega)
   (by rw [hb]; exact growslice_fits (by omega) (by omega))
 have hge := grownCap_ge w (0 + n) 0 3
 have hle := grownCap_le_maxLen w (0 + n) 0 3 (by unfold maxLen; omega)
 have hle' := hle
 unfold maxLen at hle'
 generalize hG : grownCap w (0 + n) 0 3 = G at *
 have HR := Lib.hid hr
 have Hle := Lib.hid hle
 clear hr hG hle hi hz hs hb
 simp only [Nat.zero_add] at HR
 have q1 : ¬ ((n : Int) < 0) := by omega
 have q2 : 0 < (n : Int) := by omega
 go_enter Tryz.func142, Tryz.ntmps142
 go_wp2_with (at_builtin; refine Lib.wpList_append_run _ rfl _ _ _ _ rfl _ _ rfl rfl _ _ (HR.out _) ?_)
 go_ret
 refine ⟨_, _, rfl, bA (bD (bR w)) _, ?_⟩
 refine ⟨rfl, .inr ⟨w.heap.size, _, _, rfl, Nat.le_refl _, heap_alloc_new _ _, Nat.zero_le _, Hle.out, ?_, by simp⟩⟩
 simp only [Array.size_append, List.size_toArray, List.length_nil, size_zeroCells]
 simp only [Value.cells, List.size_toArray, List.length_cons, List.length_nil]
 omega

set_option maxRecDepth 100000 in
set_option maxHeartbeats 1000000 in
/-- slices.Concat of one list -/
theorem Concat_in_spec (g c1 : Nat) (t : TypeId) (A : Option Addr) (c : Nat) (l : List Int) (w : World) (hv : Blk w g t #[.slice A l.length c]) (hp : Ints w (.slice A l.length c) l) (h2 : l.length ≤ 2097152) :
  Calls Tryz.prog 107 #[.slice (some ⟨g, 0, none⟩) 1 c1] w (RetIn w l) := by
 have HP := Lib.hid hp; clear hp
 have HX := Lib.hid hv
 have hX := hv
 obtain ⟨hXl, hXa, -⟩ := hX.facts1
 have HL := Lib.hid h2
 obtain ⟨N, hN⟩ : ∃ N, l.length = N := ⟨_, rfl⟩
 have HN := Lib.hid hN
 rw [hN] at hXa h2 HX HP
 clear hv hN hX
 unfold RetIn
 go_enter Tryz.func107, Tryz.ntmps107
 go_wp2_with fail
 go_loopw [3, 11] (fun s i wr => ∃ k : Nat, k ≤ 1 ∧ i = .int .i64 k ∧ s = .int .i64 ((k * N : Nat) : Int) ∧ wr = w) (fun _ i _ => 1 - (intOf i).toNat)
 case atStart => exact ⟨0, Nat.zero_le _, rfl, by simp, rfl⟩
 case round =>
  obtain ⟨k, hk, rfl, rfl, rfl⟩ := hrel
  rcases (by omega : k = 0 ∨ k = 1) with rfl | rfl
  ·
   simp only [Nat.zero_mul]
   go_wp2_with fail
   go_roundw
   case rel => exact ⟨1, by omega, by go_num, by simp, trivial⟩
   case measure => simp [intOf]
  simp only [Nat.one_mul]
  go_wp2_with fail
  refine (Grow_in_spec N _ h2).mono ?_
  rintro e w1 ⟨A1, c2, rfl, hb1, hown⟩
  have Hown := Lib.hid hown
  have Hb1 := Lib.hid hb1
  have hY := HX.out.keep hb1
  have HY := Lib.hid hY
  clear hown hb1 h2 hXl hXa hY
  obtain ⟨wo, rfl⟩ : ∃ wo : World, wo = wr := ⟨_, rfl⟩
  go_wp2_with fail
  go_loopw [6, 27] (fun s i wr => ∃ k : Nat, k ≤ 1 ∧ i = .int .i64 k ∧ Own wr wo.heap.size 3 1 inC s (if k = 0 then [] else l) ∧ Below wo.heap.size wo wr) (fun _ i _ => 1 - (intOf i).toNat)
  case atStart => exact ⟨0, Nat.zero_le _, rfl, Hown.out, Hb1.out⟩
  case round =>
   obtain ⟨k, hk, rfl, hown, hb⟩ := hrel
   have Hb := Lib.hid hb
   replace Hown := Lib.hid hown
   have hsz := hb.size
   clear hown
   rcases (by omega : k = 0 ∨ k = 1) with rfl | rfl
   ·
    have hX := HX.out.keep hb
    clear hb
    have ho0 := Hown.out
    rw [if_pos rfl] at ho0
    replace Hown := Lib.hid ho0
    clear ho0
    try clear hXl
    try clear hXa
    obtain ⟨hXl, hXa, -⟩ := hX.facts1
    go_wp2_with
     (at_builtin
      refine wpList_appl _ rfl (.tmp 31) (.tmp 32) _ rfl (base := wo.heap.size) elem_in inC_len inC_one rfl Hown.out rfl (l2 := l) (by have hp := HP.out.mono Hb.out; exact hp) (by have := HL.out; simp only [List.length_nil]; omega) (by have := HL.out; simp only [List.length_nil]; omega) hsz ?_
      intro v1 w1 hown1 hg hat
      have Bw1 := Lib.hid (show Below wo.heap.size wo w1 from bG Hb.out hg (fun g hk => (Hown.out.lt g hk).1))
      clear hg hat
      have Hown1 := Lib.hid hown1; clear hown1)
    go_roundw
    case rel => exact ⟨1, by omega, by go_num, by simpa using Hown1.out, Bw1.out⟩
    case measure => simp [intOf]
   ·
    clear hb
    have ho := Hown.out
    simp only [Nat.one_ne_zero, if_false] at ho
    obtain ⟨A3, c3, rfl, -⟩ := Own.shape_ ho
    replace Hown := Lib.hid ho
    clear ho
    go_wp2_with fail
    go_ret
    exact ⟨_, _, rfl, Hb.out, Hown.out⟩
end Go.Proofs.YtfondidmklmonaaGreat
namespace Go.Proofs.YtfondidmklmonaaGreat
open Go.RowKit

theorem flat_in (l : List Int) (j : Nat) : (l.flatMap inC)[j]? = (l[j]?).map (.int .i64 ·) := by
 induction l generalizing j with
 | nil => simp
 | cons a l ih =>
  rw [List.flatMap_cons]
  cases j with
  | zero => rfl
  | succ j =>
   show (.int .i64 a :: l.flatMap inC)[j + 1]? = _
   rw [List.getElem?_cons_succ, ih, List.getElem?_cons_succ]
theorem flat_in_len (l : List Int) : (l.flatMap inC).length = l.length := by
 have := flat_length inC 1 inC_len l
 omega
def RetSortIn (w : World) (base : Nat) (v : Value) (sl : List Int) (e : Ending) (w' : World) : Prop :=
 e = .returned (.tuple #[]) ∧ Own w' base 3 1 inC v sl ∧ w.grownBy w' v.ownBlock

end Go.Proofs.YtfondidmklmonaaGreat
namespace Go.Proofs.YtfondidmklmonaaGreat
open Go.RowKit Go.Sort

def ascL (l : List Int) : List Int := l.mergeSort fun x y => decide (x ≤ y)
theorem ascL_perm (l : List Int) : (ascL l).Perm l := List.mergeSort_perm _ _
theorem ascL_len (l : List Int) : (ascL l).length = l.length := (ascL_perm l).length_eq
theorem ascL_sorted (l : List Int) : (ascL l).Pairwise (· ≤ ·) := by
 have := List.pairwise_mergeSort (le := fun (x y : Int) => decide (x ≤ y)) (fun a b c h1 h2 => by simp only [decide_eq_true_eq] at *; omega) (fun a b => by simp only [Bool.or_eq_true, decide_eq_true_eq]; omega) l
 exact this.imp (fun h => by simpa using h)
theorem putRow_heap (w : World) (n : Nat) (blk off : Nat) (d : Array Int) (os : Array Obj) : (grow (putRow (Value.int .i64) (Sort.ahead w n) blk off d) os).heap = w.heap.modify blk (onCells (putCells (Value.int .i64) off d)) ++ os := rfl
theorem putRow_grown (w : World) (n : Nat) (blk off : Nat) (d : Array Int) (os : Array Obj) : w.grownBy (grow (putRow (Value.int .i64) (Sort.ahead w n) blk off d) os) (some blk) := by
 refine ⟨rfl, rfl, rfl, ?_, fun i hi hne => ?_⟩
 · rw [putRow_heap]; simp
 ·
  have hne' : blk ≠ i := fun e => hne (by rw [e])
  rw [putRow_heap, Array.getElem?_append_left (by simpa using hi), Array.getElem?_modify, if_neg hne']
set_option maxHeartbeats 1000000 in
theorem SortN_spec (base : Nat) (v : Value) (sl : List Int) (w : World) (hown : Own w base 3 1 inC v sl) (hn : sl.length ≤ 4294967296) :
  Calls Tryz.prog 108 #[v] w (RetSortIn w base v (ascL sl)) := by
 rcases sl with _ | ⟨s0, rest⟩
 ·
  have hv : ∃ p cap, v = .slice p 0 cap := by
   rcases hown.2 with ⟨h, _⟩ | ⟨g, cap, cur, h, _⟩
   · exact ⟨_, _, h⟩
   · exact ⟨_, _, h⟩
  obtain ⟨p, cap, rfl⟩ := hv
  refine Calls.mono (AnyM.slices_Sort_int_none Tryz.sortN p cap w) ?_
  rintro e w' ⟨rfl, rfl⟩
  exact ⟨rfl, by rw [show ascL [] = [] by simp [ascL]]; exact hown, World.grownBy.refl _ _⟩
 generalize hsl : s0 :: rest = sl at *
 have hpos : 0 < sl.length := by rw [← hsl]; simp
 obtain ⟨hlen, hown2⟩ := hown
 rcases hown2 with ⟨_, h0⟩ | ⟨g, cap, cur, rfl, hg, hh, hnc, hcm, hcs, hx⟩
 · omega
 have hcur : ∀ j, j < sl.length → cur[j]? = (sl[j]?).map (.int .i64 ·) := fun j hj => by
  rw [← flat_in, ← hx, List.getElem?_take, if_pos (by omega)]; simp
 have hH : Holds (Value.int .i64) w g 0 sl.toArray := fun j hj => by
  have hj' : j < sl.length := by simpa using hj
  refine ⟨?_, Blk.frozen (t := 3) (cs := cur) hh _⟩
  rw [cell_of_row w g _ cur 3 (0, 0) hh, Nat.zero_add, hcur j hj', getElem!_pos sl.toArray j hj, List.getElem?_eq_getElem hj']
  simp
 refine Calls.mono (AnyM.slices_Sort_int Tryz.sortN g 0 cap sl w hH (Blk.lt hh) (by omega)) ?_
 rintro e w' ⟨rfl, n, os, rfl⟩
 have hl' : (ascL sl).length = sl.length := ascL_len sl
 refine ⟨rfl, ?_, putRow_grown w n g 0 _ os⟩
 unfold Own
 rw [hl']
 refine ⟨by rw [flat_in_len, hl']; omega, .inr ⟨g, cap, putCells (Value.int .i64) 0 (ascL sl).toArray cur, rfl, hg, ?_, hnc, hcm, by simp [putCells, hcs], ?_⟩⟩
 ·
  have hgl : g < w.heap.size := Blk.lt hh
  show (grow (putRow (Value.int .i64) (Sort.ahead w n) g 0 (ascL sl).toArray) os).heap[g]? = _
  rw [putRow_heap, Array.getElem?_append_left (by simpa using hgl), Array.getElem?_modify, if_pos rfl, hh]
  rfl
 ·
  apply List.ext_getElem?
  intro j
  rw [List.getElem?_take]
  by_cases hj : j < sl.length * 1
  ·
   rw [if_pos hj]
   have hjc : j < cur.size := by rw [hcs]; omega
   have hjd : j < (ascL sl).length := by rw [hl']; omega
   rw [flat_in, List.getElem?_eq_getElem hjd]
   have e1 : (putCells (Value.int .i64) 0 (ascL sl).toArray cur).toList[j]? = some (.int .i64 (ascL sl).toArray[j]!) := by
    simp [putCells, hjc, hjd]
   rw [e1, getElem!_pos (ascL sl).toArray j (by simpa using hjd)]
   simp
  · rw [if_neg hj, List.getElem?_eq_none (by rw [flat_in_len, hl']; omega)]
end Go.Proofs.YtfondidmklmonaaGreat
