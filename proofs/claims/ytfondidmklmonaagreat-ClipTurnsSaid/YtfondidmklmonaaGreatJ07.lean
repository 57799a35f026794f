/- Small tests of lists: ascending (both), SamePath, Few. Lists compared: mapsheetsref14.SamePath, slices.Equal (points, nodes, ints). mapsheetsref14.SameArc, Face, limits. Searching lists: slices.Index and Contains (ints), IndexFunc and ContainsFunc (ints, points); plan.numbered; mapsheetsref14.Valid. -/
import Derived.Test.YtfondidmklmonaaGreatJ03
import Derived.Test.YtfondidmklmonaaGreatGB
set_option linter.unusedSimpArgs false
set_option linter.unusedVariables false
namespace Go.Proofs.YtfondidmklmonaaGreat
open Go.RowKit

def asc (l : List Int) : Bool := (List.range (l.length - 1)).all fun j => decide (l.getD j 0 < l.getD (j + 1) 0)
theorem asc_yes (l : List Int) (h : ∀ j (hj : j + 1 < l.length), l[j] < l[j + 1]) : asc l = true := by
 unfold asc
 rw [List.all_eq_true]
 intro j hj
 have hj' : j + 1 < l.length := by have := List.mem_range.1 hj; omega
 have := h j hj'
 simp [List.getD, List.getElem?_eq_getElem hj', List.getElem?_eq_getElem (show j < l.length by omega), this]
theorem asc_no (l : List Int) (j : Nat) (hj : j + 1 < l.length) (h : ¬ l[j] < l[j + 1]) : asc l = false := by
 unfold asc
 rw [List.all_eq_false]
 refine ⟨j, List.mem_range.2 (by omega), ?_⟩
 simp [List.getD, List.getElem?_eq_getElem hj, List.getElem?_eq_getElem (show j < l.length by omega)]
 omega

set_option maxHeartbeats 400000 in
theorem ascending_spec (v : Value) (l : List Int) (w : World) (h : Ints w v l) :
  Calls Tryz.prog 51 #[v] w fun e w' => e = .returned (.bool (asc l)) ∧ Below w.heap.size w w' := by
 obtain ⟨A, c, rfl, hn, hc, hR⟩ := h
 unfold maxLen at hc
 go_enter Tryz.func51, Tryz.ntmps51
 go_wp2_with fail
 go_loopw [3] (fun i wr => ∃ m : Nat, i = .int .i64 ((m : Int) + 1) ∧ (m = 0 ∨ m + 1 ≤ l.length) ∧ Below w.heap.size w wr ∧ ∀ j (hj : j + 1 < l.length), j < m → l[j] < l[j + 1]) (fun i _ => l.length + 1 - (intOf i).toNat)
 case atStart => exact ⟨0, rfl, .inl rfl, bR w, fun j _ h => by omega⟩
 case round =>
  obtain ⟨m, rfl, hm, hb, hno⟩ := hrel
  have Hb := Lib.hid hb
  have Hno := Lib.hid hno
  clear hb hno
  by_cases hlt : m + 1 < l.length
  ·
   obtain ⟨b, o, rfl, hlb, c1⟩ := (hR.mono Hb.out).int hlt
   obtain ⟨b', o', e, hlb', c0⟩ := (hR.mono Hb.out).int (show m < l.length by omega)
   simp only [Option.some.injEq, Addr.mk.injEq, and_true] at e
   obtain ⟨rfl, rfl⟩ := e
   have HR := Lib.hid hR; clear hR hm
   have q1 : IntKind.i64.wrap (m : Int) = m := IntWalk.i64_in _ (by omega)
   have q2 : 0 ≤ (m : Int) := by omega
   have q3 : (m : Int) < l.length := by omega
   have q4 : (m : Int) + 1 < l.length := by omega
   have q5 : 0 ≤ (m : Int) + 1 := by omega
   have q6 : ((m : Int) + 1).toNat = m + 1 := by omega
   go_upto_region 4 with fail
   refine rg_start (Since wr) (.run 10 0 0 (.done)) (by kernel_rfl) (bD (bR _)) (by kernel_rfl) (by kernel_rfl) (Nat.le_of_ble_eq_true (by kernel_rfl)) ?_
   intro opsR QR Hops HQrg hS
   iterate 10
    apply rg_p; exact Hops; exact rfl; exact hS; exact rfl
    · intro _ hqc; go_simp; try rfl
    try simp only [pu]
   refine rg_done ?_
   refine HQrg.down _ _ ?_
   have hB : Below wr.heap.size wr wr.drew := hS
   clear hS HQrg Hops
   have Bw : Below w.heap.size w wr.drew := bT Hb.out hB
   clear hB
   by_cases hlt2 : l[m] < l[m + 1]
   ·
    go_wp2_with fail
    go_roundw
    case rel => exact ⟨m + 1, by go_num, .inr (by omega), Bw, fun j hj hjm => if e : j < m then Hno.out j hj e else by
      have : j = m := by omega
      subst this; exact hlt2⟩
    case measure => simp [intOf]; omega
   ·
    have hf := Lib.hid (asc_no l m hlt hlt2)
    go_wp2_with fail
    go_ret
    exact ⟨ret_bool hf.out.symm, Bw⟩
  ·
   have hf := Lib.hid (asc_yes l fun j hj => Hno.out j hj (by omega))
   go_wp2_with fail
   go_ret
   exact ⟨ret_bool hf.out.symm, Hb.out⟩
end Go.Proofs.YtfondidmklmonaaGreat
namespace Go.Proofs.YtfondidmklmonaaGreat
open Go.RowKit

theorem eq_of_all {α : Type} {a b : List α} (hl : a.length = b.length) (h : ∀ j (hj : j < a.length), a[j] = b[j]) : a = b :=
 List.ext_getElem hl fun j h1 _ => h j h1
theorem ne_of_at {α : Type} {a b : List α} (j : Nat) (hj : j < a.length) (hj' : j < b.length) (h : ¬ a[j] = b[j]) : ¬ a = b := by
 rintro rfl; exact h rfl

set_option maxHeartbeats 400000 in
theorem SamePath_spec (v u : Value) (l m : List Pt) (w : World) (h : Pts w v l) (h' : Pts w u m) :
  Calls Tryz.prog 28 #[v, u] w fun e w' => e = .returned (.bool (decide (l = m))) ∧ Below w.heap.size w w' := by
 obtain ⟨A, c, rfl, hn, hc, hR⟩ := h
 obtain ⟨A', c', rfl, hn', hc', hR'⟩ := h'
 unfold maxLen at hc hc'
 by_cases hlen : l.length = m.length
 case neg =>
  have hf := Lib.hid (decide_eq_false (fun e : l = m => hlen (congrArg List.length e)))
  have hl1 : ((l.length : Int) != (m.length : Int)) = true := by rw [bne_iff_ne]; omega
  have hl2 : (l.length != m.length) = true := by rw [bne_iff_ne]; omega
  clear hlen
  go_enter Tryz.func28, Tryz.ntmps28
  go_wp2_with fail
  go_ret
  exact ⟨ret_bool hf.out.symm, bR w⟩
 case pos =>
 have hl1 : ((l.length : Int) != (m.length : Int)) = false := by simp [hlen]
 have hl2 : (l.length != m.length) = false := by simp [hlen]
 have Hlen := Lib.hid hlen; clear hlen
 go_enter Tryz.func28, Tryz.ntmps28
 go_wp2_with fail
 go_loopw [5] (fun i wr => ∃ k : Nat, k ≤ l.length ∧ i = .int .i64 k ∧ Below w.heap.size w wr ∧ ∀ j (hj : j < l.length) (hj' : j < m.length), j < k → l[j] = m[j]) (fun i _ => l.length - (intOf i).toNat)
 case atStart => exact ⟨0, Nat.zero_le _, rfl, bR w, fun j _ _ h => by omega⟩
 case round =>
  obtain ⟨k, hk, rfl, hb, hno⟩ := hrel
  have Hb := Lib.hid hb
  have Hno := Lib.hid hno
  clear hb hno hl1 hl2
  by_cases hlt : k < l.length
  ·
   have hlt' : k < m.length := by have := Hlen.out; omega
   obtain ⟨b, o, rfl, hlb, c0, c1⟩ := (hR.mono Hb.out).pt hlt
   obtain ⟨b', o', rfl, hlb', c0q, c1q⟩ := (hR'.mono Hb.out).pt hlt'
   have HR := Lib.hid hR; have HR' := Lib.hid hR'; clear hR hR'
   have q1 : 0 ≤ (k : Int) := by omega
   have q2 : (k : Int) < l.length := by omega
   have q3 : (k : Int) < m.length := by omega
   by_cases he : l[k] = m[k]
   ·
    have hd : decide (l[k] = m[k]) = true := by simpa using he
    have He := Lib.hid he; clear he
    have hE := run_neq_pt l[k] m[k]
    go_upto_region 6 with fail
    refine rg_start (Since wr) (.run 9 0 0 (.done)) (by kernel_rfl) (bD (bR _)) (by kernel_rfl) (by kernel_rfl) (Nat.le_of_ble_eq_true (by kernel_rfl)) ?_
    intro opsR QR Hops HQrg hS
    iterate 9
     apply rg_p; exact Hops; exact rfl; exact hS; exact rfl
     · intro _ hqc; go_simp; try rfl
     try simp only [pu]
    refine rg_done ?_
    refine HQrg.down _ _ ?_
    have hB : Below wr.heap.size wr wr.drew := hS
    clear hS HQrg Hops
    have Bw : Below w.heap.size w wr.drew := bT Hb.out hB
    clear hB
    go_wp2_with fail
    go_roundw
    case rel => exact ⟨k + 1, by omega, by go_num, Bw, fun j hj hj' hjk => if e : j < k then Hno.out j hj hj' e else by
      have : j = k := by omega
      subst this; exact He.out⟩
    case measure => simp [intOf]; omega
   ·
    have hd : decide (l[k] = m[k]) = false := by simpa using he
    have He := Lib.hid he; clear he
    have hE := run_neq_pt l[k] m[k]
    go_upto_region 6 with fail
    refine rg_start (Since wr) (.run 9 0 0 (.done)) (by kernel_rfl) (bD (bR _)) (by kernel_rfl) (by kernel_rfl) (Nat.le_of_ble_eq_true (by kernel_rfl)) ?_
    intro opsR QR Hops HQrg hS
    iterate 9
     apply rg_p; exact Hops; exact rfl; exact hS; exact rfl
     · intro _ hqc; go_simp; try rfl
     try simp only [pu]
    refine rg_done ?_
    refine HQrg.down _ _ ?_
    have hB : Below wr.heap.size wr wr.drew := hS
    clear hS HQrg Hops
    have Bw : Below w.heap.size w wr.drew := bT Hb.out hB
    clear hB
    go_wp2_with fail
    go_ret
    exact ⟨ret_bool (decide_eq_false (ne_of_at k hlt hlt' He.out)).symm, Bw⟩
  ·
   have hf := Lib.hid (decide_eq_true (eq_of_all Hlen.out fun j hj => Hno.out j hj (by have := Hlen.out; omega) (by omega)))
   go_wp2_with fail
   go_ret
   exact ⟨ret_bool hf.out.symm, Hb.out⟩

set_option maxHeartbeats 400000 in
theorem Equal_pt_spec (v u : Value) (l m : List Pt) (w : World) (h : Pts w v l) (h' : Pts w u m) :
  Calls Tryz.prog 42 #[v, u] w fun e w' => e = .returned (.bool (decide (l = m))) ∧ Below w.heap.size w w' := by
 obtain ⟨A, c, rfl, hn, hc, hR⟩ := h
 obtain ⟨A', c', rfl, hn', hc', hR'⟩ := h'
 unfold maxLen at hc hc'
 by_cases hlen : l.length = m.length
 case neg =>
  have hf := Lib.hid (decide_eq_false (fun e : l = m => hlen (congrArg List.length e)))
  have hl1 : ((l.length : Int) != (m.length : Int)) = true := by rw [bne_iff_ne]; omega
  have hl2 : (l.length != m.length) = true := by rw [bne_iff_ne]; omega
  clear hlen
  go_enter Tryz.func42, Tryz.ntmps42
  go_wp2_with fail
  go_ret
  exact ⟨ret_bool hf.out.symm, bR w⟩
 case pos =>
 have hl1 : ((l.length : Int) != (m.length : Int)) = false := by simp [hlen]
 have hl2 : (l.length != m.length) = false := by simp [hlen]
 have Hlen := Lib.hid hlen; clear hlen
 go_enter Tryz.func42, Tryz.ntmps42
 go_wp2_with fail
 go_loopw [13] (fun i wr => ∃ k : Nat, k ≤ l.length ∧ i = .int .i64 k ∧ Below w.heap.size w wr ∧ ∀ j (hj : j < l.length) (hj' : j < m.length), j < k → l[j] = m[j]) (fun i _ => l.length - (intOf i).toNat)
 case atStart => exact ⟨0, Nat.zero_le _, rfl, bR w, fun j _ _ h => by omega⟩
 case round =>
  obtain ⟨k, hk, rfl, hb, hno⟩ := hrel
  have Hb := Lib.hid hb
  have Hno := Lib.hid hno
  clear hb hno hl1 hl2
  by_cases hlt : k < l.length
  ·
   have hlt' : k < m.length := by have := Hlen.out; omega
   obtain ⟨b, o, rfl, hlb, c0, c1⟩ := (hR.mono Hb.out).pt hlt
   obtain ⟨b', o', rfl, hlb', c0q, c1q⟩ := (hR'.mono Hb.out).pt hlt'
   have HR := Lib.hid hR; have HR' := Lib.hid hR'; clear hR hR'
   have q1 : 0 ≤ (k : Int) := by omega
   have q2 : (k : Int) < l.length := by omega
   have q3 : (k : Int) < m.length := by omega
   by_cases he : l[k] = m[k]
   ·
    have hd : decide (l[k] = m[k]) = true := by simpa using he
    have He := Lib.hid he; clear he
    have hE := run_neq_pt l[k] m[k]
    go_upto_region 6 with fail
    refine rg_start (Since wr) (.run 9 0 0 (.done)) (by kernel_rfl) (bD (bR _)) (by kernel_rfl) (by kernel_rfl) (Nat.le_of_ble_eq_true (by kernel_rfl)) ?_
    intro opsR QR Hops HQrg hS
    iterate 9
     apply rg_p; exact Hops; exact rfl; exact hS; exact rfl
     · intro _ hqc; go_simp; try rfl
     try simp only [pu]
    refine rg_done ?_
    refine HQrg.down _ _ ?_
    have hB : Below wr.heap.size wr wr.drew := hS
    clear hS HQrg Hops
    have Bw : Below w.heap.size w wr.drew := bT Hb.out hB
    clear hB
    go_wp2_with fail
    go_roundw
    case rel => exact ⟨k + 1, by omega, by go_num, Bw, fun j hj hj' hjk => if e : j < k then Hno.out j hj hj' e else by
      have : j = k := by omega
      subst this; exact He.out⟩
    case measure => simp [intOf]; omega
   ·
    have hd : decide (l[k] = m[k]) = false := by simpa using he
    have He := Lib.hid he; clear he
    have hE := run_neq_pt l[k] m[k]
    go_upto_region 6 with fail
    refine rg_start (Since wr) (.run 9 0 0 (.done)) (by kernel_rfl) (bD (bR _)) (by kernel_rfl) (by kernel_rfl) (Nat.le_of_ble_eq_true (by kernel_rfl)) ?_
    intro opsR QR Hops HQrg hS
    iterate 9
     apply rg_p; exact Hops; exact rfl; exact hS; exact rfl
     · intro _ hqc; go_simp; try rfl
     try simp only [pu]
    refine rg_done ?_
    refine HQrg.down _ _ ?_
    have hB : Below wr.heap.size wr wr.drew := hS
    clear hS HQrg Hops
    have Bw : Below w.heap.size w wr.drew := bT Hb.out hB
    clear hB
    go_wp2_with fail
    go_ret
    exact ⟨ret_bool (decide_eq_false (ne_of_at k hlt hlt' He.out)).symm, Bw⟩
  ·
   have hf := Lib.hid (decide_eq_true (eq_of_all Hlen.out fun j hj => Hno.out j hj (by have := Hlen.out; omega) (by omega)))
   go_wp2_with fail
   go_ret
   exact ⟨ret_bool hf.out.symm, Hb.out⟩

set_option maxHeartbeats 400000 in
theorem Equal_nd_spec (v u : Value) (l m : List Nd) (w : World) (h : Nds w v l) (h' : Nds w u m) :
  Calls Tryz.prog 44 #[v, u] w fun e w' => e = .returned (.bool (decide (l = m))) ∧ Below w.heap.size w w' := by
 obtain ⟨A, c, rfl, hn, hc, hR⟩ := h
 obtain ⟨A', c', rfl, hn', hc', hR'⟩ := h'
 unfold maxLen at hc hc'
 by_cases hlen : l.length = m.length
 case neg =>
  have hf := Lib.hid (decide_eq_false (fun e : l = m => hlen (congrArg List.length e)))
  have hl1 : ((l.length : Int) != (m.length : Int)) = true := by rw [bne_iff_ne]; omega
  have hl2 : (l.length != m.length) = true := by rw [bne_iff_ne]; omega
  clear hlen
  go_enter Tryz.func44, Tryz.ntmps44
  go_wp2_with fail
  go_ret
  exact ⟨ret_bool hf.out.symm, bR w⟩
 case pos =>
 have hl1 : ((l.length : Int) != (m.length : Int)) = false := by simp [hlen]
 have hl2 : (l.length != m.length) = false := by simp [hlen]
 have Hlen := Lib.hid hlen; clear hlen
 go_enter Tryz.func44, Tryz.ntmps44
 go_wp2_with fail
 go_loopw [13] (fun i wr => ∃ k : Nat, k ≤ l.length ∧ i = .int .i64 k ∧ Below w.heap.size w wr ∧ ∀ j (hj : j < l.length) (hj' : j < m.length), j < k → l[j] = m[j]) (fun i _ => l.length - (intOf i).toNat)
 case atStart => exact ⟨0, Nat.zero_le _, rfl, bR w, fun j _ _ h => by omega⟩
 case round =>
  obtain ⟨k, hk, rfl, hb, hno⟩ := hrel
  have Hb := Lib.hid hb
  have Hno := Lib.hid hno
  clear hb hno hl1 hl2
  by_cases hlt : k < l.length
  ·
   have hlt' : k < m.length := by have := Hlen.out; omega
   obtain ⟨b, o, rfl, hlb, c0, c1, c2⟩ := (hR.mono Hb.out).nd hlt
   obtain ⟨b', o', rfl, hlb', c0q, c1q, c2q⟩ := (hR'.mono Hb.out).nd hlt'
   have HR := Lib.hid hR; have HR' := Lib.hid hR'; clear hR hR'
   have q1 : 0 ≤ (k : Int) := by omega
   have q2 : (k : Int) < l.length := by omega
   have q3 : (k : Int) < m.length := by omega
   by_cases he : l[k] = m[k]
   ·
    have hd : decide (l[k] = m[k]) = true := by simpa using he
    have He := Lib.hid he; clear he
    have hE := run_neq_nd l[k] m[k]
    go_upto_region 6 with fail
    refine rg_start (Since wr) (.run 9 0 0 (.done)) (by kernel_rfl) (bD (bR _)) (by kernel_rfl) (by kernel_rfl) (Nat.le_of_ble_eq_true (by kernel_rfl)) ?_
    intro opsR QR Hops HQrg hS
    iterate 9
     apply rg_p; exact Hops; exact rfl; exact hS; exact rfl
     · intro _ hqc; go_simp; try rfl
     try simp only [pu]
    refine rg_done ?_
    refine HQrg.down _ _ ?_
    have hB : Below wr.heap.size wr wr.drew := hS
    clear hS HQrg Hops
    have Bw : Below w.heap.size w wr.drew := bT Hb.out hB
    clear hB
    go_wp2_with fail
    go_roundw
    case rel => exact ⟨k + 1, by omega, by go_num, Bw, fun j hj hj' hjk => if e : j < k then Hno.out j hj hj' e else by
      have : j = k := by omega
      subst this; exact He.out⟩
    case measure => simp [intOf]; omega
   ·
    have hd : decide (l[k] = m[k]) = false := by simpa using he
    have He := Lib.hid he; clear he
    have hE := run_neq_nd l[k] m[k]
    go_upto_region 6 with fail
    refine rg_start (Since wr) (.run 9 0 0 (.done)) (by kernel_rfl) (bD (bR _)) (by kernel_rfl) (by kernel_rfl) (Nat.le_of_ble_eq_true (by kernel_rfl)) ?_
    intro opsR QR Hops HQrg hS
    iterate 9
     apply rg_p; exact Hops; exact rfl; exact hS; exact rfl
     · intro _ hqc; go_simp; try rfl
     try simp only [pu]
    refine rg_done ?_
    refine HQrg.down _ _ ?_
    have hB : Below wr.heap.size wr wr.drew := hS
    clear hS HQrg Hops
    have Bw : Below w.heap.size w wr.drew := bT Hb.out hB
    clear hB
    go_wp2_with fail
    go_ret
    exact ⟨ret_bool (decide_eq_false (ne_of_at k hlt hlt' He.out)).symm, Bw⟩
  ·
   have hf := Lib.hid (decide_eq_true (eq_of_all Hlen.out fun j hj => Hno.out j hj (by have := Hlen.out; omega) (by omega)))
   go_wp2_with fail
   go_ret
   exact ⟨ret_bool hf.out.symm, Hb.out⟩

end Go.Proofs.YtfondidmklmonaaGreat
namespace Go.Proofs.YtfondidmklmonaaGreat
open Go.RowKit

theorem Ar.ext_iff' {a b : Ar} : a = b ↔ a.id = b.id ∧ a.fr = b.fr ∧ a.dst = b.dst ∧ a.left = b.left ∧ a.right = b.right ∧ a.via = b.via := by
 cases a; cases b; simp; intros; constructor <;> (rintro ⟨h1, h2, h3⟩; exact ⟨by assumption, by assumption, by assumption⟩)

theorem any_hit {α : Type} (l : List α) (q : α → Bool) (k : Nat) (hk : k < l.length) (h : q l[k] = true) : l.any q = true := List.any_eq_true.2 ⟨l[k], List.getElem_mem hk, h⟩
theorem any_miss {α : Type} (l : List α) (q : α → Bool) (h : ∀ j (hj : j < l.length), q l[j] = false) : l.any q = false := by
 rw [List.any_eq_false]
 intro x hx
 obtain ⟨i, hi, rfl⟩ := List.mem_iff_getElem.1 hx
 simp [h i hi]

def faceS (l : List Int) (n : Int) : Bool := l.any (fun x => x == n) || n == 0

def limS (p : Pl) : Bool := p.arcs.any (fun a => decide (64 < a.via.length)) || (decide (256 < p.nodes.length) || decide (256 < p.arcs.length) || decide (64 < p.faces.length))

end Go.Proofs.YtfondidmklmonaaGreat
namespace Go.Proofs.YtfondidmklmonaaGreat
open Go.RowKit

/-- An index that is 0 or more just where an element meets the test. -/
def IdxRes (w : World) (b : Bool) (e : Ending) (w' : World) : Prop := ∃ r : Int, e = .returned (.int .i64 r) ∧ decide (0 ≤ r) = b ∧ Below w.heap.size w w'

set_option maxHeartbeats 400000 in
theorem Index_int_spec (v : Value) (l : List Int) (x : Int) (w : World) (h : Ints w v l) :
  Calls Tryz.prog 112 #[v, .int .i64 x] w (IdxRes w (l.any fun y => y == x)) := by
 obtain ⟨A, c, rfl, hn, hc, hR⟩ := h
 unfold maxLen at hc
 go_enter Tryz.func112, Tryz.ntmps112
 go_wp2_with fail
 go_loopw [8] (fun i wr => ∃ k : Nat, k ≤ l.length ∧ i = .int .i64 k ∧ Below w.heap.size w wr ∧ ∀ j (hj : j < l.length), j < k → (fun y => y == x) l[j] = false) (fun i _ => l.length - (intOf i).toNat)
 case atStart => exact ⟨0, Nat.zero_le _, rfl, bR w, fun j _ h => by omega⟩
 case round =>
  obtain ⟨k, hk, rfl, hb, hno⟩ := hrel
  have Hb := Lib.hid hb
  have Hno := Lib.hid hno
  clear hb hno
  by_cases hlt : k < l.length
  ·
   obtain ⟨b, o, rfl, hlb, c0⟩ := (hR.mono Hb.out).int hlt
   have HR := Lib.hid hR; clear hR
   cases he : (l[k] == x)
   ·
    go_wp2_with fail
    go_roundw
    case rel => exact ⟨k + 1, by omega, by go_num, Hb.out, all_succ (p := fun y => (fun y => y == x) y = false) Hno.out hlt he⟩
    case measure => simp [intOf]; omega
   ·
    have hf := Lib.hid (any_hit l (fun y => y == x) k hlt he)
    have he2 : (x == l[k]) = true := by simpa using (beq_iff_eq.1 he).symm
    go_wp2_with fail
    go_ret
    exact ⟨k, rfl, by rw [hf.out]; simp, Hb.out⟩
  ·
   have hf := Lib.hid (any_miss l (fun y => y == x) (fun j hj => Hno.out j hj (by omega)))
   go_wp2_with fail
   go_ret
   exact ⟨-1, rfl, by rw [hf.out]; simp, Hb.out⟩

set_option maxHeartbeats 400000 in
theorem IndexFunc_numbered_spec (v : Value) (l : List Int) (p : Int → Bool) (w : World) (h : Ints w v l)
  (hg : ∀ y W, Calls Tryz.prog 75 #[(.int .i64 y)] W fun e w' => e = .returned (.bool (p y)) ∧ Below W.heap.size W w') :
  Calls Tryz.prog 110 #[v, .func (.func 75) #[] #[]] w (IdxRes w (l.any p)) := by
 obtain ⟨A, c, rfl, hn, hc, hR⟩ := h
 unfold maxLen at hc
 have HG := Lib.hid hg; clear hg
 go_enter Tryz.func110, Tryz.ntmps110
 go_wp2_with fail
 go_loopw [8] (fun i wr => ∃ k : Nat, k ≤ l.length ∧ i = .int .i64 k ∧ Below w.heap.size w wr ∧ ∀ j (hj : j < l.length), j < k → (p) l[j] = false) (fun i _ => l.length - (intOf i).toNat)
 case atStart => exact ⟨0, Nat.zero_le _, rfl, bR w, fun j _ h => by omega⟩
 case round =>
  obtain ⟨k, hk, rfl, hb, hno⟩ := hrel
  have Hb := Lib.hid hb
  have Hno := Lib.hid hno
  clear hb hno
  by_cases hlt : k < l.length
  ·
   obtain ⟨b, o, rfl, hlb, c0⟩ := (hR.mono Hb.out).int hlt
   have HR := Lib.hid hR; clear hR
   go_wp2_with fail
   refine (HG.out l[k] _).mono ?_
   rintro e w1 ⟨rfl, hb1⟩
   have Bw : Below w.heap.size w w1 := bT Hb.out hb1
   clear hb1
   cases he : p l[k]
   ·
    go_wp2_with fail
    go_roundw
    case rel => exact ⟨k + 1, by omega, by go_num, Bw, all_succ (p := fun y => (p) y = false) Hno.out hlt he⟩
    case measure => simp [intOf]; omega
   ·
    have hf := Lib.hid (any_hit l (p) k hlt he)
    go_wp2_with fail
    go_ret
    exact ⟨k, rfl, by rw [hf.out]; simp, Bw⟩
  ·
   have hf := Lib.hid (any_miss l (p) (fun j hj => Hno.out j hj (by omega)))
   go_wp2_with fail
   go_ret
   exact ⟨-1, rfl, by rw [hf.out]; simp, Hb.out⟩

set_option maxHeartbeats 400000 in
theorem ContainsFunc_numbered_spec (v : Value) (l : List Int) (p : Int → Bool) (w : World) (h : Ints w v l)
  (hg : ∀ y W, Calls Tryz.prog 75 #[(.int .i64 y)] W fun e w' => e = .returned (.bool (p y)) ∧ Below W.heap.size W w') :
  Calls Tryz.prog 74 #[v, .func (.func 75) #[] #[]] w fun e w' => e = .returned (.bool (l.any p)) ∧ Below w.heap.size w w' := by
 have T := IndexFunc_numbered_spec v l p w h hg
 have HT := Lib.hid T; clear T hg h
 go_enter Tryz.func74, Tryz.ntmps74
 go_wp2_with fail
 refine HT.out.mono ?_
 rintro e w1 ⟨r, rfl, hr, hb1⟩
 have Hr := Lib.hid hr; clear hr
 go_wp2_with fail
 go_ret
 exact ⟨ret_bool Hr.out, hb1⟩

set_option maxHeartbeats 400000 in
theorem IndexFunc_placed_spec (v : Value) (l : List Pt) (p : Pt → Bool) (w : World) (h : Pts w v l)
  (hg : ∀ y W, Calls Tryz.prog 76 #[(.agg #[.int .i64 y.x, .int .i64 y.y])] W fun e w' => e = .returned (.bool (p y)) ∧ Below W.heap.size W w') :
  Calls Tryz.prog 111 #[v, .func (.func 76) #[] #[]] w (IdxRes w (l.any p)) := by
 obtain ⟨A, c, rfl, hn, hc, hR⟩ := h
 unfold maxLen at hc
 have HG := Lib.hid hg; clear hg
 go_enter Tryz.func111, Tryz.ntmps111
 go_wp2_with fail
 go_loopw [8] (fun i wr => ∃ k : Nat, k ≤ l.length ∧ i = .int .i64 k ∧ Below w.heap.size w wr ∧ ∀ j (hj : j < l.length), j < k → (p) l[j] = false) (fun i _ => l.length - (intOf i).toNat)
 case atStart => exact ⟨0, Nat.zero_le _, rfl, bR w, fun j _ h => by omega⟩
 case round =>
  obtain ⟨k, hk, rfl, hb, hno⟩ := hrel
  have Hb := Lib.hid hb
  have Hno := Lib.hid hno
  clear hb hno
  by_cases hlt : k < l.length
  ·
   obtain ⟨b, o, rfl, hlb, c0, c1⟩ := (hR.mono Hb.out).pt hlt
   have HR := Lib.hid hR; clear hR
   go_wp2_with fail
   refine (HG.out l[k] _).mono ?_
   rintro e w1 ⟨rfl, hb1⟩
   have Bw : Below w.heap.size w w1 := bT Hb.out hb1
   clear hb1
   cases he : p l[k]
   ·
    go_wp2_with fail
    go_roundw
    case rel => exact ⟨k + 1, by omega, by go_num, Bw, all_succ (p := fun y => (p) y = false) Hno.out hlt he⟩
    case measure => simp [intOf]; omega
   ·
    have hf := Lib.hid (any_hit l (p) k hlt he)
    go_wp2_with fail
    go_ret
    exact ⟨k, rfl, by rw [hf.out]; simp, Bw⟩
  ·
   have hf := Lib.hid (any_miss l (p) (fun j hj => Hno.out j hj (by omega)))
   go_wp2_with fail
   go_ret
   exact ⟨-1, rfl, by rw [hf.out]; simp, Hb.out⟩

set_option maxHeartbeats 400000 in
theorem ContainsFunc_placed_spec (v : Value) (l : List Pt) (p : Pt → Bool) (w : World) (h : Pts w v l)
  (hg : ∀ y W, Calls Tryz.prog 76 #[(.agg #[.int .i64 y.x, .int .i64 y.y])] W fun e w' => e = .returned (.bool (p y)) ∧ Below W.heap.size W w') :
  Calls Tryz.prog 77 #[v, .func (.func 76) #[] #[]] w fun e w' => e = .returned (.bool (l.any p)) ∧ Below w.heap.size w w' := by
 have T := IndexFunc_placed_spec v l p w h hg
 have HT := Lib.hid T; clear T hg h
 go_enter Tryz.func77, Tryz.ntmps77
 go_wp2_with fail
 refine HT.out.mono ?_
 rintro e w1 ⟨r, rfl, hr, hb1⟩
 have Hr := Lib.hid hr; clear hr
 go_wp2_with fail
 go_ret
 exact ⟨ret_bool Hr.out, hb1⟩

set_option maxHeartbeats 400000 in
theorem Contains_int_spec (v : Value) (l : List Int) (x : Int) (w : World) (h : Ints w v l) :
  Calls Tryz.prog 78 #[v, .int .i64 x] w fun e w' => e = .returned (.bool (l.any (fun y => y == x))) ∧ Below w.heap.size w w' := by
 have T := Index_int_spec v l x w h
 have HT := Lib.hid T; clear T h
 go_enter Tryz.func78, Tryz.ntmps78
 go_wp2_with fail
 refine HT.out.mono ?_
 rintro e w1 ⟨r, rfl, hr, hb1⟩
 have Hr := Lib.hid hr; clear hr
 go_wp2_with fail
 go_ret
 exact ⟨ret_bool Hr.out, hb1⟩

def idBad (n : Int) : Bool := decide (n < 1) || decide (1073741824 < n)
set_option maxHeartbeats 400000 in
theorem idBad_spec (n : Int) (w : World) : Calls Tryz.prog 75 #[.int .i64 n] w fun e w' => e = .returned (.bool (idBad n)) ∧ Below w.heap.size w w' := by
 by_cases h : n < 1
 ·
  go_enter Tryz.func75, Tryz.ntmps75
  go_wp2_with fail
  go_ret
  exact ⟨ret_bool (by simp [idBad, h]), bR w⟩
 ·
  have h' : decide (n < 1) = false := by simpa using h
  go_enter Tryz.func75, Tryz.ntmps75
  go_wp2_with fail
  go_ret
  exact ⟨ret_bool (by simp only [idBad, h', Bool.false_or]), bR w⟩
set_option maxHeartbeats 400000 in
theorem numbered_spec (v : Value) (l : List Int) (w : World) (h : Ints w v l) :
  Calls Tryz.prog 52 #[v] w fun e w' => e = .returned (.bool (!l.any idBad)) ∧ Below w.heap.size w w' := by
 have T := ContainsFunc_numbered_spec v l idBad w h (fun y W => idBad_spec y W)
 have HT := Lib.hid T; clear T h
 go_enter Tryz.func52, Tryz.ntmps52
 go_wp2_with fail
 refine HT.out.mono ?_
 rintro e w1 ⟨rfl, hb1⟩
 go_wp2_with fail
 go_ret
 exact ⟨ret_bool rfl, hb1⟩

def ptOk (p : Pt) : Bool := decide (-1048576 ≤ p.x) && decide (p.x ≤ 1048576) && decide (-1048576 ≤ p.y) && decide (p.y ≤ 1048576)
end Go.Proofs.YtfondidmklmonaaGreat
