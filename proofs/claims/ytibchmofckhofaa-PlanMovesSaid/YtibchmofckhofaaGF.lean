/- plan.Same$1, slices.EqualFunc at arcs. plan.Same. -/
import Derived.Test.YtibchmofckhofaaPlanE
set_option linter.unusedSimpArgs false
set_option linter.unusedVariables false
namespace Go.Proofs.Ytibchmofckhofaa
open Go.RowKit

set_option maxHeartbeats 1000000 in
theorem Same1_spec (a b : Ar) (va vb : Value) (w : World) (ha : Pts w va a.via) (hb : Pts w vb b.via) :
    Calls Try.prog 49 #[arV a va, arV b vb] w fun e w' => e = .returned (.bool (decide (a = b))) ∧ Below w.heap.size w w' := by
  have TP : ∀ W, Below w.heap.size w W → Calls Try.prog 50 #[va, vb] W _ := fun W hW => Equal_pt_spec va vb a.via b.via W (ha.mono hW) (hb.mono hW)
  obtain ⟨A, c, rfl, -⟩ := ha
  obtain ⟨A', c', rfl, -⟩ := hb
  have HP := Lib.hid TP; clear TP
  generalize hl : a.via.length = l at *
  generalize hl' : b.via.length = l' at *
  have hx := @Ar.ext_iff' a b
  have Hx := Lib.hid hx; clear hx hl hl'
  unfold arV
  cases hid : (a.id == b.id)
  case false =>
    have hf := Lib.hid (decide_eq_false (fun e : a = b => by have := (Hx.out.1 e); simp_all) : decide (a = b) = false)
    go_enter Try.func49, Try.ntmps49
    go_wp2_with fail
    go_ret
    refine ⟨ret_bool hf.out.symm, ?_⟩
    repeat (first | with_reducible exact bR _ | with_reducible assumption | with_reducible refine bA ?_ _ | with_reducible refine bD ?_ | with_reducible refine bN ?_ _ | ((with_reducible refine bS ?_ ?_ _); rotate_left; (simp; try omega)) | ((with_reducible refine bT ?_ ?_); rotate_left; with_reducible assumption) | with_reducible refine bT ?_ (by assumption))
  case true =>
  cases hfr : (a.fr == b.fr)
  case false =>
    have hf := Lib.hid (decide_eq_false (fun e : a = b => by have := (Hx.out.1 e); simp_all) : decide (a = b) = false)
    go_enter Try.func49, Try.ntmps49
    go_wp2_with fail
    go_ret
    refine ⟨ret_bool hf.out.symm, ?_⟩
    repeat (first | with_reducible exact bR _ | with_reducible assumption | with_reducible refine bA ?_ _ | with_reducible refine bD ?_ | with_reducible refine bN ?_ _ | ((with_reducible refine bS ?_ ?_ _); rotate_left; (simp; try omega)) | ((with_reducible refine bT ?_ ?_); rotate_left; with_reducible assumption) | with_reducible refine bT ?_ (by assumption))
  case true =>
  cases hto : (a.dst == b.dst)
  case false =>
    have hf := Lib.hid (decide_eq_false (fun e : a = b => by have := (Hx.out.1 e); simp_all) : decide (a = b) = false)
    go_enter Try.func49, Try.ntmps49
    go_wp2_with fail
    go_ret
    refine ⟨ret_bool hf.out.symm, ?_⟩
    repeat (first | with_reducible exact bR _ | with_reducible assumption | with_reducible refine bA ?_ _ | with_reducible refine bD ?_ | with_reducible refine bN ?_ _ | ((with_reducible refine bS ?_ ?_ _); rotate_left; (simp; try omega)) | ((with_reducible refine bT ?_ ?_); rotate_left; with_reducible assumption) | with_reducible refine bT ?_ (by assumption))
  case true =>
  cases hleft : (a.left == b.left)
  case false =>
    have hf := Lib.hid (decide_eq_false (fun e : a = b => by have := (Hx.out.1 e); simp_all) : decide (a = b) = false)
    go_enter Try.func49, Try.ntmps49
    go_wp2_with fail
    go_ret
    refine ⟨ret_bool hf.out.symm, ?_⟩
    repeat (first | with_reducible exact bR _ | with_reducible assumption | with_reducible refine bA ?_ _ | with_reducible refine bD ?_ | with_reducible refine bN ?_ _ | ((with_reducible refine bS ?_ ?_ _); rotate_left; (simp; try omega)) | ((with_reducible refine bT ?_ ?_); rotate_left; with_reducible assumption) | with_reducible refine bT ?_ (by assumption))
  case true =>
  cases hright : (a.right == b.right)
  case false =>
    have hf := Lib.hid (decide_eq_false (fun e : a = b => by have := (Hx.out.1 e); simp_all) : decide (a = b) = false)
    go_enter Try.func49, Try.ntmps49
    go_wp2_with fail
    go_ret
    refine ⟨ret_bool hf.out.symm, ?_⟩
    repeat (first | with_reducible exact bR _ | with_reducible assumption | with_reducible refine bA ?_ _ | with_reducible refine bD ?_ | with_reducible refine bN ?_ _ | ((with_reducible refine bS ?_ ?_ _); rotate_left; (simp; try omega)) | ((with_reducible refine bT ?_ ?_); rotate_left; with_reducible assumption) | with_reducible refine bT ?_ (by assumption))
  case true =>
  cases hv : decide (a.via = b.via)
  all_goals
    have hf : decide (a = b) = decide (a.via = b.via) := by
      rw [Bool.eq_iff_iff, decide_eq_true_iff, decide_eq_true_iff, Hx.out]
      simp only [beq_iff_eq] at *
      constructor
      · intro h; exact h.2.2.2.2.2
      · intro h; exact ⟨by assumption, by assumption, by assumption, by assumption, by assumption, h⟩
    rw [hv] at hf
    have Hf := Lib.hid hf; clear hf
    go_enter Try.func49, Try.ntmps49
    go_wp2_with fail
    refine (HP.out _ (bA (bA (bR w) _) _)).mono ?_
    rintro e w1 ⟨rfl, hb1⟩
    rw [hv]
    go_wp2_with fail
    go_ret
    exact ⟨ret_bool Hf.out.symm, bT (bA (bA (bR w) _) _) hb1⟩


set_option maxRecDepth 100000 in
set_option maxHeartbeats 1000000 in
theorem EqualFunc_ar_spec (v u : Value) (l m : List (Ar × Value)) (w : World) (h : Ars w v l) (h' : Ars w u m) :
    Calls Try.prog 52 #[v, u, .func (.func 49) #[] #[]] w fun e w' => e = .returned (.bool (decide (l.map (·.1) = m.map (·.1)))) ∧ Below w.heap.size w w' := by
  obtain ⟨⟨A, c, rfl, hn, hc, hR⟩, hV⟩ := h
  obtain ⟨⟨A', c', rfl, hn', hc', hR'⟩, hV'⟩ := h'
  unfold maxLen at hc hc'
  have HV := Lib.hid hV; have HV' := Lib.hid hV'; have HR := Lib.hid hR; have HR' := Lib.hid hR'
  clear hV hV' hR hR'
  obtain ⟨q, hq⟩ : ∃ q, decide (l.map (·.1) = m.map (·.1)) = q := ⟨_, rfl⟩
  rw [hq]
  have Hq := Lib.hid hq; clear hq
  by_cases hlm : l.length = m.length
  case neg =>
    have hf := Lib.hid (show false = q by rw [← Hq.out, eq_comm, decide_eq_false_iff_not]; exact fun e => hlm (by simpa using congrArg List.length e))
    have hne : ((l.length : Int) != (m.length : Int)) = true := by simp; omega
    clear hlm
    go_enter Try.func52, Try.ntmps52
    go_wp2_with fail
    go_ret
    exact ⟨ret_bool hf.out, bR w⟩
  have hne : ((l.length : Int) != (m.length : Int)) = false := by simp; omega
  have Hlm := Lib.hid hlm
  have hle : l.length ≤ m.length := by omega
  clear hlm
  go_enter Try.func52, Try.ntmps52
  go_wp2_with fail
  go_loopw [17] (fun s wr => ∃ k : Nat, k ≤ l.length ∧ s = .int .i64 k ∧ Below w.heap.size w wr ∧ ∀ j (hj : j < l.length) (hj' : j < m.length), j < k → l[j].1 = m[j].1) (fun s _ => l.length - (intOf s).toNat)
  case atStart => exact ⟨0, Nat.zero_le _, rfl, bR w, fun _ _ _ h => by omega⟩
  case round =>
    obtain ⟨k, hk, rfl, hb, hno⟩ := hrel
    have Hb := Lib.hid hb
    have Hno := Lib.hid hno
    clear hb hno
    by_cases hlt : k < l.length
    case neg =>
      have hf := Lib.hid (show true = q by
        rw [← Hq.out, eq_comm, decide_eq_true_iff]
        refine List.ext_getElem (by simpa using Hlm.out) fun i h1 h2 => ?_
        simp only [List.getElem_map]
        exact Hno.out i (by simpa using h1) (by simpa using h2) (by rw [List.length_map] at h1; omega))
      go_wp2_with fail
      go_ret
      exact ⟨ret_bool hf.out, Hb.out⟩
    have hlt' : k < m.length := by omega
    obtain ⟨b, o, rfl, hlb, c0, c1, c2, c3, c4, c5⟩ := (HR.out.mono Hb.out).ar hlt
    obtain ⟨b', o', rfl, hlb', d0, d1, d2, d3, d4, d5⟩ := (HR'.out.mono Hb.out).ar hlt'
    have v1 := HV.out k hlt
    have v2 := HV'.out k hlt'
    obtain ⟨Av, cv, hv, -⟩ := HV.out k hlt
    obtain ⟨Av', cv', hv', -⟩ := HV'.out k hlt'
    have T1 : ∀ W, Below w.heap.size w W → Calls Try.prog 49 #[arV l[k].1 l[k].2, arV m[k].1 m[k].2] W _ := fun W hW => Same1_spec l[k].1 m[k].1 l[k].2 m[k].2 W (v1.mono hW) (v2.mono hW)
    unfold arV at T1
    rw [hv, hv'] at T1
    rw [hv] at c3
    rw [hv'] at d3
    have HT := Lib.hid T1
    have r1 : 0 ≤ (k : Int) := by omega
    have r2 : (k : Int) < m.length := by omega
    clear v1 v2 hv hv' T1
    go_wp2_with fail
    refine (HT.out _ (bA (bA Hb.out _) _)).mono ?_
    rintro e w2 ⟨rfl, hb2⟩
    have B2 := bT (bA (bA Hb.out _) _) hb2
    cases he : decide (l[k].1 = m[k].1)
    case false =>
      have hf := Lib.hid (show false = q by
        rw [← Hq.out, eq_comm, decide_eq_false_iff_not]
        intro e
        have := congrArg (fun x : List Ar => x[k]?) e
        simp [hlt, hlt'] at this
        exact of_decide_eq_false he this)
      clear he
      go_wp2_with fail
      go_ret
      exact ⟨ret_bool hf.out, B2⟩
    case true =>
      have hg := Lib.hid (of_decide_eq_true he)
      clear he
      go_wp2_with fail
      go_roundw
      case rel => exact ⟨k + 1, by omega, by go_num, B2, fun j hj hj' hjk => if e : j < k then Hno.out j hj hj' e else by
          have : j = k := by omega
          subst this; exact hg.out⟩
      case measure => simp [intOf]; omega
end Go.Proofs.Ytibchmofckhofaa
namespace Go.Proofs.Ytibchmofckhofaa
open Go.RowKit

def sameS (a b : Pl) : Bool := decide (a.nodes = b.nodes) && decide (a.arcs = b.arcs) && decide (a.faces = b.faces)
set_option maxRecDepth 100000 in
set_option maxHeartbeats 1000000 in
theorem Same_spec (v u : Value) (a b : Pl) (w : World) (ha : PlV w v a) (hb : PlV w u b) :
    Calls Try.prog 30 #[v, u] w fun e w' => e = .returned (.bool (sameS a b)) ∧ Below w.heap.size w w' := by
  obtain ⟨vn, va, vf, al, rfl, hpa, h1, h2, h3⟩ := ha
  obtain ⟨un, ua, uf, bl, rfl, hpb, k1, k2, k3⟩ := hb
  have TN : ∀ W, Below w.heap.size w W → Calls Try.prog 51 #[vn, un] W _ := fun W hW => Equal_nd_spec vn un a.nodes b.nodes W (h1.mono hW) (k1.mono hW)
  have TA : ∀ W, Below w.heap.size w W → Calls Try.prog 52 #[va, ua, .func (.func 49) #[] #[]] W _ := fun W hW => EqualFunc_ar_spec va ua al bl W (h2.mono hW) (k2.mono hW)
  have TF : ∀ W, Below w.heap.size w W → Calls Try.prog 53 #[vf, uf] W _ := fun W hW => Equal_int_spec vf uf a.faces b.faces W (h3.mono hW) (k3.mono hW)
  rw [← hpa, ← hpb] at TA
  have HN := Lib.hid TN; have HA := Lib.hid TA; have HF := Lib.hid TF
  obtain ⟨q, hq⟩ : ∃ q, sameS a b = q := ⟨_, rfl⟩
  rw [hq]
  unfold sameS at hq
  have Hq := Lib.hid hq
  obtain ⟨An, cn, rfl, -⟩ := h1
  obtain ⟨⟨Aa, ca, rfl, -⟩, -⟩ := h2
  obtain ⟨Af, cf, rfl, -⟩ := h3
  obtain ⟨Bn, dn, rfl, -⟩ := k1
  obtain ⟨⟨Ba, da, rfl, -⟩, -⟩ := k2
  obtain ⟨Bf, df, rfl, -⟩ := k3
  generalize a.nodes.length = x1 at *
  generalize al.length = x2 at *
  generalize a.faces.length = x3 at *
  generalize b.nodes.length = y1 at *
  generalize bl.length = y2 at *
  generalize b.faces.length = y3 at *
  clear TN TA TF hq hpa hpb
  go_enter Try.func30, Try.ntmps30
  go_wp2_with fail
  refine (HN.out _ (bA (bA (bR w) _) _)).mono ?_
  rintro e w1 ⟨rfl, hb1⟩
  have Bw : Below w.heap.size w w1 := by
    repeat (first | with_reducible exact bR _ | with_reducible assumption | with_reducible refine bA ?_ _ | with_reducible refine bD ?_ | with_reducible refine bN ?_ _ | ((with_reducible refine bS ?_ ?_ _); rotate_left; (simp; try omega)) | ((with_reducible refine bT ?_ ?_); rotate_left; with_reducible assumption) | with_reducible refine bT ?_ (by assumption))
  have X2 : Blk _ (w.heap.size) 26 #[.slice An x1 cn, .slice Aa x2 ca, .slice Af x3 cf] := Blk.keep (by repeat (first | exact Blk.made (by simp) _ _ | refine Blk.alloc ?_ _)) hb1
  have X3 : Blk _ (w.heap.size + 1) 26 #[.slice Bn y1 dn, .slice Ba y2 da, .slice Bf y3 df] := Blk.keep (by repeat (first | exact Blk.made (by simp) _ _ | refine Blk.alloc ?_ _)) hb1
  clear hb1
  try clear X2l
  try clear X2a
  try clear X2b
  try clear X2c
  try clear X2fa
  try clear X2fb
  try clear X2fc
  obtain ⟨X2l, X2a, X2b, X2c, -, -, -⟩ := X2.facts3
  try clear X3l
  try clear X3a
  try clear X3b
  try clear X3c
  try clear X3fa
  try clear X3fb
  try clear X3fc
  obtain ⟨X3l, X3a, X3b, X3c, -, -, -⟩ := X3.facts3
  cases e1 : decide (a.nodes = b.nodes)
  case false =>
    have hf := Lib.hid (show false = q by rw [← Hq.out, e1]; rfl)
    clear e1
    go_wp2_with fail
    go_ret
    exact ⟨ret_bool hf.out, Bw⟩
  have E1 := Lib.hid e1; clear e1
  go_wp2_with fail
  refine (HA.out _ Bw).mono ?_
  rintro e w2 ⟨rfl, hb2⟩
  replace Bw := bT Bw hb2
  replace X2 := X2.keep hb2
  replace X3 := X3.keep hb2
  clear hb2
  try clear X2l
  try clear X2a
  try clear X2b
  try clear X2c
  try clear X2fa
  try clear X2fb
  try clear X2fc
  try clear X3l
  try clear X3a
  try clear X3b
  try clear X3c
  try clear X3fa
  try clear X3fb
  try clear X3fc
  try clear X2l
  try clear X2a
  try clear X2b
  try clear X2c
  try clear X2fa
  try clear X2fb
  try clear X2fc
  obtain ⟨X2l, X2a, X2b, X2c, -, -, -⟩ := X2.facts3
  try clear X3l
  try clear X3a
  try clear X3b
  try clear X3c
  try clear X3fa
  try clear X3fb
  try clear X3fc
  obtain ⟨X3l, X3a, X3b, X3c, -, -, -⟩ := X3.facts3
  cases e2 : decide (a.arcs = b.arcs)
  case false =>
    have hf := Lib.hid (show false = q by rw [← Hq.out, E1.out, e2]; rfl)
    clear e2
    go_wp2_with fail
    go_ret
    exact ⟨ret_bool hf.out, Bw⟩
  have E2 := Lib.hid e2; clear e2
  go_wp2_with fail
  refine (HF.out _ Bw).mono ?_
  rintro e w3 ⟨rfl, hb3⟩
  have hf := Lib.hid (show decide (a.faces = b.faces) = q by rw [← Hq.out, E1.out, E2.out]; rfl)
  go_wp2_with fail
  go_ret
  exact ⟨ret_bool hf.out, bT Bw hb3⟩
end Go.Proofs.Ytibchmofckhofaa
