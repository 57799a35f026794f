/- mapsheetsref14.SameArc, Face, limits. -/
import Derived.Test.YtibchmofckhofaaEqual
set_option linter.unusedSimpArgs false
set_option linter.unusedVariables false
namespace Go.Proofs.Ytibchmofckhofaa
open Go.RowKit

theorem Ar.ext_iff' {a b : Ar} : a = b ↔ a.id = b.id ∧ a.fr = b.fr ∧ a.dst = b.dst ∧ a.left = b.left ∧ a.right = b.right ∧ a.via = b.via := by
  cases a; cases b; simp; intros; constructor <;> (rintro ⟨h1, h2, h3⟩; exact ⟨by assumption, by assumption, by assumption⟩)

set_option maxHeartbeats 1000000 in
theorem SameArc_spec (a b : Ar) (va vb : Value) (w : World) (ha : Pts w va a.via) (hb : Pts w vb b.via) :
    Calls Try.prog 17 #[arV a va, arV b vb] w fun e w' => e = .returned (.bool (decide (a = b))) ∧ Below w.heap.size w w' := by
  have TP : ∀ W, Below w.heap.size w W → Calls Try.prog 18 #[va, vb] W _ := fun W hW => SamePath_spec va vb a.via b.via W (ha.mono hW) (hb.mono hW)
  obtain ⟨A, c, rfl, -⟩ := ha
  obtain ⟨A', c', rfl, -⟩ := hb
  have HP := Lib.hid TP; clear TP
  generalize hl : a.via.length = l at *
  generalize hl' : b.via.length = l' at *
  have hx := @Ar.ext_iff' a b
  have Hx := Lib.hid hx; clear hx hl hl'
  unfold arV
  cases hid : (a.id == b.id)
  case false =>
    have hf := Lib.hid (decide_eq_false (fun e : a = b => by have := (Hx.out.1 e); simp_all) : decide (a = b) = false)
    go_enter Try.func17, Try.ntmps17
    go_wp2_with fail
    go_ret
    refine ⟨ret_bool hf.out.symm, ?_⟩
    repeat (first | with_reducible exact bR _ | with_reducible assumption | with_reducible refine bA ?_ _ | with_reducible refine bD ?_ | with_reducible refine bN ?_ _ | ((with_reducible refine bS ?_ ?_ _); rotate_left; (simp; try omega)) | ((with_reducible refine bT ?_ ?_); rotate_left; with_reducible assumption) | with_reducible refine bT ?_ (by assumption))
  case true =>
  cases hfr : (a.fr == b.fr)
  case false =>
    have hf := Lib.hid (decide_eq_false (fun e : a = b => by have := (Hx.out.1 e); simp_all) : decide (a = b) = false)
    go_enter Try.func17, Try.ntmps17
    go_wp2_with fail
    go_ret
    refine ⟨ret_bool hf.out.symm, ?_⟩
    repeat (first | with_reducible exact bR _ | with_reducible assumption | with_reducible refine bA ?_ _ | with_reducible refine bD ?_ | with_reducible refine bN ?_ _ | ((with_reducible refine bS ?_ ?_ _); rotate_left; (simp; try omega)) | ((with_reducible refine bT ?_ ?_); rotate_left; with_reducible assumption) | with_reducible refine bT ?_ (by assumption))
  case true =>
  cases hto : (a.dst == b.dst)
  case false =>
    have hf := Lib.hid (decide_eq_false (fun e : a = b => by have := (Hx.out.1 e); simp_all) : decide (a = b) = false)
    go_enter Try.func17, Try.ntmps17
    go_wp2_with fail
    go_ret
    refine ⟨ret_bool hf.out.symm, ?_⟩
    repeat (first | with_reducible exact bR _ | with_reducible assumption | with_reducible refine bA ?_ _ | with_reducible refine bD ?_ | with_reducible refine bN ?_ _ | ((with_reducible refine bS ?_ ?_ _); rotate_left; (simp; try omega)) | ((with_reducible refine bT ?_ ?_); rotate_left; with_reducible assumption) | with_reducible refine bT ?_ (by assumption))
  case true =>
  cases hleft : (a.left == b.left)
  case false =>
    have hf := Lib.hid (decide_eq_false (fun e : a = b => by have := (Hx.out.1 e); simp_all) : decide (a = b) = false)
    go_enter Try.func17, Try.ntmps17
    go_wp2_with fail
    go_ret
    refine ⟨ret_bool hf.out.symm, ?_⟩
    repeat (first | with_reducible exact bR _ | with_reducible assumption | with_reducible refine bA ?_ _ | with_reducible refine bD ?_ | with_reducible refine bN ?_ _ | ((with_reducible refine bS ?_ ?_ _); rotate_left; (simp; try omega)) | ((with_reducible refine bT ?_ ?_); rotate_left; with_reducible assumption) | with_reducible refine bT ?_ (by assumption))
  case true =>
  cases hright : (a.right == b.right)
  case false =>
    have hf := Lib.hid (decide_eq_false (fun e : a = b => by have := (Hx.out.1 e); simp_all) : decide (a = b) = false)
    go_enter Try.func17, Try.ntmps17
    go_wp2_with fail
    go_ret
    refine ⟨ret_bool hf.out.symm, ?_⟩
    repeat (first | with_reducible exact bR _ | with_reducible assumption | with_reducible refine bA ?_ _ | with_reducible refine bD ?_ | with_reducible refine bN ?_ _ | ((with_reducible refine bS ?_ ?_ _); rotate_left; (simp; try omega)) | ((with_reducible refine bT ?_ ?_); rotate_left; with_reducible assumption) | with_reducible refine bT ?_ (by assumption))
  case true =>
  cases hv : decide (a.via = b.via)
  all_goals
    have hf : decide (a = b) = decide (a.via = b.via) := by
      rw [Bool.eq_iff_iff, decide_eq_true_iff, decide_eq_true_iff, Hx.out]
      simp only [beq_iff_eq] at *
      constructor
      · intro h; exact h.2.2.2.2.2
      · intro h; exact ⟨by assumption, by assumption, by assumption, by assumption, by assumption, h⟩
    rw [hv] at hf
    have Hf := Lib.hid hf; clear hf
    go_enter Try.func17, Try.ntmps17
    go_wp2_with fail
    refine (HP.out _ (bA (bA (bR w) _) _)).mono ?_
    rintro e w1 ⟨rfl, hb1⟩
    rw [hv]
    go_wp2_with fail
    go_ret
    exact ⟨ret_bool Hf.out.symm, bT (bA (bA (bR w) _) _) hb1⟩

theorem any_hit {α : Type} (l : List α) (q : α → Bool) (k : Nat) (hk : k < l.length) (h : q l[k] = true) : l.any q = true := List.any_eq_true.2 ⟨l[k], List.getElem_mem hk, h⟩
theorem any_miss {α : Type} (l : List α) (q : α → Bool) (h : ∀ j (hj : j < l.length), q l[j] = false) : l.any q = false := by
  rw [List.any_eq_false]
  intro x hx
  obtain ⟨i, hi, rfl⟩ := List.mem_iff_getElem.1 hx
  simp [h i hi]

def faceS (l : List Int) (n : Int) : Bool := l.any (fun x => x == n) || n == 0

set_option maxHeartbeats 400000 in
theorem Face_spec (v : Value) (p : Pl) (n : Int) (w : World) (h : PlV w v p) :
    Calls Try.prog 45 #[v, .int .i64 n] w fun e w' => e = .returned (.bool (faceS p.faces n)) ∧ Below w.heap.size w w' := by
  obtain ⟨vn, va, _, al, rfl, hpa, -, -, ⟨Af, cf, rfl, hn1, hn2, hR⟩⟩ := h
  unfold maxLen at hn2
  generalize p.faces = l at *
  clear hpa
  go_enter Try.func45, Try.ntmps45
  go_wp2_with fail
  go_loopw [5] (fun i wr => ∃ k : Nat, k ≤ l.length ∧ i = .int .i64 k ∧ Below w.heap.size w wr ∧ Blk wr w.heap.size 26 #[vn, va, .slice Af l.length cf] ∧ ∀ j (hj : j < l.length), j < k → (l[j] == n) = false) (fun i _ => l.length - (intOf i).toNat)
  case atStart => exact ⟨0, Nat.zero_le _, rfl, bA (bR w) _, Blk.made rfl _ _, fun j _ h => by omega⟩
  case round =>
    obtain ⟨k, hk, rfl, hb, X2, hno⟩ := hrel
    have Hb := Lib.hid hb
    have Hno := Lib.hid hno
    clear hb hno
    try clear X2l
    try clear X2a
    try clear X2b
    try clear X2c
    try clear X2fa
    try clear X2fb
    try clear X2fc
    obtain ⟨X2l, X2a, X2b, X2c, -, -, -⟩ := X2.facts3
    by_cases hlt : k < l.length
    · obtain ⟨b, o, rfl, hlb, c0⟩ := (hR.mono Hb.out).int hlt
      have HR := Lib.hid hR; clear hR
      cases he : (l[k] == n)
      · go_wp2_with fail
        go_roundw
        case rel => exact ⟨k + 1, by omega, by go_num, Hb.out, X2, all_succ (p := fun x => (x == n) = false) Hno.out hlt he⟩
        case measure => simp [intOf]; omega
      · have hf := Lib.hid (any_hit l (fun x => x == n) k hlt he)
        go_wp2_with fail
        go_ret
        exact ⟨ret_bool (by rw [faceS, hf.out]; rfl), Hb.out⟩
    · have hf := Lib.hid (any_miss l (fun x => x == n) (fun j hj => Hno.out j hj (by omega)))
      go_wp2_with fail
      go_ret
      exact ⟨ret_bool (by rw [faceS, hf.out]; simp), Hb.out⟩

def limS (p : Pl) : Bool := p.arcs.any (fun a => decide (64 < a.via.length)) || (decide (256 < p.nodes.length) || decide (256 < p.arcs.length) || decide (64 < p.faces.length))

set_option maxHeartbeats 400000 in
theorem limits_spec (v : Value) (p : Pl) (w : World) (h : PlV w v p) :
    Calls Try.prog 40 #[v] w fun e w' => e = .returned (.bool (limS p)) ∧ Below w.heap.size w w' := by
  obtain ⟨_, _, _, al, rfl, hpa, ⟨An, cn, rfl, hn1, hn2, -⟩, ⟨⟨Aa, ca, rfl, ha1, ha2, hR⟩, hV⟩, ⟨Af, cf, rfl, hf1, hf2, -⟩⟩ := h
  unfold maxLen at hn2 ha2 hf2
  have hS : limS p = (al.any (fun a => decide (64 < a.1.via.length)) || (decide (256 < p.nodes.length) || decide (256 < al.length) || decide (64 < p.faces.length))) := by
    rw [limS, hpa, List.any_map, List.length_map]; rfl
  rw [hS]
  clear hS hpa
  generalize p.nodes.length = nn at *
  generalize p.faces.length = nf at *
  have HV := Lib.hid hV; clear hV
  go_enter Try.func40, Try.ntmps40
  go_wp2_with fail
  go_loopw [3] (fun i wr => ∃ k : Nat, k ≤ al.length ∧ i = .int .i64 k ∧ Below w.heap.size w wr ∧ Blk wr w.heap.size 26 #[.slice An nn cn, .slice Aa al.length ca, .slice Af nf cf] ∧ ∀ j (hj : j < al.length), j < k → decide (64 < al[j].1.via.length) = false) (fun i _ => al.length - (intOf i).toNat)
  case atStart => exact ⟨0, Nat.zero_le _, rfl, bA (bR w) _, Blk.made rfl _ _, fun j _ h => by omega⟩
  case round =>
    obtain ⟨k, hk, rfl, hb, X2, hno⟩ := hrel
    have Hb := Lib.hid hb
    have Hno := Lib.hid hno
    clear hb hno
    try clear X2l
    try clear X2a
    try clear X2b
    try clear X2c
    try clear X2fa
    try clear X2fb
    try clear X2fc
    obtain ⟨X2l, X2a, X2b, X2c, -, -, -⟩ := X2.facts3
    by_cases hlt : k < al.length
    · obtain ⟨b, o, rfl, hlb, c0, c1, c2, c3, c4, c5⟩ := (hR.mono Hb.out).ar hlt
      have HR := Lib.hid hR; clear hR
      obtain ⟨Av, cv, hv, hvc, hvm, -⟩ := HV.out k hlt
      rw [hv] at c3
      clear hv
      unfold maxLen at hvm
      by_cases he : 64 < al[k].1.via.length
      · have hf := Lib.hid (any_hit al (fun a => decide (64 < a.1.via.length)) k hlt (decide_eq_true he))
        go_wp2_with fail
        go_ret
        exact ⟨ret_bool (by rw [hf.out]; rfl), Hb.out⟩
      · have he' := Lib.hid (decide_eq_false he)
        go_wp2_with fail
        go_roundw
        case rel => exact ⟨k + 1, by omega, by go_num, Hb.out, X2, all_succ (p := fun x => decide (64 < x.1.via.length) = false) Hno.out hlt he'.out⟩
        case measure => simp [intOf]; omega
    · have hf := Lib.hid (any_miss al (fun a => decide (64 < a.1.via.length)) (fun j hj => Hno.out j hj (by omega)))
      go_wp2_with fail
      all_goals
        go_ret
        refine ⟨ret_bool (by rw [hf.out, Bool.eq_iff_iff]; simp only [Bool.false_or, Bool.or_eq_true, decide_eq_true_eq, true_iff, Bool.false_eq_true, false_iff]; omega), Hb.out⟩
end Go.Proofs.Ytibchmofckhofaa
