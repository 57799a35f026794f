/- mapsheetsref14.SameArc, Face, limits. Searching lists: slices.Index and Contains (ints), IndexFunc and ContainsFunc (ints, points); plan.numbered; mapsheetsref14.Valid. -/
import Derived.Test.YtbjlnnfmcjbnhaaGreatDoorJ03
set_option linter.unusedSimpArgs false
set_option linter.unusedVariables false
namespace Go.Proofs.YtbjlnnfmcjbnhaaGreatDoor
open Go.RowKit

theorem Ar.ext_iff' {a b : Ar} : a = b ↔ a.id = b.id ∧ a.fr = b.fr ∧ a.dst = b.dst ∧ a.left = b.left ∧ a.right = b.right ∧ a.via = b.via := by
  cases a; cases b; simp; intros; constructor <;> (rintro ⟨h1, h2, h3⟩; exact ⟨by assumption, by assumption, by assumption⟩)

theorem any_hit {α : Type} (l : List α) (q : α → Bool) (k : Nat) (hk : k < l.length) (h : q l[k] = true) : l.any q = true := List.any_eq_true.2 ⟨l[k], List.getElem_mem hk, h⟩
theorem any_miss {α : Type} (l : List α) (q : α → Bool) (h : ∀ j (hj : j < l.length), q l[j] = false) : l.any q = false := by
  rw [List.any_eq_false]
  intro x hx
  obtain ⟨i, hi, rfl⟩ := List.mem_iff_getElem.1 hx
  simp [h i hi]

def faceS (l : List Int) (n : Int) : Bool := l.any (fun x => x == n) || n == 0

set_option maxHeartbeats 400000 in
theorem Face_spec (v : Value) (p : Pl) (n : Int) (w : World) (h : PlV w v p) :
    Calls Tryz.prog 58 #[v, .int .i64 n] w fun e w' => e = .returned (.bool (faceS p.faces n)) ∧ Below w.heap.size w w' := by
  obtain ⟨vn, va, _, al, rfl, hpa, -, -, ⟨Af, cf, rfl, hn1, hn2, hR⟩⟩ := h
  unfold maxLen at hn2
  generalize p.faces = l at *
  clear hpa
  go_enter Tryz.func58, Tryz.ntmps58
  go_wp2_with fail
  go_loopw [5] (fun i wr => ∃ k : Nat, k ≤ l.length ∧ i = .int .i64 k ∧ Below w.heap.size w wr ∧ Blk wr w.heap.size 40 #[vn, va, .slice Af l.length cf] ∧ ∀ j (hj : j < l.length), j < k → (l[j] == n) = false) (fun i _ => l.length - (intOf i).toNat)
  case atStart => exact ⟨0, Nat.zero_le _, rfl, bA (bR w) _, Blk.made rfl _ _, fun j _ h => by omega⟩
  case round =>
    obtain ⟨k, hk, rfl, hb, X2, hno⟩ := hrel
    have Hb := Lib.hid hb
    have Hno := Lib.hid hno
    clear hb hno
    try clear X2l
    try clear X2a
    try clear X2b
    try clear X2c
    try clear X2fa
    try clear X2fb
    try clear X2fc
    obtain ⟨X2l, X2a, X2b, X2c, -, -, -⟩ := X2.facts3
    by_cases hlt : k < l.length
    · obtain ⟨b, o, rfl, hlb, c0⟩ := (hR.mono Hb.out).int hlt
      have HR := Lib.hid hR; clear hR
      cases he : (l[k] == n)
      · go_wp2_with fail
        go_roundw
        case rel => exact ⟨k + 1, by omega, by go_num, Hb.out, X2, all_succ (p := fun x => (x == n) = false) Hno.out hlt he⟩
        case measure => simp [intOf]; omega
      · have hf := Lib.hid (any_hit l (fun x => x == n) k hlt he)
        go_wp2_with fail
        go_ret
        exact ⟨ret_bool (by rw [faceS, hf.out]; rfl), Hb.out⟩
    · have hf := Lib.hid (any_miss l (fun x => x == n) (fun j hj => Hno.out j hj (by omega)))
      go_wp2_with fail
      go_ret
      exact ⟨ret_bool (by rw [faceS, hf.out]; simp), Hb.out⟩

def limS (p : Pl) : Bool := p.arcs.any (fun a => decide (64 < a.via.length)) || (decide (256 < p.nodes.length) || decide (256 < p.arcs.length) || decide (64 < p.faces.length))

set_option maxHeartbeats 400000 in
theorem limits_spec (v : Value) (p : Pl) (w : World) (h : PlV w v p) :
    Calls Tryz.prog 52 #[v] w fun e w' => e = .returned (.bool (limS p)) ∧ Below w.heap.size w w' := by
  obtain ⟨_, _, _, al, rfl, hpa, ⟨An, cn, rfl, hn1, hn2, -⟩, ⟨⟨Aa, ca, rfl, ha1, ha2, hR⟩, hV⟩, ⟨Af, cf, rfl, hf1, hf2, -⟩⟩ := h
  unfold maxLen at hn2 ha2 hf2
  have hS : limS p = (al.any (fun a => decide (64 < a.1.via.length)) || (decide (256 < p.nodes.length) || decide (256 < al.length) || decide (64 < p.faces.length))) := by
    rw [limS, hpa, List.any_map, List.length_map]; rfl
  rw [hS]
  clear hS hpa
  generalize p.nodes.length = nn at *
  generalize p.faces.length = nf at *
  have HV := Lib.hid hV; clear hV
  go_enter Tryz.func52, Tryz.ntmps52
  go_wp2_with fail
  go_loopw [3] (fun i wr => ∃ k : Nat, k ≤ al.length ∧ i = .int .i64 k ∧ Below w.heap.size w wr ∧ Blk wr w.heap.size 40 #[.slice An nn cn, .slice Aa al.length ca, .slice Af nf cf] ∧ ∀ j (hj : j < al.length), j < k → decide (64 < al[j].1.via.length) = false) (fun i _ => al.length - (intOf i).toNat)
  case atStart => exact ⟨0, Nat.zero_le _, rfl, bA (bR w) _, Blk.made rfl _ _, fun j _ h => by omega⟩
  case round =>
    obtain ⟨k, hk, rfl, hb, X2, hno⟩ := hrel
    have Hb := Lib.hid hb
    have Hno := Lib.hid hno
    clear hb hno
    try clear X2l
    try clear X2a
    try clear X2b
    try clear X2c
    try clear X2fa
    try clear X2fb
    try clear X2fc
    obtain ⟨X2l, X2a, X2b, X2c, -, -, -⟩ := X2.facts3
    by_cases hlt : k < al.length
    · obtain ⟨b, o, rfl, hlb, c0, c1, c2, c3, c4, c5⟩ := (hR.mono Hb.out).ar hlt
      have HR := Lib.hid hR; clear hR
      obtain ⟨Av, cv, hv, hvc, hvm, -⟩ := HV.out k hlt
      rw [hv] at c3
      clear hv
      unfold maxLen at hvm
      by_cases he : 64 < al[k].1.via.length
      · have hf := Lib.hid (any_hit al (fun a => decide (64 < a.1.via.length)) k hlt (decide_eq_true he))
        go_wp2_with fail
        go_ret
        exact ⟨ret_bool (by rw [hf.out]; rfl), Hb.out⟩
      · have he' := Lib.hid (decide_eq_false he)
        go_wp2_with fail
        go_roundw
        case rel => exact ⟨k + 1, by omega, by go_num, Hb.out, X2, all_succ (p := fun x => decide (64 < x.1.via.length) = false) Hno.out hlt he'.out⟩
        case measure => simp [intOf]; omega
    · have hf := Lib.hid (any_miss al (fun a => decide (64 < a.1.via.length)) (fun j hj => Hno.out j hj (by omega)))
      go_wp2_with fail
      all_goals
        go_ret
        refine ⟨ret_bool (by rw [hf.out, Bool.eq_iff_iff]; simp only [Bool.false_or, Bool.or_eq_true, decide_eq_true_eq, true_iff, Bool.false_eq_true, false_iff]; omega), Hb.out⟩
end Go.Proofs.YtbjlnnfmcjbnhaaGreatDoor
namespace Go.Proofs.YtbjlnnfmcjbnhaaGreatDoor
open Go.RowKit

/-- An index that is 0 or more just where an element meets the test. -/
def IdxRes (w : World) (b : Bool) (e : Ending) (w' : World) : Prop := ∃ r : Int, e = .returned (.int .i64 r) ∧ decide (0 ≤ r) = b ∧ Below w.heap.size w w'

set_option maxHeartbeats 400000 in
theorem Index_int_spec (v : Value) (l : List Int) (x : Int) (w : World) (h : Ints w v l) :
    Calls Tryz.prog 143 #[v, .int .i64 x] w (IdxRes w (l.any fun y => y == x)) := by
  obtain ⟨A, c, rfl, hn, hc, hR⟩ := h
  unfold maxLen at hc
  go_enter Tryz.func143, Tryz.ntmps143
  go_wp2_with fail
  go_loopw [8] (fun i wr => ∃ k : Nat, k ≤ l.length ∧ i = .int .i64 k ∧ Below w.heap.size w wr ∧ ∀ j (hj : j < l.length), j < k → (fun y => y == x) l[j] = false) (fun i _ => l.length - (intOf i).toNat)
  case atStart => exact ⟨0, Nat.zero_le _, rfl, bR w, fun j _ h => by omega⟩
  case round =>
    obtain ⟨k, hk, rfl, hb, hno⟩ := hrel
    have Hb := Lib.hid hb
    have Hno := Lib.hid hno
    clear hb hno
    by_cases hlt : k < l.length
    · obtain ⟨b, o, rfl, hlb, c0⟩ := (hR.mono Hb.out).int hlt
      have HR := Lib.hid hR; clear hR
      cases he : (l[k] == x)
      · go_wp2_with fail
        go_roundw
        case rel => exact ⟨k + 1, by omega, by go_num, Hb.out, all_succ (p := fun y => (fun y => y == x) y = false) Hno.out hlt he⟩
        case measure => simp [intOf]; omega
      · have hf := Lib.hid (any_hit l (fun y => y == x) k hlt he)
        have he2 : (x == l[k]) = true := by simpa using (beq_iff_eq.1 he).symm
        go_wp2_with fail
        go_ret
        exact ⟨k, rfl, by rw [hf.out]; simp, Hb.out⟩
    · have hf := Lib.hid (any_miss l (fun y => y == x) (fun j hj => Hno.out j hj (by omega)))
      go_wp2_with fail
      go_ret
      exact ⟨-1, rfl, by rw [hf.out]; simp, Hb.out⟩

set_option maxHeartbeats 400000 in
theorem IndexFunc_numbered_spec (v : Value) (l : List Int) (p : Int → Bool) (w : World) (h : Ints w v l)
    (hg : ∀ y W, Calls Tryz.prog 106 #[(.int .i64 y)] W fun e w' => e = .returned (.bool (p y)) ∧ Below W.heap.size W w') :
    Calls Tryz.prog 141 #[v, .func (.func 106) #[] #[]] w (IdxRes w (l.any p)) := by
  obtain ⟨A, c, rfl, hn, hc, hR⟩ := h
  unfold maxLen at hc
  have HG := Lib.hid hg; clear hg
  go_enter Tryz.func141, Tryz.ntmps141
  go_wp2_with fail
  go_loopw [8] (fun i wr => ∃ k : Nat, k ≤ l.length ∧ i = .int .i64 k ∧ Below w.heap.size w wr ∧ ∀ j (hj : j < l.length), j < k → (p) l[j] = false) (fun i _ => l.length - (intOf i).toNat)
  case atStart => exact ⟨0, Nat.zero_le _, rfl, bR w, fun j _ h => by omega⟩
  case round =>
    obtain ⟨k, hk, rfl, hb, hno⟩ := hrel
    have Hb := Lib.hid hb
    have Hno := Lib.hid hno
    clear hb hno
    by_cases hlt : k < l.length
    · obtain ⟨b, o, rfl, hlb, c0⟩ := (hR.mono Hb.out).int hlt
      have HR := Lib.hid hR; clear hR
      go_wp2_with fail
      refine (HG.out l[k] _).mono ?_
      rintro e w1 ⟨rfl, hb1⟩
      have Bw : Below w.heap.size w w1 := bT Hb.out hb1
      clear hb1
      cases he : p l[k]
      · go_wp2_with fail
        go_roundw
        case rel => exact ⟨k + 1, by omega, by go_num, Bw, all_succ (p := fun y => (p) y = false) Hno.out hlt he⟩
        case measure => simp [intOf]; omega
      · have hf := Lib.hid (any_hit l (p) k hlt he)
        go_wp2_with fail
        go_ret
        exact ⟨k, rfl, by rw [hf.out]; simp, Bw⟩
    · have hf := Lib.hid (any_miss l (p) (fun j hj => Hno.out j hj (by omega)))
      go_wp2_with fail
      go_ret
      exact ⟨-1, rfl, by rw [hf.out]; simp, Hb.out⟩

set_option maxHeartbeats 400000 in
theorem ContainsFunc_numbered_spec (v : Value) (l : List Int) (p : Int → Bool) (w : World) (h : Ints w v l)
    (hg : ∀ y W, Calls Tryz.prog 106 #[(.int .i64 y)] W fun e w' => e = .returned (.bool (p y)) ∧ Below W.heap.size W w') :
    Calls Tryz.prog 105 #[v, .func (.func 106) #[] #[]] w fun e w' => e = .returned (.bool (l.any p)) ∧ Below w.heap.size w w' := by
  have T := IndexFunc_numbered_spec v l p w h hg
  have HT := Lib.hid T; clear T hg h
  go_enter Tryz.func105, Tryz.ntmps105
  go_wp2_with fail
  refine HT.out.mono ?_
  rintro e w1 ⟨r, rfl, hr, hb1⟩
  have Hr := Lib.hid hr; clear hr
  go_wp2_with fail
  go_ret
  exact ⟨ret_bool Hr.out, hb1⟩

set_option maxHeartbeats 400000 in
theorem IndexFunc_placed_spec (v : Value) (l : List Pt) (p : Pt → Bool) (w : World) (h : Pts w v l)
    (hg : ∀ y W, Calls Tryz.prog 107 #[(.agg #[.int .i64 y.x, .int .i64 y.y])] W fun e w' => e = .returned (.bool (p y)) ∧ Below W.heap.size W w') :
    Calls Tryz.prog 142 #[v, .func (.func 107) #[] #[]] w (IdxRes w (l.any p)) := by
  obtain ⟨A, c, rfl, hn, hc, hR⟩ := h
  unfold maxLen at hc
  have HG := Lib.hid hg; clear hg
  go_enter Tryz.func142, Tryz.ntmps142
  go_wp2_with fail
  go_loopw [8] (fun i wr => ∃ k : Nat, k ≤ l.length ∧ i = .int .i64 k ∧ Below w.heap.size w wr ∧ ∀ j (hj : j < l.length), j < k → (p) l[j] = false) (fun i _ => l.length - (intOf i).toNat)
  case atStart => exact ⟨0, Nat.zero_le _, rfl, bR w, fun j _ h => by omega⟩
  case round =>
    obtain ⟨k, hk, rfl, hb, hno⟩ := hrel
    have Hb := Lib.hid hb
    have Hno := Lib.hid hno
    clear hb hno
    by_cases hlt : k < l.length
    · obtain ⟨b, o, rfl, hlb, c0, c1⟩ := (hR.mono Hb.out).pt hlt
      have HR := Lib.hid hR; clear hR
      go_wp2_with fail
      refine (HG.out l[k] _).mono ?_
      rintro e w1 ⟨rfl, hb1⟩
      have Bw : Below w.heap.size w w1 := bT Hb.out hb1
      clear hb1
      cases he : p l[k]
      · go_wp2_with fail
        go_roundw
        case rel => exact ⟨k + 1, by omega, by go_num, Bw, all_succ (p := fun y => (p) y = false) Hno.out hlt he⟩
        case measure => simp [intOf]; omega
      · have hf := Lib.hid (any_hit l (p) k hlt he)
        go_wp2_with fail
        go_ret
        exact ⟨k, rfl, by rw [hf.out]; simp, Bw⟩
    · have hf := Lib.hid (any_miss l (p) (fun j hj => Hno.out j hj (by omega)))
      go_wp2_with fail
      go_ret
      exact ⟨-1, rfl, by rw [hf.out]; simp, Hb.out⟩

set_option maxHeartbeats 400000 in
theorem ContainsFunc_placed_spec (v : Value) (l : List Pt) (p : Pt → Bool) (w : World) (h : Pts w v l)
    (hg : ∀ y W, Calls Tryz.prog 107 #[(.agg #[.int .i64 y.x, .int .i64 y.y])] W fun e w' => e = .returned (.bool (p y)) ∧ Below W.heap.size W w') :
    Calls Tryz.prog 108 #[v, .func (.func 107) #[] #[]] w fun e w' => e = .returned (.bool (l.any p)) ∧ Below w.heap.size w w' := by
  have T := IndexFunc_placed_spec v l p w h hg
  have HT := Lib.hid T; clear T hg h
  go_enter Tryz.func108, Tryz.ntmps108
  go_wp2_with fail
  refine HT.out.mono ?_
  rintro e w1 ⟨r, rfl, hr, hb1⟩
  have Hr := Lib.hid hr; clear hr
  go_wp2_with fail
  go_ret
  exact ⟨ret_bool Hr.out, hb1⟩

set_option maxHeartbeats 400000 in
theorem Contains_int_spec (v : Value) (l : List Int) (x : Int) (w : World) (h : Ints w v l) :
    Calls Tryz.prog 109 #[v, .int .i64 x] w fun e w' => e = .returned (.bool (l.any (fun y => y == x))) ∧ Below w.heap.size w w' := by
  have T := Index_int_spec v l x w h
  have HT := Lib.hid T; clear T h
  go_enter Tryz.func109, Tryz.ntmps109
  go_wp2_with fail
  refine HT.out.mono ?_
  rintro e w1 ⟨r, rfl, hr, hb1⟩
  have Hr := Lib.hid hr; clear hr
  go_wp2_with fail
  go_ret
  exact ⟨ret_bool Hr.out, hb1⟩

def idBad (n : Int) : Bool := decide (n < 1) || decide (1073741824 < n)
set_option maxHeartbeats 400000 in
theorem idBad_spec (n : Int) (w : World) : Calls Tryz.prog 106 #[.int .i64 n] w fun e w' => e = .returned (.bool (idBad n)) ∧ Below w.heap.size w w' := by
  by_cases h : n < 1
  · go_enter Tryz.func106, Tryz.ntmps106
    go_wp2_with fail
    go_ret
    exact ⟨ret_bool (by simp [idBad, h]), bR w⟩
  · have h' : decide (n < 1) = false := by simpa using h
    go_enter Tryz.func106, Tryz.ntmps106
    go_wp2_with fail
    go_ret
    exact ⟨ret_bool (by simp only [idBad, h', Bool.false_or]), bR w⟩
set_option maxHeartbeats 400000 in
theorem numbered_spec (v : Value) (l : List Int) (w : World) (h : Ints w v l) :
    Calls Tryz.prog 73 #[v] w fun e w' => e = .returned (.bool (!l.any idBad)) ∧ Below w.heap.size w w' := by
  have T := ContainsFunc_numbered_spec v l idBad w h (fun y W => idBad_spec y W)
  have HT := Lib.hid T; clear T h
  go_enter Tryz.func73, Tryz.ntmps73
  go_wp2_with fail
  refine HT.out.mono ?_
  rintro e w1 ⟨rfl, hb1⟩
  go_wp2_with fail
  go_ret
  exact ⟨ret_bool rfl, hb1⟩

def ptOk (p : Pt) : Bool := decide (-1048576 ≤ p.x) && decide (p.x ≤ 1048576) && decide (-1048576 ≤ p.y) && decide (p.y ≤ 1048576)
set_option maxHeartbeats 400000 in
theorem Valid_spec (p : Pt) (w : World) : Calls Tryz.prog 96 #[ptV p] w fun e w' => e = .returned (.bool (ptOk p)) ∧ Below w.heap.size w w' := by
  unfold ptV
  go_enter Tryz.func96, Tryz.ntmps96
  go_wp2_with fail
  all_goals
    go_ret
    refine ⟨ret_bool (by rw [ptOk, Bool.eq_iff_iff]; simp only [Bool.and_eq_true, decide_eq_true_eq, true_iff, Bool.false_eq_true, false_iff]; omega), ?_⟩
    repeat (first | with_reducible exact bR _ | with_reducible assumption | with_reducible refine bA ?_ _ | with_reducible refine bD ?_ | with_reducible refine bN ?_ _ | ((with_reducible refine bS ?_ ?_ _); rotate_left; (simp; try omega)) | ((with_reducible refine bT ?_ ?_); rotate_left; with_reducible assumption) | with_reducible refine bT ?_ (by assumption))
end Go.Proofs.YtbjlnnfmcjbnhaaGreatDoor
