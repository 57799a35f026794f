/- Searching lists: slices.Index and Contains (ints), IndexFunc and ContainsFunc (ints, points); plan.numbered; mapsheetsref14.Valid. -/
import Derived.Test.YtfdbidagdjnipaaGreatDoorJ03
set_option linter.unusedSimpArgs false
set_option linter.unusedVariables false
namespace Go.Proofs.YtfdbidagdjnipaaGreatDoor
open Go.RowKit

/-- An index that is 0 or more just where an element meets the test. -/
def IdxRes (w : World) (b : Bool) (e : Ending) (w' : World) : Prop := ∃ r : Int, e = .returned (.int .i64 r) ∧ decide (0 ≤ r) = b ∧ Below w.heap.size w w'

set_option maxHeartbeats 400000 in
theorem Index_int_spec (v : Value) (l : List Int) (x : Int) (w : World) (h : Ints w v l) :
  Calls Tryz.prog 113 #[v, .int .i64 x] w (IdxRes w (l.any fun y => y == x)) := by
 obtain ⟨A, c, rfl, hn, hc, hR⟩ := h
 unfold maxLen at hc
 go_enter Tryz.func113, Tryz.ntmps113
 go_wp2_with fail
 go_loopw [8] (fun i wr => ∃ k : Nat, k ≤ l.length ∧ i = .int .i64 k ∧ Below w.heap.size w wr ∧ ∀ j (hj : j < l.length), j < k → (fun y => y == x) l[j] = false) (fun i _ => l.length - (intOf i).toNat)
 case atStart => exact ⟨0, Nat.zero_le _, rfl, bR w, fun j _ h => by omega⟩
 case round =>
  obtain ⟨k, hk, rfl, hb, hno⟩ := hrel
  have Hb := Lib.hid hb
  have Hno := Lib.hid hno
  clear hb hno
  by_cases hlt : k < l.length
  ·
   obtain ⟨b, o, rfl, hlb, c0⟩ := (hR.mono Hb.out).int hlt
   have HR := Lib.hid hR; clear hR
   cases he : (l[k] == x)
   ·
    go_wp2_with fail
    go_roundw
    case rel => exact ⟨k + 1, by omega, by go_num, Hb.out, all_succ (p := fun y => (fun y => y == x) y = false) Hno.out hlt he⟩
    case measure => simp [intOf]; omega
   ·
    have hf := Lib.hid (any_hit l (fun y => y == x) k hlt he)
    have he2 : (x == l[k]) = true := by simpa using (beq_iff_eq.1 he).symm
    go_wp2_with fail
    go_ret
    exact ⟨k, rfl, by rw [hf.out]; simp, Hb.out⟩
  ·
   have hf := Lib.hid (any_miss l (fun y => y == x) (fun j hj => Hno.out j hj (by omega)))
   go_wp2_with fail
   go_ret
   exact ⟨-1, rfl, by rw [hf.out]; simp, Hb.out⟩

set_option maxHeartbeats 400000 in
theorem IndexFunc_numbered_spec (v : Value) (l : List Int) (p : Int → Bool) (w : World) (h : Ints w v l)
  (hg : ∀ y W, Calls Tryz.prog 82 #[(.int .i64 y)] W fun e w' => e = .returned (.bool (p y)) ∧ Below W.heap.size W w') :
  Calls Tryz.prog 111 #[v, .func (.func 82) #[] #[]] w (IdxRes w (l.any p)) := by
 obtain ⟨A, c, rfl, hn, hc, hR⟩ := h
 unfold maxLen at hc
 have HG := Lib.hid hg; clear hg
 go_enter Tryz.func111, Tryz.ntmps111
 go_wp2_with fail
 go_loopw [8] (fun i wr => ∃ k : Nat, k ≤ l.length ∧ i = .int .i64 k ∧ Below w.heap.size w wr ∧ ∀ j (hj : j < l.length), j < k → (p) l[j] = false) (fun i _ => l.length - (intOf i).toNat)
 case atStart => exact ⟨0, Nat.zero_le _, rfl, bR w, fun j _ h => by omega⟩
 case round =>
  obtain ⟨k, hk, rfl, hb, hno⟩ := hrel
  have Hb := Lib.hid hb
  have Hno := Lib.hid hno
  clear hb hno
  by_cases hlt : k < l.length
  ·
   obtain ⟨b, o, rfl, hlb, c0⟩ := (hR.mono Hb.out).int hlt
   have HR := Lib.hid hR; clear hR
   go_wp2_with fail
   refine (HG.out l[k] _).mono ?_
   rintro e w1 ⟨rfl, hb1⟩
   have Bw : Below w.heap.size w w1 := bT Hb.out hb1
   clear hb1
   cases he : p l[k]
   ·
    go_wp2_with fail
    go_roundw
    case rel => exact ⟨k + 1, by omega, by go_num, Bw, all_succ (p := fun y => (p) y = false) Hno.out hlt he⟩
    case measure => simp [intOf]; omega
   ·
    have hf := Lib.hid (any_hit l (p) k hlt he)
    go_wp2_with fail
    go_ret
    exact ⟨k, rfl, by rw [hf.out]; simp, Bw⟩
  ·
   have hf := Lib.hid (any_miss l (p) (fun j hj => Hno.out j hj (by omega)))
   go_wp2_with fail
   go_ret
   exact ⟨-1, rfl, by rw [hf.out]; simp, Hb.out⟩

set_option maxHeartbeats 400000 in
theorem ContainsFunc_numbered_spec (v : Value) (l : List Int) (p : Int → Bool) (w : World) (h : Ints w v l)
  (hg : ∀ y W, Calls Tryz.prog 82 #[(.int .i64 y)] W fun e w' => e = .returned (.bool (p y)) ∧ Below W.heap.size W w') :
  Calls Tryz.prog 81 #[v, .func (.func 82) #[] #[]] w fun e w' => e = .returned (.bool (l.any p)) ∧ Below w.heap.size w w' := by
 have T := IndexFunc_numbered_spec v l p w h hg
 have HT := Lib.hid T; clear T hg h
 go_enter Tryz.func81, Tryz.ntmps81
 go_wp2_with fail
 refine HT.out.mono ?_
 rintro e w1 ⟨r, rfl, hr, hb1⟩
 have Hr := Lib.hid hr; clear hr
 go_wp2_with fail
 go_ret
 exact ⟨ret_bool Hr.out, hb1⟩

set_option maxHeartbeats 400000 in
theorem IndexFunc_placed_spec (v : Value) (l : List Pt) (p : Pt → Bool) (w : World) (h : Pts w v l)
  (hg : ∀ y W, Calls Tryz.prog 83 #[(.agg #[.int .i64 y.x, .int .i64 y.y])] W fun e w' => e = .returned (.bool (p y)) ∧ Below W.heap.size W w') :
  Calls Tryz.prog 112 #[v, .func (.func 83) #[] #[]] w (IdxRes w (l.any p)) := by
 obtain ⟨A, c, rfl, hn, hc, hR⟩ := h
 unfold maxLen at hc
 have HG := Lib.hid hg; clear hg
 go_enter Tryz.func112, Tryz.ntmps112
 go_wp2_with fail
 go_loopw [8] (fun i wr => ∃ k : Nat, k ≤ l.length ∧ i = .int .i64 k ∧ Below w.heap.size w wr ∧ ∀ j (hj : j < l.length), j < k → (p) l[j] = false) (fun i _ => l.length - (intOf i).toNat)
 case atStart => exact ⟨0, Nat.zero_le _, rfl, bR w, fun j _ h => by omega⟩
 case round =>
  obtain ⟨k, hk, rfl, hb, hno⟩ := hrel
  have Hb := Lib.hid hb
  have Hno := Lib.hid hno
  clear hb hno
  by_cases hlt : k < l.length
  ·
   obtain ⟨b, o, rfl, hlb, c0, c1⟩ := (hR.mono Hb.out).pt hlt
   have HR := Lib.hid hR; clear hR
   go_wp2_with fail
   refine (HG.out l[k] _).mono ?_
   rintro e w1 ⟨rfl, hb1⟩
   have Bw : Below w.heap.size w w1 := bT Hb.out hb1
   clear hb1
   cases he : p l[k]
   ·
    go_wp2_with fail
    go_roundw
    case rel => exact ⟨k + 1, by omega, by go_num, Bw, all_succ (p := fun y => (p) y = false) Hno.out hlt he⟩
    case measure => simp [intOf]; omega
   ·
    have hf := Lib.hid (any_hit l (p) k hlt he)
    go_wp2_with fail
    go_ret
    exact ⟨k, rfl, by rw [hf.out]; simp, Bw⟩
  ·
   have hf := Lib.hid (any_miss l (p) (fun j hj => Hno.out j hj (by omega)))
   go_wp2_with fail
   go_ret
   exact ⟨-1, rfl, by rw [hf.out]; simp, Hb.out⟩

set_option maxHeartbeats 400000 in
theorem ContainsFunc_placed_spec (v : Value) (l : List Pt) (p : Pt → Bool) (w : World) (h : Pts w v l)
  (hg : ∀ y W, Calls Tryz.prog 83 #[(.agg #[.int .i64 y.x, .int .i64 y.y])] W fun e w' => e = .returned (.bool (p y)) ∧ Below W.heap.size W w') :
  Calls Tryz.prog 84 #[v, .func (.func 83) #[] #[]] w fun e w' => e = .returned (.bool (l.any p)) ∧ Below w.heap.size w w' := by
 have T := IndexFunc_placed_spec v l p w h hg
 have HT := Lib.hid T; clear T hg h
 go_enter Tryz.func84, Tryz.ntmps84
 go_wp2_with fail
 refine HT.out.mono ?_
 rintro e w1 ⟨r, rfl, hr, hb1⟩
 have Hr := Lib.hid hr; clear hr
 go_wp2_with fail
 go_ret
 exact ⟨ret_bool Hr.out, hb1⟩

set_option maxHeartbeats 400000 in
theorem Contains_int_spec (v : Value) (l : List Int) (x : Int) (w : World) (h : Ints w v l) :
  Calls Tryz.prog 85 #[v, .int .i64 x] w fun e w' => e = .returned (.bool (l.any (fun y => y == x))) ∧ Below w.heap.size w w' := by
 have T := Index_int_spec v l x w h
 have HT := Lib.hid T; clear T h
 go_enter Tryz.func85, Tryz.ntmps85
 go_wp2_with fail
 refine HT.out.mono ?_
 rintro e w1 ⟨r, rfl, hr, hb1⟩
 have Hr := Lib.hid hr; clear hr
 go_wp2_with fail
 go_ret
 exact ⟨ret_bool Hr.out, hb1⟩

def idBad (n : Int) : Bool := decide (n < 1) || decide (1073741824 < n)
set_option maxHeartbeats 400000 in
theorem idBad_spec (n : Int) (w : World) : Calls Tryz.prog 82 #[.int .i64 n] w fun e w' => e = .returned (.bool (idBad n)) ∧ Below w.heap.size w w' := by
 by_cases h : n < 1
 ·
  go_enter Tryz.func82, Tryz.ntmps82
  go_wp2_with fail
  go_ret
  exact ⟨ret_bool (by simp [idBad, h]), bR w⟩
 ·
  have h' : decide (n < 1) = false := by simpa using h
  go_enter Tryz.func82, Tryz.ntmps82
  go_wp2_with fail
  go_ret
  exact ⟨ret_bool (by simp only [idBad, h', Bool.false_or]), bR w⟩
set_option maxHeartbeats 400000 in
theorem numbered_spec (v : Value) (l : List Int) (w : World) (h : Ints w v l) :
  Calls Tryz.prog 55 #[v] w fun e w' => e = .returned (.bool (!l.any idBad)) ∧ Below w.heap.size w w' := by
 have T := ContainsFunc_numbered_spec v l idBad w h (fun y W => idBad_spec y W)
 have HT := Lib.hid T; clear T h
 go_enter Tryz.func55, Tryz.ntmps55
 go_wp2_with fail
 refine HT.out.mono ?_
 rintro e w1 ⟨rfl, hb1⟩
 go_wp2_with fail
 go_ret
 exact ⟨ret_bool rfl, hb1⟩

def ptOk (p : Pt) : Bool := decide (-1048576 ≤ p.x) && decide (p.x ≤ 1048576) && decide (-1048576 ≤ p.y) && decide (p.y ≤ 1048576)
set_option maxHeartbeats 400000 in
theorem Valid_spec (p : Pt) (w : World) : Calls Tryz.prog 46 #[ptV p] w fun e w' => e = .returned (.bool (ptOk p)) ∧ Below w.heap.size w w' := by
 unfold ptV
 go_enter Tryz.func46, Tryz.ntmps46
 go_wp2_with fail
 all_goals
  go_ret
  refine ⟨ret_bool (by rw [ptOk, Bool.eq_iff_iff]; simp only [Bool.and_eq_true, decide_eq_true_eq, true_iff, Bool.false_eq_true, false_iff]; omega), ?_⟩
  repeat (first | with_reducible exact bR _ | with_reducible assumption | with_reducible refine bA ?_ _ | with_reducible refine bD ?_ | with_reducible refine bN ?_ _ | ((with_reducible refine bS ?_ ?_ _); rotate_left; (simp; try omega)) | ((with_reducible refine bT ?_ ?_); rotate_left; with_reducible assumption) | with_reducible refine bT ?_ (by assumption))
end Go.Proofs.YtfdbidagdjnipaaGreatDoor
