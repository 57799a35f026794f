/- Package geom, on: Twice, Side, On, before, shared, Meet. -/
import Derived.Test.YtibchmofckhofaaGeom
set_option linter.unusedSimpArgs false
set_option linter.unusedVariables false
namespace Go.Proofs.Ytibchmofckhofaa
open Go.RowKit

theorem lim_of {p : Pt} (h : near1 p = true) : lim p := (near1_iff p).1 h
theorem nears3 {a b c : Pt} (h : nears [a, b, c] = true) : lim a ∧ lim b ∧ lim c := by
  simp only [nears, List.all_cons, List.all_nil, Bool.and_true, Bool.and_eq_true] at h
  exact ⟨lim_of h.1, lim_of h.2.1, lim_of h.2.2⟩
theorem nears4 {a b c d : Pt} (h : nears [a, b, c, d] = true) : lim a ∧ lim b ∧ lim c ∧ lim d := by
  simp only [nears, List.all_cons, List.all_nil, Bool.and_true, Bool.and_eq_true] at h
  exact ⟨lim_of h.1, lim_of h.2.1, lim_of h.2.2.1, lim_of h.2.2.2⟩
def twS (a b c : Pt) : Int := if nears [a, b, c] = true then tw a b c else 0

set_option maxHeartbeats 400000 in
theorem Twice_spec (a b c : Pt) (w : World) :
    Calls Try.prog 108 #[ptV a, ptV b, ptV c] w fun e w' => e = .returned (.int .i64 (twS a b c)) ∧ Below w.heap.size w w' := by
  unfold ptV
  by_cases hn : nears [a, b, c] = true
  · obtain ⟨ha, hb, hc⟩ := nears3 hn
    have Ha := Lib.hid ha; have Hb := Lib.hid hb; have Hc := Lib.hid hc; clear ha hb hc
    go_enter Try.func108, Try.ntmps108
    go_wp2_with fail
    refine (near_spec _ [a, b, c] _ (Pts.lit3 (Blk.made (by simp) _ _))).mono ?_
    rintro e w1 ⟨rfl, hb1⟩
    obtain ⟨hb1c, hb1f⟩ := bcell hb1
    have hb1z := hb1.size
    try simp only [World.size_alloc, World.size_setCell, World.size_drew] at hb1z
    have hb1l0 : w.heap.size < w1.heap.size := by omega
    have hb1l1 : w.heap.size + 1 < w1.heap.size := by omega
    have hb1l2 : w.heap.size + 1 + 1 < w1.heap.size := by omega
    go_wp2_with fail
    refine (twice_spec a b c _ Ha.out Hb.out Hc.out).mono ?_
    rintro e w2 ⟨rfl, hb2⟩
    go_wp2_with fail
    go_ret
    refine ⟨ret_int (by simp [twS, hn]), ?_⟩
    repeat (first | with_reducible exact bR _ | with_reducible assumption | with_reducible refine bA ?_ _ | with_reducible refine bD ?_ | with_reducible refine bN ?_ _ | ((with_reducible refine bS ?_ ?_ _); rotate_left; (simp; try omega)) | ((with_reducible refine bT ?_ ?_); rotate_left; with_reducible assumption) | with_reducible refine bT ?_ (by assumption))
  · have hn' : nears [a, b, c] = false := by simpa using hn
    clear hn
    go_enter Try.func108, Try.ntmps108
    go_wp2_with fail
    refine (near_spec _ [a, b, c] _ (Pts.lit3 (Blk.made (by simp) _ _))).mono ?_
    rintro e w1 ⟨rfl, hb1⟩
    obtain ⟨hb1c, hb1f⟩ := bcell hb1
    have hb1z := hb1.size
    try simp only [World.size_alloc, World.size_setCell, World.size_drew] at hb1z
    have hb1l0 : w.heap.size < w1.heap.size := by omega
    have hb1l1 : w.heap.size + 1 < w1.heap.size := by omega
    have hb1l2 : w.heap.size + 1 + 1 < w1.heap.size := by omega
    go_wp2_with fail
    go_ret
    refine ⟨ret_int (by simp [twS, hn']), ?_⟩
    repeat (first | with_reducible exact bR _ | with_reducible assumption | with_reducible refine bA ?_ _ | with_reducible refine bD ?_ | with_reducible refine bN ?_ _ | ((with_reducible refine bS ?_ ?_ _); rotate_left; (simp; try omega)) | ((with_reducible refine bT ?_ ?_); rotate_left; with_reducible assumption) | with_reducible refine bT ?_ (by assumption))

def sideS (a b c : Pt) : Int := if 0 < twS a b c then 1 else if twS a b c < 0 then -1 else 0

set_option maxHeartbeats 400000 in
theorem Side_spec (a b c : Pt) (w : World) :
    Calls Try.prog 97 #[ptV a, ptV b, ptV c] w fun e w' => e = .returned (.int .i64 (sideS a b c)) ∧ Below w.heap.size w w' := by
  have T : ∀ W, Calls Try.prog 108 #[ptV a, ptV b, ptV c] W _ := fun W => Twice_spec a b c W
  unfold ptV at T ⊢
  unfold sideS
  generalize twS a b c = t at *
  have HT := Lib.hid T; clear T
  go_enter Try.func97, Try.ntmps97
  go_wp2_with fail
  refine (HT.out _).mono ?_
  rintro e w1 ⟨rfl, hb1⟩
  go_wp2_with fail
  all_goals
    go_ret
    refine ⟨ret_int rfl, ?_⟩
    repeat (first | with_reducible exact bR _ | with_reducible assumption | with_reducible refine bA ?_ _ | with_reducible refine bD ?_ | with_reducible refine bN ?_ _ | ((with_reducible refine bS ?_ ?_ _); rotate_left; (simp; try omega)) | ((with_reducible refine bT ?_ ?_); rotate_left; with_reducible assumption) | with_reducible refine bT ?_ (by assumption))

def onS (a b p : Pt) : Bool := nears [a, b, p] && decide (tw a b p = 0) && decide (min a.x b.x ≤ p.x) && decide (p.x ≤ max a.x b.x) && decide (min a.y b.y ≤ p.y) && decide (p.y ≤ max a.y b.y)

set_option maxHeartbeats 1000000 in
theorem On_spec (a b p : Pt) (w : World) :
    Calls Try.prog 68 #[ptV a, ptV b, ptV p] w fun e w' => e = .returned (.bool (onS a b p)) ∧ Below w.heap.size w w' := by
  unfold ptV
  by_cases hn : nears [a, b, p] = true
  · obtain ⟨ha, hb, hc⟩ := nears3 hn
    have T : ∀ W, Calls Try.prog 83 #[ptV a, ptV b, ptV p] W _ := fun W => twice_spec a b p W ha hb hc
    unfold ptV at T
    have hS : onS a b p = (decide (tw a b p = 0) && decide (min a.x b.x ≤ p.x) && decide (p.x ≤ max a.x b.x) && decide (min a.y b.y ≤ p.y) && decide (p.y ≤ max a.y b.y)) := by simp [onS, hn]
    rw [hS]
    generalize tw a b p = t at *
    have HT := Lib.hid T; clear T ha hb hc hS
    go_enter Try.func68, Try.ntmps68
    go_wp2_with fail
    refine (near_spec _ [a, b, p] _ (Pts.lit3 (Blk.made (by simp) _ _))).mono ?_
    rintro e w1 ⟨rfl, hb1⟩
    obtain ⟨hb1c, hb1f⟩ := bcell hb1
    have hb1z := hb1.size
    try simp only [World.size_alloc, World.size_setCell, World.size_drew] at hb1z
    have hb1l0 : w.heap.size < w1.heap.size := by omega
    have hb1l1 : w.heap.size + 1 < w1.heap.size := by omega
    have hb1l2 : w.heap.size + 1 + 1 < w1.heap.size := by omega
    go_wp2_with fail
    refine (HT.out _).mono ?_
    rintro e w2 ⟨rfl, hb2⟩
    obtain ⟨hb2c, hb2f⟩ := bcell hb2
    have hb2z := hb2.size
    try simp only [World.size_alloc, World.size_setCell, World.size_drew] at hb2z
    have hb2l0 : w.heap.size < w2.heap.size := by omega
    have hb2l1 : w.heap.size + 1 < w2.heap.size := by omega
    have hb2l2 : w.heap.size + 1 + 1 < w2.heap.size := by omega
    by_cases ht : t = 0
    · subst ht
      go_wp2_with fail
      all_goals
        go_ret
        refine ⟨ret_bool (by rw [Bool.eq_iff_iff]; simp only [Bool.and_eq_true, decide_eq_true_eq, Bool.false_eq_true, false_iff, true_iff]; omega), ?_⟩
        repeat (first | with_reducible exact bR _ | with_reducible assumption | with_reducible refine bA ?_ _ | with_reducible refine bD ?_ | with_reducible refine bN ?_ _ | ((with_reducible refine bS ?_ ?_ _); rotate_left; (simp; try omega)) | ((with_reducible refine bT ?_ ?_); rotate_left; with_reducible assumption) | with_reducible refine bT ?_ (by assumption))
    · have ht' : (t == 0) = false := by simpa using ht
      go_wp2_with fail
      go_ret
      refine ⟨ret_bool (by simp [ht]), ?_⟩
      repeat (first | with_reducible exact bR _ | with_reducible assumption | with_reducible refine bA ?_ _ | with_reducible refine bD ?_ | with_reducible refine bN ?_ _ | ((with_reducible refine bS ?_ ?_ _); rotate_left; (simp; try omega)) | ((with_reducible refine bT ?_ ?_); rotate_left; with_reducible assumption) | with_reducible refine bT ?_ (by assumption))
  · have hn' : nears [a, b, p] = false := by simpa using hn
    clear hn
    go_enter Try.func68, Try.ntmps68
    go_wp2_with fail
    refine (near_spec _ [a, b, p] _ (Pts.lit3 (Blk.made (by simp) _ _))).mono ?_
    rintro e w1 ⟨rfl, hb1⟩
    obtain ⟨hb1c, hb1f⟩ := bcell hb1
    have hb1z := hb1.size
    try simp only [World.size_alloc, World.size_setCell, World.size_drew] at hb1z
    have hb1l0 : w.heap.size < w1.heap.size := by omega
    have hb1l1 : w.heap.size + 1 < w1.heap.size := by omega
    have hb1l2 : w.heap.size + 1 + 1 < w1.heap.size := by omega
    go_wp2_with fail
    go_ret
    refine ⟨ret_bool (by simp [onS, hn']), ?_⟩
    repeat (first | with_reducible exact bR _ | with_reducible assumption | with_reducible refine bA ?_ _ | with_reducible refine bD ?_ | with_reducible refine bN ?_ _ | ((with_reducible refine bS ?_ ?_ _); rotate_left; (simp; try omega)) | ((with_reducible refine bT ?_ ?_); rotate_left; with_reducible assumption) | with_reducible refine bT ?_ (by assumption))
end Go.Proofs.Ytibchmofckhofaa
