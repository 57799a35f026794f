/- Finding elements: plan.Node, mapsheetsref14.Node, slices.Clone (points), plan.Degree, mapsheetsref14.Degree. -/
import Derived.Test.YtibchmofckhofaaGB
set_option linter.unusedSimpArgs false
set_option linter.unusedVariables false
namespace Go.Proofs.Ytibchmofckhofaa
open Go.RowKit

def findNd (l : List Nd) (id : Int) : Option Nd := l.find? (fun n => n.id == id)
def nd0 : Nd := ⟨0, ⟨0, 0⟩⟩
def ndRes (r : Option Nd) : Value := .tuple #[ndV (r.getD nd0), .bool r.isSome]

theorem PlV.nodes {w : World} {vn va vf : Value} {p : Pl} (h : PlV w (.agg #[vn, va, vf]) p) : Nds w vn p.nodes := by
  obtain ⟨_, _, _, _, e, _, h1, _, _⟩ := h
  simp only [Value.agg.injEq, Array.mk.injEq, List.cons.injEq, and_true] at e
  obtain ⟨rfl, rfl, rfl⟩ := e
  exact h1

set_option maxHeartbeats 400000 in
theorem Node_spec (v : Value) (p : Pl) (id : Int) (w : World) (h : PlV w v p) :
    Calls Try.prog 11 #[v, .int .i64 id] w fun e w' => e = .returned (ndRes (findNd p.nodes id)) ∧ Below w.heap.size w w' := by
  obtain ⟨_, va, vf, al, rfl, hpa, ⟨An, cn, rfl, hn1, hn2, hR⟩, -, -⟩ := h
  unfold maxLen at hn2
  generalize p.nodes = l at *
  clear hpa
  go_enter Try.func11, Try.ntmps11
  go_wp2_with fail
  go_loopw [11] (fun i wr => ∃ k : Nat, k ≤ l.length ∧ i = .int .i64 k ∧ Below w.heap.size w wr ∧ Blk wr (w.heap.size + 1) 32 #[.int .i64 0, .int .i64 0, .int .i64 0] ∧ ∀ j (hj : j < l.length), j < k → (l[j].id == id) = false) (fun i _ => l.length - (intOf i).toNat)
  case atStart => exact ⟨0, Nat.zero_le _, rfl, bA (bA (bR w) _) _, Blk.made (by simp) _ _, fun j _ h => by omega⟩
  case round =>
    obtain ⟨k, hk, rfl, hb, X4, hno⟩ := hrel
    have Hb := Lib.hid hb
    have Hno := Lib.hid hno
    clear hb hno
    try clear X4l
    try clear X4a
    try clear X4b
    try clear X4c
    try clear X4fa
    try clear X4fb
    try clear X4fc
    obtain ⟨X4l, X4a, X4b, X4c, X4fa, X4fb, X4fc⟩ := X4.facts3
    by_cases hlt : k < l.length
    · obtain ⟨b, o, rfl, hlb, c0, c1, c2⟩ := (hR.mono Hb.out).nd hlt
      have HR := Lib.hid hR; clear hR
      cases he : (l[k].id == id)
      · go_wp2
        go_roundw
        case rel => exact ⟨k + 1, by omega, by go_num, bA Hb.out _, X4.alloc _, all_succ (p := fun x => (x.id == id) = false) Hno.out hlt he⟩
        case measure => simp [intOf]; omega
      · have hf := find_hit l (fun n => n.id == id) k hlt Hno.out he
        have Hf := Lib.hid hf; clear hf
        go_wp2
        have Bw := Hb.out
        refine res_cell_tmp (g := w.heap.size + 1) (cs := #[.int .i64 l[k].id, .int .i64 l[k].pt.x, .int .i64 l[k].pt.y]) rfl struct_nd rfl rfl (Blk.put3 X4 |>.alloc _) ⟨by rw [findNd, Hf.out]; rfl, ?_⟩
        repeat (first | with_reducible exact bR _ | with_reducible assumption | with_reducible refine bA ?_ _ | with_reducible refine bD ?_ | with_reducible refine bN ?_ _ | ((with_reducible refine bS ?_ ?_ _); rotate_left; (simp; try omega)) | ((with_reducible refine bT ?_ ?_); rotate_left; with_reducible assumption) | with_reducible refine bT ?_ (by assumption))
    · have hf := find_miss l (fun n => n.id == id) (fun j hj => Hno.out j hj (by omega))
      have Hf := Lib.hid hf; clear hf
      go_wp2
      have Bw := Hb.out
      refine res_cell_tmp (g := w.heap.size + 1) (cs := #[.int .i64 0, .int .i64 0, .int .i64 0]) rfl struct_nd rfl rfl (Blk.put3 X4) ⟨by rw [findNd, Hf.out]; rfl, ?_⟩
      repeat (first | with_reducible exact bR _ | with_reducible assumption | with_reducible refine bA ?_ _ | with_reducible refine bD ?_ | with_reducible refine bN ?_ _ | ((with_reducible refine bS ?_ ?_ _); rotate_left; (simp; try omega)) | ((with_reducible refine bT ?_ ?_); rotate_left; with_reducible assumption) | with_reducible refine bT ?_ (by assumption))

set_option maxHeartbeats 400000 in
theorem RNode_spec (v : Value) (p : Pl) (id : Int) (w : World) (h : PlV w v p) :
    Calls Try.prog 12 #[v, .int .i64 id] w fun e w' => e = .returned (ndRes (findNd p.nodes id)) ∧ Below w.heap.size w w' := by
  obtain ⟨_, va, vf, al, rfl, hpa, ⟨An, cn, rfl, hn1, hn2, hR⟩, -, -⟩ := h
  unfold maxLen at hn2
  generalize p.nodes = l at *
  clear hpa
  go_enter Try.func12, Try.ntmps12
  go_wp2_with fail
  go_loopw [6] (fun i wr => ∃ k : Nat, k ≤ l.length ∧ i = .int .i64 k ∧ Below w.heap.size w wr ∧ Blk wr w.heap.size 26 #[.slice An l.length cn, va, vf] ∧ Blk wr (w.heap.size + 1) 32 #[.int .i64 0, .int .i64 0, .int .i64 0] ∧ ∀ j (hj : j < l.length), j < k → (l[j].id == id) = false) (fun i _ => l.length - (intOf i).toNat)
  case atStart => exact ⟨0, Nat.zero_le _, rfl, bA (bA (bR w) _) _, (Blk.made rfl _ _).alloc _, Blk.made (by simp) _ _, fun j _ h => by omega⟩
  case round =>
    obtain ⟨k, hk, rfl, hb, X2, X4, hno⟩ := hrel
    have Hb := Lib.hid hb
    have Hno := Lib.hid hno
    clear hb hno
    try clear X2l
    try clear X2a
    try clear X2b
    try clear X2c
    try clear X2fa
    try clear X2fb
    try clear X2fc
    obtain ⟨X2l, X2a, X2b, X2c, -, -, -⟩ := X2.facts3
    try clear X4l
    try clear X4a
    try clear X4b
    try clear X4c
    try clear X4fa
    try clear X4fb
    try clear X4fc
    obtain ⟨X4l, X4a, X4b, X4c, X4fa, X4fb, X4fc⟩ := X4.facts3
    by_cases hlt : k < l.length
    · obtain ⟨b, o, rfl, hlb, c0, c1, c2⟩ := (hR.mono Hb.out).nd hlt
      have HR := Lib.hid hR; clear hR
      cases he : (l[k].id == id)
      · go_wp2
        go_roundw
        case rel => exact ⟨k + 1, by omega, by go_num, Hb.out, X2, X4, all_succ (p := fun x => (x.id == id) = false) Hno.out hlt he⟩
        case measure => simp [intOf]; omega
      · have hf := find_hit l (fun n => n.id == id) k hlt Hno.out he
        have Hf := Lib.hid hf; clear hf
        go_wp2
        have Bw := Hb.out
        refine res_cell_tmp (g := w.heap.size + 1) (cs := #[.int .i64 l[k].id, .int .i64 l[k].pt.x, .int .i64 l[k].pt.y]) rfl struct_nd rfl rfl (Blk.put3 X4) ⟨by rw [findNd, Hf.out]; rfl, ?_⟩
        repeat (first | with_reducible exact bR _ | with_reducible assumption | with_reducible refine bA ?_ _ | with_reducible refine bD ?_ | with_reducible refine bN ?_ _ | ((with_reducible refine bS ?_ ?_ _); rotate_left; (simp; try omega)) | ((with_reducible refine bT ?_ ?_); rotate_left; with_reducible assumption) | with_reducible refine bT ?_ (by assumption))
    · have hf := find_miss l (fun n => n.id == id) (fun j hj => Hno.out j hj (by omega))
      have Hf := Lib.hid hf; clear hf
      go_wp2
      have Bw := Hb.out
      refine res_cell_tmp (g := w.heap.size + 1) (cs := #[.int .i64 0, .int .i64 0, .int .i64 0]) rfl struct_nd rfl rfl (Blk.put3 X4) ⟨by rw [findNd, Hf.out]; rfl, ?_⟩
      repeat (first | with_reducible exact bR _ | with_reducible assumption | with_reducible refine bA ?_ _ | with_reducible refine bD ?_ | with_reducible refine bN ?_ _ | ((with_reducible refine bS ?_ ?_ _); rotate_left; (simp; try omega)) | ((with_reducible refine bT ?_ ?_); rotate_left; with_reducible assumption) | with_reducible refine bT ?_ (by assumption))

/-- A slice of points of the call's own. -/
def RetPts (w : World) (l : List Pt) (e : Ending) (w' : World) : Prop :=
  ∃ A c, e = .returned (.slice A l.length c) ∧ Below w.heap.size w w' ∧ Own w' w.heap.size 30 2 ptC (.slice A l.length c) l

set_option maxHeartbeats 400000 in
theorem Clone_pt_spec (v : Value) (l : List Pt) (w : World) (h : Pts w v l) (hl : l.length ≤ 1048576) :
    Calls Try.prog 31 #[v] w (RetPts w l) := by
  have H := h
  obtain ⟨A, c, rfl, hn, hc, hR⟩ := h
  have hE := Lib.run_eql_slice_nil (P := Try.prog) (t := 35) (e := 30)
  rcases A with _ | ad
  · have hl0 : l = [] := by
      rcases l with _ | ⟨a, l⟩
      · rfl
      · obtain ⟨b, o, e, _⟩ := hR (by simp [ptC])
        cases e
    subst hl0
    clear hR H
    simp only [List.length_nil] at hn ⊢
    have hE1 : ∀ W : World, (binOp .eql 35 (.slice none 0 c) (.slice none 0 0)).run Try.prog W = .ok (.bool true) W := fun W => Lib.run_eql_slice_nil W _ 30 none _ c 0 0 Try.underlying35
    clear hE
    go_enter Try.func31, Try.ntmps31
    go_wp2
    go_ret
    exact ⟨_, _, rfl, bR w, Own.nil _ _ _ _ _⟩
  · have hE1 : ∀ W : World, (binOp .eql 35 (.slice (some ad) l.length c) (.slice none 0 0)).run Try.prog W = .ok (.bool false) W := fun W => Lib.run_eql_slice_nil W _ 30 (some ad) _ c 0 0 Try.underlying35
    clear hE hR
    have HH := Lib.hid H; clear H
    go_enter Try.func31, Try.ntmps31
    go_wp2_with
      (at_builtin
       refine wpList_appl _ rfl (.tmp 5) (.tmp 6) _ rfl (base := w.heap.size) elem_pt ptC_len ptC_one rfl (Own.lit _ _ _ _ ptC [] _ 0 _ rfl rfl (Nat.le_refl _) (le_maxLen (by omega)) rfl rfl) rfl (HH.out.mono (bA (bR w) _)) (by simp only [List.length_nil]; omega) (by simp only [List.length_nil]; omega) (by simp) ?_
       intro v1 w1 hown hg hat)
    go_ret
    obtain ⟨A1, c1, rfl, -⟩ := Own.sl hown
    simp only [List.nil_append] at hown ⊢
    exact ⟨A1, c1, rfl, bG (bA (bR w) _) hg (fun k hk => by have : w.heap.size = k := Option.some.inj hk; omega), hown⟩
end Go.Proofs.Ytibchmofckhofaa
