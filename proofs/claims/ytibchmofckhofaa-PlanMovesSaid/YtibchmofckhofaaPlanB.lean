/- Finding arcs: plan.Arc, mapsheetsref14.Arc. -/
import Derived.Test.YtibchmofckhofaaPlanA
set_option linter.unusedSimpArgs false
set_option linter.unusedVariables false
namespace Go.Proofs.Ytibchmofckhofaa
open Go.RowKit

def findAr (l : List Ar) (id : Int) : Option Ar := l.find? (fun a => a.id == id)
def ar0 : Ar := ⟨0, 0, 0, [], 0, 0⟩
def ArRes (w : World) (r : Option Ar) (e : Ending) (w' : World) : Prop :=
  ∃ v', e = .returned (.tuple #[arV (r.getD ar0) v', .bool r.isSome]) ∧ Below w.heap.size w w' ∧ Pts w' v' (r.getD ar0).via
/-- No Via is very long. -/
def Short (p : Pl) : Prop := ∀ a ∈ p.arcs, a.via.length ≤ 1048576

theorem Sl.nil (w : World) : Sl w (.slice none 0 0) 0 [] := ⟨none, 0, rfl, Nat.le_refl _, le_maxLen (by omega), Row.nil⟩

theorem findAr_hit (al : List (Ar × Value)) (id : Int) (k : Nat) (hk : k < al.length) (h : ∀ j (hj : j < al.length), j < k → (al[j].1.id == id) = false) (he : (al[k].1.id == id) = true) :
    findAr (al.map (·.1)) id = some al[k].1 := by
  have := find_hit al (fun a => a.1.id == id) k hk h he
  rw [findAr, List.find?_map]
  show (al.find? (fun a => a.1.id == id)).map _ = _
  rw [this]
  rfl
theorem findAr_miss (al : List (Ar × Value)) (id : Int) (h : ∀ j (hj : j < al.length), (al[j].1.id == id) = false) : findAr (al.map (·.1)) id = none := by
  have := find_miss al (fun a => a.1.id == id) h
  rw [findAr, List.find?_map]
  show (al.find? (fun a => a.1.id == id)).map _ = _
  rw [this]
  rfl

set_option maxHeartbeats 4000000 in
theorem Arc_spec (v : Value) (p : Pl) (id : Int) (w : World) (h : PlV w v p) (hsh : Short p) :
    Calls Try.prog 13 #[v, .int .i64 id] w (ArRes w (findAr p.arcs id)) := by
  obtain ⟨vn, _, vf, al, rfl, hpa, -, ⟨⟨An, cn, rfl, hn1, hn2, hR⟩, hV⟩, -⟩ := h
  unfold maxLen at hn2
  unfold Short at hsh
  rw [hpa] at hsh ⊢
  clear hpa
  have hsh' : ∀ k (hk : k < al.length), al[k].1.via.length ≤ 1048576 := fun k hk => hsh _ (List.mem_map_of_mem (List.getElem_mem hk))
  have HV := Lib.hid hV; clear hV hsh
  have HSh := Lib.hid hsh'; clear hsh'
  go_enter Try.func13, Try.ntmps13
  go_wp2_with fail
  go_loopw [11] (fun i wr => ∃ k : Nat, k ≤ al.length ∧ i = .int .i64 k ∧ Below w.heap.size w wr ∧ Blk wr (w.heap.size + 1) 37 #[.int .i64 0, .int .i64 0, .int .i64 0, .slice none 0 0, .int .i64 0, .int .i64 0] ∧ ∀ j (hj : j < al.length), j < k → (al[j].1.id == id) = false) (fun i _ => al.length - (intOf i).toNat)
  case atStart => exact ⟨0, Nat.zero_le _, rfl, bA (bA (bR w) _) _, Blk.made (by simp) _ _, fun j _ h => by omega⟩
  case round =>
    obtain ⟨k, hk, rfl, hb, X4, hno⟩ := hrel
    have Hb := Lib.hid hb
    have Hno := Lib.hid hno
    clear hb hno
    try clear X4l
    try clear X4a
    try clear X4b
    try clear X4c
    try clear X4d
    try clear X4e
    try clear X4f
    try clear X4fa
    try clear X4fb
    try clear X4fc
    try clear X4fd
    try clear X4fe
    try clear X4ff
    obtain ⟨X4l, X4a, X4b, X4c, X4d, X4e, X4f, X4fa, X4fb, X4fc, X4fd, X4fe, X4ff⟩ := X4.facts6
    by_cases hlt : k < al.length
    · obtain ⟨b, o, rfl, hlb, c0, c1, c2, c3, c4, c5⟩ := (hR.mono Hb.out).ar hlt
      have HR := Lib.hid hR; clear hR
      have hvk := (HV.out k hlt)
      obtain ⟨Av, cv, hv, -⟩ := hvk
      have hvk := (HV.out k hlt)
      rw [hv] at c3 hvk
      generalize hvl : al[k].1.via.length = vl at *
      have Hvl := Lib.hid hvl
      have Hvk := Lib.hid hvk; clear hvk hv hvl
      cases he : (al[k].1.id == id)
      · go_wp2
        go_roundw
        case rel => exact ⟨k + 1, by omega, by go_num, bA Hb.out _, X4.alloc _, all_succ (p := fun x => (x.1.id == id) = false) Hno.out hlt he⟩
        case measure => simp [intOf]; omega
      · have hf := findAr_hit al id k hlt Hno.out he
        have Hf := Lib.hid hf; clear hf
        go_wp2_with fail
        refine (Clone_pt_spec _ _ _ (Hvk.out.mono (bA Hb.out _)) (HSh.out k hlt)).mono ?_
        rintro e w1 ⟨A1, cc1, rfl, hb1, hown⟩
        have Bw : Below w.heap.size w w1 := bT (bA Hb.out _) hb1
        have X7 : Blk w1 wr.heap.size 37 #[.int .i64 al[k].1.id, .int .i64 al[k].1.fr,   .int .i64 al[k].1.dst, .slice Av vl cv, .int .i64 al[k].1.left, .int .i64 al[k].1.right] := (Blk.made rfl _ _).keep hb1
        have hw8 : w.heap.size + 1 < wr.heap.size := by omega
        have hw7 : w.heap.size + 1 ≠ wr.heap.size := by omega
        replace X4 := (X4.alloc _).keep hb1
        have hown' := hown.mono_base (b' := wr.heap.size + 1) (by simp)
        have hP := Own.sl hown
        have Hown := Lib.hid hown'
        clear hb1 c0 c1 c2 c3 c4 c5 hlb hown hown' hP
        try clear X4l
        try clear X4a
        try clear X4b
        try clear X4c
        try clear X4d
        try clear X4e
        try clear X4f
        try clear X4fa
        try clear X4fb
        try clear X4fc
        try clear X4fd
        try clear X4fe
        try clear X4ff
        obtain ⟨X4l, X4a, X4b, X4c, X4d, X4e, X4f, X4fa, X4fb, X4fc, X4fd, X4fe, X4ff⟩ := X4.facts6
        try clear X7l
        try clear X7a
        try clear X7b
        try clear X7c
        try clear X7d
        try clear X7e
        try clear X7f
        try clear X7fa
        try clear X7fb
        try clear X7fc
        try clear X7fd
        try clear X7fe
        try clear X7ff
        obtain ⟨X7l, X7a, X7b, X7c, X7d, X7e, X7f, X7fa, X7fb, X7fc, X7fd, X7fe, X7ff⟩ := X7.facts6
        go_wp2_with fail
        have hszr := Hb.out.size
        have ne7 : (Value.slice A1 al[k].1.via.length cc1).ownBlock ≠ some wr.heap.size := fun e => by have := (Hown.out.lt _ e).1; omega
        have ne4 : (Value.slice A1 al[k].1.via.length cc1).ownBlock ≠ some (w.heap.size + 1) := fun e => by have := (Hown.out.lt _ e).1; omega
        have HP := Own.sl (((((((Hown.out.far (p := ⟨wr.heap.size, 3, none⟩) ne7 (.slice A1 al[k].1.via.length cc1)).far (p := ⟨w.heap.size + 1, 0, none⟩) ne4 (.int .i64 al[k].1.id)).far (p := ⟨w.heap.size + 1, 1, none⟩) ne4 (.int .i64 al[k].1.fr)).far (p := ⟨w.heap.size + 1, 2, none⟩) ne4 (.int .i64 al[k].1.dst)).far (p := ⟨w.heap.size + 1, 3, none⟩) ne4 (.slice A1 al[k].1.via.length cc1)).far (p := ⟨w.heap.size + 1, 4, none⟩) ne4 (.int .i64 al[k].1.left)).far (p := ⟨w.heap.size + 1, 5, none⟩) ne4 (.int .i64 al[k].1.right))
        refine res_cell_tmp (g := w.heap.size + 1) (cs := #[.int .i64 al[k].1.id, .int .i64 al[k].1.fr, .int .i64 al[k].1.dst, .slice A1 al[k].1.via.length cc1, .int .i64 al[k].1.left, .int .i64 al[k].1.right]) rfl struct_ar rfl rfl (Blk.put6 (X4.far (p := ⟨wr.heap.size, 3, none⟩) hw7 _)) ⟨.slice A1 al[k].1.via.length cc1, by rw [Hf.out]; rfl, ?_, by rw [Hf.out]; exact HP⟩
        repeat (first | with_reducible exact bR _ | with_reducible assumption | with_reducible refine bA ?_ _ | with_reducible refine bD ?_ | with_reducible refine bN ?_ _ | ((with_reducible refine bS ?_ ?_ _); rotate_left; (simp; try omega)) | ((with_reducible refine bT ?_ ?_); rotate_left; with_reducible assumption) | with_reducible refine bT ?_ (by assumption))
    · have hf := findAr_miss al id (fun j hj => Hno.out j hj (by omega))
      have Hf := Lib.hid hf; clear hf
      go_wp2
      have Bw := Hb.out
      refine res_cell_tmp (g := w.heap.size + 1) (cs := #[.int .i64 0, .int .i64 0, .int .i64 0, .slice none 0 0, .int .i64 0, .int .i64 0]) rfl struct_ar rfl rfl (Blk.put6 X4) ⟨.slice none 0 0, by rw [Hf.out]; rfl, ?_, by rw [Hf.out]; exact Sl.nil _⟩
      repeat (first | with_reducible exact bR _ | with_reducible assumption | with_reducible refine bA ?_ _ | with_reducible refine bD ?_ | with_reducible refine bN ?_ _ | ((with_reducible refine bS ?_ ?_ _); rotate_left; (simp; try omega)) | ((with_reducible refine bT ?_ ?_); rotate_left; with_reducible assumption) | with_reducible refine bT ?_ (by assumption))
end Go.Proofs.Ytibchmofckhofaa
