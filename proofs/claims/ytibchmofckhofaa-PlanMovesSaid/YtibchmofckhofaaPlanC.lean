/- Finding arcs: mapsheetsref14.Arc; degrees: plan.Degree, mapsheetsref14.Degree. -/
import Derived.Test.YtibchmofckhofaaPlanB
set_option linter.unusedSimpArgs false
set_option linter.unusedVariables false
namespace Go.Proofs.Ytibchmofckhofaa
open Go.RowKit

set_option maxHeartbeats 1000000 in
theorem RArc_spec (v : Value) (p : Pl) (id : Int) (w : World) (h : PlV w v p) (hsh : Short p) :
    Calls Try.prog 14 #[v, .int .i64 id] w (ArRes w (findAr p.arcs id)) := by
  obtain ⟨vn, _, vf, al, rfl, hpa, -, ⟨⟨An, cn, rfl, hn1, hn2, hR⟩, hV⟩, -⟩ := h
  unfold maxLen at hn2
  unfold Short at hsh
  rw [hpa] at hsh ⊢
  clear hpa
  have hsh' : ∀ k (hk : k < al.length), al[k].1.via.length ≤ 1048576 := fun k hk => hsh _ (List.mem_map_of_mem (List.getElem_mem hk))
  have HV := Lib.hid hV; clear hV hsh
  have HSh := Lib.hid hsh'; clear hsh'
  go_enter Try.func14, Try.ntmps14
  go_wp2_with fail
  go_loopw [6] (fun i wr => ∃ k : Nat, k ≤ al.length ∧ i = .int .i64 k ∧ Below w.heap.size w wr ∧ Blk wr w.heap.size 26 #[vn, .slice An al.length cn, vf] ∧ Blk wr (w.heap.size + 1) 37 #[.int .i64 0, .int .i64 0, .int .i64 0, .slice none 0 0, .int .i64 0, .int .i64 0] ∧ ∀ j (hj : j < al.length), j < k → (al[j].1.id == id) = false) (fun i _ => al.length - (intOf i).toNat)
  case atStart => exact ⟨0, Nat.zero_le _, rfl, bA (bA (bR w) _) _, (Blk.made rfl _ _).alloc _, Blk.made (by simp) _ _, fun j _ h => by omega⟩
  case round =>
    obtain ⟨k, hk, rfl, hb, X2, X4, hno⟩ := hrel
    have Hb := Lib.hid hb
    have Hno := Lib.hid hno
    clear hb hno
    try clear X2l
    try clear X2a
    try clear X2b
    try clear X2c
    try clear X2fa
    try clear X2fb
    try clear X2fc
    obtain ⟨X2l, X2a, X2b, X2c, -, -, -⟩ := X2.facts3
    try clear X4l
    try clear X4a
    try clear X4b
    try clear X4c
    try clear X4d
    try clear X4e
    try clear X4f
    try clear X4fa
    try clear X4fb
    try clear X4fc
    try clear X4fd
    try clear X4fe
    try clear X4ff
    obtain ⟨X4l, X4a, X4b, X4c, X4d, X4e, X4f, X4fa, X4fb, X4fc, X4fd, X4fe, X4ff⟩ := X4.facts6
    by_cases hlt : k < al.length
    · obtain ⟨b, o, rfl, hlb, c0, c1, c2, c3, c4, c5⟩ := (hR.mono Hb.out).ar hlt
      have HR := Lib.hid hR; clear hR
      have hvk := (HV.out k hlt)
      obtain ⟨Av, cv, hv, -⟩ := hvk
      have hvk := (HV.out k hlt)
      rw [hv] at c3 hvk
      have Hvk := Lib.hid hvk; clear hvk hv
      cases he : (al[k].1.id == id)
      · go_wp2
        go_roundw
        case rel => exact ⟨k + 1, by omega, by go_num, Hb.out, X2, X4, all_succ (p := fun x => (x.1.id == id) = false) Hno.out hlt he⟩
        case measure => simp [intOf]; omega
      · have hf := findAr_hit al id k hlt Hno.out he
        have Hf := Lib.hid hf; clear hf
        have hsv := HSh.out k hlt
        go_wp2_with
          (at_builtin
           refine wpList_appl _ rfl (.tmp 28) (.tmp 30) _ rfl (base := wr.heap.size + 1) elem_pt ptC_len ptC_one rfl (Own.lit _ _ _ _ ptC [] _ 0 _ (by simp) rfl (by simp) (le_maxLen (by omega)) rfl rfl) rfl (Hvk.out.mono (bA (bA Hb.out _) _)) (by simp only [List.length_nil]; omega) (by simp only [List.length_nil]; omega) (by simp) ?_
           intro v1 w1 hown hg hat
           have hb1 : Below (wr.alloc (.cells #[.int .i64 al[k].1.id, .int .i64 al[k].1.fr, .int .i64 al[k].1.dst, .slice Av al[k].1.via.length cv, .int .i64 al[k].1.left, .int .i64 al[k].1.right] 37)).heap.size (wr.alloc (.cells #[.int .i64 al[k].1.id, .int .i64 al[k].1.fr, .int .i64 al[k].1.dst, .slice Av al[k].1.via.length cv, .int .i64 al[k].1.left, .int .i64 al[k].1.right] 37)) w1 := bG (bA (bR _) _) hg (fun g hk => by have : wr.heap.size + 1 = g := Option.some.inj hk; simp; omega)
           simp only [List.nil_append] at hown
           obtain ⟨A1, cc1, rfl, -⟩ := Own.sl hown
           have Hown := Lib.hid hown
           have Bw : Below w.heap.size w w1 := bT (bA Hb.out _) hb1
           have X7 : Blk w1 wr.heap.size 37 #[.int .i64 al[k].1.id, .int .i64 al[k].1.fr, .int .i64 al[k].1.dst, .slice Av al[k].1.via.length cv, .int .i64 al[k].1.left, .int .i64 al[k].1.right] := (Blk.made rfl _ _).keep hb1
           have hw8 : w.heap.size + 1 < wr.heap.size := by omega
           have hw7 : w.heap.size + 1 ≠ wr.heap.size := by omega
           replace X4 := (X4.alloc _).keep hb1
           clear hb1 c0 c1 c2 c3 c4 c5 hlb hown hg hat
           try clear X4l
           try clear X4a
           try clear X4b
           try clear X4c
           try clear X4d
           try clear X4e
           try clear X4f
           try clear X4fa
           try clear X4fb
           try clear X4fc
           try clear X4fd
           try clear X4fe
           try clear X4ff
           obtain ⟨X4l, X4a, X4b, X4c, X4d, X4e, X4f, X4fa, X4fb, X4fc, X4fd, X4fe, X4ff⟩ := X4.facts6
           try clear X7l
           try clear X7a
           try clear X7b
           try clear X7c
           try clear X7d
           try clear X7e
           try clear X7f
           try clear X7fa
           try clear X7fb
           try clear X7fc
           try clear X7fd
           try clear X7fe
           try clear X7ff
           obtain ⟨X7l, X7a, X7b, X7c, X7d, X7e, X7f, X7fa, X7fb, X7fc, X7fd, X7fe, X7ff⟩ := X7.facts6
           )
        have hszr := Hb.out.size
        have ne7 : (Value.slice A1 al[k].1.via.length cc1).ownBlock ≠ some wr.heap.size := fun e => by have := (Hown.out.lt _ e).1; omega
        have ne4 : (Value.slice A1 al[k].1.via.length cc1).ownBlock ≠ some (w.heap.size + 1) := fun e => by have := (Hown.out.lt _ e).1; omega
        have HP := Own.sl (((((((Hown.out.far (p := ⟨wr.heap.size, 3, none⟩) ne7 (.slice A1 al[k].1.via.length cc1)).far (p := ⟨w.heap.size + 1, 0, none⟩) ne4 (.int .i64 al[k].1.id)).far (p := ⟨w.heap.size + 1, 1, none⟩) ne4 (.int .i64 al[k].1.fr)).far (p := ⟨w.heap.size + 1, 2, none⟩) ne4 (.int .i64 al[k].1.dst)).far (p := ⟨w.heap.size + 1, 3, none⟩) ne4 (.slice A1 al[k].1.via.length cc1)).far (p := ⟨w.heap.size + 1, 4, none⟩) ne4 (.int .i64 al[k].1.left)).far (p := ⟨w.heap.size + 1, 5, none⟩) ne4 (.int .i64 al[k].1.right))
        refine res_cell_tmp (g := w.heap.size + 1) (cs := #[.int .i64 al[k].1.id, .int .i64 al[k].1.fr, .int .i64 al[k].1.dst, .slice A1 al[k].1.via.length cc1, .int .i64 al[k].1.left, .int .i64 al[k].1.right]) rfl struct_ar rfl rfl (Blk.put6 (X4.far (p := ⟨wr.heap.size, 3, none⟩) hw7 _)) ⟨.slice A1 al[k].1.via.length cc1, by rw [Hf.out]; rfl, ?_, by rw [Hf.out]; exact HP⟩
        repeat (first | with_reducible exact bR _ | with_reducible assumption | with_reducible refine bA ?_ _ | with_reducible refine bD ?_ | with_reducible refine bN ?_ _ | ((with_reducible refine bS ?_ ?_ _); rotate_left; (simp; try omega)) | ((with_reducible refine bT ?_ ?_); rotate_left; with_reducible assumption) | with_reducible refine bT ?_ (by assumption))
    · have hf := findAr_miss al id (fun j hj => Hno.out j hj (by omega))
      have Hf := Lib.hid hf; clear hf
      go_wp2
      have Bw := Hb.out
      refine res_cell_tmp (g := w.heap.size + 1) (cs := #[.int .i64 0, .int .i64 0, .int .i64 0, .slice none 0 0, .int .i64 0, .int .i64 0]) rfl struct_ar rfl rfl (Blk.put6 X4) ⟨.slice none 0 0, by rw [Hf.out]; rfl, ?_, by rw [Hf.out]; exact Sl.nil _⟩
      repeat (first | with_reducible exact bR _ | with_reducible assumption | with_reducible refine bA ?_ _ | with_reducible refine bD ?_ | with_reducible refine bN ?_ _ | ((with_reducible refine bS ?_ ?_ _); rotate_left; (simp; try omega)) | ((with_reducible refine bT ?_ ?_); rotate_left; with_reducible assumption) | with_reducible refine bT ?_ (by assumption))

/-- How many ends of arcs lie at a node. -/
def degS (l : List Ar) (id : Int) : Int := (l.map fun a => (if a.fr = id then (1 : Int) else 0) + (if a.dst = id then 1 else 0)).sum
theorem degS_bd (l : List Ar) (id : Int) : 0 ≤ degS l id ∧ degS l id ≤ 2 * l.length := by
  unfold degS
  induction l with
  | nil => simp
  | cons a l ih =>
    simp only [List.map_cons, List.sum_cons, List.length_cons]
    split <;> split <;> omega
theorem degS_succ (al : List (Ar × Value)) (id : Int) (k : Nat) (hk : k < al.length) :
    degS ((al.take (k + 1)).map (·.1)) id = degS ((al.take k).map (·.1)) id + ((if al[k].1.fr = id then (1 : Int) else 0) + (if al[k].1.dst = id then 1 else 0)) := by
  unfold degS
  rw [List.take_succ_eq_append_getElem hk]
  simp only [List.map_append, List.sum_append, List.map_cons, List.map_nil, List.sum_cons, List.sum_nil]
  omega

set_option maxHeartbeats 400000 in
theorem Degree_spec (v : Value) (p : Pl) (id : Int) (w : World) (h : PlV w v p) (hl : p.arcs.length ≤ 1099511627776) :
    Calls Try.prog 19 #[v, .int .i64 id] w fun e w' => e = .returned (.int .i64 (degS p.arcs id)) ∧ Below w.heap.size w w' := by
  obtain ⟨vn, _, vf, al, rfl, hpa, -, ⟨⟨An, cn, rfl, hn1, hn2, hR⟩, hV⟩, -⟩ := h
  unfold maxLen at hn2
  rw [hpa] at hl ⊢
  rw [List.length_map] at hl
  clear hpa
  have HV := Lib.hid hV; clear hV
  go_enter Try.func19, Try.ntmps19
  go_wp2_with fail
  go_loopw [4, 10] (fun n i wr => ∃ k : Nat, k ≤ al.length ∧ i = .int .i64 k ∧ n = .int .i64 (degS ((al.take k).map (·.1)) id) ∧ Below w.heap.size w wr) (fun _ i _ => al.length - (intOf i).toNat)
  case atStart => exact ⟨0, Nat.zero_le _, rfl, rfl, bA (bR w) _⟩
  case round =>
    obtain ⟨k, hk, rfl, rfl, hb⟩ := hrel
    have Hb := Lib.hid hb
    clear hb
    have hd := degS_bd ((al.take k).map (·.1)) id
    have hl2 : ((al.take k).map (·.1)).length ≤ al.length := by simp; omega
    by_cases hlt : k < al.length
    · obtain ⟨b, o, rfl, hlb, c0, c1, c2, c3, c4, c5⟩ := (hR.mono Hb.out).ar hlt
      have HR := Lib.hid hR; clear hR
      obtain ⟨Av, cv, hv, -⟩ := (HV.out k hlt)
      rw [hv] at c3
      clear hv
      have Hs := Lib.hid (degS_succ al id k hlt)
      generalize degS ((al.take k).map (·.1)) id = d at *
      go_wp2
      all_goals
        go_roundw
        case rel => exact ⟨k + 1, by omega, by go_num, by rw [Hs.out]; simp_all <;> go_num, bA Hb.out _⟩
        case measure => simp [intOf]; omega
    · have hE : (al.take k).map (·.1) = al.map (·.1) := by rw [List.take_of_length_le (by omega)]
      rw [hE]
      go_wp2
      go_ret
      exact ⟨ret_int rfl, Hb.out⟩

set_option maxHeartbeats 400000 in
theorem RDegree_spec (v : Value) (p : Pl) (id : Int) (w : World) (h : PlV w v p) (hl : p.arcs.length ≤ 1099511627776) :
    Calls Try.prog 20 #[v, .int .i64 id] w fun e w' => e = .returned (.int .i64 (degS p.arcs id)) ∧ Below w.heap.size w w' := by
  obtain ⟨vn, _, vf, al, rfl, hpa, -, ⟨⟨An, cn, rfl, hn1, hn2, hR⟩, hV⟩, -⟩ := h
  unfold maxLen at hn2
  rw [hpa] at hl ⊢
  rw [List.length_map] at hl
  clear hpa hV
  go_enter Try.func20, Try.ntmps20
  go_wp2_with fail
  go_loopw [5, 6] (fun n i wr => ∃ k : Nat, k ≤ al.length ∧ i = .int .i64 k ∧ n = .int .i64 (degS ((al.take k).map (·.1)) id) ∧ Below w.heap.size w wr ∧ Blk wr w.heap.size 26 #[vn, .slice An al.length cn, vf]) (fun _ i _ => al.length - (intOf i).toNat)
  case atStart => exact ⟨0, Nat.zero_le _, rfl, rfl, bA (bR w) _, Blk.made rfl _ _⟩
  case round =>
    obtain ⟨k, hk, rfl, rfl, hb, X2⟩ := hrel
    have Hb := Lib.hid hb
    clear hb
    try clear X2l
    try clear X2a
    try clear X2b
    try clear X2c
    try clear X2fa
    try clear X2fb
    try clear X2fc
    obtain ⟨X2l, X2a, X2b, X2c, -, -, -⟩ := X2.facts3
    have hd := degS_bd ((al.take k).map (·.1)) id
    have hl2 : ((al.take k).map (·.1)).length ≤ al.length := by simp; omega
    by_cases hlt : k < al.length
    · obtain ⟨b, o, rfl, hlb, c0, c1, c2, -, c4, c5⟩ := (hR.mono Hb.out).ar hlt
      have HR := Lib.hid hR; clear hR
      have Hs := Lib.hid (degS_succ al id k hlt)
      generalize degS ((al.take k).map (·.1)) id = d at *
      go_wp2
      all_goals
        go_roundw
        case rel => exact ⟨k + 1, by omega, by go_num, by rw [Hs.out]; simp_all <;> go_num, Hb.out, X2⟩
        case measure => simp [intOf]; omega
    · have hE : (al.take k).map (·.1) = al.map (·.1) := by rw [List.take_of_length_le (by omega)]
      rw [hE]
      go_wp2
      go_ret
      exact ⟨ret_int rfl, Hb.out⟩
end Go.Proofs.Ytibchmofckhofaa
