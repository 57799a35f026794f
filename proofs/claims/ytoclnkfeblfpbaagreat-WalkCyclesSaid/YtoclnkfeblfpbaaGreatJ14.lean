/- Plain law: the dart that follows is one to one on the darts; the cycles divide them. No walk here. walk: arcOf, Start, Side; mapsheetsref15: Start, Side. mapsheetsref15: arc, valid, Has; walk.preceding. Plain law: twice the area under a path, a dart, a list of darts. No walk here. mapsheetsref15.Path. -/
import Derived.Test.YtoclnkfeblfpbaaGreatJ12
import Derived.Test.YtoclnkfeblfpbaaGreatJ13
import Derived.Test.YtoclnkfeblfpbaaGreatJ02
import Derived.Test.YtoclnkfeblfpbaaGreatJ09
import Derived.Test.YtoclnkfeblfpbaaGreatJ10
set_option linter.unusedSimpArgs false
set_option linter.unusedVariables false
namespace Go.Proofs.YtoclnkfeblfpbaaGreat
open Go.RowKit

theorem findIdx_at {l : List Int} (hl : l.Nodup) {i : Nat} (hi : i < l.length) : l.findIdx? (fun x => x == l[i]) = some i := by
  rw [List.findIdx?_eq_some_iff_getElem]
  refine ⟨hi, by simp, fun j hj => ?_⟩
  rw [List.Nodup, List.pairwise_iff_getElem] at hl
  have := hl j i (by omega) hi hj
  simpa using this
theorem precD_at {l : List Int} (hl : l.Nodup) {i : Nat} (hi : i < l.length) : precD l l[i] = l[(i + l.length - 1) % l.length]'(Nat.mod_lt _ (by omega)) := by
  unfold precD
  rw [findIdx_at hl hi]
  simp only []
  rw [List.getD_eq_getElem?_getD, List.getElem?_eq_getElem (Nat.mod_lt _ (by omega))]
  rfl
theorem precD_mem {l : List Int} (hl : l.Nodup) {d : Int} (hd : d ∈ l) : precD l d ∈ l := by
  obtain ⟨i, hi, rfl⟩ := List.mem_iff_getElem.1 hd
  rw [precD_at hl hi]
  exact List.getElem_mem _
theorem mod_inj {i j n : Nat} (hi : i < n) (hj : j < n) (h : (i + n - 1) % n = (j + n - 1) % n) : i = j := by
  have key : ∀ k, k < n → (k + n - 1) % n = if k = 0 then n - 1 else k - 1 := fun k hk => by
    split
    · subst k; rw [Nat.mod_eq_of_lt (by omega)]; omega
    · rw [show k + n - 1 = (k - 1) + n by omega, Nat.add_mod_right, Nat.mod_eq_of_lt (by omega)]
  rw [key i hi, key j hj] at h
  split at h <;> split at h <;> omega
theorem precD_inj {l : List Int} (hl : l.Nodup) {d e : Int} (hd : d ∈ l) (he : e ∈ l) (h : precD l d = precD l e) : d = e := by
  obtain ⟨i, hi, rfl⟩ := List.mem_iff_getElem.1 hd
  obtain ⟨j, hj, rfl⟩ := List.mem_iff_getElem.1 he
  rw [precD_at hl hi, precD_at hl hj] at h
  have hl' := hl
  rw [List.Nodup, List.pairwise_iff_getElem] at hl'
  have e : (i + l.length - 1) % l.length = (j + l.length - 1) % l.length := by
    rcases Nat.lt_trichotomy ((i + l.length - 1) % l.length) ((j + l.length - 1) % l.length) with h1 | h1 | h1
    · exact absurd h (hl' _ _ _ _ h1)
    · exact h1
    · exact absurd h.symm (hl' _ _ _ _ h1)
  have := mod_inj hi hj e
  subst this; rfl

theorem neg_dart {p : Pl} {d : Int} (hd : d ∈ dartsD p) : -d ∈ dartsD p := by
  obtain ⟨a, ha, e⟩ := mem_dartsD.1 hd
  refine mem_dartsD.2 ⟨a, ha, ?_⟩
  rcases e with rfl | rfl
  · exact .inr rfl
  · exact .inl (Int.neg_neg _)
section
variable {p : Pl} (h : Valid p)
include h
theorem Valid.arcD_some {d : Int} (hd : d ∈ dartsD p) : (arcD p d).isSome = true := by
  obtain ⟨a, ha, e⟩ := mem_dartsD.1 hd
  rcases e with rfl | rfl
  · rw [h.arcD_pos ha]; rfl
  · rw [h.arcD_neg ha]; rfl
/-- a dart begins at a node, among its darts -/
theorem Valid.start_node {d : Int} (hd : d ∈ dartsD p) : ∃ n ∈ p.nodes, n.id = startD p d ∧ d ∈ dartL p.arcs n.id := by
  obtain ⟨a, ha, e⟩ := mem_dartsD.1 hd
  rcases e with rfl | rfl
  · obtain ⟨n, hn, e, -⟩ := h.sound.at_fr ha
    exact ⟨n, hn, by rw [h.start_pos ha, e], mem_dartL.2 ⟨a, ha, .inl ⟨rfl, e.symm⟩⟩⟩
  · obtain ⟨n, hn, e, -⟩ := h.sound.at_dst ha
    exact ⟨n, hn, by rw [h.start_neg ha, e], mem_dartL.2 ⟨a, ha, .inr ⟨rfl, e.symm⟩⟩⟩
theorem Valid.dartL_start {n d : Int} (hd : d ∈ dartL p.arcs n) : d ∈ dartsD p ∧ startD p d = n := by
  obtain ⟨a, ha, e⟩ := mem_dartL.1 hd
  rcases e with ⟨rfl, e⟩ | ⟨rfl, e⟩
  · exact ⟨mem_dartsD.2 ⟨a, ha, .inl rfl⟩, by rw [h.start_pos ha, e]⟩
  · exact ⟨mem_dartsD.2 ⟨a, ha, .inr rfl⟩, by rw [h.start_neg ha, e]⟩
theorem Valid.around_nodup {n : Nd} (hn : n ∈ p.nodes) : (aroundD p n.id).Nodup := (h.around_perm hn).nodup_iff.2 h.dartL_nodup
theorem Valid.next_eq {d : Int} (hd : d ∈ dartsD p) : ∃ n ∈ p.nodes, n.id = startD p (-d) ∧ -d ∈ aroundD p n.id ∧ nextD p d = precD (aroundD p n.id) (-d) := by
  obtain ⟨n, hn, e, hm⟩ := h.start_node (neg_dart hd)
  refine ⟨n, hn, e, (h.around_perm hn).symm.subset hm, ?_⟩
  unfold nextD
  rw [if_pos (h.arcD_some hd), e]
theorem Valid.next_mem {d : Int} (hd : d ∈ dartsD p) : nextD p d ∈ dartsD p ∧ startD p (nextD p d) = startD p (-d) := by
  obtain ⟨n, hn, e, hm, hx⟩ := h.next_eq hd
  rw [hx]
  have h1 := precD_mem (h.around_nodup hn) hm
  have h2 := h.dartL_start ((h.around_perm hn).subset h1)
  exact ⟨h2.1, by rw [h2.2, e]⟩
theorem Valid.next_inj {d e : Int} (hd : d ∈ dartsD p) (he : e ∈ dartsD p) (hx : nextD p d = nextD p e) : d = e := by
  obtain ⟨n, hn, e1, m1, x1⟩ := h.next_eq hd
  obtain ⟨m, hm, e2, m2, x2⟩ := h.next_eq he
  have hs := (h.next_mem hd).2
  rw [hx, (h.next_mem he).2, ← e2, ← e1] at hs
  rw [x1, x2, hs] at hx
  rw [hs] at m2
  have := precD_inj (h.around_nodup hn) m1 m2 hx
  omega
theorem Valid.darts_nodup : (dartsD p).Nodup := h.darts_sorted.imp (fun h => by omega)
theorem Valid.cyc : Cyc (nextD p) (dartsD p) (dartsD p) (cyclesD p) :=
  cyc_all (fun x hx => (h.next_mem hx).1) (fun x hx y hy => h.next_inj hx hy) h.darts_sorted
theorem Valid.cyc_perm : (cyclesD p).flatten.Perm (dartsD p) := h.cyc.perm (fun x hx => (h.next_mem hx).1) h.darts_nodup
/-- Around, over all nodes: each dart once. -/
theorem Valid.all_around : (p.nodes.flatMap fun n => aroundD p n.id).Perm (dartsD p) := by
  refine (List.perm_ext_iff_of_nodup ?_ h.darts_nodup).2 fun d => ?_
  · unfold List.Nodup
    rw [List.pairwise_flatMap]
    refine ⟨fun n hn => h.around_nodup hn, ?_⟩
    have hs := h.sound.nodes
    rw [List.pairwise_map] at hs
    rw [List.pairwise_iff_getElem] at hs ⊢
    intro i j hi hj hij x hx y hy e
    subst e
    have h1 := (h.dartL_start ((h.around_perm (List.getElem_mem hi)).subset hx)).2
    have h2 := (h.dartL_start ((h.around_perm (List.getElem_mem hj)).subset hy)).2
    have := hs i j hi hj hij
    omega
  · rw [List.mem_flatMap]
    constructor
    · rintro ⟨n, hn, hd⟩
      exact (h.dartL_start ((h.around_perm hn).subset hd)).1
    · intro hd
      obtain ⟨n, hn, -, hm⟩ := h.start_node hd
      exact ⟨n, hn, (h.around_perm hn).symm.subset hm⟩
end
end Go.Proofs.YtoclnkfeblfpbaaGreat
namespace Go.Proofs.YtoclnkfeblfpbaaGreat
open Go.RowKit

theorem ArRes.form {w : World} {r : Option Ar} {e : Ending} {w' : World} (h : ArRes w r e w') : ∃ A c, e = .returned (.tuple #[.agg #[.int .i64 (r.getD ar0).id, .int .i64 (r.getD ar0).fr, .int .i64 (r.getD ar0).dst, .slice A (r.getD ar0).via.length c, .int .i64 (r.getD ar0).left, .int .i64 (r.getD ar0).right], .bool r.isSome]) ∧ Below w.heap.size w w' ∧ Pts w' (.slice A (r.getD ar0).via.length c) (r.getD ar0).via := by
  obtain ⟨v', rfl, hb, hp⟩ := h
  obtain ⟨A, c, rfl, h1, h2, h3⟩ := hp
  exact ⟨A, c, rfl, hb, A, c, rfl, h1, h2, h3⟩
theorem wfI_bd {n : Int} (h : wfI n) : -9223372036854775808 ≤ n ∧ n ≤ 9223372036854775807 := by
  unfold wfI Lit.wf at h
  simp only [Bool.and_eq_true, decide_eq_true_eq] at h
  have h1 : IntKind.i64.min = -9223372036854775808 := by decide
  have h2 : IntKind.i64.max = 9223372036854775807 := by decide
  rw [h1, h2] at h
  exact h
theorem arcD_max {p : Pl} {d : Int} (h0 : d ≠ 0) (h1 : d ≠ -9223372036854775808) : findAr p.arcs (max d (-d)) = arcD p d := by
  unfold arcD minI absI
  rw [if_neg (by omega)]
  congr 1
  split <;> omega

/-- an arc (its inner points not told), and whether there is one -/
def ArResI (w : World) (r : Option Ar) (e : Ending) (w' : World) : Prop :=
  ∃ A n c, e = .returned (.tuple #[.agg #[.int .i64 (r.getD ar0).id, .int .i64 (r.getD ar0).fr, .int .i64 (r.getD ar0).dst, .slice A n c, .int .i64 (r.getD ar0).left, .int .i64 (r.getD ar0).right], .bool r.isSome]) ∧ Below w.heap.size w w'
set_option maxRecDepth 100000 in
set_option maxHeartbeats 4000000 in
theorem arcOf_spec (v : Value) (p : Pl) (d : Int) (w : World) (h : PlV w v p) (hs : ShortL p) (hd : wfI d) : Calls Tryz.prog 26 #[v, .int .i64 d] w (ArResI w (arcD p d)) := by
  have TA := fun W (hW : Below w.heap.size w W) => Arc_specL v p (max d (-d)) W (h.mono hW) hs
  obtain ⟨_, _, _, al, rfl, hpa, ⟨An, cn, rfl, -⟩, ⟨⟨Aa, ca, rfl, -⟩, -⟩, ⟨Af, cf, rfl, -⟩⟩ := h
  generalize al.length = na at *
  generalize p.nodes.length = nn at *
  generalize p.faces.length = nf at *
  clear hpa
  by_cases h0 : d = 0
  · subst h0
    have hz : arcD p 0 = none := by unfold arcD; rw [if_pos (.inl rfl)]
    rw [hz]
    clear TA hz
    go_enter Tryz.func26, Tryz.ntmps26
    go_upto_region 1 with fail
    obtain ⟨W, hW⟩ : ∃ W : World, W = (w.alloc (.cells #[.slice An nn cn, .slice Aa na ca, .slice Af nf cf] 26)).alloc (.cells #[.int .i64 0, .int .i64 0, .int .i64 0, .slice none 0 0, .int .i64 0, .int .i64 0] 47) := ⟨_, rfl⟩
    have Bw : Below w.heap.size w W := by rw [hW]; exact bA (bA (bR w) _) _
    have X4 : Blk W (w.heap.size + 1) 47 #[.int .i64 0, .int .i64 0, .int .i64 0, .slice none 0 0, .int .i64 0, .int .i64 0] := by rw [hW]; exact Blk.made (by simp) _ _
    rw [← hW]
    clear hW
    try clear X4l
    try clear X4a
    try clear X4b
    try clear X4c
    try clear X4d
    try clear X4e
    try clear X4f
    try clear X4fa
    try clear X4fb
    try clear X4fc
    try clear X4fd
    try clear X4fe
    try clear X4ff
    obtain ⟨X4l, X4a, X4b, X4c, X4d, X4e, X4f, X4fa, X4fb, X4fc, X4fd, X4fe, X4ff⟩ := X4.facts6
    go_wp2_with fail
    refine res_cell_tmp (g := w.heap.size + 1) (cs := #[.int .i64 0, .int .i64 0, .int .i64 0, .slice none 0 0, .int .i64 0, .int .i64 0]) rfl struct_ar rfl rfl (Blk.put6 X4) ⟨none, 0, 0, rfl, ?_⟩
    repeat (first | with_reducible exact bR _ | with_reducible assumption | with_reducible refine bA ?_ _ | with_reducible refine bD ?_ | with_reducible refine bN ?_ _ | ((with_reducible refine bS ?_ ?_ _); rotate_left; (simp; try omega)) | ((with_reducible refine bT ?_ ?_); rotate_left; with_reducible assumption) | with_reducible refine bT ?_ (by assumption))
  by_cases h1 : d = -9223372036854775808
  · subst h1
    have hz : arcD p (-9223372036854775808) = none := by unfold arcD; rw [if_pos (.inr rfl)]
    rw [hz]
    clear TA hz h0
    go_enter Tryz.func26, Tryz.ntmps26
    go_upto_region 1 with fail
    obtain ⟨W, hW⟩ : ∃ W : World, W = (w.alloc (.cells #[.slice An nn cn, .slice Aa na ca, .slice Af nf cf] 26)).alloc (.cells #[.int .i64 0, .int .i64 0, .int .i64 0, .slice none 0 0, .int .i64 0, .int .i64 0] 47) := ⟨_, rfl⟩
    have Bw : Below w.heap.size w W := by rw [hW]; exact bA (bA (bR w) _) _
    have X4 : Blk W (w.heap.size + 1) 47 #[.int .i64 0, .int .i64 0, .int .i64 0, .slice none 0 0, .int .i64 0, .int .i64 0] := by rw [hW]; exact Blk.made (by simp) _ _
    rw [← hW]
    clear hW
    try clear X4l
    try clear X4a
    try clear X4b
    try clear X4c
    try clear X4d
    try clear X4e
    try clear X4f
    try clear X4fa
    try clear X4fb
    try clear X4fc
    try clear X4fd
    try clear X4fe
    try clear X4ff
    obtain ⟨X4l, X4a, X4b, X4c, X4d, X4e, X4f, X4fa, X4fb, X4fc, X4fd, X4fe, X4ff⟩ := X4.facts6
    go_wp2_with fail
    refine res_cell_tmp (g := w.heap.size + 1) (cs := #[.int .i64 0, .int .i64 0, .int .i64 0, .slice none 0 0, .int .i64 0, .int .i64 0]) rfl struct_ar rfl rfl (Blk.put6 X4) ⟨none, 0, 0, rfl, ?_⟩
    repeat (first | with_reducible exact bR _ | with_reducible assumption | with_reducible refine bA ?_ _ | with_reducible refine bD ?_ | with_reducible refine bN ?_ _ | ((with_reducible refine bS ?_ ?_ _); rotate_left; (simp; try omega)) | ((with_reducible refine bT ?_ ?_); rotate_left; with_reducible assumption) | with_reducible refine bT ?_ (by assumption))
  rw [arcD_max h0 h1] at TA
  have hb := wfI_bd hd
  have k1 : IntKind.i64.wrap (-d) = -d := IntWalk.i64_in _ (by omega)
  have e0 : (d == 0) = false := by simpa using h0
  have e1 : (d == -9223372036854775808) = false := by simpa using h1
  have HA := Lib.hid TA
  clear TA h0 h1 hd hb
  generalize arcD p d = r at *
  go_enter Tryz.func26, Tryz.ntmps26
  go_upto_region 1 with fail
  obtain ⟨W, hW⟩ : ∃ W : World, W = (w.alloc (.cells #[.slice An nn cn, .slice Aa na ca, .slice Af nf cf] 26)).alloc (.cells #[.int .i64 0, .int .i64 0, .int .i64 0, .slice none 0 0, .int .i64 0, .int .i64 0] 47) := ⟨_, rfl⟩
  have Bw : Below w.heap.size w W := by rw [hW]; exact bA (bA (bR w) _) _
  have X4 : Blk W (w.heap.size + 1) 47 #[.int .i64 0, .int .i64 0, .int .i64 0, .slice none 0 0, .int .i64 0, .int .i64 0] := by rw [hW]; exact Blk.made (by simp) _ _
  have X2 : Blk W w.heap.size 26 #[.slice An nn cn, .slice Aa na ca, .slice Af nf cf] := by rw [hW]; exact (Blk.made rfl _ _).alloc _
  rw [← hW]
  clear hW
  try clear X2l
  try clear X2a
  try clear X2b
  try clear X2c
  try clear X2fa
  try clear X2fb
  try clear X2fc
  obtain ⟨X2l, X2a, X2b, X2c, -, -, -⟩ := X2.facts3
  go_wp2_with fail
  refine (HA.out _ Bw).mono ?_
  intro e w1 har
  obtain ⟨A1, c1, rfl, hb1, -⟩ := har.form
  have Bw := bT Bw hb1
  replace X4 := X4.keep hb1
  clear har hb1 X2 X2l X2a X2b X2c
  try clear X4l
  try clear X4a
  try clear X4b
  try clear X4c
  try clear X4d
  try clear X4e
  try clear X4f
  try clear X4fa
  try clear X4fb
  try clear X4fc
  try clear X4fd
  try clear X4fe
  try clear X4ff
  obtain ⟨X4l, X4a, X4b, X4c, X4d, X4e, X4f, X4fa, X4fb, X4fc, X4fd, X4fe, X4ff⟩ := X4.facts6
  generalize hvl : (r.getD ar0).via.length = vl at *
  go_wp2_with fail
  refine res_cell_tmp (g := w.heap.size + 1) (cs := #[.int .i64 (r.getD ar0).id, .int .i64 (r.getD ar0).fr, .int .i64 (r.getD ar0).dst, .slice A1 vl c1, .int .i64 (r.getD ar0).left, .int .i64 (r.getD ar0).right]) rfl struct_ar rfl rfl (Blk.put6 X4) ⟨A1, vl, c1, rfl, ?_⟩
  repeat (first | with_reducible exact bR _ | with_reducible assumption | with_reducible refine bA ?_ _ | with_reducible refine bD ?_ | with_reducible refine bN ?_ _ | ((with_reducible refine bS ?_ ?_ _); rotate_left; (simp; try omega)) | ((with_reducible refine bT ?_ ?_); rotate_left; with_reducible assumption) | with_reducible refine bT ?_ (by assumption))

set_option maxRecDepth 100000 in
set_option maxHeartbeats 4000000 in
theorem wStart_spec (v : Value) (p : Pl) (d : Int) (w : World) (h : PlV w v p) (hs : ShortL p) (hd : wfI d) : Calls Tryz.prog 9 #[v, .int .i64 d] w fun e w' => e = .returned (.int .i64 (startD p d)) ∧ Below w.heap.size w w' := by
  have HA := Lib.hid (fun W (hW : Below w.heap.size w W) => arcOf_spec v p d W (h.mono hW) hs hd)
  obtain ⟨_, _, _, al, rfl, hpa, ⟨An, cn, rfl, -⟩, ⟨⟨Aa, ca, rfl, -⟩, -⟩, ⟨Af, cf, rfl, -⟩⟩ := h
  unfold startD
  generalize arcD p d = r at *
  generalize al.length = na at *
  generalize p.nodes.length = nn at *
  generalize p.faces.length = nf at *
  clear hpa hd hs
  go_enter Tryz.func9, Tryz.ntmps9
  go_wp2_with fail
  refine (HA.out _ (bA (bR w) _)).mono ?_
  rintro e w1 ⟨A1, n1, c1, rfl, hb1⟩
  have B1 := Lib.hid (bT (bA (bR w) _) hb1)
  clear hb1 HA
  cases r with
  | none =>
    simp only [Option.isSome_none]
    go_wp2_with fail
    go_ret
    exact ⟨rfl, bA B1.out _⟩
  | some a =>
    simp only [Option.isSome_some, Option.getD_some]
    by_cases hp : 0 < d
    · go_wp2_with fail
      go_ret
      exact ⟨ret_int (by first | rfl | simp [hp]), bA B1.out _⟩
    · go_wp2_with fail
      go_ret
      exact ⟨ret_int (by first | rfl | simp [hp]), bA B1.out _⟩
set_option maxRecDepth 100000 in
set_option maxHeartbeats 4000000 in
theorem wSide_spec (v : Value) (p : Pl) (d : Int) (w : World) (h : PlV w v p) (hs : ShortL p) (hd : wfI d) : Calls Tryz.prog 11 #[v, .int .i64 d] w fun e w' => e = .returned (.int .i64 (sideD p d)) ∧ Below w.heap.size w w' := by
  have HA := Lib.hid (fun W (hW : Below w.heap.size w W) => arcOf_spec v p d W (h.mono hW) hs hd)
  obtain ⟨_, _, _, al, rfl, hpa, ⟨An, cn, rfl, -⟩, ⟨⟨Aa, ca, rfl, -⟩, -⟩, ⟨Af, cf, rfl, -⟩⟩ := h
  unfold sideD
  generalize arcD p d = r at *
  generalize al.length = na at *
  generalize p.nodes.length = nn at *
  generalize p.faces.length = nf at *
  clear hpa hd hs
  go_enter Tryz.func11, Tryz.ntmps11
  go_wp2_with fail
  refine (HA.out _ (bA (bR w) _)).mono ?_
  rintro e w1 ⟨A1, n1, c1, rfl, hb1⟩
  have B1 := Lib.hid (bT (bA (bR w) _) hb1)
  clear hb1 HA
  cases r with
  | none =>
    simp only [Option.isSome_none]
    go_wp2_with fail
    go_ret
    exact ⟨rfl, bA B1.out _⟩
  | some a =>
    simp only [Option.isSome_some, Option.getD_some]
    by_cases hp : 0 < d
    · go_wp2_with fail
      go_ret
      exact ⟨ret_int (by first | rfl | simp [hp]), bA B1.out _⟩
    · go_wp2_with fail
      go_ret
      exact ⟨ret_int (by first | rfl | simp [hp]), bA B1.out _⟩

theorem dart_pos (p : Pl) {d : Int} (h : 0 < d) : startD p d = ((findAr p.arcs d).getD ar0).fr ∧ sideD p d = ((findAr p.arcs d).getD ar0).left := by
  have e : arcD p d = findAr p.arcs d := by unfold arcD minI absI; rw [if_neg (by omega), if_neg (by omega)]
  unfold startD sideD
  rw [e]
  cases findAr p.arcs d
  · exact ⟨rfl, rfl⟩
  · exact ⟨if_pos h, if_pos h⟩
theorem dart_neg (p : Pl) {d : Int} (h : d < 0) (h1 : d ≠ -9223372036854775808) : startD p d = ((findAr p.arcs (-d)).getD ar0).dst ∧ sideD p d = ((findAr p.arcs (-d)).getD ar0).right := by
  have e : arcD p d = findAr p.arcs (-d) := by unfold arcD minI absI; rw [if_neg (by omega), if_pos h]
  unfold startD sideD
  rw [e]
  cases findAr p.arcs (-d)
  · exact ⟨rfl, rfl⟩
  · exact ⟨if_neg (by omega), if_neg (by omega)⟩
theorem dart_none (p : Pl) {d : Int} (h : d = 0 ∨ d = -9223372036854775808) : startD p d = 0 ∧ sideD p d = 0 := by
  have e : arcD p d = none := by unfold arcD minI; rw [if_pos h]
  unfold startD sideD
  rw [e]
  exact ⟨rfl, rfl⟩
set_option maxRecDepth 100000 in
set_option maxHeartbeats 4000000 in
theorem rStart_spec (v : Value) (p : Pl) (d : Int) (w : World) (h : PlV w v p) (hs : ShortL p) (hd : wfI d) : Calls Tryz.prog 10 #[v, .int .i64 d] w fun e w' => e = .returned (.int .i64 (startD p d)) ∧ Below w.heap.size w w' := by
  have HA := Lib.hid (fun id W (hW : Below w.heap.size w W) => RArc_specL v p id W (h.mono hW) hs)
  obtain ⟨_, _, _, al, rfl, hpa, ⟨An, cn, rfl, -⟩, ⟨⟨Aa, ca, rfl, -⟩, -⟩, ⟨Af, cf, rfl, -⟩⟩ := h
  have hb := wfI_bd hd
  generalize al.length = na at *
  generalize p.nodes.length = nn at *
  generalize p.faces.length = nf at *
  clear hpa hd hs
  by_cases h1 : 0 < d
  · rw [(dart_pos p h1).1]
    have HB := Lib.hid (HA.out d)
    clear HA hb
    generalize findAr p.arcs d = r at *
    go_enter Tryz.func10, Tryz.ntmps10
    go_wp2_with fail
    refine (HB.out _ (bA (bR w) _)).mono ?_
    intro e w1 har
    obtain ⟨A1, c1, rfl, hb1, -⟩ := har.form
    have B1 := Lib.hid (bT (bA (bR w) _) hb1)
    clear har hb1 HB
    generalize (r.getD ar0).via.length = vl at *
    go_wp2_with fail
    go_ret
    exact ⟨rfl, bA B1.out _⟩
  by_cases h2 : d = 0 ∨ d = -9223372036854775808
  · rw [(dart_none p h2).1]
    clear HA hb
    have k1 : IntKind.i64.wrap 9223372036854775808 = -9223372036854775808 := by decide
    rcases h2 with rfl | rfl
    all_goals
      go_enter Tryz.func10, Tryz.ntmps10
      go_wp2_with fail
      go_ret
      exact ⟨rfl, bA (bR w) _⟩
  have k1 : IntKind.i64.wrap (-d) = -d := IntWalk.i64_in _ (by omega)
  have k2 : 0 < -d := by omega
  rw [(dart_neg p (by omega) (by omega)).1]
  have HB := Lib.hid (HA.out (-d))
  clear HA hb h2
  generalize findAr p.arcs (-d) = r at *
  go_enter Tryz.func10, Tryz.ntmps10
  go_wp2_with fail
  refine (HB.out _ (bA (bR w) _)).mono ?_
  intro e w1 har
  obtain ⟨A1, c1, rfl, hb1, -⟩ := har.form
  have B1 := Lib.hid (bT (bA (bR w) _) hb1)
  clear har hb1 HB
  generalize (r.getD ar0).via.length = vl at *
  go_wp2_with fail
  go_ret
  exact ⟨rfl, bA B1.out _⟩
set_option maxRecDepth 100000 in
set_option maxHeartbeats 4000000 in
theorem rSide_spec (v : Value) (p : Pl) (d : Int) (w : World) (h : PlV w v p) (hs : ShortL p) (hd : wfI d) : Calls Tryz.prog 12 #[v, .int .i64 d] w fun e w' => e = .returned (.int .i64 (sideD p d)) ∧ Below w.heap.size w w' := by
  have HA := Lib.hid (fun id W (hW : Below w.heap.size w W) => RArc_specL v p id W (h.mono hW) hs)
  obtain ⟨_, _, _, al, rfl, hpa, ⟨An, cn, rfl, -⟩, ⟨⟨Aa, ca, rfl, -⟩, -⟩, ⟨Af, cf, rfl, -⟩⟩ := h
  have hb := wfI_bd hd
  generalize al.length = na at *
  generalize p.nodes.length = nn at *
  generalize p.faces.length = nf at *
  clear hpa hd hs
  by_cases h1 : 0 < d
  · rw [(dart_pos p h1).2]
    have HB := Lib.hid (HA.out d)
    clear HA hb
    generalize findAr p.arcs d = r at *
    go_enter Tryz.func12, Tryz.ntmps12
    go_wp2_with fail
    refine (HB.out _ (bA (bR w) _)).mono ?_
    intro e w1 har
    obtain ⟨A1, c1, rfl, hb1, -⟩ := har.form
    have B1 := Lib.hid (bT (bA (bR w) _) hb1)
    clear har hb1 HB
    generalize (r.getD ar0).via.length = vl at *
    go_wp2_with fail
    go_ret
    exact ⟨rfl, bA B1.out _⟩
  by_cases h2 : d = 0 ∨ d = -9223372036854775808
  · rw [(dart_none p h2).2]
    clear HA hb
    have k1 : IntKind.i64.wrap 9223372036854775808 = -9223372036854775808 := by decide
    rcases h2 with rfl | rfl
    all_goals
      go_enter Tryz.func12, Tryz.ntmps12
      go_wp2_with fail
      go_ret
      exact ⟨rfl, bA (bR w) _⟩
  have k1 : IntKind.i64.wrap (-d) = -d := IntWalk.i64_in _ (by omega)
  have k2 : 0 < -d := by omega
  rw [(dart_neg p (by omega) (by omega)).2]
  have HB := Lib.hid (HA.out (-d))
  clear HA hb h2
  generalize findAr p.arcs (-d) = r at *
  go_enter Tryz.func12, Tryz.ntmps12
  go_wp2_with fail
  refine (HB.out _ (bA (bR w) _)).mono ?_
  intro e w1 har
  obtain ⟨A1, c1, rfl, hb1, -⟩ := har.form
  have B1 := Lib.hid (bT (bA (bR w) _) hb1)
  clear har hb1 HB
  generalize (r.getD ar0).via.length = vl at *
  go_wp2_with fail
  go_ret
  exact ⟨rfl, bA B1.out _⟩
end Go.Proofs.YtoclnkfeblfpbaaGreat
namespace Go.Proofs.YtoclnkfeblfpbaaGreat
open Go.RowKit

theorem res_cell_tmp2 {P : Program} {fn : Func} {p u v : Tmp} {ty t : TypeId} {R : Ending → World → Prop} {a : Act} {w : World} {g : Nat} {cs : Array Value} (h : fn.results = #[.cell p ty, .tmp u, .tmp v])
    (hS : StructOf P ty cs.size) (hp : a.tmps.getD p undef = .pointer (some ⟨g, 0, none⟩)) (hd : a.defers = []) (hb : Blk w g t cs) (hR : R (.returned (.tuple #[.agg cs, a.tmps.getD u undef, a.tmps.getD v undef])) w) : bodyPost P fn R .ret a w := by
  obtain ⟨fs, h1, h3⟩ := hS
  refine bodyPost_ret ?_ hd hR
  have e1 := run_loadVar_row (P := P) w g t ty cs (0, 0) (.struct fs) hb h1 rfl h3
  have hp' : a.tmps[p]?.getD undef = .pointer (some ⟨g, 0, none⟩) := by simpa using hp
  simp only [results, h]
  simp [hp', asAddr, Sem.run_bind, Sem.run_pure, Result.andThen, e1]
/-- is there an arc of a dart? (the reference's) -/
def okArc (p : Pl) (d : Int) : Bool := p.arcs.any fun a => decide (a.id = d) || decide (a.id = IntKind.i64.wrap (-d))
def RetArc3 (w : World) (b : Bool) (e : Ending) (w' : World) : Prop :=
  ∃ (A : Option Addr) (n c : Nat) (i0 i1 i2 i4 i5 : Int) (back : Bool), e = .returned (.tuple #[.agg #[.int .i64 i0, .int .i64 i1, .int .i64 i2, .slice A n c, .int .i64 i4, .int .i64 i5], .bool back, .bool b]) ∧ Below w.heap.size w w'

set_option maxRecDepth 100000 in
set_option maxHeartbeats 4000000 in
theorem arc3_spec (v : Value) (p : Pl) (d : Int) (w : World) (h : PlV w v p) : Calls Tryz.prog 70 #[v, .int .i64 d] w (RetArc3 w (okArc p d)) := by
  obtain ⟨_, _, _, al, rfl, hpa, ⟨An, cn, rfl, -⟩, ⟨⟨Aa, ca, rfl, hn1, hn2, hR⟩, hV⟩, ⟨Af, cf, rfl, -⟩⟩ := h
  unfold maxLen at hn2
  have HR := Lib.hid hR; have HV := Lib.hid hV
  obtain ⟨r, hr⟩ : ∃ r, okArc p d = r := ⟨_, rfl⟩
  rw [hr]
  unfold okArc at hr
  rw [hpa] at hr
  have Hr := Lib.hid hr
  generalize p.nodes.length = nn at *
  generalize p.faces.length = nf at *
  clear hpa hr hR hV
  obtain ⟨nd, hnd⟩ : ∃ nd, IntKind.i64.wrap (-d) = nd := ⟨_, rfl⟩
  rw [hnd] at Hr
  go_enter Tryz.func70, Tryz.ntmps70
  go_wp2_with fail
  go_loopw [7] (fun u wr => ∃ k : Nat, k ≤ al.length ∧ u = .int .i64 k ∧ Below w.heap.size w wr ∧ Blk wr w.heap.size 26 #[.slice An nn cn, .slice Aa al.length ca, .slice Af nf cf] ∧ Blk wr (w.heap.size + 1) 47 #[.int .i64 0, .int .i64 0, .int .i64 0, .slice none 0 0, .int .i64 0, .int .i64 0] ∧ ∀ j (hj : j < al.length), j < k → (decide (al[j].1.id = d) || decide (al[j].1.id = nd)) = false) (fun u _ => al.length - (intOf u).toNat)
  case atStart => exact ⟨0, Nat.zero_le _, rfl, bA (bA (bR w) _) _, (Blk.made rfl _ _).alloc _, Blk.made (by simp) _ _, fun j _ h => by omega⟩
  case round =>
    obtain ⟨k, hk, rfl, hb, X2, X4, hno⟩ := hrel
    have Hb := Lib.hid hb
    have Hno := Lib.hid hno
    clear hb hno
    try clear X2l
    try clear X2a
    try clear X2b
    try clear X2c
    try clear X2fa
    try clear X2fb
    try clear X2fc
    obtain ⟨X2l, X2a, X2b, X2c, -, -, -⟩ := X2.facts3
    try clear X4l
    try clear X4a
    try clear X4b
    try clear X4c
    try clear X4d
    try clear X4e
    try clear X4f
    try clear X4fa
    try clear X4fb
    try clear X4fc
    try clear X4fd
    try clear X4fe
    try clear X4ff
    obtain ⟨X4l, X4a, X4b, X4c, X4d, X4e, X4f, X4fa, X4fb, X4fc, X4fd, X4fe, X4ff⟩ := X4.facts6
    have Bw := Hb.out
    by_cases hlt : k < al.length
    case neg =>
      have hf := any_miss (al.map (·.1)) (fun a => decide (a.id = d) || decide (a.id = nd)) (fun j hj => by
        rw [List.length_map] at hj
        simp only [List.getElem_map]
        exact Hno.out j hj (by omega))
      have Hf := Lib.hid (Hr.out.symm.trans hf)
      clear hf
      go_wp2_with fail
      refine res_cell_tmp2 (g := w.heap.size + 1) (cs := #[.int .i64 0, .int .i64 0, .int .i64 0, .slice none 0 0, .int .i64 0, .int .i64 0]) rfl struct_ar rfl rfl (Blk.put6 X4) ⟨none, 0, 0, 0, 0, 0, 0, 0, false, by rw [Hf.out]; rfl, ?_⟩
      repeat (first | with_reducible exact bR _ | with_reducible assumption | with_reducible refine bA ?_ _ | with_reducible refine bD ?_ | with_reducible refine bN ?_ _ | ((with_reducible refine bS ?_ ?_ _); rotate_left; (simp; try omega)) | ((with_reducible refine bT ?_ ?_); rotate_left; with_reducible assumption) | with_reducible refine bT ?_ (by assumption))
    obtain ⟨b, o, rfl, hlb, c0, c1, c2, c3, c4, c5⟩ := (HR.out.mono Hb.out).ar hlt
    obtain ⟨Av, cv, hv, -⟩ := HV.out k hlt
    rw [hv] at c3
    clear hv
    generalize hvl : al[k].1.via.length = vl at *
    by_cases e1 : al[k].1.id = d
    case pos =>
      have hf := any_hit (al.map (·.1)) (fun a => decide (a.id = d) || decide (a.id = nd)) k (by simpa using hlt) (by simp [e1])
      have Hf := Lib.hid (Hr.out.symm.trans hf)
      have e1' : (al[k].1.id == d) = true := by simpa using e1
      clear hf e1
      go_wp2_with fail
      refine res_cell_tmp2 (g := w.heap.size + 1) (cs := #[.int .i64 al[k].1.id, .int .i64 al[k].1.fr, .int .i64 al[k].1.dst, .slice Av vl cv, .int .i64 al[k].1.left, .int .i64 al[k].1.right]) rfl struct_ar rfl rfl (Blk.put6 X4) ⟨Av, vl, cv, _, _, _, _, _, _, by rw [Hf.out]; rfl, ?_⟩
      repeat (first | with_reducible exact bR _ | with_reducible assumption | with_reducible refine bA ?_ _ | with_reducible refine bD ?_ | with_reducible refine bN ?_ _ | ((with_reducible refine bS ?_ ?_ _); rotate_left; (simp; try omega)) | ((with_reducible refine bT ?_ ?_); rotate_left; with_reducible assumption) | with_reducible refine bT ?_ (by assumption))
    case neg =>
    have e1' : (al[k].1.id == d) = false := by simpa using e1
    by_cases e2 : al[k].1.id = nd
    case pos =>
      have hf := any_hit (al.map (·.1)) (fun a => decide (a.id = d) || decide (a.id = nd)) k (by simpa using hlt) (by simp [e2])
      have Hf := Lib.hid (Hr.out.symm.trans hf)
      have e2' : (al[k].1.id == nd) = true := by simpa using e2
      clear hf e1 e2
      go_wp2_with fail
      refine res_cell_tmp2 (g := w.heap.size + 1) (cs := #[.int .i64 al[k].1.id, .int .i64 al[k].1.fr, .int .i64 al[k].1.dst, .slice Av vl cv, .int .i64 al[k].1.left, .int .i64 al[k].1.right]) rfl struct_ar rfl rfl (Blk.put6 X4) ⟨Av, vl, cv, _, _, _, _, _, _, by rw [Hf.out]; rfl, ?_⟩
      repeat (first | with_reducible exact bR _ | with_reducible assumption | with_reducible refine bA ?_ _ | with_reducible refine bD ?_ | with_reducible refine bN ?_ _ | ((with_reducible refine bS ?_ ?_ _); rotate_left; (simp; try omega)) | ((with_reducible refine bT ?_ ?_); rotate_left; with_reducible assumption) | with_reducible refine bT ?_ (by assumption))
    case neg =>
    have e2' : (al[k].1.id == nd) = false := by simpa using e2
    have HN := Lib.hid (show (decide (al[k].1.id = d) || decide (al[k].1.id = nd)) = false by simp [e1, e2])
    clear e1 e2
    go_wp2_with fail
    go_roundw
    case rel => exact ⟨k + 1, by omega, by go_num, Hb.out, X2, X4, all_succ (p := fun x : Ar × Value => (decide (x.1.id = d) || decide (x.1.id = nd)) = false) Hno.out hlt HN.out⟩
    case measure => simp [intOf]; omega

set_option maxRecDepth 100000 in
set_option maxHeartbeats 2000000 in
theorem valid_spec15 (v : Value) (p : Pl) (d : Int) (w : World) (h : PlV w v p) : Calls Tryz.prog 41 #[v, .int .i64 d] w fun e w' => e = .returned (.bool (okArc p d && !decide (d = 0))) ∧ Below w.heap.size w w' := by
  have HA := Lib.hid (fun W (hW : Below w.heap.size w W) => arc3_spec v p d W (h.mono hW))
  obtain ⟨_, _, _, al, rfl, hpa, ⟨An, cn, rfl, -⟩, ⟨⟨Aa, ca, rfl, -⟩, -⟩, ⟨Af, cf, rfl, -⟩⟩ := h
  generalize okArc p d = r at *
  generalize al.length = na at *
  generalize p.nodes.length = nn at *
  generalize p.faces.length = nf at *
  clear hpa
  go_enter Tryz.func41, Tryz.ntmps41
  go_wp2_with fail
  refine (HA.out _ (bA (bR w) _)).mono ?_
  rintro e w1 ⟨A1, n1, c1, i0, i1, i2, i4, i5, back, rfl, hb1⟩
  have B1 := Lib.hid (bT (bA (bR w) _) hb1)
  clear hb1 HA
  cases r
  · go_wp2_with fail
    go_ret
    exact ⟨rfl, bA B1.out _⟩
  · by_cases h0 : d = 0
    · subst h0
      go_wp2_with fail
      go_ret
      exact ⟨rfl, bA B1.out _⟩
    · have h0' : (d != 0) = true := by simpa using h0
      have H0 := Lib.hid h0
      clear h0
      go_wp2_with fail
      go_ret
      exact ⟨ret_bool (by simp [H0.out]), bA B1.out _⟩
end Go.Proofs.YtoclnkfeblfpbaaGreat
namespace Go.Proofs.YtoclnkfeblfpbaaGreat
open Go.RowKit

def crossG (a b : Pt) : Int := a.x * b.y - b.x * a.y
def twUp (P : List Pt) : Nat → Int
  | 0 => 0
  | k + 1 => twUp P k + crossG (P.getD k pt0) (P.getD (k + 1) pt0)
def twiceP (P : List Pt) : Int := twUp P (P.length - 1)
def dartT (p : Pl) (d : Int) : Int := match arcD p d with
  | none => 0
  | some a => if 0 < d then twiceP (pathS p a) else -twiceP (pathS p a)
def twiceUp (p : Pl) (l : List Int) : Nat → Int
  | 0 => 0
  | k + 1 => twiceUp p l k + dartT p (l.getD k 0)
def twiceD (p : Pl) (l : List Int) : Int := if l.length ≤ 512 ∧ (∀ d ∈ l, (arcD p d).isSome = true) then twiceUp p l l.length else 0

theorem twUp_rev (P : List Pt) (k : Nat) (hk : k + 1 ≤ P.length) : twUp P.reverse k = twUp P (P.length - 1 - k) - twUp P (P.length - 1) := by
  induction k with
  | zero => simp [twUp]
  | succ k ih =>
    rw [twUp, ih (by omega)]
    obtain ⟨m, hm⟩ : ∃ m, P.length = m + k + 2 := ⟨P.length - k - 2, by omega⟩
    have e1 : P.reverse.getD k pt0 = P.getD (m + 1) pt0 := by
      rw [List.getD_eq_getElem?_getD, List.getElem?_reverse (by omega), List.getD_eq_getElem?_getD]
      congr 2
      omega
    have e2 : P.reverse.getD (k + 1) pt0 = P.getD m pt0 := by
      rw [List.getD_eq_getElem?_getD, List.getElem?_reverse (by omega), List.getD_eq_getElem?_getD]
      congr 2
      omega
    rw [e1, e2, show P.length - 1 - k = m + 1 by omega, show P.length - 1 - (k + 1) = m by omega, twUp]
    unfold crossG
    omega
theorem twice_rev (P : List Pt) (h : 1 ≤ P.length) : twiceP P.reverse = -twiceP P := by
  unfold twiceP
  rw [List.length_reverse, twUp_rev P _ (by omega)]
  rw [show P.length - 1 - (P.length - 1) = 0 by omega]
  simp [twUp]
def big1 (p : Pt) : Prop := (-1048576 ≤ p.x ∧ p.x ≤ 1048576) ∧ (-1048576 ≤ p.y ∧ p.y ≤ 1048576)
theorem mul_big {u v : Int} (hu : -1048576 ≤ u ∧ u ≤ 1048576) (hv : -1048576 ≤ v ∧ v ≤ 1048576) : -1099511627776 ≤ u * v ∧ u * v ≤ 1099511627776 := by
  have := mul_bd u v 1048576 hu.1 hu.2 hv.1 hv.2
  simpa using this
theorem crossG_bd {a b : Pt} (ha : big1 a) (hb : big1 b) : -2199023255552 ≤ crossG a b ∧ crossG a b ≤ 2199023255552 := by
  have h1 := mul_big ha.1 hb.2
  have h2 := mul_big hb.1 ha.2
  unfold crossG
  omega
theorem twUp_bd {P : List Pt} (h : ∀ q ∈ P, big1 q) (k : Nat) (hk : k + 1 ≤ P.length ∨ k = 0) : -(2199023255552 * (k : Int)) ≤ twUp P k ∧ twUp P k ≤ 2199023255552 * (k : Int) := by
  induction k with
  | zero => simp [twUp]
  | succ k ih =>
    have ih := ih (by omega)
    have g : ∀ j, j < P.length → big1 (P.getD j pt0) := fun j hj => by
      rw [List.getD_eq_getElem?_getD, List.getElem?_eq_getElem hj]
      exact h _ (List.getElem_mem hj)
    have := crossG_bd (g k (by omega)) (g (k + 1) (by omega))
    rw [twUp]
    omega
theorem big_of {q : Pt} (h : ptOk q = true) : big1 q := by
  unfold ptOk at h
  simp only [Bool.and_eq_true, decide_eq_true_eq] at h
  unfold big1
  omega
theorem arcD_mem {p : Pl} {d : Int} {a : Ar} (e : arcD p d = some a) : a ∈ p.arcs ∧ absI d = a.id := by
  unfold arcD at e
  split at e
  · cases e
  · exact ⟨List.mem_of_find?_eq_some e, by have := List.find?_some e; exact (show a.id = absI d by simpa using this).symm⟩
section
variable {p : Pl} (h : Valid p)
include h
theorem Valid.big_path {a : Ar} (ha : a ∈ p.arcs) {q : Pt} (hq : q ∈ pathS p a) : big1 q := by
  have hr := h.rng
  unfold rangesS at hr
  simp only [Bool.and_eq_true, List.all_eq_true] at hr
  have key : ∀ q ∈ pointsS p, big1 q := fun q hq => big_of (hr.2 q hq)
  unfold pathS at hq
  rcases List.mem_cons.1 hq with rfl | hq
  · obtain ⟨n, hn, -, e⟩ := h.sound.at_fr ha
    rw [e]; exact key _ (List.mem_append_left _ (List.mem_map_of_mem hn))
  · rcases List.mem_append.1 hq with hq | hq
    · exact key _ (List.mem_append_right _ (List.mem_flatMap.2 ⟨a, ha, hq⟩))
    · rw [List.mem_singleton] at hq
      subst hq
      obtain ⟨n, hn, -, e⟩ := h.sound.at_dst ha
      rw [e]; exact key _ (List.mem_append_left _ (List.mem_map_of_mem hn))
theorem Valid.via_len {a : Ar} (ha : a ∈ p.arcs) : a.via.length ≤ 64 := by
  have hl := h.lim
  unfold limS at hl
  rw [Bool.or_eq_false_iff, List.any_eq_false] at hl
  have := hl.1 a ha
  simpa using this
theorem Valid.twice_bd {a : Ar} (ha : a ∈ p.arcs) (k : Nat) (hk : k + 1 ≤ (pathS p a).length) : -142936511610880 ≤ twUp (pathS p a) k ∧ twUp (pathS p a) k ≤ 142936511610880 := by
  have h1 := twUp_bd (P := pathS p a) (fun q hq => h.big_path ha hq) k (.inl hk)
  have h2 := h.via_len ha
  have h3 := pathS_length p a
  omega
theorem Valid.dartT_bd (d : Int) : -142936511610880 ≤ dartT p d ∧ dartT p d ≤ 142936511610880 := by
  unfold dartT
  cases e : arcD p d with
  | none => simp
  | some a =>
    have ha := (arcD_mem e).1
    have h3 := pathS_length p a
    have := h.twice_bd ha ((pathS p a).length - 1) (by omega)
    unfold twiceP
    simp only []
    split <;> omega
theorem Valid.twiceUp_bd (l : List Int) (k : Nat) : -(142936511610880 * (k : Int)) ≤ twiceUp p l k ∧ twiceUp p l k ≤ 142936511610880 * (k : Int) := by
  induction k with
  | zero => simp [twiceUp]
  | succ k ih =>
    have := h.dartT_bd (l.getD k 0)
    rw [twiceUp]
    omega
/-- the reference's test of a dart -/
theorem Valid.ok_arc {d : Int} (hd : -9223372036854775808 ≤ d ∧ d ≤ 9223372036854775807) : ((p.arcs.any fun a => decide (a.id = d) || decide (a.id = IntKind.i64.wrap (-d))) && !decide (d = 0)) = (arcD p d).isSome := by
  rw [Bool.eq_iff_iff, Bool.and_eq_true, List.any_eq_true]
  constructor
  · rintro ⟨⟨a, ha, h1⟩, h0⟩
    have hp := h.id_pos ha
    rw [Bool.or_eq_true, decide_eq_true_eq, decide_eq_true_eq] at h1
    rcases h1 with h1 | h1
    · rw [← h1, h.arcD_pos ha]; rfl
    · by_cases hm : d = -9223372036854775808
      · subst hm
        have : IntKind.i64.wrap (-(-9223372036854775808)) = -9223372036854775808 := by decide
        rw [this] at h1; omega
      · rw [IntWalk.i64_in _ (by omega)] at h1
        rw [show d = -a.id by omega, h.arcD_neg ha]; rfl
  · intro h1
    cases e : arcD p d with
    | none => rw [e] at h1; cases h1
    | some a =>
      obtain ⟨ha, hi⟩ := arcD_mem e
      have hp := h.id_pos ha
      unfold absI at hi
      refine ⟨⟨a, ha, ?_⟩, ?_⟩
      · rw [Bool.or_eq_true, decide_eq_true_eq, decide_eq_true_eq]
        split at hi
        · right
          rw [IntWalk.i64_in _ (by omega)]; omega
        · left; omega
      · simp only [Bool.not_eq_true', decide_eq_false_iff_not]
        rintro rfl
        simp at hi; omega
end
end Go.Proofs.YtoclnkfeblfpbaaGreat
namespace Go.Proofs.YtoclnkfeblfpbaaGreat
open Go.RowKit

/-- the points of a dart (the reference's) -/
def pathR (p : Pl) (d : Int) : List Pt := if 0 < d then (pathOf p d).getD [] else ((pathOf p (-d)).getD []).reverse
theorem pathOf_len15 {p : Pl} (hs : Short p) (id : Int) : ((pathOf p id).getD []).length ≤ 1048578 := by
  cases e : pathOf p id with
  | none => simp
  | some l => exact (pathOf_len e hs).2

set_option maxRecDepth 100000 in
set_option maxHeartbeats 4000000 in
theorem Path15_spec (v : Value) (p : Pl) (d : Int) (w : World) (h : PlV w v p) (hs : Short p) (hd : -9223372036854775808 < d ∧ d ≤ 9223372036854775807) : Calls Tryz.prog 42 #[v, .int .i64 d] w (RetPts w (pathR p d)) := by
  have HA := Lib.hid (fun id W (hW : Below w.heap.size w W) => RPath_spec v p id W (h.mono hW) hs)
  have HLn := Lib.hid (pathOf_len15 hs)
  obtain ⟨_, _, _, al, rfl, hpa, ⟨An, cn, rfl, -⟩, ⟨⟨Aa, ca, rfl, -⟩, -⟩, ⟨Af, cf, rfl, -⟩⟩ := h
  unfold pathR
  generalize al.length = na at *
  generalize p.nodes.length = nn at *
  generalize p.faces.length = nf at *
  clear hpa hs
  by_cases h1 : 0 < d
  · rw [if_pos h1]
    have HB := Lib.hid (HA.out d)
    clear HA hd HLn
    unfold RetPathE at HB
    generalize (pathOf p d).getD [] = L at *
    generalize (if (pathOf p d).isSome then (0 : Int) else 7) = z at *
    go_enter Tryz.func42, Tryz.ntmps42
    go_wp2_with fail
    refine (HB.out _ (bA (bR w) _)).mono ?_
    rintro e w1 ⟨A1, c1, rfl, hb1, ho1⟩
    have B1 := Lib.hid (bT (bA (bR w) _) hb1)
    have HO := Lib.hid (Own.mono_base ho1 (b' := w.heap.size) (by simp))
    clear hb1 ho1 HB
    go_wp2_with fail
    go_ret
    exact ⟨A1, c1, rfl, B1.out, HO.out⟩
  rw [if_neg h1]
  have k1 : IntKind.i64.wrap (-d) = -d := IntWalk.i64_in _ (by omega)
  have HB := Lib.hid (HA.out (-d))
  have hln := HLn.out (-d)
  clear HA hd HLn
  unfold RetPathE at HB
  generalize (pathOf p (-d)).getD [] = L at *
  generalize (if (pathOf p (-d)).isSome then (0 : Int) else 7) = z at *
  obtain ⟨q, hq⟩ : ∃ q, L.reverse = q := ⟨_, rfl⟩
  rw [hq]
  have Hq := Lib.hid hq
  clear hq
  go_enter Tryz.func42, Tryz.ntmps42
  go_wp2_with fail
  refine (HB.out _ (bA (bR w) _)).mono ?_
  rintro e w1 ⟨A1, c1, rfl, hb1, ho1⟩
  have B1 := Lib.hid (bT (bA (bR w) _) hb1)
  have HO := Lib.hid ho1.sl
  clear hb1 ho1 HB k1
  have k2 : IntKind.i64.wrap ((L.length : Int) - 1) = (L.length : Int) - 1 := IntWalk.i64_in _ (by omega)
  have hR := HO.out
  obtain ⟨Aq, cq, he, hq1, hq2, hR⟩ := hR
  injection he with e1 e2 e3
  subst e1 e3
  clear e2
  unfold maxLen at hq2
  have HR := Lib.hid hR
  clear hR
  go_wp2_with fail
  go_loopw [9, 10] (fun s i wr => ∃ m : Nat, m ≤ L.length ∧ i = .int .i64 ((m : Int) - 1) ∧ Own wr w1.heap.size 41 2 ptC s (L.drop m).reverse ∧ Below w1.heap.size w1 wr) (fun _ i _ => (intOf i + 1).toNat)
  case atStart => exact ⟨L.length, Nat.le_refl _, rfl, by rw [List.drop_length]; exact Own.nil _ _ _ _ _, bR w1⟩
  case round =>
    obtain ⟨m, hm, rfl, ho, hb⟩ := hrel
    have Hb := Lib.hid hb
    have Ho := Lib.hid ho
    obtain ⟨As, cs, rfl, -⟩ := Own.sl ho
    clear hb ho
    cases m with
    | zero =>
      have ho := Ho.out
      rw [List.drop_zero, Hq.out] at ho
      have HO2 := Lib.hid ho
      rw [List.drop_zero, Hq.out]
      clear ho
      have k3 : ¬ (0 : Int) ≤ ((0 : Nat) : Int) - 1 := by omega
      go_wp2_with fail
      go_ret
      exact ⟨As, cs, rfl, bT B1.out Hb.out, Own.mono_base HO2.out B1.out.size⟩
    | succ m =>
      have hml : m < L.length := by omega
      obtain ⟨b, o, hA, hlb, c0, c1⟩ := (HR.out.mono Hb.out).pt hml
      subst hA
      have k3 : (((m + 1 : Nat) : Int) - 1) = (m : Int) := by omega
      rw [k3]
      clear k3
      have hst : (L.drop m).reverse = (L.drop (m + 1)).reverse ++ [L[m]] := by rw [← List.reverse_cons, List.drop_eq_getElem_cons hml]
      have HSt := Lib.hid hst
      have hdl : (L.drop (m + 1)).reverse.length ≤ 1048578 := by rw [List.length_reverse, List.length_drop]; omega
      have HDl := Lib.hid hdl
      clear hst hdl
      have q1 : 0 ≤ (m : Int) := by omega
      have q2 : (m : Int) < L.length := by omega
      have hz := Hb.out.size
      have hz1 := B1.out.size
      go_wp2_with
        (at_builtin
         refine wpList_appl _ rfl (.tmp 34) (.tmp 39) _ rfl (base := w1.heap.size) elem_pt ptC_len ptC_one rfl (Own.alloc Ho.out _) rfl (l2 := [L[m]]) (Sl.lit (n := 1) (Blk.made rfl _ _) rfl (le_maxLen (by omega))) (by have := HDl.out; simp only [List.length_cons, List.length_nil]; omega) (by have := HDl.out; simp only [List.length_cons, List.length_nil]; omega) (by simp; omega) ?_
         intro v3 w3 ho3 hg3 hat3
         have HO3 := Lib.hid ho3
         have B3 := Lib.hid (show Below w1.heap.size w1 w3 from bG (bA Hb.out _) hg3 (fun g hg => (Ho.out.lt g hg).1))
         clear ho3 hg3 hat3)
      go_roundw
      case rel => exact ⟨m, by omega, by go_num, by rw [HSt.out]; exact HO3.out, B3.out⟩
      case measure => simp [intOf]
end Go.Proofs.YtoclnkfeblfpbaaGreat
