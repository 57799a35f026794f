/- slices.Clone at points, plan.Arc, mapsheetsref14.Arc for lists of up to 2^43 points. (printed by gen/arcl.py) Plain law: the dart that follows is one to one on the darts; the cycles divide them. No walk here. walk: arcOf, Start, Side; mapsheetsref15: Start, Side. Plain law: twice the area under a path, a dart, a list of darts. No walk here. mapsheetsref15.Path. -/
import Derived.Test.YtoclnkfeblfpbaaGreatJ02
import Derived.Test.YtoclnkfeblfpbaaGreatJ11
import Derived.Test.YtoclnkfeblfpbaaGreatJ08
set_option linter.unusedSimpArgs false
set_option linter.unusedVariables false
namespace Go.Proofs.YtoclnkfeblfpbaaGreat
open Go.RowKit

theorem le_maxL {n : Nat} (h : n ≤ 8796093022208) : n ≤ maxLen := by
 have : maxLen = 9223372036854775807 := rfl
 omega
/-- No Via takes more than 2^47 bytes. -/
def ShortL (p : Pl) : Prop := ∀ a ∈ p.arcs, a.via.length ≤ 8796093022208
theorem wpList_applL {P : Program} (w : World) {ops : Array Oper} {rest : List Oper} {o : Oper} {a : Act} {Q : Exit → Act → World → Prop} (hgd : o.guard = none) (s x : Operand) (t : TypeId)
  (ho : o.op = .call { callee := .builtin .append, args := #[s, x], argTypes := #[t, t] })
  {α : Type} {f : α → List Value} {base : Nat} {e : TypeId} {size bytes : Nat} (hE : Elem P t e size bytes) (hf : ∀ a, (f a).length = size) (hone : ∀ a, ∀ u ∈ f a, u.oneCell' = true)
  {v : Value} {l : List α} (hs : a.eval s = v) (hown : Own w base e size f v l)
  {src : Value} {l2 : List α} (hx : a.eval x = src) (hr : Sl w src l2.length (l2.flatMap f))
  (hbytes : (l.length + l2.length) * bytes ≤ 140737488355328) (h32 : l.length + l2.length ≤ 8796093022208) (hbase : base ≤ w.heap.size)
  (h : ∀ v' w', Own w' base e size f v' (l ++ l2) → w.grownBy w' v.ownBlock → (v'.ownBlock = v.ownBlock ∨ v'.ownBlock = some w.heap.size) → wpList P ops Q rest (a.put o.dst v') w') : wpList P ops Q (o :: rest) a w := by
 obtain ⟨ht, i, z, hi, hz, hsize, hby, hzs, hsz⟩ := hE
 refine wpList_app w hgd s x t ho base e i z size bytes ht hi hz hsize hby hzs hsz v l.length (l.flatMap f) hs hown src l2.length (l2.flatMap f) hx hr (flat_length f size hf l2)
  (fun u hu => ?_) (le_maxL h32) hbytes hbase (fun v' w' h1 h2 h3 => h v' w' ?_ h2 h3)
 ·
  obtain ⟨a, _, hu⟩ := List.mem_flatMap.1 hu
  exact hone a u hu
 ·
  unfold Own
  rw [List.length_append, List.flatMap_append]
  exact h1
set_option maxHeartbeats 400000 in
theorem Clone_pt_specL (v : Value) (l : List Pt) (w : World) (h : Pts w v l) (hl : l.length ≤ 8796093022208) :
  Calls Tryz.prog 72 #[v] w (RetPts w l) := by
 have H := h
 obtain ⟨A, c, rfl, hn, hc, hR⟩ := h
 have hE := Lib.run_eql_slice_nil (P := Tryz.prog) (t := 45) (e := 41)
 rcases A with _ | ad
 ·
  have hl0 : l = [] := by
   rcases l with _ | ⟨a, l⟩
   · rfl
   ·
    obtain ⟨b, o, e, _⟩ := hR (by simp [ptC])
    cases e
  subst hl0
  clear hR H
  simp only [List.length_nil] at hn ⊢
  have hE1 : ∀ W : World, (binOp .eql 45 (.slice none 0 c) (.slice none 0 0)).run Tryz.prog W = .ok (.bool true) W := fun W => Lib.run_eql_slice_nil W _ 41 none _ c 0 0 Tryz.underlying45
  clear hE
  go_enter Tryz.func72, Tryz.ntmps72
  go_wp2
  go_ret
  exact ⟨_, _, rfl, bR w, Own.nil _ _ _ _ _⟩
 ·
  have hE1 : ∀ W : World, (binOp .eql 45 (.slice (some ad) l.length c) (.slice none 0 0)).run Tryz.prog W = .ok (.bool false) W := fun W => Lib.run_eql_slice_nil W _ 41 (some ad) _ c 0 0 Tryz.underlying45
  clear hE hR
  have HH := Lib.hid H; clear H
  go_enter Tryz.func72, Tryz.ntmps72
  go_wp2_with
   (at_builtin
    refine wpList_applL _ rfl (.tmp 5) (.tmp 6) _ rfl (base := w.heap.size) elem_pt ptC_len ptC_one rfl (Own.lit _ _ _ _ ptC [] _ 0 _ rfl rfl (Nat.le_refl _) (le_maxLen (by omega)) rfl rfl) rfl (HH.out.mono (bA (bR w) _)) (by simp only [List.length_nil]; omega) (by simp only [List.length_nil]; omega) (by simp) ?_
    intro v1 w1 hown hg hat)
  go_ret
  obtain ⟨A1, c1, rfl, -⟩ := Own.sl hown
  simp only [List.nil_append] at hown ⊢
  exact ⟨A1, c1, rfl, bG (bA (bR w) _) hg (fun k hk => by have : w.heap.size = k := Option.some.inj hk; omega), hown⟩

set_option maxHeartbeats 4000000 in
theorem Arc_specL (v : Value) (p : Pl) (id : Int) (w : World) (h : PlV w v p) (hsh : ShortL p) :
  Calls Tryz.prog 45 #[v, .int .i64 id] w (ArRes w (findAr p.arcs id)) := by
 obtain ⟨vn, _, vf, al, rfl, hpa, -, ⟨⟨An, cn, rfl, hn1, hn2, hR⟩, hV⟩, -⟩ := h
 unfold maxLen at hn2
 unfold ShortL at hsh
 rw [hpa] at hsh ⊢
 clear hpa
 have hsh' : ∀ k (hk : k < al.length), al[k].1.via.length ≤ 8796093022208 := fun k hk => hsh _ (List.mem_map_of_mem (List.getElem_mem hk))
 have HV := Lib.hid hV; clear hV hsh
 have HSh := Lib.hid hsh'; clear hsh'
 go_enter Tryz.func45, Tryz.ntmps45
 go_wp2_with fail
 go_loopw [11] (fun i wr => ∃ k : Nat, k ≤ al.length ∧ i = .int .i64 k ∧ Below w.heap.size w wr ∧ Blk wr (w.heap.size + 1) 47 #[.int .i64 0, .int .i64 0, .int .i64 0, .slice none 0 0, .int .i64 0, .int .i64 0] ∧ ∀ j (hj : j < al.length), j < k → (al[j].1.id == id) = false) (fun i _ => al.length - (intOf i).toNat)
 case atStart => exact ⟨0, Nat.zero_le _, rfl, bA (bA (bR w) _) _, Blk.made (by simp) _ _, fun j _ h => by omega⟩
 case round =>
  obtain ⟨k, hk, rfl, hb, X4, hno⟩ := hrel
  have Hb := Lib.hid hb
  have Hno := Lib.hid hno
  clear hb hno
  obtain ⟨X4l, X4a, X4b, X4c, X4d, X4e, X4f, X4fa, X4fb, X4fc, X4fd, X4fe, X4ff⟩ := X4.facts6
  by_cases hlt : k < al.length
  ·
   obtain ⟨b, o, rfl, hlb, c0, c1, c2, c3, c4, c5⟩ := (hR.mono Hb.out).ar hlt
   have HR := Lib.hid hR; clear hR
   have hvk := (HV.out k hlt)
   obtain ⟨Av, cv, hv, -⟩ := hvk
   have hvk := (HV.out k hlt)
   rw [hv] at c3 hvk
   generalize hvl : al[k].1.via.length = vl at *
   have Hvl := Lib.hid hvl
   have Hvk := Lib.hid hvk; clear hvk hv hvl
   cases he : (al[k].1.id == id)
   ·
    go_wp2
    go_roundw
    case rel => exact ⟨k + 1, by omega, by go_num, bA Hb.out _, X4.alloc _, all_succ (p := fun x => (x.1.id == id) = false) Hno.out hlt he⟩
    case measure => simp [intOf]; omega
   ·
    have hf := findAr_hit al id k hlt Hno.out he
    have Hf := Lib.hid hf; clear hf
    go_wp2_with fail
    refine (Clone_pt_specL _ _ _ (Hvk.out.mono (bA Hb.out _)) (HSh.out k hlt)).mono ?_
    rintro e w1 ⟨A1, cc1, rfl, hb1, hown⟩
    have Bw : Below w.heap.size w w1 := bT (bA Hb.out _) hb1
    have X7 : Blk w1 wr.heap.size 47 #[.int .i64 al[k].1.id, .int .i64 al[k].1.fr,   .int .i64 al[k].1.dst, .slice Av vl cv, .int .i64 al[k].1.left, .int .i64 al[k].1.right] := (Blk.made rfl _ _).keep hb1
    have hw8 : w.heap.size + 1 < wr.heap.size := by omega
    have hw7 : w.heap.size + 1 ≠ wr.heap.size := by omega
    replace X4 := (X4.alloc _).keep hb1
    have hown' := hown.mono_base (b' := wr.heap.size + 1) (by simp)
    have hP := Own.sl hown
    have Hown := Lib.hid hown'
    clear hb1 c0 c1 c2 c3 c4 c5 hlb hown hown' hP
    try clear X4l
    try clear X4a
    try clear X4b
    try clear X4c
    try clear X4d
    try clear X4e
    try clear X4f
    try clear X4fa
    try clear X4fb
    try clear X4fc
    try clear X4fd
    try clear X4fe
    try clear X4ff
    obtain ⟨X4l, X4a, X4b, X4c, X4d, X4e, X4f, X4fa, X4fb, X4fc, X4fd, X4fe, X4ff⟩ := X4.facts6
    obtain ⟨X7l, X7a, X7b, X7c, X7d, X7e, X7f, X7fa, X7fb, X7fc, X7fd, X7fe, X7ff⟩ := X7.facts6
    go_wp2_with fail
    have hszr := Hb.out.size
    have ne7 : (Value.slice A1 al[k].1.via.length cc1).ownBlock ≠ some wr.heap.size := fun e => by have := (Hown.out.lt _ e).1; omega
    have ne4 : (Value.slice A1 al[k].1.via.length cc1).ownBlock ≠ some (w.heap.size + 1) := fun e => by have := (Hown.out.lt _ e).1; omega
    have HP := Own.sl (((((((Hown.out.far (p := ⟨wr.heap.size, 3, none⟩) ne7 (.slice A1 al[k].1.via.length cc1)).far (p := ⟨w.heap.size + 1, 0, none⟩) ne4 (.int .i64 al[k].1.id)).far (p := ⟨w.heap.size + 1, 1, none⟩) ne4 (.int .i64 al[k].1.fr)).far (p := ⟨w.heap.size + 1, 2, none⟩) ne4 (.int .i64 al[k].1.dst)).far (p := ⟨w.heap.size + 1, 3, none⟩) ne4 (.slice A1 al[k].1.via.length cc1)).far (p := ⟨w.heap.size + 1, 4, none⟩) ne4 (.int .i64 al[k].1.left)).far (p := ⟨w.heap.size + 1, 5, none⟩) ne4 (.int .i64 al[k].1.right))
    refine res_cell_tmp (g := w.heap.size + 1) (cs := #[.int .i64 al[k].1.id, .int .i64 al[k].1.fr, .int .i64 al[k].1.dst, .slice A1 al[k].1.via.length cc1, .int .i64 al[k].1.left, .int .i64 al[k].1.right]) rfl struct_ar rfl rfl (Blk.put6 (X4.far (p := ⟨wr.heap.size, 3, none⟩) hw7 _)) ⟨.slice A1 al[k].1.via.length cc1, by rw [Hf.out]; rfl, ?_, by rw [Hf.out]; exact HP⟩
    repeat (first | with_reducible exact bR _ | with_reducible assumption | with_reducible refine bA ?_ _ | with_reducible refine bD ?_ | with_reducible refine bN ?_ _ | ((with_reducible refine bS ?_ ?_ _); rotate_left; (simp; try omega)) | ((with_reducible refine bT ?_ ?_); rotate_left; with_reducible assumption) | with_reducible refine bT ?_ (by assumption))
  ·
   have hf := findAr_miss al id (fun j hj => Hno.out j hj (by omega))
   have Hf := Lib.hid hf; clear hf
   go_wp2
   have Bw := Hb.out
   refine res_cell_tmp (g := w.heap.size + 1) (cs := #[.int .i64 0, .int .i64 0, .int .i64 0, .slice none 0 0, .int .i64 0, .int .i64 0]) rfl struct_ar rfl rfl (Blk.put6 X4) ⟨.slice none 0 0, by rw [Hf.out]; rfl, ?_, by rw [Hf.out]; exact Sl.nil _⟩
   repeat (first | with_reducible exact bR _ | with_reducible assumption | with_reducible refine bA ?_ _ | with_reducible refine bD ?_ | with_reducible refine bN ?_ _ | ((with_reducible refine bS ?_ ?_ _); rotate_left; (simp; try omega)) | ((with_reducible refine bT ?_ ?_); rotate_left; with_reducible assumption) | with_reducible refine bT ?_ (by assumption))

end Go.Proofs.YtoclnkfeblfpbaaGreat
namespace Go.Proofs.YtoclnkfeblfpbaaGreat
open Go.RowKit

theorem findIdx_at {l : List Int} (hl : l.Nodup) {i : Nat} (hi : i < l.length) : l.findIdx? (fun x => x == l[i]) = some i := by
 rw [List.findIdx?_eq_some_iff_getElem]
 refine ⟨hi, by simp, fun j hj => ?_⟩
 rw [List.Nodup, List.pairwise_iff_getElem] at hl
 have := hl j i (by omega) hi hj
 simpa using this
theorem precD_at {l : List Int} (hl : l.Nodup) {i : Nat} (hi : i < l.length) : precD l l[i] = l[(i + l.length - 1) % l.length]'(Nat.mod_lt _ (by omega)) := by
 unfold precD
 rw [findIdx_at hl hi]
 simp only []
 rw [List.getD_eq_getElem?_getD, List.getElem?_eq_getElem (Nat.mod_lt _ (by omega))]
 rfl
theorem precD_mem {l : List Int} (hl : l.Nodup) {d : Int} (hd : d ∈ l) : precD l d ∈ l := by
 obtain ⟨i, hi, rfl⟩ := List.mem_iff_getElem.1 hd
 rw [precD_at hl hi]
 exact List.getElem_mem _
theorem mod_inj {i j n : Nat} (hi : i < n) (hj : j < n) (h : (i + n - 1) % n = (j + n - 1) % n) : i = j := by
 have key : ∀ k, k < n → (k + n - 1) % n = if k = 0 then n - 1 else k - 1 := fun k hk => by
  split
  · subst k; rw [Nat.mod_eq_of_lt (by omega)]; omega
  · rw [show k + n - 1 = (k - 1) + n by omega, Nat.add_mod_right, Nat.mod_eq_of_lt (by omega)]
 rw [key i hi, key j hj] at h
 split at h <;> split at h <;> omega
theorem precD_inj {l : List Int} (hl : l.Nodup) {d e : Int} (hd : d ∈ l) (he : e ∈ l) (h : precD l d = precD l e) : d = e := by
 obtain ⟨i, hi, rfl⟩ := List.mem_iff_getElem.1 hd
 obtain ⟨j, hj, rfl⟩ := List.mem_iff_getElem.1 he
 rw [precD_at hl hi, precD_at hl hj] at h
 have hl' := hl
 rw [List.Nodup, List.pairwise_iff_getElem] at hl'
 have e : (i + l.length - 1) % l.length = (j + l.length - 1) % l.length := by
  rcases Nat.lt_trichotomy ((i + l.length - 1) % l.length) ((j + l.length - 1) % l.length) with h1 | h1 | h1
  · exact absurd h (hl' _ _ _ _ h1)
  · exact h1
  · exact absurd h.symm (hl' _ _ _ _ h1)
 have := mod_inj hi hj e
 subst this; rfl

theorem neg_dart {p : Pl} {d : Int} (hd : d ∈ dartsD p) : -d ∈ dartsD p := by
 obtain ⟨a, ha, e⟩ := mem_dartsD.1 hd
 refine mem_dartsD.2 ⟨a, ha, ?_⟩
 rcases e with rfl | rfl
 · exact .inr rfl
 · exact .inl (Int.neg_neg _)
section
variable {p : Pl} (h : Valid p)
include h
theorem Valid.arcD_some {d : Int} (hd : d ∈ dartsD p) : (arcD p d).isSome = true := by
 obtain ⟨a, ha, e⟩ := mem_dartsD.1 hd
 rcases e with rfl | rfl
 · rw [h.arcD_pos ha]; rfl
 · rw [h.arcD_neg ha]; rfl
/-- a dart begins at a node, among its darts -/
theorem Valid.start_node {d : Int} (hd : d ∈ dartsD p) : ∃ n ∈ p.nodes, n.id = startD p d ∧ d ∈ dartL p.arcs n.id := by
 obtain ⟨a, ha, e⟩ := mem_dartsD.1 hd
 rcases e with rfl | rfl
 ·
  obtain ⟨n, hn, e, -⟩ := h.sound.at_fr ha
  exact ⟨n, hn, by rw [h.start_pos ha, e], mem_dartL.2 ⟨a, ha, .inl ⟨rfl, e.symm⟩⟩⟩
 ·
  obtain ⟨n, hn, e, -⟩ := h.sound.at_dst ha
  exact ⟨n, hn, by rw [h.start_neg ha, e], mem_dartL.2 ⟨a, ha, .inr ⟨rfl, e.symm⟩⟩⟩
theorem Valid.dartL_start {n d : Int} (hd : d ∈ dartL p.arcs n) : d ∈ dartsD p ∧ startD p d = n := by
 obtain ⟨a, ha, e⟩ := mem_dartL.1 hd
 rcases e with ⟨rfl, e⟩ | ⟨rfl, e⟩
 · exact ⟨mem_dartsD.2 ⟨a, ha, .inl rfl⟩, by rw [h.start_pos ha, e]⟩
 · exact ⟨mem_dartsD.2 ⟨a, ha, .inr rfl⟩, by rw [h.start_neg ha, e]⟩
theorem Valid.around_nodup {n : Nd} (hn : n ∈ p.nodes) : (aroundD p n.id).Nodup := (h.around_perm hn).nodup_iff.2 h.dartL_nodup
theorem Valid.next_eq {d : Int} (hd : d ∈ dartsD p) : ∃ n ∈ p.nodes, n.id = startD p (-d) ∧ -d ∈ aroundD p n.id ∧ nextD p d = precD (aroundD p n.id) (-d) := by
 obtain ⟨n, hn, e, hm⟩ := h.start_node (neg_dart hd)
 refine ⟨n, hn, e, (h.around_perm hn).symm.subset hm, ?_⟩
 unfold nextD
 rw [if_pos (h.arcD_some hd), e]
theorem Valid.next_mem {d : Int} (hd : d ∈ dartsD p) : nextD p d ∈ dartsD p ∧ startD p (nextD p d) = startD p (-d) := by
 obtain ⟨n, hn, e, hm, hx⟩ := h.next_eq hd
 rw [hx]
 have h1 := precD_mem (h.around_nodup hn) hm
 have h2 := h.dartL_start ((h.around_perm hn).subset h1)
 exact ⟨h2.1, by rw [h2.2, e]⟩
theorem Valid.next_inj {d e : Int} (hd : d ∈ dartsD p) (he : e ∈ dartsD p) (hx : nextD p d = nextD p e) : d = e := by
 obtain ⟨n, hn, e1, m1, x1⟩ := h.next_eq hd
 obtain ⟨m, hm, e2, m2, x2⟩ := h.next_eq he
 have hs := (h.next_mem hd).2
 rw [hx, (h.next_mem he).2, ← e2, ← e1] at hs
 rw [x1, x2, hs] at hx
 rw [hs] at m2
 have := precD_inj (h.around_nodup hn) m1 m2 hx
 omega
theorem Valid.darts_nodup : (dartsD p).Nodup := h.darts_sorted.imp (fun h => by omega)
theorem Valid.cyc : Cyc (nextD p) (dartsD p) (dartsD p) (cyclesD p) :=
 cyc_all (fun x hx => (h.next_mem hx).1) (fun x hx y hy => h.next_inj hx hy) h.darts_sorted
theorem Valid.cyc_perm : (cyclesD p).flatten.Perm (dartsD p) := h.cyc.perm (fun x hx => (h.next_mem hx).1) h.darts_nodup
/-- Around, over all nodes: each dart once. -/
theorem Valid.all_around : (p.nodes.flatMap fun n => aroundD p n.id).Perm (dartsD p) := by
 refine (List.perm_ext_iff_of_nodup ?_ h.darts_nodup).2 fun d => ?_
 ·
  unfold List.Nodup
  rw [List.pairwise_flatMap]
  refine ⟨fun n hn => h.around_nodup hn, ?_⟩
  have hs := h.sound.nodes
  rw [List.pairwise_map] at hs
  rw [List.pairwise_iff_getElem] at hs ⊢
  intro i j hi hj hij x hx y hy e
  subst e
  have h1 := (h.dartL_start ((h.around_perm (List.getElem_mem hi)).subset hx)).2
  have h2 := (h.dartL_start ((h.around_perm (List.getElem_mem hj)).subset hy)).2
  have := hs i j hi hj hij
  omega
 ·
  rw [List.mem_flatMap]
  constructor
  ·
   rintro ⟨n, hn, hd⟩
   exact (h.dartL_start ((h.around_perm hn).subset hd)).1
  ·
   intro hd
   obtain ⟨n, hn, -, hm⟩ := h.start_node hd
   exact ⟨n, hn, (h.around_perm hn).symm.subset hm⟩
end
end Go.Proofs.YtoclnkfeblfpbaaGreat
namespace Go.Proofs.YtoclnkfeblfpbaaGreat
open Go.RowKit

theorem ArRes.form {w : World} {r : Option Ar} {e : Ending} {w' : World} (h : ArRes w r e w') : ∃ A c, e = .returned (.tuple #[.agg #[.int .i64 (r.getD ar0).id, .int .i64 (r.getD ar0).fr, .int .i64 (r.getD ar0).dst, .slice A (r.getD ar0).via.length c, .int .i64 (r.getD ar0).left, .int .i64 (r.getD ar0).right], .bool r.isSome]) ∧ Below w.heap.size w w' ∧ Pts w' (.slice A (r.getD ar0).via.length c) (r.getD ar0).via := by
 obtain ⟨v', rfl, hb, hp⟩ := h
 obtain ⟨A, c, rfl, h1, h2, h3⟩ := hp
 exact ⟨A, c, rfl, hb, A, c, rfl, h1, h2, h3⟩
theorem wfI_bd {n : Int} (h : wfI n) : -9223372036854775808 ≤ n ∧ n ≤ 9223372036854775807 := by
 unfold wfI Lit.wf at h
 simp only [Bool.and_eq_true, decide_eq_true_eq] at h
 have h1 : IntKind.i64.min = -9223372036854775808 := by decide
 have h2 : IntKind.i64.max = 9223372036854775807 := by decide
 rw [h1, h2] at h
 exact h
theorem arcD_max {p : Pl} {d : Int} (h0 : d ≠ 0) (h1 : d ≠ -9223372036854775808) : findAr p.arcs (max d (-d)) = arcD p d := by
 unfold arcD minI absI
 rw [if_neg (by omega)]
 congr 1
 split <;> omega

/-- an arc (its inner points not told), and whether there is one -/
def ArResI (w : World) (r : Option Ar) (e : Ending) (w' : World) : Prop :=
 ∃ A n c, e = .returned (.tuple #[.agg #[.int .i64 (r.getD ar0).id, .int .i64 (r.getD ar0).fr, .int .i64 (r.getD ar0).dst, .slice A n c, .int .i64 (r.getD ar0).left, .int .i64 (r.getD ar0).right], .bool r.isSome]) ∧ Below w.heap.size w w'
set_option maxRecDepth 100000 in
set_option maxHeartbeats 4000000 in
theorem arcOf_spec (v : Value) (p : Pl) (d : Int) (w : World) (h : PlV w v p) (hs : ShortL p) (hd : wfI d) : Calls Tryz.prog 26 #[v, .int .i64 d] w (ArResI w (arcD p d)) := by
 have TA := fun W (hW : Below w.heap.size w W) => Arc_specL v p (max d (-d)) W (h.mono hW) hs
 obtain ⟨_, _, _, al, rfl, hpa, ⟨An, cn, rfl, -⟩, ⟨⟨Aa, ca, rfl, -⟩, -⟩, ⟨Af, cf, rfl, -⟩⟩ := h
 generalize al.length = na at *
 generalize p.nodes.length = nn at *
 generalize p.faces.length = nf at *
 clear hpa
 by_cases h0 : d = 0
 ·
  subst h0
  have hz : arcD p 0 = none := by unfold arcD; rw [if_pos (.inl rfl)]
  rw [hz]
  clear TA hz
  go_enter Tryz.func26, Tryz.ntmps26
  go_upto_region 1 with fail
  obtain ⟨W, hW⟩ : ∃ W : World, W = (w.alloc (.cells #[.slice An nn cn, .slice Aa na ca, .slice Af nf cf] 26)).alloc (.cells #[.int .i64 0, .int .i64 0, .int .i64 0, .slice none 0 0, .int .i64 0, .int .i64 0] 47) := ⟨_, rfl⟩
  have Bw : Below w.heap.size w W := by rw [hW]; exact bA (bA (bR w) _) _
  have X4 : Blk W (w.heap.size + 1) 47 #[.int .i64 0, .int .i64 0, .int .i64 0, .slice none 0 0, .int .i64 0, .int .i64 0] := by rw [hW]; exact Blk.made (by simp) _ _
  rw [← hW]
  clear hW
  obtain ⟨X4l, X4a, X4b, X4c, X4d, X4e, X4f, X4fa, X4fb, X4fc, X4fd, X4fe, X4ff⟩ := X4.facts6
  go_wp2_with fail
  refine res_cell_tmp (g := w.heap.size + 1) (cs := #[.int .i64 0, .int .i64 0, .int .i64 0, .slice none 0 0, .int .i64 0, .int .i64 0]) rfl struct_ar rfl rfl (Blk.put6 X4) ⟨none, 0, 0, rfl, ?_⟩
  repeat (first | with_reducible exact bR _ | with_reducible assumption | with_reducible refine bA ?_ _ | with_reducible refine bD ?_ | with_reducible refine bN ?_ _ | ((with_reducible refine bS ?_ ?_ _); rotate_left; (simp; try omega)) | ((with_reducible refine bT ?_ ?_); rotate_left; with_reducible assumption) | with_reducible refine bT ?_ (by assumption))
 by_cases h1 : d = -9223372036854775808
 ·
  subst h1
  have hz : arcD p (-9223372036854775808) = none := by unfold arcD; rw [if_pos (.inr rfl)]
  rw [hz]
  clear TA hz h0
  go_enter Tryz.func26, Tryz.ntmps26
  go_upto_region 1 with fail
  obtain ⟨W, hW⟩ : ∃ W : World, W = (w.alloc (.cells #[.slice An nn cn, .slice Aa na ca, .slice Af nf cf] 26)).alloc (.cells #[.int .i64 0, .int .i64 0, .int .i64 0, .slice none 0 0, .int .i64 0, .int .i64 0] 47) := ⟨_, rfl⟩
  have Bw : Below w.heap.size w W := by rw [hW]; exact bA (bA (bR w) _) _
  have X4 : Blk W (w.heap.size + 1) 47 #[.int .i64 0, .int .i64 0, .int .i64 0, .slice none 0 0, .int .i64 0, .int .i64 0] := by rw [hW]; exact Blk.made (by simp) _ _
  rw [← hW]
  clear hW
  try clear X4l
  try clear X4a
  try clear X4b
  try clear X4c
  try clear X4d
  try clear X4e
  try clear X4f
  try clear X4fa
  try clear X4fb
  try clear X4fc
  try clear X4fd
  try clear X4fe
  try clear X4ff
  obtain ⟨X4l, X4a, X4b, X4c, X4d, X4e, X4f, X4fa, X4fb, X4fc, X4fd, X4fe, X4ff⟩ := X4.facts6
  go_wp2_with fail
  refine res_cell_tmp (g := w.heap.size + 1) (cs := #[.int .i64 0, .int .i64 0, .int .i64 0, .slice none 0 0, .int .i64 0, .int .i64 0]) rfl struct_ar rfl rfl (Blk.put6 X4) ⟨none, 0, 0, rfl, ?_⟩
  repeat (first | with_reducible exact bR _ | with_reducible assumption | with_reducible refine bA ?_ _ | with_reducible refine bD ?_ | with_reducible refine bN ?_ _ | ((with_reducible refine bS ?_ ?_ _); rotate_left; (simp; try omega)) | ((with_reducible refine bT ?_ ?_); rotate_left; with_reducible assumption) | with_reducible refine bT ?_ (by assumption))
 rw [arcD_max h0 h1] at TA
 have hb := wfI_bd hd
 have k1 : IntKind.i64.wrap (-d) = -d := IntWalk.i64_in _ (by omega)
 have e0 : (d == 0) = false := by simpa using h0
 have e1 : (d == -9223372036854775808) = false := by simpa using h1
 have HA := Lib.hid TA
 clear TA h0 h1 hd hb
 generalize arcD p d = r at *
 go_enter Tryz.func26, Tryz.ntmps26
 go_upto_region 1 with fail
 obtain ⟨W, hW⟩ : ∃ W : World, W = (w.alloc (.cells #[.slice An nn cn, .slice Aa na ca, .slice Af nf cf] 26)).alloc (.cells #[.int .i64 0, .int .i64 0, .int .i64 0, .slice none 0 0, .int .i64 0, .int .i64 0] 47) := ⟨_, rfl⟩
 have Bw : Below w.heap.size w W := by rw [hW]; exact bA (bA (bR w) _) _
 have X4 : Blk W (w.heap.size + 1) 47 #[.int .i64 0, .int .i64 0, .int .i64 0, .slice none 0 0, .int .i64 0, .int .i64 0] := by rw [hW]; exact Blk.made (by simp) _ _
 have X2 : Blk W w.heap.size 26 #[.slice An nn cn, .slice Aa na ca, .slice Af nf cf] := by rw [hW]; exact (Blk.made rfl _ _).alloc _
 rw [← hW]
 clear hW
 obtain ⟨X2l, X2a, X2b, X2c, -, -, -⟩ := X2.facts3
 go_wp2_with fail
 refine (HA.out _ Bw).mono ?_
 intro e w1 har
 obtain ⟨A1, c1, rfl, hb1, -⟩ := har.form
 have Bw := bT Bw hb1
 replace X4 := X4.keep hb1
 clear har hb1 X2 X2l X2a X2b X2c
 try clear X4l
 try clear X4a
 try clear X4b
 try clear X4c
 try clear X4d
 try clear X4e
 try clear X4f
 try clear X4fa
 try clear X4fb
 try clear X4fc
 try clear X4fd
 try clear X4fe
 try clear X4ff
 obtain ⟨X4l, X4a, X4b, X4c, X4d, X4e, X4f, X4fa, X4fb, X4fc, X4fd, X4fe, X4ff⟩ := X4.facts6
 generalize hvl : (r.getD ar0).via.length = vl at *
 go_wp2_with fail
 refine res_cell_tmp (g := w.heap.size + 1) (cs := #[.int .i64 (r.getD ar0).id, .int .i64 (r.getD ar0).fr, .int .i64 (r.getD ar0).dst, .slice A1 vl c1, .int .i64 (r.getD ar0).left, .int .i64 (r.getD ar0).right]) rfl struct_ar rfl rfl (Blk.put6 X4) ⟨A1, vl, c1, rfl, ?_⟩
 repeat (first | with_reducible exact bR _ | with_reducible assumption | with_reducible refine bA ?_ _ | with_reducible refine bD ?_ | with_reducible refine bN ?_ _ | ((with_reducible refine bS ?_ ?_ _); rotate_left; (simp; try omega)) | ((with_reducible refine bT ?_ ?_); rotate_left; with_reducible assumption) | with_reducible refine bT ?_ (by assumption))

set_option maxRecDepth 100000 in
set_option maxHeartbeats 4000000 in
theorem wStart_spec (v : Value) (p : Pl) (d : Int) (w : World) (h : PlV w v p) (hs : ShortL p) (hd : wfI d) : Calls Tryz.prog 9 #[v, .int .i64 d] w fun e w' => e = .returned (.int .i64 (startD p d)) ∧ Below w.heap.size w w' := by
 have HA := Lib.hid (fun W (hW : Below w.heap.size w W) => arcOf_spec v p d W (h.mono hW) hs hd)
 obtain ⟨_, _, _, al, rfl, hpa, ⟨An, cn, rfl, -⟩, ⟨⟨Aa, ca, rfl, -⟩, -⟩, ⟨Af, cf, rfl, -⟩⟩ := h
 unfold startD
 generalize arcD p d = r at *
 generalize al.length = na at *
 generalize p.nodes.length = nn at *
 generalize p.faces.length = nf at *
 clear hpa hd hs
 go_enter Tryz.func9, Tryz.ntmps9
 go_wp2_with fail
 refine (HA.out _ (bA (bR w) _)).mono ?_
 rintro e w1 ⟨A1, n1, c1, rfl, hb1⟩
 have B1 := Lib.hid (bT (bA (bR w) _) hb1)
 clear hb1 HA
 cases r with
 | none =>
  simp only [Option.isSome_none]
  go_wp2_with fail
  go_ret
  exact ⟨rfl, bA B1.out _⟩
 | some a =>
  simp only [Option.isSome_some, Option.getD_some]
  by_cases hp : 0 < d
  ·
   go_wp2_with fail
   go_ret
   exact ⟨ret_int (by first | rfl | simp [hp]), bA B1.out _⟩
  ·
   go_wp2_with fail
   go_ret
   exact ⟨ret_int (by first | rfl | simp [hp]), bA B1.out _⟩
set_option maxRecDepth 100000 in
set_option maxHeartbeats 4000000 in
theorem wSide_spec (v : Value) (p : Pl) (d : Int) (w : World) (h : PlV w v p) (hs : ShortL p) (hd : wfI d) : Calls Tryz.prog 11 #[v, .int .i64 d] w fun e w' => e = .returned (.int .i64 (sideD p d)) ∧ Below w.heap.size w w' := by
 have HA := Lib.hid (fun W (hW : Below w.heap.size w W) => arcOf_spec v p d W (h.mono hW) hs hd)
 obtain ⟨_, _, _, al, rfl, hpa, ⟨An, cn, rfl, -⟩, ⟨⟨Aa, ca, rfl, -⟩, -⟩, ⟨Af, cf, rfl, -⟩⟩ := h
 unfold sideD
 generalize arcD p d = r at *
 generalize al.length = na at *
 generalize p.nodes.length = nn at *
 generalize p.faces.length = nf at *
 clear hpa hd hs
 go_enter Tryz.func11, Tryz.ntmps11
 go_wp2_with fail
 refine (HA.out _ (bA (bR w) _)).mono ?_
 rintro e w1 ⟨A1, n1, c1, rfl, hb1⟩
 have B1 := Lib.hid (bT (bA (bR w) _) hb1)
 clear hb1 HA
 cases r with
 | none =>
  simp only [Option.isSome_none]
  go_wp2_with fail
  go_ret
  exact ⟨rfl, bA B1.out _⟩
 | some a =>
  simp only [Option.isSome_some, Option.getD_some]
  by_cases hp : 0 < d
  ·
   go_wp2_with fail
   go_ret
   exact ⟨ret_int (by first | rfl | simp [hp]), bA B1.out _⟩
  ·
   go_wp2_with fail
   go_ret
   exact ⟨ret_int (by first | rfl | simp [hp]), bA B1.out _⟩

end Go.Proofs.YtoclnkfeblfpbaaGreat
namespace Go.Proofs.YtoclnkfeblfpbaaGreat
open Go.RowKit

def crossG (a b : Pt) : Int := a.x * b.y - b.x * a.y
def twUp (P : List Pt) : Nat → Int
 | 0 => 0
 | k + 1 => twUp P k + crossG (P.getD k pt0) (P.getD (k + 1) pt0)
def twiceP (P : List Pt) : Int := twUp P (P.length - 1)
def dartT (p : Pl) (d : Int) : Int := match arcD p d with
 | none => 0
 | some a => if 0 < d then twiceP (pathS p a) else -twiceP (pathS p a)
def twiceUp (p : Pl) (l : List Int) : Nat → Int
 | 0 => 0
 | k + 1 => twiceUp p l k + dartT p (l.getD k 0)
def twiceD (p : Pl) (l : List Int) : Int := if l.length ≤ 512 ∧ (∀ d ∈ l, (arcD p d).isSome = true) then twiceUp p l l.length else 0

def big1 (p : Pt) : Prop := (-1048576 ≤ p.x ∧ p.x ≤ 1048576) ∧ (-1048576 ≤ p.y ∧ p.y ≤ 1048576)
theorem mul_big {u v : Int} (hu : -1048576 ≤ u ∧ u ≤ 1048576) (hv : -1048576 ≤ v ∧ v ≤ 1048576) : -1099511627776 ≤ u * v ∧ u * v ≤ 1099511627776 := by
 have := mul_bd u v 1048576 hu.1 hu.2 hv.1 hv.2
 simpa using this
theorem crossG_bd {a b : Pt} (ha : big1 a) (hb : big1 b) : -2199023255552 ≤ crossG a b ∧ crossG a b ≤ 2199023255552 := by
 have h1 := mul_big ha.1 hb.2
 have h2 := mul_big hb.1 ha.2
 unfold crossG
 omega
theorem twUp_bd {P : List Pt} (h : ∀ q ∈ P, big1 q) (k : Nat) (hk : k + 1 ≤ P.length ∨ k = 0) : -(2199023255552 * (k : Int)) ≤ twUp P k ∧ twUp P k ≤ 2199023255552 * (k : Int) := by
 induction k with
 | zero => simp [twUp]
 | succ k ih =>
  have ih := ih (by omega)
  have g : ∀ j, j < P.length → big1 (P.getD j pt0) := fun j hj => by
   rw [List.getD_eq_getElem?_getD, List.getElem?_eq_getElem hj]
   exact h _ (List.getElem_mem hj)
  have := crossG_bd (g k (by omega)) (g (k + 1) (by omega))
  rw [twUp]
  omega
theorem big_of {q : Pt} (h : ptOk q = true) : big1 q := by
 unfold ptOk at h
 simp only [Bool.and_eq_true, decide_eq_true_eq] at h
 unfold big1
 omega
theorem arcD_mem {p : Pl} {d : Int} {a : Ar} (e : arcD p d = some a) : a ∈ p.arcs ∧ absI d = a.id := by
 unfold arcD at e
 split at e
 · cases e
 · exact ⟨List.mem_of_find?_eq_some e, by have := List.find?_some e; exact (show a.id = absI d by simpa using this).symm⟩
section
variable {p : Pl} (h : Valid p)
include h
theorem Valid.big_path {a : Ar} (ha : a ∈ p.arcs) {q : Pt} (hq : q ∈ pathS p a) : big1 q := by
 have hr := h.rng
 unfold rangesS at hr
 simp only [Bool.and_eq_true, List.all_eq_true] at hr
 have key : ∀ q ∈ pointsS p, big1 q := fun q hq => big_of (hr.2 q hq)
 unfold pathS at hq
 rcases List.mem_cons.1 hq with rfl | hq
 ·
  obtain ⟨n, hn, -, e⟩ := h.sound.at_fr ha
  rw [e]; exact key _ (List.mem_append_left _ (List.mem_map_of_mem hn))
 ·
  rcases List.mem_append.1 hq with hq | hq
  · exact key _ (List.mem_append_right _ (List.mem_flatMap.2 ⟨a, ha, hq⟩))
  ·
   rw [List.mem_singleton] at hq
   subst hq
   obtain ⟨n, hn, -, e⟩ := h.sound.at_dst ha
   rw [e]; exact key _ (List.mem_append_left _ (List.mem_map_of_mem hn))
theorem Valid.via_len {a : Ar} (ha : a ∈ p.arcs) : a.via.length ≤ 64 := by
 have hl := h.lim
 unfold limS at hl
 rw [Bool.or_eq_false_iff, List.any_eq_false] at hl
 have := hl.1 a ha
 simpa using this
theorem Valid.twice_bd {a : Ar} (ha : a ∈ p.arcs) (k : Nat) (hk : k + 1 ≤ (pathS p a).length) : -142936511610880 ≤ twUp (pathS p a) k ∧ twUp (pathS p a) k ≤ 142936511610880 := by
 have h1 := twUp_bd (P := pathS p a) (fun q hq => h.big_path ha hq) k (.inl hk)
 have h2 := h.via_len ha
 have h3 := pathS_length p a
 omega
theorem Valid.dartT_bd (d : Int) : -142936511610880 ≤ dartT p d ∧ dartT p d ≤ 142936511610880 := by
 unfold dartT
 cases e : arcD p d with
 | none => simp
 | some a =>
  have ha := (arcD_mem e).1
  have h3 := pathS_length p a
  have := h.twice_bd ha ((pathS p a).length - 1) (by omega)
  unfold twiceP
  simp only []
  split <;> omega
theorem Valid.twiceUp_bd (l : List Int) (k : Nat) : -(142936511610880 * (k : Int)) ≤ twiceUp p l k ∧ twiceUp p l k ≤ 142936511610880 * (k : Int) := by
 induction k with
 | zero => simp [twiceUp]
 | succ k ih =>
  have := h.dartT_bd (l.getD k 0)
  rw [twiceUp]
  omega
end
end Go.Proofs.YtoclnkfeblfpbaaGreat
namespace Go.Proofs.YtoclnkfeblfpbaaGreat
open Go.RowKit

/-- the points of a dart (the reference's) -/
def pathR (p : Pl) (d : Int) : List Pt := if 0 < d then (pathOf p d).getD [] else ((pathOf p (-d)).getD []).reverse
theorem pathOf_len15 {p : Pl} (hs : Short p) (id : Int) : ((pathOf p id).getD []).length ≤ 1048578 := by
 cases e : pathOf p id with
 | none => simp
 | some l => exact (pathOf_len e hs).2

set_option maxRecDepth 100000 in
set_option maxHeartbeats 4000000 in
theorem Path15_spec (v : Value) (p : Pl) (d : Int) (w : World) (h : PlV w v p) (hs : Short p) (hd : -9223372036854775808 < d ∧ d ≤ 9223372036854775807) : Calls Tryz.prog 42 #[v, .int .i64 d] w (RetPts w (pathR p d)) := by
 have HA := Lib.hid (fun id W (hW : Below w.heap.size w W) => RPath_spec v p id W (h.mono hW) hs)
 have HLn := Lib.hid (pathOf_len15 hs)
 obtain ⟨_, _, _, al, rfl, hpa, ⟨An, cn, rfl, -⟩, ⟨⟨Aa, ca, rfl, -⟩, -⟩, ⟨Af, cf, rfl, -⟩⟩ := h
 unfold pathR
 generalize al.length = na at *
 generalize p.nodes.length = nn at *
 generalize p.faces.length = nf at *
 clear hpa hs
 by_cases h1 : 0 < d
 ·
  rw [if_pos h1]
  have HB := Lib.hid (HA.out d)
  clear HA hd HLn
  unfold RetPathE at HB
  generalize (pathOf p d).getD [] = L at *
  generalize (if (pathOf p d).isSome then (0 : Int) else 7) = z at *
  go_enter Tryz.func42, Tryz.ntmps42
  go_wp2_with fail
  refine (HB.out _ (bA (bR w) _)).mono ?_
  rintro e w1 ⟨A1, c1, rfl, hb1, ho1⟩
  have B1 := Lib.hid (bT (bA (bR w) _) hb1)
  have HO := Lib.hid (Own.mono_base ho1 (b' := w.heap.size) (by simp))
  clear hb1 ho1 HB
  go_wp2_with fail
  go_ret
  exact ⟨A1, c1, rfl, B1.out, HO.out⟩
 rw [if_neg h1]
 have k1 : IntKind.i64.wrap (-d) = -d := IntWalk.i64_in _ (by omega)
 have HB := Lib.hid (HA.out (-d))
 have hln := HLn.out (-d)
 clear HA hd HLn
 unfold RetPathE at HB
 generalize (pathOf p (-d)).getD [] = L at *
 generalize (if (pathOf p (-d)).isSome then (0 : Int) else 7) = z at *
 obtain ⟨q, hq⟩ : ∃ q, L.reverse = q := ⟨_, rfl⟩
 rw [hq]
 have Hq := Lib.hid hq
 clear hq
 go_enter Tryz.func42, Tryz.ntmps42
 go_wp2_with fail
 refine (HB.out _ (bA (bR w) _)).mono ?_
 rintro e w1 ⟨A1, c1, rfl, hb1, ho1⟩
 have B1 := Lib.hid (bT (bA (bR w) _) hb1)
 have HO := Lib.hid ho1.sl
 clear hb1 ho1 HB k1
 have k2 : IntKind.i64.wrap ((L.length : Int) - 1) = (L.length : Int) - 1 := IntWalk.i64_in _ (by omega)
 have hR := HO.out
 obtain ⟨Aq, cq, he, hq1, hq2, hR⟩ := hR
 injection he with e1 e2 e3
 subst e1 e3
 clear e2
 unfold maxLen at hq2
 have HR := Lib.hid hR
 clear hR
 go_wp2_with fail
 go_loopw [9, 10] (fun s i wr => ∃ m : Nat, m ≤ L.length ∧ i = .int .i64 ((m : Int) - 1) ∧ Own wr w1.heap.size 41 2 ptC s (L.drop m).reverse ∧ Below w1.heap.size w1 wr) (fun _ i _ => (intOf i + 1).toNat)
 case atStart => exact ⟨L.length, Nat.le_refl _, rfl, by rw [List.drop_length]; exact Own.nil _ _ _ _ _, bR w1⟩
 case round =>
  obtain ⟨m, hm, rfl, ho, hb⟩ := hrel
  have Hb := Lib.hid hb
  have Ho := Lib.hid ho
  obtain ⟨As, cs, rfl, -⟩ := Own.sl ho
  clear hb ho
  cases m with
  | zero =>
   have ho := Ho.out
   rw [List.drop_zero, Hq.out] at ho
   have HO2 := Lib.hid ho
   rw [List.drop_zero, Hq.out]
   clear ho
   have k3 : ¬ (0 : Int) ≤ ((0 : Nat) : Int) - 1 := by omega
   go_wp2_with fail
   go_ret
   exact ⟨As, cs, rfl, bT B1.out Hb.out, Own.mono_base HO2.out B1.out.size⟩
  | succ m =>
   have hml : m < L.length := by omega
   obtain ⟨b, o, hA, hlb, c0, c1⟩ := (HR.out.mono Hb.out).pt hml
   subst hA
   have k3 : (((m + 1 : Nat) : Int) - 1) = (m : Int) := by omega
   rw [k3]
   clear k3
   have hst : (L.drop m).reverse = (L.drop (m + 1)).reverse ++ [L[m]] := by rw [← List.reverse_cons, List.drop_eq_getElem_cons hml]
   have HSt := Lib.hid hst
   have hdl : (L.drop (m + 1)).reverse.length ≤ 1048578 := by rw [List.length_reverse, List.length_drop]; omega
   have HDl := Lib.hid hdl
   clear hst hdl
   have q1 : 0 ≤ (m : Int) := by omega
   have q2 : (m : Int) < L.length := by omega
   have hz := Hb.out.size
   have hz1 := B1.out.size
   go_wp2_with
    (at_builtin
     refine wpList_appl _ rfl (.tmp 34) (.tmp 39) _ rfl (base := w1.heap.size) elem_pt ptC_len ptC_one rfl (Own.alloc Ho.out _) rfl (l2 := [L[m]]) (Sl.lit (n := 1) (Blk.made rfl _ _) rfl (le_maxLen (by omega))) (by have := HDl.out; simp only [List.length_cons, List.length_nil]; omega) (by have := HDl.out; simp only [List.length_cons, List.length_nil]; omega) (by simp; omega) ?_
     intro v3 w3 ho3 hg3 hat3
     have HO3 := Lib.hid ho3
     have B3 := Lib.hid (show Below w1.heap.size w1 w3 from bG (bA Hb.out _) hg3 (fun g hg => (Ho.out.lt g hg).1))
     clear ho3 hg3 hat3)
   go_roundw
   case rel => exact ⟨m, by omega, by go_num, by rw [HSt.out]; exact HO3.out, B3.out⟩
   case measure => simp [intOf]
end Go.Proofs.YtoclnkfeblfpbaaGreat
