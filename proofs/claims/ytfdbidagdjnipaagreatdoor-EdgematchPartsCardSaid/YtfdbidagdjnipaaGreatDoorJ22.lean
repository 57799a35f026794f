/- slices.Compact at points. Maps from ints to ints and from ints to bools that the call has made: as functions. Plain law: sorted lists, orbits of a one-to-one function on a list of numbers. No walk here. walk.Cycles: its closure 'follow'. -/
import Derived.Lib.SliceRun
import Derived.Test.YtfdbidagdjnipaaGreatDoorJ20
import Derived.Test.YtfdbidagdjnipaaGreatDoorJ13
import Derived.Test.YtfdbidagdjnipaaGreatDoorGB
import Derived.Test.YtfdbidagdjnipaaGreatDoorJ17
import Derived.Test.YtfdbidagdjnipaaGreatDoorJ07
set_option linter.unusedSimpArgs false
set_option linter.unusedVariables false
namespace Go.Proofs.YtfdbidagdjnipaaGreatDoor
open Go.RowKit

/-- a block of c points, of which the first are m -/
def HoldP (w : World) (g c : Nat) (m : List Pt) : Prop := ∃ cur, Blk w g 28 cur ∧ cur.size = c * 2 ∧ m.length ≤ c ∧ ∀ k (hk : k < m.length), cur[k * 2]? = some (.int .i64 m[k].x) ∧ cur[k * 2 + 1]? = some (.int .i64 m[k].y)
section
variable {w w' : World} {g c : Nat} {m : List Pt}
theorem HoldP.lt (h : HoldP w g c m) : g < w.heap.size := by obtain ⟨cur, hb, _⟩ := h; exact hb.lt
theorem HoldP.keep (h : HoldP w g c m) (hb : Below w.heap.size w w') : HoldP w' g c m := by
 obtain ⟨cur, h1, h2⟩ := h
 exact ⟨cur, h1.keep hb, h2⟩
theorem HoldP.drew (h : HoldP w g c m) : HoldP w.drew g c m := h
theorem HoldP.at_ (h : HoldP w g c m) {k : Nat} (hk : k < m.length) : w.cell? ⟨g, k * 2, none⟩ = some (.int .i64 m[k].x) ∧ w.cell? ⟨g, k * 2 + 1, none⟩ = some (.int .i64 m[k].y) := by
 obtain ⟨cur, h1, _, _, h2⟩ := h
 exact ⟨(h1.cell _).trans (h2 k hk).1, (h1.cell _).trans (h2 k hk).2⟩
theorem HoldP.fz (h : HoldP w g c m) (i : Nat) : w.frozen? ⟨g, i, none⟩ = false := by
 obtain ⟨cur, h1, _⟩ := h
 exact h1.frozen i
theorem HoldP.set2 (h : HoldP w g c m) {k : Nat} (hk : k < m.length) (p : Pt) : HoldP ((w.setCell ⟨g, k * 2, none⟩ (.int .i64 p.x)).setCell ⟨g, k * 2 + 1, none⟩ (.int .i64 p.y)) g c (m.set k p) := by
 obtain ⟨cur, h1, h2, h3, h4⟩ := h
 refine ⟨_, (h1.set_ _ _).set_ _ _, by simp [h2], by simpa using h3, fun j hj => ?_⟩
 have hj' : j < m.length := by simpa using hj
 by_cases e : k = j
 ·
  subst e
  have b1 : k * 2 < cur.size := by omega
  have b2 : k * 2 + 1 < cur.size := by omega
  rw [List.getElem_set_self]
  constructor
  · rw [Array.getElem?_setIfInBounds_ne (by omega), Array.getElem?_setIfInBounds_self_of_lt b1]
  · rw [Array.getElem?_setIfInBounds_self_of_lt (by simpa using b2)]
 ·
  rw [List.getElem_set_ne e]
  obtain ⟨a1, a2⟩ := h4 j hj'
  constructor
  · rw [Array.getElem?_setIfInBounds_ne (by omega), Array.getElem?_setIfInBounds_ne (by omega)]; exact a1
  · rw [Array.getElem?_setIfInBounds_ne (by omega), Array.getElem?_setIfInBounds_ne (by omega)]; exact a2
theorem HoldP.far (h : HoldP w g c m) {p : Addr} (hp : g ≠ p.block) (u : Value) : HoldP (w.setCell p u) g c m := by
 obtain ⟨cur, h1, h2⟩ := h
 exact ⟨cur, h1.far hp u, h2⟩
theorem HoldP.ne_ (h : HoldP w g c m) {g' : Nat} {t' : TypeId} {cs' : Array Value} (h' : Blk w g' t' cs') (hne : 28 ≠ t') : g ≠ g' := by
 obtain ⟨cur, h1, h2⟩ := h
 exact Blk.ne_ h1 h' hne
theorem HoldP.take (h : HoldP w g c m) (k : Nat) : HoldP w g c (m.take k) := by
 obtain ⟨cur, h1, h2, h3, h4⟩ := h
 refine ⟨cur, h1, h2, by rw [List.length_take]; omega, fun j hj => ?_⟩
 have hj' : j < m.length := by rw [List.length_take] at hj; omega
 rw [List.getElem_take]
 exact h4 j hj'
theorem HoldP.set1 (h : HoldP w g c m) {i : Nat} (hi : m.length * 2 ≤ i) (u : Value) : HoldP (w.setCell ⟨g, i, none⟩ u) g c m := by
 obtain ⟨cur, h1, h2, h3, h4⟩ := h
 refine ⟨_, h1.set_ _ _, by simp [h2], h3, fun j hj => ?_⟩
 obtain ⟨a1, a2⟩ := h4 j hj
 constructor
 · rw [Array.getElem?_setIfInBounds_ne (by omega)]; exact a1
 · rw [Array.getElem?_setIfInBounds_ne (by omega)]; exact a2
end
theorem HoldP.sets {g c : Nat} {m : List Pt} : ∀ (vs : List Value) (o : Nat) {w : World}, HoldP w g c m → m.length * 2 ≤ o → HoldP (w.setCells g o vs) g c m
 | [], _, _, h, _ => h
 | v :: vs, o, _, h, ho => HoldP.sets vs (o + 1) (h.set1 ho v) (by omega)
theorem Own.hold {w : World} {B : Nat} {l : List Pt} {v : Value} (h : Own w B 28 2 ptC v l) (hne : l ≠ []) : ∃ g c, v = .slice (some ⟨g, 0, none⟩) l.length c ∧ B ≤ g ∧ c ≤ maxLen ∧ HoldP w g c l := by
 obtain ⟨h1, h2⟩ := h
 rcases h2 with ⟨rfl, h2⟩ | ⟨g, cap, cur, rfl, hg, hh, h3, h4, h5, h6⟩
 · exact absurd (List.eq_nil_of_length_eq_zero h2) hne
 ·
  refine ⟨g, cap, rfl, hg, h4, cur, hh, h5, h3, fun k hk => ?_⟩
  have e0 := flat_get ptC 2 ptC_len l k 0 hk (by omega)
  have e1 := flat_get ptC 2 ptC_len l k 1 hk (by omega)
  rw [← h6, List.getElem?_take] at e0 e1
  rw [if_pos (by omega)] at e0 e1
  exact ⟨by simpa [ptC] using e0, by simpa [ptC] using e1⟩
theorem HoldP.own {w : World} {B g c : Nat} {m : List Pt} (h : HoldP w g c m) (hg : B ≤ g) (hc : c ≤ maxLen) : Own w B 28 2 ptC (.slice (some ⟨g, 0, none⟩) m.length c) m := by
 obtain ⟨cur, h1, h2, h3, h4⟩ := h
 refine ⟨flat_length ptC 2 ptC_len m, .inr ⟨g, c, cur, rfl, hg, h1, h3, hc, h2, ?_⟩⟩
 apply List.ext_getElem?
 intro i
 rw [List.getElem?_take]
 by_cases hi : i < m.length * 2
 ·
  rw [if_pos hi]
  obtain ⟨k, j, rfl, hj⟩ : ∃ k j, i = k * 2 + j ∧ j < 2 := ⟨i / 2, i % 2, by omega, by omega⟩
  have hk : k < m.length := by omega
  rw [flat_get ptC 2 ptC_len m k j hk hj]
  obtain ⟨a0, a1⟩ := h4 k hk
  rcases (by omega : j = 0 ∨ j = 1) with rfl | rfl
  · simpa [ptC] using a0
  · simpa [ptC] using a1
 · rw [if_neg hi, List.getElem?_eq_none (by rw [flat_length ptC 2 ptC_len]; omega)]
/-- 'clear(s)' on a slice of points -/
theorem run_clear_pt (w : World) (ty : TypeId) (b o n c : Nat) (hn : 0 < n)
  (hc : ∀ j, j < n * 2 → (w.cell? ⟨b, o + j, none⟩).isSome = true) (hf : ∀ j, j < n * 2 → w.frozen? ⟨b, o + j, none⟩ = false) :
  (Builtin.clear_ #[56] ty #[.slice (some ⟨b, o, none⟩) n c]).run Tryz.prog w = .ok (.tuple #[]) (w.setCells b o (List.replicate (n * 2) (.int .i64 0))) := by
 have ht : Tryz.prog.underlying 56 = some (.slice 28) := by kernel_rfl
 have hv : ∀ w, (zeroValue 28).run Tryz.prog w = .ok (.agg #[.int .i64 0, .int .i64 0]) w := fun w => by kernel_rfl
 have hzc : (Builtin.zeroCells (Value.agg #[.int .i64 0, .int .i64 0]).cells n).toList = List.replicate (n * 2) (.int .i64 0) := by
  simp [Builtin.zeroCells, Value.cells]
  apply List.ext_getElem
  · simp [Nat.mul_comm]
  ·
   intro i h1 h2
   rcases Nat.mod_two_eq_zero_or_one i with e | e <;> simp [e]
 have hst := run_storeCells_cells (P := Tryz.prog) b o (List.replicate (n * 2) (.int .i64 0)) 0 w (by simpa using hc) (by simpa using hf) (by intro v hv'; rw [List.eq_of_mem_replicate hv']; rfl)
 simp only [Nat.add_zero] at hst
 obtain ⟨m, rfl⟩ : ∃ m, n = m + 1 := ⟨n - 1, by omega⟩
 simp [Builtin.clear_, run_underlying ht, hv, hzc, hst]

theorem gset {w0 w1 : World} {g : Nat} (h : w0.grownBy w1 (some g)) (i : Nat) (u : Value) : w0.grownBy (w1.setCell ⟨g, i, none⟩ u) (some g) :=
 ⟨h.os, h.tape, h.output, by simpa using h.size, fun b hb hr => (Below.heap_setCell w1 _ u b (fun e => hr (by rw [e]))).trans (h.block b hb hr)⟩
theorem gsets {w0 : World} {g : Nat} : ∀ (vs : List Value) (o : Nat) {w1 : World}, w0.grownBy w1 (some g) → w0.grownBy (w1.setCells g o vs) (some g)
 | [], _, _, h => h
 | v :: vs, o, _, h => gsets vs (o + 1) (gset h o v)
theorem cmp_short {l : List Pt} (h : l.length < 2) : cmpP l = l := by
 rcases l with _ | ⟨a, _ | ⟨b, l⟩⟩
 · rfl
 · rfl
 · simp only [List.length_cons] at h; omega
theorem cmp_take_ne {l : List Pt} {k : Nat} (hk : k + 1 < l.length) (h : cmpP (l.take (k + 1)) = l.take (k + 1)) (hne : l[k + 1] ≠ l[k]) : cmpP (l.take (k + 2)) = l.take (k + 2) := by
 rw [List.take_succ_eq_append_getElem (by omega) (i := k + 1), cmpP_snoc, h]
 rw [if_neg]
 rw [List.take_succ_eq_append_getElem (by omega) (i := k), List.getLast?_append]
 simp
 exact fun e => hne e.symm
theorem cmp_last {l : List Pt} {j : Nat} (hj : j < l.length) : (cmpP (l.take (j + 1))).getLast? = some l[j] := by
 rw [List.take_succ_eq_append_getElem hj]
 exact cmpP_last _ _
theorem cmp_eq {l : List Pt} {j : Nat} (hj : j + 1 < l.length) (h : l[j + 1] = l[j]) : cmpP (l.take (j + 2)) = cmpP (l.take (j + 1)) := by
 rw [List.take_succ_eq_append_getElem hj (i := j + 1), cmpP_snoc, cmp_last (by omega), h, if_pos rfl]
theorem cmp_ne {l : List Pt} {j : Nat} (hj : j + 1 < l.length) (h : l[j + 1] ≠ l[j]) : cmpP (l.take (j + 2)) = cmpP (l.take (j + 1)) ++ [l[j + 1]] := by
 rw [List.take_succ_eq_append_getElem hj (i := j + 1), cmpP_snoc, cmp_last (by omega), if_neg (by intro e; exact h (Option.some.inj e).symm)]
theorem cmp_len (l : List Pt) : (cmpP l).length ≤ l.length := by
 have : ∀ k, k ≤ l.length → (cmpP (l.take k)).length ≤ k := by
  intro k
  induction k with
  | zero => intro _; rw [List.take_zero]; exact Nat.le_refl _
  | succ k ih =>
   intro hk
   have := ih (by omega)
   rw [List.take_succ_eq_append_getElem (by omega), cmpP_snoc]
   split
   · omega
   · rw [List.length_append, List.length_singleton]; omega
 have := this l.length (Nat.le_refl _)
 rwa [List.take_length] at this
set_option maxRecDepth 100000 in
set_option maxHeartbeats 8000000 in
theorem compact_spec (l : List Pt) (g c : Nat) (w : World) (hh : HoldP w g c l) (hc : c ≤ maxLen) (hne : l ≠ []) :
  Calls Tryz.prog 97 #[.slice (some ⟨g, 0, none⟩) l.length c] w fun e w' => e = .returned (.slice (some ⟨g, 0, none⟩) (cmpP l).length c) ∧ HoldP w' g c (cmpP l) ∧ w.grownBy w' (some g) := by
 obtain ⟨n, hn⟩ : ∃ n, l.length = n := ⟨_, rfl⟩
 obtain ⟨q, hq⟩ : ∃ q, cmpP l = q := ⟨_, rfl⟩
 have hnc : n ≤ c := by obtain ⟨_, _, _, h, _⟩ := hh; omega
 unfold maxLen at hc
 rw [hq, hn]
 have HQ := Lib.hid hq; have HN := Lib.hid hn; have HH := Lib.hid hh
 have hn0 : 0 < n := by rw [← hn]; exact List.length_pos_iff.2 hne
 clear hq hh hne
 go_enter Tryz.func97, Tryz.ntmps97
 by_cases h2 : n < 2
 ·
  have hq2 := cmp_short (l := l) (by omega)
  have HF := Lib.hid (show q = l by rw [← HQ.out]; exact hq2)
  clear hq2 hn
  have i2 : (n : Int) < 2 := by omega
  go_wp2_with fail
  go_ret
  exact ⟨by rw [HF.out, HN.out]; rfl, by rw [HF.out]; exact HH.out, gR _ _⟩
 ·
  have i2 : ¬ (n : Int) < 2 := by omega
  clear hn
  go_wp2_with fail
  go_loopw [3] (fun u wx => ∃ j : Nat, j < n ∧ u = .int .i64 ((j : Int) + 1) ∧ Below w.heap.size w wx ∧ Hid (cmpP (l.take (j + 1)) = l.take (j + 1))) (fun u _ => n + 1 - (intOf u).toNat)
  case atStart => exact ⟨0, hn0, rfl, bR w, Lib.hid (cmp_short (by rw [List.length_take]; omega))⟩
  case round =>
   obtain ⟨j, hj, rfl, hb, hcm⟩ := hrel
   have Hb := Lib.hid hb
   by_cases hlt : j + 1 < n
   ·
    have hl0 : j < l.length := by rw [HN.out]; omega
    have hl1 : j + 1 < l.length := by rw [HN.out]; omega
    have hH1 := HH.out.keep hb
    obtain ⟨a0, a1⟩ := hH1.at_ hl0
    obtain ⟨b0, b1⟩ := hH1.at_ hl1
    have hgl := hH1.lt
    have hE := run_eql_pt l[j + 1] l[j]
    obtain ⟨z, hz⟩ : ∃ z, decide (l[j + 1] = l[j]) = z := ⟨_, rfl⟩
    rw [hz] at hE
    have HZ := Lib.hid hz
    have HH1 := Lib.hid hH1
    have c1 : (j : Int) + 1 < n := by omega
    have c2 : 0 ≤ (j : Int) + 1 := by omega
    have c3 : IntKind.i64.wrap (j : Int) = (j : Int) := IntWalk.i64_in _ (by omega)
    have c5 : 0 ≤ (j : Int) := by omega
    have c4 : (j : Int) < n := by omega
    clear hz hb hH1
    go_upto_region 6 with fail
    refine rg_start (Since wr) (.run 10 0 0 (.done)) (by kernel_rfl) (bD (bR _)) (by kernel_rfl) (by kernel_rfl) (Nat.le_of_ble_eq_true (by kernel_rfl)) ?_
    intro opsR QR Hops HQrg hS
    iterate 10
     apply rg_p; exact Hops; exact rfl; exact hS; exact rfl
     · intro _ hqc; go_simp; try rfl
     try simp only [pu]
    refine rg_done ?_
    refine HQrg.down _ _ ?_
    have hB : Below wr.heap.size wr wr.drew := hS
    clear hS HQrg Hops
    cases z
    ·
     have Hb2 := Lib.hid (bT Hb.out hB)
     have HC2 := Lib.hid (cmp_take_ne (l := l) (k := j) (by rw [HN.out]; omega) hcm.out (by have := HZ.out; simpa using this))
     clear hB HH1 a0 a1 b0 b1 hE c3 hcm
     go_wp2_with fail
     go_roundw
     case rel => exact ⟨j + 1, by omega, by go_num, Hb2.out, HC2⟩
     case measure => simp [intOf]; omega
    ·
     have Hb2 := Lib.hid (bT Hb.out hB)
     have hej : l[j + 1] = l[j] := by have := HZ.out; simpa using this
     have hc2 : cmpP (l.take (j + 2)) = l.take (j + 1) := by rw [cmp_eq (by rw [HN.out]; omega) hej]; exact hcm.out
     obtain ⟨L, hL⟩ : ∃ L, n - (j + 1) = L := ⟨_, rfl⟩
     have HLn := Lib.hid hL
     have HC2 := Lib.hid hc2
     have HH2 := Lib.hid (HH1.out.keep hB)
     have e1 : (j : Int) + 1 ≤ n := by omega
     have e2 : (j : Int) + 1 ≤ c := by omega
     obtain ⟨w2, hw2⟩ : ∃ w2, w2 = wr.drew := ⟨_, rfl⟩
     rw [← hw2] at Hb2 HH2 ⊢
     clear hw2 hB HH1 a0 a1 b0 b1 hE c3 hcm HZ hej hc2
     go_wp2_with fail
     go_loopw [3, 5] (fun u v wx => ∃ (i k : Nat) (m : List Pt), i + 1 ≤ L ∧ k ≤ j + 1 + i ∧ 1 ≤ k ∧ u = .int .i64 k ∧ v = .int .i64 ((i : Int) + 1) ∧ m.length = n ∧ HoldP wx g c m ∧ (∀ t, k ≤ t → m[t]? = l[t]?) ∧ Hid (m.take k = cmpP (l.take (j + 2 + i))) ∧ w2.grownBy wx (some g)) (fun _ v _ => L + 1 - (intOf v).toNat)
     case atStart => exact ⟨0, j + 1, l, by omega, by omega, by omega, by go_num, rfl, HN.out, HH2.out, fun _ _ => rfl, Lib.hid HC2.out.symm, gR _ _⟩
     case round =>
      obtain ⟨i, k, m, hi, hk1, hk2, rfl, rfl, hml, hhm, heq, htk, hg2⟩ := hrel
      have HG2 := Lib.hid hg2; have HEq := Lib.hid heq; have HHm := Lib.hid hhm; have HMl := Lib.hid hml
      clear hg2 heq hml
      by_cases hlt2 : i + 1 < L
      ·
       obtain ⟨A, hA⟩ : ∃ A, j + 1 + i = A := ⟨_, rfl⟩
       have hLn := HLn.out
       have hA0 : A < l.length := by rw [HN.out]; omega
       have hA1 : A + 1 < l.length := by rw [HN.out]; omega
       have hm0 : A < m.length := by rw [HMl.out]; omega
       have hm1 : A + 1 < m.length := by rw [HMl.out]; omega
       have x0 : m[A] = l[A] := by have := HEq.out A (by omega); rw [List.getElem?_eq_getElem hm0, List.getElem?_eq_getElem hA0] at this; exact Option.some.inj this
       have x1 : m[A + 1] = l[A + 1] := by have := HEq.out (A + 1) (by omega); rw [List.getElem?_eq_getElem hm1, List.getElem?_eq_getElem hA1] at this; exact Option.some.inj this
       obtain ⟨p0, hp0⟩ : ∃ p0, l[A] = p0 := ⟨_, rfl⟩
       obtain ⟨p1, hp1⟩ : ∃ p1, l[A + 1] = p1 := ⟨_, rfl⟩
       obtain ⟨a0, a1⟩ := hhm.at_ hm0
       obtain ⟨b0, b1⟩ := hhm.at_ hm1
       rw [x0, hp0] at a0 a1
       rw [x1, hp1] at b0 b1
       rw [show A * 2 = (j + 1) * 2 + i * 2 by omega] at a0 a1
       rw [show (A + 1) * 2 = (j + 1) * 2 + (i + 1) * 2 by omega] at b0 b1
       have hgl := hhm.lt
       have hE := run_neq_pt p1 p0
       obtain ⟨z, hz⟩ : ∃ z, (!decide (p1 = p0)) = z := ⟨_, rfl⟩
       rw [hz] at hE
       have HZ := Lib.hid (show (!decide (l[A + 1] = l[A])) = z by rw [hp0, hp1]; exact hz)
       have HP1 := Lib.hid hp1
       have c1 : (i : Int) + 1 < L := by omega
       have c2 : 0 ≤ (i : Int) + 1 := by omega
       have c3 : IntKind.i64.wrap (i : Int) = (i : Int) := IntWalk.i64_in _ (by omega)
       have c5 : 0 ≤ (i : Int) := by omega
       have c6 : (i : Int) < L := by omega
       have f0 := hhm.fz (k * 2)
       have f1 := hhm.fz (k * 2 + 1)
       have hmk : k < m.length := by rw [HMl.out]; omega
       have HAA := Lib.hid hA
       have cw := hhm.at_ hmk
       obtain ⟨cw0, cw1⟩ := cw
       have c7 : (k : Int) < n := by omega
       have c8 : 0 ≤ (k : Int) := by omega
       clear hz hp0 hp1 x0 x1 hA hhm hLn
       go_upto_region 11 with fail
       refine rg_start (Since wr) (.run 10 0 0 (.done)) (by kernel_rfl) (bD (bR _)) (by kernel_rfl) (by kernel_rfl) (Nat.le_of_ble_eq_true (by kernel_rfl)) ?_
       intro opsR QR Hops HQrg hS
       iterate 10
        apply rg_p; exact Hops; exact rfl; exact hS; exact rfl
        · intro _ hqc; go_simp; try rfl
        try simp only [pu]
       refine rg_done ?_
       refine HQrg.down _ _ ?_
       have hB : Below wr.heap.size wr wr.drew := hS
       clear hS HQrg Hops
       cases z
       ·
        have HH3 := Lib.hid (HHm.out.keep hB)
        have HG3 := Lib.hid (gB HG2.out hB)
        have HT3 := Lib.hid (show m.take k = cmpP (l.take (j + 2 + (i + 1))) by
         have h1 := htk.out
         have hA := HAA.out
         rw [show j + 2 + i = A + 1 by omega] at h1
         rw [show j + 2 + (i + 1) = A + 2 by omega, cmp_eq hA1 (by have := HZ.out; simpa using this)]
         exact h1)
        have HE3 := HEq
        clear hB a0 a1 b0 b1 hE htk HZ cw0 cw1 f0 f1 hm0 hm1 hA0
        go_wp2_with fail
        go_roundw
        case rel => exact ⟨i + 1, k, m, by omega, by omega, hk2, rfl, by go_num, HMl.out, HH3.out, HE3.out, HT3, HG3.out⟩
        case measure => simp [intOf]; omega
       ·
        have HB3 := Lib.hid hB
        have HG3 := Lib.hid (gB HG2.out hB)
        have hT3 : (m.set k p1).take (k + 1) = cmpP (l.take (j + 2 + (i + 1))) := by
         have h1 := htk.out
         have hA := HAA.out
         rw [show j + 2 + i = A + 1 by omega] at h1
         rw [show j + 2 + (i + 1) = A + 2 by omega, cmp_ne hA1 (by have := HZ.out; simpa using this), ← h1, HP1.out]
         rw [List.take_succ_eq_append_getElem (by simpa using hmk), List.getElem_set_self, List.take_set_of_le (Nat.le_refl _)]
        have HT3 := Lib.hid hT3
        have hE3 : ∀ t, k + 1 ≤ t → (m.set k p1)[t]? = l[t]? := fun t ht => by
         rw [List.getElem?_set_ne (by omega)]
         exact HEq.out t (by omega)
        have HE3 := Lib.hid hE3
        have HH3 := Lib.hid (HHm.out.set2 hmk p1)
        have HG4 : Hid (w2.grownBy (((wr.setCell ⟨g, k * 2, none⟩ (.int .i64 p1.x)).setCell ⟨g, k * 2 + 1, none⟩ (.int .i64 p1.y)).drew) (some g)) := Lib.hid (gD (gset (gset HG2.out _ _) _ _))
        have HM3 := Lib.hid (show (m.set k p1).length = n by rw [List.length_set]; exact HMl.out)
        clear hT3 hE3 hE htk HZ hm0 hm1 hA0 hB
        go_wp2_with fail
        go_roundw
        case rel => exact ⟨i + 1, k + 1, m.set k p1, by omega, by omega, by omega, by go_num, by go_num, HM3.out, HH3.out, HE3.out, HT3, HG4.out⟩
        case measure => simp [intOf]; omega
      ·
       have hiL : i + 1 = L := by omega
       have hLn := HLn.out
       have hkq : k = q.length ∧ m.take k = q := by
        have h1 := htk.out
        rw [show j + 2 + i = n by omega, ← HN.out, List.take_length, HQ.out] at h1
        refine ⟨?_, h1⟩
        rw [← h1, List.length_take, HMl.out]
        omega
       have HKq := Lib.hid hkq
       have hkn : k < n := by omega
       have c1 : ¬ (i : Int) + 1 < L := by omega
       have c7 : (k : Int) ≤ n := by omega
       have c9 : (k : Int) ≤ c := by omega
       have c8 : 0 ≤ (k : Int) := by omega
       have hcl : ∀ ty W, W = wr → (Builtin.clear_ #[56] ty #[.slice (some ⟨g, k * 2, none⟩) (n - k) (c - k)]).run Tryz.prog W = .ok (.tuple #[]) (wr.setCells g (k * 2) (List.replicate ((n - k) * 2) (.int .i64 0))) := by
        rintro ty W rfl
        refine run_clear_pt W ty g (k * 2) (n - k) (c - k) (by omega) (fun t ht => ?_) (fun t _ => hhm.fz _)
        obtain ⟨s, r, rfl, hr⟩ : ∃ s r, t = s * 2 + r ∧ r < 2 := ⟨t / 2, t % 2, by omega, by omega⟩
        have hs : k + s < m.length := by rw [HMl.out]; omega
        obtain ⟨a0, a1⟩ := hhm.at_ hs
        rcases (by omega : r = 0 ∨ r = 1) with rfl | rfl
        · rw [show k * 2 + (s * 2 + 0) = (k + s) * 2 by omega, a0]; rfl
        · rw [show k * 2 + (s * 2 + 1) = (k + s) * 2 + 1 by omega, a1]; rfl
       have hcl' := fun ty => hcl ty wr rfl
       have HF := Lib.hid (show HoldP (wr.setCells g (k * 2) (List.replicate ((n - k) * 2) (.int .i64 0))) g c q from by
        rw [← hkq.2]
        exact (hhm.take k).sets _ _ (by rw [List.length_take]; omega))
       have HGf := Lib.hid (show w.grownBy (wr.setCells g (k * 2) (List.replicate ((n - k) * 2) (.int .i64 0))) (some g) from gsets _ _ (gT (gOf Hb2.out) HG2.out))
       clear hcl hhm htk hiL hLn hkq
       go_wp2_with fail
       go_ret
       exact ⟨by rw [HKq.out.1]; rfl, HF.out, HGf.out⟩
   ·
    have hjn : j + 1 = n := by omega
    have HF := Lib.hid (show q = l by rw [← HQ.out]; have := hcm.out; rwa [hjn, ← HN.out, List.take_length] at this)
    have c1 : ¬ (j : Int) + 1 < n := by omega
    have HHf := Lib.hid (HH.out.keep hb)
    clear hb hcm hjn
    go_wp2_with fail
    go_ret
    exact ⟨by rw [HF.out, HN.out]; rfl, by rw [HF.out]; exact HHf.out, gOf Hb.out⟩
end Go.Proofs.YtfdbidagdjnipaaGreatDoor
namespace Go.Proofs.YtfdbidagdjnipaaGreatDoor
open Go.RowKit

def iiD (n : Int) : DataW Unit := .lit (.int .i64 n)
def iiR : Value → Option (DataW Unit × List MemPlace)
 | .int .i64 n => some (iiD n, [])
 | _ => none
/-- Block b is a map of at most n entries; at the key id it gives f id. -/
def MapII (w : World) (b n : Nat) (f : Int → Int) : Prop :=
 ∃ D : DataW Unit, w.ownsMap Tryz.prog 3 iiR b n D ∧ Maps.IsMap D ∧ ∀ id, D.atKey (.int .i64 id) (iiD 0) = iiD (f id)
theorem MapII.kept {w w' : World} {b n : Nat} {f : Int → Int} (h : MapII w b n f) {row : Option Nat} (hg : w.grownBy w' row) (hr : some b ≠ row) : MapII w' b n f := by
 obtain ⟨D, h1, h2⟩ := h
 exact ⟨D, h1.kept hg hr, h2⟩
theorem MapII.keep {w w' : World} {b n : Nat} {f : Int → Int} (h : MapII w b n f) (hb : Below w.heap.size w w') : MapII w' b n f :=
 h.kept (row := none) ⟨hb.os, hb.tape, hb.output, hb.size, fun i hi _ => hb.block i hi⟩ (by simp)
theorem MapII.lt {w : World} {b n : Nat} {f : Int → Int} (h : MapII w b n f) : b < w.heap.size := by
 obtain ⟨D, h1, h2⟩ := h
 exact h1.lt
theorem MapII.made (w : World) : MapII (w.alloc (.map #[] 0)) w.heap.size 0 (fun _ => 0) :=
 ⟨.map [], World.ownsMap_made _ _ _ _, ⟨_, rfl⟩, fun _ => rfl⟩
def ibD (b : Bool) : DataW Unit := .lit (.bool b)
def ibR : Value → Option (DataW Unit × List MemPlace)
 | .bool b => some (ibD b, [])
 | _ => none
def MapIB (w : World) (b n : Nat) (f : Int → Bool) : Prop :=
 ∃ D : DataW Unit, w.ownsMap Tryz.prog 3 ibR b n D ∧ Maps.IsMap D ∧ ∀ id, D.atKey (.int .i64 id) (ibD false) = ibD (f id)
theorem MapIB.kept {w w' : World} {b n : Nat} {f : Int → Bool} (h : MapIB w b n f) {row : Option Nat} (hg : w.grownBy w' row) (hr : some b ≠ row) : MapIB w' b n f := by
 obtain ⟨D, h1, h2⟩ := h
 exact ⟨D, h1.kept hg hr, h2⟩
theorem MapIB.keep {w w' : World} {b n : Nat} {f : Int → Bool} (h : MapIB w b n f) (hb : Below w.heap.size w w') : MapIB w' b n f :=
 h.kept (row := none) ⟨hb.os, hb.tape, hb.output, hb.size, fun i hi _ => hb.block i hi⟩ (by simp)
theorem MapIB.lt {w : World} {b n : Nat} {f : Int → Bool} (h : MapIB w b n f) : b < w.heap.size := by
 obtain ⟨D, h1, h2⟩ := h
 exact h1.lt
theorem MapIB.made (w : World) : MapIB (w.alloc (.map #[] 0)) w.heap.size 0 (fun _ => false) :=
 ⟨.map [], World.ownsMap_made _ _ _ _, ⟨_, rfl⟩, fun _ => rfl⟩
end Go.Proofs.YtfdbidagdjnipaaGreatDoor
namespace Go.Proofs.YtfdbidagdjnipaaGreatDoor

section
variable {α : Type}
/-- a list without repetitions within another list is no longer -/
theorem nodup_le : ∀ {l m : List Int}, l.Nodup → (∀ x ∈ l, x ∈ m) → l.length ≤ m.length
 | [], m, _, _ => Nat.zero_le _
 | a :: l, m, h, hs => by
  have h' := List.nodup_cons.1 h
  have ha := hs a List.mem_cons_self
  have := nodup_le (m := m.erase a) h'.2 (fun x hx => (List.mem_erase_of_ne (fun e => h'.1 (by rw [← e]; exact hx))).2 (hs x (List.mem_cons_of_mem _ hx)))
  rw [List.length_erase_of_mem ha] at this
  have hp : 0 < m.length := List.length_pos_of_mem ha
  simp only [List.length_cons]
  omega
/-- x, f x, f (f x), .. : n of them -/
def iter (f : Int → Int) (x : Int) : Nat → List Int
 | 0 => []
 | n + 1 => x :: iter f (f x) n
def pw (f : Int → Int) (x : Int) : Nat → Int
 | 0 => x
 | n + 1 => f (pw f x n)
theorem pw_succ (f : Int → Int) (x : Int) (n : Nat) : pw f (f x) n = pw f x (n + 1) := by
 induction n with
 | zero => rfl
 | succ n ih => rw [pw, ih]; rfl
theorem iter_len (f : Int → Int) (x : Int) (n : Nat) : (iter f x n).length = n := by
 induction n generalizing x with
 | zero => rfl
 | succ n ih => simp [iter, ih]
theorem iter_get (f : Int → Int) (x : Int) (n k : Nat) (hk : k < (iter f x n).length) : (iter f x n)[k] = pw f x k := by
 induction n generalizing x k with
 | zero => simp [iter] at hk
 | succ n ih =>
  cases k with
  | zero => rfl
  | succ k =>
   simp only [iter, List.getElem_cons_succ]
   rw [ih (f x) k (by simpa [iter] using hk), pw_succ]
theorem iter_snoc (f : Int → Int) (x : Int) (n : Nat) : iter f x (n + 1) = iter f x n ++ [pw f x n] := by
 induction n generalizing x with
 | zero => rfl
 | succ n ih =>
  rw [iter, ih (f x), pw_succ]; rfl
variable {f : Int → Int} {D : List Int} (hD : ∀ x ∈ D, f x ∈ D) (hi : ∀ x ∈ D, ∀ y ∈ D, f x = f y → x = y)
include hD in
theorem pw_mem {x : Int} (hx : x ∈ D) (n : Nat) : pw f x n ∈ D := by
 induction n with
 | zero => exact hx
 | succ n ih => exact hD _ ih
include hD hi in
theorem pw_back {x : Int} (hx : x ∈ D) {i j : Nat} (h : pw f x i = pw f x (i + j)) : pw f x j = x := by
 induction i with
 | zero => rw [Nat.zero_add] at h; exact h.symm
 | succ i ih =>
  refine ih (hi _ (pw_mem hD hx i) _ (pw_mem hD hx (i + j)) ?_)
  rw [show i + 1 + j = (i + j) + 1 by omega] at h
  exact h
/-- no return within n steps: n different elements -/
theorem iter_nodup_or (f : Int → Int) (x : Int) (n : Nat) : (iter f x n).Nodup ∨ ∃ i j, 0 < j ∧ i + j < n ∧ pw f x i = pw f x (i + j) := by
 induction n with
 | zero => exact .inl List.nodup_nil
 | succ n ih =>
  rcases ih with h | ⟨i, j, h1, h2, h3⟩
  ·
   by_cases hm : pw f x n ∈ iter f x n
   ·
    right
    obtain ⟨k, hk, e⟩ := List.mem_iff_getElem.1 hm
    rw [iter_get] at e
    rw [iter_len] at hk
    exact ⟨k, n - k, by omega, by omega, by rw [e, show k + (n - k) = n by omega]⟩
   ·
    left
    rw [iter_snoc, List.nodup_append]
    refine ⟨h, by simp, fun a ha b hb => ?_⟩
    rw [List.mem_singleton] at hb
    subst hb
    exact fun e => hm (e ▸ ha)
  · exact .inr ⟨i, j, h1, by omega, h3⟩
include hD hi in
/-- the orbit of an element comes back -/
theorem returns {x : Int} (hx : x ∈ D) : ∃ j, 0 < j ∧ j ≤ D.length ∧ pw f x j = x := by
 rcases iter_nodup_or f x (D.length + 1) with h | ⟨i, j, h1, h2, h3⟩
 ·
  have := nodup_le h (fun y hy => by
   obtain ⟨k, hk, rfl⟩ := List.mem_iff_getElem.1 hy
   rw [iter_get]; exact pw_mem hD hx k)
  rw [iter_len] at this
  omega
 · exact ⟨j, h1, by omega, pw_back hD hi hx h3⟩
/-- the length of the orbit: the first return within n steps, n + 1 if there is none -/
def per (f : Int → Int) (x : Int) : Nat → Nat → Nat
 | k, 0 => k
 | k, n + 1 => if pw f x k = x then k else per f x (k + 1) n
theorem per_first (f : Int → Int) (x : Int) (k n : Nat) : k ≤ per f x k n ∧ ∀ j, k ≤ j → j < per f x k n → pw f x j ≠ x := by
 induction n generalizing k with
 | zero => exact ⟨Nat.le_refl _, fun j h1 h2 => by simp only [per] at h2; omega⟩
 | succ n ih =>
  unfold per
  split
  · exact ⟨Nat.le_refl _, fun j h1 h2 => by omega⟩
  ·
   rename_i hne
   obtain ⟨h1, h2⟩ := ih (k + 1)
   refine ⟨by omega, fun j hj hj2 => ?_⟩
   by_cases e : j = k
   · subst e; exact hne
   · exact h2 j (by omega) hj2
theorem per_hit (f : Int → Int) (x : Int) (k n : Nat) (h : ∃ j, k ≤ j ∧ j ≤ k + n ∧ pw f x j = x) : pw f x (per f x k n) = x ∧ per f x k n ≤ k + n := by
 induction n generalizing k with
 | zero =>
  obtain ⟨j, h1, h2, h3⟩ := h
  have : j = k := by omega
  subst this
  exact ⟨h3, Nat.le_refl _⟩
 | succ n ih =>
  unfold per
  split
  · rename_i e; exact ⟨e, by omega⟩
  ·
   rename_i hne
   obtain ⟨j, h1, h2, h3⟩ := h
   have := ih (k + 1) ⟨j, by
    by_cases e : j = k
    · subst e; exact absurd h3 hne
    · omega, by omega, h3⟩
   exact ⟨this.1, by omega⟩
def orbN (f : Int → Int) (D : List Int) (x : Int) : Nat := per f x 1 D.length
/-- the orbit of an element, from it on -/
def orb (f : Int → Int) (D : List Int) (x : Int) : List Int := iter f x (orbN f D x)
include hD hi in
theorem orb_facts {x : Int} (hx : x ∈ D) : 0 < orbN f D x ∧ orbN f D x ≤ D.length + 1 ∧ pw f x (orbN f D x) = x ∧ (∀ j, 0 < j → j < orbN f D x → pw f x j ≠ x) ∧ (orb f D x).Nodup ∧ (orb f D x).length = orbN f D x := by
 obtain ⟨j, h1, h2, h3⟩ := returns hD hi hx
 obtain ⟨a1, a2⟩ := per_first f x 1 D.length
 obtain ⟨b1, b2⟩ := per_hit f x 1 D.length ⟨j, h1, by omega, h3⟩
 refine ⟨a1, by show per f x 1 D.length ≤ _; omega, b1, fun j h1 h2 => a2 j h1 h2, ?_, iter_len _ _ _⟩
 rcases iter_nodup_or f x (orbN f D x) with h | ⟨i, j, c1, c2, c3⟩
 · exact h
 · exact absurd (pw_back hD hi hx c3) (a2 j c1 (by unfold orbN at c2; omega))
theorem mem_iter {f : Int → Int} {x y : Int} {n : Nat} : y ∈ iter f x n ↔ ∃ k, k < n ∧ pw f x k = y := by
 rw [List.mem_iff_getElem]
 constructor
 ·
  rintro ⟨k, hk, e⟩
  rw [iter_get] at e
  rw [iter_len] at hk
  exact ⟨k, hk, e⟩
 ·
  rintro ⟨k, hk, e⟩
  exact ⟨k, by rw [iter_len]; exact hk, by rw [iter_get]; exact e⟩
include hD hi in
theorem orb_closed {x y : Int} (hx : x ∈ D) : y ∈ D → (f y ∈ orb f D x ↔ y ∈ orb f D x) := by
 intro hy
 obtain ⟨h1, -, h3, -, -, -⟩ := orb_facts hD hi hx
 unfold orb
 rw [mem_iter, mem_iter]
 constructor
 ·
  rintro ⟨k, hk, e⟩
  cases k with
  | zero =>
   refine ⟨orbN f D x - 1, by omega, hi _ (pw_mem hD hx _) _ hy ?_⟩
   have : pw f x (orbN f D x - 1 + 1) = x := by rw [Nat.sub_add_cancel h1]; exact h3
   rw [pw] at this
   rw [this]; exact e
  | succ k => exact ⟨k, by omega, hi _ (pw_mem hD hx _) _ hy e⟩
 ·
  rintro ⟨k, hk, rfl⟩
  by_cases e : k + 1 = orbN f D x
  ·
   refine ⟨0, h1, ?_⟩
   have h4 : pw f x (k + 1) = x := by rw [e]; exact h3
   exact h4.symm
  · exact ⟨k + 1, by omega, rfl⟩
end
section
/-- the orbits of the elements of a list, each taken at its first element in the list -/
def cycStep (f : Int → Int) (D : List Int) (acc : List (List Int)) (d : Int) : List (List Int) := if d ∈ acc.flatten then acc else acc ++ [orb f D d]
variable {f : Int → Int} {D : List Int}
theorem head_orb {x : Int} (h : 0 < orbN f D x) : x ∈ orb f D x := mem_iter.2 ⟨0, h, rfl⟩
/-- the state behind the elements P of the list -/
structure Cyc (f : Int → Int) (D P : List Int) (acc : List (List Int)) : Prop where
 orbs : ∀ l ∈ acc, ∃ d ∈ P, l = orb f D d ∧ ∀ e ∈ l, e ∈ P → d ≤ e
 covers : ∀ x ∈ P, x ∈ acc.flatten
 nodup : acc.flatten.Nodup
 closed : ∀ y ∈ D, f y ∈ acc.flatten ↔ y ∈ acc.flatten
theorem Cyc.back {P : List Int} {acc : List (List Int)} (h : Cyc f D P acc) (hD : ∀ x ∈ D, f x ∈ D) {x : Int} (hx : x ∈ D) (k : Nat) : pw f x k ∈ acc.flatten ↔ x ∈ acc.flatten := by
 induction k with
 | zero => exact Iff.rfl
 | succ k ih => exact (h.closed _ (pw_mem hD hx k)).trans ih
theorem Cyc.nil (f : Int → Int) (D : List Int) : Cyc f D [] [] := ⟨fun l h => (by cases h), fun x h => (by cases h), List.nodup_nil, fun y _ => ⟨fun h => (by cases h), fun h => (by cases h)⟩⟩
theorem Cyc.apart {P : List Int} {acc : List (List Int)} (h : Cyc f D P acc) (hD : ∀ x ∈ D, f x ∈ D) {d : Int} (hd : d ∈ D) (hm : d ∉ acc.flatten) {y : Int} (hy : y ∈ orb f D d) : y ∉ acc.flatten := by
 obtain ⟨k, -, rfl⟩ := mem_iter.1 hy
 exact fun e => hm ((h.back hD hd k).1 e)
theorem Cyc.step {P : List Int} {acc : List (List Int)} (h : Cyc f D P acc) (hD : ∀ x ∈ D, f x ∈ D) (hi : ∀ x ∈ D, ∀ y ∈ D, f x = f y → x = y) {d : Int} (hd : d ∈ D) (hlt : ∀ x ∈ P, x < d) : Cyc f D (P ++ [d]) (cycStep f D acc d) := by
 unfold cycStep
 by_cases hm : d ∈ acc.flatten
 ·
  rw [if_pos hm]
  refine ⟨fun l hl => ?_, fun x hx => ?_, h.nodup, h.closed⟩
  ·
   obtain ⟨d', h1, h2, h3⟩ := h.orbs l hl
   refine ⟨d', List.mem_append_left _ h1, h2, fun e he hp => ?_⟩
   rcases List.mem_append.1 hp with hp | hp
   · exact h3 e he hp
   · rw [List.mem_singleton] at hp; subst hp; exact Int.le_of_lt (hlt _ h1)
  ·
   rcases List.mem_append.1 hx with hx | hx
   · exact h.covers x hx
   · rw [List.mem_singleton] at hx; subst hx; exact hm
 ·
  rw [if_neg hm]
  obtain ⟨o1, -, -, -, o5, -⟩ := orb_facts hD hi hd
  have hfl : (acc ++ [orb f D d]).flatten = acc.flatten ++ orb f D d := by simp
  refine ⟨fun l hl => ?_, fun x hx => ?_, ?_, fun y hy => ?_⟩
  ·
   rcases List.mem_append.1 hl with hl | hl
   ·
    obtain ⟨d', h1, h2, h3⟩ := h.orbs l hl
    refine ⟨d', List.mem_append_left _ h1, h2, fun e he hp => ?_⟩
    rcases List.mem_append.1 hp with hp | hp
    · exact h3 e he hp
    · rw [List.mem_singleton] at hp; subst hp; exact Int.le_of_lt (hlt _ h1)
   ·
    rw [List.mem_singleton] at hl
    refine ⟨d, List.mem_append_right _ (List.mem_singleton.2 rfl), hl, fun e he hp => ?_⟩
    subst hl
    rcases List.mem_append.1 hp with hp | hp
    · exact absurd (h.covers e hp) (h.apart hD hd hm he)
    · rw [List.mem_singleton] at hp; exact Int.le_of_eq hp.symm
  ·
   rw [hfl]
   rcases List.mem_append.1 hx with hx | hx
   · exact List.mem_append_left _ (h.covers x hx)
   · rw [List.mem_singleton] at hx; subst hx; exact List.mem_append_right _ (head_orb o1)
  ·
   rw [hfl, List.nodup_append]
   exact ⟨h.nodup, o5, fun a ha b hb e => h.apart hD hd hm hb (e ▸ ha)⟩
  · rw [hfl, List.mem_append, List.mem_append, h.closed y hy, orb_closed hD hi hd hy]
end
end Go.Proofs.YtfdbidagdjnipaaGreatDoor
namespace Go.Proofs.YtfdbidagdjnipaaGreatDoor
open Go.RowKit

theorem Own.shape_ {α : Type} {w : World} {base : Nat} {e : TypeId} {size : Nat} {f : α → List Value} {v : Value} {l : List α} (h : Own w base e size f v l) : ∃ A c, v = .slice A l.length c ∧ l.length ≤ c ∧ c ≤ maxLen := by
 obtain ⟨A, c, rfl, h1, h2, -⟩ := Own.sl h
 exact ⟨A, c, rfl, h1, h2⟩

end Go.Proofs.YtfdbidagdjnipaaGreatDoor
