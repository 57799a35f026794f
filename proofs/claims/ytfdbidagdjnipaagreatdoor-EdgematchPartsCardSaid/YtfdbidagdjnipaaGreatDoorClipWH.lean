/- clip.pieces: its memory, and its closure 'end'. -/
import Derived.Test.YtfdbidagdjnipaaGreatDoorJ22
import Derived.Test.YtfdbidagdjnipaaGreatDoorClipWF
set_option linter.unusedSimpArgs false
set_option linter.unusedVariables false
namespace Go.Proofs.YtfdbidagdjnipaaGreatDoor
open Go.RowKit

def pcS (x : Pc × SV) : List Value := [.int .i64 x.1.arc, .slice x.2.a x.2.n x.2.c, .int .i64 x.1.enter, .int .i64 x.1.leave]
theorem pcS_len (x : Pc × SV) : (pcS x).length = 4 := rfl
theorem pcS_one (x : Pc × SV) : ∀ u ∈ pcS x, u.oneCell' = true := by simp [pcS, Value.oneCell']
theorem elem_pc : Elem Tryz.prog 43 68 4 48 := Elem.mk_ (z := .agg #[.int .i64 0, .slice none 0 0, .int .i64 0, .int .i64 0]) (by kernel_rfl) (by kernel_rfl) rfl (by omega)
/-- a list of pieces of the call's own (from block B on), each with its own path -/
structure PcsO (w : World) (B : Nat) (v : Value) (L : List (Pc × SV)) : Prop where
 own : Own w B 68 4 pcS v L
 path : ∀ x ∈ L, Own w B 28 2 ptC (.slice x.2.a x.2.n x.2.c) x.1.path
theorem PcsO.keep {w w' : World} {B : Nat} {v : Value} {L : List (Pc × SV)} (h : PcsO w B v L) (hb : Below w.heap.size w w') : PcsO w' B v L :=
 ⟨h.own.keep hb, fun x hx => (h.path x hx).keep hb⟩
theorem Own.ne_hold {α : Type} {w : World} {base : Nat} {e : TypeId} {size : Nat} {f : α → List Value} {v : Value} {l : List α} (h : Own w base e size f v l) {g c : Nat} {m : List Pt} (hh : HoldP w g c m) (hne : e ≠ 28) : v.ownBlock ≠ some g := by
 obtain ⟨cur, h1, -⟩ := hh
 exact h.ne_blk h1 hne
theorem PcsO.far {w : World} {B g : Nat} {t : TypeId} {cs : Array Value} {v : Value} {L : List (Pc × SV)} (h : PcsO w B v L) (hg : Blk w g t cs) (h1 : 68 ≠ t) (h2 : 28 ≠ t) (i : Nat) (u : Value) : PcsO (w.setCell ⟨g, i, none⟩ u) B v L :=
 ⟨h.own.far (Own.ne_blk h.own hg h1) u, fun x hx => (h.path x hx).far (Own.ne_blk (h.path x hx) hg h2) u⟩
/-- the three boxes of 'pieces' (g6: the list, g7: the open piece, g8: is one open?) -/
structure PcM (w : World) (B g6 g7 g8 : Nat) (st : PSt) (L : List (Pc × SV)) (vl vp : Value) : Prop where
 opn : Blk w g8 4 #[.bool st.open_]
 x : Blk w g7 68 #[.int .i64 st.x.arc, vp, .int .i64 st.x.enter, .int .i64 st.x.leave]
 out : Blk w g6 43 #[vl]
 pcs : PcsO w B vl L
 eq : L.map (·.1) = st.l
 n7 : vl.ownBlock ≠ some g7
 path : st.open_ = true → Own w B 28 2 ptC vp st.x.path ∧ st.x.path ≠ [] ∧ ∀ x ∈ L, ∀ g, (Value.slice x.2.a x.2.n x.2.c).ownBlock = some g → some g ≠ vp.ownBlock
theorem PcM.keep {w w' : World} {B g6 g7 g8 : Nat} {st : PSt} {L : List (Pc × SV)} {vl vp : Value} (h : PcM w B g6 g7 g8 st L vl vp) (hb : Below w.heap.size w w') : PcM w' B g6 g7 g8 st L vl vp :=
 ⟨h.opn.keep hb, h.x.keep hb, h.out.keep hb, h.pcs.keep hb, h.eq, h.n7, fun e => ⟨(h.path e).1.keep hb, (h.path e).2⟩⟩
def RetEnd (w : World) (B g6 g7 g8 : Nat) (st : PSt) (e : Ending) (w' : World) : Prop :=
 e = .returned (.tuple #[]) ∧ (∃ L vl vp, PcM w' B g6 g7 g8 st L vl vp) ∧ Below B w w'
set_option maxRecDepth 100000 in
set_option maxHeartbeats 8000000 in
theorem end_spec (B g6 g7 g8 : Nat) (st : PSt) (L : List (Pc × SV)) (vl vp : Value) (w : World) (h : PcM w B g6 g7 g8 st L vl vp) (hB : B ≤ w.heap.size) (b6 : B ≤ g6) (b7 : B ≤ g7) (b8 : B ≤ g8) (hl : L.length ≤ 4294967295) :
  Calls Tryz.prog 96 #[.pointer (some ⟨g8, 0, none⟩), .pointer (some ⟨g7, 0, none⟩), .pointer (some ⟨g6, 0, none⟩)] w (RetEnd w B g6 g7 g8 (endS st)) := by
 obtain ⟨op, hop⟩ : ∃ op, st.open_ = op := ⟨_, rfl⟩
 cases op
 ·
  have he : endS st = st := by unfold endS; rw [if_pos hop]
  rw [he]
  have X8 := h.opn
  rw [hop] at X8
  obtain ⟨X8l, X8a, -⟩ := X8.facts1
  have HH := Lib.hid h
  clear h he hop
  go_enter Tryz.func96, Tryz.ntmps96
  go_wp2_with fail
  exact bodyPost_end (v := .tuple #[]) (results_none rfl _ _ _) rfl ⟨rfl, ⟨L, vl, vp, HH.out⟩, Below.refl _ _⟩
 ·
  have X8 := h.opn
  rw [hop] at X8
  have X7 := h.x
  have X6 := h.out
  obtain ⟨hown, hne, hap⟩ := h.path hop
  obtain ⟨g, c, rfl, hg, hc, hhp⟩ := hown.hold hne
  have he : endS st = ⟨false, ⟨st.x.arc, cmpP st.x.path, st.x.enter, st.x.leave⟩, if 1 < (cmpP st.x.path).length then st.l ++ [⟨st.x.arc, cmpP st.x.path, st.x.enter, st.x.leave⟩] else st.l⟩ := by unfold endS; rw [if_neg (by rw [hop]; simp)]
  rw [he]
  have HX8 := Lib.hid X8; have HX7 := Lib.hid X7; have HX6 := Lib.hid X6
  have HPc := Lib.hid h.pcs; have HEq := Lib.hid h.eq; have HAp := Lib.hid hap
  have HC := Lib.hid (fun (W : World) hh => compact_spec st.x.path g c W hh hc hne)
  have HHp := Lib.hid hhp
  have n8 := hhp.ne_ X8 (by decide)
  have n7 := hhp.ne_ X7 (by decide)
  have n6 := hhp.ne_ X6 (by decide)
  have n87 := Blk.ne_ X8 X7 (by decide)
  have n86 := Blk.ne_ X8 X6 (by decide)
  have n76 := Blk.ne_ X7 X6 (by decide)
  obtain ⟨A, cl, rfl, -, -⟩ := Own.shape_ h.pcs.own
  have npg := h.pcs.own.ne_hold hhp (by decide)
  have np7 := h.n7
  have HPt7 := Lib.hid (fun x (hx : x ∈ L) => Own.ne_blk (h.pcs.path x hx) X7 (by decide))
  have HNp := Lib.hid npg; have HN7 := Lib.hid np7
  clear npg np7
  have hl8 := X8.lt; have hl7 := X7.lt; have hl6 := X6.lt
  clear h he hop hown hne hap hhp
  have HLen := Lib.hid (cmp_len st.x.path)
  generalize cmpP st.x.path = q at *
  obtain ⟨l', hl'⟩ : ∃ l', (if 1 < q.length then st.l ++ [⟨st.x.arc, q, st.x.enter, st.x.leave⟩] else st.l) = l' := ⟨_, rfl⟩
  rw [hl']
  have HL' := Lib.hid hl'
  clear hl'
  try clear X8l
  try clear X8a
  obtain ⟨X8l, X8a, X8fa⟩ := X8.facts1
  obtain ⟨X7l, X7a, X7b, X7c, X7d, X7fa, X7fb, X7fc, X7fd⟩ := X7.facts4
  go_enter Tryz.func96, Tryz.ntmps96
  go_wp2_with fail
  refine (HC.out _ (HHp.out.far n8 _)).mono ?_
  rintro e w2 ⟨rfl, hh2, hg2⟩
  have B2 : Below B w w2 := ((Below.refl B w).setCell (p := ⟨g8, 0, none⟩) b8 _).grown hg2 (by simpa using hB) (fun k hk => by have := Option.some.inj hk; omega)
  have Y8 := (HX8.out.put1 (x0 := .bool false)).grow hg2 (fun e => n8 (Option.some.inj e).symm)
  have Y7 := (HX7.out.far (p := ⟨g8, 0, none⟩) (by first | omega | (simp; done) | (simp; omega)) (.bool false)).grow hg2 (fun e => n7 (Option.some.inj e).symm)
  have Y6 := (HX6.out.far (p := ⟨g8, 0, none⟩) (by first | omega | (simp; done) | (simp; omega)) (.bool false)).grow hg2 (fun e => n6 (Option.some.inj e).symm)
  have P1 := HPc.out.far HX8.out (by decide) (by decide) 0 (.bool false)
  have P2 : PcsO w2 B (.slice A L.length cl) L := ⟨Own.grown P1.own hg2 (fun k hk e => HNp.out (by rw [hk, e])), fun x hx => Own.grown (P1.path x hx) hg2 (fun k hk => HAp.out x hx k hk)⟩
  have HY8 := Lib.hid Y8; have HY6 := Lib.hid Y6; have HP2 := Lib.hid P2; have HB2 := Lib.hid B2; have HH2 := Lib.hid hh2
  have hs2 := hg2.size
  simp only [World.size_setCell] at hs2
  clear hh2 hg2 Y8 Y6 P1 P2 B2 HX8 HX7 HX6 HPc HHp HC X8 X7 X6 X8l X8a X8fa X7l X7a X7b X7c X7d X7fa X7fb X7fc X7fd
  obtain ⟨Y7l, Y7a, Y7b, Y7c, Y7d, Y7fa, Y7fb, Y7fc, Y7fd⟩ := Y7.facts4
  go_upto_if 12 with fail
  obtain ⟨w3, hw3⟩ : ∃ w3, w3 = w2.setCell ⟨g7, 1, none⟩ (.slice (some ⟨g, 0, none⟩) q.length c) := ⟨_, rfl⟩
  rw [← hw3]
  have X8 : Blk w3 g8 4 #[.bool false] := by rw [hw3]; exact HY8.out.far (by first | omega | (simp; done) | (simp; omega)) _
  have X7 : Blk w3 g7 68 #[.int .i64 st.x.arc, .slice (some ⟨g, 0, none⟩) q.length c, .int .i64 st.x.enter, .int .i64 st.x.leave] := by
   rw [hw3]
   have := Y7.set_ 1 (.slice (some ⟨g, 0, none⟩) q.length c)
   simpa using this
  have X6 : Blk w3 g6 43 #[.slice A L.length cl] := by rw [hw3]; exact HY6.out.far (by first | omega | (simp; done) | (simp; omega)) _
  have P3 : PcsO w3 B (.slice A L.length cl) L := by
   rw [hw3]
   exact ⟨HP2.out.own.far HN7.out _, fun x hx => (HP2.out.path x hx).far (HPt7.out x hx) _⟩
  have H3 : HoldP w3 g c q := by rw [hw3]; exact HH2.out.far n7 _
  have B3 : Below B w w3 := by rw [hw3]; exact HB2.out.setCell (p := ⟨g7, 1, none⟩) b7 _
  have hs3 : w2.heap.size ≤ w3.heap.size := by rw [hw3]; simp
  clear hw3
  have HX8 := Lib.hid X8; have HX7 := Lib.hid X7; have HX6 := Lib.hid X6; have HP3 := Lib.hid P3; have HH3 := Lib.hid H3; have HB3 := Lib.hid B3
  by_cases hlt : 1 < q.length
  ·
   have HL2 := Lib.hid (show st.l ++ [⟨st.x.arc, q, st.x.enter, st.x.leave⟩] = l' by rw [← HL'.out, if_pos hlt])
   have c1 : (1 : Int) < q.length := by omega
   clear Y7 X8 P3 H3 B3
   try clear Y7l Y7a Y7b Y7c Y7d
   try clear Y7fa Y7fb Y7fc Y7fd
   try clear X7l
   try clear X7a
   try clear X7b
   try clear X7c
   try clear X7d
   try clear X7fa
   try clear X7fb
   try clear X7fc
   try clear X7fd
   obtain ⟨X7l, X7a, X7b, X7c, X7d, -, -, -, -⟩ := X7.facts4
   obtain ⟨X6l, X6a, X6fa⟩ := X6.facts1
   go_wp2_with
    (at_builtin
     refine wpList_appl _ rfl (.tmp 13) (.tmp 15) _ rfl (base := B) elem_pc pcS_len pcS_one rfl (Own.alloc HP3.out.own _) rfl (l2 := [((⟨st.x.arc, q, st.x.enter, st.x.leave⟩, ⟨some ⟨g, 0, none⟩, q.length, c⟩) : Pc × SV)]) (Sl.lit (n := 1) (Blk.made rfl _ _) rfl (le_maxLen (by omega))) (by simp only [List.length_cons, List.length_nil]; omega) (by simp only [List.length_cons, List.length_nil]; omega) (by have := HB3.out.size; simp; omega) ?_
     intro v5 w5 ho5 hg5 hat5
     obtain ⟨A5, c5, hv5, -⟩ := Own.shape_ ho5
     rw [show (L ++ [((⟨st.x.arc, q, st.x.enter, st.x.leave⟩, ⟨some ⟨g, 0, none⟩, q.length, c⟩) : Pc × SV)]).length = L.length + 1 by simp] at hv5
     subst hv5
     have e6 := Own.ne_blk HP3.out.own HX6.out (by decide)
     have Z6 := Blk.grown (HX6.out.alloc _) hg5 (fun e => e6 e.symm)
     have HZ6 := Lib.hid Z6
     have HZ8 := Lib.hid (Blk.grown (HX8.out.alloc _) hg5 (fun e => Own.ne_blk HP3.out.own HX8.out (by decide) e.symm))
     have HZ7 := Lib.hid (Blk.grown (HX7.out.alloc _) hg5 (fun e => HN7.out e.symm))
     have HPt := Lib.hid (fun x (hx : x ∈ L) => Own.grown (Own.alloc (HP3.out.path x hx) _) hg5 (fun k hk => Own.apart (HP3.out.path x hx) HP3.out.own (by decide) k hk))
     have HOq := Lib.hid (Own.grown (Own.alloc (HH3.out.own hg hc) _) hg5 (fun k hk => Own.apart (HH3.out.own hg hc) HP3.out.own (by decide) k hk))
     have HB5 := Lib.hid (Below.grown (HB3.out.alloc (by have := HB3.out.size; omega) _) hg5 (by have := HB3.out.size; simp; omega) (fun k hk => (HP3.out.own.lt k hk).1))
     have hn5 : (Value.slice A5 (L.length + 1) c5).ownBlock ≠ some g7 := by
      rcases hat5 with e | e
      · rw [e]; exact HN7.out
      · rw [e]; intro h; have := Option.some.inj h; simp at this; omega
     have HN5 := Lib.hid hn5
     have HO5 := Lib.hid ho5
     clear ho5 hg5 hat5 hn5 e6
     obtain ⟨Z6l, Z6a, Z6fa⟩ := Z6.facts1
     )
   go_wp2_with fail
   refine bodyPost_end (v := .tuple #[]) (results_none rfl _ _ _) rfl ⟨rfl, ⟨L ++ [((⟨st.x.arc, q, st.x.enter, st.x.leave⟩, ⟨some ⟨g, 0, none⟩, q.length, c⟩) : Pc × SV)], .slice A5 (L.length + 1) c5, .slice (some ⟨g, 0, none⟩) q.length c, ?_⟩, ?_⟩
   ·
    have hPF : PcsO w5 B (.slice A5 (L.length + 1) c5) (L ++ [((⟨st.x.arc, q, st.x.enter, st.x.leave⟩, ⟨some ⟨g, 0, none⟩, q.length, c⟩) : Pc × SV)]) := by
     refine ⟨HO5.out, fun y hy => ?_⟩
     rcases List.mem_append.1 hy with hy | hy
     · exact HPt.out y hy
     ·
      rw [List.mem_singleton] at hy
      subst hy
      exact HOq.out
    refine ⟨HZ8.out.far (by first | omega | (simp; done) | (simp; omega)) _, HZ7.out.far (by first | omega | (simp; done) | (simp; omega)) _, HZ6.out.put1, hPF.far HZ6.out (by decide) (by decide) _ _, ?_, HN5.out, fun h => by cases h⟩
    show (L ++ _).map _ = l'
    rw [List.map_append, HEq.out, ← HL2.out]
    rfl
   · exact HB5.out.setCell (p := ⟨g6, 0, none⟩) b6 _
  ·
   have HL2 := Lib.hid (show st.l = l' by rw [← HL'.out, if_neg hlt])
   have c1 : ¬ (1 : Int) < q.length := by omega
   clear Y7 X8 P3 H3 B3
   try clear Y7l Y7a Y7b Y7c Y7d
   try clear Y7fa Y7fb Y7fc Y7fd
   go_wp2_with fail
   refine bodyPost_end (v := .tuple #[]) (results_none rfl _ _ _) rfl ⟨rfl, ⟨L, .slice A L.length cl, .slice (some ⟨g, 0, none⟩) q.length c, ?_⟩, HB3.out⟩
   exact ⟨HX8.out, HX7.out, HX6.out, HP3.out, by show L.map _ = l'; rw [HEq.out, HL2.out], HN7.out, fun h => by cases h⟩
end Go.Proofs.YtfdbidagdjnipaaGreatDoor
