/- clip.pieces: its memory, and its closure 'end'. mapsheetsref14.planar. -/
import Derived.Test.YtfondidmklmonaaGreatJ07
import Derived.Test.YtfondidmklmonaaGreatClipWF
import Derived.Test.YtfondidmklmonaaGreatJ11
set_option linter.unusedSimpArgs false
set_option linter.unusedVariables false
namespace Go.Proofs.YtfondidmklmonaaGreat
open Go.RowKit

def pcS (x : Pc × SV) : List Value := [.int .i64 x.1.arc, .slice x.2.a x.2.n x.2.c, .int .i64 x.1.enter, .int .i64 x.1.leave]
theorem pcS_len (x : Pc × SV) : (pcS x).length = 4 := rfl
theorem pcS_one (x : Pc × SV) : ∀ u ∈ pcS x, u.oneCell' = true := by simp [pcS, Value.oneCell']
theorem elem_pc : Elem Tryz.prog 33 55 4 48 := Elem.mk_ (z := .agg #[.int .i64 0, .slice none 0 0, .int .i64 0, .int .i64 0]) (by kernel_rfl) (by kernel_rfl) rfl (by omega)
/-- a list of pieces of the call's own (from block B on), each with its own path -/
structure PcsO (w : World) (B : Nat) (v : Value) (L : List (Pc × SV)) : Prop where
 own : Own w B 55 4 pcS v L
 path : ∀ x ∈ L, Own w B 28 2 ptC (.slice x.2.a x.2.n x.2.c) x.1.path
theorem PcsO.keep {w w' : World} {B : Nat} {v : Value} {L : List (Pc × SV)} (h : PcsO w B v L) (hb : Below w.heap.size w w') : PcsO w' B v L :=
 ⟨h.own.keep hb, fun x hx => (h.path x hx).keep hb⟩
theorem Own.ne_hold {α : Type} {w : World} {base : Nat} {e : TypeId} {size : Nat} {f : α → List Value} {v : Value} {l : List α} (h : Own w base e size f v l) {g c : Nat} {m : List Pt} (hh : HoldP w g c m) (hne : e ≠ 28) : v.ownBlock ≠ some g := by
 obtain ⟨cur, h1, -⟩ := hh
 exact h.ne_blk h1 hne
theorem PcsO.far {w : World} {B g : Nat} {t : TypeId} {cs : Array Value} {v : Value} {L : List (Pc × SV)} (h : PcsO w B v L) (hg : Blk w g t cs) (h1 : 55 ≠ t) (h2 : 28 ≠ t) (i : Nat) (u : Value) : PcsO (w.setCell ⟨g, i, none⟩ u) B v L :=
 ⟨h.own.far (Own.ne_blk h.own hg h1) u, fun x hx => (h.path x hx).far (Own.ne_blk (h.path x hx) hg h2) u⟩
/-- the three boxes of 'pieces' (g6: the list, g7: the open piece, g8: is one open?) -/
structure PcM (w : World) (B g6 g7 g8 : Nat) (st : PSt) (L : List (Pc × SV)) (vl vp : Value) : Prop where
 opn : Blk w g8 4 #[.bool st.open_]
 x : Blk w g7 55 #[.int .i64 st.x.arc, vp, .int .i64 st.x.enter, .int .i64 st.x.leave]
 out : Blk w g6 33 #[vl]
 pcs : PcsO w B vl L
 eq : L.map (·.1) = st.l
 n7 : vl.ownBlock ≠ some g7
 path : st.open_ = true → Own w B 28 2 ptC vp st.x.path ∧ st.x.path ≠ [] ∧ ∀ x ∈ L, ∀ g, (Value.slice x.2.a x.2.n x.2.c).ownBlock = some g → some g ≠ vp.ownBlock
theorem PcM.keep {w w' : World} {B g6 g7 g8 : Nat} {st : PSt} {L : List (Pc × SV)} {vl vp : Value} (h : PcM w B g6 g7 g8 st L vl vp) (hb : Below w.heap.size w w') : PcM w' B g6 g7 g8 st L vl vp :=
 ⟨h.opn.keep hb, h.x.keep hb, h.out.keep hb, h.pcs.keep hb, h.eq, h.n7, fun e => ⟨(h.path e).1.keep hb, (h.path e).2⟩⟩
def RetEnd (w : World) (B g6 g7 g8 : Nat) (st : PSt) (e : Ending) (w' : World) : Prop :=
 e = .returned (.tuple #[]) ∧ (∃ L vl vp, PcM w' B g6 g7 g8 st L vl vp) ∧ Below B w w'
set_option maxRecDepth 100000 in
set_option maxHeartbeats 8000000 in
theorem end_spec (B g6 g7 g8 : Nat) (st : PSt) (L : List (Pc × SV)) (vl vp : Value) (w : World) (h : PcM w B g6 g7 g8 st L vl vp) (hB : B ≤ w.heap.size) (b6 : B ≤ g6) (b7 : B ≤ g7) (b8 : B ≤ g8) (hl : L.length ≤ 4294967295) :
  Calls Tryz.prog 93 #[.pointer (some ⟨g8, 0, none⟩), .pointer (some ⟨g7, 0, none⟩), .pointer (some ⟨g6, 0, none⟩)] w (RetEnd w B g6 g7 g8 (endS st)) := by
 obtain ⟨op, hop⟩ : ∃ op, st.open_ = op := ⟨_, rfl⟩
 cases op
 ·
  have he : endS st = st := by unfold endS; rw [if_pos hop]
  rw [he]
  have X8 := h.opn
  rw [hop] at X8
  obtain ⟨X8l, X8a, -⟩ := X8.facts1
  have HH := Lib.hid h
  clear h he hop
  go_enter Tryz.func93, Tryz.ntmps93
  go_wp2_with fail
  exact bodyPost_end (v := .tuple #[]) (results_none rfl _ _ _) rfl ⟨rfl, ⟨L, vl, vp, HH.out⟩, Below.refl _ _⟩
 ·
  have X8 := h.opn
  rw [hop] at X8
  have X7 := h.x
  have X6 := h.out
  obtain ⟨hown, hne, hap⟩ := h.path hop
  obtain ⟨g, c, rfl, hg, hc, hhp⟩ := hown.hold hne
  have he : endS st = ⟨false, ⟨st.x.arc, cmpP st.x.path, st.x.enter, st.x.leave⟩, if 1 < (cmpP st.x.path).length then st.l ++ [⟨st.x.arc, cmpP st.x.path, st.x.enter, st.x.leave⟩] else st.l⟩ := by unfold endS; rw [if_neg (by rw [hop]; simp)]
  rw [he]
  have HX8 := Lib.hid X8; have HX7 := Lib.hid X7; have HX6 := Lib.hid X6
  have HPc := Lib.hid h.pcs; have HEq := Lib.hid h.eq; have HAp := Lib.hid hap
  have HC := Lib.hid (fun (W : World) hh => compact_spec st.x.path g c W hh hc hne)
  have HHp := Lib.hid hhp
  have n8 := hhp.ne_ X8 (by decide)
  have n7 := hhp.ne_ X7 (by decide)
  have n6 := hhp.ne_ X6 (by decide)
  have n87 := Blk.ne_ X8 X7 (by decide)
  have n86 := Blk.ne_ X8 X6 (by decide)
  have n76 := Blk.ne_ X7 X6 (by decide)
  obtain ⟨A, cl, rfl, -, -⟩ := Own.shape_ h.pcs.own
  have npg := h.pcs.own.ne_hold hhp (by decide)
  have np7 := h.n7
  have HPt7 := Lib.hid (fun x (hx : x ∈ L) => Own.ne_blk (h.pcs.path x hx) X7 (by decide))
  have HNp := Lib.hid npg; have HN7 := Lib.hid np7
  clear npg np7
  have hl8 := X8.lt; have hl7 := X7.lt; have hl6 := X6.lt
  clear h he hop hown hne hap hhp
  have HLen := Lib.hid (cmp_len st.x.path)
  generalize cmpP st.x.path = q at *
  obtain ⟨l', hl'⟩ : ∃ l', (if 1 < q.length then st.l ++ [⟨st.x.arc, q, st.x.enter, st.x.leave⟩] else st.l) = l' := ⟨_, rfl⟩
  rw [hl']
  have HL' := Lib.hid hl'
  clear hl'
  try clear X8l
  try clear X8a
  obtain ⟨X8l, X8a, X8fa⟩ := X8.facts1
  obtain ⟨X7l, X7a, X7b, X7c, X7d, X7fa, X7fb, X7fc, X7fd⟩ := X7.facts4
  go_enter Tryz.func93, Tryz.ntmps93
  go_wp2_with fail
  refine (HC.out _ (HHp.out.far n8 _)).mono ?_
  rintro e w2 ⟨rfl, hh2, hg2⟩
  have B2 : Below B w w2 := ((Below.refl B w).setCell (p := ⟨g8, 0, none⟩) b8 _).grown hg2 (by simpa using hB) (fun k hk => by have := Option.some.inj hk; omega)
  have Y8 := (HX8.out.put1 (x0 := .bool false)).grow hg2 (fun e => n8 (Option.some.inj e).symm)
  have Y7 := (HX7.out.far (p := ⟨g8, 0, none⟩) (by first | omega | (simp; done) | (simp; omega)) (.bool false)).grow hg2 (fun e => n7 (Option.some.inj e).symm)
  have Y6 := (HX6.out.far (p := ⟨g8, 0, none⟩) (by first | omega | (simp; done) | (simp; omega)) (.bool false)).grow hg2 (fun e => n6 (Option.some.inj e).symm)
  have P1 := HPc.out.far HX8.out (by decide) (by decide) 0 (.bool false)
  have P2 : PcsO w2 B (.slice A L.length cl) L := ⟨Own.grown P1.own hg2 (fun k hk e => HNp.out (by rw [hk, e])), fun x hx => Own.grown (P1.path x hx) hg2 (fun k hk => HAp.out x hx k hk)⟩
  have HY8 := Lib.hid Y8; have HY6 := Lib.hid Y6; have HP2 := Lib.hid P2; have HB2 := Lib.hid B2; have HH2 := Lib.hid hh2
  have hs2 := hg2.size
  simp only [World.size_setCell] at hs2
  clear hh2 hg2 Y8 Y6 P1 P2 B2 HX8 HX7 HX6 HPc HHp HC X8 X7 X6 X8l X8a X8fa X7l X7a X7b X7c X7d X7fa X7fb X7fc X7fd
  obtain ⟨Y7l, Y7a, Y7b, Y7c, Y7d, Y7fa, Y7fb, Y7fc, Y7fd⟩ := Y7.facts4
  go_upto_if 12 with fail
  obtain ⟨w3, hw3⟩ : ∃ w3, w3 = w2.setCell ⟨g7, 1, none⟩ (.slice (some ⟨g, 0, none⟩) q.length c) := ⟨_, rfl⟩
  rw [← hw3]
  have X8 : Blk w3 g8 4 #[.bool false] := by rw [hw3]; exact HY8.out.far (by first | omega | (simp; done) | (simp; omega)) _
  have X7 : Blk w3 g7 55 #[.int .i64 st.x.arc, .slice (some ⟨g, 0, none⟩) q.length c, .int .i64 st.x.enter, .int .i64 st.x.leave] := by
   rw [hw3]
   have := Y7.set_ 1 (.slice (some ⟨g, 0, none⟩) q.length c)
   simpa using this
  have X6 : Blk w3 g6 33 #[.slice A L.length cl] := by rw [hw3]; exact HY6.out.far (by first | omega | (simp; done) | (simp; omega)) _
  have P3 : PcsO w3 B (.slice A L.length cl) L := by
   rw [hw3]
   exact ⟨HP2.out.own.far HN7.out _, fun x hx => (HP2.out.path x hx).far (HPt7.out x hx) _⟩
  have H3 : HoldP w3 g c q := by rw [hw3]; exact HH2.out.far n7 _
  have B3 : Below B w w3 := by rw [hw3]; exact HB2.out.setCell (p := ⟨g7, 1, none⟩) b7 _
  have hs3 : w2.heap.size ≤ w3.heap.size := by rw [hw3]; simp
  clear hw3
  have HX8 := Lib.hid X8; have HX7 := Lib.hid X7; have HX6 := Lib.hid X6; have HP3 := Lib.hid P3; have HH3 := Lib.hid H3; have HB3 := Lib.hid B3
  by_cases hlt : 1 < q.length
  ·
   have HL2 := Lib.hid (show st.l ++ [⟨st.x.arc, q, st.x.enter, st.x.leave⟩] = l' by rw [← HL'.out, if_pos hlt])
   have c1 : (1 : Int) < q.length := by omega
   clear Y7 X8 P3 H3 B3
   try clear Y7l Y7a Y7b Y7c Y7d
   try clear Y7fa Y7fb Y7fc Y7fd
   try clear X7l
   try clear X7a
   try clear X7b
   try clear X7c
   try clear X7d
   try clear X7fa
   try clear X7fb
   try clear X7fc
   try clear X7fd
   obtain ⟨X7l, X7a, X7b, X7c, X7d, -, -, -, -⟩ := X7.facts4
   obtain ⟨X6l, X6a, X6fa⟩ := X6.facts1
   go_wp2_with
    (at_builtin
     refine wpList_appl _ rfl (.tmp 13) (.tmp 15) _ rfl (base := B) elem_pc pcS_len pcS_one rfl (Own.alloc HP3.out.own _) rfl (l2 := [((⟨st.x.arc, q, st.x.enter, st.x.leave⟩, ⟨some ⟨g, 0, none⟩, q.length, c⟩) : Pc × SV)]) (Sl.lit (n := 1) (Blk.made rfl _ _) rfl (le_maxLen (by omega))) (by simp only [List.length_cons, List.length_nil]; omega) (by simp only [List.length_cons, List.length_nil]; omega) (by have := HB3.out.size; simp; omega) ?_
     intro v5 w5 ho5 hg5 hat5
     obtain ⟨A5, c5, hv5, -⟩ := Own.shape_ ho5
     rw [show (L ++ [((⟨st.x.arc, q, st.x.enter, st.x.leave⟩, ⟨some ⟨g, 0, none⟩, q.length, c⟩) : Pc × SV)]).length = L.length + 1 by simp] at hv5
     subst hv5
     have e6 := Own.ne_blk HP3.out.own HX6.out (by decide)
     have Z6 := Blk.grown (HX6.out.alloc _) hg5 (fun e => e6 e.symm)
     have HZ6 := Lib.hid Z6
     have HZ8 := Lib.hid (Blk.grown (HX8.out.alloc _) hg5 (fun e => Own.ne_blk HP3.out.own HX8.out (by decide) e.symm))
     have HZ7 := Lib.hid (Blk.grown (HX7.out.alloc _) hg5 (fun e => HN7.out e.symm))
     have HPt := Lib.hid (fun x (hx : x ∈ L) => Own.grown (Own.alloc (HP3.out.path x hx) _) hg5 (fun k hk => Own.apart (HP3.out.path x hx) HP3.out.own (by decide) k hk))
     have HOq := Lib.hid (Own.grown (Own.alloc (HH3.out.own hg hc) _) hg5 (fun k hk => Own.apart (HH3.out.own hg hc) HP3.out.own (by decide) k hk))
     have HB5 := Lib.hid (Below.grown (HB3.out.alloc (by have := HB3.out.size; omega) _) hg5 (by have := HB3.out.size; simp; omega) (fun k hk => (HP3.out.own.lt k hk).1))
     have hn5 : (Value.slice A5 (L.length + 1) c5).ownBlock ≠ some g7 := by
      rcases hat5 with e | e
      · rw [e]; exact HN7.out
      · rw [e]; intro h; have := Option.some.inj h; simp at this; omega
     have HN5 := Lib.hid hn5
     have HO5 := Lib.hid ho5
     clear ho5 hg5 hat5 hn5 e6
     obtain ⟨Z6l, Z6a, Z6fa⟩ := Z6.facts1
     )
   go_wp2_with fail
   refine bodyPost_end (v := .tuple #[]) (results_none rfl _ _ _) rfl ⟨rfl, ⟨L ++ [((⟨st.x.arc, q, st.x.enter, st.x.leave⟩, ⟨some ⟨g, 0, none⟩, q.length, c⟩) : Pc × SV)], .slice A5 (L.length + 1) c5, .slice (some ⟨g, 0, none⟩) q.length c, ?_⟩, ?_⟩
   ·
    have hPF : PcsO w5 B (.slice A5 (L.length + 1) c5) (L ++ [((⟨st.x.arc, q, st.x.enter, st.x.leave⟩, ⟨some ⟨g, 0, none⟩, q.length, c⟩) : Pc × SV)]) := by
     refine ⟨HO5.out, fun y hy => ?_⟩
     rcases List.mem_append.1 hy with hy | hy
     · exact HPt.out y hy
     ·
      rw [List.mem_singleton] at hy
      subst hy
      exact HOq.out
    refine ⟨HZ8.out.far (by first | omega | (simp; done) | (simp; omega)) _, HZ7.out.far (by first | omega | (simp; done) | (simp; omega)) _, HZ6.out.put1, hPF.far HZ6.out (by decide) (by decide) _ _, ?_, HN5.out, fun h => by cases h⟩
    show (L ++ _).map _ = l'
    rw [List.map_append, HEq.out, ← HL2.out]
    rfl
   · exact HB5.out.setCell (p := ⟨g6, 0, none⟩) b6 _
  ·
   have HL2 := Lib.hid (show st.l = l' by rw [← HL'.out, if_neg hlt])
   have c1 : ¬ (1 : Int) < q.length := by omega
   clear Y7 X8 P3 H3 B3
   try clear Y7l Y7a Y7b Y7c Y7d
   try clear Y7fa Y7fb Y7fc Y7fd
   go_wp2_with fail
   refine bodyPost_end (v := .tuple #[]) (results_none rfl _ _ _) rfl ⟨rfl, ⟨L, .slice A L.length cl, .slice (some ⟨g, 0, none⟩) q.length c, ?_⟩, HB3.out⟩
   exact ⟨HX8.out, HX7.out, HX6.out, HP3.out, by show L.map _ = l'; rw [HEq.out, HL2.out], HN7.out, fun h => by cases h⟩
end Go.Proofs.YtfondidmklmonaaGreat
namespace Go.Proofs.YtfondidmklmonaaGreat
open Go.RowKit

/-- f at each element, g at each two. -/
def triB {α : Type} (l : List α) (f : α → Bool) (g : α → α → Bool) : Bool := (List.range l.length).all fun i => match l[i]? with
 | none => true
 | some t => f t && (l.take i).all fun s => g s t
theorem tri_f {α : Type} (l : List α) (f : α → Bool) (g : α → α → Bool) (i : Nat) (hi : i < l.length) (h : f l[i] = false) : triB l f g = false := by
 unfold triB
 rw [List.all_eq_false]
 exact ⟨i, List.mem_range.2 hi, by simp [List.getElem?_eq_getElem hi, h]⟩
theorem tri_g {α : Type} (l : List α) (f : α → Bool) (g : α → α → Bool) (i k : Nat) (hk : k < i) (hi : i < l.length) (h : g (l[k]'(by omega)) l[i] = false) : triB l f g = false := by
 unfold triB
 rw [List.all_eq_false]
 refine ⟨i, List.mem_range.2 hi, ?_⟩
 have : (l.take i).all (fun s => g s l[i]) = false := by
  rw [List.all_eq_false]
  refine ⟨l[k]'(by omega), ?_, by simp [h]⟩
  rw [List.mem_iff_getElem]
  exact ⟨k, by rw [List.length_take]; omega, by simp⟩
 simp [List.getElem?_eq_getElem hi, this]
theorem tri_ok {α : Type} (l : List α) (f : α → Bool) (g : α → α → Bool) (h1 : ∀ i (hi : i < l.length), f l[i] = true) (h2 : ∀ i k (hk : k < i) (hi : i < l.length), g (l[k]'(by omega)) l[i] = true) : triB l f g = true := by
 unfold triB
 rw [List.all_eq_true]
 intro i hi
 have hi := List.mem_range.1 hi
 rw [List.getElem?_eq_getElem hi]
 simp only [Bool.and_eq_true]
 refine ⟨h1 i hi, List.all_eq_true.2 fun s hs => ?_⟩
 obtain ⟨k, hk, rfl⟩ := List.mem_iff_getElem.1 hs
 rw [List.length_take] at hk
 have := h2 i k (by omega) hi
 simpa using this

def pairR (p : Pl) (s t : Sg) : Bool := if s.arc.id = t.arc.id then apartS s t else joinedS p s t
def planarR (p : Pl) : Bool := triB (segsS p) (aloneS p) (pairR p)

theorem segs_ok (p : Pl) (hl : (p.arcs.flatMap (·.via)).length ≤ 1048576) (s : Sg) (hs : s ∈ segsS p) : s.i ≤ 2097152 ∧ 1 ≤ s.n ∧ s.n ≤ 2097152 := by
 unfold segsS at hs
 obtain ⟨a, ha, hs⟩ := List.mem_flatMap.1 hs
 unfold segsOf at hs
 obtain ⟨k, hk, rfl⟩ := List.mem_map.1 hs
 have hk := List.mem_range.1 hk
 rw [pathS_length] at hk ⊢
 obtain ⟨i, hi, rfl⟩ := List.mem_iff_getElem.1 ha
 have := flat_take_succ_le p.arcs (·.via) i hi
 simp only []
 omega

theorem Row.sg {w : World} {A : Option Addr} {l : List (Sg × SV)} (h : Row w A (l.flatMap sgC)) {k : Nat} (hk : k < l.length) :
  ∃ b o, A = some ⟨b, o, none⟩ ∧ b < w.heap.size ∧ w.cell? ⟨b, o + k * 12, none⟩ = some (.int .i64 l[k].1.arc.id) ∧ w.cell? ⟨b, o + k * 12 + 1, none⟩ = some (.int .i64 l[k].1.arc.fr) ∧ w.cell? ⟨b, o + k * 12 + 2, none⟩ = some (.int .i64 l[k].1.arc.dst) ∧ w.cell? ⟨b, o + k * 12 + 3, none⟩ = some (.slice l[k].2.a l[k].2.n l[k].2.c) ∧ w.cell? ⟨b, o + k * 12 + 4, none⟩ = some (.int .i64 l[k].1.arc.left) ∧ w.cell? ⟨b, o + k * 12 + 5, none⟩ = some (.int .i64 l[k].1.arc.right) ∧ w.cell? ⟨b, o + k * 12 + 6, none⟩ = some (.int .i64 l[k].1.i) ∧ w.cell? ⟨b, o + k * 12 + 7, none⟩ = some (.int .i64 l[k].1.n) ∧ w.cell? ⟨b, o + k * 12 + 8, none⟩ = some (.int .i64 l[k].1.a.x) ∧ w.cell? ⟨b, o + k * 12 + 9, none⟩ = some (.int .i64 l[k].1.a.y) ∧ w.cell? ⟨b, o + k * 12 + 10, none⟩ = some (.int .i64 l[k].1.b.x) ∧ w.cell? ⟨b, o + k * 12 + 11, none⟩ = some (.int .i64 l[k].1.b.y) := by
 obtain ⟨b, o, hA, hb, hc⟩ := h.at_ (n := 12) (fun _ => rfl) hk (by omega)
 exact ⟨b, o, hA, hb, hc 0 _ rfl, hc 1 _ rfl, hc 2 _ rfl, hc 3 _ rfl, hc 4 _ rfl, hc 5 _ rfl, hc 6 _ rfl, hc 7 _ rfl, hc 8 _ rfl, hc 9 _ rfl, hc 10 _ rfl, hc 11 _ rfl⟩

set_option maxRecDepth 100000 in
set_option maxHeartbeats 8000000 in
theorem planar_ref_spec (v : Value) (p : Pl) (w : World) (h : PlV w v p) (hl1 : p.arcs.length ≤ 4096) (hl2 : (p.arcs.flatMap (·.via)).length ≤ 1048576) :
  Calls Tryz.prog 66 #[v] w fun e w' => e = .returned (.bool (planarR p)) ∧ Below w.heap.size w w' := by
 have HP := Lib.hid h
 obtain ⟨vn, va, vf, al, rfl, -⟩ := h
 have hok := segs_ok p hl2
 have HOk := Lib.hid hok; clear hok
 obtain ⟨q, hq⟩ : ∃ q, planarR p = q := ⟨_, rfl⟩
 rw [hq]
 have Hq := Lib.hid hq; clear hq
 have HL1 := Lib.hid hl1; have HL2 := Lib.hid hl2
 have Hbd := Lib.hid (show (segsS p).length ≤ 1052672 by unfold segsS; rw [segs_len]; omega)
 clear hl1 hl2
 go_enter Tryz.func66, Tryz.ntmps66
 go_wp2_with fail
 refine (Segments_spec _ p _ (HP.out.mono (bA (bR w) _)) HL1.out HL2.out).mono ?_
 rintro e w1 ⟨sl, v1, hsl, rfl, hb1, hown⟩
 have Bw : Below w.heap.size w w1 := by
  repeat (first | with_reducible exact bR _ | with_reducible assumption | with_reducible refine bA ?_ _ | with_reducible refine bD ?_ | with_reducible refine bN ?_ _ | ((with_reducible refine bS ?_ ?_ _); rotate_left; (simp; try omega)) | ((with_reducible refine bT ?_ ?_); rotate_left; with_reducible assumption) | with_reducible refine bT ?_ (by assumption))
 have X2 : Blk _ (w.heap.size) 26 #[vn, va, vf] := Blk.keep (by repeat (first | exact Blk.made (by simp) _ _ | refine Blk.alloc ?_ _)) hb1
 clear hb1
 have hsl2 := Own.sl hown
 obtain ⟨A, c, rfl, hn1, hn2, hR⟩ := hsl2
 unfold maxLen at hn2
 have HR := Lib.hid hR
 have Hsl := Lib.hid hsl
 have hlen : sl.length ≤ 1052672 := by have := congrArg List.length hsl; rw [List.length_map] at this; have := Hbd.out; omega
 have HX2 := Lib.hid X2
 have HB := Lib.hid Bw
 clear X2 Bw hown hR hsl
 -- each element is a segment of the plan
 have hin : ∀ k (hk : k < sl.length), sl[k].1.i ≤ 2097152 ∧ 1 ≤ sl[k].1.n ∧ sl[k].1.n ≤ 2097152 := fun k hk => HOk.out _ (by rw [← Hsl.out]; exact List.mem_map_of_mem (List.getElem_mem hk))
 have Hin := Lib.hid hin; clear hin
 have hF : ∀ i (hi : i < sl.length), aloneS p sl[i].1 = false → q = false := fun i hi h => by
  rw [← Hq.out, planarR, ← Hsl.out]
  exact tri_f _ _ _ i (by simpa using hi) (by simpa using h)
 have hG : ∀ i k (hk : k < i) (hi : i < sl.length), pairR p (sl[k]'(by omega)).1 sl[i].1 = false → q = false := fun i k hk hi h => by
  rw [← Hq.out, planarR, ← Hsl.out]
  exact tri_g _ _ _ i k hk (by simpa using hi) (by simpa using h)
 have hY : (∀ i (hi : i < sl.length), aloneS p sl[i].1 = true) → (∀ i k (hk : k < i) (hi : i < sl.length), pairR p (sl[k]'(by omega)).1 sl[i].1 = true) → q = true := fun h1 h2 => by
  rw [← Hq.out, planarR, ← Hsl.out]
  refine tri_ok _ _ _ (fun i hi => ?_) (fun i k hk hi => ?_)
  · have := h1 i (by simpa using hi); simpa using this
  · have := h2 i k hk (by simpa using hi); simpa using this
 have HF := Lib.hid hF; have HG := Lib.hid hG; have HY := Lib.hid hY
 clear hF hG hY
 go_wp2_with fail
 go_loopw [4] (fun u wr => ∃ i : Nat, i ≤ sl.length ∧ u = .int .i64 i ∧ Below w1.heap.size w1 wr ∧ (∀ j (hj : j < sl.length), j < i → aloneS p sl[j].1 = true) ∧ (∀ j k (hk : k < j) (hj : j < sl.length), j < i → pairR p (sl[k]'(by omega)).1 sl[j].1 = true)) (fun u _ => sl.length - (intOf u).toNat)
 case atStart => exact ⟨0, Nat.zero_le _, rfl, bR w1, fun _ _ h => by omega, fun _ _ _ _ h => by omega⟩
 case round =>
  obtain ⟨i, hi, rfl, hb, hno1, hno2⟩ := hrel
  have Hb := Lib.hid hb
  have Hn1 := Lib.hid hno1
  have Hn2 := Lib.hid hno2
  have X2 := HX2.out.keep hb
  clear hb hno1 hno2
  obtain ⟨X2l, X2a, X2b, X2c, -, -, -⟩ := X2.facts3
  by_cases hlt : i < sl.length
  case neg =>
   have hf := Lib.hid (HY.out (fun j hj => Hn1.out j hj (by omega)) (fun j k hk hj => Hn2.out j k hk hj (by omega)))
   go_wp2_with fail
   go_ret
   exact ⟨ret_bool hf.out.symm, bT HB.out Hb.out⟩
  obtain ⟨b, o, rfl, hlb, c0, c1, c2, c3, c4, c5, c6, c7, c8, c9, c10, c11⟩ := (HR.out.mono Hb.out).sg hlt
  have q1 : 0 ≤ (i : Int) := by omega
  have q2 : (i : Int) < sl.length := by omega
  have TA : ∀ W, Below w.heap.size w W → Calls Tryz.prog 100 #[.agg #[vn, va, vf], sgV sl[i].1 (.slice sl[i].2.a sl[i].2.n sl[i].2.c)] W _ := fun W hW => alone_spec _ p sl[i].1 sl[i].2.a sl[i].2.n sl[i].2.c W (HP.out.mono hW) (Hin.out i hlt).1 (Hin.out i hlt).2.2
  unfold sgV at TA
  have HA := Lib.hid TA; clear TA
  go_upto_region 5 with fail
  refine rg_start (Since wr) (.run 5 0 0 (.call 5 63 (.take 6 127 (.done)))) (by kernel_rfl) (bD (bR _)) (by kernel_rfl) (by kernel_rfl) (Nat.le_of_ble_eq_true (by kernel_rfl)) ?_
  intro opsR QR Hops HQrg hS
  iterate 5
   apply rg_p; exact Hops; exact rfl; exact hS; exact rfl
   · intro _ hqc; go_simp; try rfl
   try simp only [pu]
  refine rg_call (i := 5) (get_of Hops rfl) (fun K hK => ?_)
  have HSrg := Lib.hid hS; clear hS
  refine rg_run (wanted_plain rfl) ?_
  go_simp
  refine (HA.out _ (bT (bT HB.out Hb.out) HSrg.out)).mono ?_
  rintro e wr1 ⟨rfl, hbr1⟩
  have hS : Since wr wr1 := bT (w := wr) HSrg.out hbr1
  clear HSrg
  refine hK.out _ _ hS (fun _ => ?_)
  clear hK K
  try simp only [pu]
  apply rg_p; exact Hops; exact rfl; exact hS; exact rfl
  · intro _ hqc; go_simp; try rfl
  try simp only [pu]
  refine rg_done ?_
  refine HQrg.down _ _ ?_
  have hB : Below wr.heap.size wr wr1 := hS
  clear hS HQrg Hops
  have Bi : Below w1.heap.size w1 wr1 := bT Hb.out hB
  cases ha : aloneS p sl[i].1
  case false =>
   have hf := Lib.hid (HF.out i hlt ha)
   clear ha
   go_wp2_with fail
   go_ret
   exact ⟨ret_bool hf.out.symm, bT HB.out Bi⟩
  have Ha := Lib.hid ha
  have HBi := Lib.hid Bi
  clear ha Bi hB c0 c1 c2 c3 c4 c5 c6 c7 c8 c9 c10 c11 hlb X2 X2l X2a X2b X2c HA
  simp only [Bool.not_true]
  go_wp2_with fail
  obtain ⟨wo, rfl⟩ : ∃ wo : World, wo = wr := ⟨_, rfl⟩
  go_loopw [5] (fun u wr => ∃ k : Nat, k ≤ i ∧ u = .int .i64 k ∧ Below w1.heap.size w1 wr ∧ ∀ j (hj : j < sl.length), j < k → pairR p sl[j].1 sl[i].1 = true) (fun u _ => i - (intOf u).toNat)
  case atStart => exact ⟨0, Nat.zero_le _, rfl, HBi.out, fun _ _ h => by omega⟩
  case round =>
   obtain ⟨k, hk, rfl, hb, hno⟩ := hrel
   have Hb2 := Lib.hid hb
   have Hn3 := Lib.hid hno
   have X2 := HX2.out.keep hb
   clear hb hno
   try clear X2l
   try clear X2a
   try clear X2b
   try clear X2c
   obtain ⟨X2l, X2a, X2b, X2c, -, -, -⟩ := X2.facts3
   by_cases hki : k < i
   case neg =>
    have Hs1 := Lib.hid (all_succ (p := fun x => aloneS p x.1 = true) Hn1.out hlt Ha.out)
    have Hs2 : Hid (∀ j m (hm : m < j) (hj : j < sl.length), j < i + 1 → pairR p (sl[m]'(by omega)).1 sl[j].1 = true) := Lib.hid fun j m hm hj hji => by
     by_cases e : j < i
     · exact Hn2.out j m hm hj e
     ·
      have : j = i := by omega
      subst this
      exact Hn3.out m (by omega) (by omega)
    go_wp2_with fail
    go_roundw
    case rel => exact ⟨i + 1, by omega, by go_num, Hb2.out, Hs1.out, Hs2.out⟩
    case measure => simp [intOf]; omega
   have hkl : k < sl.length := by omega
   obtain ⟨b', o', hbo, hlb, c0, c1, c2, c3, c4, c5, c6, c7, c8, c9, c10, c11⟩ := (HR.out.mono Hb2.out).sg hlt
   simp only [Option.some.injEq, Addr.mk.injEq, and_true] at hbo
   obtain ⟨rfl, rfl⟩ := hbo
   obtain ⟨b', o', hbo, -, d0, d1, d2, d3, d4, d5, d6, d7, d8, d9, d10, d11⟩ := (HR.out.mono Hb2.out).sg hkl
   simp only [Option.some.injEq, Addr.mk.injEq, and_true] at hbo
   obtain ⟨rfl, rfl⟩ := hbo
   have r1 : 0 ≤ (k : Int) := by omega
   have r2 : (k : Int) < sl.length := by omega
   have TA : ∀ W, Calls Tryz.prog 101 #[sgV sl[k].1 (.slice sl[k].2.a sl[k].2.n sl[k].2.c), sgV sl[i].1 (.slice sl[i].2.a sl[i].2.n sl[i].2.c)] W _ := fun W => apart_spec sl[k].1 sl[i].1 sl[k].2.a sl[i].2.a sl[k].2.n sl[i].2.n sl[k].2.c sl[i].2.c W (Hin.out k hkl).1 (Hin.out i hlt).2.2 (Hin.out i hlt).2.1
   have TJ : ∀ W, Below w.heap.size w W → Calls Tryz.prog 102 #[.agg #[vn, va, vf], sgV sl[k].1 (.slice sl[k].2.a sl[k].2.n sl[k].2.c), sgV sl[i].1 (.slice sl[i].2.a sl[i].2.n sl[i].2.c)] W _ := fun W hW => joined_spec _ p sl[k].1 sl[i].1 sl[k].2.a sl[i].2.a sl[k].2.n sl[i].2.n sl[k].2.c sl[i].2.c W (HP.out.mono hW)
   unfold sgV at TA TJ
   have HJ := Lib.hid TJ; clear TJ
   cases hid : (sl[k].1.arc.id == sl[i].1.arc.id)
   case true =>
    have hpr : pairR p sl[k].1 sl[i].1 = apartS sl[k].1 sl[i].1 := by unfold pairR; rw [if_pos (eq_of_beq hid)]
    have hid2 : (sl[k].1.arc.id != sl[i].1.arc.id) = false := by simp [bne, hid]
    have Hpr := Lib.hid hpr; clear hpr
    cases ha : apartS sl[k].1 sl[i].1
    case false =>
     rw [ha] at TA
     have HA := Lib.hid TA
     have hf := Lib.hid (HG.out i k hki hlt (Hpr.out.trans ha))
     clear TA ha
     go_upto_region 10 with fail
     refine rg_start (Since wr) (.run 22 0 0 (.call 22 8388607 (.run 30 23 8388607 (.done)))) (by kernel_rfl) (bD (bR _)) (by kernel_rfl) (by kernel_rfl) (Nat.le_of_ble_eq_true (by kernel_rfl)) ?_
     intro opsR QR Hops HQrg hS
     iterate 14
      apply rg_p; exact Hops; exact rfl; exact hS; exact rfl
      · intro _ hqc; go_simp; try rfl
      try simp only [pu]
     iterate 8
      apply rg_g; exact Hops; exact rfl; exact hS; iterate 4 exact rfl
      · intro _ hqc; go_simp; try rfl
      try simp only [pu]
     refine rg_call (i := 22) (get_of Hops rfl) (fun K hK => ?_)
     have HSrg := Lib.hid hS; clear hS
     refine rg_run (wanted_yes rfl (get_of Hops rfl) rfl rfl) ?_
     go_simp
     refine (HA.out _).mono ?_
     rintro e wr1 ⟨rfl, hbr1⟩
     have hS : Since wr wr1 := bT (w := wr) HSrg.out hbr1
     clear HSrg
     refine hK.out _ _ hS (fun _ => ?_)
     clear hK K
     try simp only [pu]
     apply rg_g; exact Hops; exact rfl; exact hS; iterate 4 exact rfl
     · intro _ hqc; go_simp; try rfl
     try simp only [pu]
     iterate 2
      apply rg_p; exact Hops; exact rfl; exact hS; exact rfl
      · intro _ hqc; go_simp; try rfl
      try simp only [pu]
     iterate 26
      refine rg_yn Hops rfl hS rfl rfl rfl rfl rfl ?_
      try simp only [pu]
     apply rg_p; exact Hops; exact rfl; exact hS; exact rfl
     · intro _ hqc; go_simp; try rfl
     try simp only [pu]
     refine rg_done ?_
     refine HQrg.down _ _ ?_
     have hB : Below wr.heap.size wr wr1 := hS
     clear hS HQrg Hops
     have B3 : Below w1.heap.size w1 wr1 := bT Hb2.out hB
     go_wp2_with fail
     go_ret
     exact ⟨ret_bool hf.out.symm, bT HB.out B3⟩
    case true =>
     rw [ha] at TA
     have HA := Lib.hid TA
     have hg := Lib.hid (Hpr.out.trans ha)
     clear TA ha
     go_upto_region 10 with fail
     refine rg_start (Since wr) (.run 22 0 0 (.call 22 8388607 (.run 30 23 8388607 (.done)))) (by kernel_rfl) (bD (bR _)) (by kernel_rfl) (by kernel_rfl) (Nat.le_of_ble_eq_true (by kernel_rfl)) ?_
     intro opsR QR Hops HQrg hS
     iterate 14
      apply rg_p; exact Hops; exact rfl; exact hS; exact rfl
      · intro _ hqc; go_simp; try rfl
      try simp only [pu]
     iterate 8
      apply rg_g; exact Hops; exact rfl; exact hS; iterate 4 exact rfl
      · intro _ hqc; go_simp; try rfl
      try simp only [pu]
     refine rg_call (i := 22) (get_of Hops rfl) (fun K hK => ?_)
     have HSrg := Lib.hid hS; clear hS
     refine rg_run (wanted_yes rfl (get_of Hops rfl) rfl rfl) ?_
     go_simp
     refine (HA.out _).mono ?_
     rintro e wr1 ⟨rfl, hbr1⟩
     have hS : Since wr wr1 := bT (w := wr) HSrg.out hbr1
     clear HSrg
     refine hK.out _ _ hS (fun _ => ?_)
     clear hK K
     try simp only [pu]
     apply rg_g; exact Hops; exact rfl; exact hS; iterate 4 exact rfl
     · intro _ hqc; go_simp; try rfl
     try simp only [pu]
     iterate 2
      apply rg_p; exact Hops; exact rfl; exact hS; exact rfl
      · intro _ hqc; go_simp; try rfl
      try simp only [pu]
     iterate 14
      apply rg_g; exact Hops; exact rfl; exact hS; iterate 4 exact rfl
      · intro _ hqc; go_simp; try rfl
      try simp only [pu]
     iterate 11
      refine rg_yn Hops rfl hS rfl rfl rfl rfl rfl ?_
      try simp only [pu]
     apply rg_g; exact Hops; exact rfl; exact hS; iterate 4 exact rfl
     · intro _ hqc; go_simp; try rfl
     try simp only [pu]
     apply rg_p; exact Hops; exact rfl; exact hS; exact rfl
     · intro _ hqc; go_simp; try rfl
     try simp only [pu]
     refine rg_done ?_
     refine HQrg.down _ _ ?_
     have hB : Below wr.heap.size wr wr1 := hS
     clear hS HQrg Hops
     have B3 : Below w1.heap.size w1 wr1 := bT Hb2.out hB
     go_wp2_with fail
     go_roundw
     case rel => exact ⟨k + 1, by omega, by go_num, B3, all_succ (p := fun x => pairR p x.1 sl[i].1 = true) Hn3.out hkl hg.out⟩
     case measure => simp [intOf]; omega
   case false =>
    have hpr : pairR p sl[k].1 sl[i].1 = joinedS p sl[k].1 sl[i].1 := by unfold pairR; rw [if_neg (ne_of_beq_false hid)]
    have hid2 : (sl[k].1.arc.id != sl[i].1.arc.id) = true := by simp [bne, hid]
    have Hpr := Lib.hid hpr; clear hpr TA
    go_upto_region 10 with fail
    refine rg_start (Since wr) (.run 49 0 0 (.call 49 1125899906842623 (.run 3 50 1125899906842623 (.done)))) (by kernel_rfl) (bD (bR _)) (by kernel_rfl) (by kernel_rfl) (Nat.le_of_ble_eq_true (by kernel_rfl)) ?_
    intro opsR QR Hops HQrg hS
    iterate 14
     apply rg_p; exact Hops; exact rfl; exact hS; exact rfl
     · intro _ hqc; go_simp; try rfl
     try simp only [pu]
    iterate 10
     refine rg_yn Hops rfl hS rfl rfl rfl rfl rfl ?_
     try simp only [pu]
    iterate 2
     apply rg_p; exact Hops; exact rfl; exact hS; exact rfl
     · intro _ hqc; go_simp; try rfl
     try simp only [pu]
    iterate 23
     apply rg_g; exact Hops; exact rfl; exact hS; iterate 4 exact rfl
     · intro _ hqc; go_simp; try rfl
     try simp only [pu]
    refine rg_call (i := 49) (get_of Hops rfl) (fun K hK => ?_)
    have HSrg := Lib.hid hS; clear hS
    refine rg_run (wanted_yes rfl (get_of Hops rfl) rfl rfl) ?_
    go_simp
    refine (HJ.out _ (bT (bT HB.out Hb2.out) HSrg.out)).mono ?_
    rintro e wr1 ⟨rfl, hbr1⟩
    have hS : Since wr wr1 := bT (w := wr) HSrg.out hbr1
    clear HSrg
    refine hK.out _ _ hS (fun _ => ?_)
    clear hK K
    try simp only [pu]
    iterate 2
     apply rg_g; exact Hops; exact rfl; exact hS; iterate 4 exact rfl
     · intro _ hqc; go_simp; try rfl
     try simp only [pu]
    apply rg_p; exact Hops; exact rfl; exact hS; exact rfl
    · intro _ hqc; go_simp; try rfl
    try simp only [pu]
    refine rg_done ?_
    refine HQrg.down _ _ ?_
    have hB : Below wr.heap.size wr wr1 := hS
    clear hS HQrg Hops
    have B3 : Below w1.heap.size w1 wr1 := bT Hb2.out hB
    cases ha : joinedS p sl[k].1 sl[i].1
    case false =>
     have hf := Lib.hid (HG.out i k hki hlt (Hpr.out.trans ha))
     clear ha
     go_wp2_with fail
     go_ret
     exact ⟨ret_bool hf.out.symm, bT HB.out B3⟩
    case true =>
     have hg := Lib.hid (Hpr.out.trans ha)
     clear ha
     go_wp2_with fail
     go_roundw
     case rel => exact ⟨k + 1, by omega, by go_num, B3, all_succ (p := fun x => pairR p x.1 sl[i].1 = true) Hn3.out hkl hg.out⟩
     case measure => simp [intOf]; omega
end Go.Proofs.YtfondidmklmonaaGreat
