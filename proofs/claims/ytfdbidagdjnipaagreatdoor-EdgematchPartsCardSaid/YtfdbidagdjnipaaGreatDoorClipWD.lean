/- cut.Clip$1 (limit), where 'at' is Clip$2. -/
import Derived.Test.YtfdbidagdjnipaaGreatDoorJ21
set_option linter.unusedSimpArgs false
set_option linter.unusedVariables false
namespace Go.Proofs.YtfdbidagdjnipaaGreatDoor
open Go.RowKit

/-- the three boxes that 'limit' reads and writes -/
structure ClB (w : World) (g5 g6 g7 : Nat) (st : ClS) : Prop where
 ok : Blk w g5 4 #[.bool st.ok]
 first : Blk w g6 169 (plB st.first)
 last : Blk w g7 169 (plB st.last)
theorem ClB.keep {w w' : World} {g5 g6 g7 : Nat} {st : ClS} (h : ClB w g5 g6 g7 st) (hb : Below w.heap.size w w') : ClB w' g5 g6 g7 st := ⟨h.ok.keep hb, h.first.keep hb, h.last.keep hb⟩
structure ClSm (st : ClS) : Prop where
 f1 : sm23 st.first.n
 f2 : sm23 st.first.d
 l1 : sm23 st.last.n
 l2 : sm23 st.last.d
theorem reach_sm {s u v : Int} (hu : sm23 u) : sm23 (reachS s u v).1.1 ∧ sm23 (reachS s u v).1.2 := by
 unfold reachS sm23 at *
 split
 · split <;> constructor <;> simp only <;> omega
 · split <;> constructor <;> simp only <;> omega
theorem reach_in {s u v : Int} (h : (reachS s u v).2 = true) : min s (s + u) ≤ v ∧ v ≤ max s (s + u) := by
 unfold reachS at h
 split at h
 · assumption
 · split at h <;> simp at h
theorem enter_sm {f : Plc} {ok : Bool} {rn rd : Int} {rin : Bool} {q : Pt} {st1 : Plc × Bool} (hf : sm23 f.n ∧ sm23 f.d) (hr : sm23 rn ∧ sm23 rd) (h : clEnter f ok ((rn, rd), rin) q = st1) : sm23 st1.1.n ∧ sm23 st1.1.d := by
 subst h
 unfold clEnter
 split
 ·
  split
  · exact hr
  · exact hf
 · exact hf
/-- what a call of 'limit' leaves -/
def RetLim (w : World) (B g5 g6 g7 : Nat) (st : ClS) (e : Ending) (w' : World) : Prop :=
 e = .returned (.tuple #[]) ∧ ClB w' g5 g6 g7 st ∧ Below B w w' ∧ ∀ g t cs, Blk w g t cs → g ≠ g5 → g ≠ g6 → g ≠ g7 → Blk w' g t cs
set_option maxRecDepth 100000 in
set_option maxHeartbeats 8000000 in
theorem limz2_spec (a b : Pt) (s u f t : Int) (st : ClS) (B g3 g4 g5 g6 g7 : Nat) (w : World) (hst : ClB w g5 g6 g7 st)
  (b5 : B ≤ g5) (n56 : g5 ≠ g6) (n57 : g5 ≠ g7) (hz : u = 0 ∨ t < f) :
  Calls Tryz.prog 118 #[.int .i64 s, .int .i64 u, .int .i64 f, .int .i64 t, .func (.func 121) #[] #[.pointer (some ⟨g3, 0, none⟩), .pointer (some ⟨g4, 0, none⟩)], .pointer (some ⟨g5, 0, none⟩), .pointer (some ⟨g6, 0, none⟩), .pointer (some ⟨g7, 0, none⟩)] w
   (RetLim w B g5 g6 g7 (limitS st s u f t (atX a b))) := by
 obtain ⟨x5, x6, x7⟩ := hst
 unfold plB at x6 x7
 have HX5 := Lib.hid x5; have HX6 := Lib.hid x6; have HX7 := Lib.hid x7
 have X5 := x5
 clear x5 x6 x7
 have hr : limitS st s u f t (atX a b) = ⟨st.first, st.last, st.ok && (decide (f ≤ s) && decide (s ≤ t))⟩ := by unfold limitS; rw [if_pos hz]
 rw [hr]
 clear hr
 obtain ⟨X5l, X5a, X5fa⟩ := X5.facts1
 obtain ⟨ok, hok⟩ : ∃ ok, st.ok = ok := ⟨_, rfl⟩
 rw [hok] at X5 X5a ⊢
 have HOk := Lib.hid hok
 obtain ⟨z0, hz0⟩ : ∃ z0, (ok && (decide (f ≤ s) && decide (s ≤ t))) = z0 := ⟨_, rfl⟩
 rw [hz0]
 have HZ := Lib.hid hz0
 have HFin := Lib.hid (show RetLim w B g5 g6 g7 ⟨st.first, st.last, z0⟩ (.returned (.tuple #[])) (w.setCell ⟨g5, 0, none⟩ (.bool z0)) from
  ⟨rfl, ⟨Blk.put1 HX5.out, HX6.out.far (fun e => n56 e.symm) _, HX7.out.far (fun e => n57 e.symm) _⟩, (Below.refl _ _ |>.mono (Nat.le_refl _)).setCell b5 _, fun g ty cs h e5 _ _ => h.far e5 _⟩)
 clear hz0
 clear hok HX5 HX6 HX7
 go_enter Tryz.func118, Tryz.ntmps118
 by_cases h0 : u = 0
 ·
  subst h0
  clear hz
  cases ok
  ·
   obtain rfl : z0 = false := by rw [← HZ.out]; rfl
   go_wp2_with fail
   exact bodyPost_end (v := .tuple #[]) (results_none rfl _ _ _) rfl HFin.out
  ·
   by_cases c1 : f ≤ s
   ·
    by_cases c2 : s ≤ t
    ·
     obtain rfl : z0 = true := by rw [← HZ.out]; simp [c1, c2]
     go_wp2_with fail
     exact bodyPost_end (v := .tuple #[]) (results_none rfl _ _ _) rfl HFin.out
    ·
     obtain rfl : z0 = false := by rw [← HZ.out]; simp [c2]
     go_wp2_with fail
     exact bodyPost_end (v := .tuple #[]) (results_none rfl _ _ _) rfl HFin.out
   ·
    obtain rfl : z0 = false := by rw [← HZ.out]; simp [c1]
    go_wp2_with fail
    exact bodyPost_end (v := .tuple #[]) (results_none rfl _ _ _) rfl HFin.out
 ·
  have e0 : (u == 0) = false := by simpa using h0
  have c0 : t < f := hz.resolve_left h0
  clear hz h0
  cases ok
  ·
   obtain rfl : z0 = false := by rw [← HZ.out]; rfl
   go_wp2_with fail
   exact bodyPost_end (v := .tuple #[]) (results_none rfl _ _ _) rfl HFin.out
  ·
   by_cases c1 : f ≤ s
   ·
    have c2 : ¬ s ≤ t := by omega
    obtain rfl : z0 = false := by rw [← HZ.out]; simp [c2]
    go_wp2_with fail
    exact bodyPost_end (v := .tuple #[]) (results_none rfl _ _ _) rfl HFin.out
   ·
    obtain rfl : z0 = false := by rw [← HZ.out]; simp [c1]
    go_wp2_with fail
    exact bodyPost_end (v := .tuple #[]) (results_none rfl _ _ _) rfl HFin.out
set_option maxRecDepth 100000 in
set_option maxHeartbeats 8000000 in
theorem lim2_spec (a b : Pt) (s u f t : Int) (st : ClS) (B g3 g4 g5 g6 g7 : Nat) (w : World) (hB : B ≤ w.heap.size) (hst : ClB w g5 g6 g7 st) (hsm : ClSm st) (h3 : Blk w g3 28 #[.int .i64 a.x, .int .i64 a.y]) (h4 : Blk w g4 28 #[.int .i64 b.x, .int .i64 b.y])
  (hs : sm23 s) (hu : sm23 u) (hf : sm23 f) (ht : sm23 t) (b5 : B ≤ g5) (b6 : B ≤ g6) (b7 : B ≤ g7) (n56 : g5 ≠ g6) (n57 : g5 ≠ g7) (n67 : g6 ≠ g7) (n3 : g3 ≠ g5 ∧ g3 ≠ g6 ∧ g3 ≠ g7) (n4 : g4 ≠ g5 ∧ g4 ≠ g6 ∧ g4 ≠ g7)
  (hat : ∀ v, min s (s + u) ≤ v ∧ v ≤ max s (s + u) → AtX a b v) (hz1 : u ≠ 0) (hz2 : f ≤ t) :
  Calls Tryz.prog 118 #[.int .i64 s, .int .i64 u, .int .i64 f, .int .i64 t, .func (.func 121) #[] #[.pointer (some ⟨g3, 0, none⟩), .pointer (some ⟨g4, 0, none⟩)], .pointer (some ⟨g5, 0, none⟩), .pointer (some ⟨g6, 0, none⟩), .pointer (some ⟨g7, 0, none⟩)] w
   (RetLim w B g5 g6 g7 (limitS st s u f t (atX a b))) := by
 obtain ⟨en, hen⟩ : ∃ en, (if u < 0 then t else f) = en := ⟨_, rfl⟩
 obtain ⟨lv, hlv⟩ : ∃ lv, (if u < 0 then f else t) = lv := ⟨_, rfl⟩
 have se : sm23 en := by rw [← hen]; split <;> assumption
 have sl : sm23 lv := by rw [← hlv]; split <;> assumption
 have hR : limitS st s u f t (atX a b) = ⟨(clEnter st.first st.ok (reachS s u en) (atX a b en)).1, (clLeave st.last (clEnter st.first st.ok (reachS s u en) (atX a b en)).2 (reachS s u lv) (atX a b lv)).1, (clLeave st.last (clEnter st.first st.ok (reachS s u en) (atX a b en)).2 (reachS s u lv) (atX a b lv)).2⟩ := by
  unfold limitS; rw [if_neg (by omega), hen, hlv]
 rw [hR]
 clear hR
 obtain ⟨p1, p2⟩ := reach_sm (s := s) (v := en) hu
 obtain ⟨p3, p4⟩ := reach_sm (s := s) (v := lv) hu
 have HA1 := Lib.hid (fun h W x3 x4 => at2_spec a b en g3 g4 W x3 x4 (hat en (reach_in (s := s) (u := u) h)))
 have HA2 := Lib.hid (fun h W x3 x4 => at2_spec a b lv g3 g4 W x3 x4 (hat lv (reach_in (s := s) (u := u) h)))
 have HR1 := Lib.hid (fun W => reach_spec s u en W hs hu se)
 have HR2 := Lib.hid (fun W => reach_spec s u lv W hs hu sl)
 obtain ⟨⟨⟨rn, rd⟩, rin⟩, hr1⟩ : ∃ r1, reachS s u en = r1 := ⟨_, rfl⟩
 obtain ⟨⟨⟨qn, qd⟩, qin⟩, hr2⟩ : ∃ r2, reachS s u lv = r2 := ⟨_, rfl⟩
 rw [hr1] at HA1 HR1 p1 p2
 rw [hr2] at HA2 HR2 p3 p4
 rw [hr1, hr2]
 obtain ⟨q1, hq1⟩ : ∃ q, atX a b en = q := ⟨_, rfl⟩
 obtain ⟨q2, hq2⟩ : ∃ q, atX a b lv = q := ⟨_, rfl⟩
 rw [hq1] at HA1
 rw [hq2] at HA2
 rw [hq1, hq2]
 obtain ⟨st1, hst1⟩ : ∃ st1, clEnter st.first st.ok ((rn, rd), rin) q1 = st1 := ⟨_, rfl⟩
 rw [hst1]
 obtain ⟨st1f, st1o⟩ := st1
 dsimp only
 obtain ⟨⟨st2f, st2o⟩, hst2⟩ : ∃ st2, clLeave st.last st1o ((qn, qd), qin) q2 = st2 := ⟨_, rfl⟩
 rw [hst2]
 dsimp only
 have HS1 := Lib.hid hst1
 have HS2 := Lib.hid hst2
 clear hst2
 have HEn := Lib.hid hen; have HLv := Lib.hid hlv
 have HSt := Lib.hid hst; have HSm := Lib.hid hsm; have HX3 := Lib.hid h3; have HX4 := Lib.hid h4
 have e0 : (u == 0) = false := by simpa using hz1
 have c0 : ¬ t < f := by omega
 clear hq1 hq2 hst1 hr1 hr2 hen hlv hst hsm h3 h4 hat se sl hz1 hz2 hs hf ht
 go_enter Tryz.func118, Tryz.ntmps118
 go_upto_if 40 with fail
 go_cut [13, 14] (fun x y wx => x = .int .i64 en ∧ y = .int .i64 lv ∧ wx = w)
 case first =>
  by_cases hu0 : u < 0
  ·
   have e1 := Lib.hid (show t = en by rw [← HEn.out, if_pos hu0])
   have e2 := Lib.hid (show f = lv by rw [← HLv.out, if_pos hu0])
   go_wp2_with fail
   go_meet
   case rel => exact ⟨by rw [e1.out], by rw [e2.out], rfl⟩
  ·
   have e1 := Lib.hid (show f = en by rw [← HEn.out, if_neg hu0])
   have e2 := Lib.hid (show t = lv by rw [← HLv.out, if_neg hu0])
   go_wp2_with fail
   go_meet
   case rel => exact ⟨by rw [e1.out], by rw [e2.out], rfl⟩
 case rest =>
 obtain ⟨rfl, rfl, hw⟩ := hcut
 obtain rfl := hw.symm
 go_wp2_with fail
 refine (HR1.out _).mono ?_
 rintro e w1 ⟨rfl, hb1⟩
 go_upto_if 51 with fail
 obtain ⟨W, hW⟩ : ∃ W : World, W = w1.alloc (.cells #[.int .i64 rn, .int .i64 rd, .int .i64 0, .int .i64 0] 169) := ⟨_, rfl⟩
 have hA : Below w1.heap.size w1 W := by rw [hW]; exact bA (bR w1) _
 have X8 : Blk W w1.heap.size 169 #[.int .i64 rn, .int .i64 rd, .int .i64 0, .int .i64 0] := by rw [hW]; exact Blk.made rfl _ _
 rw [← hW]
 clear hW
 have B1 : Below w.heap.size w W := bT hb1 hA
 have hg8 : w.heap.size ≤ w1.heap.size := hb1.size
 have HB1 := Lib.hid B1
 have HSt1 := Lib.hid (HSt.out.keep B1)
 have X3 := HX3.out.keep B1; have X4 := HX4.out.keep B1
 have l5 := HSt.out.ok.lt; have l6 := HSt.out.first.lt; have l7 := HSt.out.last.lt
 clear hA hb1
 obtain ⟨m1, m2, m3, m4⟩ := HSm.out
 go_cut [] (fun wx => ClB wx g5 g6 g7 ⟨st1f, st.last, st1o⟩ ∧ Below B w wx ∧ ∀ g t cs, Blk w g t cs → g ≠ g5 → g ≠ g6 → g ≠ g7 → Blk wx g t cs)
 case first =>
  cases rin
  ·
   have X5 := HSt1.out.ok
   obtain ⟨ok, hok⟩ : ∃ ok, st.ok = ok := ⟨_, rfl⟩
   have hs1 := HS1.out
   rw [hok] at X5 hs1
   unfold clEnter at hs1
   rw [if_neg (by simp)] at hs1
   obtain ⟨z, hz⟩ : ∃ z, (ok && decide (rn ≤ 0)) = z := ⟨_, rfl⟩
   simp only [hz] at hs1
   obtain ⟨e1, e2⟩ := Prod.mk.inj hs1
   have HFin : Hid (ClB (W.setCell ⟨g5, 0, none⟩ (.bool z)) g5 g6 g7 ⟨st1f, st.last, st1o⟩ ∧ Below B w (W.setCell ⟨g5, 0, none⟩ (.bool z)) ∧ ∀ g t cs, Blk w g t cs → g ≠ g5 → g ≠ g6 → g ≠ g7 → Blk (W.setCell ⟨g5, 0, none⟩ (.bool z)) g t cs) := Lib.hid (by
    rw [← e1, ← e2]
    exact ⟨⟨Blk.put1 HSt1.out.ok, HSt1.out.first.far (fun e => n56 e.symm) _, HSt1.out.last.far (fun e => n57 e.symm) _⟩, (B1.mono hB).setCell b5 _, fun g ty cs h k5 _ _ => (h.keep B1).far k5 _⟩)
   have HZ := Lib.hid hz
   clear hs1 e1 e2 hok hz X3 X4 B1 HS1
   obtain ⟨X5l, X5a, X5fa⟩ := X5.facts1
   obtain ⟨X8l, X8a, X8b, X8c, X8d, X8fa, X8fb, X8fc, X8fd⟩ := X8.facts4
   cases ok
   ·
    obtain rfl : z = false := by rw [← HZ.out]; rfl
    go_wp2_with fail
    go_meet
    case rel => exact HFin.out
   ·
    by_cases c1 : rn ≤ 0
    ·
     obtain rfl : z = true := by rw [← HZ.out]; simp [c1]
     go_wp2_with fail
     go_meet
     case rel => exact HFin.out
    ·
     obtain rfl : z = false := by rw [← HZ.out]; simp [c1]
     go_wp2_with fail
     go_meet
     case rel => exact HFin.out
  ·
   have X6 := HSt1.out.first
   have HLs := Lib.hid (fun W' => less_spec st.first ⟨rn, rd, ⟨0, 0⟩⟩ W' m1 m2 p1 p2)
   unfold plV at HLs
   unfold plB at X6
   have hs1 := HS1.out
   unfold clEnter at hs1
   rw [if_pos (by simp)] at hs1
   obtain ⟨lb, hlb⟩ : ∃ lb, decide (st.first.n * rd < rn * st.first.d) = lb := ⟨_, rfl⟩
   simp only [hlb] at HLs
   have HS1' := Lib.hid hs1
   have HLb := Lib.hid hlb
   clear hs1 hlb HS1 m1 m2 m3 m4
   obtain ⟨X6l, X6a, X6b, X6c, X6d, X6fa, X6fb, X6fc, X6fd⟩ := X6.facts4
   try clear X8l
   try clear X8a
   try clear X8b
   try clear X8c
   try clear X8d
   try clear X8fa
   try clear X8fb
   try clear X8fc
   try clear X8fd
   obtain ⟨X8l, X8a, X8b, X8c, X8d, X8fa, X8fb, X8fc, X8fd⟩ := X8.facts4
   go_wp2_with fail
   refine (HLs.out _).mono ?_
   rintro e w2 ⟨rfl, hb2⟩
   cases lb
   ·
    go_wp2_with fail
    go_meet
    case rel =>
     have hs1 := HS1'.out
     rw [if_neg (by have := HLb.out; simpa using this)] at hs1
     obtain ⟨e1, e2⟩ := Prod.mk.inj hs1
     rw [← e1, ← e2]
     exact ⟨HSt1.out.keep hb2, (bT HB1.out hb2).mono hB, fun g ty cs h _ _ _ => h.keep (bT HB1.out hb2)⟩
   ·
    replace X3 := X3.keep hb2; replace X4 := X4.keep hb2
    replace X6 := X6.keep hb2; replace X8 := X8.keep hb2
    have X5 := HSt1.out.ok.keep hb2; have X7 := HSt1.out.last.keep hb2
    have B2 := Lib.hid (bT HB1.out hb2)
    clear hb2 B1
    try clear X6l
    try clear X6a
    try clear X6b
    try clear X6c
    try clear X6d
    try clear X6fa
    try clear X6fb
    try clear X6fc
    try clear X6fd
    obtain ⟨X6l, X6a, X6b, X6c, X6d, X6fa, X6fb, X6fc, X6fd⟩ := X6.facts4
    try clear X8l
    try clear X8a
    try clear X8b
    try clear X8c
    try clear X8d
    try clear X8fa
    try clear X8fb
    try clear X8fc
    try clear X8fd
    obtain ⟨X8l, X8a, X8b, X8c, X8d, X8fa, X8fb, X8fc, X8fd⟩ := X8.facts4
    go_wp2_with fail
    refine (HA1.out (by trivial) _ X3 X4).mono ?_
    rintro e w3 ⟨rfl, hb3⟩
    replace X6 := X6.keep hb3; replace X8 := X8.keep hb3; replace X5 := X5.keep hb3; replace X7 := X7.keep hb3
    replace B2 := Lib.hid (bT B2.out hb3)
    clear hb3 X3 X4
    unfold ptV
    try clear X6l
    try clear X6a
    try clear X6b
    try clear X6c
    try clear X6d
    try clear X6fa
    try clear X6fb
    try clear X6fc
    try clear X6fd
    obtain ⟨X6l, X6a, X6b, X6c, X6d, X6fa, X6fb, X6fc, X6fd⟩ := X6.facts4
    try clear X8l
    try clear X8a
    try clear X8b
    try clear X8c
    try clear X8d
    try clear X8fa
    try clear X8fb
    try clear X8fc
    try clear X8fd
    obtain ⟨X8l, X8a, X8b, X8c, X8d, X8fa, X8fb, X8fc, X8fd⟩ := X8.facts4
    go_wp2_with fail
    go_meet
    case rel =>
     have hs1 := HS1'.out
     rw [if_pos (by have := HLb.out; simpa using this)] at hs1
     obtain ⟨e1, e2⟩ := Prod.mk.inj hs1
     rw [← e1, ← e2]
     refine ⟨⟨?_, ?_, ?_⟩, ?_, ?_⟩
     · exact (((((X5.far (by first | omega | (simp; done) | (simp; omega)) _).far (by first | omega | (simp; done) | (simp; omega)) _).far (by first | omega | (simp; done) | (simp; omega)) _).far (by first | omega | (simp; done) | (simp; omega)) _).far (by first | omega | (simp; done) | (simp; omega)) _).far (by first | omega | (simp; done) | (simp; omega)) _
     · exact Blk.put4 ((X6.far (by first | omega | (simp; done) | (simp; omega)) _).far (by first | omega | (simp; done) | (simp; omega)) _)
     · exact (((((X7.far (by first | omega | (simp; done) | (simp; omega)) _).far (by first | omega | (simp; done) | (simp; omega)) _).far (by first | omega | (simp; done) | (simp; omega)) _).far (by first | omega | (simp; done) | (simp; omega)) _).far (by first | omega | (simp; done) | (simp; omega)) _).far (by first | omega | (simp; done) | (simp; omega)) _
     · exact ((((((B2.out.mono hB).setCell (p := ⟨w1.heap.size, 2, none⟩) (by simp; omega) _).setCell (p := ⟨w1.heap.size, 3, none⟩) (by simp; omega) _).setCell (p := ⟨g6, 0, none⟩) b6 _).setCell (p := ⟨g6, 1, none⟩) b6 _).setCell (p := ⟨g6, 2, none⟩) b6 _).setCell (p := ⟨g6, 3, none⟩) b6 _
     ·
      intro g ty cs h k5 k6 k7
      have hl := h.lt
      exact ((((((h.keep B2.out).far (by first | omega | (simp; done) | (simp; omega)) _).far (by first | omega | (simp; done) | (simp; omega)) _).far (by first | omega | (simp; done) | (simp; omega)) _).far (by first | omega | (simp; done) | (simp; omega)) _).far (by first | omega | (simp; done) | (simp; omega)) _).far (by first | omega | (simp; done) | (simp; omega)) _
 case rest =>
 obtain ⟨hc1, hc2, hc3⟩ := hcut
 clear X3 X4 X8 B1
 have HSm1 := Lib.hid (enter_sm (f := st.first) (ok := st.ok) (q := q1) ⟨m1, m2⟩ ⟨p1, p2⟩ HS1.out)
 have HC1 := Lib.hid hc1; have HC2 := Lib.hid hc2; have HC3 := Lib.hid hc3
 have g3n := n3; have g4n := n4
 have hX3 := hc3 g3 _ _ HX3.out n3.1 n3.2.1 n3.2.2
 have hX4 := hc3 g4 _ _ HX4.out n4.1 n4.2.1 n4.2.2
 simp only at HSm1
 have l5' := hc1.ok.lt; have l6' := hc1.first.lt; have l7' := hc1.last.lt
 have hszc := hc2.size
 clear hc1 hc2 hc3
 go_wp2_with fail
 refine (HR2.out _).mono ?_
 rintro e w4 ⟨rfl, hb4⟩
 go_upto_if 74 with fail
 obtain ⟨W2, hW2⟩ : ∃ W2 : World, W2 = w4.alloc (.cells #[.int .i64 qn, .int .i64 qd, .int .i64 0, .int .i64 0] 169) := ⟨_, rfl⟩
 have hA : Below w4.heap.size w4 W2 := by rw [hW2]; exact bA (bR w4) _
 have X9 : Blk W2 w4.heap.size 169 #[.int .i64 qn, .int .i64 qd, .int .i64 0, .int .i64 0] := by rw [hW2]; exact Blk.made rfl _ _
 rw [← hW2]
 clear hW2
 have B4 : Below wc.heap.size wc W2 := bT hb4 hA
 have hg9 : wc.heap.size ≤ w4.heap.size := hb4.size
 have HB4 := Lib.hid B4
 have HSt4 := Lib.hid (HC1.out.keep B4)
 have X3 := hX3.keep B4; have X4 := hX4.keep B4
 have HBB : Hid (Below B w W2) := Lib.hid (HC2.out.trans (B4.mono (Nat.le_trans hB hszc)))
 have HKK : Hid (∀ g ty cs, Blk w g ty cs → g ≠ g5 → g ≠ g6 → g ≠ g7 → Blk W2 g ty cs) := Lib.hid (fun g ty cs h k5 k6 k7 => (HC3.out g ty cs h k5 k6 k7).keep B4)
 clear hA hb4 B4 hX3 hX4
 cases qin
 ·
  have X5 := HSt4.out.ok
  obtain ⟨z, hz⟩ : ∃ z, (st1o && decide (0 < qn)) = z := ⟨_, rfl⟩
  have hs2 : (st.last, z) = (st2f, st2o) := by rw [← HS2.out]; unfold clLeave; rw [if_neg (by simp), ← hz]
  obtain ⟨e1, e2⟩ := Prod.mk.inj hs2
  clear hs2
  have HFin : Hid (RetLim w B g5 g6 g7 ⟨st1f, st2f, st2o⟩ (.returned (.tuple #[])) (W2.setCell ⟨g5, 0, none⟩ (.bool z))) := Lib.hid (by
   rw [← e1, ← e2]
   exact ⟨rfl, ⟨Blk.put1 HSt4.out.ok, HSt4.out.first.far (fun e => n56 e.symm) _, HSt4.out.last.far (fun e => n57 e.symm) _⟩, HBB.out.setCell b5 _, fun g ty cs h k5 k6 k7 => (HKK.out g ty cs h k5 k6 k7).far k5 _⟩)
  clear e1 e2
  have HZ := Lib.hid hz
  clear hz X3 X4 HS1
  try clear X5l
  try clear X5a
  try clear X5fa
  obtain ⟨X5l, X5a, X5fa⟩ := X5.facts1
  obtain ⟨X9l, X9a, X9b, X9c, X9d, X9fa, X9fb, X9fc, X9fd⟩ := X9.facts4
  cases st1o
  ·
   obtain rfl : z = false := by rw [← HZ.out]; rfl
   go_wp2_with fail
   exact bodyPost_end (v := .tuple #[]) (results_none rfl _ _ _) rfl HFin.out
  ·
   by_cases c1 : 0 < qn
   ·
    obtain rfl : z = true := by rw [← HZ.out]; simp [c1]
    go_wp2_with fail
    exact bodyPost_end (v := .tuple #[]) (results_none rfl _ _ _) rfl HFin.out
   ·
    obtain rfl : z = false := by rw [← HZ.out]; simp [c1]
    go_wp2_with fail
    exact bodyPost_end (v := .tuple #[]) (results_none rfl _ _ _) rfl HFin.out
 ·
  have X7 := HSt4.out.last
  have HLs := Lib.hid (fun W' => less_spec ⟨qn, qd, ⟨0, 0⟩⟩ st.last W' p3 p4 m3 m4)
  unfold plV at HLs
  unfold plB at X7
  obtain ⟨lb, hlb⟩ : ∃ lb, decide (qn * st.last.d < st.last.n * qd) = lb := ⟨_, rfl⟩
  simp only [hlb] at HLs
  have HLb := Lib.hid hlb
  clear hlb HS1 m1 m2 m3 m4 p1 p2 p3 p4
  obtain ⟨X7l, X7a, X7b, X7c, X7d, X7fa, X7fb, X7fc, X7fd⟩ := X7.facts4
  try clear X9l
  try clear X9a
  try clear X9b
  try clear X9c
  try clear X9d
  try clear X9fa
  try clear X9fb
  try clear X9fc
  try clear X9fd
  obtain ⟨X9l, X9a, X9b, X9c, X9d, X9fa, X9fb, X9fc, X9fd⟩ := X9.facts4
  go_wp2_with fail
  refine (HLs.out _).mono ?_
  rintro e w5 ⟨rfl, hb5⟩
  cases lb
  ·
   have hs2 : (st.last, st1o) = (st2f, st2o) := by
    rw [← HS2.out]; unfold clLeave; rw [if_pos (by simp), if_neg (by have := HLb.out; simpa using this)]
   obtain ⟨e1, e2⟩ := Prod.mk.inj hs2
   clear hs2
   have HFin : Hid (RetLim w B g5 g6 g7 ⟨st1f, st2f, st2o⟩ (.returned (.tuple #[])) w5) := Lib.hid (by
    rw [← e1, ← e2]
    exact ⟨rfl, HSt4.out.keep hb5, HBB.out.trans (hb5.mono (by have := HBB.out.size; omega)), fun g ty cs h k5 k6 k7 => (HKK.out g ty cs h k5 k6 k7).keep hb5⟩)
   clear e1 e2
   go_wp2_with fail
   exact bodyPost_end (v := .tuple #[]) (results_none rfl _ _ _) rfl HFin.out
  ·
   have hs2 : (⟨qn, qd, q2⟩, st1o) = (st2f, st2o) := by
    rw [← HS2.out]; unfold clLeave; rw [if_pos (by simp), if_pos (by have := HLb.out; simpa using this)]
   obtain ⟨e1, e2⟩ := Prod.mk.inj hs2
   clear hs2
   have HE1 := Lib.hid e1; have HE2 := Lib.hid e2
   clear e1 e2
   replace X3 := X3.keep hb5; replace X4 := X4.keep hb5
   replace X7 := X7.keep hb5; replace X9 := X9.keep hb5
   have X5 := HSt4.out.ok.keep hb5; have X6 := HSt4.out.first.keep hb5
   replace HBB : Hid (Below B w w5) := Lib.hid (HBB.out.trans (hb5.mono (by have := HBB.out.size; omega)))
   replace HKK : Hid (∀ g ty cs, Blk w g ty cs → g ≠ g5 → g ≠ g6 → g ≠ g7 → Blk w5 g ty cs) := Lib.hid (fun g ty cs h k5 k6 k7 => (HKK.out g ty cs h k5 k6 k7).keep hb5)
   clear hb5
   try clear X7l
   try clear X7a
   try clear X7b
   try clear X7c
   try clear X7d
   try clear X7fa
   try clear X7fb
   try clear X7fc
   try clear X7fd
   obtain ⟨X7l, X7a, X7b, X7c, X7d, X7fa, X7fb, X7fc, X7fd⟩ := X7.facts4
   try clear X9l
   try clear X9a
   try clear X9b
   try clear X9c
   try clear X9d
   try clear X9fa
   try clear X9fb
   try clear X9fc
   try clear X9fd
   obtain ⟨X9l, X9a, X9b, X9c, X9d, X9fa, X9fb, X9fc, X9fd⟩ := X9.facts4
   go_wp2_with fail
   refine (HA2.out (by trivial) _ X3 X4).mono ?_
   rintro e w6 ⟨rfl, hb6⟩
   replace X6 := X6.keep hb6; replace X9 := X9.keep hb6; replace X5 := X5.keep hb6; replace X7 := X7.keep hb6
   replace HBB : Hid (Below B w w6) := Lib.hid (HBB.out.trans (hb6.mono (by have := HBB.out.size; omega)))
   replace HKK : Hid (∀ g ty cs, Blk w g ty cs → g ≠ g5 → g ≠ g6 → g ≠ g7 → Blk w6 g ty cs) := Lib.hid (fun g ty cs h k5 k6 k7 => (HKK.out g ty cs h k5 k6 k7).keep hb6)
   clear hb6 X3 X4
   unfold ptV
   try clear X7l
   try clear X7a
   try clear X7b
   try clear X7c
   try clear X7d
   try clear X7fa
   try clear X7fb
   try clear X7fc
   try clear X7fd
   obtain ⟨X7l, X7a, X7b, X7c, X7d, X7fa, X7fb, X7fc, X7fd⟩ := X7.facts4
   try clear X9l
   try clear X9a
   try clear X9b
   try clear X9c
   try clear X9d
   try clear X9fa
   try clear X9fb
   try clear X9fc
   try clear X9fd
   obtain ⟨X9l, X9a, X9b, X9c, X9d, X9fa, X9fb, X9fc, X9fd⟩ := X9.facts4
   go_wp2_with fail
   rw [← HE1.out, ← HE2.out]
   refine bodyPost_end (v := .tuple #[]) (results_none rfl _ _ _) rfl ⟨rfl, ⟨?_, ?_, ?_⟩, ?_, ?_⟩
   · exact (((((X5.far (by first | omega | (simp; done) | (simp; omega)) _).far (by first | omega | (simp; done) | (simp; omega)) _).far (by first | omega | (simp; done) | (simp; omega)) _).far (by first | omega | (simp; done) | (simp; omega)) _).far (by first | omega | (simp; done) | (simp; omega)) _).far (by first | omega | (simp; done) | (simp; omega)) _
   · exact (((((X6.far (by first | omega | (simp; done) | (simp; omega)) _).far (by first | omega | (simp; done) | (simp; omega)) _).far (by first | omega | (simp; done) | (simp; omega)) _).far (by first | omega | (simp; done) | (simp; omega)) _).far (by first | omega | (simp; done) | (simp; omega)) _).far (by first | omega | (simp; done) | (simp; omega)) _
   · exact Blk.put4 ((X7.far (by first | omega | (simp; done) | (simp; omega)) _).far (by first | omega | (simp; done) | (simp; omega)) _)
   · exact (((((HBB.out.setCell (p := ⟨w4.heap.size, 2, none⟩) (by simp; omega) _).setCell (p := ⟨w4.heap.size, 3, none⟩) (by simp; omega) _).setCell (p := ⟨g7, 0, none⟩) b7 _).setCell (p := ⟨g7, 1, none⟩) b7 _).setCell (p := ⟨g7, 2, none⟩) b7 _).setCell (p := ⟨g7, 3, none⟩) b7 _
   ·
    intro g ty cs h k5 k6 k7
    have hl := h.lt
    exact ((((((HKK.out g ty cs h k5 k6 k7).far (by first | omega | (simp; done) | (simp; omega)) _).far (by first | omega | (simp; done) | (simp; omega)) _).far (by first | omega | (simp; done) | (simp; omega)) _).far (by first | omega | (simp; done) | (simp; omega)) _).far (by first | omega | (simp; done) | (simp; omega)) _).far (by first | omega | (simp; done) | (simp; omega)) _
theorem limit2_spec (a b : Pt) (s u f t : Int) (st : ClS) (B g3 g4 g5 g6 g7 : Nat) (w : World) (hB : B ≤ w.heap.size) (hst : ClB w g5 g6 g7 st) (hsm : ClSm st) (h3 : Blk w g3 28 #[.int .i64 a.x, .int .i64 a.y]) (h4 : Blk w g4 28 #[.int .i64 b.x, .int .i64 b.y])
  (hs : sm23 s) (hu : sm23 u) (hf : sm23 f) (ht : sm23 t) (b5 : B ≤ g5) (b6 : B ≤ g6) (b7 : B ≤ g7) (n56 : g5 ≠ g6) (n57 : g5 ≠ g7) (n67 : g6 ≠ g7) (n3 : g3 ≠ g5 ∧ g3 ≠ g6 ∧ g3 ≠ g7) (n4 : g4 ≠ g5 ∧ g4 ≠ g6 ∧ g4 ≠ g7)
  (hat : u ≠ 0 → ∀ v, min s (s + u) ≤ v ∧ v ≤ max s (s + u) → AtX a b v) :
  Calls Tryz.prog 118 #[.int .i64 s, .int .i64 u, .int .i64 f, .int .i64 t, .func (.func 121) #[] #[.pointer (some ⟨g3, 0, none⟩), .pointer (some ⟨g4, 0, none⟩)], .pointer (some ⟨g5, 0, none⟩), .pointer (some ⟨g6, 0, none⟩), .pointer (some ⟨g7, 0, none⟩)] w
   (RetLim w B g5 g6 g7 (limitS st s u f t (atX a b))) := by
 by_cases hz : u = 0 ∨ t < f
 · exact limz2_spec a b s u f t st B g3 g4 g5 g6 g7 w hst b5 n56 n57 hz
 · exact lim2_spec a b s u f t st B g3 g4 g5 g6 g7 w hB hst hsm h3 h4 hs hu hf ht b5 b6 b7 n56 n57 n67 n3 n4 (hat (fun e => hz (.inl e))) (fun e => hz (.inl e)) (by omega)
end Go.Proofs.YtfdbidagdjnipaaGreatDoor
