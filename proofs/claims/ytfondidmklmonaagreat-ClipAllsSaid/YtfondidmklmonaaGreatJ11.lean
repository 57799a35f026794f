/- mapsheetsref14.joined, alone. mapsheetsref14.alone. mapsheetsref14.Segments. walk.Cycles: its closure 'follow'. -/
import Derived.Test.YtfondidmklmonaaGreatJ10
import Derived.Test.YtfondidmklmonaaGreatGB
import Derived.Test.YtfondidmklmonaaGreatJ07
import Derived.Test.YtfondidmklmonaaGreatJ06
set_option linter.unusedSimpArgs false
set_option linter.unusedVariables false
namespace Go.Proofs.YtfondidmklmonaaGreat
open Go.RowKit

def meetAt (s t : Sg) (x : Nd) : Bool := endsS s.arc x.id && endsS t.arc x.id && ronS s.a s.b x.pt && ronS t.a t.b x.pt
def joinedS (p : Pl) (s t : Sg) : Bool := if rmeetS s.a s.b t.a t.b = 1 then p.nodes.any (meetAt s t) else rmeetS s.a s.b t.a t.b == 0

set_option maxRecDepth 100000 in
set_option maxHeartbeats 2000000 in
theorem joined_spec (v : Value) (p : Pl) (s t : Sg) (A A' : Option Addr) (n n' c c' : Nat) (w : World) (h : PlV w v p) :
  Calls Tryz.prog 102 #[v, sgV s (.slice A n c), sgV t (.slice A' n' c')] w fun e w' => e = .returned (.bool (joinedS p s t)) ∧ Below w.heap.size w w' := by
 have TM : ∀ W, Calls Tryz.prog 132 #[ptV s.a, ptV s.b, ptV t.a, ptV t.b] W _ := fun W => RMeet_spec s.a s.b t.a t.b W
 have TE : ∀ (a : Ar) (A : Option Addr) (n c : Nat) (id : Int) W, Calls Tryz.prog 133 #[.agg #[.int .i64 a.id, .int .i64 a.fr, .int .i64 a.dst, .slice A n c, .int .i64 a.left, .int .i64 a.right], .int .i64 id] W _ := fun a A n c id W => ends_spec a A n c id W
 have TO : ∀ p q r : Pt, ∀ W, Calls Tryz.prog 131 #[ptV p, ptV q, ptV r] W _ := fun p q r W => ROn_spec p q r W
 unfold ptV at TM TO
 have HM := Lib.hid TM; clear TM
 have HE := Lib.hid TE; clear TE
 have HO := Lib.hid TO; clear TO
 obtain ⟨_, va, vf, al, rfl, -, ⟨An, cn, rfl, hn1, hn2, hR⟩, -, -⟩ := h
 unfold maxLen at hn2
 have HR := Lib.hid hR; clear hR
 unfold sgV
 obtain ⟨q, hq⟩ : ∃ q, joinedS p s t = q := ⟨_, rfl⟩
 rw [hq]
 unfold joinedS at hq
 generalize p.nodes = l at *
 have Hq := Lib.hid hq; clear hq
 go_enter Tryz.func102, Tryz.ntmps102
 go_wp2_with fail
 refine (HM.out _).mono ?_
 rintro e w1 ⟨rfl, hb1⟩
 have Bw : Below w.heap.size w w1 := by
  repeat (first | with_reducible exact bR _ | with_reducible assumption | with_reducible refine bA ?_ _ | with_reducible refine bD ?_ | with_reducible refine bN ?_ _ | ((with_reducible refine bS ?_ ?_ _); rotate_left; (simp; try omega)) | ((with_reducible refine bT ?_ ?_); rotate_left; with_reducible assumption) | with_reducible refine bT ?_ (by assumption))
 have X2 : Blk _ (w.heap.size) 26 #[.slice An l.length cn, va, vf] := Blk.keep (by repeat (first | exact Blk.made (by simp) _ _ | refine Blk.alloc ?_ _)) hb1
 have X3 : Blk _ (w.heap.size + 1) 134 #[.int .i64 s.arc.id, .int .i64 s.arc.fr, .int .i64 s.arc.dst, .slice A n c, .int .i64 s.arc.left, .int .i64 s.arc.right, .int .i64 s.i, .int .i64 s.n, .int .i64 s.a.x, .int .i64 s.a.y, .int .i64 s.b.x, .int .i64 s.b.y] := Blk.keep (by repeat (first | exact Blk.made (by simp) _ _ | refine Blk.alloc ?_ _)) hb1
 have X4 : Blk _ (w.heap.size + 1 + 1) 134 #[.int .i64 t.arc.id, .int .i64 t.arc.fr, .int .i64 t.arc.dst, .slice A' n' c', .int .i64 t.arc.left, .int .i64 t.arc.right, .int .i64 t.i, .int .i64 t.n, .int .i64 t.a.x, .int .i64 t.a.y, .int .i64 t.b.x, .int .i64 t.b.y] := Blk.keep (by repeat (first | exact Blk.made (by simp) _ _ | refine Blk.alloc ?_ _)) hb1
 clear hb1
 generalize rmeetS s.a s.b t.a t.b = m at *
 by_cases h1 : m = 1
 case neg =>
  have hf := Lib.hid (show (m == 0) = q by rw [← Hq.out, if_neg h1])
  have h1' : (m != 1) = true := by simpa using h1
  clear h1
  go_wp2_with fail
  go_ret
  exact ⟨ret_bool hf.out, Bw⟩
 subst h1
 have hf := Lib.hid (show l.any (meetAt s t) = q by rw [← Hq.out, if_pos rfl])
 clear Hq
 have HX2 := Lib.hid X2
 have HX3 := Lib.hid X3
 have HX4 := Lib.hid X4
 have HB := Lib.hid Bw
 clear X2 X3 X4 Bw
 go_wp2_with fail
 go_loopw [8] (fun i wr => ∃ k : Nat, k ≤ l.length ∧ i = .int .i64 k ∧ Below w1.heap.size w1 wr ∧ ∀ j (hj : j < l.length), j < k → meetAt s t l[j] = false) (fun i _ => l.length - (intOf i).toNat)
 case atStart => exact ⟨0, Nat.zero_le _, rfl, bR w1, fun j _ h => by omega⟩
 case round =>
  obtain ⟨k, hk, rfl, hb, hno⟩ := hrel
  have Hb := Lib.hid hb
  have Hno := Lib.hid hno
  have X2 := HX2.out.keep hb
  have X3 := HX3.out.keep hb
  have X4 := HX4.out.keep hb
  clear hb hno
  obtain ⟨X2l, X2a, X2b, X2c, -, -, -⟩ := X2.facts3
  obtain ⟨X3l, X3a, X3b, X3c, X3d, X3e, X3f, X3g, X3h, X3i, X3j, X3k, X3l, -, -, -, -, -, -, -, -, -, -, -, -⟩ := X3.facts12
  obtain ⟨X4l, X4a, X4b, X4c, X4d, X4e, X4f, X4g, X4h, X4i, X4j, X4k, X4l, -, -, -, -, -, -, -, -, -, -, -, -⟩ := X4.facts12
  by_cases hlt : k < l.length
  case neg =>
   have hg := Lib.hid (any_miss l (meetAt s t) (fun j hj => Hno.out j hj (by omega)))
   go_wp2_with fail
   go_ret
   exact ⟨ret_bool (by rw [← hf.out, hg.out]), bT HB.out Hb.out⟩
  obtain ⟨b, o, rfl, hlb, c0, c1, c2⟩ := (HR.out.mono (bT HB.out Hb.out)).nd hlt
  have hx := Lib.hid (show meetAt s t l[k] = (endsS s.arc l[k].id && endsS t.arc l[k].id && ronS s.a s.b l[k].pt && ronS t.a t.b l[k].pt) from rfl)
  go_wp2_with fail
  refine (HE.out _ _ _ _ _ _).mono ?_
  rintro e w2 ⟨rfl, hb2⟩
  have B2 : Below w1.heap.size w1 w2 := bT (bA Hb.out _) hb2
  have X5 : Blk w2 wr.heap.size 59 #[.int .i64 l[k].id, .int .i64 l[k].pt.x, .int .i64 l[k].pt.y] := (Blk.made rfl _ _).keep hb2
  replace X2 := (X2.alloc _).keep hb2
  replace X3 := (X3.alloc _).keep hb2
  replace X4 := (X4.alloc _).keep hb2
  clear hb2 c0 c1 c2 hlb
  try clear X2l
  try clear X2a
  try clear X2b
  try clear X2c
  obtain ⟨X2l, X2a, X2b, X2c, -, -, -⟩ := X2.facts3
  try clear X3l
  try clear X3a
  try clear X3b
  try clear X3c
  try clear X3d
  try clear X3e
  try clear X3f
  try clear X3g
  try clear X3h
  try clear X3i
  try clear X3j
  try clear X3k
  try clear X3l
  obtain ⟨X3l, X3a, X3b, X3c, X3d, X3e, X3f, X3g, X3h, X3i, X3j, X3k, X3l, -, -, -, -, -, -, -, -, -, -, -, -⟩ := X3.facts12
  try clear X4l
  try clear X4a
  try clear X4b
  try clear X4c
  try clear X4d
  try clear X4e
  try clear X4f
  try clear X4g
  try clear X4h
  try clear X4i
  try clear X4j
  try clear X4k
  try clear X4l
  obtain ⟨X4l, X4a, X4b, X4c, X4d, X4e, X4f, X4g, X4h, X4i, X4j, X4k, X4l, -, -, -, -, -, -, -, -, -, -, -, -⟩ := X4.facts12
  obtain ⟨X5l, X5a, X5b, X5c, -, -, -⟩ := X5.facts3
  cases e1 : endsS s.arc l[k].id
  case false =>
   have hy := Lib.hid (show meetAt s t l[k] = false by rw [hx.out, e1]; rfl)
   clear e1
   go_wp2_with fail
   go_roundw
   case rel => exact ⟨k + 1, by omega, by go_num, B2, all_succ (p := fun x => meetAt s t x = false) Hno.out hlt hy.out⟩
   case measure => simp [intOf]; omega
  have H1 := Lib.hid e1; clear e1
  go_wp2_with fail
  refine (HE.out _ _ _ _ _ _).mono ?_
  rintro e w3 ⟨rfl, hb3⟩
  replace B2 : Below w1.heap.size w1 w3 := bT B2 hb3
  replace X2 := X2.keep hb3
  replace X3 := X3.keep hb3
  replace X4 := X4.keep hb3
  replace X5 := X5.keep hb3
  clear hb3
  try clear X2l
  try clear X2a
  try clear X2b
  try clear X2c
  obtain ⟨X2l, X2a, X2b, X2c, -, -, -⟩ := X2.facts3
  try clear X3l
  try clear X3a
  try clear X3b
  try clear X3c
  try clear X3d
  try clear X3e
  try clear X3f
  try clear X3g
  try clear X3h
  try clear X3i
  try clear X3j
  try clear X3k
  try clear X3l
  obtain ⟨X3l, X3a, X3b, X3c, X3d, X3e, X3f, X3g, X3h, X3i, X3j, X3k, X3l, -, -, -, -, -, -, -, -, -, -, -, -⟩ := X3.facts12
  try clear X4l
  try clear X4a
  try clear X4b
  try clear X4c
  try clear X4d
  try clear X4e
  try clear X4f
  try clear X4g
  try clear X4h
  try clear X4i
  try clear X4j
  try clear X4k
  try clear X4l
  obtain ⟨X4l, X4a, X4b, X4c, X4d, X4e, X4f, X4g, X4h, X4i, X4j, X4k, X4l, -, -, -, -, -, -, -, -, -, -, -, -⟩ := X4.facts12
  try clear X5l
  try clear X5a
  try clear X5b
  try clear X5c
  obtain ⟨X5l, X5a, X5b, X5c, -, -, -⟩ := X5.facts3
  cases e2 : endsS t.arc l[k].id
  case false =>
   have hy := Lib.hid (show meetAt s t l[k] = false by rw [hx.out, e2]; simp)
   clear e2
   go_wp2_with fail
   go_roundw
   case rel => exact ⟨k + 1, by omega, by go_num, B2, all_succ (p := fun x => meetAt s t x = false) Hno.out hlt hy.out⟩
   case measure => simp [intOf]; omega
  have H2 := Lib.hid e2; clear e2
  go_wp2_with fail
  refine (HO.out s.a s.b l[k].pt _).mono ?_
  rintro e w4 ⟨rfl, hb4⟩
  replace B2 : Below w1.heap.size w1 w4 := bT B2 hb4
  replace X2 := X2.keep hb4
  replace X3 := X3.keep hb4
  replace X4 := X4.keep hb4
  replace X5 := X5.keep hb4
  clear hb4
  try clear X2l
  try clear X2a
  try clear X2b
  try clear X2c
  obtain ⟨X2l, X2a, X2b, X2c, -, -, -⟩ := X2.facts3
  try clear X3l
  try clear X3a
  try clear X3b
  try clear X3c
  try clear X3d
  try clear X3e
  try clear X3f
  try clear X3g
  try clear X3h
  try clear X3i
  try clear X3j
  try clear X3k
  try clear X3l
  obtain ⟨X3l, X3a, X3b, X3c, X3d, X3e, X3f, X3g, X3h, X3i, X3j, X3k, X3l, -, -, -, -, -, -, -, -, -, -, -, -⟩ := X3.facts12
  try clear X4l
  try clear X4a
  try clear X4b
  try clear X4c
  try clear X4d
  try clear X4e
  try clear X4f
  try clear X4g
  try clear X4h
  try clear X4i
  try clear X4j
  try clear X4k
  try clear X4l
  obtain ⟨X4l, X4a, X4b, X4c, X4d, X4e, X4f, X4g, X4h, X4i, X4j, X4k, X4l, -, -, -, -, -, -, -, -, -, -, -, -⟩ := X4.facts12
  try clear X5l
  try clear X5a
  try clear X5b
  try clear X5c
  obtain ⟨X5l, X5a, X5b, X5c, -, -, -⟩ := X5.facts3
  cases e3 : ronS s.a s.b l[k].pt
  case false =>
   have hy := Lib.hid (show meetAt s t l[k] = false by rw [hx.out, e3]; simp)
   clear e3
   go_wp2_with fail
   go_roundw
   case rel => exact ⟨k + 1, by omega, by go_num, B2, all_succ (p := fun x => meetAt s t x = false) Hno.out hlt hy.out⟩
   case measure => simp [intOf]; omega
  have H3 := Lib.hid e3; clear e3
  go_wp2_with fail
  refine (HO.out t.a t.b l[k].pt _).mono ?_
  rintro e w5 ⟨rfl, hb5⟩
  replace B2 : Below w1.heap.size w1 w5 := bT B2 hb5
  replace X2 := X2.keep hb5
  replace X3 := X3.keep hb5
  replace X4 := X4.keep hb5
  replace X5 := X5.keep hb5
  clear hb5
  try clear X2l
  try clear X2a
  try clear X2b
  try clear X2c
  obtain ⟨X2l, X2a, X2b, X2c, -, -, -⟩ := X2.facts3
  try clear X3l
  try clear X3a
  try clear X3b
  try clear X3c
  try clear X3d
  try clear X3e
  try clear X3f
  try clear X3g
  try clear X3h
  try clear X3i
  try clear X3j
  try clear X3k
  try clear X3l
  obtain ⟨X3l, X3a, X3b, X3c, X3d, X3e, X3f, X3g, X3h, X3i, X3j, X3k, X3l, -, -, -, -, -, -, -, -, -, -, -, -⟩ := X3.facts12
  try clear X4l
  try clear X4a
  try clear X4b
  try clear X4c
  try clear X4d
  try clear X4e
  try clear X4f
  try clear X4g
  try clear X4h
  try clear X4i
  try clear X4j
  try clear X4k
  try clear X4l
  obtain ⟨X4l, X4a, X4b, X4c, X4d, X4e, X4f, X4g, X4h, X4i, X4j, X4k, X4l, -, -, -, -, -, -, -, -, -, -, -, -⟩ := X4.facts12
  try clear X5l
  try clear X5a
  try clear X5b
  try clear X5c
  obtain ⟨X5l, X5a, X5b, X5c, -, -, -⟩ := X5.facts3
  cases e4 : ronS t.a t.b l[k].pt
  case false =>
   have hy := Lib.hid (show meetAt s t l[k] = false by rw [hx.out, e4]; simp)
   clear e4
   go_wp2_with fail
   go_roundw
   case rel => exact ⟨k + 1, by omega, by go_num, B2, all_succ (p := fun x => meetAt s t x = false) Hno.out hlt hy.out⟩
   case measure => simp [intOf]; omega
  have hg := Lib.hid (any_hit l (meetAt s t) k hlt (by rw [hx.out, H1.out, H2.out, H3.out, e4]; rfl))
  clear e4
  go_wp2_with fail
  go_ret
  exact ⟨ret_bool (by rw [← hf.out, hg.out]), bT HB.out B2⟩
end Go.Proofs.YtfondidmklmonaaGreat
namespace Go.Proofs.YtfondidmklmonaaGreat
open Go.RowKit

def isEnd (s : Sg) (x : Nd) : Bool := (((s.i : Int) == 0) && (s.arc.fr == x.id)) || (((s.i : Int) == (s.n : Int) - 1) && (s.arc.dst == x.id))
def offNd (s : Sg) (x : Nd) : Bool := isEnd s x || !ronS s.a s.b x.pt
def soundS (s : Sg) : Bool := !decide (s.a = s.b) && (s.arc.fr != s.arc.dst || decide (3 ≤ (s.n : Int)))
def aloneS (p : Pl) (s : Sg) : Bool := p.nodes.all (offNd s) && soundS s
theorem all_hit {α : Type} (l : List α) (q : α → Bool) (k : Nat) (hk : k < l.length) (h : q l[k] = false) : l.all q = false := List.all_eq_false.2 ⟨l[k], List.getElem_mem hk, by simp [h]⟩
theorem all_miss {α : Type} (l : List α) (q : α → Bool) (h : ∀ j (hj : j < l.length), q l[j] = true) : l.all q = true := List.all_eq_true.2 fun x hx => by
 obtain ⟨i, hi, rfl⟩ := List.mem_iff_getElem.1 hx
 exact h i hi

set_option maxRecDepth 100000 in
set_option maxHeartbeats 2000000 in
theorem alone_spec (v : Value) (p : Pl) (s : Sg) (A : Option Addr) (n c : Nat) (w : World) (h : PlV w v p) (hs1 : s.i ≤ 2097152) (hs2 : s.n ≤ 2097152) :
  Calls Tryz.prog 100 #[v, sgV s (.slice A n c)] w fun e w' => e = .returned (.bool (aloneS p s)) ∧ Below w.heap.size w w' := by
 have TO : ∀ p q r : Pt, ∀ W, Calls Tryz.prog 131 #[ptV p, ptV q, ptV r] W _ := fun p q r W => ROn_spec p q r W
 unfold ptV at TO
 have HO := Lib.hid TO; clear TO
 obtain ⟨_, va, vf, al, rfl, -, ⟨An, cn, rfl, hn1, hn2, hR⟩, -, -⟩ := h
 unfold maxLen at hn2
 have HR := Lib.hid hR; clear hR
 unfold sgV
 obtain ⟨q, hq⟩ : ∃ q, aloneS p s = q := ⟨_, rfl⟩
 rw [hq]
 unfold aloneS at hq
 generalize p.nodes = l at *
 have Hq := Lib.hid hq; clear hq
 go_enter Tryz.func100, Tryz.ntmps100
 go_wp2_with fail
 obtain ⟨W0, hW0⟩ : ∃ W0 : World, W0 = (w.alloc (.cells #[.slice An l.length cn, va, vf] 26)).alloc (.cells #[.int .i64 s.arc.id, .int .i64 s.arc.fr, .int .i64 s.arc.dst, .slice A n c, .int .i64 s.arc.left, .int .i64 s.arc.right, .int .i64 s.i, .int .i64 s.n, .int .i64 s.a.x, .int .i64 s.a.y, .int .i64 s.b.x, .int .i64 s.b.y] 134) := ⟨_, rfl⟩
 have Bw : Below w.heap.size w W0 := by rw [hW0]; exact bA (bA (bR w) _) _
 have X2 : Blk W0 w.heap.size 26 #[.slice An l.length cn, va, vf] := by rw [hW0]; exact (Blk.made rfl _ _).alloc _
 have X3 : Blk W0 (w.heap.size + 1) 134 #[.int .i64 s.arc.id, .int .i64 s.arc.fr, .int .i64 s.arc.dst, .slice A n c, .int .i64 s.arc.left, .int .i64 s.arc.right, .int .i64 s.i, .int .i64 s.n, .int .i64 s.a.x, .int .i64 s.a.y, .int .i64 s.b.x, .int .i64 s.b.y] := by rw [hW0]; exact Blk.made (by simp) _ _
 rw [← hW0]
 have HX2 := Lib.hid X2
 have HX3 := Lib.hid X3
 have HB := Lib.hid Bw
 clear X2 X3 Bw hW0
 go_loopw [5] (fun i wr => ∃ k : Nat, k ≤ l.length ∧ i = .int .i64 k ∧ Below W0.heap.size W0 wr ∧ ∀ j (hj : j < l.length), j < k → offNd s l[j] = true) (fun i _ => l.length - (intOf i).toNat)
 case atStart => exact ⟨0, Nat.zero_le _, rfl, bR W0, fun j _ h => by omega⟩
 case round =>
  obtain ⟨k, hk, rfl, hb, hno⟩ := hrel
  have Hb := Lib.hid hb
  have Hno := Lib.hid hno
  have X2 := HX2.out.keep hb
  have X3 := HX3.out.keep hb
  clear hb hno
  obtain ⟨X2l, X2a, X2b, X2c, -, -, -⟩ := X2.facts3
  obtain ⟨X3l, X3a, X3b, X3c, X3d, X3e, X3f, X3g, X3h, X3i, X3j, X3k, X3l, -, -, -, -, -, -, -, -, -, -, -, -⟩ := X3.facts12
  by_cases hlt : k < l.length
  case neg =>
   have hg := Lib.hid (all_miss l (offNd s) (fun j hj => Hno.out j hj (by omega)))
   have hf := Lib.hid (show soundS s = q by rw [← Hq.out, hg.out]; rfl)
   have hE := run_neq_pt s.a s.b
   by_cases h1 : s.a = s.b
   ·
    have h1' : decide (s.a = s.b) = true := decide_eq_true h1
    have hz := Lib.hid (show false = soundS s by rw [soundS, h1']; rfl)
    have H1 := Lib.hid h1; clear h1
    go_wp2_with fail
    go_ret
    exact ⟨ret_bool (hz.out.trans hf.out), bT HB.out Hb.out⟩
   ·
    have h1' : decide (s.a = s.b) = false := decide_eq_false h1
    have H1 := Lib.hid h1; clear h1
    cases h2 : (s.arc.fr != s.arc.dst)
    ·
     have hz := Lib.hid (show decide (3 ≤ (s.n : Int)) = soundS s by rw [soundS, h1', h2]; rfl)
     go_wp2_with fail
     go_ret
     exact ⟨ret_bool (hz.out.trans hf.out), bT HB.out Hb.out⟩
    ·
     have hz := Lib.hid (show true = soundS s by rw [soundS, h1', h2]; rfl)
     go_wp2_with fail
     go_ret
     exact ⟨ret_bool (hz.out.trans hf.out), bT HB.out Hb.out⟩
  obtain ⟨b, o, rfl, hlb, c0, c1, c2⟩ := (HR.out.mono (bT HB.out Hb.out)).nd hlt
  go_upto_region 5 with fail
  obtain ⟨W1, hW1⟩ : ∃ W1 : World, W1 = wr.alloc (.cells #[.int .i64 l[k].id, .int .i64 l[k].pt.x, .int .i64 l[k].pt.y] 59) := ⟨_, rfl⟩
  have B1 : Below W0.heap.size W0 W1 := by rw [hW1]; exact bA Hb.out _
  have X6 : Blk W1 wr.heap.size 59 #[.int .i64 l[k].id, .int .i64 l[k].pt.x, .int .i64 l[k].pt.y] := by rw [hW1]; exact Blk.made rfl _ _
  have hA1 : Below wr.heap.size wr W1 := by rw [hW1]; exact bA (bR wr) _
  replace X2 := X2.keep hA1
  replace X3 := X3.keep hA1
  rw [← hW1]
  clear c0 c1 c2 hlb hW1 hA1
  try clear X2l
  try clear X2a
  try clear X2b
  try clear X2c
  obtain ⟨X2l, X2a, X2b, X2c, -, -, -⟩ := X2.facts3
  try clear X3l
  try clear X3a
  try clear X3b
  try clear X3c
  try clear X3d
  try clear X3e
  try clear X3f
  try clear X3g
  try clear X3h
  try clear X3i
  try clear X3j
  try clear X3k
  try clear X3l
  obtain ⟨X3l, X3a, X3b, X3c, X3d, X3e, X3f, X3g, X3h, X3i, X3j, X3k, X3l, -, -, -, -, -, -, -, -, -, -, -, -⟩ := X3.facts12
  obtain ⟨X6l, X6a, X6b, X6c, -, -, -⟩ := X6.facts3
  go_cut [7] (fun u wx => u = .bool (isEnd s l[k]) ∧ wx = W1)
  case first =>
   cases h1 : ((s.i : Int) == 0)
   case true =>
    cases h2 : (s.arc.fr == l[k].id)
    case true =>
     have hz := Lib.hid (show true = isEnd s l[k] by rw [isEnd, h1, h2]; rfl)
     go_wp2_with fail
     go_meet
     case rel => exact ⟨congrArg Value.bool hz.out, rfl⟩
    case false =>
     cases h3 : ((s.i : Int) == (s.n : Int) - 1)
     case false =>
      have hz := Lib.hid (show false = isEnd s l[k] by rw [isEnd, h1, h2, h3]; rfl)
      go_wp2_with fail
      go_meet
      case rel => exact ⟨congrArg Value.bool hz.out, rfl⟩
     case true =>
      have hz := Lib.hid (show (s.arc.dst == l[k].id) = isEnd s l[k] by rw [isEnd, h1, h2, h3]; rfl)
      go_wp2_with fail
      go_meet
      case rel => exact ⟨congrArg Value.bool hz.out, rfl⟩
   case false =>
    cases h3 : ((s.i : Int) == (s.n : Int) - 1)
    case false =>
     have hz := Lib.hid (show false = isEnd s l[k] by rw [isEnd, h1, h3]; rfl)
     go_wp2_with fail
     go_meet
     case rel => exact ⟨congrArg Value.bool hz.out, rfl⟩
    case true =>
     have hz := Lib.hid (show (s.arc.dst == l[k].id) = isEnd s l[k] by rw [isEnd, h1, h3]; rfl)
     go_wp2_with fail
     go_meet
     case rel => exact ⟨congrArg Value.bool hz.out, rfl⟩
  case rest =>
   obtain ⟨rfl, rfl⟩ := hcut
   cases e1 : isEnd s l[k]
   case true =>
    have hy := Lib.hid (show offNd s l[k] = true by rw [offNd, e1]; rfl)
    clear e1
    go_wp2_with fail
    go_roundw
    case rel => exact ⟨k + 1, by omega, by go_num, B1, all_succ (p := fun x => offNd s x = true) Hno.out hlt hy.out⟩
    case measure => simp [intOf]; omega
   case false =>
   have E1 := Lib.hid e1; clear e1
   go_wp2_with fail
   refine (HO.out s.a s.b l[k].pt _).mono ?_
   rintro e w4 ⟨rfl, hb4⟩
   have B4 := bT B1 hb4
   cases e3 : ronS s.a s.b l[k].pt
   case false =>
    have hy := Lib.hid (show offNd s l[k] = true by rw [offNd, e3]; simp)
    clear e3
    go_wp2_with fail
    go_roundw
    case rel => exact ⟨k + 1, by omega, by go_num, B4, all_succ (p := fun x => offNd s x = true) Hno.out hlt hy.out⟩
    case measure => simp [intOf]; omega
   case true =>
    have hg := Lib.hid (all_hit l (offNd s) k hlt (by rw [offNd, E1.out, e3]; rfl))
    clear e3
    go_wp2_with fail
    go_ret
    exact ⟨ret_bool (by rw [← Hq.out, hg.out]; rfl), bT HB.out B4⟩
end Go.Proofs.YtfondidmklmonaaGreat
namespace Go.Proofs.YtfondidmklmonaaGreat
open Go.RowKit

section
variable {α β : Type} {w w' : World} {base base' : Nat} {e e' : TypeId} {size size' : Nat} {f : α → List Value} {f' : β → List Value} {v v' : Value} {l : List α} {l' : List β}
theorem Own.grown (h : Own w base e size f v l) {row : Option Nat} (hg : w.grownBy w' row) (hne : ∀ g, v.ownBlock = some g → some g ≠ row) : Own w' base e size f v l := by
 obtain ⟨h1, h2⟩ := h
 refine ⟨h1, ?_⟩
 rcases h2 with h2 | ⟨g, cap, cur, hv, hg', hh, r⟩
 · exact .inl h2
 ·
  subst hv
  refine .inr ⟨g, cap, cur, rfl, hg', ?_, r⟩
  exact Blk.grown (t := e) (cs := cur) hh hg (hne g rfl)
theorem Own.blk (h : Own w base e size f v l) {g : Nat} (hg : v.ownBlock = some g) : ∃ cs, Blk w g e cs := by
 rcases h.2 with ⟨rfl, _⟩ | ⟨g', cap, cur, rfl, _, hh, _⟩
 · simp [Value.ownBlock] at hg
 ·
  have : g' = g := by simpa [Value.ownBlock] using hg
  subst this
  exact ⟨_, hh⟩
theorem Own.apart (h : Own w base e size f v l) (h' : Own w base' e' size' f' v' l') (hne : e ≠ e') : ∀ g, v.ownBlock = some g → some g ≠ v'.ownBlock := by
 intro g hg hg'
 obtain ⟨cs, h1⟩ := h.blk hg
 obtain ⟨cs', h2⟩ := h'.blk hg'.symm
 exact Blk.ne_ h1 h2 hne rfl
end

def pt0 : Pt := ⟨0, 0⟩
def segsOf (a : Ar) (l : List Pt) : List Sg := (List.range (l.length - 1)).map fun k => ⟨a, k, l.length - 1, l.getD k pt0, l.getD (k + 1) pt0⟩
def segsS (p : Pl) : List Sg := p.arcs.flatMap fun a => segsOf a (pathS p a)
theorem segsOf_length (a : Ar) (l : List Pt) : (segsOf a l).length = l.length - 1 := by simp [segsOf]
theorem segsOf_succ (a : Ar) (l : List Pt) (k : Nat) (hk : k + 1 < l.length) : (segsOf a l).take (k + 1) = (segsOf a l).take k ++ [⟨a, k, l.length - 1, l[k], l[k + 1]⟩] := by
 have h : k < (segsOf a l).length := by rw [segsOf_length]; omega
 rw [List.take_succ_eq_append_getElem h]
 simp [segsOf, List.getD, List.getElem?_eq_getElem hk, List.getElem?_eq_getElem (show k < l.length by omega)]
theorem pathS_length (p : Pl) (a : Ar) : (pathS p a).length = a.via.length + 2 := by simp [pathS]
theorem segs_len (p : Pl) (l : List Ar) : (l.flatMap fun a => segsOf a (pathS p a)).length = (l.flatMap (·.via)).length + l.length := by
 induction l with
 | nil => rfl
 | cons a l ih => simp only [List.flatMap_cons, List.length_append, ih, segsOf_length, pathS_length, List.length_cons]; omega

def RetSegs (w : World) (l : List Sg) (e : Ending) (w' : World) : Prop :=
 ∃ sl v, sl.map (·.1) = l ∧ e = .returned v ∧ Below w.heap.size w w' ∧ Own w' w.heap.size 134 12 sgC v sl

theorem elem_sg : Elem Tryz.prog 130 134 12 112 := Elem.mk_ (z := .agg #[.int .i64 0, .int .i64 0, .int .i64 0, .slice none 0 0, .int .i64 0, .int .i64 0, .int .i64 0, .int .i64 0, .int .i64 0, .int .i64 0, .int .i64 0, .int .i64 0]) (by kernel_rfl) (by kernel_rfl) rfl (by omega)
theorem sgC_len (s : Sg × SV) : (sgC s).length = 12 := rfl
theorem sgC_one (s : Sg × SV) : ∀ u ∈ sgC s, u.oneCell' = true := by simp [sgC, Value.oneCell']
theorem Sl.one_sg {w : World} {g : Nat} {t : TypeId} {s : Sg} {u : SV} {n : Int} (hn : n = s.n) (h : Blk w g t #[.int .i64 s.arc.id, .int .i64 s.arc.fr, .int .i64 s.arc.dst, .slice u.a u.n u.c, .int .i64 s.arc.left, .int .i64 s.arc.right, .int .i64 s.i, .int .i64 n, .int .i64 s.a.x, .int .i64 s.a.y, .int .i64 s.b.x, .int .i64 s.b.y]) :
  Sl w (.slice (some ⟨g, 0, none⟩) 1 1) ([(s, u)] : List (Sg × SV)).length (([(s, u)] : List (Sg × SV)).flatMap sgC) := by
 subst hn
 exact Sl.lit (n := 1) h rfl (le_maxLen (by omega))

set_option maxRecDepth 100000 in
set_option maxHeartbeats 4000000 in
theorem Segments_spec (v : Value) (p : Pl) (w : World) (h : PlV w v p) (hl1 : p.arcs.length ≤ 4096) (hl2 : (p.arcs.flatMap (·.via)).length ≤ 1048576) :
  Calls Tryz.prog 99 #[v] w (RetSegs w (segsS p)) := by
 have HP := Lib.hid h
 obtain ⟨vn, _, vf, al, rfl, hpa, -, ⟨⟨Aa, ca, rfl, ha1, ha2, hRa⟩, hV⟩, -⟩ := h
 unfold maxLen at ha2
 have hS : segsS p = al.flatMap fun a => segsOf a.1 (pathS p a.1) := by unfold segsS; rw [hpa, List.flatMap_map]
 have hL : ∀ k, ((al.take k).flatMap fun a => segsOf a.1 (pathS p a.1)).length ≤ 1052672 := fun k => by
  have h1 := flat_take_le al (fun a => segsOf a.1 (pathS p a.1)) k
  rw [← hS] at h1
  unfold segsS at h1
  rw [segs_len] at h1
  omega
 have hsh : ∀ k (hk : k < al.length), al[k].1.via.length ≤ 1048576 := fun k hk => by
  have h1 := flat_take_succ_le al (fun a => a.1.via) k hk
  rw [hpa, List.flatMap_map] at hl2
  omega
 have hl : al.length ≤ 4096 := by rw [hpa, List.length_map] at hl1; exact hl1
 rw [hS]
 have HL := Lib.hid hL
 have HSh := Lib.hid hsh
 have HV := Lib.hid hV; clear hV
 have HRa := Lib.hid hRa; clear hRa
 clear hS hpa hl1 hl2 hL hsh
 go_enter Tryz.func99, Tryz.ntmps99
 go_wp2_with fail
 obtain ⟨W0, hW0⟩ : ∃ W0 : World, W0 = w.alloc (.cells #[vn, .slice Aa al.length ca, vf] 26) := ⟨_, rfl⟩
 have X1 : Blk W0 w.heap.size 26 #[vn, .slice Aa al.length ca, vf] := by rw [hW0]; exact Blk.made rfl _ _
 have Bw0 : Below w.heap.size w W0 := by rw [hW0]; exact bA (bR w) _
 have HX0 := Lib.hid X1
 have hwz := X1.lt
 rw [← hW0]
 clear hW0 X1
 go_loopw [3, 4] (fun s i wr => ∃ (k : Nat) (sl : List (Sg × SV)), k ≤ al.length ∧ i = .int .i64 k ∧ sl.map (·.1) = ((al.take k).flatMap fun a => segsOf a.1 (pathS p a.1)) ∧ Own wr W0.heap.size 134 12 sgC s sl ∧ Below W0.heap.size W0 wr) (fun _ i _ => al.length - (intOf i).toNat)
 case atStart => exact ⟨0, [], Nat.zero_le _, rfl, rfl, Own.nil _ _ _ _ _, bR W0⟩
 case round =>
  obtain ⟨k, sl, hk, rfl, hsl, hown, hb⟩ := hrel
  have Hb := Lib.hid hb
  have Hown := Lib.hid hown
  have Hsl := Lib.hid hsl
  have X1 := HX0.out.keep hb
  have hsz := hb.size
  clear hb hown hsl
  obtain ⟨X1l, X1a, X1b, X1c, -, -, -⟩ := X1.facts3
  by_cases hlt : k < al.length
  case neg =>
   have hE : al.take k = al := List.take_of_length_le (by omega)
   have Hf := Lib.hid (show sl.map (·.1) = al.flatMap fun a => segsOf a.1 (pathS p a.1) by rw [Hsl.out, hE])
   clear hE
   go_wp2_with fail
   go_ret
   exact ⟨sl, _, Hf.out, rfl, bT Bw0 Hb.out, Hown.out.mono_base Bw0.size⟩
  obtain ⟨b, o, rfl, hlb, c0, c1, c2, c3, c4, c5⟩ := (HRa.out.mono (bT Bw0 Hb.out)).ar hlt
  have hvk := (HV.out k hlt)
  obtain ⟨Av, cv, hv, -⟩ := hvk
  have hvk := (HV.out k hlt)
  rw [hv] at c3 hvk
  generalize hvl : al[k].1.via.length = vl at c3
  have Hvl := Lib.hid hvl
  have Hvk := Lib.hid hvk
  have Hshk := Lib.hid (HSh.out k hlt)
  have q1 : 0 ≤ (k : Int) := by omega
  have q2 : (k : Int) < al.length := by omega
  have Hlk := Lib.hid (HL.out (k + 1))
  clear hvk hv hvl
  have TL : ∀ W, Below w.heap.size w W → Calls Tryz.prog 49 #[.agg #[vn, .slice (some ⟨b, o, none⟩) al.length ca, vf], .agg #[.int .i64 al[k].1.id, .int .i64 al[k].1.fr, .int .i64 al[k].1.dst, .slice Av vl cv, .int .i64 al[k].1.left, .int .i64 al[k].1.right]] W (RetPath W (pathS p al[k].1) (hasEnds p al[k].1)) := fun W hW => by
   have := line_spec _ _ p al[k].1 _ (HP.out.mono hW) (Hvk.out.mono hW) Hshk.out
   rw [Hvl.out] at this
   exact this
  have HT := Lib.hid TL; clear TL
  go_upto_region 5 with fail
  go_cut [5] (fun s wx => ∃ A1 n1 c1, s = .slice A1 n1 c1 ∧ n1 = (pathS p al[k].1).length ∧ Own wx wr.heap.size 28 2 ptC (.slice A1 n1 c1) (pathS p al[k].1) ∧ Below wr.heap.size wr wx)
  case first =>
   refine rg_start (Since wr) (.run 6 0 0 (.call 6 127 (.run 5 7 127 (.done)))) (by kernel_rfl) (bD (bR _)) (by kernel_rfl) (by kernel_rfl) (Nat.le_of_ble_eq_true (by kernel_rfl)) ?_
   intro opsR QR Hops HQrg hS
   iterate 6
    apply rg_p; exact Hops; exact rfl; exact hS; exact rfl
    · intro _ hqc; go_simp; try rfl
    try simp only [pu]
   refine rg_call (i := 6) (get_of Hops rfl) (fun K hK => ?_)
   have HSrg := Lib.hid hS; clear hS
   refine rg_run (wanted_plain rfl) ?_
   go_simp
   refine (HT.out _ (bT (bT Bw0 Hb.out) HSrg.out)).mono ?_
   rintro e wr1 ⟨v1, rfl, hbr1, ho1⟩
   have hS : Since wr wr1 := bT (w := wr) HSrg.out hbr1
   clear HSrg
   refine hK.out _ _ hS (fun _ => ?_)
   clear hK K
   try simp only [pu]
   iterate 5
    apply rg_p; exact Hops; exact rfl; exact hS; exact rfl
    · intro _ hqc; go_simp; try rfl
    try simp only [pu]
   refine rg_done ?_
   refine HQrg.down _ _ ?_
   have hB : Below wr.heap.size wr wr1 := hS
   clear hS HQrg Hops
   obtain ⟨A1, c1', rfl, -⟩ := Own.sl ho1
   go_wp2_with fail
   go_meet
   case rel => exact ⟨A1, _, c1', rfl, rfl, ho1.mono_base (by simp), hB⟩
  case rest =>
   obtain ⟨A1, n1, c1', rfl, rfl, hpath, hBc⟩ := hcut
   have hown1 : Own wc W0.heap.size 134 12 sgC _ sl := Hown.out.keep hBc
   have Bc := bT Hb.out hBc
   have hszc := hBc.size
   have hmx : (pathS p al[k].1).length ≤ maxLen := by rw [pathS_length]; have := Hshk.out; exact le_maxLen (by omega)
   unfold maxLen at hmx
   have hpl2 : 2 ≤ (pathS p al[k].1).length := by rw [pathS_length]; omega
   generalize hPP : pathS p al[k].1 = PP at *
   have HPP := Lib.hid hPP
   obtain ⟨M, hM⟩ : ∃ M, PP.length = M + 1 := ⟨PP.length - 1, by omega⟩
   have HM := Lib.hid hM
   have hM1 : M < PP.length := by omega
   have Hp0 := Lib.hid hpath
   have Hs0 := Lib.hid hown1
   have HBc := Lib.hid Bc
   clear hpath hown1 Bc hBc hPP hM HT X1 X1l X1a X1b X1c c0 c1 c2 c3 c4 c5
   obtain ⟨wo, rfl⟩ : ∃ wo : World, wo = wr := ⟨_, rfl⟩
   go_wp2_with fail
   go_loopw [3, 7] (fun s i wx => ∃ (j : Nat) (sx : List (Sg × SV)), j + 1 ≤ PP.length ∧ i = .int .i64 j ∧ sx.map (·.1) = ((al.take k).flatMap fun a => segsOf a.1 (pathS p a.1)) ++ (segsOf al[k].1 PP).take j ∧ Own wx W0.heap.size 134 12 sgC s sx ∧ Own wx wo.heap.size 28 2 ptC (.slice A1 PP.length c1') PP ∧ Below W0.heap.size W0 wx) (fun _ i _ => PP.length - (intOf i).toNat)
   case atStart => exact ⟨0, sl, by omega, rfl, by rw [Hsl.out]; simp, Hs0.out, Hp0.out, HBc.out⟩
   case round =>
    obtain ⟨j, sx, hj, rfl, hsx, hownx, hpx, hbx⟩ := hrel
    have Hbx := Lib.hid hbx
    have Hownx := Lib.hid hownx
    have Hpx := Lib.hid hpx
    have Hsx := Lib.hid hsx
    have hszx := hbx.size
    have X1 := HX0.out.keep hbx
    clear hbx hownx hpx hsx
    try clear X1l
    try clear X1a
    try clear X1b
    try clear X1c
    obtain ⟨X1l, X1a, X1b, X1c, -, -, -⟩ := X1.facts3
    by_cases hlj : j + 1 < PP.length
    case neg =>
     have hjm : j = M := by have := HM.out; omega
     have Hf := Lib.hid (show sx.map (·.1) = ((al.take (k + 1)).flatMap fun a => segsOf a.1 (pathS p a.1)) by
      rw [Hsx.out, List.take_succ_eq_append_getElem hlt, List.flatMap_append, List.take_of_length_le (l := segsOf al[k].1 PP) (by rw [segsOf_length]; omega)]; simp [HPP.out])
     clear hjm
     go_wp2_with fail
     go_roundw
     case rel => exact ⟨k + 1, sx, by omega, by go_num, Hf.out, Hownx.out, Hbx.out⟩
     case measure => simp [intOf]; omega
    obtain ⟨b', o', hbo, hlb', d0, d1, d2, d3, d4, d5⟩ := (HRa.out.mono (bT Bw0 Hbx.out)).ar hlt
    simp only [Option.some.injEq, Addr.mk.injEq, and_true] at hbo
    obtain ⟨rfl, rfl⟩ := hbo
    have hvk := (HV.out k hlt)
    obtain ⟨Av', cv', hv, -⟩ := hvk
    have hrow := Own.sl Hpx.out
    obtain ⟨A1', c1'', he1, -, -, hrow⟩ := hrow
    injection he1 with he1 _ he3
    subst he1
    subst he3
    obtain ⟨pb, po, hpa1, hlp, f0, f1⟩ := hrow.pt (k := j) (by omega)
    subst hpa1
    obtain ⟨pb', po', hpa2, hlp', f2, f3⟩ := hrow.pt (k := j + 1) hlj
    simp only [Option.some.injEq, Addr.mk.injEq, and_true] at hpa2
    obtain ⟨rfl, rfl⟩ := hpa2
    rw [hv] at d3
    have Hvv := Lib.hid hv
    clear hrow hv
    have w1e : IntKind.i64.wrap ((j : Int) + 1) = (j : Int) + 1 := IntWalk.i64_in _ (by omega)
    have w2e : IntKind.i64.wrap ((PP.length : Int) - 1) = (M : Int) := by have := HM.out; rw [IntWalk.i64_in _ (by omega)]; omega
    have r1 : 0 ≤ (j : Int) := by omega
    have r2 : (j : Int) < PP.length := by omega
    have r3 : 0 ≤ (j : Int) + 1 := by omega
    have r4 : (j : Int) + 1 < PP.length := by omega
    have r5 : ((j : Int) + 1).toNat = j + 1 := by omega
    have r6 : 0 ≤ (k : Int) := by omega
    have r7 : (k : Int) < al.length := by omega
    have hb0 : b < w.heap.size := by
     obtain ⟨b2, o2, e2, h2, -⟩ := HRa.out.ar hlt
     simp only [Option.some.injEq, Addr.mk.injEq, and_true] at e2
     omega
    have n1 : some w.heap.size ≠ (u3 : Value).ownBlock := fun e => by have := (Hownx.out.lt _ e.symm).1; omega
    have n2 : some b ≠ (u3 : Value).ownBlock := fun e => by have := (Hownx.out.lt _ e.symm).1; omega
    have n3 : some pb ≠ (u3 : Value).ownBlock := Own.apart Hpx.out Hownx.out (by decide) pb rfl
    have Hb0 := Lib.hid hb0
    have Hlk2 := Lib.hid (show sx.length + 1 ≤ 1052673 by
     have h1 := Hlk
     have h2 := congrArg List.length Hsx.out
     rw [List.length_map, List.length_append, List.length_take, segsOf_length] at h2
     have h3 := HL.out (k + 1)
     rw [List.take_succ_eq_append_getElem hlt, List.flatMap_append, List.length_append] at h3
     simp only [List.flatMap_cons, List.flatMap_nil, List.append_nil, segsOf_length, HPP.out] at h3
     omega)
    clear hb0
    go_upto_region 9 with fail
    refine rg_start (SinceX wr ((u3 : Value).ownBlock)) (.run 20 0 0 (.call 20 2097151 (.call 21 4194303 (.take 22 8388607 (.done))))) (by kernel_rfl) (gD (gR _ _)) (by kernel_rfl) (by kernel_rfl) (Nat.le_of_ble_eq_true (by kernel_rfl)) ?_
    intro opsR QR Hops HQrg hS
    iterate 20
     apply rg_pX; exact Hops; exact rfl; exact hS; exact rfl
     · intro _ hqc; go_simp; try rfl
     try simp only [pu]
    refine rg_call (i := 20) (get_of Hops rfl) (fun K hK => ?_)
    have HSrg := Lib.hid hS; clear hS
    refine rg_run (wanted_plain rfl) ?_
    go_simp
    refine hK.out _ _ (gA HSrg.out _) (fun hS => ?_)
    clear hK K HSrg
    try simp only [pu]
    refine rg_call (i := 21) (get_of Hops rfl) (fun K hK => ?_)
    have HSrg := Lib.hid hS; clear hS
    refine rg_run (wanted_plain rfl) ?_
    refine wp_appl (.tmp 32) (.tmp 52) _ rfl (base := W0.heap.size) elem_sg sgC_len sgC_one rfl ((Hownx.out.drew).alloc _) rfl (l2 := [((⟨al[k].1, j, PP.length - 1, PP[j], PP[j + 1]⟩ : Sg), (⟨Av', al[k].1.via.length, cv'⟩ : SV))]) (Sl.one_sg (n := (M : Int)) (by have := HM.out; simp only []; omega) (Blk.made (by simp) _ _)) (by have := Hlk2.out; simp only [List.length_cons, List.length_nil]; omega) (by have := Hlk2.out; simp only [List.length_cons, List.length_nil]; omega) (by simp; omega) ?_
    intro v3 wr3 ho3 hg hat
    have hS : SinceX wr (u3 : Value).ownBlock wr3 := gT HSrg.out hg
    clear HSrg
    refine hK.out _ _ hS (fun _ => ?_)
    clear hK K
    try simp only [pu]
    apply rg_pX; exact Hops; exact rfl; exact hS; exact rfl
    · intro _ hqc; go_simp; try rfl
    try simp only [pu]
    refine rg_done ?_
    refine HQrg.down _ _ ?_
    have hB : wr.grownBy _ ((u3 : Value).ownBlock) := hS
    clear hS HQrg Hops
    have Ho3 := Lib.hid ho3
    have Hpy := Lib.hid (Hpx.out.grown hB (fun g hg => Own.apart Hpx.out Hownx.out (by decide) g hg))
    have Hby := Lib.hid (gBelow Hbx.out hszx hB (fun g hg => (Hownx.out.lt g hg).1))
    have Hsy := Lib.hid (show (sx ++ [((⟨al[k].1, j, PP.length - 1, PP[j], PP[j + 1]⟩ : Sg), (⟨Av', al[k].1.via.length, cv'⟩ : SV))]).map (·.1) = ((al.take k).flatMap fun a => segsOf a.1 (pathS p a.1)) ++ (segsOf al[k].1 PP).take (j + 1) by
     rw [List.map_append, Hsx.out, segsOf_succ _ _ _ hlj, List.append_assoc]; rfl)
    clear ho3 hg hat hB d0 d1 d2 d3 d4 d5 f0 f1 f2 f3 w1e w2e r1 r2 r3 r4 r5 r6 r7 n1 n2 n3 X1 X1l X1a X1b X1c
    go_wp2_with fail
    go_roundw
    case rel => exact ⟨j + 1, sx ++ [((⟨al[k].1, j, PP.length - 1, PP[j], PP[j + 1]⟩ : Sg), (⟨Av', al[k].1.via.length, cv'⟩ : SV))], by omega, by go_num, Hsy.out, Ho3.out, Hpy.out, Hby.out⟩
    case measure => simp [intOf]; omega
end Go.Proofs.YtfondidmklmonaaGreat
namespace Go.Proofs.YtfondidmklmonaaGreat
open Go.RowKit

theorem Own.shape_ {α : Type} {w : World} {base : Nat} {e : TypeId} {size : Nat} {f : α → List Value} {v : Value} {l : List α} (h : Own w base e size f v l) : ∃ A c, v = .slice A l.length c ∧ l.length ≤ c ∧ c ≤ maxLen := by
 obtain ⟨A, c, rfl, h1, h2, -⟩ := Own.sl h
 exact ⟨A, c, rfl, h1, h2⟩

end Go.Proofs.YtfondidmklmonaaGreat
