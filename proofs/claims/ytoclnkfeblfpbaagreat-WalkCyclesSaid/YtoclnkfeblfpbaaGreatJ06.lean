/- mapsheetsref14.joined, alone. mapsheetsref14.alone. -/
import Derived.Test.YtoclnkfeblfpbaaGreatJ05
set_option linter.unusedSimpArgs false
set_option linter.unusedVariables false
namespace Go.Proofs.YtoclnkfeblfpbaaGreat
open Go.RowKit

def meetAt (s t : Sg) (x : Nd) : Bool := endsS s.arc x.id && endsS t.arc x.id && ronS s.a s.b x.pt && ronS t.a t.b x.pt
def joinedS (p : Pl) (s t : Sg) : Bool := if rmeetS s.a s.b t.a t.b = 1 then p.nodes.any (meetAt s t) else rmeetS s.a s.b t.a t.b == 0

set_option maxRecDepth 100000 in
set_option maxHeartbeats 2000000 in
theorem joined_spec (v : Value) (p : Pl) (s t : Sg) (A A' : Option Addr) (n n' c c' : Nat) (w : World) (h : PlV w v p) :
    Calls Tryz.prog 110 #[v, sgV s (.slice A n c), sgV t (.slice A' n' c')] w fun e w' => e = .returned (.bool (joinedS p s t)) ∧ Below w.heap.size w w' := by
  have TM : ∀ W, Calls Tryz.prog 133 #[ptV s.a, ptV s.b, ptV t.a, ptV t.b] W _ := fun W => RMeet_spec s.a s.b t.a t.b W
  have TE : ∀ (a : Ar) (A : Option Addr) (n c : Nat) (id : Int) W, Calls Tryz.prog 134 #[.agg #[.int .i64 a.id, .int .i64 a.fr, .int .i64 a.dst, .slice A n c, .int .i64 a.left, .int .i64 a.right], .int .i64 id] W _ := fun a A n c id W => ends_spec a A n c id W
  have TO : ∀ p q r : Pt, ∀ W, Calls Tryz.prog 132 #[ptV p, ptV q, ptV r] W _ := fun p q r W => ROn_spec p q r W
  unfold ptV at TM TO
  have HM := Lib.hid TM; clear TM
  have HE := Lib.hid TE; clear TE
  have HO := Lib.hid TO; clear TO
  obtain ⟨_, va, vf, al, rfl, -, ⟨An, cn, rfl, hn1, hn2, hR⟩, -, -⟩ := h
  unfold maxLen at hn2
  have HR := Lib.hid hR; clear hR
  unfold sgV
  obtain ⟨q, hq⟩ : ∃ q, joinedS p s t = q := ⟨_, rfl⟩
  rw [hq]
  unfold joinedS at hq
  generalize p.nodes = l at *
  have Hq := Lib.hid hq; clear hq
  go_enter Tryz.func110, Tryz.ntmps110
  go_wp2_with fail
  refine (HM.out _).mono ?_
  rintro e w1 ⟨rfl, hb1⟩
  have Bw : Below w.heap.size w w1 := by
    repeat (first | with_reducible exact bR _ | with_reducible assumption | with_reducible refine bA ?_ _ | with_reducible refine bD ?_ | with_reducible refine bN ?_ _ | ((with_reducible refine bS ?_ ?_ _); rotate_left; (simp; try omega)) | ((with_reducible refine bT ?_ ?_); rotate_left; with_reducible assumption) | with_reducible refine bT ?_ (by assumption))
  have X2 : Blk _ (w.heap.size) 26 #[.slice An l.length cn, va, vf] := Blk.keep (by repeat (first | exact Blk.made (by simp) _ _ | refine Blk.alloc ?_ _)) hb1
  have X3 : Blk _ (w.heap.size + 1) 129 #[.int .i64 s.arc.id, .int .i64 s.arc.fr, .int .i64 s.arc.dst, .slice A n c, .int .i64 s.arc.left, .int .i64 s.arc.right, .int .i64 s.i, .int .i64 s.n, .int .i64 s.a.x, .int .i64 s.a.y, .int .i64 s.b.x, .int .i64 s.b.y] := Blk.keep (by repeat (first | exact Blk.made (by simp) _ _ | refine Blk.alloc ?_ _)) hb1
  have X4 : Blk _ (w.heap.size + 1 + 1) 129 #[.int .i64 t.arc.id, .int .i64 t.arc.fr, .int .i64 t.arc.dst, .slice A' n' c', .int .i64 t.arc.left, .int .i64 t.arc.right, .int .i64 t.i, .int .i64 t.n, .int .i64 t.a.x, .int .i64 t.a.y, .int .i64 t.b.x, .int .i64 t.b.y] := Blk.keep (by repeat (first | exact Blk.made (by simp) _ _ | refine Blk.alloc ?_ _)) hb1
  clear hb1
  generalize rmeetS s.a s.b t.a t.b = m at *
  by_cases h1 : m = 1
  case neg =>
    have hf := Lib.hid (show (m == 0) = q by rw [← Hq.out, if_neg h1])
    have h1' : (m != 1) = true := by simpa using h1
    clear h1
    go_wp2_with fail
    go_ret
    exact ⟨ret_bool hf.out, Bw⟩
  subst h1
  have hf := Lib.hid (show l.any (meetAt s t) = q by rw [← Hq.out, if_pos rfl])
  clear Hq
  have HX2 := Lib.hid X2
  have HX3 := Lib.hid X3
  have HX4 := Lib.hid X4
  have HB := Lib.hid Bw
  clear X2 X3 X4 Bw
  go_wp2_with fail
  go_loopw [8] (fun i wr => ∃ k : Nat, k ≤ l.length ∧ i = .int .i64 k ∧ Below w1.heap.size w1 wr ∧ ∀ j (hj : j < l.length), j < k → meetAt s t l[j] = false) (fun i _ => l.length - (intOf i).toNat)
  case atStart => exact ⟨0, Nat.zero_le _, rfl, bR w1, fun j _ h => by omega⟩
  case round =>
    obtain ⟨k, hk, rfl, hb, hno⟩ := hrel
    have Hb := Lib.hid hb
    have Hno := Lib.hid hno
    have X2 := HX2.out.keep hb
    have X3 := HX3.out.keep hb
    have X4 := HX4.out.keep hb
    clear hb hno
    try clear X2l
    try clear X2a
    try clear X2b
    try clear X2c
    try clear X2fa
    try clear X2fb
    try clear X2fc
    obtain ⟨X2l, X2a, X2b, X2c, -, -, -⟩ := X2.facts3
    try clear X3l
    try clear X3a
    try clear X3b
    try clear X3c
    try clear X3d
    try clear X3e
    try clear X3f
    try clear X3g
    try clear X3h
    try clear X3i
    try clear X3j
    try clear X3k
    try clear X3l
    try clear X3fa
    try clear X3fb
    try clear X3fc
    try clear X3fd
    try clear X3fe
    try clear X3ff
    try clear X3fg
    try clear X3fh
    try clear X3fi
    try clear X3fj
    try clear X3fk
    try clear X3fl
    obtain ⟨X3l, X3a, X3b, X3c, X3d, X3e, X3f, X3g, X3h, X3i, X3j, X3k, X3l, -, -, -, -, -, -, -, -, -, -, -, -⟩ := X3.facts12
    try clear X4l
    try clear X4a
    try clear X4b
    try clear X4c
    try clear X4d
    try clear X4e
    try clear X4f
    try clear X4g
    try clear X4h
    try clear X4i
    try clear X4j
    try clear X4k
    try clear X4l
    try clear X4fa
    try clear X4fb
    try clear X4fc
    try clear X4fd
    try clear X4fe
    try clear X4ff
    try clear X4fg
    try clear X4fh
    try clear X4fi
    try clear X4fj
    try clear X4fk
    try clear X4fl
    obtain ⟨X4l, X4a, X4b, X4c, X4d, X4e, X4f, X4g, X4h, X4i, X4j, X4k, X4l, -, -, -, -, -, -, -, -, -, -, -, -⟩ := X4.facts12
    by_cases hlt : k < l.length
    case neg =>
      have hg := Lib.hid (any_miss l (meetAt s t) (fun j hj => Hno.out j hj (by omega)))
      go_wp2_with fail
      go_ret
      exact ⟨ret_bool (by rw [← hf.out, hg.out]), bT HB.out Hb.out⟩
    obtain ⟨b, o, rfl, hlb, c0, c1, c2⟩ := (HR.out.mono (bT HB.out Hb.out)).nd hlt
    have hx := Lib.hid (show meetAt s t l[k] = (endsS s.arc l[k].id && endsS t.arc l[k].id && ronS s.a s.b l[k].pt && ronS t.a t.b l[k].pt) from rfl)
    go_wp2_with fail
    refine (HE.out _ _ _ _ _ _).mono ?_
    rintro e w2 ⟨rfl, hb2⟩
    have B2 : Below w1.heap.size w1 w2 := bT (bA Hb.out _) hb2
    have X5 : Blk w2 wr.heap.size 43 #[.int .i64 l[k].id, .int .i64 l[k].pt.x, .int .i64 l[k].pt.y] := (Blk.made rfl _ _).keep hb2
    replace X2 := (X2.alloc _).keep hb2
    replace X3 := (X3.alloc _).keep hb2
    replace X4 := (X4.alloc _).keep hb2
    clear hb2 c0 c1 c2 hlb
    try clear X2l
    try clear X2a
    try clear X2b
    try clear X2c
    try clear X2fa
    try clear X2fb
    try clear X2fc
    obtain ⟨X2l, X2a, X2b, X2c, -, -, -⟩ := X2.facts3
    try clear X3l
    try clear X3a
    try clear X3b
    try clear X3c
    try clear X3d
    try clear X3e
    try clear X3f
    try clear X3g
    try clear X3h
    try clear X3i
    try clear X3j
    try clear X3k
    try clear X3l
    try clear X3fa
    try clear X3fb
    try clear X3fc
    try clear X3fd
    try clear X3fe
    try clear X3ff
    try clear X3fg
    try clear X3fh
    try clear X3fi
    try clear X3fj
    try clear X3fk
    try clear X3fl
    obtain ⟨X3l, X3a, X3b, X3c, X3d, X3e, X3f, X3g, X3h, X3i, X3j, X3k, X3l, -, -, -, -, -, -, -, -, -, -, -, -⟩ := X3.facts12
    try clear X4l
    try clear X4a
    try clear X4b
    try clear X4c
    try clear X4d
    try clear X4e
    try clear X4f
    try clear X4g
    try clear X4h
    try clear X4i
    try clear X4j
    try clear X4k
    try clear X4l
    try clear X4fa
    try clear X4fb
    try clear X4fc
    try clear X4fd
    try clear X4fe
    try clear X4ff
    try clear X4fg
    try clear X4fh
    try clear X4fi
    try clear X4fj
    try clear X4fk
    try clear X4fl
    obtain ⟨X4l, X4a, X4b, X4c, X4d, X4e, X4f, X4g, X4h, X4i, X4j, X4k, X4l, -, -, -, -, -, -, -, -, -, -, -, -⟩ := X4.facts12
    try clear X5l
    try clear X5a
    try clear X5b
    try clear X5c
    try clear X5fa
    try clear X5fb
    try clear X5fc
    obtain ⟨X5l, X5a, X5b, X5c, -, -, -⟩ := X5.facts3
    cases e1 : endsS s.arc l[k].id
    case false =>
      have hy := Lib.hid (show meetAt s t l[k] = false by rw [hx.out, e1]; rfl)
      clear e1
      go_wp2_with fail
      go_roundw
      case rel => exact ⟨k + 1, by omega, by go_num, B2, all_succ (p := fun x => meetAt s t x = false) Hno.out hlt hy.out⟩
      case measure => simp [intOf]; omega
    have H1 := Lib.hid e1; clear e1
    go_wp2_with fail
    refine (HE.out _ _ _ _ _ _).mono ?_
    rintro e w3 ⟨rfl, hb3⟩
    replace B2 : Below w1.heap.size w1 w3 := bT B2 hb3
    replace X2 := X2.keep hb3
    replace X3 := X3.keep hb3
    replace X4 := X4.keep hb3
    replace X5 := X5.keep hb3
    clear hb3
    try clear X2l
    try clear X2a
    try clear X2b
    try clear X2c
    try clear X2fa
    try clear X2fb
    try clear X2fc
    obtain ⟨X2l, X2a, X2b, X2c, -, -, -⟩ := X2.facts3
    try clear X3l
    try clear X3a
    try clear X3b
    try clear X3c
    try clear X3d
    try clear X3e
    try clear X3f
    try clear X3g
    try clear X3h
    try clear X3i
    try clear X3j
    try clear X3k
    try clear X3l
    try clear X3fa
    try clear X3fb
    try clear X3fc
    try clear X3fd
    try clear X3fe
    try clear X3ff
    try clear X3fg
    try clear X3fh
    try clear X3fi
    try clear X3fj
    try clear X3fk
    try clear X3fl
    obtain ⟨X3l, X3a, X3b, X3c, X3d, X3e, X3f, X3g, X3h, X3i, X3j, X3k, X3l, -, -, -, -, -, -, -, -, -, -, -, -⟩ := X3.facts12
    try clear X4l
    try clear X4a
    try clear X4b
    try clear X4c
    try clear X4d
    try clear X4e
    try clear X4f
    try clear X4g
    try clear X4h
    try clear X4i
    try clear X4j
    try clear X4k
    try clear X4l
    try clear X4fa
    try clear X4fb
    try clear X4fc
    try clear X4fd
    try clear X4fe
    try clear X4ff
    try clear X4fg
    try clear X4fh
    try clear X4fi
    try clear X4fj
    try clear X4fk
    try clear X4fl
    obtain ⟨X4l, X4a, X4b, X4c, X4d, X4e, X4f, X4g, X4h, X4i, X4j, X4k, X4l, -, -, -, -, -, -, -, -, -, -, -, -⟩ := X4.facts12
    try clear X5l
    try clear X5a
    try clear X5b
    try clear X5c
    try clear X5fa
    try clear X5fb
    try clear X5fc
    obtain ⟨X5l, X5a, X5b, X5c, -, -, -⟩ := X5.facts3
    cases e2 : endsS t.arc l[k].id
    case false =>
      have hy := Lib.hid (show meetAt s t l[k] = false by rw [hx.out, e2]; simp)
      clear e2
      go_wp2_with fail
      go_roundw
      case rel => exact ⟨k + 1, by omega, by go_num, B2, all_succ (p := fun x => meetAt s t x = false) Hno.out hlt hy.out⟩
      case measure => simp [intOf]; omega
    have H2 := Lib.hid e2; clear e2
    go_wp2_with fail
    refine (HO.out s.a s.b l[k].pt _).mono ?_
    rintro e w4 ⟨rfl, hb4⟩
    replace B2 : Below w1.heap.size w1 w4 := bT B2 hb4
    replace X2 := X2.keep hb4
    replace X3 := X3.keep hb4
    replace X4 := X4.keep hb4
    replace X5 := X5.keep hb4
    clear hb4
    try clear X2l
    try clear X2a
    try clear X2b
    try clear X2c
    try clear X2fa
    try clear X2fb
    try clear X2fc
    obtain ⟨X2l, X2a, X2b, X2c, -, -, -⟩ := X2.facts3
    try clear X3l
    try clear X3a
    try clear X3b
    try clear X3c
    try clear X3d
    try clear X3e
    try clear X3f
    try clear X3g
    try clear X3h
    try clear X3i
    try clear X3j
    try clear X3k
    try clear X3l
    try clear X3fa
    try clear X3fb
    try clear X3fc
    try clear X3fd
    try clear X3fe
    try clear X3ff
    try clear X3fg
    try clear X3fh
    try clear X3fi
    try clear X3fj
    try clear X3fk
    try clear X3fl
    obtain ⟨X3l, X3a, X3b, X3c, X3d, X3e, X3f, X3g, X3h, X3i, X3j, X3k, X3l, -, -, -, -, -, -, -, -, -, -, -, -⟩ := X3.facts12
    try clear X4l
    try clear X4a
    try clear X4b
    try clear X4c
    try clear X4d
    try clear X4e
    try clear X4f
    try clear X4g
    try clear X4h
    try clear X4i
    try clear X4j
    try clear X4k
    try clear X4l
    try clear X4fa
    try clear X4fb
    try clear X4fc
    try clear X4fd
    try clear X4fe
    try clear X4ff
    try clear X4fg
    try clear X4fh
    try clear X4fi
    try clear X4fj
    try clear X4fk
    try clear X4fl
    obtain ⟨X4l, X4a, X4b, X4c, X4d, X4e, X4f, X4g, X4h, X4i, X4j, X4k, X4l, -, -, -, -, -, -, -, -, -, -, -, -⟩ := X4.facts12
    try clear X5l
    try clear X5a
    try clear X5b
    try clear X5c
    try clear X5fa
    try clear X5fb
    try clear X5fc
    obtain ⟨X5l, X5a, X5b, X5c, -, -, -⟩ := X5.facts3
    cases e3 : ronS s.a s.b l[k].pt
    case false =>
      have hy := Lib.hid (show meetAt s t l[k] = false by rw [hx.out, e3]; simp)
      clear e3
      go_wp2_with fail
      go_roundw
      case rel => exact ⟨k + 1, by omega, by go_num, B2, all_succ (p := fun x => meetAt s t x = false) Hno.out hlt hy.out⟩
      case measure => simp [intOf]; omega
    have H3 := Lib.hid e3; clear e3
    go_wp2_with fail
    refine (HO.out t.a t.b l[k].pt _).mono ?_
    rintro e w5 ⟨rfl, hb5⟩
    replace B2 : Below w1.heap.size w1 w5 := bT B2 hb5
    replace X2 := X2.keep hb5
    replace X3 := X3.keep hb5
    replace X4 := X4.keep hb5
    replace X5 := X5.keep hb5
    clear hb5
    try clear X2l
    try clear X2a
    try clear X2b
    try clear X2c
    try clear X2fa
    try clear X2fb
    try clear X2fc
    obtain ⟨X2l, X2a, X2b, X2c, -, -, -⟩ := X2.facts3
    try clear X3l
    try clear X3a
    try clear X3b
    try clear X3c
    try clear X3d
    try clear X3e
    try clear X3f
    try clear X3g
    try clear X3h
    try clear X3i
    try clear X3j
    try clear X3k
    try clear X3l
    try clear X3fa
    try clear X3fb
    try clear X3fc
    try clear X3fd
    try clear X3fe
    try clear X3ff
    try clear X3fg
    try clear X3fh
    try clear X3fi
    try clear X3fj
    try clear X3fk
    try clear X3fl
    obtain ⟨X3l, X3a, X3b, X3c, X3d, X3e, X3f, X3g, X3h, X3i, X3j, X3k, X3l, -, -, -, -, -, -, -, -, -, -, -, -⟩ := X3.facts12
    try clear X4l
    try clear X4a
    try clear X4b
    try clear X4c
    try clear X4d
    try clear X4e
    try clear X4f
    try clear X4g
    try clear X4h
    try clear X4i
    try clear X4j
    try clear X4k
    try clear X4l
    try clear X4fa
    try clear X4fb
    try clear X4fc
    try clear X4fd
    try clear X4fe
    try clear X4ff
    try clear X4fg
    try clear X4fh
    try clear X4fi
    try clear X4fj
    try clear X4fk
    try clear X4fl
    obtain ⟨X4l, X4a, X4b, X4c, X4d, X4e, X4f, X4g, X4h, X4i, X4j, X4k, X4l, -, -, -, -, -, -, -, -, -, -, -, -⟩ := X4.facts12
    try clear X5l
    try clear X5a
    try clear X5b
    try clear X5c
    try clear X5fa
    try clear X5fb
    try clear X5fc
    obtain ⟨X5l, X5a, X5b, X5c, -, -, -⟩ := X5.facts3
    cases e4 : ronS t.a t.b l[k].pt
    case false =>
      have hy := Lib.hid (show meetAt s t l[k] = false by rw [hx.out, e4]; simp)
      clear e4
      go_wp2_with fail
      go_roundw
      case rel => exact ⟨k + 1, by omega, by go_num, B2, all_succ (p := fun x => meetAt s t x = false) Hno.out hlt hy.out⟩
      case measure => simp [intOf]; omega
    have hg := Lib.hid (any_hit l (meetAt s t) k hlt (by rw [hx.out, H1.out, H2.out, H3.out, e4]; rfl))
    clear e4
    go_wp2_with fail
    go_ret
    exact ⟨ret_bool (by rw [← hf.out, hg.out]), bT HB.out B2⟩
end Go.Proofs.YtoclnkfeblfpbaaGreat
namespace Go.Proofs.YtoclnkfeblfpbaaGreat
open Go.RowKit

def isEnd (s : Sg) (x : Nd) : Bool := (((s.i : Int) == 0) && (s.arc.fr == x.id)) || (((s.i : Int) == (s.n : Int) - 1) && (s.arc.dst == x.id))
def offNd (s : Sg) (x : Nd) : Bool := isEnd s x || !ronS s.a s.b x.pt
def soundS (s : Sg) : Bool := !decide (s.a = s.b) && (s.arc.fr != s.arc.dst || decide (3 ≤ (s.n : Int)))
def aloneS (p : Pl) (s : Sg) : Bool := p.nodes.all (offNd s) && soundS s
theorem all_hit {α : Type} (l : List α) (q : α → Bool) (k : Nat) (hk : k < l.length) (h : q l[k] = false) : l.all q = false := List.all_eq_false.2 ⟨l[k], List.getElem_mem hk, by simp [h]⟩
theorem all_miss {α : Type} (l : List α) (q : α → Bool) (h : ∀ j (hj : j < l.length), q l[j] = true) : l.all q = true := List.all_eq_true.2 fun x hx => by
  obtain ⟨i, hi, rfl⟩ := List.mem_iff_getElem.1 hx
  exact h i hi

set_option maxRecDepth 100000 in
set_option maxHeartbeats 2000000 in
theorem alone_spec (v : Value) (p : Pl) (s : Sg) (A : Option Addr) (n c : Nat) (w : World) (h : PlV w v p) (hs1 : s.i ≤ 2097152) (hs2 : s.n ≤ 2097152) :
    Calls Tryz.prog 108 #[v, sgV s (.slice A n c)] w fun e w' => e = .returned (.bool (aloneS p s)) ∧ Below w.heap.size w w' := by
  have TO : ∀ p q r : Pt, ∀ W, Calls Tryz.prog 132 #[ptV p, ptV q, ptV r] W _ := fun p q r W => ROn_spec p q r W
  unfold ptV at TO
  have HO := Lib.hid TO; clear TO
  obtain ⟨_, va, vf, al, rfl, -, ⟨An, cn, rfl, hn1, hn2, hR⟩, -, -⟩ := h
  unfold maxLen at hn2
  have HR := Lib.hid hR; clear hR
  unfold sgV
  obtain ⟨q, hq⟩ : ∃ q, aloneS p s = q := ⟨_, rfl⟩
  rw [hq]
  unfold aloneS at hq
  generalize p.nodes = l at *
  have Hq := Lib.hid hq; clear hq
  go_enter Tryz.func108, Tryz.ntmps108
  go_wp2_with fail
  obtain ⟨W0, hW0⟩ : ∃ W0 : World, W0 = (w.alloc (.cells #[.slice An l.length cn, va, vf] 26)).alloc (.cells #[.int .i64 s.arc.id, .int .i64 s.arc.fr, .int .i64 s.arc.dst, .slice A n c, .int .i64 s.arc.left, .int .i64 s.arc.right, .int .i64 s.i, .int .i64 s.n, .int .i64 s.a.x, .int .i64 s.a.y, .int .i64 s.b.x, .int .i64 s.b.y] 129) := ⟨_, rfl⟩
  have Bw : Below w.heap.size w W0 := by rw [hW0]; exact bA (bA (bR w) _) _
  have X2 : Blk W0 w.heap.size 26 #[.slice An l.length cn, va, vf] := by rw [hW0]; exact (Blk.made rfl _ _).alloc _
  have X3 : Blk W0 (w.heap.size + 1) 129 #[.int .i64 s.arc.id, .int .i64 s.arc.fr, .int .i64 s.arc.dst, .slice A n c, .int .i64 s.arc.left, .int .i64 s.arc.right, .int .i64 s.i, .int .i64 s.n, .int .i64 s.a.x, .int .i64 s.a.y, .int .i64 s.b.x, .int .i64 s.b.y] := by rw [hW0]; exact Blk.made (by simp) _ _
  rw [← hW0]
  have HX2 := Lib.hid X2
  have HX3 := Lib.hid X3
  have HB := Lib.hid Bw
  clear X2 X3 Bw hW0
  go_loopw [5] (fun i wr => ∃ k : Nat, k ≤ l.length ∧ i = .int .i64 k ∧ Below W0.heap.size W0 wr ∧ ∀ j (hj : j < l.length), j < k → offNd s l[j] = true) (fun i _ => l.length - (intOf i).toNat)
  case atStart => exact ⟨0, Nat.zero_le _, rfl, bR W0, fun j _ h => by omega⟩
  case round =>
    obtain ⟨k, hk, rfl, hb, hno⟩ := hrel
    have Hb := Lib.hid hb
    have Hno := Lib.hid hno
    have X2 := HX2.out.keep hb
    have X3 := HX3.out.keep hb
    clear hb hno
    try clear X2l
    try clear X2a
    try clear X2b
    try clear X2c
    try clear X2fa
    try clear X2fb
    try clear X2fc
    obtain ⟨X2l, X2a, X2b, X2c, -, -, -⟩ := X2.facts3
    try clear X3l
    try clear X3a
    try clear X3b
    try clear X3c
    try clear X3d
    try clear X3e
    try clear X3f
    try clear X3g
    try clear X3h
    try clear X3i
    try clear X3j
    try clear X3k
    try clear X3l
    try clear X3fa
    try clear X3fb
    try clear X3fc
    try clear X3fd
    try clear X3fe
    try clear X3ff
    try clear X3fg
    try clear X3fh
    try clear X3fi
    try clear X3fj
    try clear X3fk
    try clear X3fl
    obtain ⟨X3l, X3a, X3b, X3c, X3d, X3e, X3f, X3g, X3h, X3i, X3j, X3k, X3l, -, -, -, -, -, -, -, -, -, -, -, -⟩ := X3.facts12
    by_cases hlt : k < l.length
    case neg =>
      have hg := Lib.hid (all_miss l (offNd s) (fun j hj => Hno.out j hj (by omega)))
      have hf := Lib.hid (show soundS s = q by rw [← Hq.out, hg.out]; rfl)
      have hE := run_neq_pt s.a s.b
      by_cases h1 : s.a = s.b
      · have h1' : decide (s.a = s.b) = true := decide_eq_true h1
        have hz := Lib.hid (show false = soundS s by rw [soundS, h1']; rfl)
        have H1 := Lib.hid h1; clear h1
        go_wp2_with fail
        go_ret
        exact ⟨ret_bool (hz.out.trans hf.out), bT HB.out Hb.out⟩
      · have h1' : decide (s.a = s.b) = false := decide_eq_false h1
        have H1 := Lib.hid h1; clear h1
        cases h2 : (s.arc.fr != s.arc.dst)
        · have hz := Lib.hid (show decide (3 ≤ (s.n : Int)) = soundS s by rw [soundS, h1', h2]; rfl)
          go_wp2_with fail
          go_ret
          exact ⟨ret_bool (hz.out.trans hf.out), bT HB.out Hb.out⟩
        · have hz := Lib.hid (show true = soundS s by rw [soundS, h1', h2]; rfl)
          go_wp2_with fail
          go_ret
          exact ⟨ret_bool (hz.out.trans hf.out), bT HB.out Hb.out⟩
    obtain ⟨b, o, rfl, hlb, c0, c1, c2⟩ := (HR.out.mono (bT HB.out Hb.out)).nd hlt
    go_upto_region 5 with fail
    obtain ⟨W1, hW1⟩ : ∃ W1 : World, W1 = wr.alloc (.cells #[.int .i64 l[k].id, .int .i64 l[k].pt.x, .int .i64 l[k].pt.y] 43) := ⟨_, rfl⟩
    have B1 : Below W0.heap.size W0 W1 := by rw [hW1]; exact bA Hb.out _
    have X6 : Blk W1 wr.heap.size 43 #[.int .i64 l[k].id, .int .i64 l[k].pt.x, .int .i64 l[k].pt.y] := by rw [hW1]; exact Blk.made rfl _ _
    have hA1 : Below wr.heap.size wr W1 := by rw [hW1]; exact bA (bR wr) _
    replace X2 := X2.keep hA1
    replace X3 := X3.keep hA1
    rw [← hW1]
    clear c0 c1 c2 hlb hW1 hA1
    try clear X2l
    try clear X2a
    try clear X2b
    try clear X2c
    try clear X2fa
    try clear X2fb
    try clear X2fc
    obtain ⟨X2l, X2a, X2b, X2c, -, -, -⟩ := X2.facts3
    try clear X3l
    try clear X3a
    try clear X3b
    try clear X3c
    try clear X3d
    try clear X3e
    try clear X3f
    try clear X3g
    try clear X3h
    try clear X3i
    try clear X3j
    try clear X3k
    try clear X3l
    try clear X3fa
    try clear X3fb
    try clear X3fc
    try clear X3fd
    try clear X3fe
    try clear X3ff
    try clear X3fg
    try clear X3fh
    try clear X3fi
    try clear X3fj
    try clear X3fk
    try clear X3fl
    obtain ⟨X3l, X3a, X3b, X3c, X3d, X3e, X3f, X3g, X3h, X3i, X3j, X3k, X3l, -, -, -, -, -, -, -, -, -, -, -, -⟩ := X3.facts12
    try clear X6l
    try clear X6a
    try clear X6b
    try clear X6c
    try clear X6fa
    try clear X6fb
    try clear X6fc
    obtain ⟨X6l, X6a, X6b, X6c, -, -, -⟩ := X6.facts3
    go_cut [7] (fun u wx => u = .bool (isEnd s l[k]) ∧ wx = W1)
    case first =>
      cases h1 : ((s.i : Int) == 0)
      case true =>
        cases h2 : (s.arc.fr == l[k].id)
        case true =>
          have hz := Lib.hid (show true = isEnd s l[k] by rw [isEnd, h1, h2]; rfl)
          go_wp2_with fail
          go_meet
          case rel => exact ⟨congrArg Value.bool hz.out, rfl⟩
        case false =>
          cases h3 : ((s.i : Int) == (s.n : Int) - 1)
          case false =>
            have hz := Lib.hid (show false = isEnd s l[k] by rw [isEnd, h1, h2, h3]; rfl)
            go_wp2_with fail
            go_meet
            case rel => exact ⟨congrArg Value.bool hz.out, rfl⟩
          case true =>
            have hz := Lib.hid (show (s.arc.dst == l[k].id) = isEnd s l[k] by rw [isEnd, h1, h2, h3]; rfl)
            go_wp2_with fail
            go_meet
            case rel => exact ⟨congrArg Value.bool hz.out, rfl⟩
      case false =>
        cases h3 : ((s.i : Int) == (s.n : Int) - 1)
        case false =>
          have hz := Lib.hid (show false = isEnd s l[k] by rw [isEnd, h1, h3]; rfl)
          go_wp2_with fail
          go_meet
          case rel => exact ⟨congrArg Value.bool hz.out, rfl⟩
        case true =>
          have hz := Lib.hid (show (s.arc.dst == l[k].id) = isEnd s l[k] by rw [isEnd, h1, h3]; rfl)
          go_wp2_with fail
          go_meet
          case rel => exact ⟨congrArg Value.bool hz.out, rfl⟩
    case rest =>
      obtain ⟨rfl, rfl⟩ := hcut
      cases e1 : isEnd s l[k]
      case true =>
        have hy := Lib.hid (show offNd s l[k] = true by rw [offNd, e1]; rfl)
        clear e1
        go_wp2_with fail
        go_roundw
        case rel => exact ⟨k + 1, by omega, by go_num, B1, all_succ (p := fun x => offNd s x = true) Hno.out hlt hy.out⟩
        case measure => simp [intOf]; omega
      case false =>
      have E1 := Lib.hid e1; clear e1
      go_wp2_with fail
      refine (HO.out s.a s.b l[k].pt _).mono ?_
      rintro e w4 ⟨rfl, hb4⟩
      have B4 := bT B1 hb4
      cases e3 : ronS s.a s.b l[k].pt
      case false =>
        have hy := Lib.hid (show offNd s l[k] = true by rw [offNd, e3]; simp)
        clear e3
        go_wp2_with fail
        go_roundw
        case rel => exact ⟨k + 1, by omega, by go_num, B4, all_succ (p := fun x => offNd s x = true) Hno.out hlt hy.out⟩
        case measure => simp [intOf]; omega
      case true =>
        have hg := Lib.hid (all_hit l (offNd s) k hlt (by rw [offNd, E1.out, e3]; rfl))
        clear e3
        go_wp2_with fail
        go_ret
        exact ⟨ret_bool (by rw [← Hq.out, hg.out]; rfl), bT HB.out B4⟩
end Go.Proofs.YtoclnkfeblfpbaaGreat
