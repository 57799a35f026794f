/- mapsheetsref14.alone. -/
import Derived.Test.YtibchmofckhofaaPlanR
set_option linter.unusedSimpArgs false
set_option linter.unusedVariables false
namespace Go.Proofs.Ytibchmofckhofaa
open Go.RowKit

def isEnd (s : Sg) (x : Nd) : Bool := (((s.i : Int) == 0) && (s.arc.fr == x.id)) || (((s.i : Int) == (s.n : Int) - 1) && (s.arc.dst == x.id))
def offNd (s : Sg) (x : Nd) : Bool := isEnd s x || !ronS s.a s.b x.pt
def soundS (s : Sg) : Bool := !decide (s.a = s.b) && (s.arc.fr != s.arc.dst || decide (3 ≤ (s.n : Int)))
def aloneS (p : Pl) (s : Sg) : Bool := p.nodes.all (offNd s) && soundS s
theorem all_hit {α : Type} (l : List α) (q : α → Bool) (k : Nat) (hk : k < l.length) (h : q l[k] = false) : l.all q = false := List.all_eq_false.2 ⟨l[k], List.getElem_mem hk, by simp [h]⟩
theorem all_miss {α : Type} (l : List α) (q : α → Bool) (h : ∀ j (hj : j < l.length), q l[j] = true) : l.all q = true := List.all_eq_true.2 fun x hx => by
  obtain ⟨i, hi, rfl⟩ := List.mem_iff_getElem.1 hx
  exact h i hi

set_option maxRecDepth 100000 in
set_option maxHeartbeats 2000000 in
theorem alone_spec (v : Value) (p : Pl) (s : Sg) (A : Option Addr) (n c : Nat) (w : World) (h : PlV w v p) (hs1 : s.i ≤ 2097152) (hs2 : s.n ≤ 2097152) :
    Calls Try.prog 72 #[v, sgV s (.slice A n c)] w fun e w' => e = .returned (.bool (aloneS p s)) ∧ Below w.heap.size w w' := by
  have TO : ∀ p q r : Pt, ∀ W, Calls Try.prog 84 #[ptV p, ptV q, ptV r] W _ := fun p q r W => ROn_spec p q r W
  unfold ptV at TO
  have HO := Lib.hid TO; clear TO
  obtain ⟨_, va, vf, al, rfl, -, ⟨An, cn, rfl, hn1, hn2, hR⟩, -, -⟩ := h
  unfold maxLen at hn2
  have HR := Lib.hid hR; clear hR
  unfold sgV
  obtain ⟨q, hq⟩ : ∃ q, aloneS p s = q := ⟨_, rfl⟩
  rw [hq]
  unfold aloneS at hq
  generalize p.nodes = l at *
  have Hq := Lib.hid hq; clear hq
  go_enter Try.func72, Try.ntmps72
  go_wp2_with fail
  obtain ⟨W0, hW0⟩ : ∃ W0 : World, W0 = (w.alloc (.cells #[.slice An l.length cn, va, vf] 26)).alloc (.cells #[.int .i64 s.arc.id, .int .i64 s.arc.fr, .int .i64 s.arc.dst, .slice A n c, .int .i64 s.arc.left, .int .i64 s.arc.right, .int .i64 s.i, .int .i64 s.n, .int .i64 s.a.x, .int .i64 s.a.y, .int .i64 s.b.x, .int .i64 s.b.y] 102) := ⟨_, rfl⟩
  have Bw : Below w.heap.size w W0 := by rw [hW0]; exact bA (bA (bR w) _) _
  have X2 : Blk W0 w.heap.size 26 #[.slice An l.length cn, va, vf] := by rw [hW0]; exact (Blk.made rfl _ _).alloc _
  have X3 : Blk W0 (w.heap.size + 1) 102 #[.int .i64 s.arc.id, .int .i64 s.arc.fr, .int .i64 s.arc.dst, .slice A n c, .int .i64 s.arc.left, .int .i64 s.arc.right, .int .i64 s.i, .int .i64 s.n, .int .i64 s.a.x, .int .i64 s.a.y, .int .i64 s.b.x, .int .i64 s.b.y] := by rw [hW0]; exact Blk.made (by simp) _ _
  rw [← hW0]
  have HX2 := Lib.hid X2
  have HX3 := Lib.hid X3
  have HB := Lib.hid Bw
  clear X2 X3 Bw hW0
  go_loopw [5] (fun i wr => ∃ k : Nat, k ≤ l.length ∧ i = .int .i64 k ∧ Below W0.heap.size W0 wr ∧ ∀ j (hj : j < l.length), j < k → offNd s l[j] = true) (fun i _ => l.length - (intOf i).toNat)
  case atStart => exact ⟨0, Nat.zero_le _, rfl, bR W0, fun j _ h => by omega⟩
  case round =>
    obtain ⟨k, hk, rfl, hb, hno⟩ := hrel
    have Hb := Lib.hid hb
    have Hno := Lib.hid hno
    have X2 := HX2.out.keep hb
    have X3 := HX3.out.keep hb
    clear hb hno
    try clear X2l
    try clear X2a
    try clear X2b
    try clear X2c
    try clear X2fa
    try clear X2fb
    try clear X2fc
    obtain ⟨X2l, X2a, X2b, X2c, -, -, -⟩ := X2.facts3
    try clear X3l
    try clear X3a
    try clear X3b
    try clear X3c
    try clear X3d
    try clear X3e
    try clear X3f
    try clear X3g
    try clear X3h
    try clear X3i
    try clear X3j
    try clear X3k
    try clear X3l
    try clear X3fa
    try clear X3fb
    try clear X3fc
    try clear X3fd
    try clear X3fe
    try clear X3ff
    try clear X3fg
    try clear X3fh
    try clear X3fi
    try clear X3fj
    try clear X3fk
    try clear X3fl
    obtain ⟨X3l, X3a, X3b, X3c, X3d, X3e, X3f, X3g, X3h, X3i, X3j, X3k, X3l, -, -, -, -, -, -, -, -, -, -, -, -⟩ := X3.facts12
    by_cases hlt : k < l.length
    case neg =>
      have hg := Lib.hid (all_miss l (offNd s) (fun j hj => Hno.out j hj (by omega)))
      have hf := Lib.hid (show soundS s = q by rw [← Hq.out, hg.out]; rfl)
      have hE := run_neq_pt s.a s.b
      by_cases h1 : s.a = s.b
      · have h1' : decide (s.a = s.b) = true := decide_eq_true h1
        have hz := Lib.hid (show false = soundS s by rw [soundS, h1']; rfl)
        have H1 := Lib.hid h1; clear h1
        go_wp2_with fail
        go_ret
        exact ⟨ret_bool (hz.out.trans hf.out), bT HB.out Hb.out⟩
      · have h1' : decide (s.a = s.b) = false := decide_eq_false h1
        have H1 := Lib.hid h1; clear h1
        cases h2 : (s.arc.fr != s.arc.dst)
        · have hz := Lib.hid (show decide (3 ≤ (s.n : Int)) = soundS s by rw [soundS, h1', h2]; rfl)
          go_wp2_with fail
          go_ret
          exact ⟨ret_bool (hz.out.trans hf.out), bT HB.out Hb.out⟩
        · have hz := Lib.hid (show true = soundS s by rw [soundS, h1', h2]; rfl)
          go_wp2_with fail
          go_ret
          exact ⟨ret_bool (hz.out.trans hf.out), bT HB.out Hb.out⟩
    obtain ⟨b, o, rfl, hlb, c0, c1, c2⟩ := (HR.out.mono (bT HB.out Hb.out)).nd hlt
    go_upto_region 5 with fail
    obtain ⟨W1, hW1⟩ : ∃ W1 : World, W1 = wr.alloc (.cells #[.int .i64 l[k].id, .int .i64 l[k].pt.x, .int .i64 l[k].pt.y] 32) := ⟨_, rfl⟩
    have B1 : Below W0.heap.size W0 W1 := by rw [hW1]; exact bA Hb.out _
    have X6 : Blk W1 wr.heap.size 32 #[.int .i64 l[k].id, .int .i64 l[k].pt.x, .int .i64 l[k].pt.y] := by rw [hW1]; exact Blk.made rfl _ _
    have hA1 : Below wr.heap.size wr W1 := by rw [hW1]; exact bA (bR wr) _
    replace X2 := X2.keep hA1
    replace X3 := X3.keep hA1
    rw [← hW1]
    clear c0 c1 c2 hlb hW1 hA1
    try clear X2l
    try clear X2a
    try clear X2b
    try clear X2c
    try clear X2fa
    try clear X2fb
    try clear X2fc
    obtain ⟨X2l, X2a, X2b, X2c, -, -, -⟩ := X2.facts3
    try clear X3l
    try clear X3a
    try clear X3b
    try clear X3c
    try clear X3d
    try clear X3e
    try clear X3f
    try clear X3g
    try clear X3h
    try clear X3i
    try clear X3j
    try clear X3k
    try clear X3l
    try clear X3fa
    try clear X3fb
    try clear X3fc
    try clear X3fd
    try clear X3fe
    try clear X3ff
    try clear X3fg
    try clear X3fh
    try clear X3fi
    try clear X3fj
    try clear X3fk
    try clear X3fl
    obtain ⟨X3l, X3a, X3b, X3c, X3d, X3e, X3f, X3g, X3h, X3i, X3j, X3k, X3l, -, -, -, -, -, -, -, -, -, -, -, -⟩ := X3.facts12
    try clear X6l
    try clear X6a
    try clear X6b
    try clear X6c
    try clear X6fa
    try clear X6fb
    try clear X6fc
    obtain ⟨X6l, X6a, X6b, X6c, -, -, -⟩ := X6.facts3
    go_cut [7] (fun u wx => u = .bool (isEnd s l[k]) ∧ wx = W1)
    case first =>
      cases h1 : ((s.i : Int) == 0)
      case true =>
        cases h2 : (s.arc.fr == l[k].id)
        case true =>
          have hz := Lib.hid (show true = isEnd s l[k] by rw [isEnd, h1, h2]; rfl)
          go_wp2_with fail
          go_meet
          case rel => exact ⟨congrArg Value.bool hz.out, rfl⟩
        case false =>
          cases h3 : ((s.i : Int) == (s.n : Int) - 1)
          case false =>
            have hz := Lib.hid (show false = isEnd s l[k] by rw [isEnd, h1, h2, h3]; rfl)
            go_wp2_with fail
            go_meet
            case rel => exact ⟨congrArg Value.bool hz.out, rfl⟩
          case true =>
            have hz := Lib.hid (show (s.arc.dst == l[k].id) = isEnd s l[k] by rw [isEnd, h1, h2, h3]; rfl)
            go_wp2_with fail
            go_meet
            case rel => exact ⟨congrArg Value.bool hz.out, rfl⟩
      case false =>
        cases h3 : ((s.i : Int) == (s.n : Int) - 1)
        case false =>
          have hz := Lib.hid (show false = isEnd s l[k] by rw [isEnd, h1, h3]; rfl)
          go_wp2_with fail
          go_meet
          case rel => exact ⟨congrArg Value.bool hz.out, rfl⟩
        case true =>
          have hz := Lib.hid (show (s.arc.dst == l[k].id) = isEnd s l[k] by rw [isEnd, h1, h3]; rfl)
          go_wp2_with fail
          go_meet
          case rel => exact ⟨congrArg Value.bool hz.out, rfl⟩
    case rest =>
      obtain ⟨rfl, rfl⟩ := hcut
      cases e1 : isEnd s l[k]
      case true =>
        have hy := Lib.hid (show offNd s l[k] = true by rw [offNd, e1]; rfl)
        clear e1
        go_wp2_with fail
        go_roundw
        case rel => exact ⟨k + 1, by omega, by go_num, B1, all_succ (p := fun x => offNd s x = true) Hno.out hlt hy.out⟩
        case measure => simp [intOf]; omega
      case false =>
      have E1 := Lib.hid e1; clear e1
      go_wp2_with fail
      refine (HO.out s.a s.b l[k].pt _).mono ?_
      rintro e w4 ⟨rfl, hb4⟩
      have B4 := bT B1 hb4
      cases e3 : ronS s.a s.b l[k].pt
      case false =>
        have hy := Lib.hid (show offNd s l[k] = true by rw [offNd, e3]; simp)
        clear e3
        go_wp2_with fail
        go_roundw
        case rel => exact ⟨k + 1, by omega, by go_num, B4, all_succ (p := fun x => offNd s x = true) Hno.out hlt hy.out⟩
        case measure => simp [intOf]; omega
      case true =>
        have hg := Lib.hid (all_hit l (offNd s) k hlt (by rw [offNd, E1.out, e3]; rfl))
        clear e3
        go_wp2_with fail
        go_ret
        exact ⟨ret_bool (by rw [← Hq.out, hg.out]; rfl), bT HB.out B4⟩
end Go.Proofs.Ytibchmofckhofaa
