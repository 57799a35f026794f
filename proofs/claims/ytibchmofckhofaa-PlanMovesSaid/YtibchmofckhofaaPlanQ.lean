/- mapsheetsref14.ends, apart. -/
import Derived.Test.YtibchmofckhofaaGE
import Derived.Test.YtibchmofckhofaaPGeo
set_option linter.unusedSimpArgs false
set_option linter.unusedVariables false
namespace Go.Proofs.Ytibchmofckhofaa
open Go.RowKit

structure Sg where
  arc : Ar
  i : Nat
  n : Nat
  a : Pt
  b : Pt
/-- A slice value in a cell. -/
structure SV where
  a : Option Addr
  n : Nat
  c : Nat
def sgC (s : Sg × SV) : List Value := [.int .i64 s.1.arc.id, .int .i64 s.1.arc.fr, .int .i64 s.1.arc.dst, .slice s.2.a s.2.n s.2.c, .int .i64 s.1.arc.left, .int .i64 s.1.arc.right, .int .i64 s.1.i, .int .i64 s.1.n, .int .i64 s.1.a.x, .int .i64 s.1.a.y, .int .i64 s.1.b.x, .int .i64 s.1.b.y]
def sgV (s : Sg) (v : Value) : Value := .agg #[.int .i64 s.arc.id, .int .i64 s.arc.fr, .int .i64 s.arc.dst, v, .int .i64 s.arc.left, .int .i64 s.arc.right, .int .i64 s.i, .int .i64 s.n, .int .i64 s.a.x, .int .i64 s.a.y, .int .i64 s.b.x, .int .i64 s.b.y]
theorem Blk.facts12 {w : World} {g : Nat} {t : TypeId} {v0 v1 v2 v3 v4 v5 v6 v7 v8 v9 v10 v11 : Value} (h : Blk w g t #[v0, v1, v2, v3, v4, v5, v6, v7, v8, v9, v10, v11]) :
    g < w.heap.size ∧ w.cell? ⟨g, 0, none⟩ = some v0 ∧ w.cell? ⟨g, 1, none⟩ = some v1 ∧ w.cell? ⟨g, 2, none⟩ = some v2 ∧ w.cell? ⟨g, 3, none⟩ = some v3 ∧ w.cell? ⟨g, 4, none⟩ = some v4 ∧ w.cell? ⟨g, 5, none⟩ = some v5 ∧ w.cell? ⟨g, 6, none⟩ = some v6 ∧ w.cell? ⟨g, 7, none⟩ = some v7 ∧ w.cell? ⟨g, 8, none⟩ = some v8 ∧ w.cell? ⟨g, 9, none⟩ = some v9 ∧ w.cell? ⟨g, 10, none⟩ = some v10 ∧ w.cell? ⟨g, 11, none⟩ = some v11 ∧
    w.frozen? ⟨g, 0, none⟩ = false ∧ w.frozen? ⟨g, 1, none⟩ = false ∧ w.frozen? ⟨g, 2, none⟩ = false ∧ w.frozen? ⟨g, 3, none⟩ = false ∧ w.frozen? ⟨g, 4, none⟩ = false ∧ w.frozen? ⟨g, 5, none⟩ = false ∧ w.frozen? ⟨g, 6, none⟩ = false ∧ w.frozen? ⟨g, 7, none⟩ = false ∧ w.frozen? ⟨g, 8, none⟩ = false ∧ w.frozen? ⟨g, 9, none⟩ = false ∧ w.frozen? ⟨g, 10, none⟩ = false ∧ w.frozen? ⟨g, 11, none⟩ = false :=
  ⟨h.lt, h.cell 0, h.cell 1, h.cell 2, h.cell 3, h.cell 4, h.cell 5, h.cell 6, h.cell 7, h.cell 8, h.cell 9, h.cell 10, h.cell 11, h.frozen 0, h.frozen 1, h.frozen 2, h.frozen 3, h.frozen 4, h.frozen 5, h.frozen 6, h.frozen 7, h.frozen 8, h.frozen 9, h.frozen 10, h.frozen 11⟩

def endsS (a : Ar) (id : Int) : Bool := a.fr == id || a.dst == id
set_option maxHeartbeats 1000000 in
theorem ends_spec (a : Ar) (A : Option Addr) (n c : Nat) (id : Int) (w : World) :
    Calls Try.prog 86 #[.agg #[.int .i64 a.id, .int .i64 a.fr, .int .i64 a.dst, .slice A n c, .int .i64 a.left, .int .i64 a.right], .int .i64 id] w fun e w' => e = .returned (.bool (endsS a id)) ∧ Below w.heap.size w w' := by
  unfold endsS
  cases h1 : (a.fr == id)
  · cases h2 : (a.dst == id)
    all_goals
      go_enter Try.func86, Try.ntmps86
      go_wp2_with fail
      go_ret
      exact ⟨rfl, bA (bR w) _⟩
  · go_enter Try.func86, Try.ntmps86
    go_wp2_with fail
    go_ret
    exact ⟨rfl, bA (bR w) _⟩

def apartS (s t : Sg) : Bool := if t.i = s.i + 1 ∨ (s.i = 0 ∧ t.i + 1 = t.n ∧ s.arc.fr = s.arc.dst) then rmeetS s.a s.b t.a t.b == 1 else rmeetS s.a s.b t.a t.b == 0
set_option maxRecDepth 100000 in
set_option maxHeartbeats 1000000 in
theorem apart_spec (s t : Sg) (A A' : Option Addr) (n n' c c' : Nat) (w : World) (hs : s.i ≤ 2097152) (ht : t.n ≤ 2097152) (ht' : 1 ≤ t.n) :
    Calls Try.prog 73 #[sgV s (.slice A n c), sgV t (.slice A' n' c')] w fun e w' => e = .returned (.bool (apartS s t)) ∧ Below w.heap.size w w' := by
  have TM : ∀ W, Calls Try.prog 85 #[ptV s.a, ptV s.b, ptV t.a, ptV t.b] W _ := fun W => RMeet_spec s.a s.b t.a t.b W
  unfold ptV at TM
  have HM := Lib.hid TM; clear TM
  unfold sgV
  obtain ⟨q, hq⟩ : ∃ q, apartS s t = q := ⟨_, rfl⟩
  rw [hq]
  unfold apartS at hq
  have Hq := Lib.hid hq; clear hq
  go_enter Try.func73, Try.ntmps73
  go_wp2_with fail
  refine (HM.out _).mono ?_
  rintro e w1 ⟨rfl, hb1⟩
  have Bw : Below w.heap.size w w1 := by
    repeat (first | with_reducible exact bR _ | with_reducible assumption | with_reducible refine bA ?_ _ | with_reducible refine bD ?_ | with_reducible refine bN ?_ _ | ((with_reducible refine bS ?_ ?_ _); rotate_left; (simp; try omega)) | ((with_reducible refine bT ?_ ?_); rotate_left; with_reducible assumption) | with_reducible refine bT ?_ (by assumption))
  have X2 : Blk _ (w.heap.size) 102 #[.int .i64 s.arc.id, .int .i64 s.arc.fr, .int .i64 s.arc.dst, .slice A n c, .int .i64 s.arc.left, .int .i64 s.arc.right, .int .i64 s.i, .int .i64 s.n, .int .i64 s.a.x, .int .i64 s.a.y, .int .i64 s.b.x, .int .i64 s.b.y] := Blk.keep (by repeat (first | exact Blk.made (by simp) _ _ | refine Blk.alloc ?_ _)) hb1
  have X3 : Blk _ (w.heap.size + 1) 102 #[.int .i64 t.arc.id, .int .i64 t.arc.fr, .int .i64 t.arc.dst, .slice A' n' c', .int .i64 t.arc.left, .int .i64 t.arc.right, .int .i64 t.i, .int .i64 t.n, .int .i64 t.a.x, .int .i64 t.a.y, .int .i64 t.b.x, .int .i64 t.b.y] := Blk.keep (by repeat (first | exact Blk.made (by simp) _ _ | refine Blk.alloc ?_ _)) hb1
  clear hb1
  generalize rmeetS s.a s.b t.a t.b = m at *
  try clear X2l
  try clear X2a
  try clear X2b
  try clear X2c
  try clear X2d
  try clear X2e
  try clear X2f
  try clear X2g
  try clear X2h
  try clear X2i
  try clear X2j
  try clear X2k
  try clear X2l
  try clear X2fa
  try clear X2fb
  try clear X2fc
  try clear X2fd
  try clear X2fe
  try clear X2ff
  try clear X2fg
  try clear X2fh
  try clear X2fi
  try clear X2fj
  try clear X2fk
  try clear X2fl
  obtain ⟨X2l, X2a, X2b, X2c, X2d, X2e, X2f, X2g, X2h, X2i, X2j, X2k, X2l, -, -, -, -, -, -, -, -, -, -, -, -⟩ := X2.facts12
  try clear X3l
  try clear X3a
  try clear X3b
  try clear X3c
  try clear X3d
  try clear X3e
  try clear X3f
  try clear X3g
  try clear X3h
  try clear X3i
  try clear X3j
  try clear X3k
  try clear X3l
  try clear X3fa
  try clear X3fb
  try clear X3fc
  try clear X3fd
  try clear X3fe
  try clear X3ff
  try clear X3fg
  try clear X3fh
  try clear X3fi
  try clear X3fj
  try clear X3fk
  try clear X3fl
  obtain ⟨X3l, X3a, X3b, X3c, X3d, X3e, X3f, X3g, X3h, X3i, X3j, X3k, X3l, -, -, -, -, -, -, -, -, -, -, -, -⟩ := X3.facts12
  cases h1 : ((t.i : Int) == (s.i : Int) + 1)
  case true =>
    have hf := Lib.hid (show (m == 1) = q by rw [← Hq.out, if_pos]; left; have := eq_of_beq h1; omega)
    go_wp2_with fail
    go_ret
    exact ⟨ret_bool hf.out, Bw⟩
  case false =>
    cases h2 : ((s.i : Int) == 0)
    case false =>
      have hf := Lib.hid (show (m == 0) = q by rw [← Hq.out, if_neg]; simp only [beq_eq_false_iff_ne] at h1 h2; omega)
      go_wp2_with fail
      go_ret
      exact ⟨ret_bool hf.out, Bw⟩
    case true =>
      cases h3 : ((t.i : Int) == (t.n : Int) - 1)
      case false =>
        have hf := Lib.hid (show (m == 0) = q by rw [← Hq.out, if_neg]; simp only [beq_eq_false_iff_ne, beq_iff_eq] at h1 h2 h3; omega)
        go_wp2_with fail
        go_ret
        exact ⟨ret_bool hf.out, Bw⟩
      case true =>
        cases h4 : (s.arc.fr == s.arc.dst)
        case false =>
          have hf := Lib.hid (show (m == 0) = q by rw [← Hq.out, if_neg]; simp only [beq_eq_false_iff_ne, beq_iff_eq] at h1 h2 h3 h4; omega)
          go_wp2_with fail
          go_ret
          exact ⟨ret_bool hf.out, Bw⟩
        case true =>
          have hf := Lib.hid (show (m == 1) = q by rw [← Hq.out, if_pos]; simp only [beq_eq_false_iff_ne, beq_iff_eq] at h1 h2 h3 h4; omega)
          go_wp2_with fail
          go_ret
          exact ⟨ret_bool hf.out, Bw⟩
end Go.Proofs.Ytibchmofckhofaa
