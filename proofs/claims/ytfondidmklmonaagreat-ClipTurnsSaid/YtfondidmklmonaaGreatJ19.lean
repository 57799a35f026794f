/- mapsheetsref41.pieces: its memory. -/
import Derived.Test.YtfondidmklmonaaGreatJ18
import Derived.Test.YtfondidmklmonaaGreatJ01
import Derived.Test.YtfondidmklmonaaGreatJ03
import Derived.Test.YtfondidmklmonaaGreatJ15
import Derived.Test.YtfondidmklmonaaGreatClipWG
import Derived.Test.YtfondidmklmonaaGreatClipWI
set_option linter.unusedSimpArgs false
set_option linter.unusedVariables false
namespace Go.Proofs.YtfondidmklmonaaGreat
open Go.RowKit

/-- the memory of the reference's 'pieces': the box of the open piece (g8) and the list -/
structure RcM (w : World) (B g8 : Nat) (z : Pc) (L : List (Pc × SV)) (vl vp : Value) (opn : Prop) : Prop where
 x : Blk w g8 55 #[.int .i64 z.arc, vp, .int .i64 z.enter, .int .i64 z.leave]
 pcs : PcsO w B vl L
 n8 : vl.ownBlock ≠ some g8
 path : opn → Own w B 28 2 ptC vp z.path ∧ z.path ≠ [] ∧ ∀ y ∈ L, ∀ k, (Value.slice y.2.a y.2.n y.2.c).ownBlock = some k → some k ≠ vp.ownBlock
section
variable {W : World} {B g8 : Nat} {x : Pc} {L : List (Pc × SV)} {vl vp : Value} {opn : Prop}
theorem RcM.keep {w' : World} (h : RcM W B g8 x L vl vp opn) (hb : Below W.heap.size W w') : RcM w' B g8 x L vl vp opn :=
 ⟨h.x.keep hb, h.pcs.keep hb, h.n8, fun e => ⟨(h.path e).1.keep hb, (h.path e).2⟩⟩
theorem PcsO.far8 {v : Value} (h : PcsO W B v L) (hn : v.ownBlock ≠ some g8) {cs : Array Value} (hg : Blk W g8 55 cs) (i : Nat) (u : Value) : PcsO (W.setCell ⟨g8, i, none⟩ u) B v L :=
 ⟨h.own.far (p := ⟨g8, i, none⟩) hn u, fun y hy => (h.path y hy).far (p := ⟨g8, i, none⟩) (Own.ne_blk (h.path y hy) hg (by decide)) u⟩
theorem RcM.opened (h : RcM W B g8 x L vl vp opn) (hB : B ≤ W.heap.size) (arc : Int) (c : Pt) :
  RcM (((((W.alloc (.cells #[.int .i64 c.x, .int .i64 c.y] 28)).setCell ⟨g8, 0, none⟩ (.int .i64 arc)).setCell ⟨g8, 1, none⟩ (.slice (some ⟨W.heap.size, 0, none⟩) 1 1)).setCell ⟨g8, 2, none⟩ (.int .i64 0)).setCell ⟨g8, 3, none⟩ (.int .i64 0)) B g8 ⟨arc, [c], 0, 0⟩ L vl (.slice (some ⟨W.heap.size, 0, none⟩) 1 1) True := by
 have l8 := h.x.lt
 have h1 := h.keep (bA (bR W) (.cells #[.int .i64 c.x, .int .i64 c.y] 28))
 have b1 : Blk (W.alloc (.cells #[.int .i64 c.x, .int .i64 c.y] 28)) W.heap.size 28 #[.int .i64 c.x, .int .i64 c.y] := Blk.made rfl _ _
 have s0 := h1.x.set_ 0 (.int .i64 arc)
 have s1 := s0.set_ 1 (.slice (some ⟨W.heap.size, 0, none⟩) 1 1)
 have s2 := s1.set_ 2 (.int .i64 0)
 have ne : W.heap.size ≠ g8 := by omega
 refine ⟨Blk.put4 h1.x, (((h1.pcs.far8 h.n8 h1.x _ _).far8 h.n8 s0 _ _).far8 h.n8 s1 _ _).far8 h.n8 s2 _ _, h.n8, fun _ => ⟨?_, by simp, fun y hy k hk e => ?_⟩⟩
 · exact ⟨rfl, .inr ⟨W.heap.size, 1, _, rfl, hB, ((((b1.far (p := ⟨g8, 0, none⟩) ne _).far (p := ⟨g8, 1, none⟩) ne _).far (p := ⟨g8, 2, none⟩) ne _).far (p := ⟨g8, 3, none⟩) ne _), Nat.le_refl _, by simp [maxLen], rfl, rfl⟩⟩
 ·
  have := ((h.pcs.path y hy).lt k hk).2
  have h2 : k = W.heap.size := by simpa [Value.ownBlock] using e
  omega
theorem RcM.added {w5 : World} {v5 : Value} {d : Pt} (h : RcM W B g8 x L vl vp opn) (ho : opn) (h5 : Own w5 B 28 2 ptC v5 (x.path ++ [d])) {o : Obj} (hg : (W.alloc o).grownBy w5 vp.ownBlock) (hat : v5.ownBlock = vp.ownBlock ∨ v5.ownBlock = some (W.alloc o).heap.size) :
  RcM (w5.setCell ⟨g8, 1, none⟩ v5) B g8 ⟨x.arc, x.path ++ [d], x.enter, x.leave⟩ L vl v5 opn := by
 obtain ⟨p1, p2, p3⟩ := h.path ho
 have e7 := Own.ne_blk p1 h.x (by decide)
 have x7 := Blk.grown (h.x.alloc o) hg (fun e => e7 e.symm)
 have hpc : PcsO w5 B vl L := ⟨Own.grown (Own.alloc h.pcs.own o) hg (fun k hk => Own.apart h.pcs.own p1 (by decide) k hk), fun y hy => Own.grown (Own.alloc (h.pcs.path y hy) o) hg (fun k hk => p3 y hy k hk)⟩
 refine ⟨by have := x7.set_ 1 v5; simpa using this, hpc.far8 h.n8 x7 _ _, h.n8, fun _ => ⟨h5.far (p := ⟨g8, 1, none⟩) (Own.ne_blk h5 x7 (by decide)) _, by simp, fun y hy k hk => ?_⟩⟩
 rcases hat with e | e
 · rw [e]; exact p3 y hy k hk
 ·
  rw [e]
  intro h2
  have := ((h.pcs.path y hy).lt k hk).2
  have h3 := Option.some.inj h2
  simp only [World.size_alloc] at h3
  omega
end
end Go.Proofs.YtfondidmklmonaaGreat
