/- Plain law: the ends of the reference's part are ends of the segment, or lie where the box cuts it. No walk here. mapsheetsref09.at. (printed by gen/clipre.py) -/
import Derived.Test.YtfondidmklmonaaGreatJ02
import Derived.Test.YtfondidmklmonaaGreatClipRD
import Derived.Test.YtfondidmklmonaaGreatJ05
import Derived.Test.YtfondidmklmonaaGreatJ19
set_option linter.unusedSimpArgs false
set_option linter.unusedVariables false
namespace Go.Proofs.YtfondidmklmonaaGreat
open Go.RowKit

def GoodQ (a b : Pt) (x : Bx) (n d : Int) : Prop :=
 n = 0 ∨ n = d ∨ (∃ E, (E = x.x0 ∨ E = x.x1) ∧ b.x - a.x ≠ 0 ∧ (b.x - a.x) * n = (E - a.x) * d) ∨ (∃ E, (E = x.y0 ∨ E = x.y1) ∧ b.y - a.y ≠ 0 ∧ (b.y - a.y) * n = (E - a.y) * d)
theorem good_move {w k n d m e : Int} (he : 0 < e) (h : m * d = n * e) (hk : w * m = k * e) : w * n = k * d := by
 have : w * n * e = k * d * e := by
  rw [Int.mul_assoc, ← h, ← Int.mul_assoc, hk, Int.mul_assoc, Int.mul_assoc, Int.mul_comm e d]
 exact Int.eq_of_mul_eq_mul_right (by omega) this
theorem good_Q {a b : Pt} {x : Bx} {p : Plc} (hp : 0 < p.d) (h : GoodAt a b x p) {n d : Int} (hv : p.n * d = n * p.d) : GoodQ a b x n d := by
 rcases h with ⟨h1, -⟩ | ⟨h1, -⟩ | ⟨E, h1, h2, h3, -⟩ | ⟨E, h1, h2, h3, -⟩
 ·
  left
  rw [h1, Int.zero_mul] at hv
  rcases Int.mul_eq_zero.1 hv.symm with h | h
  · exact h
  · omega
 ·
  right; left
  rw [h1, Int.mul_comm] at hv
  exact (Int.eq_of_mul_eq_mul_right (by omega) hv).symm
 · exact .inr (.inr (.inl ⟨E, h1, h2, good_move hp hv h3⟩))
 · exact .inr (.inr (.inr ⟨E, h1, h2, good_move hp hv h3⟩))
/-- what the program's state is, where there is a part -/
theorem clip_good (a b : Pt) (x : Bx) (h : ¬ ((clipSt a b x).ok = false ∨ (clipSt a b x).last.n * (clipSt a b x).first.d < (clipSt a b x).first.n * (clipSt a b x).last.d)) :
  Par (clipSt a b x).first.n (clipSt a b x).first.d ∧ Par (clipSt a b x).last.n (clipSt a b x).last.d ∧ leQ (clipSt a b x).first.n (clipSt a b x).first.d (clipSt a b x).last.n (clipSt a b x).last.d ∧ GoodAt a b x (clipSt a b x).first ∧ GoodAt a b x (clipSt a b x).last ∧
  ∀ n d, Par n d → (InQ a b x n d ↔ leQ (clipSt a b x).first.n (clipSt a b x).first.d n d ∧ leQ n d (clipSt a b x).last.n (clipSt a b x).last.d) := by
 have i0 := cl0_ok a b
 have i1 := limit_ok i0 a.x (b.x - a.x) x.x0 x.x1 (atX a b)
 have i2 := limit_ok i1 a.y (b.y - a.y) x.y0 x.y1 (atY a b)
 have g1 := limit_good (a := a) (b := b) (x := x) i0.first i0.last (.inl ⟨rfl, rfl⟩) (.inr (.inl ⟨rfl, rfl⟩)) a.x (b.x - a.x) x.x0 x.x1 (atX a b)
  (fun hw p v hv hp he => .inr (.inr (.inl ⟨v, hv, hw, he, hp⟩)))
 have g2 := limit_good (a := a) (b := b) (x := x) i1.first i1.last g1.1 g1.2 a.y (b.y - a.y) x.y0 x.y1 (atY a b)
  (fun hw p v hv hp he => .inr (.inr (.inr ⟨v, hv, hw, he, hp⟩)))
 unfold clipSt at *
 generalize limitS (limitS ⟨⟨0, 1, a⟩, ⟨1, 1, b⟩, true⟩ a.x (b.x - a.x) x.x0 x.x1 (atX a b)) a.y (b.y - a.y) x.y0 x.y1 (atY a b) = st at *
 have hC : ∀ n d, ((True ∧ Btw a.x (b.x - a.x) x.x0 x.x1 n d) ∧ Btw a.y (b.y - a.y) x.y0 x.y1 n d) ↔ InQ a b x n d := fun n d => by
  unfold InQ; simp
 have hk : st.ok = true := by
  cases hk : st.ok
  · exact absurd (.inl hk) h
  · rfl
 refine ⟨i2.first, i2.last, ?_, g2.1, g2.2, fun n d hp => by rw [← hC]; exact i2.yes hk n d hp⟩
 unfold leQ
 have : ¬ st.last.n * st.first.d < st.first.n * st.last.d := fun e => h (.inr e)
 omega
def rlimS (a b : Pt) (x : Bx) : RLim := betweenS (betweenS ⟨(0, 1), (1, 1), false⟩ a.x b.x x.x0 x.x1) a.y b.y x.y0 x.y1
theorem rlim_some (a b : Pt) (x : Bx) (hx : x.x0 ≤ x.x1) (hy : x.y0 ≤ x.y1) (h : ¬ ((rlimS a b x).none = true ∨ 0 < cmpF (rlimS a b x).lo (rlimS a b x).hi)) :
  Par (rlimS a b x).lo.1 (rlimS a b x).lo.2 ∧ Par (rlimS a b x).hi.1 (rlimS a b x).hi.2 ∧ leQ (rlimS a b x).lo.1 (rlimS a b x).lo.2 (rlimS a b x).hi.1 (rlimS a b x).hi.2 ∧
  ∀ n d, Par n d → (InQ a b x n d ↔ leQ (rlimS a b x).lo.1 (rlimS a b x).lo.2 n d ∧ leQ n d (rlimS a b x).hi.1 (rlimS a b x).hi.2) := by
 have i0 : RLI ⟨(0, 1), (1, 1), false⟩ (fun _ _ => True) := ⟨by decide, by decide, fun _ n d hp => ⟨fun _ => by unfold leQ; have := hp.2; constructor <;> simp only <;> omega, fun _ => trivial⟩, fun h => by cases h⟩
 have i2 := between_ok (between_ok i0 a.x b.x x.x0 x.x1 hx) a.y b.y x.y0 x.y1 hy
 unfold rlimS at *
 generalize betweenS (betweenS ⟨(0, 1), (1, 1), false⟩ a.x b.x x.x0 x.x1) a.y b.y x.y0 x.y1 = l at *
 have hC : ∀ n d, ((True ∧ Btw a.x (b.x - a.x) x.x0 x.x1 n d) ∧ Btw a.y (b.y - a.y) x.y0 x.y1 n d) ↔ InQ a b x n d := fun n d => by
  unfold InQ; simp
 have hk : l.none = false := by
  cases hk : l.none
  · rfl
  · exact absurd (.inl hk) h
 have hle : leQ l.lo.1 l.lo.2 l.hi.1 l.hi.2 := by
  have : ¬ 0 < cmpF l.lo l.hi := fun e => h (.inr e)
  rw [(cmpF_lt _ _).2] at this
  unfold leQ; omega
 have plo : Par l.lo.1 l.lo.2 := by
  refine ⟨i2.lo.1, i2.lo.2, ?_⟩
  have h1 := leQ_trans (n3 := 1) (d3 := 1) i2.lo.1 i2.hi.1 (by decide) hle (by unfold leQ; have := i2.hi.2; omega)
  unfold leQ at h1
  omega
 have phi : Par l.hi.1 l.hi.2 := by
  refine ⟨i2.hi.1, ?_, i2.hi.2⟩
  have h1 := leQ_trans (n1 := 0) (d1 := 1) (by decide) i2.lo.1 i2.hi.1 (by unfold leQ; have := i2.lo.2; omega) hle
  unfold leQ at h1
  omega
 exact ⟨plo, phi, hle, fun n d hp => by rw [← hC]; exact i2.yes hk n d hp⟩
/-- the ends of the reference's limits -/
theorem rlim_good (a b : Pt) (x : Bx) (hx : x.x0 ≤ x.x1) (hy : x.y0 ≤ x.y1) (h : ¬ ((rlimS a b x).none = true ∨ 0 < cmpF (rlimS a b x).lo (rlimS a b x).hi)) :
  Par (rlimS a b x).lo.1 (rlimS a b x).lo.2 ∧ Par (rlimS a b x).hi.1 (rlimS a b x).hi.2 ∧ GoodQ a b x (rlimS a b x).lo.1 (rlimS a b x).lo.2 ∧ GoodQ a b x (rlimS a b x).hi.1 (rlimS a b x).hi.2 := by
 obtain ⟨p1, p2, p3, p4⟩ := rlim_some a b x hx hy h
 have hin : InQ a b x (rlimS a b x).lo.1 (rlimS a b x).lo.2 := (p4 _ _ p1).2 ⟨Int.le_refl _, p3⟩
 have hin2 : InQ a b x (rlimS a b x).hi.1 (rlimS a b x).hi.2 := (p4 _ _ p2).2 ⟨p3, Int.le_refl _⟩
 have hst : ¬ ((clipSt a b x).ok = false ∨ (clipSt a b x).last.n * (clipSt a b x).first.d < (clipSt a b x).first.n * (clipSt a b x).last.d) := by
  intro e
  have hn : clipS a b x = none := if_pos e
  have := clip_is a b x
  rw [hn] at this
  exact this _ _ p1 hin
 obtain ⟨c1, c2, c3, c4, c5, c6⟩ := clip_good a b x hst
 generalize clipSt a b x = st at *
 generalize rlimS a b x = l at *
 have e1 := (c6 _ _ p1).1 hin
 have e2 := (c6 _ _ p2).1 hin2
 have e3 := (p4 _ _ c1).1 ((c6 _ _ c1).2 ⟨Int.le_refl _, c3⟩)
 have e4 := (p4 _ _ c2).1 ((c6 _ _ c2).2 ⟨c3, Int.le_refl _⟩)
 unfold leQ at e1 e2 e3 e4
 exact ⟨p1, p2, good_Q c1.1 c4 (by omega), good_Q c2.1 c5 (by omega)⟩
end Go.Proofs.YtfondidmklmonaaGreat
namespace Go.Proofs.YtfondidmklmonaaGreat
open Go.RowKit

theorem quot_btw {u n d k : Int} (hd : 0 < d) (n0 : 0 ≤ n) (nd : n ≤ d) (h : u * n = k * d) : (0 ≤ k ∧ k ≤ u) ∨ (u ≤ k ∧ k ≤ 0) := by
 rcases Int.lt_or_le u 0 with hu | hu
 ·
  right
  constructor
  ·
   have := Int.mul_le_mul_of_nonneg_left nd (show 0 ≤ -u by omega)
   rw [Int.neg_mul, Int.neg_mul, h] at this
   exact Int.le_of_mul_le_mul_right (by omega) hd
  ·
   have : u * n ≤ 0 := Int.mul_nonpos_of_nonpos_of_nonneg (by omega) n0
   rw [h] at this
   exact Int.le_of_mul_le_mul_right (by rw [Int.zero_mul]; exact this) hd
 ·
  left
  constructor
  ·
   have : 0 ≤ u * n := Int.mul_nonneg hu n0
   rw [h] at this
   exact Int.le_of_mul_le_mul_right (by rw [Int.zero_mul]; exact this) hd
  ·
   have := Int.mul_le_mul_of_nonneg_left nd hu
   rw [h] at this
   exact Int.le_of_mul_le_mul_right this hd
theorem quot_bd {u n d k m : Int} (hu : -m ≤ u ∧ u ≤ m) (hd : 0 < d) (n0 : 0 ≤ n) (nd : n ≤ d) (hm : 0 ≤ m) (h : u * n = k * d) : -m ≤ k ∧ k ≤ m := by
 have := quot_btw hd n0 nd h
 omega
theorem tmod_bd {x d : Int} (hd : 0 < d) : -d < x.tmod d ∧ x.tmod d < d := by
 have h1 := Int.tmod_lt_of_pos x hd
 have h2 := Int.tmod_lt_of_pos (-x) hd
 rw [Int.neg_tmod] at h2
 omega
set_option maxRecDepth 100000 in
set_option maxHeartbeats 4000000 in
theorem atA_spec (a b : Pt) (x : Bx) (n d : Int) (k1 k2 : Int) (w : World) (ha : bdP a) (hb : bdP b) (n0 : 0 ≤ n) (nd : n ≤ d) (hd : 0 < d) (hd2 : d ≤ 1073741824) (h1 : (b.x - a.x) * n = k1 * d) (h2 : (b.y - a.y) * n = k2 * d) :
  Calls Tryz.prog 106 #[ptV a, ptV b, frV (n, d), bxV x] w fun e w' => e = .returned (ptV ⟨a.x + k1, a.y + k2⟩) ∧ Below w.heap.size w w' := by
 obtain ⟨⟨a1, a2⟩, a3, a4⟩ := ha
 obtain ⟨⟨b1, b2⟩, b3, b4⟩ := hb
 have u1 : IntKind.i64.wrap (b.x - a.x) = b.x - a.x := IntWalk.i64_in _ (by omega)
 have u2 : IntKind.i64.wrap (b.y - a.y) = b.y - a.y := IntWalk.i64_in _ (by omega)
 have m1 := mul_abs (u := b.x - a.x) (v := n) (m := 2097152) (n := 1073741824) (by omega) (by omega)
 have m2 := mul_abs (u := b.y - a.y) (v := n) (m := 2097152) (n := 1073741824) (by omega) (by omega)
 have u3 : IntKind.i64.wrap ((b.x - a.x) * n) = (b.x - a.x) * n := IntWalk.i64_in _ (by omega)
 have u4 : IntKind.i64.wrap ((b.y - a.y) * n) = (b.y - a.y) * n := IntWalk.i64_in _ (by omega)
 have d0 : ¬ d = 0 := by omega
 have d1 : (d == 0) = false := by simpa using d0
 generalize hP : (b.x - a.x) * n = P at *
 generalize hQ : (b.y - a.y) * n = Q at *
 have t1 : P.tmod d = 0 := by rw [h1]; exact Int.mul_tmod_left _ _
 have t2 : Q.tmod d = 0 := by rw [h2]; exact Int.mul_tmod_left _ _
 have t3 : P.tdiv d = k1 := by rw [h1]; exact Int.mul_tdiv_cancel _ d0
 have t4 : Q.tdiv d = k2 := by rw [h2]; exact Int.mul_tdiv_cancel _ d0
 have bk1 := quot_bd (m := 2097152) (by omega) hd n0 nd (by omega) (hP.trans h1)
 have bk2 := quot_bd (m := 2097152) (by omega) hd n0 nd (by omega) (hQ.trans h2)
 have v1 : IntKind.i64.wrap k1 = k1 := IntWalk.i64_in _ (by omega)
 have v2 : IntKind.i64.wrap k2 = k2 := IntWalk.i64_in _ (by omega)
 have v3 : IntKind.i64.wrap (a.x + k1) = a.x + k1 := IntWalk.i64_in _ (by omega)
 have v4 : IntKind.i64.wrap (a.y + k2) = a.y + k2 := IntWalk.i64_in _ (by omega)
 clear h1 h2 n0 nd hd hd2 bk1 bk2
 unfold ptV bxV frV at *
 dsimp only at *
 obtain ⟨p1, hp1⟩ : ∃ p1, a.x + k1 = p1 := ⟨_, rfl⟩
 obtain ⟨p2, hp2⟩ : ∃ p2, a.y + k2 = p2 := ⟨_, rfl⟩
 rw [hp1] at v3
 rw [hp2] at v4
 rw [hp1, hp2]
 obtain ⟨g4, hg4⟩ : ∃ g, w.heap.size = g := ⟨_, rfl⟩
 obtain ⟨g5, hg5⟩ : ∃ g, g4 + 1 = g := ⟨_, rfl⟩
 obtain ⟨g6, hg6⟩ : ∃ g, g5 + 1 = g := ⟨_, rfl⟩
 obtain ⟨g7, hg7⟩ : ∃ g, g6 + 1 = g := ⟨_, rfl⟩
 obtain ⟨g8, hg8⟩ : ∃ g, g7 + 1 = g := ⟨_, rfl⟩
 obtain ⟨W, hW⟩ : ∃ W : World, W = ((((w.alloc (.cells #[.int .i64 a.x, .int .i64 a.y] 28)).alloc (.cells #[.int .i64 b.x, .int .i64 b.y] 28)).alloc (.cells #[.int .i64 n, .int .i64 d] 139)).alloc (.cells #[.int .i64 x.x0, .int .i64 x.y0, .int .i64 x.x1, .int .i64 x.y1] 50)).alloc (.cells #[.int .i64 0, .int .i64 0] 28) := ⟨_, rfl⟩
 have HBw := Lib.hid (show Below w.heap.size w W by rw [hW]; exact bA (bA (bA (bA (bA (bR w) _) _) _) _) _)
 have X4 : Blk W g4 28 #[.int .i64 a.x, .int .i64 a.y] := by rw [hW]; exact ((((Blk.made hg4.symm _ _).alloc _).alloc _).alloc _).alloc _
 have X5 : Blk W g5 28 #[.int .i64 b.x, .int .i64 b.y] := by rw [hW]; exact (((Blk.made (by simp; omega) _ _).alloc _).alloc _).alloc _
 have X6 : Blk W g6 139 #[.int .i64 n, .int .i64 d] := by rw [hW]; exact ((Blk.made (by simp; omega) _ _).alloc _).alloc _
 have X7 : Blk W g7 50 #[.int .i64 x.x0, .int .i64 x.y0, .int .i64 x.x1, .int .i64 x.y1] := by rw [hW]; exact (Blk.made (by simp; omega) _ _).alloc _
 have X8 : Blk W g8 28 #[.int .i64 0, .int .i64 0] := by rw [hW]; exact Blk.made (by simp; omega) _ _
 go_enter Tryz.func106, Tryz.ntmps106
 go_upto_region 1 with fail
 try rw [← hW]
 have hq0 : w.heap.size ≤ g8 := by omega
 have q4 : g4 < g8 := by omega
 have q5 : g5 < g8 := by omega
 have q6 : g6 < g8 := by omega
 have q7 : g7 < g8 := by omega
 clear hW hg4 hg5 hg6 hg7 hg8 a1 a2 a3 a4 b1 b2 b3 b4 m1 m2
 obtain ⟨X4l, X4a, X4b, -, -⟩ := X4.facts2
 obtain ⟨X5l, X5a, X5b, -, -⟩ := X5.facts2
 obtain ⟨X6l, X6a, X6b, -, -⟩ := X6.facts2
 refine rg_start (Since W) (.run 18 0 0 (.done)) (by kernel_rfl) (bD (bR _)) (by kernel_rfl) (by kernel_rfl) (Nat.le_of_ble_eq_true (by kernel_rfl)) ?_
 intro opsR QR Hops HQrg hS
 iterate 18
  apply rg_p; exact Hops; exact rfl; exact hS; exact rfl
  · intro _ hqc; go_simp; try rfl
  try simp only [pu]
 refine rg_done ?_
 refine HQrg.down _ _ ?_
 have hB : Below W.heap.size W W.drew := hS
 clear hS HQrg Hops
 obtain ⟨W1, hW1⟩ : ∃ W1 : World, W1 = W.drew := ⟨_, rfl⟩
 rw [← hW1] at hB ⊢
 clear hW1
 replace X4 := X4.keep hB
 replace X5 := X5.keep hB
 replace X6 := X6.keep hB
 replace X7 := X7.keep hB
 replace X8 := X8.keep hB
 have HB1 := Lib.hid (bT HBw.out hB)
 clear hB HBw
 try clear X4l
 try clear X4a
 try clear X4b
 obtain ⟨X4l, X4a, X4b, -, -⟩ := X4.facts2
 try clear X5l
 try clear X5a
 try clear X5b
 obtain ⟨X5l, X5a, X5b, -, -⟩ := X5.facts2
 try clear X6l
 try clear X6a
 try clear X6b
 obtain ⟨X6l, X6a, X6b, -, -⟩ := X6.facts2
 obtain ⟨X7l, X7a, X7b, X7c, X7d, -, -, -, -⟩ := X7.facts4
 have HX8 := Lib.hid X8
 go_upto_region 3 with fail
 obtain ⟨f8l, f8a, f8b, f8c, f8d⟩ := X8.facts2
 refine rg_start (SinceB (g8) W1) (.run 15 0 0 (.call 15 65535 (.done))) (by kernel_rfl) (Below.drew (Below.refl _ _)) (by kernel_rfl) (by kernel_rfl) (Nat.le_of_ble_eq_true (by kernel_rfl)) ?_
 intro opsR QR Hops HQrg hS
 iterate 15
  apply rg_pB; exact Hops; exact rfl; exact hS; exact rfl
  · intro _ hqc; go_simp; try rfl
  try simp only [pu]
 refine rg_call (i := 15) (get_of Hops rfl) (fun K hK => ?_)
 have HSrg := Lib.hid hS; clear hS
 refine rg_run (wanted_plain rfl) ?_
 go_simp
 refine hK.out _ _ (by unfold SinceB; have h : Below _ _ _ := HSrg.out; repeat (first | with_reducible assumption | with_reducible exact Below.refl _ _ | with_reducible refine bSB ?_ (by first | omega | (simp; omega)) _ | with_reducible refine Below.drew ?_ | with_reducible refine bAB (by omega) ?_ _ | exact h)) ?_
 intro hS
 clear hK K HSrg
 try simp only [pu]
 refine rg_done ?_
 refine HQrg.down _ _ ?_
 have hB : Below (g8) W1 _ := hS
 clear hS HQrg Hops
 go_wp2_with fail
 exact res_cell (g := g8) (cs := #[.int .i64 p1, .int .i64 p2]) rfl struct_pt rfl rfl (Blk.drew_ (Blk.put2 HX8.out)) ⟨rfl, HB1.out.trans (hB.mono hq0)⟩
set_option maxRecDepth 100000 in
set_option maxHeartbeats 4000000 in
theorem atB_spec (a b : Pt) (x : Bx) (n d : Int) (k1 : Int) (w : World) (ha : bdP a) (hb : bdP b) (n0 : 0 ≤ n) (nd : n ≤ d) (hd : 0 < d) (hd2 : d ≤ 1073741824) (h1 : (b.x - a.x) * n = k1 * d) (h2 : ¬ ((b.y - a.y) * n).tmod d = 0) (hne : ¬ b.x - a.x = 0) (hE : a.x + k1 = x.x0 ∨ a.x + k1 = x.x1) :
  Calls Tryz.prog 106 #[ptV a, ptV b, frV (n, d), bxV x] w fun e w' => e = .returned (ptV (atX a b (a.x + k1))) ∧ Below w.heap.size w w' := by
 have hA : AtX a b (a.x + k1) := by
  refine ⟨ha, hb, by omega, ?_⟩
  unfold btwX
  have := quot_btw hd n0 nd h1
  omega
 have HA := Lib.hid (fun W => rAtX_spec a b (a.x + k1) W hA)
 unfold atX
 generalize atxS a b (a.x + k1) = yv at *
 clear hA
 obtain ⟨⟨a1, a2⟩, a3, a4⟩ := ha
 obtain ⟨⟨b1, b2⟩, b3, b4⟩ := hb
 have u1 : IntKind.i64.wrap (b.x - a.x) = b.x - a.x := IntWalk.i64_in _ (by omega)
 have u2 : IntKind.i64.wrap (b.y - a.y) = b.y - a.y := IntWalk.i64_in _ (by omega)
 have m1 := mul_abs (u := b.x - a.x) (v := n) (m := 2097152) (n := 1073741824) (by omega) (by omega)
 have m2 := mul_abs (u := b.y - a.y) (v := n) (m := 2097152) (n := 1073741824) (by omega) (by omega)
 have u3 : IntKind.i64.wrap ((b.x - a.x) * n) = (b.x - a.x) * n := IntWalk.i64_in _ (by omega)
 have u4 : IntKind.i64.wrap ((b.y - a.y) * n) = (b.y - a.y) * n := IntWalk.i64_in _ (by omega)
 have d0 : ¬ d = 0 := by omega
 have d1 : (d == 0) = false := by simpa using d0
 generalize hP : (b.x - a.x) * n = P at *
 generalize hQ : (b.y - a.y) * n = Q at *
 have t1 : P.tmod d = 0 := by rw [h1]; exact Int.mul_tmod_left _ _
 have t3 : P.tdiv d = k1 := by rw [h1]; exact Int.mul_tdiv_cancel _ d0
 have bk1 := quot_bd (m := 2097152) (by omega) hd n0 nd (by omega) (hP.trans h1)
 have v1 : IntKind.i64.wrap k1 = k1 := IntWalk.i64_in _ (by omega)
 have v3 : IntKind.i64.wrap (a.x + k1) = a.x + k1 := IntWalk.i64_in _ (by omega)
 have bm := tmod_bd (x := Q) hd
 have v5 : IntKind.i64.wrap (Q.tmod d) = Q.tmod d := IntWalk.i64_in _ (by omega)
 have t5 : (Q.tmod d == 0) = false := by simpa using h2
 clear h1 n0 nd hd hd2 bk1 bm
 unfold ptV bxV frV at *
 dsimp only at *
 obtain ⟨p1, hp1⟩ : ∃ p1, a.x + k1 = p1 := ⟨_, rfl⟩
 rw [hp1] at v3 HA hE
 rw [hp1]
 obtain ⟨g4, hg4⟩ : ∃ g, w.heap.size = g := ⟨_, rfl⟩
 obtain ⟨g5, hg5⟩ : ∃ g, g4 + 1 = g := ⟨_, rfl⟩
 obtain ⟨g6, hg6⟩ : ∃ g, g5 + 1 = g := ⟨_, rfl⟩
 obtain ⟨g7, hg7⟩ : ∃ g, g6 + 1 = g := ⟨_, rfl⟩
 obtain ⟨g8, hg8⟩ : ∃ g, g7 + 1 = g := ⟨_, rfl⟩
 obtain ⟨W, hW⟩ : ∃ W : World, W = ((((w.alloc (.cells #[.int .i64 a.x, .int .i64 a.y] 28)).alloc (.cells #[.int .i64 b.x, .int .i64 b.y] 28)).alloc (.cells #[.int .i64 n, .int .i64 d] 139)).alloc (.cells #[.int .i64 x.x0, .int .i64 x.y0, .int .i64 x.x1, .int .i64 x.y1] 50)).alloc (.cells #[.int .i64 0, .int .i64 0] 28) := ⟨_, rfl⟩
 have HBw := Lib.hid (show Below w.heap.size w W by rw [hW]; exact bA (bA (bA (bA (bA (bR w) _) _) _) _) _)
 have X4 : Blk W g4 28 #[.int .i64 a.x, .int .i64 a.y] := by rw [hW]; exact ((((Blk.made hg4.symm _ _).alloc _).alloc _).alloc _).alloc _
 have X5 : Blk W g5 28 #[.int .i64 b.x, .int .i64 b.y] := by rw [hW]; exact (((Blk.made (by simp; omega) _ _).alloc _).alloc _).alloc _
 have X6 : Blk W g6 139 #[.int .i64 n, .int .i64 d] := by rw [hW]; exact ((Blk.made (by simp; omega) _ _).alloc _).alloc _
 have X7 : Blk W g7 50 #[.int .i64 x.x0, .int .i64 x.y0, .int .i64 x.x1, .int .i64 x.y1] := by rw [hW]; exact (Blk.made (by simp; omega) _ _).alloc _
 have X8 : Blk W g8 28 #[.int .i64 0, .int .i64 0] := by rw [hW]; exact Blk.made (by simp; omega) _ _
 go_enter Tryz.func106, Tryz.ntmps106
 go_upto_region 1 with fail
 try rw [← hW]
 have hq0 : w.heap.size ≤ g8 := by omega
 have q4 : g4 < g8 := by omega
 have q5 : g5 < g8 := by omega
 have q6 : g6 < g8 := by omega
 have q7 : g7 < g8 := by omega
 clear hW hg4 hg5 hg6 hg7 hg8 a1 a2 a3 a4 b1 b2 b3 b4 m1 m2
 obtain ⟨X4l, X4a, X4b, -, -⟩ := X4.facts2
 obtain ⟨X5l, X5a, X5b, -, -⟩ := X5.facts2
 obtain ⟨X6l, X6a, X6b, -, -⟩ := X6.facts2
 refine rg_start (Since W) (.run 18 0 0 (.done)) (by kernel_rfl) (bD (bR _)) (by kernel_rfl) (by kernel_rfl) (Nat.le_of_ble_eq_true (by kernel_rfl)) ?_
 intro opsR QR Hops HQrg hS
 iterate 18
  apply rg_p; exact Hops; exact rfl; exact hS; exact rfl
  · intro _ hqc; go_simp; try rfl
  try simp only [pu]
 refine rg_done ?_
 refine HQrg.down _ _ ?_
 have hB : Below W.heap.size W W.drew := hS
 clear hS HQrg Hops
 obtain ⟨W1, hW1⟩ : ∃ W1 : World, W1 = W.drew := ⟨_, rfl⟩
 rw [← hW1] at hB ⊢
 clear hW1
 replace X4 := X4.keep hB
 replace X5 := X5.keep hB
 replace X6 := X6.keep hB
 replace X7 := X7.keep hB
 replace X8 := X8.keep hB
 have HB1 := Lib.hid (bT HBw.out hB)
 clear hB HBw
 try clear X4l
 try clear X4a
 try clear X4b
 obtain ⟨X4l, X4a, X4b, -, -⟩ := X4.facts2
 try clear X5l
 try clear X5a
 try clear X5b
 obtain ⟨X5l, X5a, X5b, -, -⟩ := X5.facts2
 try clear X6l
 try clear X6a
 try clear X6b
 obtain ⟨X6l, X6a, X6b, -, -⟩ := X6.facts2
 obtain ⟨X7l, X7a, X7b, X7c, X7d, -, -, -, -⟩ := X7.facts4
 have HX8 := Lib.hid X8
 go_upto_region 5 with fail
 refine rg_start (Since W1) (.run 8 0 0 (.done)) (by kernel_rfl) (bD (bR _)) (by kernel_rfl) (by kernel_rfl) (Nat.le_of_ble_eq_true (by kernel_rfl)) ?_
 intro opsR QR Hops HQrg hS
 iterate 8
  apply rg_p; exact Hops; exact rfl; exact hS; exact rfl
  · intro _ hqc; go_simp; try rfl
  try simp only [pu]
 refine rg_done ?_
 refine HQrg.down _ _ ?_
 have hB : Below W1.heap.size W1 W1.drew := hS
 clear hS HQrg Hops
 obtain ⟨W2, hW2⟩ : ∃ W2 : World, W2 = W1.drew := ⟨_, rfl⟩
 rw [← hW2] at hB ⊢
 clear hW2
 replace X4 := X4.keep hB
 replace X5 := X5.keep hB
 replace X7 := X7.keep hB
 replace X8 := X8.keep hB
 have HB2 := Lib.hid (bT HB1.out hB)
 replace HX8 := Lib.hid X8
 have HE := Lib.hid hE
 clear hB HB1 X6 X6l X6a X6b hE
 try clear X4l
 try clear X4a
 try clear X4b
 obtain ⟨X4l, X4a, X4b, -, -⟩ := X4.facts2
 try clear X5l
 try clear X5a
 try clear X5b
 obtain ⟨X5l, X5a, X5b, -, -⟩ := X5.facts2
 try clear X7l
 try clear X7a
 try clear X7b
 try clear X7c
 try clear X7d
 obtain ⟨X7l, X7a, X7b, X7c, X7d, -, -, -, -⟩ := X7.facts4
 by_cases hx0 : p1 = x.x0
 ·
  have e1 : (p1 == x.x0) = true := by simpa using hx0
  clear hx0
  go_wp2_with fail
  refine (HA.out _).mono ?_
  rintro e w3 ⟨rfl, hb3⟩
  have HB3 := Lib.hid (bT HB2.out hb3)
  replace X8 := X8.keep hb3
  replace HX8 := Lib.hid X8
  clear hb3
  obtain ⟨X8l, X8a, X8b, X8fa, X8fb⟩ := X8.facts2
  go_wp2_with fail
  refine res_cell (g := g8) (cs := #[.int .i64 p1, .int .i64 yv]) rfl struct_pt rfl rfl (Blk.put2 HX8.out) ⟨rfl, bS (bS HB3.out hq0 _) hq0 _⟩
 ·
  have e1 : (p1 == x.x0) = false := by simpa using hx0
  have e2 : (p1 == x.x1) = true := by simpa using HE.out.resolve_left hx0
  clear hx0
  go_wp2_with fail
  refine (HA.out _).mono ?_
  rintro e w3 ⟨rfl, hb3⟩
  have HB3 := Lib.hid (bT HB2.out hb3)
  replace X8 := X8.keep hb3
  replace HX8 := Lib.hid X8
  clear hb3
  try clear X8l
  try clear X8a
  try clear X8b
  try clear X8fa
  try clear X8fb
  obtain ⟨X8l, X8a, X8b, X8fa, X8fb⟩ := X8.facts2
  go_wp2_with fail
  refine res_cell (g := g8) (cs := #[.int .i64 p1, .int .i64 yv]) rfl struct_pt rfl rfl (Blk.put2 HX8.out) ⟨rfl, bS (bS HB3.out hq0 _) hq0 _⟩
set_option maxRecDepth 100000 in
set_option maxHeartbeats 4000000 in
theorem atC_spec (a b : Pt) (x : Bx) (n d : Int) (k2 : Int) (w : World) (ha : bdP a) (hb : bdP b) (n0 : 0 ≤ n) (nd : n ≤ d) (hd : 0 < d) (hd2 : d ≤ 1073741824) (h1 : ¬ ((b.x - a.x) * n).tmod d = 0) (h2 : (b.y - a.y) * n = k2 * d) (hne : ¬ b.y - a.y = 0) :
  Calls Tryz.prog 106 #[ptV a, ptV b, frV (n, d), bxV x] w fun e w' => e = .returned (ptV (atY a b (a.y + k2))) ∧ Below w.heap.size w w' := by
 have hA : AtX (turnP a) (turnP b) (a.y + k2) := by
  refine ⟨bdP_turn ha, bdP_turn hb, by unfold turnP; simp only; omega, ?_⟩
  unfold btwX turnP
  have := quot_btw hd n0 nd h2
  simp only
  omega
 have HA := Lib.hid (fun W => rAtY_spec a b (a.y + k2) W hA)
 unfold atY
 generalize atxS (turnP a) (turnP b) (a.y + k2) = xv at *
 clear hA
 obtain ⟨⟨a1, a2⟩, a3, a4⟩ := ha
 obtain ⟨⟨b1, b2⟩, b3, b4⟩ := hb
 have u1 : IntKind.i64.wrap (b.x - a.x) = b.x - a.x := IntWalk.i64_in _ (by omega)
 have u2 : IntKind.i64.wrap (b.y - a.y) = b.y - a.y := IntWalk.i64_in _ (by omega)
 have m1 := mul_abs (u := b.x - a.x) (v := n) (m := 2097152) (n := 1073741824) (by omega) (by omega)
 have m2 := mul_abs (u := b.y - a.y) (v := n) (m := 2097152) (n := 1073741824) (by omega) (by omega)
 have u3 : IntKind.i64.wrap ((b.x - a.x) * n) = (b.x - a.x) * n := IntWalk.i64_in _ (by omega)
 have u4 : IntKind.i64.wrap ((b.y - a.y) * n) = (b.y - a.y) * n := IntWalk.i64_in _ (by omega)
 have d0 : ¬ d = 0 := by omega
 have d1 : (d == 0) = false := by simpa using d0
 generalize hP : (b.x - a.x) * n = P at *
 generalize hQ : (b.y - a.y) * n = Q at *
 have t2 : Q.tmod d = 0 := by rw [h2]; exact Int.mul_tmod_left _ _
 have t4 : Q.tdiv d = k2 := by rw [h2]; exact Int.mul_tdiv_cancel _ d0
 have bk2 := quot_bd (m := 2097152) (by omega) hd n0 nd (by omega) (hQ.trans h2)
 have v2 : IntKind.i64.wrap k2 = k2 := IntWalk.i64_in _ (by omega)
 have v4 : IntKind.i64.wrap (a.y + k2) = a.y + k2 := IntWalk.i64_in _ (by omega)
 have bm := tmod_bd (x := P) hd
 have v5 : IntKind.i64.wrap (P.tmod d) = P.tmod d := IntWalk.i64_in _ (by omega)
 have t5 : (P.tmod d == 0) = false := by simpa using h1
 clear h2 n0 nd hd hd2 bk2 bm
 unfold ptV bxV frV at *
 dsimp only at *
 obtain ⟨p2, hp2⟩ : ∃ p2, a.y + k2 = p2 := ⟨_, rfl⟩
 rw [hp2] at v4 HA
 rw [hp2]
 obtain ⟨g4, hg4⟩ : ∃ g, w.heap.size = g := ⟨_, rfl⟩
 obtain ⟨g5, hg5⟩ : ∃ g, g4 + 1 = g := ⟨_, rfl⟩
 obtain ⟨g6, hg6⟩ : ∃ g, g5 + 1 = g := ⟨_, rfl⟩
 obtain ⟨g7, hg7⟩ : ∃ g, g6 + 1 = g := ⟨_, rfl⟩
 obtain ⟨g8, hg8⟩ : ∃ g, g7 + 1 = g := ⟨_, rfl⟩
 obtain ⟨W, hW⟩ : ∃ W : World, W = ((((w.alloc (.cells #[.int .i64 a.x, .int .i64 a.y] 28)).alloc (.cells #[.int .i64 b.x, .int .i64 b.y] 28)).alloc (.cells #[.int .i64 n, .int .i64 d] 139)).alloc (.cells #[.int .i64 x.x0, .int .i64 x.y0, .int .i64 x.x1, .int .i64 x.y1] 50)).alloc (.cells #[.int .i64 0, .int .i64 0] 28) := ⟨_, rfl⟩
 have HBw := Lib.hid (show Below w.heap.size w W by rw [hW]; exact bA (bA (bA (bA (bA (bR w) _) _) _) _) _)
 have X4 : Blk W g4 28 #[.int .i64 a.x, .int .i64 a.y] := by rw [hW]; exact ((((Blk.made hg4.symm _ _).alloc _).alloc _).alloc _).alloc _
 have X5 : Blk W g5 28 #[.int .i64 b.x, .int .i64 b.y] := by rw [hW]; exact (((Blk.made (by simp; omega) _ _).alloc _).alloc _).alloc _
 have X6 : Blk W g6 139 #[.int .i64 n, .int .i64 d] := by rw [hW]; exact ((Blk.made (by simp; omega) _ _).alloc _).alloc _
 have X7 : Blk W g7 50 #[.int .i64 x.x0, .int .i64 x.y0, .int .i64 x.x1, .int .i64 x.y1] := by rw [hW]; exact (Blk.made (by simp; omega) _ _).alloc _
 have X8 : Blk W g8 28 #[.int .i64 0, .int .i64 0] := by rw [hW]; exact Blk.made (by simp; omega) _ _
 go_enter Tryz.func106, Tryz.ntmps106
 go_upto_region 1 with fail
 try rw [← hW]
 have hq0 : w.heap.size ≤ g8 := by omega
 have q4 : g4 < g8 := by omega
 have q5 : g5 < g8 := by omega
 have q6 : g6 < g8 := by omega
 have q7 : g7 < g8 := by omega
 clear hW hg4 hg5 hg6 hg7 hg8 a1 a2 a3 a4 b1 b2 b3 b4 m1 m2
 obtain ⟨X4l, X4a, X4b, -, -⟩ := X4.facts2
 obtain ⟨X5l, X5a, X5b, -, -⟩ := X5.facts2
 obtain ⟨X6l, X6a, X6b, -, -⟩ := X6.facts2
 refine rg_start (Since W) (.run 18 0 0 (.done)) (by kernel_rfl) (bD (bR _)) (by kernel_rfl) (by kernel_rfl) (Nat.le_of_ble_eq_true (by kernel_rfl)) ?_
 intro opsR QR Hops HQrg hS
 iterate 18
  apply rg_p; exact Hops; exact rfl; exact hS; exact rfl
  · intro _ hqc; go_simp; try rfl
  try simp only [pu]
 refine rg_done ?_
 refine HQrg.down _ _ ?_
 have hB : Below W.heap.size W W.drew := hS
 clear hS HQrg Hops
 obtain ⟨W1, hW1⟩ : ∃ W1 : World, W1 = W.drew := ⟨_, rfl⟩
 rw [← hW1] at hB ⊢
 clear hW1
 replace X4 := X4.keep hB
 replace X5 := X5.keep hB
 replace X6 := X6.keep hB
 replace X7 := X7.keep hB
 replace X8 := X8.keep hB
 have HB1 := Lib.hid (bT HBw.out hB)
 clear hB HBw
 try clear X4l
 try clear X4a
 try clear X4b
 obtain ⟨X4l, X4a, X4b, -, -⟩ := X4.facts2
 try clear X5l
 try clear X5a
 try clear X5b
 obtain ⟨X5l, X5a, X5b, -, -⟩ := X5.facts2
 try clear X6l
 try clear X6a
 try clear X6b
 obtain ⟨X6l, X6a, X6b, -, -⟩ := X6.facts2
 obtain ⟨X7l, X7a, X7b, X7c, X7d, -, -, -, -⟩ := X7.facts4
 have HX8 := Lib.hid X8
 go_upto_region 9 with fail
 refine rg_start (Since W1) (.run 8 0 0 (.done)) (by kernel_rfl) (bD (bR _)) (by kernel_rfl) (by kernel_rfl) (Nat.le_of_ble_eq_true (by kernel_rfl)) ?_
 intro opsR QR Hops HQrg hS
 iterate 8
  apply rg_p; exact Hops; exact rfl; exact hS; exact rfl
  · intro _ hqc; go_simp; try rfl
  try simp only [pu]
 refine rg_done ?_
 refine HQrg.down _ _ ?_
 have hB : Below W1.heap.size W1 W1.drew := hS
 clear hS HQrg Hops
 obtain ⟨W2, hW2⟩ : ∃ W2 : World, W2 = W1.drew := ⟨_, rfl⟩
 rw [← hW2] at hB ⊢
 clear hW2
 replace X4 := X4.keep hB
 replace X5 := X5.keep hB
 replace X7 := X7.keep hB
 replace X8 := X8.keep hB
 have HB2 := Lib.hid (bT HB1.out hB)
 replace HX8 := Lib.hid X8
 clear hB HB1 X6 X6l X6a X6b
 try clear X4l
 try clear X4a
 try clear X4b
 obtain ⟨X4l, X4a, X4b, -, -⟩ := X4.facts2
 try clear X5l
 try clear X5a
 try clear X5b
 obtain ⟨X5l, X5a, X5b, -, -⟩ := X5.facts2
 go_wp2_with fail
 refine (HA.out _).mono ?_
 rintro e w3 ⟨rfl, hb3⟩
 have HB3 := Lib.hid (bT HB2.out hb3)
 replace X8 := X8.keep hb3
 replace HX8 := Lib.hid X8
 clear hb3
 obtain ⟨X8l, X8a, X8b, X8fa, X8fb⟩ := X8.facts2
 go_wp2_with fail
 refine res_cell (g := g8) (cs := #[.int .i64 xv, .int .i64 p2]) rfl struct_pt rfl rfl (Blk.put2 HX8.out) ⟨rfl, bS (bS HB3.out hq0 _) hq0 _⟩
end Go.Proofs.YtfondidmklmonaaGreat
