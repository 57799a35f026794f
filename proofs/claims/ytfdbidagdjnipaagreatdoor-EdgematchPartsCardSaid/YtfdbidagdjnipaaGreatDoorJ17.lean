/- edgematch.agrees. Steps of 'Below B w w1'. edgematch.Match. -/
import Derived.Test.YtfdbidagdjnipaaGreatDoorJ14
import Derived.Test.YtfdbidagdjnipaaGreatDoorJ16
import Derived.Test.YtfdbidagdjnipaaGreatDoorGB
set_option linter.unusedSimpArgs false
set_option linter.unusedVariables false
namespace Go.Proofs.YtfdbidagdjnipaaGreatDoor
open Go.RowKit

/-- a list of crossings that reads, and no error -/
def RetCr0 (w : World) (l : List Cr) (e : Ending) (w' : World) : Prop :=
 ∃ A c, e = .returned (.tuple #[.slice A l.length c, .int .i64 0]) ∧ Below w.heap.size w w' ∧ Crs w' (.slice A l.length c) l
/-- the parts of a whole series -/
structure SheetsOk (l : List (Prt × Value × Value)) (s : Se) : Prop where
 ok : seOk s = true
 len : (l.length : Int) = s.cols * s.rows
 num : ∀ j (hj : j < l.length), l[j].1.sheet = (j : Int) + 1
 wf : ∀ x ∈ l, wfPrt x.1
 few : ∀ x ∈ l, x.1.pieces.length ≤ 60000 ∧ x.1.nodes.length ≤ 60000
section
variable {l : List (Prt × Value × Value)} {s : Se} (h : SheetsOk l s)
include h
theorem SheetsOk.inS {k : Nat} (hk : k < l.length) : InS s ((k : Int) + 1) := ⟨h.ok, by omega, by have := h.len; omega⟩
theorem SheetsOk.lt {m : Int} (hm : InS s m) : ∃ j : Nat, m = (j : Int) + 1 ∧ j < l.length := by
 have h1 := hm.lo; have h2 := hm.hi; have h3 := h.len
 exact ⟨(m - 1).toNat, by omega, by omega⟩
theorem SheetsOk.short : l.length ≤ 256 := by
 have h1 := (wrap_cr (seOk_bd h.ok)).2; have h2 := h.len
 omega
end
theorem prtAt_eq {l : List (Prt × Value × Value)} {k : Nat} (hk : k < l.length) : prtAt (l.map (·.1)) ((k : Int) + 1) = l[k].1 := by
 unfold prtAt
 rw [show ((k : Int) + 1 - 1).toNat = k by omega, List.getD_eq_getElem?_getD, List.getElem?_map, List.getElem?_eq_getElem hk]
 rfl
theorem crossRes_facts (x : Prt) (b : Bx) {side : Int} (h : 1 ≤ side ∧ side ≤ 4) : (crossResS x b side).2 = 0 ∧ (crossResS x b side).1.length ≤ 2 * x.pieces.length := by
 unfold crossResS
 have hs : side = 1 ∨ side = 2 ∨ side = 3 ∨ side = 4 := by omega
 have key : ∀ g : Ed, (sortCr (crossL g x)).length ≤ 2 * x.pieces.length := fun g => by
  rw [sortCr_len]
  have := pieces_len g x.nodes x.pieces x.pieces.length
  rw [List.take_length] at this
  exact this
 rcases hs with rfl | rfl | rfl | rfl
 all_goals exact ⟨rfl, key _⟩
theorem fac_side {side : Int} (h : 1 ≤ side ∧ side ≤ 4) : 1 ≤ facS side ∧ facS side ≤ 4 := by unfold facS; split <;> omega
theorem ownCross {v : Value} {l : List (Prt × Value × Value)} {s : Se} {k : Nat} {side : Int} {w : World} (h : Prts w v l) (hs : SheetsOk l s) (hk : k < l.length) (hside : 1 ≤ side ∧ side ≤ 4) :
  Calls Tryz.prog 75 #[.agg #[.int .i64 l[k].1.sheet, l[k].2.1, l[k].2.2], seV s, .int .i64 side] w (RetCr0 w (crossResS (prtAt (l.map (·.1)) ((k : Int) + 1)) (boxOf s ((k : Int) + 1)) side).1) := by
 have hm := List.getElem_mem hk
 have hf := hs.few _ hm
 refine (crossings_spec _ l[k].1 s side w (h.2 k hk) (hs.wf _ hm) hf.1 hf.2 (by rw [hs.num k hk]; exact hs.inS hk)).mono ?_
 rintro e w' ⟨A, c, he, hb, ho⟩
 rw [hs.num k hk] at he ho
 rw [prtAt_eq hk]
 rw [(crossRes_facts l[k].1 (boxOf s ((k : Int) + 1)) hside).1] at he
 exact ⟨A, c, he, hb, ho.sl⟩

set_option maxRecDepth 100000 in
set_option maxHeartbeats 4000000 in
theorem agrees_spec (v : Value) (l : List (Prt × Value × Value)) (s : Se) (k : Nat) (side : Int) (w : World) (h : Prts w v l) (hs : SheetsOk l s) (hm : Mv w) (hk : k < l.length) (hside : 1 ≤ side ∧ side ≤ 4) :
  Calls Tryz.prog 44 #[v, seV s, .int .i64 ((k : Int) + 1), .int .i64 side] w fun e w' => e = .returned (.tuple #[.bool (agS (l.map (·.1)) s ((k : Int) + 1) side), .int .i64 0]) ∧ Below w.heap.size w w' := by
 have TN := fun W (hW : Below w.heap.size w W) => sNeighbor_spec s ((k : Int) + 1) side W (hm.keep hW)
 have T1 := fun W (hW : Below w.heap.size w W) => ownCross (h.mono hW) hs hk hside
 have HF := Lib.hid (fun W => facing_spec side W hside)
 have hlen := hs.short
 unfold agS
 unfold nbRes at TN
 cases hn : nbS s ((k : Int) + 1) side
 case none =>
  rw [hn] at TN
  simp only [Option.getD_none, Option.isSome_none] at TN
  clear T1 h hn hs hm hk
  unfold seV at TN ⊢
  have HN := Lib.hid TN
  clear TN
  simp only []
  go_enter Tryz.func44, Tryz.ntmps44
  go_wp2_with fail
  refine (HN.out _ (bA (bR w) _)).mono ?_
  rintro e w1 ⟨rfl, hb1⟩
  have B1 := Lib.hid (bT (bA (bR w) _) hb1)
  clear hb1
  go_wp2_with fail
  go_ret2
  exact ⟨rfl, B1.out⟩
 case some m =>
 rw [hn] at TN
 simp only [Option.getD_some, Option.isSome_some] at TN
 obtain ⟨j, rfl, hj⟩ := hs.lt (nbS_in hn).1
 have T2 := fun W (hW : Below w.heap.size w W) => ownCross (h.mono hW) hs hj (fac_side hside)
 clear hn
 obtain ⟨⟨A, c, rfl, hlc, hc, hR⟩, -⟩ := h
 unfold maxLen at hc
 have HR := Lib.hid hR; clear hR
 simp only []
 have hL1 : (crossResS (prtAt (l.map (·.1)) ((j : Int) + 1)) (boxOf s ((j : Int) + 1)) (facS side)).1.length ≤ 120000 := by
  have := (crossRes_facts (prtAt (l.map (·.1)) ((j : Int) + 1)) (boxOf s ((j : Int) + 1)) (fac_side hside)).2
  rw [prtAt_eq hj] at this ⊢
  have h2 := (hs.few _ (List.getElem_mem hj)).1
  omega
 generalize hr1 : (crossResS (prtAt (l.map (·.1)) ((k : Int) + 1)) (boxOf s ((k : Int) + 1)) side).1 = r1 at *
 generalize hr2 : (crossResS (prtAt (l.map (·.1)) ((j : Int) + 1)) (boxOf s ((j : Int) + 1)) (facS side)).1 = r2 at *
 clear hr1 hr2
 have HL1 := Lib.hid hL1; clear hL1
 unfold seV at TN T1 T2 ⊢
 have HN := Lib.hid TN; have H1 := Lib.hid T1; have H2 := Lib.hid T2
 clear TN T1 T2 hs hm
 go_enter Tryz.func44, Tryz.ntmps44
 go_wp2_with fail
 refine (HN.out _ (bA (bR w) _)).mono ?_
 rintro e w1 ⟨rfl, hb1⟩
 have X5 : Blk w1 w.heap.size 30 #[.int .i64 s.at_.x, .int .i64 s.at_.y, .int .i64 s.width, .int .i64 s.height, .int .i64 s.cols, .int .i64 s.rows] := (Blk.made rfl _ _).keep hb1
 have B1 := Lib.hid (bT (bA (bR w) _) hb1)
 have HX5 := Lib.hid X5
 clear hb1
 obtain ⟨b, o, rfl, hlb, c0, c1, c2⟩ := (HR.out.mono B1.out).prt hk
 obtain ⟨b', o', e2, -, d0, d1, d2⟩ := HR.out.prt hj
 simp only [Option.some.injEq, Addr.mk.injEq, and_true] at e2
 obtain ⟨rfl, rfl⟩ := e2
 have D0 := Lib.hid d0; have D1 := Lib.hid d1; have D2 := Lib.hid d2
 clear d0 d1 d2
 have q1 : 0 ≤ (k : Int) := by omega
 have q2 : (k : Int) < l.length := by omega
 have q3 : 0 ≤ (j : Int) := by omega
 have q4 : (j : Int) < l.length := by omega
 have q5 : IntKind.i64.wrap (k : Int) = k := IntWalk.i64_in _ (by omega)
 have q6 : IntKind.i64.wrap (j : Int) = j := IntWalk.i64_in _ (by omega)
 obtain ⟨X5l, X5a, X5b, X5c, X5d, X5e, X5f, -, -, -, -, -, -⟩ := X5.facts6
 go_upto_region 4 with fail
 refine rg_start (Since w1) (.run 7 0 0 (.call 7 255 (.run 5 8 255 (.done)))) (by kernel_rfl) (bD (bR _)) (by kernel_rfl) (by kernel_rfl) (Nat.le_of_ble_eq_true (by kernel_rfl)) ?_
 intro opsR QR Hops HQrg hS
 iterate 7
  apply rg_p; exact Hops; exact rfl; exact hS; exact rfl
  · intro _ hqc; go_simp; try rfl
  try simp only [pu]
 refine rg_call (i := 7) (get_of Hops rfl) (fun K hK => ?_)
 have HSrg := Lib.hid hS; clear hS
 refine rg_run (wanted_plain rfl) ?_
 go_simp
 refine (H1.out _ (bT B1.out HSrg.out)).mono ?_
 rintro e wr1 ⟨A1, c1', rfl, hbr1, ho1⟩
 have hS : Since w1 wr1 := bT (w := w1) HSrg.out hbr1
 clear HSrg
 refine hK.out _ _ hS (fun _ => ?_)
 clear hK K
 try simp only [pu]
 iterate 5
  apply rg_p; exact Hops; exact rfl; exact hS; exact rfl
  · intro _ hqc; go_simp; try rfl
  try simp only [pu]
 refine rg_done ?_
 refine HQrg.down _ _ ?_
 have hB : Below w1.heap.size w1 wr1 := hS
 clear hS HQrg Hops
 have B2 := Lib.hid (bT B1.out hB)
 have HO1 := Lib.hid ho1
 replace HX5 := Lib.hid (HX5.out.keep hB)
 clear hB ho1 X5 X5l X5a X5b X5c X5d X5e X5f c0 c1 c2 hlb q1 q2 q5 D0 D1 D2
 obtain ⟨wA, rfl⟩ : ∃ wA : World, wA = wr1 := ⟨_, rfl⟩
 obtain ⟨b', o', e2, hlb, c0, c1, c2⟩ := (HR.out.mono B2.out).prt hj
 simp only [Option.some.injEq, Addr.mk.injEq, and_true] at e2
 obtain ⟨rfl, rfl⟩ := e2
 have X5 := HX5.out
 try clear X5l
 try clear X5a
 try clear X5b
 try clear X5c
 try clear X5d
 try clear X5e
 try clear X5f
 obtain ⟨X5l, X5a, X5b, X5c, X5d, X5e, X5f, -, -, -, -, -, -⟩ := X5.facts6
 go_upto_region 7 with fail
 refine rg_start (Since wA) (.run 7 0 0 (.call 7 255 (.call 8 511 (.run 5 9 511 (.done))))) (by kernel_rfl) (bD (bR _)) (by kernel_rfl) (by kernel_rfl) (Nat.le_of_ble_eq_true (by kernel_rfl)) ?_
 intro opsR QR Hops HQrg hS
 iterate 7
  apply rg_p; exact Hops; exact rfl; exact hS; exact rfl
  · intro _ hqc; go_simp; try rfl
  try simp only [pu]
 refine rg_call (i := 7) (get_of Hops rfl) (fun K hK => ?_)
 have HSrg := Lib.hid hS; clear hS
 refine rg_run (wanted_plain rfl) ?_
 go_simp
 refine (HF.out _).mono ?_
 rintro e wr1 ⟨rfl, hbr1⟩
 have hS : Since wA wr1 := bT (w := wA) HSrg.out hbr1
 clear HSrg
 refine hK.out _ _ hS (fun _ => ?_)
 clear hK K
 try simp only [pu]
 refine rg_call (i := 8) (get_of Hops rfl) (fun K hK => ?_)
 have HSrg := Lib.hid hS; clear hS
 refine rg_run (wanted_plain rfl) ?_
 go_simp
 refine (H2.out _ (bT B2.out HSrg.out)).mono ?_
 rintro e wr2 ⟨A2, c2', rfl, hbr2, ho2⟩
 have hS : Since wA wr2 := bT (w := wA) HSrg.out hbr2
 clear HSrg
 refine hK.out _ _ hS (fun _ => ?_)
 clear hK K
 try simp only [pu]
 iterate 5
  apply rg_p; exact Hops; exact rfl; exact hS; exact rfl
  · intro _ hqc; go_simp; try rfl
  try simp only [pu]
 refine rg_done ?_
 refine HQrg.down _ _ ?_
 have hB : Below wA.heap.size wA wr2 := hS
 clear hS HQrg Hops
 have B3 := Lib.hid (bT B2.out hB)
 replace HO1 := Lib.hid (HO1.out.mono hB)
 have HOp := Lib.hid (Opposite_spec _ r2 _ ho2 (by have := HL1.out; omega))
 clear hB ho2 X5 X5l X5a X5b X5c X5d X5e X5f c0 c1 c2 hlb
 go_wp2_with fail
 refine HOp.out.mono ?_
 rintro e w4 ⟨A4, c4, rfl, hb4, ho4⟩
 have HEq := Lib.hid (Equal_cr_spec _ _ r1 (oppS r2) w4 (HO1.out.mono hb4) ho4.sl)
 have B4 := Lib.hid (bT B3.out hb4)
 clear hb4 ho4
 go_wp2_with fail
 refine HEq.out.mono ?_
 rintro e w5 ⟨rfl, hb5⟩
 have B5 := Lib.hid (bT B4.out hb5)
 clear hb5
 go_wp2_with fail
 go_ret2
 exact ⟨rfl, B5.out⟩
end Go.Proofs.YtfdbidagdjnipaaGreatDoor
namespace Go.Proofs.YtfdbidagdjnipaaGreatDoor
open Go.RowKit

theorem bAB {B : Nat} {W w : World} (hB : B ≤ W.heap.size) (h : Below B W w) (o : Obj) : Below B W (w.alloc o) := h.alloc (Nat.le_trans hB h.size) o
theorem bSB {B b i : Nat} {W w : World} (h : Below B W w) (hb : B ≤ b) (u : Value) : Below B W (w.setCell ⟨b, i, none⟩ u) := h.setCell (p := ⟨b, i, none⟩) hb u
end Go.Proofs.YtfdbidagdjnipaaGreatDoor
namespace Go.Proofs.YtfdbidagdjnipaaGreatDoor
open Go.RowKit

/-- a list of ints that reads, and an error -/
def RetInsE (w : World) (r : List Int × Int) (e : Ending) (w' : World) : Prop :=
 ∃ A c, e = .returned (.tuple #[.slice A r.1.length c, .int .i64 r.2]) ∧ Below w.heap.size w w' ∧ Ints w' (.slice A r.1.length c) r.1
theorem Prts.form {w : World} {v : Value} {l : List (Prt × Value × Value)} (h : Prts w v l) {k : Nat} (hk : k < l.length) : ∃ Ap np cp An nn cn, l[k].2.1 = .slice Ap np cp ∧ l[k].2.2 = .slice An nn cn := by
 obtain ⟨vp, vn, pl, hv, -, ⟨⟨Ap, cp, rfl, -⟩, -⟩, ⟨An, cn, rfl, -⟩⟩ := h.2 k hk
 simp only [Value.agg.injEq, Array.mk.injEq, List.cons.injEq, true_and, and_true] at hv
 exact ⟨_, _, _, _, _, _, hv.1, hv.2⟩
theorem agree_step {l : List Prt} {s : Se} {n : Int} {side : Int} (h : ∀ j : Int, 1 ≤ j → j < side → agS l s n j = true) (h1 : agS l s n side = true) : ∀ j : Int, 1 ≤ j → j < side + 1 → agS l s n j = true := by
 intro j hj hj'
 by_cases e : j < side
 · exact h j hj e
 ·
  have : j = side := by omega
  subst this; exact h1
theorem agAll_yes {l : List Prt} {s : Se} {n : Int} (h : ∀ j : Int, 1 ≤ j → j < 5 → agS l s n j = true) : agAll l s n = true := by
 unfold agAll; rw [h 1 (by omega) (by omega), h 2 (by omega) (by omega), h 3 (by omega) (by omega), h 4 (by omega) (by omega)]; rfl
theorem agAll_no {l : List Prt} {s : Se} {n side : Int} (h0 : 1 ≤ side ∧ side ≤ 4) (h : agS l s n side = false) : agAll l s n = false := by
 have hs : side = 1 ∨ side = 2 ∨ side = 3 ∨ side = 4 := by omega
 unfold agAll
 rcases hs with rfl | rfl | rfl | rfl <;> rw [h] <;> simp

set_option maxRecDepth 100000 in
set_option maxHeartbeats 8000000 in
theorem Match_spec (v : Value) (l : List (Prt × Value × Value)) (s : Se) (w : World) (h : Prts w v l) (hm : Mv w) (hwf : ∀ x ∈ l, wfPrt x.1) (hf : ∀ x ∈ l, x.1.pieces.length ≤ 60000 ∧ x.1.nodes.length ≤ 60000) (hlen : l.length ≤ 60000) :
  Calls Tryz.prog 14 #[v, seV s] w (RetInsE w (matchS (l.map (·.1)) s)) := by
 have TC : ∀ W, Calls Tryz.prog 29 #[seV s] W _ := fun W => sCheck_spec s W
 have TA := fun W (hW : Below w.heap.size w W) (hs : SheetsOk l s) (k : Nat) (hk : k < l.length) (side : Int) (h1 : 1 ≤ side ∧ side ≤ 4) => agrees_spec v l s k side W (h.mono hW) hs (hm.keep hW) hk h1
 have HFm := Lib.hid (fun k (hk : k < l.length) => h.form hk)
 obtain ⟨⟨A, c, rfl, hlc, hc, hR⟩, -⟩ := h
 unfold maxLen at hc
 have HR := Lib.hid hR
 obtain ⟨r, hr⟩ : ∃ r, matchS (l.map (·.1)) s = r := ⟨_, rfl⟩
 rw [hr]
 have Hr := Lib.hid hr
 clear hR hr hm
 unfold seV at TC TA ⊢
 have HC := Lib.hid TC; have HA := Lib.hid TA
 clear TC TA
 have HWf := Lib.hid hwf; have HFew := Lib.hid hf
 clear hwf hf
 obtain ⟨z, hz⟩ : ∃ z, seOk s = z := ⟨_, rfl⟩
 have hzc : seCheck s = if z = true then 0 else 2 := by rw [← hz]; rfl
 rw [hzc] at HC
 have Hz := Lib.hid hz
 clear hzc hz
 go_enter Tryz.func14, Tryz.ntmps14
 go_wp2_with fail
 refine (HC.out _).mono ?_
 rintro e W0 ⟨rfl, hb0⟩
 have HB0 := Lib.hid (bT (bA (bR w) _) hb0)
 have HX3 := Lib.hid (show Blk W0 w.heap.size 30 #[.int .i64 s.at_.x, .int .i64 s.at_.y, .int .i64 s.width, .int .i64 s.height, .int .i64 s.cols, .int .i64 s.rows] from (Blk.made rfl _ _).keep hb0)
 clear hb0
 have X3 := HX3.out
 obtain ⟨X3l, X3a, X3b, X3c, X3d, X3e, X3f, -, -, -, -, -, -⟩ := X3.facts6
 cases z
 case false =>
  have hf := Hr.out
  unfold matchS at hf
  rw [if_neg (by rw [Hz.out]; simp)] at hf
  subst hf
  go_wp2_with fail
  go_ret2
  exact ⟨none, 0, rfl, HB0.out, Sl.nil _⟩
 have hwr := (wrap_cr (seOk_bd Hz.out)).1
 by_cases hll : (l.length : Int) = s.cols * s.rows
 case neg =>
  have hf := Hr.out
  unfold matchS at hf
  rw [if_pos Hz.out, if_neg (by rw [List.length_map]; exact fun e => hll e.1)] at hf
  subst hf
  have hne : ((l.length : Int) != s.cols * s.rows) = true := by simpa using hll
  clear hll
  go_wp2_with fail
  go_ret2
  exact ⟨none, 0, rfl, HB0.out, Sl.nil _⟩
 have hne : ((l.length : Int) != s.cols * s.rows) = false := by simpa using hll
 have HLL := Lib.hid hll
 clear hll
 obtain ⟨wo, hwo⟩ : ∃ wo : World, W0 = wo := ⟨_, rfl⟩
 subst hwo
 go_wp2_with fail
 go_loopw [4, 27] (fun bl u wr => ∃ k : Nat, k ≤ l.length ∧ bl = .slice none 0 0 ∧ u = .int .i64 k ∧ Below W0.heap.size W0 wr ∧ ∀ j (hj : j < l.length), j < k → l[j].1.sheet = (j : Int) + 1) (fun _ u _ => l.length - (intOf u).toNat)
 case atStart => exact ⟨0, Nat.zero_le _, rfl, rfl, bR W0, fun _ _ h => by omega⟩
 case round =>
  obtain ⟨k, hk, rfl, rfl, hb, hno⟩ := hrel
  have Hb := Lib.hid hb
  have Hno := Lib.hid hno
  have X3 := HX3.out.keep hb
  clear hb hno
  have hkl : l.length ≤ 60000 := hlen
  by_cases hlt : k < l.length
  case pos =>
   obtain ⟨b, o, rfl, hlb, c0, c1, c2⟩ := (HR.out.mono (bT HB0.out Hb.out)).prt hlt
   obtain ⟨Ap, np, cp, An, nn, cn, e1, e2⟩ := HFm.out k hlt
   rw [e1] at c1
   rw [e2] at c2
   clear e1 e2
   by_cases he : l[k].1.sheet = (k : Int) + 1
   ·
    have hd : (l[k].1.sheet != (k : Int) + 1) = false := by simpa using he
    have He := Lib.hid he
    clear he X3
    go_wp2_with fail
    go_roundw
    case rel => exact ⟨k + 1, by omega, rfl, by go_num, bA Hb.out _, fun j hj hjk => if e : j < k then Hno.out j hj e else by
     have : j = k := by omega
     subst this; exact He.out⟩
    case measure => simp [intOf]; omega
   ·
    have hd : (l[k].1.sheet != (k : Int) + 1) = true := by simpa using he
    have hf := Hr.out
    unfold matchS at hf
    have hnn := numbered_not (l := l.map (·.1)) (j := k) (by simpa using hlt) (by simpa using he)
    rw [if_pos Hz.out, if_neg (by rw [hnn]; simp)] at hf
    subst hf
    clear he hnn
    go_wp2_with fail
    go_ret2
    exact ⟨none, 0, rfl, bA (bT HB0.out Hb.out) _, Sl.nil _⟩
  case neg =>
  have hkk : k = l.length := by omega
  subst hkk
  have hok : SheetsOk l s := ⟨Hz.out, HLL.out, fun j hj => Hno.out j hj hj, HWf.out, HFew.out⟩
  have hf := Hr.out
  unfold matchS at hf
  rw [if_pos Hz.out, if_pos ⟨by rw [List.length_map]; exact HLL.out, numbered_all fun j hj => by
   rw [List.length_map] at hj
   simp only [List.getElem_map, Nat.zero_add]
   exact hok.num j hj⟩] at hf
  have HF := Lib.hid hf
  have HOk := Lib.hid hok
  have hl256 := hok.short
  have HBw := Lib.hid (bT HB0.out Hb.out)
  obtain ⟨W1, rfl⟩ : ∃ W1 : World, W1 = wr := ⟨_, rfl⟩
  have HX3' := Lib.hid X3
  clear hf hok hlt Hno X3 X3l X3a X3b X3c X3d X3e X3f Hr
  go_wp2_with fail
  go_loopw [4, 40] (fun bl u wr => ∃ k : Nat, k ≤ l.length ∧ u = .int .i64 k ∧ Own wr W1.heap.size 3 1 inC bl (badUp (l.map (·.1)) s k) ∧ Below W1.heap.size W1 wr) (fun _ u _ => l.length - (intOf u).toNat)
  case atStart => exact ⟨0, Nat.zero_le _, rfl, Own.nil _ _ _ _ _, bR W1⟩
  case round =>
   obtain ⟨k, hk, rfl, ho, hb⟩ := hrel
   have Hb := Lib.hid hb
   have Ho := Lib.hid ho
   have X3 := HX3'.out.keep hb
   have hsz := hb.size
   have hbl := badUp_len (l.map (·.1)) s k
   obtain ⟨As, cs, rfl, -⟩ := Own.form ho
   clear hb ho
   try clear X3l
   try clear X3a
   try clear X3b
   try clear X3c
   try clear X3d
   try clear X3e
   try clear X3f
   obtain ⟨X3l, X3a, X3b, X3c, X3d, X3e, X3f, -, -, -, -, -, -⟩ := X3.facts6
   by_cases hlt : k < l.length
   case neg =>
    have hkk : k = l.length := by omega
    subst hkk
    have hf := HF.out
    rw [List.length_map] at hf
    have HF' := Lib.hid hf
    clear hf
    generalize badUp (l.map (·.1)) s l.length = bl at *
    go_wp2_with fail
    go_ret2
    have hf := HF'.out
    subst hf
    exact ⟨As, cs, rfl, bT HBw.out Hb.out, Ho.out.sl⟩
   have HA' := Lib.hid (fun W (hW : Below w.heap.size w W) side (h1 : 1 ≤ side ∧ side ≤ 4) => HA.out W hW HOk.out k hlt side h1)
   have w1e : IntKind.i64.wrap ((k : Int) + 1) = (k : Int) + 1 := IntWalk.i64_in _ (by omega)
   obtain ⟨wp, rfl⟩ : ∃ wp : World, wp = wr := ⟨_, rfl⟩
   have hno5 : (badUp (l.map (·.1)) s k).length ≤ 1000 := by omega
   have HN5 := Lib.hid hno5
   have HX3p := Lib.hid (HX3'.out.keep Hb.out)
   clear hno5 X3 X3l X3a X3b X3c X3d X3e X3f
   go_wp2_with fail
   go_loopw [4, 9] (fun bl u wx => ∃ side : Int, (1 ≤ side ∧ side ≤ 5) ∧ bl = .slice As (badUp (l.map (·.1)) s k).length cs ∧ u = .int .i64 side ∧ Below wp.heap.size wp wx ∧ ∀ j : Int, 1 ≤ j → j < side → agS (l.map (·.1)) s ((k : Int) + 1) j = true) (fun _ u _ => 5 - (intOf u).toNat)
   case atStart => exact ⟨1, by omega, rfl, rfl, bR wp, fun _ _ _ => by omega⟩
   case round =>
    obtain ⟨side, hside, rfl, rfl, hbx, hnx⟩ := hrel
    have Hbx := Lib.hid hbx
    have Hnx := Lib.hid hnx
    have X3 := HX3p.out.keep hbx
    have hzx := hbx.size
    clear hbx hnx
    try clear X3l
    try clear X3a
    try clear X3b
    try clear X3c
    try clear X3d
    try clear X3e
    try clear X3f
    obtain ⟨X3l, X3a, X3b, X3c, X3d, X3e, X3f, -, -, -, -, -, -⟩ := X3.facts6
    by_cases h4 : side ≤ 4
    case neg =>
     have h5 : side = 5 := by omega
     subst h5
     have hyes := agAll_yes Hnx.out
     have hst : badUp (l.map (·.1)) s (k + 1) = badUp (l.map (·.1)) s k := by
      rw [badUp, badOne, if_pos hyes, List.append_nil]
     have HSt := Lib.hid hst
     clear hyes hst
     go_wp2_with fail
     go_roundw
     case rel => exact ⟨k + 1, by omega, by go_num, by rw [HSt.out]; exact Ho.out.keep Hbx.out, bT Hb.out Hbx.out⟩
     case measure => simp [intOf]; omega
    have TAg := HA'.out wr (bT HBw.out (bT Hb.out Hbx.out)) side ⟨hside.1, h4⟩
    cases hag : agS (l.map (·.1)) s ((k : Int) + 1) side
    case true =>
     rw [hag] at TAg
     have HAg := Lib.hid TAg
     have HNx := Lib.hid (agree_step Hnx.out hag)
     clear TAg hag
     go_wp2_with fail
     refine HAg.out.mono ?_
     rintro e wy ⟨rfl, hby⟩
     have Hby := Lib.hid (bT Hbx.out hby)
     clear hby
     go_wp2_with fail
     go_roundw
     case rel => exact ⟨side + 1, by omega, rfl, by go_num, Hby.out, HNx.out⟩
     case measure => simp [intOf]; omega
    case false =>
     rw [hag] at TAg
     have HAg := Lib.hid TAg
     have hnoo := agAll_no ⟨hside.1, h4⟩ hag
     have hst : badUp (l.map (·.1)) s (k + 1) = badUp (l.map (·.1)) s k ++ [(k : Int) + 1] := by
      rw [badUp, badOne, if_neg (by rw [hnoo]; simp)]
     have HSt := Lib.hid hst
     clear TAg hag hnoo hst
     go_wp2_with fail
     refine HAg.out.mono ?_
     rintro e wy ⟨rfl, hby⟩
     have Hby := Lib.hid (bT Hbx.out hby)
     clear hby
     have Ho2 := Lib.hid (Ho.out.keep Hby.out)
     have hz2 := Hby.out.size
     go_wp2_with
      (at_builtin
       refine wpList_appl _ rfl (.tmp 61) (.tmp 64) _ rfl (base := W1.heap.size) elem_in inC_len inC_one rfl (Own.alloc Ho2.out _) rfl (l2 := [(k : Int) + 1]) (Sl.lit (n := 1) (Blk.made rfl _ _) rfl (le_maxLen (by omega))) (by have := HN5.out; simp only [List.length_cons, List.length_nil]; omega) (by have := HN5.out; simp only [List.length_cons, List.length_nil]; omega) (by simp; omega) ?_
       intro v3 w3 ho3 hg3 hat3
       have B3 := Lib.hid (show Below W1.heap.size W1 w3 from bG (bA (bT Hb.out Hby.out) _) hg3 (fun g hg => (Ho2.out.lt g hg).1))
       have HO3 := Lib.hid ho3
       clear ho3 hg3 hat3)
     go_roundw
     case rel => exact ⟨k + 1, by omega, by go_num, by rw [HSt.out]; exact HO3.out, B3.out⟩
     case measure => simp [intOf]; omega
end Go.Proofs.YtfdbidagdjnipaaGreatDoor
