/- ref15.second. -/
import Derived.Test.YtoclnkfeblfpbaaGreatRefA15
set_option linter.unusedSimpArgs false
set_option linter.unusedVariables false
namespace Go.Proofs.YtoclnkfeblfpbaaGreat
open Go.RowKit Go.Sort

def secondR (p : Pl) (d : Int) : Pt := (pathR p d).getD 1 pt0
theorem Valid.second_eq {p : Pl} (h : Valid p) {n d : Int} (hd : d ∈ dartL p.arcs n) : secondR p d = toD p d := by
  obtain ⟨a, ha, e⟩ := mem_dartL.1 hd
  have hid := h.id_pos ha
  unfold secondR
  rcases e with ⟨rfl, -⟩ | ⟨rfl, -⟩
  · rw [pathR_eq h (h.arcD_pos ha), if_pos (by omega), h.to_pos ha]
  · rw [pathR_eq h (h.arcD_neg ha), if_neg (by omega), h.to_neg ha]
    have hl := pathS_length p a
    simp only [List.getD_eq_getElem?_getD]
    rw [List.getElem?_reverse (by omega)]
    congr 2
    omega
set_option maxRecDepth 100000 in
set_option maxHeartbeats 4000000 in
theorem second15_spec (v : Value) (p : Pl) (d : Int) (w : World) (h : PlV w v p) (hs : Short p) (hd : -9223372036854775808 < d ∧ d ≤ 9223372036854775807) :
    Calls Tryz.prog 111 #[v, .int .i64 d] w fun e w' => e = .returned (.agg #[.int .i64 (secondR p d).x, .int .i64 (secondR p d).y]) ∧ Below w.heap.size w w' := by
  have HA := Lib.hid (fun W (hW : Below w.heap.size w W) => Path15_spec v p d W (h.mono hW) hs hd)
  obtain ⟨_, _, _, al, rfl, hpa, ⟨An, cn, rfl, -⟩, ⟨⟨Aa, ca, rfl, -⟩, -⟩, ⟨Af, cf, rfl, -⟩⟩ := h
  unfold secondR
  generalize al.length = na at *
  generalize p.nodes.length = nn at *
  generalize p.faces.length = nf at *
  clear hpa hs
  generalize pathR p d = P at *
  obtain ⟨q, hq⟩ : ∃ q, P.getD 1 pt0 = q := ⟨_, rfl⟩
  rw [hq]
  have Hq := Lib.hid hq
  clear hq
  unfold RetPts at HA
  go_enter Tryz.func111, Tryz.ntmps111
  go_wp2_with fail
  refine (HA.out _ (bA (bA (bR w) _) _)).mono ?_
  rintro e w1 ⟨A1, c1, rfl, hb1, ho1⟩
  have B1 := Lib.hid (bT (bA (bA (bR w) _) _) hb1)
  have X4 : Blk w1 (w.heap.size + 1) 41 #[.int .i64 0, .int .i64 0] := (Blk.made (by simp) _ _).keep hb1
  obtain ⟨Aq, cq, he, hq1, hq2, hRP⟩ := ho1.sl
  injection he with e1 e2 e3
  subst e1 e3
  clear e2
  unfold maxLen at hq2
  have HRP := Lib.hid hRP
  clear hb1 ho1 hRP HA hd
  try clear X4l
  try clear X4a
  try clear X4b
  try clear X4fa
  try clear X4fb
  obtain ⟨X4l, X4a, X4b, X4fa, X4fb⟩ := X4.facts2
  by_cases hl : P.length < 2
  case pos =>
    have hg : P.getD 1 pt0 = pt0 := by
      simp only [List.getD_eq_getElem?_getD, List.getElem?_eq_none (show P.length ≤ 1 by omega), Option.getD_none]
    rw [Hq.out] at hg
    subst hg
    have hl' : (P.length : Int) < 2 := by omega
    clear Hq
    generalize P.length = n at *
    go_wp2_with fail
    refine res_cell (t := 41) (g := w.heap.size + 1) (cs := #[.int .i64 0, .int .i64 0]) rfl struct_pt rfl rfl (Blk.put2 X4) ⟨rfl, ?_⟩
    have Bw := B1.out
    repeat (first | with_reducible exact bR _ | with_reducible assumption | with_reducible refine bA ?_ _ | with_reducible refine bD ?_ | with_reducible refine bN ?_ _ | ((with_reducible refine bS ?_ ?_ _); rotate_left; (simp; try omega)) | ((with_reducible refine bT ?_ ?_); rotate_left; with_reducible assumption) | with_reducible refine bT ?_ (by assumption))
  case neg =>
    have hP1 : 1 < P.length := by omega
    obtain ⟨b1, o1, rfl, hlb, e0, e1⟩ := HRP.out.pt hP1
    have hg : P.getD 1 pt0 = P[1] := by simp only [List.getD_eq_getElem?_getD, List.getElem?_eq_getElem hP1, Option.getD_some]
    rw [Hq.out] at hg
    rw [← hg] at e0 e1
    clear hg HRP Hq
    simp only [Nat.one_mul] at e0 e1
    have hl' : ¬ (P.length : Int) < 2 := by omega
    have hl2 : (1 : Int) < (P.length : Int) := by omega
    generalize P.length = n at *
    go_wp2_with fail
    refine res_cell (t := 41) (g := w.heap.size + 1) (cs := #[.int .i64 q.x, .int .i64 q.y]) rfl struct_pt rfl rfl (Blk.put2 X4) ⟨rfl, ?_⟩
    have Bw := B1.out
    repeat (first | with_reducible exact bR _ | with_reducible assumption | with_reducible refine bA ?_ _ | with_reducible refine bD ?_ | with_reducible refine bN ?_ _ | ((with_reducible refine bS ?_ ?_ _); rotate_left; (simp; try omega)) | ((with_reducible refine bT ?_ ?_); rotate_left; with_reducible assumption) | with_reducible refine bT ?_ (by assumption))
end Go.Proofs.YtoclnkfeblfpbaaGreat
