/- mapsheetsref14.Check. plan.connected. -/
import Derived.Test.YtoclnkfeblfpbaaGreatJ06
set_option linter.unusedSimpArgs false
set_option linter.unusedVariables false
namespace Go.Proofs.YtoclnkfeblfpbaaGreat
open Go.RowKit

def orderedS (p : Pl) : Bool := asc (p.nodes.map (·.id)) && asc (p.arcs.map (·.id)) && asc p.faces
def sidesS (p : Pl) : Bool := p.arcs.all fun a => faceS p.faces a.left && faceS p.faces a.right
/-- The reference's Check. -/
def checkS (p : Pl) : Int :=
 if limS p = true then 3 else if orderedS p = false then 10 else if rangesS p = false then 2 else if dupS (p.nodes.map (·.pt)) = true then 8
 else if p.arcs.all (hasEnds p) = false then 7 else if sidesS p = false then 12 else if planarR p = false then 11 else 0

theorem flat_le {α β : Type} (l : List α) (f : α → List β) (n : Nat) (h : ∀ a ∈ l, (f a).length ≤ n) : (l.flatMap f).length ≤ l.length * n := by
 induction l with
 | nil => simp
 | cons a l ih =>
  simp only [List.flatMap_cons, List.length_append, List.length_cons, Nat.succ_mul]
  have := h a (by simp)
  have := ih fun b hb => h b (by simp [hb])
  omega
theorem limS_no {p : Pl} (h : limS p = false) : (∀ a ∈ p.arcs, a.via.length ≤ 64) ∧ p.nodes.length ≤ 256 ∧ p.arcs.length ≤ 256 ∧ p.faces.length ≤ 64 ∧ (p.arcs.flatMap (·.via)).length ≤ 16384 := by
 unfold limS at h
 simp only [Bool.or_eq_false_iff, decide_eq_false_iff_not, List.any_eq_false, decide_eq_true_eq] at h
 obtain ⟨h1, ⟨h2, h3⟩, h4⟩ := h
 have h5 : ∀ a ∈ p.arcs, a.via.length ≤ 64 := fun a ha => by have := h1 a ha; omega
 have h6 := flat_le p.arcs (·.via) 64 h5
 refine ⟨h5, by omega, by omega, by omega, by omega⟩

set_option maxRecDepth 100000 in
set_option maxHeartbeats 4000000 in
theorem RCheck_spec (v : Value) (p : Pl) (w : World) (h : PlV w v p) :
  Calls Tryz.prog 35 #[v] w fun e w' => e = .returned (.int .i64 (checkS p)) ∧ Below w.heap.size w w' := by
 have HP := Lib.hid h
 obtain ⟨vn, _, vf, al, rfl, hpa, -, ⟨⟨Aa, ca, rfl, ha1, ha2, hRa⟩, hV⟩, hF⟩ := h
 unfold maxLen at ha2
 have HF := Lib.hid hF; clear hF
 have HV := Lib.hid hV; clear hV
 have HRa := Lib.hid hRa; clear hRa
 have Hpa := Lib.hid hpa; clear hpa
 obtain ⟨q, hq⟩ : ∃ q, checkS p = q := ⟨_, rfl⟩
 rw [hq]
 unfold checkS at hq
 have Hq := Lib.hid hq; clear hq
 go_enter Tryz.func35, Tryz.ntmps35
 go_wp2_with fail
 refine (limits_spec _ p _ (HP.out.mono (bA (bR w) _))).mono ?_
 rintro e w1 ⟨rfl, hb1⟩
 have Bw : Below w.heap.size w w1 := by
  repeat (first | with_reducible exact bR _ | with_reducible assumption | with_reducible refine bA ?_ _ | with_reducible refine bD ?_ | with_reducible refine bN ?_ _ | ((with_reducible refine bS ?_ ?_ _); rotate_left; (simp; try omega)) | ((with_reducible refine bT ?_ ?_); rotate_left; with_reducible assumption) | with_reducible refine bT ?_ (by assumption))
 have X2 : Blk _ (w.heap.size) 26 #[vn, .slice Aa al.length ca, vf] := Blk.keep (by repeat (first | exact Blk.made (by simp) _ _ | refine Blk.alloc ?_ _)) hb1
 clear hb1
 obtain ⟨X2l, X2a, X2b, X2c, -, -, -⟩ := X2.facts3
 cases hl : limS p
 case true =>
  have hf := Lib.hid (show 3 = q by rw [← Hq.out, if_pos hl])
  clear hl
  go_wp2_with fail
  go_ret
  exact ⟨ret_int hf.out, Bw⟩
 have Hl := Lib.hid (limS_no hl)
 rw [hl] at Hq
 replace Hq := Lib.hid Hq.out
 clear hl
 have hsh : Short p := fun a ha => by have := Hl.out.1 a ha; omega
 have HSh := Lib.hid hsh; clear hsh
 go_wp2_with fail
 refine (ids_nodes_spec _ p _ (HP.out.mono Bw) (by have := Hl.out; omega)).mono ?_
 rintro e w2 ⟨v2, rfl, hb2, ho2⟩
 replace Bw := bT Bw hb2
 replace X2 := X2.keep hb2
 clear hb2
 try clear X2l
 try clear X2a
 try clear X2b
 try clear X2c
 obtain ⟨X2l, X2a, X2b, X2c, -, -, -⟩ := X2.facts3
 have hi2 := Own.sl ho2
 go_wp2_with fail
 refine (Rascending_spec _ _ _ hi2).mono ?_
 rintro e w3 ⟨rfl, hb3⟩
 replace Bw := bT Bw hb3
 replace X2 := X2.keep hb3
 clear hb3
 try clear X2l
 try clear X2a
 try clear X2b
 try clear X2c
 try clear X2l
 try clear X2a
 try clear X2b
 try clear X2c
 obtain ⟨X2l, X2a, X2b, X2c, -, -, -⟩ := X2.facts3
 cases h1 : asc (p.nodes.map (·.id))
 case false =>
  have hf := Lib.hid (show 10 = q by rw [← Hq.out]; simp [orderedS, h1])
  clear h1
  go_wp2_with fail
  go_ret
  exact ⟨ret_int hf.out, Bw⟩
 have H1 := Lib.hid h1; clear h1 hi2 ho2
 go_wp2_with fail
 refine (ids_arcs_spec _ p _ (HP.out.mono Bw) (by have := Hl.out; omega)).mono ?_
 rintro e w4 ⟨v4, rfl, hb4, ho4⟩
 replace Bw := bT Bw hb4
 replace X2 := X2.keep hb4
 clear hb4
 try clear X2l
 try clear X2a
 try clear X2b
 try clear X2c
 obtain ⟨X2l, X2a, X2b, X2c, -, -, -⟩ := X2.facts3
 have hi4 := Own.sl ho4
 go_wp2_with fail
 refine (Rascending_spec _ _ _ hi4).mono ?_
 rintro e w5 ⟨rfl, hb5⟩
 replace Bw := bT Bw hb5
 replace X2 := X2.keep hb5
 clear hb5
 try clear X2l
 try clear X2a
 try clear X2b
 try clear X2c
 try clear X2l
 try clear X2a
 try clear X2b
 try clear X2c
 obtain ⟨X2l, X2a, X2b, X2c, -, -, -⟩ := X2.facts3
 cases h1 : asc (p.arcs.map (·.id))
 case false =>
  have hf := Lib.hid (show 10 = q by rw [← Hq.out]; simp [orderedS, h1])
  clear h1
  go_wp2_with fail
  go_ret
  exact ⟨ret_int hf.out, Bw⟩
 have H2 := Lib.hid h1; clear h1 hi4 ho4
 go_wp2_with fail
 refine (Rascending_spec _ _ _ (HF.out.mono Bw)).mono ?_
 rintro e w6 ⟨rfl, hb6⟩
 replace Bw := bT Bw hb6
 replace X2 := X2.keep hb6
 clear hb6
 try clear X2l
 try clear X2a
 try clear X2b
 try clear X2c
 try clear X2l
 try clear X2a
 try clear X2b
 try clear X2c
 obtain ⟨X2l, X2a, X2b, X2c, -, -, -⟩ := X2.facts3
 cases h1 : asc p.faces
 case false =>
  have hf := Lib.hid (show 10 = q by rw [← Hq.out]; simp [orderedS, h1])
  clear h1
  go_wp2_with fail
  go_ret
  exact ⟨ret_int hf.out, Bw⟩
 have ho := Hq.out
 rw [show orderedS p = true by simp [orderedS, H1.out, H2.out, h1]] at ho
 replace Hq := Lib.hid ho
 clear h1 ho H1 H2
 go_wp2_with fail
 refine (ranges_spec _ p _ (HP.out.mono Bw) (by have := Hl.out; omega) (by have := Hl.out; omega) (by have := Hl.out; omega) (by have := Hl.out; omega)).mono ?_
 rintro e w7 ⟨rfl, hb7⟩
 replace Bw := bT Bw hb7
 replace X2 := X2.keep hb7
 clear hb7
 try clear X2l
 try clear X2a
 try clear X2b
 try clear X2c
 try clear X2l
 try clear X2a
 try clear X2b
 try clear X2c
 obtain ⟨X2l, X2a, X2b, X2c, -, -, -⟩ := X2.facts3
 cases h1 : rangesS p
 case false =>
  have hf := Lib.hid (show 2 = q by rw [← Hq.out]; simp [h1])
  clear h1
  go_wp2_with fail
  go_ret
  exact ⟨ret_int hf.out, Bw⟩
 rw [h1] at Hq
 replace Hq := Lib.hid Hq.out
 clear h1
 go_wp2_with fail
 refine (twice_ref_spec _ p _ (HP.out.mono Bw)).mono ?_
 rintro e w8 ⟨rfl, hb8⟩
 replace Bw := bT Bw hb8
 replace X2 := X2.keep hb8
 clear hb8
 try clear X2l
 try clear X2a
 try clear X2b
 try clear X2c
 try clear X2l
 try clear X2a
 try clear X2b
 try clear X2c
 obtain ⟨X2l, X2a, X2b, X2c, -, -, -⟩ := X2.facts3
 cases h1 : dupS (p.nodes.map (·.pt))
 case true =>
  have hf := Lib.hid (show 8 = q by rw [← Hq.out]; simp [h1])
  clear h1
  go_wp2_with fail
  go_ret
  exact ⟨ret_int hf.out, Bw⟩
 rw [h1] at Hq
 replace Hq := Lib.hid Hq.out
 clear h1
 have HX2 := Lib.hid X2
 have HB := Lib.hid Bw
 clear X2 X2l X2a X2b X2c Bw
 simp only [Bool.not_true]
 go_wp2_with fail
 go_loopw [3] (fun i wr => ∃ k : Nat, k ≤ al.length ∧ i = .int .i64 k ∧ Below w8.heap.size w8 wr ∧ ∀ j (hj : j < al.length), j < k → hasEnds p al[j].1 = true) (fun i _ => al.length - (intOf i).toNat)
 case atStart => exact ⟨0, Nat.zero_le _, rfl, bR w8, fun j _ h => by omega⟩
 case round =>
  obtain ⟨k, hk, rfl, hb, hno⟩ := hrel
  have Hb := Lib.hid hb
  have Hno := Lib.hid hno
  have X1 := HX2.out.keep hb
  clear hb hno
  obtain ⟨X1l, X1a, X1b, X1c, -, -, -⟩ := X1.facts3
  by_cases hlt : k < al.length
  case neg =>
   have hg := Lib.hid (show p.arcs.all (hasEnds p) = true by
    rw [Hpa.out, List.all_map]
    exact all_miss al (fun a => hasEnds p a.1) (fun j hj => Hno.out j hj (by omega)))
   have ho := Hq.out
   rw [hg.out] at ho
   replace Hq := Lib.hid ho
   clear ho
   go_wp2_with fail
   obtain ⟨wo, rfl⟩ : ∃ wo : World, wo = wr := ⟨_, rfl⟩
   have HX1 := Lib.hid X1
   have HBo := Lib.hid (bT HB.out Hb.out)
   clear X1 X1l X1a X1b X1c
   go_loopw [6] (fun i wr => ∃ k : Nat, k ≤ al.length ∧ i = .int .i64 k ∧ Below wo.heap.size wo wr ∧ ∀ j (hj : j < al.length), j < k → (faceS p.faces al[j].1.left && faceS p.faces al[j].1.right) = true) (fun i _ => al.length - (intOf i).toNat)
   case atStart => exact ⟨0, Nat.zero_le _, rfl, bR wo, fun j _ h => by omega⟩
   case round =>
    obtain ⟨k, hk, rfl, hb, hno⟩ := hrel
    have Hb2 := Lib.hid hb
    have Hno2 := Lib.hid hno
    have X1 := HX1.out.keep hb
    clear hb hno
    try clear X1l
    try clear X1a
    try clear X1b
    try clear X1c
    obtain ⟨X1l, X1a, X1b, X1c, -, -, -⟩ := X1.facts3
    by_cases hlt : k < al.length
    case neg =>
     have hg := Lib.hid (show sidesS p = true by
      unfold sidesS
      rw [Hpa.out, List.all_map]
      exact all_miss al (fun a => faceS p.faces a.1.left && faceS p.faces a.1.right) (fun j hj => Hno2.out j hj (by omega)))
     have ho := Hq.out
     rw [hg.out] at ho
     replace Hq := Lib.hid ho
     clear ho
     go_wp2_with fail
     refine (planar_ref_spec _ p _ (HP.out.mono (bT HBo.out Hb2.out)) (by have := Hl.out; omega) (by have := Hl.out; omega)).mono ?_
     rintro e w9 ⟨rfl, hb9⟩
     have B9 := bT (bT HBo.out Hb2.out) hb9
     cases h1 : planarR p
     case false =>
      have hf := Lib.hid (show 11 = q by rw [← Hq.out]; simp [h1])
      clear h1
      go_wp2_with fail
      go_ret
      exact ⟨ret_int hf.out, B9⟩
     case true =>
      have hf := Lib.hid (show 0 = q by rw [← Hq.out]; simp [h1])
      clear h1
      go_wp2_with fail
      go_ret
      exact ⟨ret_int hf.out, B9⟩
    obtain ⟨b, o, rfl, hlb, c0, c1, c2, c3, c4, c5⟩ := (HRa.out.mono (bT HBo.out Hb2.out)).ar hlt
    have q1 : 0 ≤ (k : Int) := by omega
    have q2 : (k : Int) < al.length := by omega
    have TF : ∀ (n : Int) W, Below w.heap.size w W → Calls Tryz.prog 66 #[.agg #[vn, .slice (some ⟨b, o, none⟩) al.length ca, vf], .int .i64 n] W (fun e w' => e = .returned (.bool (faceS p.faces n)) ∧ Below W.heap.size W w') := fun n W hW => Face_spec _ p n W (HP.out.mono hW)
    cases h1 : faceS p.faces al[k].1.left
    case false =>
     have TL := TF al[k].1.left
     rw [h1] at TL
     have HT := Lib.hid TL
     have hg := Lib.hid (show sidesS p = false by
      unfold sidesS
      rw [Hpa.out, List.all_map]
      exact all_hit al (fun a => faceS p.faces a.1.left && faceS p.faces a.1.right) k hlt (by simp [h1]))
     have hf := Lib.hid (show 12 = q by rw [← Hq.out]; simp [hg.out])
     clear h1 TF TL
     go_upto_region 18 with fail
     refine rg_start (Since wr) (.run 7 0 0 (.call 7 255 (.run 12 8 255 (.done)))) (by kernel_rfl) (bD (bR _)) (by kernel_rfl) (by kernel_rfl) (Nat.le_of_ble_eq_true (by kernel_rfl)) ?_
     intro opsR QR Hops HQrg hS
     iterate 7
      apply rg_p; exact Hops; exact rfl; exact hS; exact rfl
      · intro _ hqc; go_simp; try rfl
      try simp only [pu]
     refine rg_call (i := 7) (get_of Hops rfl) (fun K hK => ?_)
     have HSrg := Lib.hid hS; clear hS
     refine rg_run (wanted_plain rfl) ?_
     go_simp
     refine (HT.out _ (bT (bT HBo.out Hb2.out) HSrg.out)).mono ?_
     rintro e wr1 ⟨rfl, hbr1⟩
     have hS : Since wr wr1 := bT (w := wr) HSrg.out hbr1
     clear HSrg
     refine hK.out _ _ hS (fun _ => ?_)
     clear hK K
     try simp only [pu]
     iterate 2
      apply rg_p; exact Hops; exact rfl; exact hS; exact rfl
      · intro _ hqc; go_simp; try rfl
      try simp only [pu]
     iterate 9
      refine rg_yn Hops rfl hS rfl rfl rfl rfl rfl ?_
      try simp only [pu]
     apply rg_p; exact Hops; exact rfl; exact hS; exact rfl
     · intro _ hqc; go_simp; try rfl
     try simp only [pu]
     refine rg_done ?_
     refine HQrg.down _ _ ?_
     have hB : Below wr.heap.size wr wr1 := hS
     clear hS HQrg Hops
     go_wp2_with fail
     go_ret
     exact ⟨ret_int hf.out, bT (bT HBo.out Hb2.out) hB⟩
    case true =>
     have TL := TF al[k].1.left
     rw [h1] at TL
     have HT := Lib.hid TL
     have HU := Lib.hid (TF al[k].1.right)
     have H1 := Lib.hid h1
     clear h1 TF TL
     go_upto_region 18 with fail
     refine rg_start (Since wr) (.run 7 0 0 (.call 7 255 (.run 9 8 255 (.call 17 262143 (.take 18 524287 (.take 19 1048575 (.done))))))) (by kernel_rfl) (bD (bR _)) (by kernel_rfl) (by kernel_rfl) (Nat.le_of_ble_eq_true (by kernel_rfl)) ?_
     intro opsR QR Hops HQrg hS
     iterate 7
      apply rg_p; exact Hops; exact rfl; exact hS; exact rfl
      · intro _ hqc; go_simp; try rfl
      try simp only [pu]
     refine rg_call (i := 7) (get_of Hops rfl) (fun K hK => ?_)
     have HSrg := Lib.hid hS; clear hS
     refine rg_run (wanted_plain rfl) ?_
     go_simp
     refine (HT.out _ (bT (bT HBo.out Hb2.out) HSrg.out)).mono ?_
     rintro e wr1 ⟨rfl, hbr1⟩
     have hS : Since wr wr1 := bT (w := wr) HSrg.out hbr1
     clear HSrg
     refine hK.out _ _ hS (fun _ => ?_)
     clear hK K
     try simp only [pu]
     iterate 2
      apply rg_p; exact Hops; exact rfl; exact hS; exact rfl
      · intro _ hqc; go_simp; try rfl
      try simp only [pu]
     iterate 7
      apply rg_g; exact Hops; exact rfl; exact hS; iterate 4 exact rfl
      · intro _ hqc; go_simp; try rfl
      try simp only [pu]
     refine rg_call (i := 17) (get_of Hops rfl) (fun K hK => ?_)
     have HSrg := Lib.hid hS; clear hS
     refine rg_run (wanted_yes rfl (get_of Hops rfl) rfl rfl) ?_
     go_simp
     refine (HU.out _ (bT (bT HBo.out Hb2.out) HSrg.out)).mono ?_
     rintro e wr2 ⟨rfl, hbr2⟩
     have hS : Since wr wr2 := bT (w := wr) HSrg.out hbr2
     clear HSrg
     refine hK.out _ _ hS (fun _ => ?_)
     clear hK K
     try simp only [pu]
     apply rg_g; exact Hops; exact rfl; exact hS; iterate 4 exact rfl
     · intro _ hqc; go_simp; try rfl
     try simp only [pu]
     apply rg_p; exact Hops; exact rfl; exact hS; exact rfl
     · intro _ hqc; go_simp; try rfl
     try simp only [pu]
     refine rg_done ?_
     refine HQrg.down _ _ ?_
     have hB : Below wr.heap.size wr wr2 := hS
     clear hS HQrg Hops
     have B3 := bT Hb2.out hB
     cases h2 : faceS p.faces al[k].1.right
     case false =>
      have hg := Lib.hid (show sidesS p = false by
       unfold sidesS
       rw [Hpa.out, List.all_map]
       exact all_hit al (fun a => faceS p.faces a.1.left && faceS p.faces a.1.right) k hlt (by simp [h2]))
      have hf := Lib.hid (show 12 = q by rw [← Hq.out]; simp [hg.out])
      clear h2
      go_wp2_with fail
      go_ret
      exact ⟨ret_int hf.out, bT HBo.out B3⟩
     case true =>
      have hg := Lib.hid (show (faceS p.faces al[k].1.left && faceS p.faces al[k].1.right) = true by rw [H1.out, h2]; rfl)
      clear h2
      go_wp2_with fail
      go_roundw
      case rel => exact ⟨k + 1, by omega, by go_num, B3, all_succ (p := fun x => (faceS p.faces x.1.left && faceS p.faces x.1.right) = true) Hno2.out hlt hg.out⟩
      case measure => simp [intOf]; omega
  obtain ⟨b, o, rfl, hlb, c0, c1, c2, c3, c4, c5⟩ := (HRa.out.mono (bT HB.out Hb.out)).ar hlt
  have hvk := (HV.out k hlt)
  obtain ⟨Av, cv, hv, -⟩ := hvk
  have hvk := (HV.out k hlt)
  rw [hv] at c3 hvk
  generalize hvl : al[k].1.via.length = vl at c3
  have Hvl := Lib.hid hvl
  have Hvk := Lib.hid hvk
  have q1 : 0 ≤ (k : Int) := by omega
  have q2 : (k : Int) < al.length := by omega
  clear hvk hv hvl
  have TL : ∀ W, Below w.heap.size w W → Calls Tryz.prog 65 #[.agg #[vn, .slice (some ⟨b, o, none⟩) al.length ca, vf], .agg #[.int .i64 al[k].1.id, .int .i64 al[k].1.fr, .int .i64 al[k].1.dst, .slice Av vl cv, .int .i64 al[k].1.left, .int .i64 al[k].1.right]] W (RetPath W (pathS p al[k].1) (hasEnds p al[k].1)) := fun W hW => by
   have := line_spec _ _ p al[k].1 _ (HP.out.mono hW) (Hvk.out.mono hW) (HSh.out _ (by rw [Hpa.out]; exact List.mem_map_of_mem (List.getElem_mem hlt)))
   rw [Hvl.out] at this
   exact this
  have HT := Lib.hid TL; clear TL
  go_upto_region 12 with fail
  refine rg_start (Since wr) (.run 6 0 0 (.call 6 127 (.run 5 7 127 (.done)))) (by kernel_rfl) (bD (bR _)) (by kernel_rfl) (by kernel_rfl) (Nat.le_of_ble_eq_true (by kernel_rfl)) ?_
  intro opsR QR Hops HQrg hS
  iterate 6
   apply rg_p; exact Hops; exact rfl; exact hS; exact rfl
   · intro _ hqc; go_simp; try rfl
   try simp only [pu]
  refine rg_call (i := 6) (get_of Hops rfl) (fun K hK => ?_)
  have HSrg := Lib.hid hS; clear hS
  refine rg_run (wanted_plain rfl) ?_
  go_simp
  refine (HT.out _ (bT (bT HB.out Hb.out) HSrg.out)).mono ?_
  rintro e wr1 ⟨v1, rfl, hbr1, ho1⟩
  have hS : Since wr wr1 := bT (w := wr) HSrg.out hbr1
  clear HSrg
  refine hK.out _ _ hS (fun _ => ?_)
  clear hK K
  try simp only [pu]
  iterate 5
   apply rg_p; exact Hops; exact rfl; exact hS; exact rfl
   · intro _ hqc; go_simp; try rfl
   try simp only [pu]
  refine rg_done ?_
  refine HQrg.down _ _ ?_
  have hB : Below wr.heap.size wr wr1 := hS
  clear hS HQrg Hops
  have B3 := bT Hb.out hB
  cases h2 : hasEnds p al[k].1
  case false =>
   have hg := Lib.hid (show p.arcs.all (hasEnds p) = false by
    rw [Hpa.out, List.all_map]
    exact all_hit al (fun a => hasEnds p a.1) k hlt h2)
   have hf := Lib.hid (show 7 = q by rw [← Hq.out]; simp [hg.out])
   clear h2
   go_wp2_with fail
   go_ret
   exact ⟨ret_int hf.out, bT HB.out B3⟩
  case true =>
   have hg := Lib.hid h2
   clear h2
   go_wp2_with fail
   go_roundw
   case rel => exact ⟨k + 1, by omega, by go_num, B3, all_succ (p := fun x => hasEnds p x.1 = true) Hno.out hlt hg.out⟩
   case measure => simp [intOf]; omega
end Go.Proofs.YtoclnkfeblfpbaaGreat
namespace Go.Proofs.YtoclnkfeblfpbaaGreat
open Go.RowKit

def hasB (l : List Int) (a : Ar) : Bool := l.any (fun y => y == a.fr) && l.any (fun y => y == a.dst)
/-- What 'connected' returns; l: the identifiers of the nodes. -/
def connS (p : Pl) (l : List Int) : Int :=
 if dupS (p.nodes.map (·.pt)) = true then 8 else if p.arcs.all (hasB l) = false then 7 else if sidesS p = false then 12 else 0

set_option maxRecDepth 100000 in
set_option maxHeartbeats 4000000 in
theorem connected_spec (v u : Value) (p : Pl) (l : List Int) (w : World) (h : PlV w v p) (hu : Ints w u l) :
  Calls Tryz.prog 55 #[v, u] w fun e w' => e = .returned (.int .i64 (connS p l)) ∧ Below w.heap.size w w' := by
 obtain ⟨_, _, vf, al, rfl, hpa, ⟨An, cn, rfl, hn1, hn2, hR⟩, ⟨⟨Aa, ca, rfl, ha1, ha2, hRa⟩, hV⟩, hF⟩ := h
 unfold maxLen at hn2 ha2
 have HF := Lib.hid hF; clear hF
 have HU := Lib.hid hu; clear hu
 have HV := Lib.hid hV; clear hV
 have HR := Lib.hid hR; clear hR
 have HRa := Lib.hid hRa; clear hRa
 have hc : connS p l = if dupS (p.nodes.map (·.pt)) = true then 8 else if al.all (fun a => hasB l a.1) = false then 7 else if al.all (fun a => faceS p.faces a.1.left && faceS p.faces a.1.right) = false then 12 else 0 := by
  unfold connS sidesS; rw [hpa, List.all_map, List.all_map]; rfl
 obtain ⟨q, hq⟩ : ∃ q, connS p l = q := ⟨_, rfl⟩
 rw [hq]
 rw [hc] at hq
 have Hq := Lib.hid hq; clear hq hc hpa
 generalize p.nodes = nl at *
 generalize p.faces = fl at *
 go_enter Tryz.func55, Tryz.ntmps55
 go_wp2_with fail
 obtain ⟨W0, hW0⟩ : ∃ W0 : World, W0 = w.alloc (.cells #[.slice An nl.length cn, .slice Aa al.length ca, vf] 26) := ⟨_, rfl⟩
 have X1 : Blk W0 w.heap.size 26 #[.slice An nl.length cn, .slice Aa al.length ca, vf] := by rw [hW0]; exact Blk.made rfl _ _
 have Bw0 : Below w.heap.size w W0 := by rw [hW0]; exact bA (bR w) _
 rw [← hW0]
 have HX0 := Lib.hid X1
 have HB0 := Lib.hid Bw0
 clear hW0 X1 Bw0
 go_loopw [18] (fun s wr => ∃ i : Nat, i ≤ nl.length ∧ s = .int .i64 i ∧ Below W0.heap.size W0 wr ∧ ∀ j k (hk : k < j) (hj : j < nl.length), j < i → ¬ nl[j].pt = nl[k].pt) (fun s _ => nl.length - (intOf s).toNat)
 case atStart => exact ⟨0, Nat.zero_le _, rfl, bR W0, fun _ _ _ _ h => by omega⟩
 case round =>
  obtain ⟨i, hi, rfl, hb, hno⟩ := hrel
  have Hb := Lib.hid hb
  have Hno := Lib.hid hno
  have X1 := HX0.out.keep hb
  clear hb hno
  obtain ⟨X1l, X1a, X1b, X1c, -, -, -⟩ := X1.facts3
  by_cases hlt : i < nl.length
  case pos =>
   obtain ⟨b, o, rfl, hlb, c0, c1, c2⟩ := (HR.out.mono (bT HB0.out Hb.out)).nd hlt
   go_wp2_with fail
   obtain ⟨W1, hW1⟩ : ∃ W1 : World, W1 = wr.alloc (.cells #[.int .i64 nl[i].id, .int .i64 nl[i].pt.x, .int .i64 nl[i].pt.y] 43) := ⟨_, rfl⟩
   have B1 : Below W0.heap.size W0 W1 := by rw [hW1]; exact bA Hb.out _
   have X6 : Blk W1 wr.heap.size 43 #[.int .i64 nl[i].id, .int .i64 nl[i].pt.x, .int .i64 nl[i].pt.y] := by rw [hW1]; exact Blk.made rfl _ _
   rw [← hW1]
   have HX6 := Lib.hid X6
   have HB1 := Lib.hid B1
   clear c0 c1 c2 hlb hW1 X1 X1l X1a X1b X1c X6 B1
   obtain ⟨wo, rfl⟩ : ∃ wo : World, wo = wr := ⟨_, rfl⟩
   go_loopw [28] (fun s wx => ∃ k : Nat, k ≤ i ∧ s = .int .i64 k ∧ Below W1.heap.size W1 wx ∧ ∀ m (hm : m < nl.length), m < k → ¬ nl[i].pt = nl[m].pt) (fun s _ => i - (intOf s).toNat)
   case atStart => exact ⟨0, Nat.zero_le _, rfl, bR W1, fun _ _ h => by omega⟩
   case round =>
    obtain ⟨k, hk, rfl, hb, hno2⟩ := hrel
    have Hb2 := Lib.hid hb
    have Hno2 := Lib.hid hno2
    have X6 := HX6.out.keep hb
    clear hb hno2
    by_cases hlk : k < i
    case neg =>
     have HN := Lib.hid (show ∀ j m (hm : m < j) (hj : j < nl.length), j < i + 1 → ¬ nl[j].pt = nl[m].pt from fun j m hm hj hji => by
      by_cases e : j < i
      · exact Hno.out j m hm hj e
      ·
       have : j = i := by omega
       subst this; exact Hno2.out m (by omega) (by omega))
     go_wp2_with fail
     go_roundw
     case rel => exact ⟨i + 1, by omega, by go_num, bT HB1.out Hb2.out, HN.out⟩
     case measure => simp [intOf]; omega
    have hkl : k < nl.length := by omega
    obtain ⟨b', o', hbo, hlb, c0, c1, c2⟩ := (HR.out.mono (bT HB0.out (bT HB1.out Hb2.out))).nd hkl
    simp only [Option.some.injEq, Addr.mk.injEq, and_true] at hbo
    obtain ⟨rfl, rfl⟩ := hbo
    obtain ⟨X6l, X6a, X6b, X6c, -, -, -⟩ := X6.facts3
    have hE := run_eql_pt nl[i].pt nl[k].pt
    by_cases he : nl[i].pt = nl[k].pt
    ·
     have hd : decide (nl[i].pt = nl[k].pt) = true := decide_eq_true he
     have hf := Lib.hid (show 8 = q by rw [← Hq.out, if_pos (dup_yes (nl.map (·.pt)) i k hlk (by simpa using hlt) (by simpa using he))])
     clear he
     go_wp2_with fail
     go_ret
     exact ⟨ret_int hf.out, bT HB0.out (bT HB1.out (bA Hb2.out _))⟩
    ·
     have hd : decide (nl[i].pt = nl[k].pt) = false := decide_eq_false he
     have He := Lib.hid he
     clear he
     go_wp2_with fail
     go_roundw
     case rel => exact ⟨k + 1, by omega, by go_num, bA Hb2.out _, fun m hm hmk => if e : m < k then Hno2.out m hm e else by
       have : m = k := by omega
       subst this; exact He.out⟩
     case measure => simp [intOf]; omega
  case neg =>
  have hd := Lib.hid (dup_no (nl.map (·.pt)) (fun j m hm hj => by
    have := Hno.out j m hm (by simpa using hj) (by rw [List.length_map] at hj; omega)
    simpa using this))
  have ho := Hq.out
  rw [hd.out] at ho
  simp only [Bool.false_eq_true, if_false] at ho
  replace Hq := Lib.hid ho
  clear ho hd
  go_wp2_with fail
  obtain ⟨wo, rfl⟩ : ∃ wo : World, wo = wr := ⟨_, rfl⟩
  have HX1 := Lib.hid X1
  have HBo := Lib.hid (bT HB0.out Hb.out)
  clear X1 X1l X1a X1b X1c Hno
  go_loopw [42] (fun s wr => ∃ k : Nat, k ≤ al.length ∧ s = .int .i64 k ∧ Below wo.heap.size wo wr ∧ ∀ j (hj : j < al.length), j < k → hasB l al[j].1 = true) (fun s _ => al.length - (intOf s).toNat)
  case atStart => exact ⟨0, Nat.zero_le _, rfl, bR wo, fun _ _ h => by omega⟩
  case round =>
   obtain ⟨k, hk, rfl, hb, hno⟩ := hrel
   have Hb2 := Lib.hid hb
   have Hno := Lib.hid hno
   have X1 := HX1.out.keep hb
   clear hb hno
   try clear X1l
   try clear X1a
   try clear X1b
   try clear X1c
   obtain ⟨X1l, X1a, X1b, X1c, -, -, -⟩ := X1.facts3
   by_cases hlt : k < al.length
   case pos =>
    obtain ⟨b, o, rfl, hlb, c0, c1, c2, c3, c4, c5⟩ := (HRa.out.mono (bT HBo.out Hb2.out)).ar hlt
    obtain ⟨Av, cv, hv, -⟩ := HV.out k hlt
    rw [hv] at c3
    clear hv
    go_wp2_with fail
    refine (Contains_int_spec _ l _ _ (HU.out.mono (bA (bT HBo.out Hb2.out) _))).mono ?_
    rintro e w2 ⟨rfl, hb2⟩
    have B2 := bT (bA Hb2.out _) hb2
    have X10 : Blk w2 wr.heap.size 47 _ := (Blk.made rfl _ _).keep hb2
    clear hb2 c0 c1 c2 c3 c4 c5 hlb
    obtain ⟨X10l, X10a, X10b, X10c, X10d, X10e, X10f, -, -, -, -, -, -⟩ := X10.facts6
    cases h1 : l.any (fun y => y == al[k].1.fr)
    case false =>
     have hg := Lib.hid (all_hit al (fun a => hasB l a.1) k hlt (by simp [hasB, h1]))
     have hf := Lib.hid (show 7 = q by rw [← Hq.out, if_pos hg.out])
     clear h1
     go_wp2_with fail
     go_ret
     exact ⟨ret_int hf.out, bT HBo.out B2⟩
    have H1 := Lib.hid h1; clear h1
    go_wp2_with fail
    refine (Contains_int_spec _ l _ _ (HU.out.mono (bT HBo.out B2))).mono ?_
    rintro e w3 ⟨rfl, hb3⟩
    have B3 := bT B2 hb3
    clear hb3 X10 X10l X10a X10b X10c X10d X10e X10f
    cases h1 : l.any (fun y => y == al[k].1.dst)
    case false =>
     have hg := Lib.hid (all_hit al (fun a => hasB l a.1) k hlt (by simp [hasB, h1]))
     have hf := Lib.hid (show 7 = q by rw [← Hq.out, if_pos hg.out])
     clear h1
     go_wp2_with fail
     go_ret
     exact ⟨ret_int hf.out, bT HBo.out B3⟩
    have hg := Lib.hid (show hasB l al[k].1 = true by simp only [hasB, H1.out, h1]; rfl)
    clear h1
    go_wp2_with fail
    go_roundw
    case rel => exact ⟨k + 1, by omega, by go_num, B3, all_succ (p := fun x => hasB l x.1 = true) Hno.out hlt hg.out⟩
    case measure => simp [intOf]; omega
   case neg =>
   have hd := Lib.hid (all_miss al (fun a => hasB l a.1) (fun j hj => Hno.out j hj (by omega)))
   have ho := Hq.out
   rw [hd.out] at ho
   simp only [Bool.true_eq_false, if_false] at ho
   replace Hq := Lib.hid ho
   clear ho hd
   go_wp2_with fail
   obtain ⟨wq, rfl⟩ : ∃ wq : World, wq = wr := ⟨_, rfl⟩
   replace HX1 := Lib.hid X1
   replace HBo := Lib.hid (bT HBo.out Hb2.out)
   clear X1 X1l X1a X1b X1c Hno Hb2
   go_loopw [62] (fun s wr => ∃ k : Nat, k ≤ al.length ∧ s = .int .i64 k ∧ Below wq.heap.size wq wr ∧ ∀ j (hj : j < al.length), j < k → (faceS fl al[j].1.left && faceS fl al[j].1.right) = true) (fun s _ => al.length - (intOf s).toNat)
   case atStart => exact ⟨0, Nat.zero_le _, rfl, bR wq, fun _ _ h => by omega⟩
   case round =>
    obtain ⟨k, hk, rfl, hb, hno⟩ := hrel
    have Hb2 := Lib.hid hb
    have Hno := Lib.hid hno
    have X1 := HX1.out.keep hb
    clear hb hno
    try clear X1l
    try clear X1a
    try clear X1b
    try clear X1c
    obtain ⟨X1l, X1a, X1b, X1c, -, -, -⟩ := X1.facts3
    by_cases hlt : k < al.length
    case neg =>
     have hd := Lib.hid (all_miss al (fun a => faceS fl a.1.left && faceS fl a.1.right) (fun j hj => Hno.out j hj (by omega)))
     have hf := Lib.hid (show 0 = q by rw [← Hq.out, hd.out]; rfl)
     go_wp2_with fail
     go_ret
     exact ⟨ret_int hf.out, bT HBo.out Hb2.out⟩
    obtain ⟨b, o, rfl, hlb, c0, c1, c2, c3, c4, c5⟩ := (HRa.out.mono (bT HBo.out Hb2.out)).ar hlt
    obtain ⟨Av, cv, hv, -⟩ := HV.out k hlt
    rw [hv] at c3
    clear hv
    go_wp2_with fail
    obtain ⟨W5, hW5⟩ : ∃ W5 : World, W5 = wr.alloc (.cells #[.int .i64 al[k].1.id, .int .i64 al[k].1.fr, .int .i64 al[k].1.dst, .slice Av al[k].1.via.length cv, .int .i64 al[k].1.left, .int .i64 al[k].1.right] 47) := ⟨_, rfl⟩
    have hA5 : Below wr.heap.size wr W5 := by rw [hW5]; exact bA (bR wr) _
    have HB5 := Lib.hid (bT Hb2.out hA5)
    have HX5 := Lib.hid (X1.keep hA5)
    rw [← hW5]
    clear c0 c1 c2 c3 c4 c5 hlb hW5 hA5 X1 X1l X1a X1b X1c
    obtain ⟨wp, rfl⟩ : ∃ wp : World, wp = wr := ⟨_, rfl⟩
    go_loopw [71] (fun s wx => ∃ j : Int, (j = 0 ∨ j = 1 ∨ j = 2) ∧ s = .int .i64 j ∧ Below W5.heap.size W5 wx ∧ (1 ≤ j → faceS fl al[k].1.left = true) ∧ (2 ≤ j → faceS fl al[k].1.right = true)) (fun s _ => 2 - (intOf s).toNat)
    case atStart => exact ⟨0, by omega, rfl, bR W5, fun h => by omega, fun h => by omega⟩
    case round =>
     obtain ⟨j, hj, rfl, hb, hl, hr⟩ := hrel
     have Hb3 := Lib.hid hb
     have Hl := Lib.hid hl
     have Hr := Lib.hid hr
     clear hb hl hr
     rcases hj with rfl | rfl | rfl
     ·
      -- left
      have hI : ∀ w, (Instr.index 96 (.agg #[.int .i64 al[k].1.left, .int .i64 al[k].1.right]) (.int .i64 0)).run Tryz.prog w = .ok (.int .i64 al[k].1.left) w := fun _ => by kernel_rfl
      cases hz : (al[k].1.left != 0)
      case false =>
       have hg := Lib.hid (show faceS fl al[k].1.left = true by
        have : al[k].1.left = 0 := by simpa [bne_eq_false_iff_eq] using hz
        simp [faceS, this])
       go_wp2_with fail
       go_roundw
       case rel => exact ⟨1, by omega, rfl, Hb3.out, fun h => by first | exact hg.out | exact Hl.out (by omega), fun h => by first | omega | exact hg.out⟩
       case measure => simp [intOf]
      have X1 := HX5.out.keep Hb3.out
      try clear X1l
      try clear X1a
      try clear X1b
      try clear X1c
      obtain ⟨X1l, X1a, X1b, X1c, -, -, -⟩ := X1.facts3
      go_wp2_with fail
      refine (Contains_int_spec _ fl _ _ (HF.out.mono (bT HBo.out (bT HB5.out Hb3.out)))).mono ?_
      rintro e w6 ⟨rfl, hb6⟩
      have B6 := bT Hb3.out hb6
      clear hb6 X1 X1l X1a X1b X1c
      cases h1 : fl.any (fun y => y == al[k].1.left)
      case false =>
       have hfc := Lib.hid (show faceS fl al[k].1.left = false by
        have : ¬ al[k].1.left = 0 := by simpa using hz
        simp only [faceS, h1]; simpa using this)
       have hg := Lib.hid (all_hit al (fun a => faceS fl a.1.left && faceS fl a.1.right) k hlt (by simp [hfc.out]))
       have hf := Lib.hid (show 12 = q by rw [← Hq.out, if_pos hg.out])
       clear h1
       go_wp2_with fail
       go_ret
       exact ⟨ret_int hf.out, bT HBo.out (bT HB5.out B6)⟩
      have hg := Lib.hid (show faceS fl al[k].1.left = true by simp [faceS, h1])
      clear h1
      go_wp2_with fail
      go_roundw
      case rel => exact ⟨1, by omega, rfl, B6, fun h => by first | exact hg.out | exact Hl.out (by omega), fun h => by first | omega | exact hg.out⟩
      case measure => simp [intOf]
     ·
      -- right
      have hI : ∀ w, (Instr.index 96 (.agg #[.int .i64 al[k].1.left, .int .i64 al[k].1.right]) (.int .i64 1)).run Tryz.prog w = .ok (.int .i64 al[k].1.right) w := fun _ => by kernel_rfl
      cases hz : (al[k].1.right != 0)
      case false =>
       have hg := Lib.hid (show faceS fl al[k].1.right = true by
        have : al[k].1.right = 0 := by simpa [bne_eq_false_iff_eq] using hz
        simp [faceS, this])
       go_wp2_with fail
       go_roundw
       case rel => exact ⟨2, by omega, rfl, Hb3.out, fun h => by first | exact hg.out | exact Hl.out (by omega), fun h => by first | omega | exact hg.out⟩
       case measure => simp [intOf]
      have X1 := HX5.out.keep Hb3.out
      try clear X1l
      try clear X1a
      try clear X1b
      try clear X1c
      obtain ⟨X1l, X1a, X1b, X1c, -, -, -⟩ := X1.facts3
      go_wp2_with fail
      refine (Contains_int_spec _ fl _ _ (HF.out.mono (bT HBo.out (bT HB5.out Hb3.out)))).mono ?_
      rintro e w6 ⟨rfl, hb6⟩
      have B6 := bT Hb3.out hb6
      clear hb6 X1 X1l X1a X1b X1c
      cases h1 : fl.any (fun y => y == al[k].1.right)
      case false =>
       have hfc := Lib.hid (show faceS fl al[k].1.right = false by
        have : ¬ al[k].1.right = 0 := by simpa using hz
        simp only [faceS, h1]; simpa using this)
       have hg := Lib.hid (all_hit al (fun a => faceS fl a.1.left && faceS fl a.1.right) k hlt (by simp [hfc.out]))
       have hf := Lib.hid (show 12 = q by rw [← Hq.out, if_pos hg.out])
       clear h1
       go_wp2_with fail
       go_ret
       exact ⟨ret_int hf.out, bT HBo.out (bT HB5.out B6)⟩
      have hg := Lib.hid (show faceS fl al[k].1.right = true by simp [faceS, h1])
      clear h1
      go_wp2_with fail
      go_roundw
      case rel => exact ⟨2, by omega, rfl, B6, fun h => by first | exact hg.out | exact Hl.out (by omega), fun h => by first | omega | exact hg.out⟩
      case measure => simp [intOf]
     ·
      have hg := Lib.hid (show (faceS fl al[k].1.left && faceS fl al[k].1.right) = true by rw [Hl.out (by omega), Hr.out (by omega)]; rfl)
      go_wp2_with fail
      go_roundw
      case rel => exact ⟨k + 1, by omega, by go_num, bT HB5.out Hb3.out, all_succ (p := fun x => (faceS fl x.1.left && faceS fl x.1.right) = true) Hno.out hlt hg.out⟩
      case measure => simp [intOf]; omega
end Go.Proofs.YtoclnkfeblfpbaaGreat
