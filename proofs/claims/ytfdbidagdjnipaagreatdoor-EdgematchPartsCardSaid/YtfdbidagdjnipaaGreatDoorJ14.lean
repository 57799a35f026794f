/- plan.Check: it returns what the reference's Check does (checkS). Plain law: what Check's OK says of a plan: its inner points are apart from all others, the ends of its arcs are counted at its nodes. No walk here. Plain words: the crossings of the arcs of a plan at an edge. No walk here. Plain law: neighbouring sheets expect the same crossings, in opposite directions. No walk here. edgematch: facing, crossings. mapsheetsref42.facing; mapsheetsref04.Has. -/
import Derived.Test.YtfdbidagdjnipaaGreatDoorPlanar
import Derived.Test.YtfdbidagdjnipaaGreatDoorJ13
import Derived.Test.YtfdbidagdjnipaaGreatDoorJ01
import Derived.Test.YtfdbidagdjnipaaGreatDoorJ12
import Derived.Test.YtfdbidagdjnipaaGreatDoorJ11
set_option linter.unusedSimpArgs false
set_option linter.unusedVariables false
namespace Go.Proofs.YtfdbidagdjnipaaGreatDoor
open Go.RowKit

theorem hasB_eq (p : Pl) (a : Ar) : hasB (p.nodes.map (·.id)) a = hasEnds p a := by
 have h : ∀ id : Int, (p.nodes.map (·.id)).any (fun y => y == id) = (findNd p.nodes id).isSome := fun id => by
  unfold findNd
  rw [List.any_map, Bool.eq_iff_iff, List.any_eq_true, List.find?_isSome]
  rfl
 unfold hasB hasEnds
 rw [h, h]
theorem conn_eq (p : Pl) : connS p (p.nodes.map (·.id)) = if dupS (p.nodes.map (·.pt)) = true then 8 else if p.arcs.all (hasEnds p) = false then 7 else if sidesS p = false then 12 else 0 := by
 unfold connS
 have : hasB (p.nodes.map (·.id)) = hasEnds p := funext fun a => hasB_eq p a
 rw [this]
theorem check_eq (p : Pl) (h : limS p = false) : checkS p = if orderedS p = false then 10 else if rangesS p = false then 2 else if connS p (p.nodes.map (·.id)) = 0 then (if planarR p = false then 11 else 0) else connS p (p.nodes.map (·.id)) := by
 unfold checkS
 rw [h, conn_eq]
 rw [if_neg (show ¬ false = true by decide)]
 split
 · rfl
 split
 · rfl
 split
 · rfl
 split
 · rfl
 split
 · rfl
 · rfl
theorem conn_zero (p : Pl) (h : connS p (p.nodes.map (·.id)) = 0) : ∀ a ∈ p.arcs, hasEnds p a = true := by
 rw [conn_eq] at h
 cases h2 : p.arcs.all (hasEnds p)
 ·
  rw [h2] at h
  split at h
  · omega
  · simp at h
 · exact List.all_eq_true.1 h2
theorem placed_eq (p : Pl) : placedS p = (pointsS p).all ptOk := by
 unfold placedS pointsS
 have h : ∀ l : List Pt, (!l.any ptBad) = l.all ptOk := fun l => by
  induction l with
  | nil => rfl
  | cons a l ih => rw [List.any_cons, List.all_cons, Bool.not_or, ih, ptBad_eq, Bool.not_not]
 rw [List.all_append, List.all_flatMap, List.all_map]
 have h1 : (!p.nodes.any fun n => ptBad n.pt) = p.nodes.all (ptOk ∘ fun n => n.pt) := by
  have := h (p.nodes.map (·.pt))
  rw [List.any_map, List.all_map] at this
  exact this
 have h2 : (!p.arcs.any fun a => a.via.any ptBad) = p.arcs.all fun a => a.via.all ptOk := by
  rw [List.not_any_eq_all_not]
  congr 1
  funext a
  exact h a.via
 rw [h1, h2]
theorem ranges_eq (p : Pl) : rangesS p = (!(p.nodes.map (·.id)).any idBad && !(p.arcs.map (·.id)).any idBad && !p.faces.any idBad && placedS p) := by
 unfold rangesS
 rw [placed_eq, List.any_append, List.any_append, Bool.not_or, Bool.not_or]
theorem any_no {α : Type} {l : List α} {q : α → Bool} (h : l.any q = false) : ∀ x ∈ l, q x = false := fun x hx => by
 rw [List.any_eq_false] at h
 have := h x hx
 simpa using this
theorem wf_ids {l : List Nd} (h : (l.map (·.id)).any idBad = false) : ∀ n ∈ l, wfI n.id := fun n hn => by
 have := any_no h n.id (List.mem_map_of_mem hn)
 simp only [idBad, Bool.or_eq_false_iff, decide_eq_false_iff_not] at this
 exact wfI_of (by omega) (by omega)
theorem abs_len {p : Pl} (h : limS p = false) : (p.arcs.flatMap (absOf p)).length ≤ 2097152 := by
 obtain ⟨h1, h2, h3, h4, h5⟩ := limS_no h
 have hl := flat_le p.arcs (absOf p) 65 (fun a ha => by
  simp only [absOf, List.length_map, List.length_range]
  unfold pathOf
  cases hb : findAr p.arcs a.id with
  | none => simp
  | some b =>
   simp only []
   split
   ·
    have := h1 b (findAr_mem hb)
    simp only [Option.getD_some, pathS_length]
    omega
   · simp)
 omega

set_option maxRecDepth 100000 in
set_option maxHeartbeats 8000000 in
theorem Check_spec (v : Value) (p : Pl) (w : World) (h : PlV w v p) :
  Calls Tryz.prog 28 #[v] w fun e w' => e = .returned (.int .i64 (checkS p)) ∧ Below w.heap.size w w' := by
 have HP := Lib.hid h
 obtain ⟨_, _, _, al, rfl, hpa, ⟨An, cn, rfl, hn1, hn2, -⟩, ⟨⟨Aa, ca, rfl, ha1, ha2, hRa⟩, hV⟩, hF⟩ := h
 have HF := Lib.hid hF
 obtain ⟨Af, cf, rfl, hf1, hf2, -⟩ := hF
 unfold maxLen at hn2 ha2 hf2
 have HV := Lib.hid hV; clear hV
 have HRa := Lib.hid hRa; clear hRa
 obtain ⟨q, hq⟩ : ∃ q, checkS p = q := ⟨_, rfl⟩
 rw [hq]
 have hq2 := hq
 unfold checkS at hq
 have hbig : 256 < p.nodes.length ∨ 256 < al.length ∨ 64 < p.faces.length → 3 = q := fun hh => by
  rw [← hq, if_pos]
  unfold limS
  rw [hpa, List.length_map]
  simp only [Bool.or_eq_true, decide_eq_true_eq]
  omega
 have hvia : ∀ k (hk : k < al.length), 64 < al[k].1.via.length → 3 = q := fun k hk hh => by
  rw [← hq, if_pos]
  unfold limS
  rw [hpa, List.any_map]
  have := any_hit al ((fun a => decide (64 < a.via.length)) ∘ fun x => x.1) k hk (by simpa using hh)
  rw [this]; rfl
 have hsmall : ¬ 256 < p.nodes.length → ¬ 256 < al.length → ¬ 64 < p.faces.length → (∀ k (hk : k < al.length), ¬ 64 < al[k].1.via.length) → limS p = false := fun h1 h2 h3 h4 => by
  unfold limS
  rw [hpa, List.length_map, List.any_map]
  have := any_miss al ((fun a => decide (64 < a.via.length)) ∘ fun x => x.1) (fun j hj => by have := h4 j hj; simpa using this)
  rw [this, decide_eq_false h1, decide_eq_false h2, decide_eq_false h3]; rfl
 have Hq := Lib.hid hq2
 have HBig := Lib.hid hbig
 have HVia := Lib.hid hvia
 have HSmall := Lib.hid hsmall
 have Hpa := Lib.hid hpa
 clear hq hq2 hbig hvia hsmall hpa
 go_enter Tryz.func28, Tryz.ntmps28
 by_cases g1 : 256 < p.nodes.length
 ·
  have hf := Lib.hid (HBig.out (.inl g1))
  go_wp2_with fail
  go_ret
  exact ⟨ret_int hf.out, bA (bR w) _⟩
 by_cases g2 : 256 < al.length
 ·
  have hf := Lib.hid (HBig.out (.inr (.inl g2)))
  go_wp2_with fail
  go_ret
  exact ⟨ret_int hf.out, bA (bR w) _⟩
 by_cases g3 : 64 < p.faces.length
 ·
  have hf := Lib.hid (HBig.out (.inr (.inr g3)))
  go_wp2_with fail
  go_ret
  exact ⟨ret_int hf.out, bA (bR w) _⟩
 go_wp2_with fail
 obtain ⟨W1, hW1⟩ : ∃ W1 : World, W1 = w.alloc (.cells #[.slice An p.nodes.length cn, .slice Aa al.length ca, .slice Af p.faces.length cf] 26) := ⟨_, rfl⟩
 have HB1 := Lib.hid (show Below w.heap.size w W1 by rw [hW1]; exact bA (bR w) _)
 have HX1 : Hid (Blk W1 w.heap.size 26 #[.slice An p.nodes.length cn, .slice Aa al.length ca, .slice Af p.faces.length cf]) := Lib.hid (by rw [hW1]; exact Blk.made rfl _ _)
 rw [← hW1]
 clear hW1
 go_loopw [26] (fun u wr => ∃ k : Nat, k ≤ al.length ∧ u = .int .i64 k ∧ Below W1.heap.size W1 wr ∧ ∀ j (hj : j < al.length), j < k → ¬ 64 < al[j].1.via.length) (fun u _ => al.length - (intOf u).toNat)
 case atStart => exact ⟨0, Nat.zero_le _, rfl, bR W1, fun _ _ h => by omega⟩
 case round =>
 obtain ⟨k, hk, rfl, hb, hno⟩ := hrel
 have Hb := Lib.hid hb
 have Hno := Lib.hid hno
 have X1 := HX1.out.keep hb
 clear hb hno
 obtain ⟨X1l, X1a, X1b, X1c, -, -, -⟩ := X1.facts3
 by_cases hlt : k < al.length
 case pos =>
  obtain ⟨b, o, rfl, hlb, c0, c1, c2, c3, c4, c5⟩ := (HRa.out.mono (bT HB1.out Hb.out)).ar hlt
  obtain ⟨Av, cv, hv, hv1, hv2, -⟩ := HV.out k hlt
  unfold maxLen at hv2
  rw [hv] at c3
  clear hv
  by_cases hbig : 64 < al[k].1.via.length
  ·
   have hf := Lib.hid (HVia.out k hlt hbig)
   go_wp2_with fail
   go_ret
   exact ⟨ret_int hf.out, bT HB1.out (bA Hb.out _)⟩
  ·
   have hb' := Lib.hid hbig
   go_wp2_with fail
   go_roundw
   case rel => exact ⟨k + 1, by omega, by go_num, bA Hb.out _, all_succ (p := fun a => ¬ 64 < a.1.via.length) Hno.out hlt hb'.out⟩
   case measure => simp [intOf]; omega
 case neg =>
 have hlim := HSmall.out g1 g2 g3 (fun j hj => Hno.out j hj (by omega))
 have hlen := abs_len hlim
 have hq := Hq.out
 rw [check_eq p hlim] at hq
 have Hlim := Lib.hid hlim
 have HLen := Lib.hid hlen
 have hsh : Short p := fun a ha => by have := (limS_no hlim).1 a ha; omega
 have HSh := Lib.hid hsh
 replace Hq := Lib.hid hq
 have hpal : p.arcs.length ≤ 4096 := by rw [Hpa.out, List.length_map]; omega
 clear hlim hlen hsh hq HBig HVia HSmall HV HRa Hno
 have Bw := bT HB1.out Hb.out
 clear Hb
 go_wp2_with fail
 refine (identifiers_spec _ p _ (HP.out.mono Bw) (by omega) hpal).mono ?_
 rintro e w2 ⟨v2, u2, rfl, hb2, ho1, ho2⟩
 have HO1 := Lib.hid (Own.sl ho1)
 have HO2 := Lib.hid (Own.sl ho2)
 replace Bw := bT Bw hb2
 replace X1 := X1.keep hb2
 clear hb2 ho1 ho2
 try clear X1l
 try clear X1a
 try clear X1b
 try clear X1c
 obtain ⟨X1l, X1a, X1b, X1c, -, -, -⟩ := X1.facts3
 obtain ⟨wz, rfl⟩ : ∃ wz : World, wz = w2 := ⟨_, rfl⟩
 go_wp2_with fail
 refine (ascending_spec _ _ _ HO1.out).mono ?_
 rintro e w3 ⟨rfl, hb3⟩
 have B3 := hb3
 replace X1 := X1.keep hb3
 clear hb3
 try clear X1l
 try clear X1a
 try clear X1b
 try clear X1c
 obtain ⟨X1l, X1a, X1b, X1c, -, -, -⟩ := X1.facts3
 cases h1 : asc (p.nodes.map (·.id))
 case false =>
  have hf := Lib.hid (show 10 = q by rw [← Hq.out, if_pos (by simp [orderedS, h1])])
  clear h1
  go_wp2_with fail
  go_ret
  exact ⟨ret_int hf.out, bT Bw B3⟩
 have H1 := Lib.hid h1; clear h1
 go_wp2_with fail
 refine (ascending_spec _ _ _ (HO2.out.mono B3)).mono ?_
 rintro e w4 ⟨rfl, hb4⟩
 have B4 := bT B3 hb4
 replace X1 := X1.keep hb4
 clear hb4 B3
 try clear X1l
 try clear X1a
 try clear X1b
 try clear X1c
 obtain ⟨X1l, X1a, X1b, X1c, -, -, -⟩ := X1.facts3
 cases h1 : asc (p.arcs.map (·.id))
 case false =>
  have hf := Lib.hid (show 10 = q by rw [← Hq.out, if_pos (by simp [orderedS, h1])])
  clear h1
  go_wp2_with fail
  go_ret
  exact ⟨ret_int hf.out, bT Bw B4⟩
 have H2 := Lib.hid h1; clear h1
 go_wp2_with fail
 refine (ascending_spec _ _ _ (HF.out.mono (bT Bw B4))).mono ?_
 rintro e w5 ⟨rfl, hb5⟩
 have B5 := bT B4 hb5
 replace X1 := X1.keep hb5
 clear hb5 B4
 try clear X1l
 try clear X1a
 try clear X1b
 try clear X1c
 obtain ⟨X1l, X1a, X1b, X1c, -, -, -⟩ := X1.facts3
 cases h1 : asc p.faces
 case false =>
  have hf := Lib.hid (show 10 = q by rw [← Hq.out, if_pos (by simp [orderedS, h1])])
  clear h1
  go_wp2_with fail
  go_ret
  exact ⟨ret_int hf.out, bT Bw B5⟩
 have hq := Hq.out
 rw [if_neg (show ¬ orderedS p = false by simp [orderedS, h1, H1.out, H2.out])] at hq
 replace Hq := Lib.hid hq
 clear hq h1
 go_wp2_with fail
 refine (numbered_spec _ _ _ (HO1.out.mono B5)).mono ?_
 rintro e w6 ⟨rfl, hb6⟩
 have B6 := bT B5 hb6
 replace X1 := X1.keep hb6
 clear hb6 B5
 try clear X1l
 try clear X1a
 try clear X1b
 try clear X1c
 obtain ⟨X1l, X1a, X1b, X1c, -, -, -⟩ := X1.facts3
 cases h1 : (p.nodes.map (·.id)).any idBad
 case true =>
  have hf := Lib.hid (show 2 = q by rw [← Hq.out, if_pos (by rw [ranges_eq, h1]; rfl)])
  clear h1
  go_wp2_with fail
  go_ret
  exact ⟨ret_int hf.out, bT Bw B6⟩
 have H3 := Lib.hid h1; clear h1
 go_wp2_with fail
 refine (numbered_spec _ _ _ (HO2.out.mono B6)).mono ?_
 rintro e w7 ⟨rfl, hb7⟩
 have B7 := bT B6 hb7
 replace X1 := X1.keep hb7
 clear hb7 B6
 try clear X1l
 try clear X1a
 try clear X1b
 try clear X1c
 obtain ⟨X1l, X1a, X1b, X1c, -, -, -⟩ := X1.facts3
 cases h1 : (p.arcs.map (·.id)).any idBad
 case true =>
  have hf := Lib.hid (show 2 = q by rw [← Hq.out, if_pos (by rw [ranges_eq, h1]; simp)])
  clear h1
  go_wp2_with fail
  go_ret
  exact ⟨ret_int hf.out, bT Bw B7⟩
 have H4 := Lib.hid h1; clear h1
 go_wp2_with fail
 refine (numbered_spec _ _ _ (HF.out.mono (bT Bw B7))).mono ?_
 rintro e w8 ⟨rfl, hb8⟩
 have B8 := bT B7 hb8
 replace X1 := X1.keep hb8
 clear hb8 B7
 try clear X1l
 try clear X1a
 try clear X1b
 try clear X1c
 obtain ⟨X1l, X1a, X1b, X1c, -, -, -⟩ := X1.facts3
 cases h1 : p.faces.any idBad
 case true =>
  have hf := Lib.hid (show 2 = q by rw [← Hq.out, if_pos (by rw [ranges_eq, h1]; simp)])
  clear h1
  go_wp2_with fail
  go_ret
  exact ⟨ret_int hf.out, bT Bw B8⟩
 have H5 := Lib.hid h1; clear h1
 go_wp2_with fail
 refine (placed_spec _ p _ (HP.out.mono (bT Bw B8))).mono ?_
 rintro e w9 ⟨rfl, hb9⟩
 have B9 := bT B8 hb9
 replace X1 := X1.keep hb9
 clear hb9 B8
 try clear X1l
 try clear X1a
 try clear X1b
 try clear X1c
 obtain ⟨X1l, X1a, X1b, X1c, -, -, -⟩ := X1.facts3
 cases h1 : placedS p
 case false =>
  have hf := Lib.hid (show 2 = q by rw [← Hq.out, if_pos (by rw [ranges_eq, h1]; simp)])
  clear h1
  go_wp2_with fail
  go_ret
  exact ⟨ret_int hf.out, bT Bw B9⟩
 have hq := Hq.out
 rw [if_neg (show ¬ rangesS p = false by rw [ranges_eq, h1, H3.out, H4.out, H5.out]; decide)] at hq
 replace Hq := Lib.hid hq
 clear hq h1
 go_wp2_with fail
 refine (connected_spec _ _ p _ _ (HP.out.mono (bT Bw B9)) (HO1.out.mono B9)).mono ?_
 rintro e w10 ⟨rfl, hb10⟩
 have B10 := bT B9 hb10
 replace X1 := X1.keep hb10
 clear hb10 B9
 try clear X1l
 try clear X1a
 try clear X1b
 try clear X1c
 obtain ⟨X1l, X1a, X1b, X1c, -, -, -⟩ := X1.facts3
 by_cases h1 : connS p (p.nodes.map (·.id)) = 0
 case neg =>
  have hf := Lib.hid (show connS p (p.nodes.map (·.id)) = q by rw [← Hq.out, if_neg h1])
  generalize connS p (p.nodes.map (·.id)) = c at *
  go_wp2_with fail
  go_ret
  exact ⟨ret_int hf.out, bT Bw B10⟩
 have hq := Hq.out
 rw [if_pos h1] at hq
 replace Hq := Lib.hid hq
 have hends := Lib.hid (conn_zero p h1)
 rw [h1]
 clear hq h1
 have HSd : Hid (Sound p) := Lib.hid ⟨asc_pw _ H1.out, asc_pw _ H2.out, hends.out⟩
 go_wp2_with fail
 refine (planar_spec _ p _ (HP.out.mono (bT Bw B10)) HSh.out HLen.out (by omega) (wf_ids H3.out) HSd.out).mono ?_
 rintro e w11 ⟨rfl, hb11⟩
 have B11 := bT B10 hb11
 clear hb11 B10 X1 X1l X1a X1b X1c
 cases h1 : planarR p
 case false =>
  have hf := Lib.hid (show 11 = q by rw [← Hq.out, if_pos h1])
  clear h1
  go_wp2_with fail
  go_ret
  exact ⟨ret_int hf.out, bT Bw B11⟩
 case true =>
  have hf := Lib.hid (show 0 = q by rw [← Hq.out, if_neg (by rw [h1]; decide)])
  clear h1
  go_wp2_with fail
  go_ret
  exact ⟨ret_int hf.out, bT Bw B11⟩
end Go.Proofs.YtfdbidagdjnipaaGreatDoor
namespace Go.Proofs.YtfdbidagdjnipaaGreatDoor
open Go.RowKit

/-- Check gives OK. -/
structure Valid (p : Pl) : Prop where
 lim : limS p = false
 ord : orderedS p = true
 rng : rangesS p = true
 dup : dupS (p.nodes.map (·.pt)) = false
 ends : p.arcs.all (hasEnds p) = true
 sides : sidesS p = true
 planar : planarR p = true
theorem check_zero (p : Pl) : checkS p = 0 ↔ Valid p := by
 unfold checkS
 constructor
 ·
  intro h
  split at h
  · cases h
  rename_i h1
  split at h
  · cases h
  rename_i h2
  split at h
  · cases h
  rename_i h3
  split at h
  · cases h
  rename_i h4
  split at h
  · cases h
  rename_i h5
  split at h
  · cases h
  rename_i h6
  split at h
  · cases h
  rename_i h7
  exact ⟨by simpa using h1, by simpa using h2, by simpa using h3, by simpa using h4, by simpa using h5, by simpa using h6, by simpa using h7⟩
 ·
  rintro ⟨h1, h2, h3, h4, h5, h6, h7⟩
  simp [h1, h2, h3, h4, h5, h6, h7]

section
variable {p : Pl}
theorem Valid.sound (h : Valid p) : Sound p := by
 have ho := h.ord
 unfold orderedS at ho
 rw [Bool.and_eq_true, Bool.and_eq_true] at ho
 exact ⟨asc_pw _ ho.1.1, asc_pw _ ho.1.2, List.all_eq_true.1 h.ends⟩
theorem ptOk_near {q : Pt} (h : ptOk q = true) : near1 q = true := by
 simp only [ptOk, Bool.and_eq_true, decide_eq_true_eq] at h
 rw [near1_iff]
 omega
theorem Valid.near (h : Valid p) {q : Pt} (hq : q ∈ pointsS p) : near1 q = true := by
 have hr := h.rng
 unfold rangesS at hr
 rw [Bool.and_eq_true] at hr
 exact ptOk_near (List.all_eq_true.1 hr.2 q hq)
theorem Valid.node_near (h : Valid p) {n : Nd} (hn : n ∈ p.nodes) : near1 n.pt = true := h.near (List.mem_append_left _ (List.mem_map_of_mem hn))
theorem Valid.via_near (h : Valid p) {a : Ar} (ha : a ∈ p.arcs) {q : Pt} (hq : q ∈ a.via) : near1 q = true := h.near (List.mem_append_right _ (List.mem_flatMap.2 ⟨a, ha, hq⟩))
theorem Sound.at_fr (hp : Sound p) {a : Ar} (ha : a ∈ p.arcs) : ∃ n ∈ p.nodes, n.id = a.fr ∧ nodeAt p a.fr = n.pt := by
 obtain ⟨⟨n, hn, e⟩, -⟩ := hp.node_of ha
 exact ⟨n, hn, e, by rw [← e, hp.node_eq hn]⟩
theorem Sound.at_dst (hp : Sound p) {a : Ar} (ha : a ∈ p.arcs) : ∃ n ∈ p.nodes, n.id = a.dst ∧ nodeAt p a.dst = n.pt := by
 obtain ⟨-, ⟨n, hn, e⟩⟩ := hp.node_of ha
 exact ⟨n, hn, e, by rw [← e, hp.node_eq hn]⟩
theorem Valid.path_near (h : Valid p) {a : Ar} (ha : a ∈ p.arcs) {q : Pt} (hq : q ∈ pathS p a) : near1 q = true := by
 unfold pathS at hq
 rcases List.mem_cons.1 hq with rfl | hq
 ·
  obtain ⟨n, hn, -, e⟩ := h.sound.at_fr ha
  rw [e]; exact h.node_near hn
 ·
  rcases List.mem_append.1 hq with hq | hq
  · exact h.via_near ha hq
  ·
   rw [List.mem_singleton] at hq
   subst hq
   obtain ⟨n, hn, -, e⟩ := h.sound.at_dst ha
   rw [e]; exact h.node_near hn
end

theorem near4 {a b c d : Pt} (ha : near1 a = true) (hb : near1 b = true) (hc : near1 c = true) (hd : near1 d = true) : nears [a, b, c, d] = true := by simp [nears, ha, hb, hc, hd]
/- ## Segments of a valid plan -/
/-- The segment number k of an arc. -/
def segK (p : Pl) (a : Ar) (k : Nat) : Sg := ⟨a, k, (pathS p a).length - 1, (pathS p a).getD k pt0, (pathS p a).getD (k + 1) pt0⟩
theorem segK_mem {p : Pl} {a : Ar} {k : Nat} (hk : k + 1 < (pathS p a).length) : segK p a k ∈ segsOf a (pathS p a) :=
 List.mem_map.2 ⟨k, List.mem_range.2 (by omega), rfl⟩
theorem path_mem (p : Pl) (a : Ar) (j : Nat) (hj : j < (pathS p a).length) : (pathS p a).getD j pt0 ∈ pathS p a := by
 rw [List.getD_eq_getElem?_getD, List.getElem?_eq_getElem hj]
 exact List.getElem_mem hj

section
variable {p : Pl} (h : Valid p)
include h
theorem Valid.segs : (∀ a ∈ p.arcs, ∀ k, k + 1 < (pathS p a).length → aloneS p (segK p a k) = true) ∧
  (∀ a ∈ p.arcs, ∀ k m, k < m → m + 1 < (pathS p a).length → apartS (segK p a k) (segK p a m) = true) ∧
  p.arcs.Pairwise (fun a b => ∀ k, k + 1 < (pathS p a).length → ∀ m, m + 1 < (pathS p b).length → joinedS p (segK p a k) (segK p b m) = true) := by
 have hp := h.planar
 unfold planarR at hp
 rw [triB_iff] at hp
 obtain ⟨h1, h2⟩ := hp
 unfold segsS at h1 h2
 rw [List.pairwise_flatMap] at h2
 refine ⟨fun a ha k hk => h1 _ (List.mem_flatMap.2 ⟨a, ha, segK_mem hk⟩), fun a ha k m hkm hm => ?_, ?_⟩
 ·
  have h3 := h2.1 a ha
  unfold segsOf at h3
  rw [List.pairwise_map, List.pairwise_iff_getElem] at h3
  have h4 := h3 k m (by rw [List.length_range]; omega) (by rw [List.length_range]; omega) hkm
  simp only [List.getElem_range] at h4
  unfold pairR at h4
  rw [if_pos rfl] at h4
  exact h4
 ·
  have hs := h.sound.arcs
  rw [List.pairwise_map] at hs
  refine (hs.and h2.2).imp ?_
  rintro a b ⟨hlt, h3⟩ k hk m hm
  have h4 := h3 _ (segK_mem hk) _ (segK_mem hm)
  unfold pairR at h4
  rw [if_neg (show ¬ (segK p a k).arc.id = (segK p b m).arc.id from fun e => by have e' : a.id = b.id := e; omega)] at h4
  exact h4
theorem Valid.pt_near {a : Ar} (ha : a ∈ p.arcs) {k : Nat} (hk : k < (pathS p a).length) : near1 ((pathS p a).getD k pt0) = true := h.path_near ha (path_mem p a k hk)
theorem Valid.distinct {a : Ar} (ha : a ∈ p.arcs) {k : Nat} (hk : k + 1 < (pathS p a).length) : (pathS p a).getD k pt0 ≠ (pathS p a).getD (k + 1) pt0 ∧ (a.fr = a.dst → 4 ≤ (pathS p a).length) := by
 have h1 := h.segs.1 a ha k hk
 unfold aloneS soundS segK at h1
 simp only [Bool.and_eq_true, Bool.not_eq_true', decide_eq_false_iff_not, Bool.or_eq_true, bne_iff_ne, decide_eq_true_eq] at h1
 refine ⟨h1.2.1, fun e => ?_⟩
 rcases h1.2.2 with h2 | h2
 · exact absurd e h2
 · omega
end

end Go.Proofs.YtfdbidagdjnipaaGreatDoor
namespace Go.Proofs.YtfdbidagdjnipaaGreatDoor
open Go.RowKit

/-- the run between the points m and k -/
def runS (g : Ed) (path : List Pt) (m k : Nat) : List Pt := if k = m + 1 then [meetP g (path.getD m pt0) (path.getD k pt0)] else (path.drop (m + 1)).take (k - (m + 1))
def expCr (g : Ed) (ns : List Nd) (id : Int) (path : List Pt) (m k : Nat) : List Cr :=
 if openS g ns (runS g path m k) = true then [⟨alongS g (lastP (runS g path m k)), id, if innerS g (path.getD m pt0) then 1 else 0⟩] else []
/-- the last point off the line and the crossings, behind the first k points -/
def expAt (g : Ed) (ns : List Nd) (id : Int) (path : List Pt) : Nat → Int × List Cr
 | 0 => (-1, [])
 | k + 1 =>
  if onE g (path.getD k pt0) = true then expAt g ns id path k
  else ((k : Int), (expAt g ns id path k).2 ++ (if 0 ≤ (expAt g ns id path k).1 ∧ innerS g (path.getD (expAt g ns id path k).1.toNat pt0) ≠ innerS g (path.getD k pt0) then expCr g ns id path (expAt g ns id path k).1.toNat k else []))
def expL (g : Ed) (p : Pl) : List Cr := p.arcs.flatMap fun a => (expAt g p.nodes a.id (pathS p a) (pathS p a).length).2
/-- Expected: the list and the error. -/
def expectedS (p : Pl) (s : Se) (n side : Int) : List Cr × Int :=
 if checkS p = 0 then (if findE s n = 0 then (match edOf (boxOf s n) side with
  | none => ([], 1)
  | some g => (sortCr (expL g p), 0)) else ([], findE s n)) else ([], checkS p)

theorem expAt_bd (g : Ed) (ns : List Nd) (id : Int) (path : List Pt) (k : Nat) : -1 ≤ (expAt g ns id path k).1 ∧ (expAt g ns id path k).1 < k ∧ (0 ≤ (expAt g ns id path k).1 → onE g (path.getD (expAt g ns id path k).1.toNat pt0) = false) ∧ (expAt g ns id path k).2.length ≤ k := by
 induction k with
 | zero => simp [expAt]
 | succ k ih =>
  unfold expAt
  split
  ·
   obtain ⟨h1, h2, h3, h4⟩ := ih
   exact ⟨h1, by omega, h3, by omega⟩
  ·
   rename_i hq
   obtain ⟨h1, h2, h3, h4⟩ := ih
   refine ⟨show (-1 : Int) ≤ (k : Int) by omega, show (k : Int) < ((k + 1 : Nat) : Int) by omega, fun _ => by simp only [Int.toNat_natCast]; exact Bool.eq_false_iff.2 hq, ?_⟩
   show ((expAt g ns id path k).2 ++ _).length ≤ k + 1
   rw [List.length_append]
   have : (if 0 ≤ (expAt g ns id path k).1 ∧ innerS g (path.getD (expAt g ns id path k).1.toNat pt0) ≠ innerS g (path.getD k pt0) then expCr g ns id path (expAt g ns id path k).1.toNat k else []).length ≤ 1 := by
    split
    · unfold expCr; split <;> simp
    · simp
   omega
theorem expAt_on {g : Ed} {ns : List Nd} {id : Int} {path : List Pt} {k : Nat} (h : onE g (path.getD k pt0) = true) : expAt g ns id path (k + 1) = expAt g ns id path k := by
 rw [expAt, if_pos h]
theorem expAt_no {g : Ed} {ns : List Nd} {id : Int} {path : List Pt} {k : Nat} {L : List Cr} (h : onE g (path.getD k pt0) = false) (he : expAt g ns id path k = (-1, L)) : expAt g ns id path (k + 1) = ((k : Int), L) := by
 rw [expAt, if_neg (by rw [h]; simp), he, if_neg (by simp)]
 simp
theorem expAt_same {g : Ed} {ns : List Nd} {id : Int} {path : List Pt} {k m : Nat} {L : List Cr} (h : onE g (path.getD k pt0) = false) (he : expAt g ns id path k = ((m : Int), L)) (hi : innerS g (path.getD m pt0) = innerS g (path.getD k pt0)) : expAt g ns id path (k + 1) = ((k : Int), L) := by
 rw [expAt, if_neg (by rw [h]; simp), he, if_neg]
 · simp
 ·
  simp only [Int.toNat_natCast]
  exact fun h => h.2 hi
theorem expAt_cross {g : Ed} {ns : List Nd} {id : Int} {path : List Pt} {k m : Nat} {L : List Cr} (h : onE g (path.getD k pt0) = false) (he : expAt g ns id path k = ((m : Int), L)) (hi : innerS g (path.getD m pt0) ≠ innerS g (path.getD k pt0)) : expAt g ns id path (k + 1) = ((k : Int), L ++ expCr g ns id path m k) := by
 rw [expAt, if_neg (by rw [h]; simp), he, if_pos]
 · simp
 ·
  simp only [Int.toNat_natCast]
  exact ⟨by omega, hi⟩

theorem bdP_of {q : Pt} (h : ptOk q = true) : bdP q := by
 unfold ptOk at h
 simp only [Bool.and_eq_true, decide_eq_true_eq] at h
 unfold bdP
 omega
theorem Valid.bdP_path {p : Pl} (h : Valid p) {a : Ar} (ha : a ∈ p.arcs) {q : Pt} (hq : q ∈ pathS p a) : bdP q := by
 have hr := h.rng
 unfold rangesS at hr
 simp only [Bool.and_eq_true, List.all_eq_true] at hr
 have key : ∀ q ∈ pointsS p, bdP q := fun q hq => bdP_of (hr.2 q hq)
 unfold pathS at hq
 rcases List.mem_cons.1 hq with rfl | hq
 ·
  obtain ⟨n, hn, -, e⟩ := h.sound.at_fr ha
  rw [e]; exact key _ (List.mem_append_left _ (List.mem_map_of_mem hn))
 ·
  rcases List.mem_append.1 hq with hq | hq
  · exact key _ (List.mem_append_right _ (List.mem_flatMap.2 ⟨a, ha, hq⟩))
  ·
   rw [List.mem_singleton] at hq
   subst hq
   obtain ⟨n, hn, -, e⟩ := h.sound.at_dst ha
   rw [e]; exact key _ (List.mem_append_left _ (List.mem_map_of_mem hn))
theorem meet_ok {g : Ed} {a b : Pt} (ha : bdP a) (hb : bdP b) (h1 : onE g a = false) (h2 : onE g b = false) (h3 : innerS g a ≠ innerS g b) : MeetOk g a b := by
 unfold onE at h1 h2
 unfold innerS at h3
 rw [decide_eq_false_iff_not] at h1 h2
 unfold MeetOk
 unfold acrossS at h1 h2 h3
 cases hu : g.upright
 ·
  rw [hu] at h1 h2 h3
  simp only [Bool.false_eq_true, if_false] at h1 h2 h3 ⊢
  refine ⟨bdP_turn ha, bdP_turn hb, ?_, ?_⟩
  ·
   unfold turnP; simp only
   intro e; rw [e] at h3; exact h3 rfl
  ·
   unfold btwX turnP; simp only
   cases hp : posS g
   ·
    simp only [hp, Bool.false_eq_true, if_false] at h3
    by_cases e1 : a.y < g.line <;> by_cases e2 : b.y < g.line <;> simp only [e1, e2, decide_true, decide_false, ne_eq, not_true] at h3 <;> omega
   ·
    simp only [hp, if_true] at h3
    by_cases e1 : g.line < a.y <;> by_cases e2 : g.line < b.y <;> simp only [e1, e2, decide_true, decide_false, ne_eq, not_true] at h3 <;> omega
 ·
  rw [hu] at h1 h2 h3
  simp only [if_true] at h1 h2 h3 ⊢
  refine ⟨ha, hb, ?_, ?_⟩
  · intro e; rw [e] at h3; exact h3 rfl
  ·
   unfold btwX
   cases hp : posS g
   ·
    simp only [hp, Bool.false_eq_true, if_false] at h3
    by_cases e1 : a.x < g.line <;> by_cases e2 : b.x < g.line <;> simp only [e1, e2, decide_true, decide_false, ne_eq, not_true] at h3 <;> omega
   ·
    simp only [hp, if_true] at h3
    by_cases e1 : g.line < a.x <;> by_cases e2 : g.line < b.x <;> simp only [e1, e2, decide_true, decide_false, ne_eq, not_true] at h3 <;> omega
theorem bdP_wf {q : Pt} (h : bdP q) : wfPt q := by
 obtain ⟨⟨h1, h2⟩, h3, h4⟩ := h
 exact ⟨wfI_of (by omega) (by omega), wfI_of (by omega) (by omega)⟩
theorem AtX.rng {a b : Pt} {x : Int} (h : AtX a b x) : wfI (atxS a b x) := by
 obtain ⟨h1, h2, h3, -⟩ := h.facts
 obtain ⟨r1, r2, r3, r4, r5, r6⟩ := floor_rest h1 h2 h3
 have := h.pa.2
 refine wfI_of ?_ ?_ <;> (unfold atxS roundS; split <;> omega)
theorem AtX.line {a b : Pt} {x : Int} (h : AtX a b x) : wfI x := by
 have h1 := h.lo
 have h2 := h.pa.1
 have h3 := h.pb.1
 unfold btwX at h1
 exact wfI_of (by omega) (by omega)
theorem meet_wf {g : Ed} {a b : Pt} (h : MeetOk g a b) : wfPt (meetP g a b) := by
 unfold MeetOk at h
 unfold meetP
 cases hu : g.upright
 ·
  rw [hu] at h
  exact ⟨AtX.rng h, AtX.line h⟩
 ·
  rw [hu] at h
  exact ⟨AtX.line h, AtX.rng h⟩
theorem run_wf {g : Ed} {path : List Pt} {m k : Nat} (hb : ∀ q ∈ path, bdP q) (hm : k = m + 1 → MeetOk g (path.getD m pt0) (path.getD k pt0)) : ∀ q ∈ runS g path m k, wfPt q := by
 intro q hq
 unfold runS at hq
 split at hq
 ·
  rename_i hk
  rw [List.mem_singleton] at hq
  subst hq
  exact meet_wf (hm hk)
 · exact bdP_wf (hb q (List.mem_of_mem_drop (List.mem_of_mem_take hq)))
end Go.Proofs.YtfdbidagdjnipaaGreatDoor
namespace Go.Proofs.YtfdbidagdjnipaaGreatDoor
open Go.RowKit

def facS (side : Int) : Int := if side ≤ 2 then side + 2 else side - 2

theorem nbS_some {s : Se} {n side m : Int} (h : nbS s n side = some m) : InS s n ∧ (1 ≤ side ∧ side ≤ 4) ∧ (0 ≤ colS s n + dxS side ∧ colS s n + dxS side < s.cols ∧ 0 ≤ rowS s n + dyS side ∧ rowS s n + dyS side < s.rows) ∧ m = (rowS s n + dyS side) * s.cols + (colS s n + dxS side) + 1 := by
 unfold nbS at h
 split at h
 ·
  rename_i hc
  obtain ⟨h1, h2, h3⟩ := hc
  injection h with h
  unfold sideOk at h2
  unfold inGrid at h3
  simp only [Bool.and_eq_true, decide_eq_true_eq] at h2 h3
  exact ⟨findE_zero.1 h1, h2, ⟨h3.1.1, h3.1.2, h3.2.1, h3.2.2⟩, h.symm⟩
 · cases h
theorem grid_at {s : Se} {c r : Int} (hc : 0 ≤ c ∧ c < s.cols) (hr : 0 ≤ r ∧ r < s.rows) (ho : seOk s = true) : InS s (r * s.cols + c + 1) ∧ colS s (r * s.cols + c + 1) = c ∧ rowS s (r * s.cols + c + 1) = r := by
 have h0 : 0 ≤ r * s.cols := Int.mul_nonneg hr.1 (by omega)
 have h1 : (r + 1) * s.cols ≤ s.rows * s.cols := Int.mul_le_mul_of_nonneg_right (by omega) (by omega)
 rw [Int.add_mul, Int.one_mul] at h1
 refine ⟨⟨ho, by omega, by rw [Int.mul_comm s.cols]; omega⟩, ?_, ?_⟩
 ·
  unfold colS
  rw [show r * s.cols + c + 1 - 1 = c + r * s.cols by omega, Int.tmod_eq_emod_of_nonneg (by omega), Int.add_mul_emod_self_right, Int.emod_eq_of_lt hc.1 hc.2]
 ·
  unfold rowS
  rw [show r * s.cols + c + 1 - 1 = c + r * s.cols by omega, Int.tdiv_eq_ediv_of_nonneg (by omega), Int.add_mul_ediv_right _ _ (by omega), Int.ediv_eq_zero_of_lt hc.1 hc.2, Int.zero_add]
theorem nbS_in {s : Se} {n side m : Int} (h : nbS s n side = some m) : InS s m ∧ colS s m = colS s n + dxS side ∧ rowS s m = rowS s n + dyS side := by
 obtain ⟨h1, h2, h3, rfl⟩ := nbS_some h
 exact grid_at ⟨h3.1, h3.2.1⟩ ⟨h3.2.2.1, h3.2.2.2⟩ h1.ok

/-- an edge and the same one of the sheet on the other side -/
structure Facing (g k : Ed) : Prop where
 up : k.upright = g.upright
 line : k.line = g.line
 lo : k.lo = g.lo
 hi : k.hi = g.hi
 pos : posS k = !posS g
theorem edge_facing {s : Se} {n side m : Int} (h : nbS s n side = some m) : ∃ g k, edOf (boxOf s n) side = some g ∧ edOf (boxOf s m) (facS side) = some k ∧ Facing g k := by
 obtain ⟨h1, h2, -, -⟩ := nbS_some h
 obtain ⟨-, hc, hr⟩ := nbS_in h
 unfold boxOf
 rw [hc, hr]
 have hs : side = 1 ∨ side = 2 ∨ side = 3 ∨ side = 4 := by omega
 clear h hc hr h1 h2
 generalize colS s n = c
 generalize rowS s n = r
 rcases hs with rfl | rfl | rfl | rfl
 ·
  refine ⟨_, _, rfl, rfl, ⟨rfl, ?_, ?_, ?_, rfl⟩⟩
  ·
   show s.at_.x + (c + -1) * s.width + s.width = s.at_.x + c * s.width
   rw [Int.add_mul]; omega
  ·
   show s.at_.y + (r + 0) * s.height = s.at_.y + r * s.height
   rw [Int.add_zero]
  ·
   show s.at_.y + (r + 0) * s.height + s.height = s.at_.y + r * s.height + s.height
   rw [Int.add_zero]
 ·
  refine ⟨_, _, rfl, rfl, ⟨rfl, ?_, ?_, ?_, rfl⟩⟩
  ·
   show s.at_.y + (r + -1) * s.height + s.height = s.at_.y + r * s.height
   rw [Int.add_mul]; omega
  ·
   show s.at_.x + (c + 0) * s.width = s.at_.x + c * s.width
   rw [Int.add_zero]
  ·
   show s.at_.x + (c + 0) * s.width + s.width = s.at_.x + c * s.width + s.width
   rw [Int.add_zero]
 ·
  refine ⟨_, _, rfl, rfl, ⟨rfl, ?_, ?_, ?_, rfl⟩⟩
  ·
   show s.at_.x + (c + 1) * s.width = s.at_.x + c * s.width + s.width
   rw [Int.add_mul]; omega
  ·
   show s.at_.y + (r + 0) * s.height = s.at_.y + r * s.height
   rw [Int.add_zero]
  ·
   show s.at_.y + (r + 0) * s.height + s.height = s.at_.y + r * s.height + s.height
   rw [Int.add_zero]
 ·
  refine ⟨_, _, rfl, rfl, ⟨rfl, ?_, ?_, ?_, rfl⟩⟩
  ·
   show s.at_.y + (r + 1) * s.height = s.at_.y + r * s.height + s.height
   rw [Int.add_mul]; omega
  ·
   show s.at_.x + (c + 0) * s.width = s.at_.x + c * s.width
   rw [Int.add_zero]
  ·
   show s.at_.x + (c + 0) * s.width + s.width = s.at_.x + c * s.width + s.width
   rw [Int.add_zero]

section
variable {g k : Ed} (h : Facing g k)
include h
theorem Facing.along (p : Pt) : alongS k p = alongS g p := by unfold alongS; rw [h.up]
theorem Facing.across (p : Pt) : acrossS k p = acrossS g p := by unfold acrossS; rw [h.up]
theorem Facing.on (p : Pt) : onE k p = onE g p := by unfold onE; rw [h.across, h.line]
theorem Facing.inner {p : Pt} (hn : onE g p = false) : innerS k p = !innerS g p := by
 unfold onE at hn
 rw [decide_eq_false_iff_not] at hn
 unfold innerS
 rw [h.pos, h.across, h.line]
 cases posS g
 ·
  simp only [Bool.not_false, if_true, Bool.false_eq_true, if_false]
  by_cases h1 : g.line < acrossS g p
  · rw [decide_eq_true h1, decide_eq_false (by omega)]; rfl
  · rw [decide_eq_false h1, decide_eq_true (by omega)]; rfl
 ·
  simp only [Bool.not_true, if_true, Bool.false_eq_true, if_false]
  by_cases h1 : g.line < acrossS g p
  · rw [decide_eq_true h1, decide_eq_false (by omega)]; rfl
  · rw [decide_eq_false h1, decide_eq_true (by omega)]; rfl
theorem Facing.strict (ns : List Nd) (p : Pt) : strictS k ns p = strictS g ns p := by unfold strictS; rw [h.along, h.lo, h.hi]
theorem Facing.open_ (ns : List Nd) (l : List Pt) : openS k ns l = openS g ns l := by unfold openS; rw [h.strict, h.strict]
theorem Facing.meet (a b : Pt) : meetP k a b = meetP g a b := by unfold meetP; rw [h.up, h.line]
theorem Facing.run (path : List Pt) (m j : Nat) : runS k path m j = runS g path m j := by unfold runS; rw [h.meet]
theorem Facing.cr (ns : List Nd) (id : Int) (path : List Pt) {m : Nat} (j : Nat) (hm : onE g (path.getD m pt0) = false) : expCr k ns id path m j = (expCr g ns id path m j).map flipCr := by
 unfold expCr
 rw [h.run, h.open_, h.along, h.inner hm]
 cases openS g ns (runS g path m j)
 · rfl
 ·
  cases innerS g (path.getD m pt0)
  · rfl
  · rfl
theorem Facing.at_ (ns : List Nd) (id : Int) (path : List Pt) (j : Nat) : expAt k ns id path j = ((expAt g ns id path j).1, (expAt g ns id path j).2.map flipCr) := by
 induction j with
 | zero => rfl
 | succ j ih =>
  cases ho : onE g (path.getD j pt0)
  case true => rw [expAt_on ho, expAt_on (by rw [h.on]; exact ho), ih]
  have ho' : onE k (path.getD j pt0) = false := by rw [h.on]; exact ho
  obtain ⟨b1, b2, b3, -⟩ := expAt_bd g ns id path j
  obtain ⟨L, hL⟩ : ∃ L, (expAt g ns id path j).2 = L := ⟨_, rfl⟩
  by_cases hm : 0 ≤ (expAt g ns id path j).1
  case neg =>
   have e : expAt g ns id path j = (-1, L) := Prod.ext (by show (expAt g ns id path j).1 = -1; omega) hL
   rw [e] at ih
   rw [expAt_no ho e, expAt_no ho' ih]
  have h3 := b3 hm
  obtain ⟨m, hm'⟩ : ∃ m : Nat, (m : Int) = (expAt g ns id path j).1 := ⟨(expAt g ns id path j).1.toNat, by omega⟩
  have e : expAt g ns id path j = ((m : Int), L) := Prod.ext hm'.symm hL
  rw [← hm', Int.toNat_natCast] at h3
  rw [e] at ih
  by_cases hi : innerS g (path.getD m pt0) = innerS g (path.getD j pt0)
  · rw [expAt_same ho e hi, expAt_same ho' ih (by rw [h.inner h3, h.inner ho, hi])]
  ·
   rw [expAt_cross ho e hi, expAt_cross ho' ih (by rw [h.inner h3, h.inner ho]; intro e; exact hi (by revert e; cases innerS g (path.getD m pt0) <;> cases innerS g (path.getD j pt0) <;> simp)), h.cr ns id path j h3]
   simp
theorem Facing.expL (p : Pl) : expL k p = (expL g p).map flipCr := by
 unfold Go.Proofs.YtfdbidagdjnipaaGreatDoor.expL
 rw [List.map_flatMap]
 congr 1
 funext a
 rw [h.at_]
end
theorem expCr_out (g : Ed) (ns : List Nd) (id : Int) (path : List Pt) (m j : Nat) : ∀ c ∈ expCr g ns id path m j, c.out = 0 ∨ c.out = 1 := by
 intro c hc
 unfold expCr at hc
 split at hc
 ·
  rw [List.mem_singleton] at hc
  subst hc
  cases innerS g (path.getD m pt0)
  · exact .inl rfl
  · exact .inr rfl
 · cases hc
theorem expAt_out (g : Ed) (ns : List Nd) (id : Int) (path : List Pt) (j : Nat) : ∀ c ∈ (expAt g ns id path j).2, c.out = 0 ∨ c.out = 1 := by
 induction j with
 | zero => intro c hc; cases hc
 | succ j ih =>
  unfold expAt
  split
  · exact ih
  ·
   intro c hc
   simp only [List.mem_append] at hc
   rcases hc with hc | hc
   · exact ih c hc
   ·
    split at hc
    · exact expCr_out _ _ _ _ _ _ c hc
    · cases hc
theorem expL_out (g : Ed) (p : Pl) : ∀ c ∈ expL g p, c.out = 0 ∨ c.out = 1 := by
 intro c hc
 obtain ⟨a, -, h⟩ := List.mem_flatMap.1 hc
 exact expAt_out _ _ _ _ _ c h
/-- P42.5 -/
theorem expected_facing {p : Pl} {s : Se} {n side m : Int} (hp : checkS p = 0) (h : nbS s n side = some m) :
  (expectedS p s n side).2 = 0 ∧ (expectedS p s m (facS side)).2 = 0 ∧ (expectedS p s n side).1 = oppS (expectedS p s m (facS side)).1 := by
 obtain ⟨g, k, hg, hk, hf⟩ := edge_facing h
 have h1 := findE_zero.2 (nbS_some h).1
 have h2 := findE_zero.2 (nbS_in h).1
 unfold expectedS
 rw [if_pos hp, if_pos hp, if_pos h1, if_pos h2, hg, hk]
 refine ⟨rfl, rfl, ?_⟩
 show sortCr (expL g p) = sortCr ((sortCr (expL k p)).map flipCr)
 rw [hf.expL, flip_twice (expL_out g p)]
end Go.Proofs.YtfdbidagdjnipaaGreatDoor
namespace Go.Proofs.YtfdbidagdjnipaaGreatDoor
open Go.RowKit

set_option maxHeartbeats 1000000 in
theorem facing_spec (side : Int) (w : World) (h : 1 ≤ side ∧ side ≤ 4) : Calls Tryz.prog 76 #[.int .i64 side] w fun e w' => e = .returned (.int .i64 (facS side)) ∧ Below w.heap.size w w' := by
 have hs : side = 1 ∨ side = 2 ∨ side = 3 ∨ side = 4 := by omega
 clear h
 rcases hs with rfl | rfl | rfl | rfl
 all_goals
  go_enter Tryz.func76, Tryz.ntmps76
  go_wp2_with fail
  go_ret
  exact ⟨rfl, bR w⟩
set_option maxRecDepth 100000 in
set_option maxHeartbeats 2000000 in
theorem crossings_spec (v : Value) (x : Prt) (s : Se) (side : Int) (w : World) (h : PrtV w v x) (hw : wfPrt x) (hl1 : x.pieces.length ≤ 60000) (hl2 : x.nodes.length ≤ 60000) (hin : InS s x.sheet) :
  Calls Tryz.prog 75 #[v, seV s, .int .i64 side] w (RetCrs w (crossResS x (boxOf s x.sheet) side)) := by
 have TB := fun w => sBox_spec s x.sheet w
 rw [boxRes_in hin] at TB
 unfold seV boxV at TB
 have TC := fun W (hW : Below w.heap.size w W) => Crossings_spec v x (boxOf s x.sheet) side W (h.mono hW) hw hl1 hl2
 obtain ⟨vp, vn, pl, rfl, -⟩ := h
 unfold bxV at TB TC
 unfold seV
 generalize crossResS x (boxOf s x.sheet) side = r at *
 have HB := Lib.hid TB; have HC := Lib.hid TC
 clear TB TC hw hl1 hl2 hin
 generalize boxOf s x.sheet = b at *
 go_enter Tryz.func75, Tryz.ntmps75
 go_wp2_with fail
 refine (HB.out _).mono ?_
 rintro e w1 ⟨rfl, hb1⟩
 have X3 : Blk w1 w.heap.size 45 #[.int .i64 x.sheet, vp, vn] := ((Blk.made rfl _ _).alloc _).keep hb1
 have B1 := Lib.hid (bT (bA (bA (bR w) _) _) hb1)
 clear hb1
 obtain ⟨X3l, X3a, X3b, X3c, -, -, -⟩ := X3.facts3
 go_wp2_with fail
 refine (HC.out _ (bA B1.out _)).mono ?_
 rintro e w2 ⟨A2, c2, rfl, hb2, ho2⟩
 have B2 := Lib.hid (bT (bA B1.out _) hb2)
 have Ho2 := Lib.hid ho2
 have hz := (bA B1.out (.cells #[.int .i64 b.x0, .int .i64 b.y0, .int .i64 b.x1, .int .i64 b.y1] 40)).size
 clear hb2 ho2
 go_wp2_with fail
 go_ret2
 exact ⟨A2, c2, rfl, B2.out, Own.mono_base Ho2.out hz⟩

end Go.Proofs.YtfdbidagdjnipaaGreatDoor
