/- plan.Check: it returns what the reference's Check does (checkS). Plain law: what Check's OK says of a plan: its inner points are apart from all others, the ends of its arcs are counted at its nodes. No walk here. Plain words: the crossings of the arcs of a plan at an edge. No walk here. -/
import Derived.Test.YtfondidmklmonaaGreatPlanar
import Derived.Test.YtfondidmklmonaaGreatJ03
import Derived.Test.YtfondidmklmonaaGreatJ02
import Derived.Test.YtfondidmklmonaaGreatJ11
set_option linter.unusedSimpArgs false
set_option linter.unusedVariables false
namespace Go.Proofs.YtfondidmklmonaaGreat
open Go.RowKit

theorem hasB_eq (p : Pl) (a : Ar) : hasB (p.nodes.map (·.id)) a = hasEnds p a := by
 have h : ∀ id : Int, (p.nodes.map (·.id)).any (fun y => y == id) = (findNd p.nodes id).isSome := fun id => by
  unfold findNd
  rw [List.any_map, Bool.eq_iff_iff, List.any_eq_true, List.find?_isSome]
  rfl
 unfold hasB hasEnds
 rw [h, h]
theorem conn_eq (p : Pl) : connS p (p.nodes.map (·.id)) = if dupS (p.nodes.map (·.pt)) = true then 8 else if p.arcs.all (hasEnds p) = false then 7 else if sidesS p = false then 12 else 0 := by
 unfold connS
 have : hasB (p.nodes.map (·.id)) = hasEnds p := funext fun a => hasB_eq p a
 rw [this]
theorem check_eq (p : Pl) (h : limS p = false) : checkS p = if orderedS p = false then 10 else if rangesS p = false then 2 else if connS p (p.nodes.map (·.id)) = 0 then (if planarR p = false then 11 else 0) else connS p (p.nodes.map (·.id)) := by
 unfold checkS
 rw [h, conn_eq]
 rw [if_neg (show ¬ false = true by decide)]
 split
 · rfl
 split
 · rfl
 split
 · rfl
 split
 · rfl
 split
 · rfl
 · rfl
theorem conn_zero (p : Pl) (h : connS p (p.nodes.map (·.id)) = 0) : ∀ a ∈ p.arcs, hasEnds p a = true := by
 rw [conn_eq] at h
 cases h2 : p.arcs.all (hasEnds p)
 ·
  rw [h2] at h
  split at h
  · omega
  · simp at h
 · exact List.all_eq_true.1 h2
theorem placed_eq (p : Pl) : placedS p = (pointsS p).all ptOk := by
 unfold placedS pointsS
 have h : ∀ l : List Pt, (!l.any ptBad) = l.all ptOk := fun l => by
  induction l with
  | nil => rfl
  | cons a l ih => rw [List.any_cons, List.all_cons, Bool.not_or, ih, ptBad_eq, Bool.not_not]
 rw [List.all_append, List.all_flatMap, List.all_map]
 have h1 : (!p.nodes.any fun n => ptBad n.pt) = p.nodes.all (ptOk ∘ fun n => n.pt) := by
  have := h (p.nodes.map (·.pt))
  rw [List.any_map, List.all_map] at this
  exact this
 have h2 : (!p.arcs.any fun a => a.via.any ptBad) = p.arcs.all fun a => a.via.all ptOk := by
  rw [List.not_any_eq_all_not]
  congr 1
  funext a
  exact h a.via
 rw [h1, h2]
theorem ranges_eq (p : Pl) : rangesS p = (!(p.nodes.map (·.id)).any idBad && !(p.arcs.map (·.id)).any idBad && !p.faces.any idBad && placedS p) := by
 unfold rangesS
 rw [placed_eq, List.any_append, List.any_append, Bool.not_or, Bool.not_or]
theorem any_no {α : Type} {l : List α} {q : α → Bool} (h : l.any q = false) : ∀ x ∈ l, q x = false := fun x hx => by
 rw [List.any_eq_false] at h
 have := h x hx
 simpa using this
theorem wf_ids {l : List Nd} (h : (l.map (·.id)).any idBad = false) : ∀ n ∈ l, wfI n.id := fun n hn => by
 have := any_no h n.id (List.mem_map_of_mem hn)
 simp only [idBad, Bool.or_eq_false_iff, decide_eq_false_iff_not] at this
 exact wfI_of (by omega) (by omega)
theorem abs_len {p : Pl} (h : limS p = false) : (p.arcs.flatMap (absOf p)).length ≤ 2097152 := by
 obtain ⟨h1, h2, h3, h4, h5⟩ := limS_no h
 have hl := flat_le p.arcs (absOf p) 65 (fun a ha => by
  simp only [absOf, List.length_map, List.length_range]
  unfold pathOf
  cases hb : findAr p.arcs a.id with
  | none => simp
  | some b =>
   simp only []
   split
   ·
    have := h1 b (findAr_mem hb)
    simp only [Option.getD_some, pathS_length]
    omega
   · simp)
 omega

set_option maxRecDepth 100000 in
set_option maxHeartbeats 8000000 in
theorem Check_spec (v : Value) (p : Pl) (w : World) (h : PlV w v p) :
  Calls Tryz.prog 34 #[v] w fun e w' => e = .returned (.int .i64 (checkS p)) ∧ Below w.heap.size w w' := by
 have HP := Lib.hid h
 obtain ⟨_, _, _, al, rfl, hpa, ⟨An, cn, rfl, hn1, hn2, -⟩, ⟨⟨Aa, ca, rfl, ha1, ha2, hRa⟩, hV⟩, hF⟩ := h
 have HF := Lib.hid hF
 obtain ⟨Af, cf, rfl, hf1, hf2, -⟩ := hF
 unfold maxLen at hn2 ha2 hf2
 have HV := Lib.hid hV; clear hV
 have HRa := Lib.hid hRa; clear hRa
 obtain ⟨q, hq⟩ : ∃ q, checkS p = q := ⟨_, rfl⟩
 rw [hq]
 have hq2 := hq
 unfold checkS at hq
 have hbig : 256 < p.nodes.length ∨ 256 < al.length ∨ 64 < p.faces.length → 3 = q := fun hh => by
  rw [← hq, if_pos]
  unfold limS
  rw [hpa, List.length_map]
  simp only [Bool.or_eq_true, decide_eq_true_eq]
  omega
 have hvia : ∀ k (hk : k < al.length), 64 < al[k].1.via.length → 3 = q := fun k hk hh => by
  rw [← hq, if_pos]
  unfold limS
  rw [hpa, List.any_map]
  have := any_hit al ((fun a => decide (64 < a.via.length)) ∘ fun x => x.1) k hk (by simpa using hh)
  rw [this]; rfl
 have hsmall : ¬ 256 < p.nodes.length → ¬ 256 < al.length → ¬ 64 < p.faces.length → (∀ k (hk : k < al.length), ¬ 64 < al[k].1.via.length) → limS p = false := fun h1 h2 h3 h4 => by
  unfold limS
  rw [hpa, List.length_map, List.any_map]
  have := any_miss al ((fun a => decide (64 < a.via.length)) ∘ fun x => x.1) (fun j hj => by have := h4 j hj; simpa using this)
  rw [this, decide_eq_false h1, decide_eq_false h2, decide_eq_false h3]; rfl
 have Hq := Lib.hid hq2
 have HBig := Lib.hid hbig
 have HVia := Lib.hid hvia
 have HSmall := Lib.hid hsmall
 have Hpa := Lib.hid hpa
 clear hq hq2 hbig hvia hsmall hpa
 go_enter Tryz.func34, Tryz.ntmps34
 by_cases g1 : 256 < p.nodes.length
 ·
  have hf := Lib.hid (HBig.out (.inl g1))
  go_wp2_with fail
  go_ret
  exact ⟨ret_int hf.out, bA (bR w) _⟩
 by_cases g2 : 256 < al.length
 ·
  have hf := Lib.hid (HBig.out (.inr (.inl g2)))
  go_wp2_with fail
  go_ret
  exact ⟨ret_int hf.out, bA (bR w) _⟩
 by_cases g3 : 64 < p.faces.length
 ·
  have hf := Lib.hid (HBig.out (.inr (.inr g3)))
  go_wp2_with fail
  go_ret
  exact ⟨ret_int hf.out, bA (bR w) _⟩
 go_wp2_with fail
 obtain ⟨W1, hW1⟩ : ∃ W1 : World, W1 = w.alloc (.cells #[.slice An p.nodes.length cn, .slice Aa al.length ca, .slice Af p.faces.length cf] 26) := ⟨_, rfl⟩
 have HB1 := Lib.hid (show Below w.heap.size w W1 by rw [hW1]; exact bA (bR w) _)
 have HX1 : Hid (Blk W1 w.heap.size 26 #[.slice An p.nodes.length cn, .slice Aa al.length ca, .slice Af p.faces.length cf]) := Lib.hid (by rw [hW1]; exact Blk.made rfl _ _)
 rw [← hW1]
 clear hW1
 go_loopw [26] (fun u wr => ∃ k : Nat, k ≤ al.length ∧ u = .int .i64 k ∧ Below W1.heap.size W1 wr ∧ ∀ j (hj : j < al.length), j < k → ¬ 64 < al[j].1.via.length) (fun u _ => al.length - (intOf u).toNat)
 case atStart => exact ⟨0, Nat.zero_le _, rfl, bR W1, fun _ _ h => by omega⟩
 case round =>
 obtain ⟨k, hk, rfl, hb, hno⟩ := hrel
 have Hb := Lib.hid hb
 have Hno := Lib.hid hno
 have X1 := HX1.out.keep hb
 clear hb hno
 obtain ⟨X1l, X1a, X1b, X1c, -, -, -⟩ := X1.facts3
 by_cases hlt : k < al.length
 case pos =>
  obtain ⟨b, o, rfl, hlb, c0, c1, c2, c3, c4, c5⟩ := (HRa.out.mono (bT HB1.out Hb.out)).ar hlt
  obtain ⟨Av, cv, hv, hv1, hv2, -⟩ := HV.out k hlt
  unfold maxLen at hv2
  rw [hv] at c3
  clear hv
  by_cases hbig : 64 < al[k].1.via.length
  ·
   have hf := Lib.hid (HVia.out k hlt hbig)
   go_wp2_with fail
   go_ret
   exact ⟨ret_int hf.out, bT HB1.out (bA Hb.out _)⟩
  ·
   have hb' := Lib.hid hbig
   go_wp2_with fail
   go_roundw
   case rel => exact ⟨k + 1, by omega, by go_num, bA Hb.out _, all_succ (p := fun a => ¬ 64 < a.1.via.length) Hno.out hlt hb'.out⟩
   case measure => simp [intOf]; omega
 case neg =>
 have hlim := HSmall.out g1 g2 g3 (fun j hj => Hno.out j hj (by omega))
 have hlen := abs_len hlim
 have hq := Hq.out
 rw [check_eq p hlim] at hq
 have Hlim := Lib.hid hlim
 have HLen := Lib.hid hlen
 have hsh : Short p := fun a ha => by have := (limS_no hlim).1 a ha; omega
 have HSh := Lib.hid hsh
 replace Hq := Lib.hid hq
 have hpal : p.arcs.length ≤ 4096 := by rw [Hpa.out, List.length_map]; omega
 clear hlim hlen hsh hq HBig HVia HSmall HV HRa Hno
 have Bw := bT HB1.out Hb.out
 clear Hb
 go_wp2_with fail
 refine (identifiers_spec _ p _ (HP.out.mono Bw) (by omega) hpal).mono ?_
 rintro e w2 ⟨v2, u2, rfl, hb2, ho1, ho2⟩
 have HO1 := Lib.hid (Own.sl ho1)
 have HO2 := Lib.hid (Own.sl ho2)
 replace Bw := bT Bw hb2
 replace X1 := X1.keep hb2
 clear hb2 ho1 ho2
 try clear X1l
 try clear X1a
 try clear X1b
 try clear X1c
 obtain ⟨X1l, X1a, X1b, X1c, -, -, -⟩ := X1.facts3
 obtain ⟨wz, rfl⟩ : ∃ wz : World, wz = w2 := ⟨_, rfl⟩
 go_wp2_with fail
 refine (ascending_spec _ _ _ HO1.out).mono ?_
 rintro e w3 ⟨rfl, hb3⟩
 have B3 := hb3
 replace X1 := X1.keep hb3
 clear hb3
 try clear X1l
 try clear X1a
 try clear X1b
 try clear X1c
 obtain ⟨X1l, X1a, X1b, X1c, -, -, -⟩ := X1.facts3
 cases h1 : asc (p.nodes.map (·.id))
 case false =>
  have hf := Lib.hid (show 10 = q by rw [← Hq.out, if_pos (by simp [orderedS, h1])])
  clear h1
  go_wp2_with fail
  go_ret
  exact ⟨ret_int hf.out, bT Bw B3⟩
 have H1 := Lib.hid h1; clear h1
 go_wp2_with fail
 refine (ascending_spec _ _ _ (HO2.out.mono B3)).mono ?_
 rintro e w4 ⟨rfl, hb4⟩
 have B4 := bT B3 hb4
 replace X1 := X1.keep hb4
 clear hb4 B3
 try clear X1l
 try clear X1a
 try clear X1b
 try clear X1c
 obtain ⟨X1l, X1a, X1b, X1c, -, -, -⟩ := X1.facts3
 cases h1 : asc (p.arcs.map (·.id))
 case false =>
  have hf := Lib.hid (show 10 = q by rw [← Hq.out, if_pos (by simp [orderedS, h1])])
  clear h1
  go_wp2_with fail
  go_ret
  exact ⟨ret_int hf.out, bT Bw B4⟩
 have H2 := Lib.hid h1; clear h1
 go_wp2_with fail
 refine (ascending_spec _ _ _ (HF.out.mono (bT Bw B4))).mono ?_
 rintro e w5 ⟨rfl, hb5⟩
 have B5 := bT B4 hb5
 replace X1 := X1.keep hb5
 clear hb5 B4
 try clear X1l
 try clear X1a
 try clear X1b
 try clear X1c
 obtain ⟨X1l, X1a, X1b, X1c, -, -, -⟩ := X1.facts3
 cases h1 : asc p.faces
 case false =>
  have hf := Lib.hid (show 10 = q by rw [← Hq.out, if_pos (by simp [orderedS, h1])])
  clear h1
  go_wp2_with fail
  go_ret
  exact ⟨ret_int hf.out, bT Bw B5⟩
 have hq := Hq.out
 rw [if_neg (show ¬ orderedS p = false by simp [orderedS, h1, H1.out, H2.out])] at hq
 replace Hq := Lib.hid hq
 clear hq h1
 go_wp2_with fail
 refine (numbered_spec _ _ _ (HO1.out.mono B5)).mono ?_
 rintro e w6 ⟨rfl, hb6⟩
 have B6 := bT B5 hb6
 replace X1 := X1.keep hb6
 clear hb6 B5
 try clear X1l
 try clear X1a
 try clear X1b
 try clear X1c
 obtain ⟨X1l, X1a, X1b, X1c, -, -, -⟩ := X1.facts3
 cases h1 : (p.nodes.map (·.id)).any idBad
 case true =>
  have hf := Lib.hid (show 2 = q by rw [← Hq.out, if_pos (by rw [ranges_eq, h1]; rfl)])
  clear h1
  go_wp2_with fail
  go_ret
  exact ⟨ret_int hf.out, bT Bw B6⟩
 have H3 := Lib.hid h1; clear h1
 go_wp2_with fail
 refine (numbered_spec _ _ _ (HO2.out.mono B6)).mono ?_
 rintro e w7 ⟨rfl, hb7⟩
 have B7 := bT B6 hb7
 replace X1 := X1.keep hb7
 clear hb7 B6
 try clear X1l
 try clear X1a
 try clear X1b
 try clear X1c
 obtain ⟨X1l, X1a, X1b, X1c, -, -, -⟩ := X1.facts3
 cases h1 : (p.arcs.map (·.id)).any idBad
 case true =>
  have hf := Lib.hid (show 2 = q by rw [← Hq.out, if_pos (by rw [ranges_eq, h1]; simp)])
  clear h1
  go_wp2_with fail
  go_ret
  exact ⟨ret_int hf.out, bT Bw B7⟩
 have H4 := Lib.hid h1; clear h1
 go_wp2_with fail
 refine (numbered_spec _ _ _ (HF.out.mono (bT Bw B7))).mono ?_
 rintro e w8 ⟨rfl, hb8⟩
 have B8 := bT B7 hb8
 replace X1 := X1.keep hb8
 clear hb8 B7
 try clear X1l
 try clear X1a
 try clear X1b
 try clear X1c
 obtain ⟨X1l, X1a, X1b, X1c, -, -, -⟩ := X1.facts3
 cases h1 : p.faces.any idBad
 case true =>
  have hf := Lib.hid (show 2 = q by rw [← Hq.out, if_pos (by rw [ranges_eq, h1]; simp)])
  clear h1
  go_wp2_with fail
  go_ret
  exact ⟨ret_int hf.out, bT Bw B8⟩
 have H5 := Lib.hid h1; clear h1
 go_wp2_with fail
 refine (placed_spec _ p _ (HP.out.mono (bT Bw B8))).mono ?_
 rintro e w9 ⟨rfl, hb9⟩
 have B9 := bT B8 hb9
 replace X1 := X1.keep hb9
 clear hb9 B8
 try clear X1l
 try clear X1a
 try clear X1b
 try clear X1c
 obtain ⟨X1l, X1a, X1b, X1c, -, -, -⟩ := X1.facts3
 cases h1 : placedS p
 case false =>
  have hf := Lib.hid (show 2 = q by rw [← Hq.out, if_pos (by rw [ranges_eq, h1]; simp)])
  clear h1
  go_wp2_with fail
  go_ret
  exact ⟨ret_int hf.out, bT Bw B9⟩
 have hq := Hq.out
 rw [if_neg (show ¬ rangesS p = false by rw [ranges_eq, h1, H3.out, H4.out, H5.out]; decide)] at hq
 replace Hq := Lib.hid hq
 clear hq h1
 go_wp2_with fail
 refine (connected_spec _ _ p _ _ (HP.out.mono (bT Bw B9)) (HO1.out.mono B9)).mono ?_
 rintro e w10 ⟨rfl, hb10⟩
 have B10 := bT B9 hb10
 replace X1 := X1.keep hb10
 clear hb10 B9
 try clear X1l
 try clear X1a
 try clear X1b
 try clear X1c
 obtain ⟨X1l, X1a, X1b, X1c, -, -, -⟩ := X1.facts3
 by_cases h1 : connS p (p.nodes.map (·.id)) = 0
 case neg =>
  have hf := Lib.hid (show connS p (p.nodes.map (·.id)) = q by rw [← Hq.out, if_neg h1])
  generalize connS p (p.nodes.map (·.id)) = c at *
  go_wp2_with fail
  go_ret
  exact ⟨ret_int hf.out, bT Bw B10⟩
 have hq := Hq.out
 rw [if_pos h1] at hq
 replace Hq := Lib.hid hq
 have hends := Lib.hid (conn_zero p h1)
 rw [h1]
 clear hq h1
 have HSd : Hid (Sound p) := Lib.hid ⟨asc_pw _ H1.out, asc_pw _ H2.out, hends.out⟩
 go_wp2_with fail
 refine (planar_spec _ p _ (HP.out.mono (bT Bw B10)) HSh.out HLen.out (by omega) (wf_ids H3.out) HSd.out).mono ?_
 rintro e w11 ⟨rfl, hb11⟩
 have B11 := bT B10 hb11
 clear hb11 B10 X1 X1l X1a X1b X1c
 cases h1 : planarR p
 case false =>
  have hf := Lib.hid (show 11 = q by rw [← Hq.out, if_pos h1])
  clear h1
  go_wp2_with fail
  go_ret
  exact ⟨ret_int hf.out, bT Bw B11⟩
 case true =>
  have hf := Lib.hid (show 0 = q by rw [← Hq.out, if_neg (by rw [h1]; decide)])
  clear h1
  go_wp2_with fail
  go_ret
  exact ⟨ret_int hf.out, bT Bw B11⟩
end Go.Proofs.YtfondidmklmonaaGreat
namespace Go.Proofs.YtfondidmklmonaaGreat
open Go.RowKit

/-- Check gives OK. -/
structure Valid (p : Pl) : Prop where
 lim : limS p = false
 ord : orderedS p = true
 rng : rangesS p = true
 dup : dupS (p.nodes.map (·.pt)) = false
 ends : p.arcs.all (hasEnds p) = true
 sides : sidesS p = true
 planar : planarR p = true
theorem check_zero (p : Pl) : checkS p = 0 ↔ Valid p := by
 unfold checkS
 constructor
 ·
  intro h
  split at h
  · cases h
  rename_i h1
  split at h
  · cases h
  rename_i h2
  split at h
  · cases h
  rename_i h3
  split at h
  · cases h
  rename_i h4
  split at h
  · cases h
  rename_i h5
  split at h
  · cases h
  rename_i h6
  split at h
  · cases h
  rename_i h7
  exact ⟨by simpa using h1, by simpa using h2, by simpa using h3, by simpa using h4, by simpa using h5, by simpa using h6, by simpa using h7⟩
 ·
  rintro ⟨h1, h2, h3, h4, h5, h6, h7⟩
  simp [h1, h2, h3, h4, h5, h6, h7]

section
variable {p : Pl}
theorem Valid.sound (h : Valid p) : Sound p := by
 have ho := h.ord
 unfold orderedS at ho
 rw [Bool.and_eq_true, Bool.and_eq_true] at ho
 exact ⟨asc_pw _ ho.1.1, asc_pw _ ho.1.2, List.all_eq_true.1 h.ends⟩
theorem Sound.at_fr (hp : Sound p) {a : Ar} (ha : a ∈ p.arcs) : ∃ n ∈ p.nodes, n.id = a.fr ∧ nodeAt p a.fr = n.pt := by
 obtain ⟨⟨n, hn, e⟩, -⟩ := hp.node_of ha
 exact ⟨n, hn, e, by rw [← e, hp.node_eq hn]⟩
theorem Sound.at_dst (hp : Sound p) {a : Ar} (ha : a ∈ p.arcs) : ∃ n ∈ p.nodes, n.id = a.dst ∧ nodeAt p a.dst = n.pt := by
 obtain ⟨-, ⟨n, hn, e⟩⟩ := hp.node_of ha
 exact ⟨n, hn, e, by rw [← e, hp.node_eq hn]⟩
end

/- ## Segments of a valid plan -/
/-- The segment number k of an arc. -/
def segK (p : Pl) (a : Ar) (k : Nat) : Sg := ⟨a, k, (pathS p a).length - 1, (pathS p a).getD k pt0, (pathS p a).getD (k + 1) pt0⟩
theorem segK_mem {p : Pl} {a : Ar} {k : Nat} (hk : k + 1 < (pathS p a).length) : segK p a k ∈ segsOf a (pathS p a) :=
 List.mem_map.2 ⟨k, List.mem_range.2 (by omega), rfl⟩
section
variable {p : Pl} (h : Valid p)
include h
theorem Valid.segs : (∀ a ∈ p.arcs, ∀ k, k + 1 < (pathS p a).length → aloneS p (segK p a k) = true) ∧
  (∀ a ∈ p.arcs, ∀ k m, k < m → m + 1 < (pathS p a).length → apartS (segK p a k) (segK p a m) = true) ∧
  p.arcs.Pairwise (fun a b => ∀ k, k + 1 < (pathS p a).length → ∀ m, m + 1 < (pathS p b).length → joinedS p (segK p a k) (segK p b m) = true) := by
 have hp := h.planar
 unfold planarR at hp
 rw [triB_iff] at hp
 obtain ⟨h1, h2⟩ := hp
 unfold segsS at h1 h2
 rw [List.pairwise_flatMap] at h2
 refine ⟨fun a ha k hk => h1 _ (List.mem_flatMap.2 ⟨a, ha, segK_mem hk⟩), fun a ha k m hkm hm => ?_, ?_⟩
 ·
  have h3 := h2.1 a ha
  unfold segsOf at h3
  rw [List.pairwise_map, List.pairwise_iff_getElem] at h3
  have h4 := h3 k m (by rw [List.length_range]; omega) (by rw [List.length_range]; omega) hkm
  simp only [List.getElem_range] at h4
  unfold pairR at h4
  rw [if_pos rfl] at h4
  exact h4
 ·
  have hs := h.sound.arcs
  rw [List.pairwise_map] at hs
  refine (hs.and h2.2).imp ?_
  rintro a b ⟨hlt, h3⟩ k hk m hm
  have h4 := h3 _ (segK_mem hk) _ (segK_mem hm)
  unfold pairR at h4
  rw [if_neg (show ¬ (segK p a k).arc.id = (segK p b m).arc.id from fun e => by have e' : a.id = b.id := e; omega)] at h4
  exact h4
end

end Go.Proofs.YtfondidmklmonaaGreat
namespace Go.Proofs.YtfondidmklmonaaGreat
open Go.RowKit

theorem bdP_of {q : Pt} (h : ptOk q = true) : bdP q := by
 unfold ptOk at h
 simp only [Bool.and_eq_true, decide_eq_true_eq] at h
 unfold bdP
 omega
theorem Valid.bdP_path {p : Pl} (h : Valid p) {a : Ar} (ha : a ∈ p.arcs) {q : Pt} (hq : q ∈ pathS p a) : bdP q := by
 have hr := h.rng
 unfold rangesS at hr
 simp only [Bool.and_eq_true, List.all_eq_true] at hr
 have key : ∀ q ∈ pointsS p, bdP q := fun q hq => bdP_of (hr.2 q hq)
 unfold pathS at hq
 rcases List.mem_cons.1 hq with rfl | hq
 ·
  obtain ⟨n, hn, -, e⟩ := h.sound.at_fr ha
  rw [e]; exact key _ (List.mem_append_left _ (List.mem_map_of_mem hn))
 ·
  rcases List.mem_append.1 hq with hq | hq
  · exact key _ (List.mem_append_right _ (List.mem_flatMap.2 ⟨a, ha, hq⟩))
  ·
   rw [List.mem_singleton] at hq
   subst hq
   obtain ⟨n, hn, -, e⟩ := h.sound.at_dst ha
   rw [e]; exact key _ (List.mem_append_left _ (List.mem_map_of_mem hn))
theorem AtX.rng {a b : Pt} {x : Int} (h : AtX a b x) : wfI (atxS a b x) := by
 obtain ⟨h1, h2, h3, -⟩ := h.facts
 obtain ⟨r1, r2, r3, r4, r5, r6⟩ := floor_rest h1 h2 h3
 have := h.pa.2
 refine wfI_of ?_ ?_ <;> (unfold atxS roundS; split <;> omega)
theorem AtX.line {a b : Pt} {x : Int} (h : AtX a b x) : wfI x := by
 have h1 := h.lo
 have h2 := h.pa.1
 have h3 := h.pb.1
 unfold btwX at h1
 exact wfI_of (by omega) (by omega)
end Go.Proofs.YtfondidmklmonaaGreat
