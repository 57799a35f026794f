import Derived.Test.YtnhdmghgjngcaaaGreatPlanar
import Derived.Test.YtnhdmghgjngcaaaGreatJ04
import Derived.Test.YtnhdmghgjngcaaaGreatGB
set_option linter.unusedSimpArgs false
set_option linter.unusedVariables false
namespace Go.Proofs.YtnhdmghgjngcaaaGreat
open Go.RowKit

theorem hasB_eq (p:Pl) (a:Ar):hasB (p.nodes.map (·.id)) a=hasEnds p a:=by
 have h:∀ id:Int,(p.nodes.map (·.id)).any (fun y=>y == id)=(findNd p.nodes id).isSome:=fun id=>by
  unfold findNd
  rw [List.any_map,Bool.eq_iff_iff,List.any_eq_true,List.find?_isSome]
  rfl
 unfold hasB hasEnds
 rw [h,h]
theorem conn_eq (p:Pl):connS p (p.nodes.map (·.id))=if dupS (p.nodes.map (·.pt))=true then 8 else if p.arcs.all (hasEnds p)=false then 7 else if sidesS p=false then 12 else 0:=by
 unfold connS
 have:hasB (p.nodes.map (·.id))=hasEnds p:=funext fun a=>hasB_eq p a
 rw [this]
theorem check_eq (p:Pl) (h:limS p=false):checkS p=if orderedS p=false then 10 else if rangesS p=false then 2 else if connS p (p.nodes.map (·.id))=0 then (if planarR p=false then 11 else 0) else connS p (p.nodes.map (·.id)):=by
 unfold checkS
 rw [h,conn_eq]
 rw [if_neg (show ¬ false=true by decide)]
 split
 · rfl
 split
 · rfl
 split
 · rfl
 split
 · rfl
 split
 · rfl
 · rfl
theorem conn_zero (p:Pl) (h:connS p (p.nodes.map (·.id))=0):∀ a∈p.arcs,hasEnds p a=true:=by
 rw [conn_eq] at h
 cases h2:p.arcs.all (hasEnds p)
 ·
  rw [h2] at h
  split at h
  · omega
  · simp at h
 · exact List.all_eq_true.1 h2
theorem placed_eq (p:Pl):placedS p=(pointsS p).all ptOk:=by
 unfold placedS pointsS
 have h:∀ l:List Pt,(!l.any ptBad)=l.all ptOk:=fun l=>by
  induction l with
  | nil=>rfl
  | cons a l ih=>rw [List.any_cons,List.all_cons,Bool.not_or,ih,ptBad_eq,Bool.not_not]
 rw [List.all_append,List.all_flatMap,List.all_map]
 have h1:(!p.nodes.any fun n=>ptBad n.pt)=p.nodes.all (ptOk ∘ fun n=>n.pt):=by
  have:=h (p.nodes.map (·.pt))
  rw [List.any_map,List.all_map] at this
  exact this
 have h2:(!p.arcs.any fun a=>a.via.any ptBad)=p.arcs.all fun a=>a.via.all ptOk:=by
  rw [List.not_any_eq_all_not]
  congr 1
  funext a
  exact h a.via
 rw [h1,h2]
theorem ranges_eq (p:Pl):rangesS p=(!(p.nodes.map (·.id)).any idBad && !(p.arcs.map (·.id)).any idBad && !p.faces.any idBad && placedS p):=by
 unfold rangesS
 rw [placed_eq,List.any_append,List.any_append,Bool.not_or,Bool.not_or]
theorem any_no {α:Type} {l:List α} {q:α→Bool} (h:l.any q=false):∀ x∈l,q x=false:=fun x hx=>by
 rw [List.any_eq_false] at h
 have:=h x hx
 simpa using this
theorem wf_ids {l:List Nd} (h:(l.map (·.id)).any idBad=false):∀ n∈l,wfI n.id:=fun n hn=>by
 have:=any_no h n.id (List.mem_map_of_mem hn)
 simp only [idBad,Bool.or_eq_false_iff,decide_eq_false_iff_not] at this
 exact wfI_of (by omega) (by omega)
theorem abs_len {p:Pl} (h:limS p=false):(p.arcs.flatMap (absOf p)).length≤2097152:=by
 obtain ⟨h1,h2,h3,h4,h5⟩:=limS_no h
 have hl:=flat_le p.arcs (absOf p) 65 (fun a ha=>by
  simp only [absOf,List.length_map,List.length_range]
  unfold pathOf
  cases hb:findAr p.arcs a.id with
  | none=>simp
  | some b =>
   simp only []
   split
   ·
    have:=h1 b (findAr_mem hb)
    simp only [Option.getD_some,pathS_length]
    omega
   · simp)
 omega

set_option maxRecDepth 100000 in
set_option maxHeartbeats 8000000 in
theorem Check_spec (v:Value) (p:Pl) (w:World) (h:PlV w v p) :
  Calls Tryz.prog 56 #[v] w fun e w'=>e=.returned (.int .i64 (checkS p))∧Below w.heap.size w w':=by
 have HP:=Lib.hid h
 obtain ⟨_,_,_,al,rfl,hpa,⟨An,cn,rfl,hn1,hn2,-⟩,⟨⟨Aa,ca,rfl,ha1,ha2,hRa⟩,hV⟩,hF⟩:=h
 have HF:=Lib.hid hF
 obtain ⟨Af,cf,rfl,hf1,hf2,-⟩:=hF
 unfold maxLen at hn2 ha2 hf2
 have HV:=Lib.hid hV;clear hV
 have HRa:=Lib.hid hRa;clear hRa
 obtain ⟨q,hq⟩:∃ q,checkS p=q:=⟨_,rfl⟩
 rw [hq]
 have hq2:=hq
 unfold checkS at hq
 have hbig:256<p.nodes.length∨256<al.length∨64<p.faces.length→3=q:=fun hh=>by
  rw [← hq,if_pos]
  unfold limS
  rw [hpa,List.length_map]
  simp only [Bool.or_eq_true,decide_eq_true_eq]
  omega
 have hvia:∀ k (hk:k<al.length),64<al[k].1.via.length→3=q:=fun k hk hh=>by
  rw [← hq,if_pos]
  unfold limS
  rw [hpa,List.any_map]
  have:=any_hit al ((fun a=>decide (64<a.via.length)) ∘ fun x=>x.1) k hk (by simpa using hh)
  rw [this];rfl
 have hsmall:¬ 256<p.nodes.length→¬ 256<al.length→¬ 64<p.faces.length→(∀ k (hk:k<al.length),¬ 64<al[k].1.via.length)→limS p=false:=fun h1 h2 h3 h4=>by
  unfold limS
  rw [hpa,List.length_map,List.any_map]
  have:=any_miss al ((fun a=>decide (64<a.via.length)) ∘ fun x=>x.1) (fun j hj=>by have:=h4 j hj;simpa using this)
  rw [this,decide_eq_false h1,decide_eq_false h2,decide_eq_false h3];rfl
 have Hq:=Lib.hid hq2
 have HBig:=Lib.hid hbig
 have HVia:=Lib.hid hvia
 have HSmall:=Lib.hid hsmall
 have Hpa:=Lib.hid hpa
 clear hq hq2 hbig hvia hsmall hpa
 go_enter Tryz.func56,Tryz.ntmps56
 by_cases g1:256<p.nodes.length
 ·
  have hf:=Lib.hid (HBig.out (.inl g1))
  go_wp2_with fail
  go_ret
  exact ⟨ret_int hf.out,bA (bR w) _⟩
 by_cases g2:256<al.length
 ·
  have hf:=Lib.hid (HBig.out (.inr (.inl g2)))
  go_wp2_with fail
  go_ret
  exact ⟨ret_int hf.out,bA (bR w) _⟩
 by_cases g3:64<p.faces.length
 ·
  have hf:=Lib.hid (HBig.out (.inr (.inr g3)))
  go_wp2_with fail
  go_ret
  exact ⟨ret_int hf.out,bA (bR w) _⟩
 go_wp2_with fail
 obtain ⟨W1,hW1⟩:∃ W1:World,W1=w.alloc (.cells #[.slice An p.nodes.length cn,.slice Aa al.length ca,.slice Af p.faces.length cf] 26):=⟨_,rfl⟩
 have HB1:=Lib.hid (show Below w.heap.size w W1 by rw [hW1];exact bA (bR w) _)
 have HX1:Hid (Blk W1 w.heap.size 26 #[.slice An p.nodes.length cn,.slice Aa al.length ca,.slice Af p.faces.length cf]):=Lib.hid (by rw [hW1];exact Blk.made rfl _ _)
 rw [← hW1]
 clear hW1
 go_loopw [26] (fun u wr=>∃ k:Nat,k≤al.length∧u=.int .i64 k∧Below W1.heap.size W1 wr∧∀ j (hj:j<al.length),j<k→¬ 64<al[j].1.via.length) (fun u _=>al.length-(intOf u).toNat)
 case atStart => exact ⟨0,Nat.zero_le _,rfl,bR W1,fun _ _ h=>by omega⟩
 case round =>
 obtain ⟨k,hk,rfl,hb,hno⟩:=hrel
 have Hb:=Lib.hid hb
 have Hno:=Lib.hid hno
 have X1:=HX1.out.keep hb
 clear hb hno
 obtain ⟨X1l,X1a,X1b,X1c,-,-,-⟩:=X1.facts3
 by_cases hlt:k<al.length
 case pos =>
  obtain ⟨b,o,rfl,hlb,c0,c1,c2,c3,c4,c5⟩:=(HRa.out.mono (bT HB1.out Hb.out)).ar hlt
  obtain ⟨Av,cv,hv,hv1,hv2,-⟩:=HV.out k hlt
  unfold maxLen at hv2
  rw [hv] at c3
  clear hv
  by_cases hbig:64<al[k].1.via.length
  ·
   have hf:=Lib.hid (HVia.out k hlt hbig)
   go_wp2_with fail
   go_ret
   exact ⟨ret_int hf.out,bT HB1.out (bA Hb.out _)⟩
  ·
   have hb':=Lib.hid hbig
   go_wp2_with fail
   go_roundw
   case rel => exact ⟨k+1,by omega,by go_num,bA Hb.out _,all_succ (p:=fun a=>¬ 64<a.1.via.length) Hno.out hlt hb'.out⟩
   case measure => simp [intOf];omega
 case neg =>
 have hlim:=HSmall.out g1 g2 g3 (fun j hj=>Hno.out j hj (by omega))
 have hlen:=abs_len hlim
 have hq:=Hq.out
 rw [check_eq p hlim] at hq
 have Hlim:=Lib.hid hlim
 have HLen:=Lib.hid hlen
 have hsh:Short p:=fun a ha=>by have:=(limS_no hlim).1 a ha;omega
 have HSh:=Lib.hid hsh
 replace Hq:=Lib.hid hq
 have hpal:p.arcs.length≤4096:=by rw [Hpa.out,List.length_map];omega
 clear hlim hlen hsh hq HBig HVia HSmall HV HRa Hno
 have Bw:=bT HB1.out Hb.out
 clear Hb
 go_wp2_with fail
 refine (identifiers_spec _ p _ (HP.out.mono Bw) (by omega) hpal).mono ?_
 rintro e w2 ⟨v2,u2,rfl,hb2,ho1,ho2⟩
 have HO1:=Lib.hid (Own.sl ho1)
 have HO2:=Lib.hid (Own.sl ho2)
 replace Bw:=bT Bw hb2
 replace X1:=X1.keep hb2
 clear hb2 ho1 ho2
 try clear X1l
 try clear X1a
 try clear X1b
 try clear X1c
 obtain ⟨X1l,X1a,X1b,X1c,-,-,-⟩:=X1.facts3
 obtain ⟨wz,rfl⟩:∃ wz:World,wz=w2:=⟨_,rfl⟩
 go_wp2_with fail
 refine (ascending_spec _ _ _ HO1.out).mono ?_
 rintro e w3 ⟨rfl,hb3⟩
 have B3:=hb3
 replace X1:=X1.keep hb3
 clear hb3
 try clear X1l
 try clear X1a
 try clear X1b
 try clear X1c
 obtain ⟨X1l,X1a,X1b,X1c,-,-,-⟩:=X1.facts3
 cases h1:asc (p.nodes.map (·.id))
 case false =>
  have hf:=Lib.hid (show 10=q by rw [← Hq.out,if_pos (by simp [orderedS,h1])])
  clear h1
  go_wp2_with fail
  go_ret
  exact ⟨ret_int hf.out,bT Bw B3⟩
 have H1:=Lib.hid h1;clear h1
 go_wp2_with fail
 refine (ascending_spec _ _ _ (HO2.out.mono B3)).mono ?_
 rintro e w4 ⟨rfl,hb4⟩
 have B4:=bT B3 hb4
 replace X1:=X1.keep hb4
 clear hb4 B3
 try clear X1l
 try clear X1a
 try clear X1b
 try clear X1c
 obtain ⟨X1l,X1a,X1b,X1c,-,-,-⟩:=X1.facts3
 cases h1:asc (p.arcs.map (·.id))
 case false =>
  have hf:=Lib.hid (show 10=q by rw [← Hq.out,if_pos (by simp [orderedS,h1])])
  clear h1
  go_wp2_with fail
  go_ret
  exact ⟨ret_int hf.out,bT Bw B4⟩
 have H2:=Lib.hid h1;clear h1
 go_wp2_with fail
 refine (ascending_spec _ _ _ (HF.out.mono (bT Bw B4))).mono ?_
 rintro e w5 ⟨rfl,hb5⟩
 have B5:=bT B4 hb5
 replace X1:=X1.keep hb5
 clear hb5 B4
 try clear X1l
 try clear X1a
 try clear X1b
 try clear X1c
 obtain ⟨X1l,X1a,X1b,X1c,-,-,-⟩:=X1.facts3
 cases h1:asc p.faces
 case false =>
  have hf:=Lib.hid (show 10=q by rw [← Hq.out,if_pos (by simp [orderedS,h1])])
  clear h1
  go_wp2_with fail
  go_ret
  exact ⟨ret_int hf.out,bT Bw B5⟩
 have hq:=Hq.out
 rw [if_neg (show ¬ orderedS p=false by simp [orderedS,h1,H1.out,H2.out])] at hq
 replace Hq:=Lib.hid hq
 clear hq h1
 go_wp2_with fail
 refine (numbered_spec _ _ _ (HO1.out.mono B5)).mono ?_
 rintro e w6 ⟨rfl,hb6⟩
 have B6:=bT B5 hb6
 replace X1:=X1.keep hb6
 clear hb6 B5
 try clear X1l
 try clear X1a
 try clear X1b
 try clear X1c
 obtain ⟨X1l,X1a,X1b,X1c,-,-,-⟩:=X1.facts3
 cases h1:(p.nodes.map (·.id)).any idBad
 case true =>
  have hf:=Lib.hid (show 2=q by rw [← Hq.out,if_pos (by rw [ranges_eq,h1];rfl)])
  clear h1
  go_wp2_with fail
  go_ret
  exact ⟨ret_int hf.out,bT Bw B6⟩
 have H3:=Lib.hid h1;clear h1
 go_wp2_with fail
 refine (numbered_spec _ _ _ (HO2.out.mono B6)).mono ?_
 rintro e w7 ⟨rfl,hb7⟩
 have B7:=bT B6 hb7
 replace X1:=X1.keep hb7
 clear hb7 B6
 try clear X1l
 try clear X1a
 try clear X1b
 try clear X1c
 obtain ⟨X1l,X1a,X1b,X1c,-,-,-⟩:=X1.facts3
 cases h1:(p.arcs.map (·.id)).any idBad
 case true =>
  have hf:=Lib.hid (show 2=q by rw [← Hq.out,if_pos (by rw [ranges_eq,h1];simp)])
  clear h1
  go_wp2_with fail
  go_ret
  exact ⟨ret_int hf.out,bT Bw B7⟩
 have H4:=Lib.hid h1;clear h1
 go_wp2_with fail
 refine (numbered_spec _ _ _ (HF.out.mono (bT Bw B7))).mono ?_
 rintro e w8 ⟨rfl,hb8⟩
 have B8:=bT B7 hb8
 replace X1:=X1.keep hb8
 clear hb8 B7
 try clear X1l
 try clear X1a
 try clear X1b
 try clear X1c
 obtain ⟨X1l,X1a,X1b,X1c,-,-,-⟩:=X1.facts3
 cases h1:p.faces.any idBad
 case true =>
  have hf:=Lib.hid (show 2=q by rw [← Hq.out,if_pos (by rw [ranges_eq,h1];simp)])
  clear h1
  go_wp2_with fail
  go_ret
  exact ⟨ret_int hf.out,bT Bw B8⟩
 have H5:=Lib.hid h1;clear h1
 go_wp2_with fail
 refine (placed_spec _ p _ (HP.out.mono (bT Bw B8))).mono ?_
 rintro e w9 ⟨rfl,hb9⟩
 have B9:=bT B8 hb9
 replace X1:=X1.keep hb9
 clear hb9 B8
 try clear X1l
 try clear X1a
 try clear X1b
 try clear X1c
 obtain ⟨X1l,X1a,X1b,X1c,-,-,-⟩:=X1.facts3
 cases h1:placedS p
 case false =>
  have hf:=Lib.hid (show 2=q by rw [← Hq.out,if_pos (by rw [ranges_eq,h1];simp)])
  clear h1
  go_wp2_with fail
  go_ret
  exact ⟨ret_int hf.out,bT Bw B9⟩
 have hq:=Hq.out
 rw [if_neg (show ¬ rangesS p=false by rw [ranges_eq,h1,H3.out,H4.out,H5.out];decide)] at hq
 replace Hq:=Lib.hid hq
 clear hq h1
 go_wp2_with fail
 refine (connected_spec _ _ p _ _ (HP.out.mono (bT Bw B9)) (HO1.out.mono B9)).mono ?_
 rintro e w10 ⟨rfl,hb10⟩
 have B10:=bT B9 hb10
 replace X1:=X1.keep hb10
 clear hb10 B9
 try clear X1l
 try clear X1a
 try clear X1b
 try clear X1c
 obtain ⟨X1l,X1a,X1b,X1c,-,-,-⟩:=X1.facts3
 by_cases h1:connS p (p.nodes.map (·.id))=0
 case neg =>
  have hf:=Lib.hid (show connS p (p.nodes.map (·.id))=q by rw [← Hq.out,if_neg h1])
  generalize connS p (p.nodes.map (·.id))=c at *
  go_wp2_with fail
  go_ret
  exact ⟨ret_int hf.out,bT Bw B10⟩
 have hq:=Hq.out
 rw [if_pos h1] at hq
 replace Hq:=Lib.hid hq
 have hends:=Lib.hid (conn_zero p h1)
 rw [h1]
 clear hq h1
 have HSd:Hid (Sound p):=Lib.hid ⟨asc_pw _ H1.out,asc_pw _ H2.out,hends.out⟩
 go_wp2_with fail
 refine (planar_spec _ p _ (HP.out.mono (bT Bw B10)) HSh.out HLen.out (by omega) (wf_ids H3.out) HSd.out).mono ?_
 rintro e w11 ⟨rfl,hb11⟩
 have B11:=bT B10 hb11
 clear hb11 B10 X1 X1l X1a X1b X1c
 cases h1:planarR p
 case false =>
  have hf:=Lib.hid (show 11=q by rw [← Hq.out,if_pos h1])
  clear h1
  go_wp2_with fail
  go_ret
  exact ⟨ret_int hf.out,bT Bw B11⟩
 case true =>
  have hf:=Lib.hid (show 0=q by rw [← Hq.out,if_neg (by rw [h1];decide)])
  clear h1
  go_wp2_with fail
  go_ret
  exact ⟨ret_int hf.out,bT Bw B11⟩
end Go.Proofs.YtnhdmghgjngcaaaGreat
namespace Go.Proofs.YtnhdmghgjngcaaaGreat
open Go.RowKit

structure Valid (p:Pl):Prop where
 lim:limS p=false
 ord:orderedS p=true
 rng:rangesS p=true
 dup:dupS (p.nodes.map (·.pt))=false
 ends:p.arcs.all (hasEnds p)=true
 sides:sidesS p=true
 planar:planarR p=true
theorem check_zero (p:Pl):checkS p=0↔Valid p:=by
 unfold checkS
 constructor
 ·
  intro h
  split at h
  · cases h
  rename_i h1
  split at h
  · cases h
  rename_i h2
  split at h
  · cases h
  rename_i h3
  split at h
  · cases h
  rename_i h4
  split at h
  · cases h
  rename_i h5
  split at h
  · cases h
  rename_i h6
  split at h
  · cases h
  rename_i h7
  exact ⟨by simpa using h1,by simpa using h2,by simpa using h3,by simpa using h4,by simpa using h5,by simpa using h6,by simpa using h7⟩
 ·
  rintro ⟨h1,h2,h3,h4,h5,h6,h7⟩
  simp [h1,h2,h3,h4,h5,h6,h7]

section
variable {p:Pl}
theorem Valid.sound (h:Valid p):Sound p:=by
 have ho:=h.ord
 unfold orderedS at ho
 rw [Bool.and_eq_true,Bool.and_eq_true] at ho
 exact ⟨asc_pw _ ho.1.1,asc_pw _ ho.1.2,List.all_eq_true.1 h.ends⟩
theorem ptOk_near {q:Pt} (h:ptOk q=true):near1 q=true:=by
 simp only [ptOk,Bool.and_eq_true,decide_eq_true_eq] at h
 rw [near1_iff]
 omega
theorem Valid.near (h:Valid p) {q:Pt} (hq:q∈pointsS p):near1 q=true:=by
 have hr:=h.rng
 unfold rangesS at hr
 rw [Bool.and_eq_true] at hr
 exact ptOk_near (List.all_eq_true.1 hr.2 q hq)
theorem Valid.node_near (h:Valid p) {n:Nd} (hn:n∈p.nodes):near1 n.pt=true:=h.near (List.mem_append_left _ (List.mem_map_of_mem hn))
theorem Valid.via_near (h:Valid p) {a:Ar} (ha:a∈p.arcs) {q:Pt} (hq:q∈a.via):near1 q=true:=h.near (List.mem_append_right _ (List.mem_flatMap.2 ⟨a,ha,hq⟩))
theorem Sound.at_fr (hp:Sound p) {a:Ar} (ha:a∈p.arcs):∃ n∈p.nodes,n.id=a.fr∧nodeAt p a.fr=n.pt:=by
 obtain ⟨⟨n,hn,e⟩,-⟩:=hp.node_of ha
 exact ⟨n,hn,e,by rw [← e,hp.node_eq hn]⟩
theorem Sound.at_dst (hp:Sound p) {a:Ar} (ha:a∈p.arcs):∃ n∈p.nodes,n.id=a.dst∧nodeAt p a.dst=n.pt:=by
 obtain ⟨-,⟨n,hn,e⟩⟩:=hp.node_of ha
 exact ⟨n,hn,e,by rw [← e,hp.node_eq hn]⟩
theorem Valid.path_near (h:Valid p) {a:Ar} (ha:a∈p.arcs) {q:Pt} (hq:q∈pathS p a):near1 q=true:=by
 unfold pathS at hq
 rcases List.mem_cons.1 hq with rfl | hq
 ·
  obtain ⟨n,hn,-,e⟩:=h.sound.at_fr ha
  rw [e];exact h.node_near hn
 ·
  rcases List.mem_append.1 hq with hq | hq
  · exact h.via_near ha hq
  ·
   rw [List.mem_singleton] at hq
   subst hq
   obtain ⟨n,hn,-,e⟩:=h.sound.at_dst ha
   rw [e];exact h.node_near hn
end

theorem bef_coord (a b:Pt):bef a b=false↔b.x<a.x∨(a.x=b.x∧b.y≤a.y):=by
 rw [← Bool.not_eq_true,bef_iff];omega
theorem lo_left (a b:Pt):bef a (lo a b)=false:=by
 rcases lo_hi a b with ⟨h,-,h'⟩ | ⟨h,-,h'⟩
 · rw [h];exact bef_irr a
 · rw [h];exact bef_asym h'
theorem lo_right (a b:Pt):bef b (lo a b)=false:=by rw [lo_comm];exact lo_left b a
theorem hi_left (a b:Pt):bef (hi a b) a=false:=by
 rcases lo_hi a b with ⟨-,h,h'⟩ | ⟨-,h,h'⟩
 · rw [h];exact h'
 · rw [h];exact bef_irr a
theorem hi_right (a b:Pt):bef (hi a b) b=false:=by rw [hi_comm];exact hi_left b a
theorem hi_le {x y q:Pt} (h1:bef q x=false) (h2:bef q y=false):bef q (hi x y)=false:=by
 rcases lo_hi x y with ⟨-,h,-⟩ | ⟨-,h,-⟩<;>rw [h]<;>assumption
theorem lo_ge {x y q:Pt} (h1:bef x q=false) (h2:bef y q=false):bef (lo x y) q=false:=by
 rcases lo_hi x y with ⟨h,-,-⟩ | ⟨h,-,-⟩<;>rw [h]<;>assumption
theorem shared_touch {a b c d q:Pt} (h1:q=a∨q=b) (h2:q=c∨q=d):sharedS a b c d≠0:=by
 have f1:bef q (lo a b)=false:=by rcases h1 with rfl | rfl;exact lo_left _ _;exact lo_right _ _
 have f2:bef q (lo c d)=false:=by rcases h2 with rfl | rfl;exact lo_left _ _;exact lo_right _ _
 have g1:bef (hi a b) q=false:=by rcases h1 with rfl | rfl;exact hi_left _ _;exact hi_right _ _
 have g2:bef (hi c d) q=false:=by rcases h2 with rfl | rfl;exact hi_left _ _;exact hi_right _ _
 have f:=hi_le f1 f2
 have g:=lo_ge g1 g2
 rw [sharedS_def]
 generalize hi (lo a b) (lo c d)=x at *
 generalize lo (hi a b) (hi c d)=y at *
 by_cases hxy:x=y
 · rw [if_pos hxy];omega
 ·
  rw [if_neg hxy]
  have:bef x y=true:=by
   rw [bef_coord] at f g
   rw [bef_iff]
   have hne:¬ (x.x=y.x∧x.y=y.y):=fun e=>hxy (Pt.ext_iff'.2 e)
   omega
  rw [if_pos this];omega
theorem near4 {a b c d:Pt} (ha:near1 a=true) (hb:near1 b=true) (hc:near1 c=true) (hd:near1 d=true):nears [a,b,c,d]=true:=by simp [nears,ha,hb,hc,hd]
theorem meet_ss {a b c:Pt} (ha:near1 a=true) (hb:near1 b=true) (hc:near1 c=true):rmeetS a b c b≠0:=by
 unfold rmeetS
 rw [if_pos (near4 ha hb hc hb)]
 unfold rmeetN
 have e1:crossS a b a c=- crossS a b c b:=by unfold crossS;grind
 have e2:crossS a b a b=0:=by unfold crossS;grind
 have e3:crossS c b c a=crossS a b c b:=by unfold crossS;grind
 have e4:crossS c b c b=0:=by unfold crossS;grind
 have e5:crossS a c c b=crossS a b c b:=by unfold crossS;grind
 have e6:crossS a c a b=crossS a b c b:=by unfold crossS;grind
 rw [if_neg (show ¬ (a=b∧c=b∧¬ a=c) from fun h=>h.2.2 (h.1.trans h.2.1.symm)),e1,e2,e3,e4,e5,e6]
 generalize crossS a b c b=n at *
 by_cases h0:n=0
 ·
  rw [if_pos h0,if_pos (by omega)]
  exact shared_touch (.inr rfl) (.inr rfl)
 ·
  rw [if_neg h0]
  by_cases hn:n<0
  · rw [if_pos hn,if_pos (by omega)];omega
  · rw [if_neg hn,if_pos (by omega)];omega
theorem meet_fs {a b c:Pt} (ha:near1 a=true) (hb:near1 b=true) (hc:near1 c=true):rmeetS a b c a≠0:=by
 unfold rmeetS
 rw [if_pos (near4 ha hb hc ha)]
 unfold rmeetN
 have e1:crossS a b a c=- crossS a b c a:=by unfold crossS;grind
 have e2:crossS a b a a=0:=by unfold crossS;grind
 have e3:crossS c a c a=0:=by unfold crossS;grind
 have e4:crossS c a c b=- crossS a b c a:=by unfold crossS;grind
 have e5:crossS a c c a=0:=by unfold crossS;grind
 have e6:crossS a c a b=crossS a b c a:=by unfold crossS;grind
 rw [if_neg (show ¬ (a=b∧c=a∧¬ a=c) from fun h=>h.2.2 h.2.1.symm),e1,e2,e3,e4,e5,e6]
 generalize crossS a b c a=n at *
 by_cases h0:n=0
 ·
  rw [if_pos h0,if_pos (by omega)]
  exact shared_touch (.inl rfl) (.inr rfl)
 ·
  rw [if_neg h0]
  by_cases hn:n<0
  · rw [if_pos hn,if_pos (by omega)];omega
  · rw [if_neg hn,if_pos (by omega)];omega
theorem ron_snd {a b:Pt} (ha:near1 a=true) (hb:near1 b=true):ronS a b b=true:=by
 unfold ronS
 have e1:crossS a b a b=0:=by unfold crossS;grind
 have e2:dotS a b b b=0:=by unfold dotS;grind
 simp [nears,ha,hb,e1,e2]
theorem ron_fst {a b:Pt} (ha:near1 a=true) (hb:near1 b=true):ronS a b a=true:=by
 unfold ronS
 have e1:crossS a b a a=0:=by unfold crossS;grind
 have e2:dotS a a b a=0:=by unfold dotS;grind
 simp [nears,ha,hb,e1,e2]

def segK (p:Pl) (a:Ar) (k:Nat):Sg:=⟨a,k,(pathS p a).length-1,(pathS p a).getD k pt0,(pathS p a).getD (k+1) pt0⟩
theorem segK_mem {p:Pl} {a:Ar} {k:Nat} (hk:k+1<(pathS p a).length):segK p a k∈segsOf a (pathS p a) :=
 List.mem_map.2 ⟨k,List.mem_range.2 (by omega),rfl⟩
theorem path_mid (p:Pl) (a:Ar) (j:Nat) (hj:j<a.via.length):(pathS p a).getD (j+1) pt0=a.via[j]:=by
 unfold pathS
 rw [List.getD_cons_succ,List.getD_eq_getElem?_getD,List.getElem?_append_left hj,List.getElem?_eq_getElem hj]
 rfl
theorem path_0 (p:Pl) (a:Ar):(pathS p a).getD 0 pt0=nodeAt p a.fr:=rfl
theorem path_mem (p:Pl) (a:Ar) (j:Nat) (hj:j<(pathS p a).length):(pathS p a).getD j pt0∈pathS p a:=by
 rw [List.getD_eq_getElem?_getD,List.getElem?_eq_getElem hj]
 exact List.getElem_mem hj

section
variable {p:Pl} (h:Valid p)
include h
theorem Valid.segs:(∀ a∈p.arcs,∀ k,k+1<(pathS p a).length→aloneS p (segK p a k)=true) ∧
  (∀ a∈p.arcs,∀ k m,k<m→m+1<(pathS p a).length→apartS (segK p a k) (segK p a m)=true) ∧
  p.arcs.Pairwise (fun a b=>∀ k,k+1<(pathS p a).length→∀ m,m+1<(pathS p b).length→joinedS p (segK p a k) (segK p b m)=true):=by
 have hp:=h.planar
 unfold planarR at hp
 rw [triB_iff] at hp
 obtain ⟨h1,h2⟩:=hp
 unfold segsS at h1 h2
 rw [List.pairwise_flatMap] at h2
 refine ⟨fun a ha k hk=>h1 _ (List.mem_flatMap.2 ⟨a,ha,segK_mem hk⟩),fun a ha k m hkm hm=>?_,?_⟩
 ·
  have h3:=h2.1 a ha
  unfold segsOf at h3
  rw [List.pairwise_map,List.pairwise_iff_getElem] at h3
  have h4:=h3 k m (by rw [List.length_range];omega) (by rw [List.length_range];omega) hkm
  simp only [List.getElem_range] at h4
  unfold pairR at h4
  rw [if_pos rfl] at h4
  exact h4
 ·
  have hs:=h.sound.arcs
  rw [List.pairwise_map] at hs
  refine (hs.and h2.2).imp ?_
  rintro a b ⟨hlt,h3⟩ k hk m hm
  have h4:=h3 _ (segK_mem hk) _ (segK_mem hm)
  unfold pairR at h4
  rw [if_neg (show ¬ (segK p a k).arc.id=(segK p b m).arc.id from fun e=>by have e':a.id=b.id:=e;omega)] at h4
  exact h4
theorem Valid.pt_near {a:Ar} (ha:a∈p.arcs) {k:Nat} (hk:k<(pathS p a).length):near1 ((pathS p a).getD k pt0)=true:=h.path_near ha (path_mem p a k hk)
theorem Valid.on_end {a:Ar} (ha:a∈p.arcs) {k:Nat} (hk:k+1<(pathS p a).length) {n:Nd} (hn:n∈p.nodes) (ho:ronS (segK p a k).a (segK p a k).b n.pt=true) :
  (k=0∧a.fr=n.id)∨(k=a.via.length∧a.dst=n.id):=by
 have h1:=h.segs.1 a ha k hk
 unfold aloneS at h1
 rw [Bool.and_eq_true,List.all_eq_true] at h1
 have h2:=h1.1 n hn
 unfold offNd at h2
 rw [ho] at h2
 unfold isEnd segK at h2
 simp only [Bool.not_true,Bool.or_false,Bool.or_eq_true,Bool.and_eq_true,beq_iff_eq] at h2
 have hl:=pathS_length p a
 rcases h2 with ⟨h3,h4⟩ | ⟨h3,h4⟩
 · left;exact ⟨by omega,h4⟩
 · right;exact ⟨by omega,h4⟩
theorem Valid.distinct {a:Ar} (ha:a∈p.arcs) {k:Nat} (hk:k+1<(pathS p a).length):(pathS p a).getD k pt0≠(pathS p a).getD (k+1) pt0∧(a.fr=a.dst→4≤(pathS p a).length):=by
 have h1:=h.segs.1 a ha k hk
 unfold aloneS soundS segK at h1
 simp only [Bool.and_eq_true,Bool.not_eq_true',decide_eq_false_iff_not,Bool.or_eq_true,bne_iff_ne,decide_eq_true_eq] at h1
 refine ⟨h1.2.1,fun e=>?_⟩
 rcases h1.2.2 with h2 | h2
 · exact absurd e h2
 · omega
theorem Valid.via_node {a:Ar} (ha:a∈p.arcs) {j:Nat} (hj:j<a.via.length) {n:Nd} (hn:n∈p.nodes):a.via[j]≠n.pt:=by
 intro e
 have hl:=pathS_length p a
 have hm:=path_mid p a j hj
 have o1:ronS (segK p a j).a (segK p a j).b n.pt=true:=by
  rw [← e,← hm]
  exact ron_snd (h.pt_near ha (by omega)) (h.pt_near ha (by omega))
 have o2:ronS (segK p a (j+1)).a (segK p a (j+1)).b n.pt=true:=by
  rw [← e,← hm]
  exact ron_fst (h.pt_near ha (by omega)) (h.pt_near ha (by omega))
 rcases h.on_end ha (by omega) hn o1 with ⟨h1,h2⟩ | ⟨h1,h2⟩
 ·
  have hd:=(h.distinct ha (k:=j) (by omega)).1
  obtain ⟨n',hn',e1,e2⟩:=h.sound.at_fr ha
  have:nodeAt p a.fr=n.pt:=by rw [h2];exact h.sound.node_eq hn
  subst h1
  rw [path_0,this,hm,e] at hd
  exact hd rfl
 · omega
theorem Valid.via_same {a:Ar} (ha:a∈p.arcs) {j m:Nat} (hjm:j<m) (hm:m<a.via.length):a.via[j]≠a.via[m]:=by
 intro e
 have hl:=pathS_length p a
 have e1:=path_mid p a j (by omega)
 have e2:=path_mid p a m hm
 by_cases hn:m=j+1
 ·
  subst hn
  have:=(h.distinct ha (k:=j+1) (by omega)).1
  rw [e1,e2] at this
  exact this e
 ·
  have h1:=h.segs.2.1 a ha j m hjm (by omega)
  unfold apartS at h1
  have hc:¬ ((segK p a m).i=(segK p a j).i+1∨((segK p a j).i=0∧(segK p a m).i+1=(segK p a m).n∧(segK p a j).arc.fr=(segK p a j).arc.dst)):=by
   unfold segK;simp only [];omega
  rw [if_neg hc] at h1
  have h2:rmeetS ((pathS p a).getD j pt0) ((pathS p a).getD (j+1) pt0) ((pathS p a).getD m pt0) ((pathS p a).getD (m+1) pt0)=0:=by simpa [segK] using h1
  rw [e2,← e,← e1] at h2
  exact meet_ss (h.pt_near ha (by omega)) (h.pt_near ha (by omega)) (h.pt_near ha (by omega)) h2
theorem Valid.via_other:p.arcs.Pairwise (fun a b=>∀ x∈a.via,∀ y∈b.via,x≠y):=by
 refine (List.Pairwise.and_mem.1 h.segs.2.2).imp ?_
 rintro a b ⟨ha,hb,hj⟩ x hx y hy e
 obtain ⟨j,hjl,rfl⟩:=List.mem_iff_getElem.1 hx
 obtain ⟨m,hml,rfl⟩:=List.mem_iff_getElem.1 hy
 have hla:=pathS_length p a
 have hlb:=pathS_length p b
 have e1:=path_mid p a j hjl
 have e2:=path_mid p b m hml
 have j1:=hj j (by omega) m (by omega)
 have j2:=hj (j+1) (by omega) m (by omega)
 unfold joinedS at j1 j2
 have n1:rmeetS (segK p a j).a (segK p a j).b (segK p b m).a (segK p b m).b≠0:=by
  unfold segK
  simp only []
  rw [e2,← e,← e1]
  exact meet_ss (h.pt_near ha (by omega)) (h.pt_near ha (by omega)) (h.pt_near hb (by omega))
 have n2:rmeetS (segK p a (j+1)).a (segK p a (j+1)).b (segK p b m).a (segK p b m).b≠0:=by
  unfold segK
  simp only []
  rw [e2,← e,← e1]
  exact meet_fs (h.pt_near ha (by omega)) (h.pt_near ha (by omega)) (h.pt_near hb (by omega))
 have m1:rmeetS (segK p a j).a (segK p a j).b (segK p b m).a (segK p b m).b=1:=by
  by_cases hh:rmeetS (segK p a j).a (segK p a j).b (segK p b m).a (segK p b m).b=1
  · exact hh
  · rw [if_neg hh] at j1;exact absurd (by simpa using j1) n1
 have m2:rmeetS (segK p a (j+1)).a (segK p a (j+1)).b (segK p b m).a (segK p b m).b=1:=by
  by_cases hh:rmeetS (segK p a (j+1)).a (segK p a (j+1)).b (segK p b m).a (segK p b m).b=1
  · exact hh
  · rw [if_neg hh] at j2;exact absurd (by simpa using j2) n2
 rw [if_pos m1,List.any_eq_true] at j1
 rw [if_pos m2,List.any_eq_true] at j2
 obtain ⟨n,hn,hn'⟩:=j1
 obtain ⟨n',hm,hm'⟩:=j2
 unfold meetAt at hn' hm'
 rw [Bool.and_eq_true,Bool.and_eq_true] at hn' hm'
 have k1:=h.on_end ha (by omega) hn hn'.1.2
 have k2:=h.on_end hb (by omega) hn hn'.2
 have k3:=h.on_end ha (by omega) hm hm'.1.2
 have k4:=h.on_end hb (by omega) hm hm'.2
 have hd:=(h.distinct ha (k:=j) (by omega)).2
 omega
end

end Go.Proofs.YtnhdmghgjngcaaaGreat
namespace Go.Proofs.YtnhdmghgjngcaaaGreat
open Go.RowKit

theorem dir_same {o a b:Pt} (ha:a≠o) (hb:b≠o) (h1:¬ dirLt o a b) (h2:¬ dirLt o b a):tw o a b=0∧(bef o a=true↔bef o b=true):=by
 have ha':=ne_vec.1 ha
 have hb':=ne_vec.1 hb
 unfold dirLt ltV at h1 h2
 have e:tw o a b=(a.x-o.x)*(b.y-o.y)-(a.y-o.y)*(b.x-o.x):=rfl
 rw [bef_iff,bef_iff,e]
 generalize hux:a.x-o.x=ux at *
 generalize huy:a.y-o.y=uy at *
 generalize hvx:b.x-o.x=vx at *
 generalize hvy:b.y-o.y=vy at *
 rw [Int.mul_comm vx,Int.mul_comm vy] at h2
 have hl:lowV ux uy↔lowV vx vy:=by
  by_cases l1:lowV ux uy<;>by_cases l2:lowV vx vy<;>simp [l1,l2] at h1 h2 ⊢
 have hz:ux*vy-uy*vx=0:=by
  rcases Int.lt_trichotomy (ux*vy-uy*vx) 0 with h | h | h
  · exact absurd (.inr ⟨hl.symm,by omega⟩) h2
  · exact h
  · exact absurd (.inr ⟨hl,h⟩) h1
 refine ⟨hz,?_⟩
 have m1:∀ {a b:Int},0<a→0<b→0<a*b:=Int.mul_pos
 have m2:∀ {a b:Int},0<a→b<0→a*b<0:=Int.mul_neg_of_pos_of_neg
 have m3:∀ {a b:Int},a<0→0<b→a*b<0:=Int.mul_neg_of_neg_of_pos
 have m4:∀ {a b:Int},a<0→b<0→0<a*b:=Int.mul_pos_of_neg_of_neg
 unfold lowV at hl
 have key:(0<ux↔0<vx)∧(ux<0↔vx<0):=by
  rcases Int.lt_trichotomy uy 0 with y1 | y1 | y1
  ·
   have y2:vy<0:=by
    rcases Int.lt_trichotomy vy 0 with y2 | y2 | y2
    · exact y2
    ·
     have h3:vx<0:=by omega
     have:=m4 y1 h3
     rw [y2,Int.mul_zero] at hz;omega
    · omega
   rcases Int.lt_trichotomy ux 0 with x1 | x1 | x1<;>rcases Int.lt_trichotomy vx 0 with x2 | x2 | x2
   · omega
   · have:=m4 x1 y2;rw [x2,Int.mul_zero] at hz;omega
   · have h3:=m4 x1 y2;have h4:=m3 y1 x2;omega
   · have:=m4 y1 x2;rw [x1,Int.zero_mul] at hz;omega
   · omega
   · have:=m3 y1 x2;rw [x1,Int.zero_mul] at hz;omega
   · have h3:=m2 x1 y2;have h4:=m4 y1 x2;omega
   · have:=m2 x1 y2;rw [x2,Int.mul_zero] at hz;omega
   · omega
  ·
   rw [y1,Int.zero_mul] at hz
   have hx:ux≠0:=by omega
   have y2:vy=0:=by
    rcases Int.mul_eq_zero.1 (show ux*vy=0 by omega) with h | h
    · exact absurd h hx
    · exact h
   omega
  ·
   have y2:0<vy:=by
    rcases Int.lt_trichotomy vy 0 with y2 | y2 | y2
    · omega
    ·
     have h3:0<vx:=by omega
     have:=m1 y1 h3
     rw [y2,Int.mul_zero] at hz;omega
    · exact y2
   rcases Int.lt_trichotomy ux 0 with x1 | x1 | x1<;>rcases Int.lt_trichotomy vx 0 with x2 | x2 | x2
   · omega
   · have:=m3 x1 y2;rw [x2,Int.mul_zero] at hz;omega
   · have h3:=m3 x1 y2;have h4:=m1 y1 x2;omega
   · have:=m2 y1 x2;rw [x1,Int.zero_mul] at hz;omega
   · omega
   · have:=m1 y1 x2;rw [x1,Int.zero_mul] at hz;omega
   · have h3:=m1 x1 y2;have h4:=m2 y1 x2;omega
   · have:=m1 x1 y2;rw [x2,Int.mul_zero] at hz;omega
   · omega
 omega
theorem shared_two {o a b:Pt} (ha:a≠o) (hb:b≠o) (h:bef o a=true↔bef o b=true):sharedS o a o b=2:=by
 have tri:∀ q:Pt,q≠o→bef o q=true∨bef q o=true:=fun q hq=>by
  cases h1:bef o q
  ·
   cases h2:bef q o
   · exact absurd (bef_tri h2 h1) hq
   · exact .inr rfl
  · exact .inl rfl
 rw [sharedS_def]
 rcases tri a ha with h1 | h1
 ·
  have h2:=h.1 h1
  have e1:lo o a=o:=by unfold lo;rw [bef_asym h1];simp
  have e2:lo o b=o:=by unfold lo;rw [bef_asym h2];simp
  have e3:hi o a=a:=by unfold hi;rw [bef_asym h1];simp
  have e4:hi o b=b:=by unfold hi;rw [bef_asym h2];simp
  have e5:hi o o=o:=by unfold hi;rw [bef_irr];simp
  rw [e1,e2,e3,e4,e5]
  have e6:lo a b=a∨lo a b=b:=by unfold lo;split;exact .inr rfl;exact .inl rfl
  rcases e6 with e6 | e6<;>rw [e6]
  · rw [if_neg (fun e=>ha e.symm),if_pos h1]
  · rw [if_neg (fun e=>hb e.symm),if_pos h2]
 ·
  have h2:bef b o=true:=by
   rcases tri b hb with h3 | h3
   · rw [bef_asym (h.2 h3)] at h1;cases h1
   · exact h3
  have e1:lo o a=a:=by unfold lo;rw [h1];simp
  have e2:lo o b=b:=by unfold lo;rw [h2];simp
  have e3:hi o a=o:=by unfold hi;rw [h1];simp
  have e4:hi o b=o:=by unfold hi;rw [h2];simp
  have e5:lo o o=o:=by unfold lo;rw [bef_irr];simp
  rw [e1,e2,e3,e4,e5]
  have e6:hi a b=a∨hi a b=b:=by unfold hi;split;exact .inl rfl;exact .inr rfl
  rcases e6 with e6 | e6<;>rw [e6]
  · rw [if_neg ha,if_pos h1]
  · rw [if_neg hb,if_pos h2]
theorem meet_dir {o a b:Pt} (ho:near1 o=true) (hna:near1 a=true) (hnb:near1 b=true) (ha:a≠o) (hb:b≠o) (h1:¬ dirLt o a b) (h2:¬ dirLt o b a) :
  rmeetS o a o b=2∧rmeetS a o o b=2∧rmeetS o a b o=2∧rmeetS a o b o=2:=by
 obtain ⟨hc,hbf⟩:=dir_same ha hb h1 h2
 have hs:=shared_two ha hb hbf
 have c1:sharedS a o o b=2:=by rw [← hs];exact sharedS_flip a o o b
 have c2:sharedS o a b o=2:=by rw [sharedS_comm,sharedS_flip,sharedS_comm];exact hs
 have c3:sharedS a o b o=2:=by rw [sharedS_comm,sharedS_flip,sharedS_comm];exact c1
 unfold tw at hc
 unfold rmeetS rmeetN
 refine ⟨?_,?_,?_,?_⟩
 · rw [if_pos (near4 ho hna ho hnb),if_neg (fun e=>ha e.1.symm),if_pos (by unfold crossS;grind),if_pos ⟨by unfold crossS;grind,by unfold crossS;grind,by unfold crossS;grind,by unfold crossS;grind⟩];exact hs
 · rw [if_pos (near4 hna ho ho hnb),if_neg (fun e=>ha e.1),if_pos (by unfold crossS;grind),if_pos ⟨by unfold crossS;grind,by unfold crossS;grind,by unfold crossS;grind,by unfold crossS;grind⟩];exact c1
 · rw [if_pos (near4 ho hna hnb ho),if_neg (fun e=>ha e.1.symm),if_pos (by unfold crossS;grind),if_pos ⟨by unfold crossS;grind,by unfold crossS;grind,by unfold crossS;grind,by unfold crossS;grind⟩];exact c2
 · rw [if_pos (near4 hna ho hnb ho),if_neg (fun e=>ha e.1),if_pos (by unfold crossS;grind),if_pos ⟨by unfold crossS;grind,by unfold crossS;grind,by unfold crossS;grind,by unfold crossS;grind⟩];exact c3
end Go.Proofs.YtnhdmghgjngcaaaGreat
namespace Go.Proofs.YtnhdmghgjngcaaaGreat

section
variable {α:Type}
theorem sorted_uniq {lt:α→α→Bool}:∀ {l m:List α},l.Perm m→l.Pairwise (fun a b=>lt b a=false)→m.Pairwise (fun a b=>lt b a=false)→(∀ a∈l,∀ b∈l,lt a b=false→lt b a=false→a=b)→l=m
 | [],m,hp,_,_,_=>(List.nil_perm.1 hp).symm
 | a::l,[],hp,_,_,_=>by have:=hp.length_eq;simp at this
 | a::l,b::m,hp,h1,h2,ht=>by
  have h1':=List.pairwise_cons.1 h1
  have h2':=List.pairwise_cons.1 h2
  have hab:a=b:=by
   have ha:a∈b::m:=hp.subset (List.mem_cons_self)
   have hb:b∈a::l:=hp.symm.subset (List.mem_cons_self)
   rcases List.mem_cons.1 ha with e | ha
   · exact e
   rcases List.mem_cons.1 hb with e | hb
   · exact e.symm
   exact ht a List.mem_cons_self b (List.mem_cons_of_mem _ hb) (h2'.1 a ha) (h1'.1 b hb)
  subst hab
  rw [sorted_uniq (List.Perm.cons_inv hp) h1'.2 h2'.2 (fun x hx y hy=>ht x (List.mem_cons_of_mem _ hx) y (List.mem_cons_of_mem _ hy))]
theorem nodup_le:∀ {l m:List Int},l.Nodup→(∀ x∈l,x∈m)→l.length≤m.length
 | [],m,_,_=>Nat.zero_le _
 | a::l,m,h,hs=>by
  have h':=List.nodup_cons.1 h
  have ha:=hs a List.mem_cons_self
  have:=nodup_le (m:=m.erase a) h'.2 (fun x hx=>(List.mem_erase_of_ne (fun e=>h'.1 (by rw [← e];exact hx))).2 (hs x (List.mem_cons_of_mem _ hx)))
  rw [List.length_erase_of_mem ha] at this
  have hp:0<m.length:=List.length_pos_of_mem ha
  simp only [List.length_cons]
  omega
def iter (f:Int→Int) (x:Int):Nat→List Int
 | 0=>[]
 | n+1=>x::iter f (f x) n
def pw (f:Int→Int) (x:Int):Nat→Int
 | 0=>x
 | n+1=>f (pw f x n)
theorem pw_succ (f:Int→Int) (x:Int) (n:Nat):pw f (f x) n=pw f x (n+1):=by
 induction n with
 | zero=>rfl
 | succ n ih=>rw [pw,ih];rfl
theorem iter_len (f:Int→Int) (x:Int) (n:Nat):(iter f x n).length=n:=by
 induction n generalizing x with
 | zero=>rfl
 | succ n ih=>simp [iter,ih]
theorem iter_get (f:Int→Int) (x:Int) (n k:Nat) (hk:k<(iter f x n).length):(iter f x n)[k]=pw f x k:=by
 induction n generalizing x k with
 | zero=>simp [iter] at hk
 | succ n ih =>
  cases k with
  | zero=>rfl
  | succ k =>
   simp only [iter,List.getElem_cons_succ]
   rw [ih (f x) k (by simpa [iter] using hk),pw_succ]
theorem iter_snoc (f:Int→Int) (x:Int) (n:Nat):iter f x (n+1)=iter f x n++[pw f x n]:=by
 induction n generalizing x with
 | zero=>rfl
 | succ n ih =>
  rw [iter,ih (f x),pw_succ];rfl
variable {f:Int→Int} {D:List Int} (hD:∀ x∈D,f x∈D) (hi:∀ x∈D,∀ y∈D,f x=f y→x=y)
include hD in
theorem pw_mem {x:Int} (hx:x∈D) (n:Nat):pw f x n∈D:=by
 induction n with
 | zero=>exact hx
 | succ n ih=>exact hD _ ih
include hD hi in
theorem pw_back {x:Int} (hx:x∈D) {i j:Nat} (h:pw f x i=pw f x (i+j)):pw f x j=x:=by
 induction i with
 | zero=>rw [Nat.zero_add] at h;exact h.symm
 | succ i ih =>
  refine ih (hi _ (pw_mem hD hx i) _ (pw_mem hD hx (i+j)) ?_)
  rw [show i+1+j=(i+j)+1 by omega] at h
  exact h
theorem iter_nodup_or (f:Int→Int) (x:Int) (n:Nat):(iter f x n).Nodup∨∃ i j,0<j∧i+j<n∧pw f x i=pw f x (i+j):=by
 induction n with
 | zero=>exact .inl List.nodup_nil
 | succ n ih =>
  rcases ih with h | ⟨i,j,h1,h2,h3⟩
  ·
   by_cases hm:pw f x n∈iter f x n
   ·
    right
    obtain ⟨k,hk,e⟩:=List.mem_iff_getElem.1 hm
    rw [iter_get] at e
    rw [iter_len] at hk
    exact ⟨k,n-k,by omega,by omega,by rw [e,show k+(n-k)=n by omega]⟩
   ·
    left
    rw [iter_snoc,List.nodup_append]
    refine ⟨h,by simp,fun a ha b hb=>?_⟩
    rw [List.mem_singleton] at hb
    subst hb
    exact fun e=>hm (e ▸ ha)
  · exact .inr ⟨i,j,h1,by omega,h3⟩
include hD hi in
theorem returns {x:Int} (hx:x∈D):∃ j,0<j∧j≤D.length∧pw f x j=x:=by
 rcases iter_nodup_or f x (D.length+1) with h | ⟨i,j,h1,h2,h3⟩
 ·
  have:=nodup_le h (fun y hy=>by
   obtain ⟨k,hk,rfl⟩:=List.mem_iff_getElem.1 hy
   rw [iter_get];exact pw_mem hD hx k)
  rw [iter_len] at this
  omega
 · exact ⟨j,h1,by omega,pw_back hD hi hx h3⟩
def per (f:Int→Int) (x:Int):Nat→Nat→Nat
 | k,0=>k
 | k,n+1=>if pw f x k=x then k else per f x (k+1) n
theorem per_first (f:Int→Int) (x:Int) (k n:Nat):k≤per f x k n∧∀ j,k≤j→j<per f x k n→pw f x j≠x:=by
 induction n generalizing k with
 | zero=>exact ⟨Nat.le_refl _,fun j h1 h2=>by simp only [per] at h2;omega⟩
 | succ n ih =>
  unfold per
  split
  · exact ⟨Nat.le_refl _,fun j h1 h2=>by omega⟩
  ·
   rename_i hne
   obtain ⟨h1,h2⟩:=ih (k+1)
   refine ⟨by omega,fun j hj hj2=>?_⟩
   by_cases e:j=k
   · subst e;exact hne
   · exact h2 j (by omega) hj2
theorem per_hit (f:Int→Int) (x:Int) (k n:Nat) (h:∃ j,k≤j∧j≤k+n∧pw f x j=x):pw f x (per f x k n)=x∧per f x k n≤k+n:=by
 induction n generalizing k with
 | zero =>
  obtain ⟨j,h1,h2,h3⟩:=h
  have:j=k:=by omega
  subst this
  exact ⟨h3,Nat.le_refl _⟩
 | succ n ih =>
  unfold per
  split
  · rename_i e;exact ⟨e,by omega⟩
  ·
   rename_i hne
   obtain ⟨j,h1,h2,h3⟩:=h
   have:=ih (k+1) ⟨j,by
    by_cases e:j=k
    · subst e;exact absurd h3 hne
    · omega,by omega,h3⟩
   exact ⟨this.1,by omega⟩
def orbN (f:Int→Int) (D:List Int) (x:Int):Nat:=per f x 1 D.length
def orb (f:Int→Int) (D:List Int) (x:Int):List Int:=iter f x (orbN f D x)
include hD hi in
theorem orb_facts {x:Int} (hx:x∈D):0<orbN f D x∧orbN f D x≤D.length+1∧pw f x (orbN f D x)=x∧(∀ j,0<j→j<orbN f D x→pw f x j≠x)∧(orb f D x).Nodup∧(orb f D x).length=orbN f D x:=by
 obtain ⟨j,h1,h2,h3⟩:=returns hD hi hx
 obtain ⟨a1,a2⟩:=per_first f x 1 D.length
 obtain ⟨b1,b2⟩:=per_hit f x 1 D.length ⟨j,h1,by omega,h3⟩
 refine ⟨a1,by show per f x 1 D.length≤_;omega,b1,fun j h1 h2=>a2 j h1 h2,?_,iter_len _ _ _⟩
 rcases iter_nodup_or f x (orbN f D x) with h | ⟨i,j,c1,c2,c3⟩
 · exact h
 · exact absurd (pw_back hD hi hx c3) (a2 j c1 (by unfold orbN at c2;omega))
theorem mem_iter {f:Int→Int} {x y:Int} {n:Nat}:y∈iter f x n↔∃ k,k<n∧pw f x k=y:=by
 rw [List.mem_iff_getElem]
 constructor
 ·
  rintro ⟨k,hk,e⟩
  rw [iter_get] at e
  rw [iter_len] at hk
  exact ⟨k,hk,e⟩
 ·
  rintro ⟨k,hk,e⟩
  exact ⟨k,by rw [iter_len];exact hk,by rw [iter_get];exact e⟩
include hD hi in
theorem orb_closed {x y:Int} (hx:x∈D):y∈D→(f y∈orb f D x↔y∈orb f D x):=by
 intro hy
 obtain ⟨h1,-,h3,-,-,-⟩:=orb_facts hD hi hx
 unfold orb
 rw [mem_iter,mem_iter]
 constructor
 ·
  rintro ⟨k,hk,e⟩
  cases k with
  | zero =>
   refine ⟨orbN f D x-1,by omega,hi _ (pw_mem hD hx _) _ hy ?_⟩
   have:pw f x (orbN f D x-1+1)=x:=by rw [Nat.sub_add_cancel h1];exact h3
   rw [pw] at this
   rw [this];exact e
  | succ k=>exact ⟨k,by omega,hi _ (pw_mem hD hx _) _ hy e⟩
 ·
  rintro ⟨k,hk,rfl⟩
  by_cases e:k+1=orbN f D x
  ·
   refine ⟨0,h1,?_⟩
   have h4:pw f x (k+1)=x:=by rw [e];exact h3
   exact h4.symm
  · exact ⟨k+1,by omega,rfl⟩
end
section
def cycStep (f:Int→Int) (D:List Int) (acc:List (List Int)) (d:Int):List (List Int):=if d∈acc.flatten then acc else acc++[orb f D d]
def cycL (f:Int→Int) (D L:List Int):List (List Int):=L.foldl (cycStep f D) []
variable {f:Int→Int} {D:List Int}
theorem head_orb {x:Int} (h:0<orbN f D x):x∈orb f D x:=mem_iter.2 ⟨0,h,rfl⟩
theorem orb_mem (hD:∀ x∈D,f x∈D) {x y:Int} (hx:x∈D) (hy:y∈orb f D x):y∈D:=by
 obtain ⟨k,-,rfl⟩:=mem_iter.1 hy
 exact pw_mem hD hx k
structure Cyc (f:Int→Int) (D P:List Int) (acc:List (List Int)):Prop where
 orbs:∀ l∈acc,∃ d∈P,l=orb f D d∧∀ e∈l,e∈P→d≤e
 covers:∀ x∈P,x∈acc.flatten
 nodup:acc.flatten.Nodup
 closed:∀ y∈D,f y∈acc.flatten↔y∈acc.flatten
theorem Cyc.back {P:List Int} {acc:List (List Int)} (h:Cyc f D P acc) (hD:∀ x∈D,f x∈D) {x:Int} (hx:x∈D) (k:Nat):pw f x k∈acc.flatten↔x∈acc.flatten:=by
 induction k with
 | zero=>exact Iff.rfl
 | succ k ih=>exact (h.closed _ (pw_mem hD hx k)).trans ih
theorem Cyc.nil (f:Int→Int) (D:List Int):Cyc f D [] []:=⟨fun l h=>(by cases h),fun x h=>(by cases h),List.nodup_nil,fun y _=>⟨fun h=>(by cases h),fun h=>(by cases h)⟩⟩
theorem Cyc.apart {P:List Int} {acc:List (List Int)} (h:Cyc f D P acc) (hD:∀ x∈D,f x∈D) {d:Int} (hd:d∈D) (hm:d∉acc.flatten) {y:Int} (hy:y∈orb f D d):y∉acc.flatten:=by
 obtain ⟨k,-,rfl⟩:=mem_iter.1 hy
 exact fun e=>hm ((h.back hD hd k).1 e)
theorem Cyc.step {P:List Int} {acc:List (List Int)} (h:Cyc f D P acc) (hD:∀ x∈D,f x∈D) (hi:∀ x∈D,∀ y∈D,f x=f y→x=y) {d:Int} (hd:d∈D) (hlt:∀ x∈P,x<d):Cyc f D (P++[d]) (cycStep f D acc d):=by
 unfold cycStep
 by_cases hm:d∈acc.flatten
 ·
  rw [if_pos hm]
  refine ⟨fun l hl=>?_,fun x hx=>?_,h.nodup,h.closed⟩
  ·
   obtain ⟨d',h1,h2,h3⟩:=h.orbs l hl
   refine ⟨d',List.mem_append_left _ h1,h2,fun e he hp=>?_⟩
   rcases List.mem_append.1 hp with hp | hp
   · exact h3 e he hp
   · rw [List.mem_singleton] at hp;subst hp;exact Int.le_of_lt (hlt _ h1)
  ·
   rcases List.mem_append.1 hx with hx | hx
   · exact h.covers x hx
   · rw [List.mem_singleton] at hx;subst hx;exact hm
 ·
  rw [if_neg hm]
  obtain ⟨o1,-,-,-,o5,-⟩:=orb_facts hD hi hd
  have hfl:(acc++[orb f D d]).flatten=acc.flatten++orb f D d:=by simp
  refine ⟨fun l hl=>?_,fun x hx=>?_,?_,fun y hy=>?_⟩
  ·
   rcases List.mem_append.1 hl with hl | hl
   ·
    obtain ⟨d',h1,h2,h3⟩:=h.orbs l hl
    refine ⟨d',List.mem_append_left _ h1,h2,fun e he hp=>?_⟩
    rcases List.mem_append.1 hp with hp | hp
    · exact h3 e he hp
    · rw [List.mem_singleton] at hp;subst hp;exact Int.le_of_lt (hlt _ h1)
   ·
    rw [List.mem_singleton] at hl
    refine ⟨d,List.mem_append_right _ (List.mem_singleton.2 rfl),hl,fun e he hp=>?_⟩
    subst hl
    rcases List.mem_append.1 hp with hp | hp
    · exact absurd (h.covers e hp) (h.apart hD hd hm he)
    · rw [List.mem_singleton] at hp;exact Int.le_of_eq hp.symm
  ·
   rw [hfl]
   rcases List.mem_append.1 hx with hx | hx
   · exact List.mem_append_left _ (h.covers x hx)
   · rw [List.mem_singleton] at hx;subst hx;exact List.mem_append_right _ (head_orb o1)
  ·
   rw [hfl,List.nodup_append]
   exact ⟨h.nodup,o5,fun a ha b hb e=>h.apart hD hd hm hb (e ▸ ha)⟩
  · rw [hfl,List.mem_append,List.mem_append,h.closed y hy,orb_closed hD hi hd hy]
theorem cyc_fold (hD:∀ x∈D,f x∈D) (hi:∀ x∈D,∀ y∈D,f x=f y→x=y):∀ (L P:List Int) (acc:List (List Int)),Cyc f D P acc→(∀ x∈L,x∈D)→(P++L).Pairwise (· < ·)→Cyc f D (P++L) (L.foldl (cycStep f D) acc)
 | [],P,acc,h,_,_=>by rw [List.append_nil];exact h
 | d::L,P,acc,h,hs,hp=>by
  have hp':=List.pairwise_append.1 hp
  have:=cyc_fold hD hi L (P++[d]) _ (h.step hD hi (hs d List.mem_cons_self) (fun x hx=>hp'.2.2 x hx d List.mem_cons_self)) (fun x hx=>hs x (List.mem_cons_of_mem _ hx)) (by rw [List.append_assoc];exact hp)
  rw [List.append_assoc] at this
  exact this
theorem cyc_all (hD:∀ x∈D,f x∈D) (hi:∀ x∈D,∀ y∈D,f x=f y→x=y) (hs:D.Pairwise (· < ·)):Cyc f D D (cycL f D D):=by
 have:=cyc_fold hD hi D [] [] (Cyc.nil f D) (fun x hx=>hx) hs
 exact this
theorem Cyc.perm {acc:List (List Int)} (h:Cyc f D D acc) (hD:∀ x∈D,f x∈D) (hs:D.Nodup):acc.flatten.Perm D:=by
 refine (List.perm_ext_iff_of_nodup h.nodup hs).2 fun x=>⟨fun hx=>?_,h.covers x⟩
 obtain ⟨l,hl,hx⟩:=List.mem_flatten.1 hx
 obtain ⟨d,h1,h2,-⟩:=h.orbs l hl
 subst h2
 exact orb_mem hD h1 hx
end
end Go.Proofs.YtnhdmghgjngcaaaGreat
