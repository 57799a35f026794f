import Derived.Test.YtpempeioeiaijaaGreatPlanar
import Derived.Test.YtpempeioeiaijaaGreatJ05
import Derived.Test.YtpempeioeiaijaaGreatGB
set_option linter.unusedSimpArgs false
set_option linter.unusedVariables false
namespace Go.Proofs.YtpempeioeiaijaaGreat
open Go.RowKit

theorem hasB_eq (p:Pl) (a:Ar):hasB (p.nodes.map (·.id)) a=hasEnds p a:=by
 have h:∀ id:Int,(p.nodes.map (·.id)).any (fun y=>y == id)=(findNd p.nodes id).isSome:=fun id=>by
  unfold findNd
  rw [List.any_map,Bool.eq_iff_iff,List.any_eq_true,List.find?_isSome]
  rfl
 unfold hasB hasEnds
 rw [h,h]
theorem conn_eq (p:Pl):connS p (p.nodes.map (·.id))=if dupS (p.nodes.map (·.pt))=true then 8 else if p.arcs.all (hasEnds p)=false then 7 else if sidesS p=false then 12 else 0:=by
 unfold connS
 have:hasB (p.nodes.map (·.id))=hasEnds p:=funext fun a=>hasB_eq p a
 rw [this]
theorem check_eq (p:Pl) (h:limS p=false):checkS p=if orderedS p=false then 10 else if rangesS p=false then 2 else if connS p (p.nodes.map (·.id))=0 then (if planarR p=false then 11 else 0) else connS p (p.nodes.map (·.id)):=by
 unfold checkS
 rw [h,conn_eq]
 rw [if_neg (show ¬ false=true by decide)]
 split
 · rfl
 split
 · rfl
 split
 · rfl
 split
 · rfl
 split
 · rfl
 · rfl
theorem conn_zero (p:Pl) (h:connS p (p.nodes.map (·.id))=0):∀ a∈p.arcs,hasEnds p a=true:=by
 rw [conn_eq] at h
 cases h2:p.arcs.all (hasEnds p)
 ·
  rw [h2] at h
  split at h
  · omega
  · simp at h
 · exact List.all_eq_true.1 h2
theorem placed_eq (p:Pl):placedS p=(pointsS p).all ptOk:=by
 unfold placedS pointsS
 have h:∀ l:List Pt,(!l.any ptBad)=l.all ptOk:=fun l=>by
  induction l with
  | nil=>rfl
  | cons a l ih=>rw [List.any_cons,List.all_cons,Bool.not_or,ih,ptBad_eq,Bool.not_not]
 rw [List.all_append,List.all_flatMap,List.all_map]
 have h1:(!p.nodes.any fun n=>ptBad n.pt)=p.nodes.all (ptOk ∘ fun n=>n.pt):=by
  have:=h (p.nodes.map (·.pt))
  rw [List.any_map,List.all_map] at this
  exact this
 have h2:(!p.arcs.any fun a=>a.via.any ptBad)=p.arcs.all fun a=>a.via.all ptOk:=by
  rw [List.not_any_eq_all_not]
  congr 1
  funext a
  exact h a.via
 rw [h1,h2]
theorem ranges_eq (p:Pl):rangesS p=(!(p.nodes.map (·.id)).any idBad && !(p.arcs.map (·.id)).any idBad && !p.faces.any idBad && placedS p):=by
 unfold rangesS
 rw [placed_eq,List.any_append,List.any_append,Bool.not_or,Bool.not_or]
theorem any_no {α:Type} {l:List α} {q:α→Bool} (h:l.any q=false):∀ x∈l,q x=false:=fun x hx=>by
 rw [List.any_eq_false] at h
 have:=h x hx
 simpa using this
theorem wf_ids {l:List Nd} (h:(l.map (·.id)).any idBad=false):∀ n∈l,wfI n.id:=fun n hn=>by
 have:=any_no h n.id (List.mem_map_of_mem hn)
 simp only [idBad,Bool.or_eq_false_iff,decide_eq_false_iff_not] at this
 exact wfI_of (by omega) (by omega)
theorem abs_len {p:Pl} (h:limS p=false):(p.arcs.flatMap (absOf p)).length≤2097152:=by
 obtain ⟨h1,h2,h3,h4,h5⟩:=limS_no h
 have hl:=flat_le p.arcs (absOf p) 65 (fun a ha=>by
  simp only [absOf,List.length_map,List.length_range]
  unfold pathOf
  cases hb:findAr p.arcs a.id with
  | none=>simp
  | some b =>
   simp only []
   split
   ·
    have:=h1 b (findAr_mem hb)
    simp only [Option.getD_some,pathS_length]
    omega
   · simp)
 omega

set_option maxRecDepth 100000 in
set_option maxHeartbeats 8000000 in
theorem Check_spec (v:Value) (p:Pl) (w:World) (h:PlV w v p) :
  Calls Tryz.prog 22 #[v] w fun e w'=>e=.returned (.int .i64 (checkS p))∧Below w.heap.size w w':=by
 have HP:=Lib.hid h
 obtain ⟨_,_,_,al,rfl,hpa,⟨An,cn,rfl,hn1,hn2,-⟩,⟨⟨Aa,ca,rfl,ha1,ha2,hRa⟩,hV⟩,hF⟩:=h
 have HF:=Lib.hid hF
 obtain ⟨Af,cf,rfl,hf1,hf2,-⟩:=hF
 unfold maxLen at hn2 ha2 hf2
 have HV:=Lib.hid hV;clear hV
 have HRa:=Lib.hid hRa;clear hRa
 obtain ⟨q,hq⟩:∃ q,checkS p=q:=⟨_,rfl⟩
 rw [hq]
 have hq2:=hq
 unfold checkS at hq
 have hbig:256<p.nodes.length∨256<al.length∨64<p.faces.length→3=q:=fun hh=>by
  rw [← hq,if_pos]
  unfold limS
  rw [hpa,List.length_map]
  simp only [Bool.or_eq_true,decide_eq_true_eq]
  omega
 have hvia:∀ k (hk:k<al.length),64<al[k].1.via.length→3=q:=fun k hk hh=>by
  rw [← hq,if_pos]
  unfold limS
  rw [hpa,List.any_map]
  have:=any_hit al ((fun a=>decide (64<a.via.length)) ∘ fun x=>x.1) k hk (by simpa using hh)
  rw [this];rfl
 have hsmall:¬ 256<p.nodes.length→¬ 256<al.length→¬ 64<p.faces.length→(∀ k (hk:k<al.length),¬ 64<al[k].1.via.length)→limS p=false:=fun h1 h2 h3 h4=>by
  unfold limS
  rw [hpa,List.length_map,List.any_map]
  have:=any_miss al ((fun a=>decide (64<a.via.length)) ∘ fun x=>x.1) (fun j hj=>by have:=h4 j hj;simpa using this)
  rw [this,decide_eq_false h1,decide_eq_false h2,decide_eq_false h3];rfl
 have Hq:=Lib.hid hq2
 have HBig:=Lib.hid hbig
 have HVia:=Lib.hid hvia
 have HSmall:=Lib.hid hsmall
 have Hpa:=Lib.hid hpa
 clear hq hq2 hbig hvia hsmall hpa
 go_enter Tryz.func22,Tryz.ntmps22
 by_cases g1:256<p.nodes.length
 ·
  have hf:=Lib.hid (HBig.out (.inl g1))
  go_wp2_with fail
  go_ret
  exact ⟨ret_int hf.out,bA (bR w) _⟩
 by_cases g2:256<al.length
 ·
  have hf:=Lib.hid (HBig.out (.inr (.inl g2)))
  go_wp2_with fail
  go_ret
  exact ⟨ret_int hf.out,bA (bR w) _⟩
 by_cases g3:64<p.faces.length
 ·
  have hf:=Lib.hid (HBig.out (.inr (.inr g3)))
  go_wp2_with fail
  go_ret
  exact ⟨ret_int hf.out,bA (bR w) _⟩
 go_wp2_with fail
 obtain ⟨W1,hW1⟩:∃ W1:World,W1=w.alloc (.cells #[.slice An p.nodes.length cn,.slice Aa al.length ca,.slice Af p.faces.length cf] 34):=⟨_,rfl⟩
 have HB1:=Lib.hid (show Below w.heap.size w W1 by rw [hW1];exact bA (bR w) _)
 have HX1:Hid (Blk W1 w.heap.size 34 #[.slice An p.nodes.length cn,.slice Aa al.length ca,.slice Af p.faces.length cf]):=Lib.hid (by rw [hW1];exact Blk.made rfl _ _)
 rw [← hW1]
 clear hW1
 go_loopw [26] (fun u wr=>∃ k:Nat,k≤al.length∧u=.int .i64 k∧Below W1.heap.size W1 wr∧∀ j (hj:j<al.length),j<k→¬ 64<al[j].1.via.length) (fun u _=>al.length-(intOf u).toNat)
 case atStart => exact ⟨0,Nat.zero_le _,rfl,bR W1,fun _ _ h=>by omega⟩
 case round =>
 obtain ⟨k,hk,rfl,hb,hno⟩:=hrel
 have Hb:=Lib.hid hb
 have Hno:=Lib.hid hno
 have X1:=HX1.out.keep hb
 clear hb hno
 obtain ⟨X1l,X1a,X1b,X1c,-,-,-⟩:=X1.facts3
 by_cases hlt:k<al.length
 case pos =>
  obtain ⟨b,o,rfl,hlb,c0,c1,c2,c3,c4,c5⟩:=(HRa.out.mono (bT HB1.out Hb.out)).ar hlt
  obtain ⟨Av,cv,hv,hv1,hv2,-⟩:=HV.out k hlt
  unfold maxLen at hv2
  rw [hv] at c3
  clear hv
  by_cases hbig:64<al[k].1.via.length
  ·
   have hf:=Lib.hid (HVia.out k hlt hbig)
   go_wp2_with fail
   go_ret
   exact ⟨ret_int hf.out,bT HB1.out (bA Hb.out _)⟩
  ·
   have hb':=Lib.hid hbig
   go_wp2_with fail
   go_roundw
   case rel => exact ⟨k+1,by omega,by go_num,bA Hb.out _,all_succ (p:=fun a=>¬ 64<a.1.via.length) Hno.out hlt hb'.out⟩
   case measure => simp [intOf];omega
 case neg =>
 have hlim:=HSmall.out g1 g2 g3 (fun j hj=>Hno.out j hj (by omega))
 have hlen:=abs_len hlim
 have hq:=Hq.out
 rw [check_eq p hlim] at hq
 have Hlim:=Lib.hid hlim
 have HLen:=Lib.hid hlen
 have hsh:Short p:=fun a ha=>by have:=(limS_no hlim).1 a ha;omega
 have HSh:=Lib.hid hsh
 replace Hq:=Lib.hid hq
 have hpal:p.arcs.length≤4096:=by rw [Hpa.out,List.length_map];omega
 clear hlim hlen hsh hq HBig HVia HSmall HV HRa Hno
 have Bw:=bT HB1.out Hb.out
 clear Hb
 go_wp2_with fail
 refine (identifiers_spec _ p _ (HP.out.mono Bw) (by omega) hpal).mono ?_
 rintro e w2 ⟨v2,u2,rfl,hb2,ho1,ho2⟩
 have HO1:=Lib.hid (Own.sl ho1)
 have HO2:=Lib.hid (Own.sl ho2)
 replace Bw:=bT Bw hb2
 replace X1:=X1.keep hb2
 clear hb2 ho1 ho2
 try clear X1l
 try clear X1a
 try clear X1b
 try clear X1c
 obtain ⟨X1l,X1a,X1b,X1c,-,-,-⟩:=X1.facts3
 obtain ⟨wz,rfl⟩:∃ wz:World,wz=w2:=⟨_,rfl⟩
 go_wp2_with fail
 refine (ascending_spec _ _ _ HO1.out).mono ?_
 rintro e w3 ⟨rfl,hb3⟩
 have B3:=hb3
 replace X1:=X1.keep hb3
 clear hb3
 try clear X1l
 try clear X1a
 try clear X1b
 try clear X1c
 obtain ⟨X1l,X1a,X1b,X1c,-,-,-⟩:=X1.facts3
 cases h1:asc (p.nodes.map (·.id))
 case false =>
  have hf:=Lib.hid (show 10=q by rw [← Hq.out,if_pos (by simp [orderedS,h1])])
  clear h1
  go_wp2_with fail
  go_ret
  exact ⟨ret_int hf.out,bT Bw B3⟩
 have H1:=Lib.hid h1;clear h1
 go_wp2_with fail
 refine (ascending_spec _ _ _ (HO2.out.mono B3)).mono ?_
 rintro e w4 ⟨rfl,hb4⟩
 have B4:=bT B3 hb4
 replace X1:=X1.keep hb4
 clear hb4 B3
 try clear X1l
 try clear X1a
 try clear X1b
 try clear X1c
 obtain ⟨X1l,X1a,X1b,X1c,-,-,-⟩:=X1.facts3
 cases h1:asc (p.arcs.map (·.id))
 case false =>
  have hf:=Lib.hid (show 10=q by rw [← Hq.out,if_pos (by simp [orderedS,h1])])
  clear h1
  go_wp2_with fail
  go_ret
  exact ⟨ret_int hf.out,bT Bw B4⟩
 have H2:=Lib.hid h1;clear h1
 go_wp2_with fail
 refine (ascending_spec _ _ _ (HF.out.mono (bT Bw B4))).mono ?_
 rintro e w5 ⟨rfl,hb5⟩
 have B5:=bT B4 hb5
 replace X1:=X1.keep hb5
 clear hb5 B4
 try clear X1l
 try clear X1a
 try clear X1b
 try clear X1c
 obtain ⟨X1l,X1a,X1b,X1c,-,-,-⟩:=X1.facts3
 cases h1:asc p.faces
 case false =>
  have hf:=Lib.hid (show 10=q by rw [← Hq.out,if_pos (by simp [orderedS,h1])])
  clear h1
  go_wp2_with fail
  go_ret
  exact ⟨ret_int hf.out,bT Bw B5⟩
 have hq:=Hq.out
 rw [if_neg (show ¬ orderedS p=false by simp [orderedS,h1,H1.out,H2.out])] at hq
 replace Hq:=Lib.hid hq
 clear hq h1
 go_wp2_with fail
 refine (numbered_spec _ _ _ (HO1.out.mono B5)).mono ?_
 rintro e w6 ⟨rfl,hb6⟩
 have B6:=bT B5 hb6
 replace X1:=X1.keep hb6
 clear hb6 B5
 try clear X1l
 try clear X1a
 try clear X1b
 try clear X1c
 obtain ⟨X1l,X1a,X1b,X1c,-,-,-⟩:=X1.facts3
 cases h1:(p.nodes.map (·.id)).any idBad
 case true =>
  have hf:=Lib.hid (show 2=q by rw [← Hq.out,if_pos (by rw [ranges_eq,h1];rfl)])
  clear h1
  go_wp2_with fail
  go_ret
  exact ⟨ret_int hf.out,bT Bw B6⟩
 have H3:=Lib.hid h1;clear h1
 go_wp2_with fail
 refine (numbered_spec _ _ _ (HO2.out.mono B6)).mono ?_
 rintro e w7 ⟨rfl,hb7⟩
 have B7:=bT B6 hb7
 replace X1:=X1.keep hb7
 clear hb7 B6
 try clear X1l
 try clear X1a
 try clear X1b
 try clear X1c
 obtain ⟨X1l,X1a,X1b,X1c,-,-,-⟩:=X1.facts3
 cases h1:(p.arcs.map (·.id)).any idBad
 case true =>
  have hf:=Lib.hid (show 2=q by rw [← Hq.out,if_pos (by rw [ranges_eq,h1];simp)])
  clear h1
  go_wp2_with fail
  go_ret
  exact ⟨ret_int hf.out,bT Bw B7⟩
 have H4:=Lib.hid h1;clear h1
 go_wp2_with fail
 refine (numbered_spec _ _ _ (HF.out.mono (bT Bw B7))).mono ?_
 rintro e w8 ⟨rfl,hb8⟩
 have B8:=bT B7 hb8
 replace X1:=X1.keep hb8
 clear hb8 B7
 try clear X1l
 try clear X1a
 try clear X1b
 try clear X1c
 obtain ⟨X1l,X1a,X1b,X1c,-,-,-⟩:=X1.facts3
 cases h1:p.faces.any idBad
 case true =>
  have hf:=Lib.hid (show 2=q by rw [← Hq.out,if_pos (by rw [ranges_eq,h1];simp)])
  clear h1
  go_wp2_with fail
  go_ret
  exact ⟨ret_int hf.out,bT Bw B8⟩
 have H5:=Lib.hid h1;clear h1
 go_wp2_with fail
 refine (placed_spec _ p _ (HP.out.mono (bT Bw B8))).mono ?_
 rintro e w9 ⟨rfl,hb9⟩
 have B9:=bT B8 hb9
 replace X1:=X1.keep hb9
 clear hb9 B8
 try clear X1l
 try clear X1a
 try clear X1b
 try clear X1c
 obtain ⟨X1l,X1a,X1b,X1c,-,-,-⟩:=X1.facts3
 cases h1:placedS p
 case false =>
  have hf:=Lib.hid (show 2=q by rw [← Hq.out,if_pos (by rw [ranges_eq,h1];simp)])
  clear h1
  go_wp2_with fail
  go_ret
  exact ⟨ret_int hf.out,bT Bw B9⟩
 have hq:=Hq.out
 rw [if_neg (show ¬ rangesS p=false by rw [ranges_eq,h1,H3.out,H4.out,H5.out];decide)] at hq
 replace Hq:=Lib.hid hq
 clear hq h1
 go_wp2_with fail
 refine (connected_spec _ _ p _ _ (HP.out.mono (bT Bw B9)) (HO1.out.mono B9)).mono ?_
 rintro e w10 ⟨rfl,hb10⟩
 have B10:=bT B9 hb10
 replace X1:=X1.keep hb10
 clear hb10 B9
 try clear X1l
 try clear X1a
 try clear X1b
 try clear X1c
 obtain ⟨X1l,X1a,X1b,X1c,-,-,-⟩:=X1.facts3
 by_cases h1:connS p (p.nodes.map (·.id))=0
 case neg =>
  have hf:=Lib.hid (show connS p (p.nodes.map (·.id))=q by rw [← Hq.out,if_neg h1])
  generalize connS p (p.nodes.map (·.id))=c at *
  go_wp2_with fail
  go_ret
  exact ⟨ret_int hf.out,bT Bw B10⟩
 have hq:=Hq.out
 rw [if_pos h1] at hq
 replace Hq:=Lib.hid hq
 have hends:=Lib.hid (conn_zero p h1)
 rw [h1]
 clear hq h1
 have HSd:Hid (Sound p):=Lib.hid ⟨asc_pw _ H1.out,asc_pw _ H2.out,hends.out⟩
 go_wp2_with fail
 refine (planar_spec _ p _ (HP.out.mono (bT Bw B10)) HSh.out HLen.out (by omega) (wf_ids H3.out) HSd.out).mono ?_
 rintro e w11 ⟨rfl,hb11⟩
 have B11:=bT B10 hb11
 clear hb11 B10 X1 X1l X1a X1b X1c
 cases h1:planarR p
 case false =>
  have hf:=Lib.hid (show 11=q by rw [← Hq.out,if_pos h1])
  clear h1
  go_wp2_with fail
  go_ret
  exact ⟨ret_int hf.out,bT Bw B11⟩
 case true =>
  have hf:=Lib.hid (show 0=q by rw [← Hq.out,if_neg (by rw [h1];decide)])
  clear h1
  go_wp2_with fail
  go_ret
  exact ⟨ret_int hf.out,bT Bw B11⟩
end Go.Proofs.YtpempeioeiaijaaGreat
namespace Go.Proofs.YtpempeioeiaijaaGreat
open Go.RowKit

structure Valid (p:Pl):Prop where
 lim:limS p=false
 ord:orderedS p=true
 rng:rangesS p=true
 dup:dupS (p.nodes.map (·.pt))=false
 ends:p.arcs.all (hasEnds p)=true
 sides:sidesS p=true
 planar:planarR p=true
theorem check_zero (p:Pl):checkS p=0↔Valid p:=by
 unfold checkS
 constructor
 ·
  intro h
  split at h
  · cases h
  rename_i h1
  split at h
  · cases h
  rename_i h2
  split at h
  · cases h
  rename_i h3
  split at h
  · cases h
  rename_i h4
  split at h
  · cases h
  rename_i h5
  split at h
  · cases h
  rename_i h6
  split at h
  · cases h
  rename_i h7
  exact ⟨by simpa using h1,by simpa using h2,by simpa using h3,by simpa using h4,by simpa using h5,by simpa using h6,by simpa using h7⟩
 ·
  rintro ⟨h1,h2,h3,h4,h5,h6,h7⟩
  simp [h1,h2,h3,h4,h5,h6,h7]

section
variable {p:Pl}
theorem Valid.sound (h:Valid p):Sound p:=by
 have ho:=h.ord
 unfold orderedS at ho
 rw [Bool.and_eq_true,Bool.and_eq_true] at ho
 exact ⟨asc_pw _ ho.1.1,asc_pw _ ho.1.2,List.all_eq_true.1 h.ends⟩
theorem ptOk_near {q:Pt} (h:ptOk q=true):near1 q=true:=by
 simp only [ptOk,Bool.and_eq_true,decide_eq_true_eq] at h
 rw [near1_iff]
 omega
theorem Valid.near (h:Valid p) {q:Pt} (hq:q∈pointsS p):near1 q=true:=by
 have hr:=h.rng
 unfold rangesS at hr
 rw [Bool.and_eq_true] at hr
 exact ptOk_near (List.all_eq_true.1 hr.2 q hq)
theorem Valid.node_near (h:Valid p) {n:Nd} (hn:n∈p.nodes):near1 n.pt=true:=h.near (List.mem_append_left _ (List.mem_map_of_mem hn))
theorem Valid.via_near (h:Valid p) {a:Ar} (ha:a∈p.arcs) {q:Pt} (hq:q∈a.via):near1 q=true:=h.near (List.mem_append_right _ (List.mem_flatMap.2 ⟨a,ha,hq⟩))
theorem Sound.at_fr (hp:Sound p) {a:Ar} (ha:a∈p.arcs):∃ n∈p.nodes,n.id=a.fr∧nodeAt p a.fr=n.pt:=by
 obtain ⟨⟨n,hn,e⟩,-⟩:=hp.node_of ha
 exact ⟨n,hn,e,by rw [← e,hp.node_eq hn]⟩
theorem Sound.at_dst (hp:Sound p) {a:Ar} (ha:a∈p.arcs):∃ n∈p.nodes,n.id=a.dst∧nodeAt p a.dst=n.pt:=by
 obtain ⟨-,⟨n,hn,e⟩⟩:=hp.node_of ha
 exact ⟨n,hn,e,by rw [← e,hp.node_eq hn]⟩
theorem Valid.path_near (h:Valid p) {a:Ar} (ha:a∈p.arcs) {q:Pt} (hq:q∈pathS p a):near1 q=true:=by
 unfold pathS at hq
 rcases List.mem_cons.1 hq with rfl | hq
 ·
  obtain ⟨n,hn,-,e⟩:=h.sound.at_fr ha
  rw [e];exact h.node_near hn
 ·
  rcases List.mem_append.1 hq with hq | hq
  · exact h.via_near ha hq
  ·
   rw [List.mem_singleton] at hq
   subst hq
   obtain ⟨n,hn,-,e⟩:=h.sound.at_dst ha
   rw [e];exact h.node_near hn
end

theorem near4 {a b c d:Pt} (ha:near1 a=true) (hb:near1 b=true) (hc:near1 c=true) (hd:near1 d=true):nears [a,b,c,d]=true:=by simp [nears,ha,hb,hc,hd]
def segK (p:Pl) (a:Ar) (k:Nat):Sg:=⟨a,k,(pathS p a).length-1,(pathS p a).getD k pt0,(pathS p a).getD (k+1) pt0⟩
theorem segK_mem {p:Pl} {a:Ar} {k:Nat} (hk:k+1<(pathS p a).length):segK p a k∈segsOf a (pathS p a) :=
 List.mem_map.2 ⟨k,List.mem_range.2 (by omega),rfl⟩
theorem path_0 (p:Pl) (a:Ar):(pathS p a).getD 0 pt0=nodeAt p a.fr:=rfl
theorem path_mem (p:Pl) (a:Ar) (j:Nat) (hj:j<(pathS p a).length):(pathS p a).getD j pt0∈pathS p a:=by
 rw [List.getD_eq_getElem?_getD,List.getElem?_eq_getElem hj]
 exact List.getElem_mem hj

section
variable {p:Pl} (h:Valid p)
include h
theorem Valid.segs:(∀ a∈p.arcs,∀ k,k+1<(pathS p a).length→aloneS p (segK p a k)=true) ∧
  (∀ a∈p.arcs,∀ k m,k<m→m+1<(pathS p a).length→apartS (segK p a k) (segK p a m)=true) ∧
  p.arcs.Pairwise (fun a b=>∀ k,k+1<(pathS p a).length→∀ m,m+1<(pathS p b).length→joinedS p (segK p a k) (segK p b m)=true):=by
 have hp:=h.planar
 unfold planarR at hp
 rw [triB_iff] at hp
 obtain ⟨h1,h2⟩:=hp
 unfold segsS at h1 h2
 rw [List.pairwise_flatMap] at h2
 refine ⟨fun a ha k hk=>h1 _ (List.mem_flatMap.2 ⟨a,ha,segK_mem hk⟩),fun a ha k m hkm hm=>?_,?_⟩
 ·
  have h3:=h2.1 a ha
  unfold segsOf at h3
  rw [List.pairwise_map,List.pairwise_iff_getElem] at h3
  have h4:=h3 k m (by rw [List.length_range];omega) (by rw [List.length_range];omega) hkm
  simp only [List.getElem_range] at h4
  unfold pairR at h4
  rw [if_pos rfl] at h4
  exact h4
 ·
  have hs:=h.sound.arcs
  rw [List.pairwise_map] at hs
  refine (hs.and h2.2).imp ?_
  rintro a b ⟨hlt,h3⟩ k hk m hm
  have h4:=h3 _ (segK_mem hk) _ (segK_mem hm)
  unfold pairR at h4
  rw [if_neg (show ¬ (segK p a k).arc.id=(segK p b m).arc.id from fun e=>by have e':a.id=b.id:=e;omega)] at h4
  exact h4
theorem Valid.pt_near {a:Ar} (ha:a∈p.arcs) {k:Nat} (hk:k<(pathS p a).length):near1 ((pathS p a).getD k pt0)=true:=h.path_near ha (path_mem p a k hk)
theorem Valid.distinct {a:Ar} (ha:a∈p.arcs) {k:Nat} (hk:k+1<(pathS p a).length):(pathS p a).getD k pt0≠(pathS p a).getD (k+1) pt0∧(a.fr=a.dst→4≤(pathS p a).length):=by
 have h1:=h.segs.1 a ha k hk
 unfold aloneS soundS segK at h1
 simp only [Bool.and_eq_true,Bool.not_eq_true',decide_eq_false_iff_not,Bool.or_eq_true,bne_iff_ne,decide_eq_true_eq] at h1
 refine ⟨h1.2.1,fun e=>?_⟩
 rcases h1.2.2 with h2 | h2
 · exact absurd e h2
 · omega
end

end Go.Proofs.YtpempeioeiaijaaGreat
namespace Go.Proofs.YtpempeioeiaijaaGreat
open Go.RowKit

theorem dir_same {o a b:Pt} (ha:a≠o) (hb:b≠o) (h1:¬ dirLt o a b) (h2:¬ dirLt o b a):tw o a b=0∧(bef o a=true↔bef o b=true):=by
 have ha':=ne_vec.1 ha
 have hb':=ne_vec.1 hb
 unfold dirLt ltV at h1 h2
 have e:tw o a b=(a.x-o.x)*(b.y-o.y)-(a.y-o.y)*(b.x-o.x):=rfl
 rw [bef_iff,bef_iff,e]
 generalize hux:a.x-o.x=ux at *
 generalize huy:a.y-o.y=uy at *
 generalize hvx:b.x-o.x=vx at *
 generalize hvy:b.y-o.y=vy at *
 rw [Int.mul_comm vx,Int.mul_comm vy] at h2
 have hl:lowV ux uy↔lowV vx vy:=by
  by_cases l1:lowV ux uy<;>by_cases l2:lowV vx vy<;>simp [l1,l2] at h1 h2 ⊢
 have hz:ux*vy-uy*vx=0:=by
  rcases Int.lt_trichotomy (ux*vy-uy*vx) 0 with h | h | h
  · exact absurd (.inr ⟨hl.symm,by omega⟩) h2
  · exact h
  · exact absurd (.inr ⟨hl,h⟩) h1
 refine ⟨hz,?_⟩
 have m1:∀ {a b:Int},0<a→0<b→0<a*b:=Int.mul_pos
 have m2:∀ {a b:Int},0<a→b<0→a*b<0:=Int.mul_neg_of_pos_of_neg
 have m3:∀ {a b:Int},a<0→0<b→a*b<0:=Int.mul_neg_of_neg_of_pos
 have m4:∀ {a b:Int},a<0→b<0→0<a*b:=Int.mul_pos_of_neg_of_neg
 unfold lowV at hl
 have key:(0<ux↔0<vx)∧(ux<0↔vx<0):=by
  rcases Int.lt_trichotomy uy 0 with y1 | y1 | y1
  ·
   have y2:vy<0:=by
    rcases Int.lt_trichotomy vy 0 with y2 | y2 | y2
    · exact y2
    ·
     have h3:vx<0:=by omega
     have:=m4 y1 h3
     rw [y2,Int.mul_zero] at hz;omega
    · omega
   rcases Int.lt_trichotomy ux 0 with x1 | x1 | x1<;>rcases Int.lt_trichotomy vx 0 with x2 | x2 | x2
   · omega
   · have:=m4 x1 y2;rw [x2,Int.mul_zero] at hz;omega
   · have h3:=m4 x1 y2;have h4:=m3 y1 x2;omega
   · have:=m4 y1 x2;rw [x1,Int.zero_mul] at hz;omega
   · omega
   · have:=m3 y1 x2;rw [x1,Int.zero_mul] at hz;omega
   · have h3:=m2 x1 y2;have h4:=m4 y1 x2;omega
   · have:=m2 x1 y2;rw [x2,Int.mul_zero] at hz;omega
   · omega
  ·
   rw [y1,Int.zero_mul] at hz
   have hx:ux≠0:=by omega
   have y2:vy=0:=by
    rcases Int.mul_eq_zero.1 (show ux*vy=0 by omega) with h | h
    · exact absurd h hx
    · exact h
   omega
  ·
   have y2:0<vy:=by
    rcases Int.lt_trichotomy vy 0 with y2 | y2 | y2
    · omega
    ·
     have h3:0<vx:=by omega
     have:=m1 y1 h3
     rw [y2,Int.mul_zero] at hz;omega
    · exact y2
   rcases Int.lt_trichotomy ux 0 with x1 | x1 | x1<;>rcases Int.lt_trichotomy vx 0 with x2 | x2 | x2
   · omega
   · have:=m3 x1 y2;rw [x2,Int.mul_zero] at hz;omega
   · have h3:=m3 x1 y2;have h4:=m1 y1 x2;omega
   · have:=m2 y1 x2;rw [x1,Int.zero_mul] at hz;omega
   · omega
   · have:=m1 y1 x2;rw [x1,Int.zero_mul] at hz;omega
   · have h3:=m1 x1 y2;have h4:=m2 y1 x2;omega
   · have:=m1 x1 y2;rw [x2,Int.mul_zero] at hz;omega
   · omega
 omega
theorem shared_two {o a b:Pt} (ha:a≠o) (hb:b≠o) (h:bef o a=true↔bef o b=true):sharedS o a o b=2:=by
 have tri:∀ q:Pt,q≠o→bef o q=true∨bef q o=true:=fun q hq=>by
  cases h1:bef o q
  ·
   cases h2:bef q o
   · exact absurd (bef_tri h2 h1) hq
   · exact .inr rfl
  · exact .inl rfl
 rw [sharedS_def]
 rcases tri a ha with h1 | h1
 ·
  have h2:=h.1 h1
  have e1:lo o a=o:=by unfold lo;rw [bef_asym h1];simp
  have e2:lo o b=o:=by unfold lo;rw [bef_asym h2];simp
  have e3:hi o a=a:=by unfold hi;rw [bef_asym h1];simp
  have e4:hi o b=b:=by unfold hi;rw [bef_asym h2];simp
  have e5:hi o o=o:=by unfold hi;rw [bef_irr];simp
  rw [e1,e2,e3,e4,e5]
  have e6:lo a b=a∨lo a b=b:=by unfold lo;split;exact .inr rfl;exact .inl rfl
  rcases e6 with e6 | e6<;>rw [e6]
  · rw [if_neg (fun e=>ha e.symm),if_pos h1]
  · rw [if_neg (fun e=>hb e.symm),if_pos h2]
 ·
  have h2:bef b o=true:=by
   rcases tri b hb with h3 | h3
   · rw [bef_asym (h.2 h3)] at h1;cases h1
   · exact h3
  have e1:lo o a=a:=by unfold lo;rw [h1];simp
  have e2:lo o b=b:=by unfold lo;rw [h2];simp
  have e3:hi o a=o:=by unfold hi;rw [h1];simp
  have e4:hi o b=o:=by unfold hi;rw [h2];simp
  have e5:lo o o=o:=by unfold lo;rw [bef_irr];simp
  rw [e1,e2,e3,e4,e5]
  have e6:hi a b=a∨hi a b=b:=by unfold hi;split;exact .inl rfl;exact .inr rfl
  rcases e6 with e6 | e6<;>rw [e6]
  · rw [if_neg ha,if_pos h1]
  · rw [if_neg hb,if_pos h2]
theorem meet_dir {o a b:Pt} (ho:near1 o=true) (hna:near1 a=true) (hnb:near1 b=true) (ha:a≠o) (hb:b≠o) (h1:¬ dirLt o a b) (h2:¬ dirLt o b a) :
  rmeetS o a o b=2∧rmeetS a o o b=2∧rmeetS o a b o=2∧rmeetS a o b o=2:=by
 obtain ⟨hc,hbf⟩:=dir_same ha hb h1 h2
 have hs:=shared_two ha hb hbf
 have c1:sharedS a o o b=2:=by rw [← hs];exact sharedS_flip a o o b
 have c2:sharedS o a b o=2:=by rw [sharedS_comm,sharedS_flip,sharedS_comm];exact hs
 have c3:sharedS a o b o=2:=by rw [sharedS_comm,sharedS_flip,sharedS_comm];exact c1
 unfold tw at hc
 unfold rmeetS rmeetN
 refine ⟨?_,?_,?_,?_⟩
 · rw [if_pos (near4 ho hna ho hnb),if_neg (fun e=>ha e.1.symm),if_pos (by unfold crossS;grind),if_pos ⟨by unfold crossS;grind,by unfold crossS;grind,by unfold crossS;grind,by unfold crossS;grind⟩];exact hs
 · rw [if_pos (near4 hna ho ho hnb),if_neg (fun e=>ha e.1),if_pos (by unfold crossS;grind),if_pos ⟨by unfold crossS;grind,by unfold crossS;grind,by unfold crossS;grind,by unfold crossS;grind⟩];exact c1
 · rw [if_pos (near4 ho hna hnb ho),if_neg (fun e=>ha e.1.symm),if_pos (by unfold crossS;grind),if_pos ⟨by unfold crossS;grind,by unfold crossS;grind,by unfold crossS;grind,by unfold crossS;grind⟩];exact c2
 · rw [if_pos (near4 hna ho hnb ho),if_neg (fun e=>ha e.1),if_pos (by unfold crossS;grind),if_pos ⟨by unfold crossS;grind,by unfold crossS;grind,by unfold crossS;grind,by unfold crossS;grind⟩];exact c3
end Go.Proofs.YtpempeioeiaijaaGreat
namespace Go.Proofs.YtpempeioeiaijaaGreat

section
variable {α:Type}
theorem sorted_uniq {lt:α→α→Bool}:∀ {l m:List α},l.Perm m→l.Pairwise (fun a b=>lt b a=false)→m.Pairwise (fun a b=>lt b a=false)→(∀ a∈l,∀ b∈l,lt a b=false→lt b a=false→a=b)→l=m
 | [],m,hp,_,_,_=>(List.nil_perm.1 hp).symm
 | a::l,[],hp,_,_,_=>by have:=hp.length_eq;simp at this
 | a::l,b::m,hp,h1,h2,ht=>by
  have h1':=List.pairwise_cons.1 h1
  have h2':=List.pairwise_cons.1 h2
  have hab:a=b:=by
   have ha:a∈b::m:=hp.subset (List.mem_cons_self)
   have hb:b∈a::l:=hp.symm.subset (List.mem_cons_self)
   rcases List.mem_cons.1 ha with e | ha
   · exact e
   rcases List.mem_cons.1 hb with e | hb
   · exact e.symm
   exact ht a List.mem_cons_self b (List.mem_cons_of_mem _ hb) (h2'.1 a ha) (h1'.1 b hb)
  subst hab
  rw [sorted_uniq (List.Perm.cons_inv hp) h1'.2 h2'.2 (fun x hx y hy=>ht x (List.mem_cons_of_mem _ hx) y (List.mem_cons_of_mem _ hy))]
theorem nodup_le:∀ {l m:List Int},l.Nodup→(∀ x∈l,x∈m)→l.length≤m.length
 | [],m,_,_=>Nat.zero_le _
 | a::l,m,h,hs=>by
  have h':=List.nodup_cons.1 h
  have ha:=hs a List.mem_cons_self
  have:=nodup_le (m:=m.erase a) h'.2 (fun x hx=>(List.mem_erase_of_ne (fun e=>h'.1 (by rw [← e];exact hx))).2 (hs x (List.mem_cons_of_mem _ hx)))
  rw [List.length_erase_of_mem ha] at this
  have hp:0<m.length:=List.length_pos_of_mem ha
  simp only [List.length_cons]
  omega
def iter (f:Int→Int) (x:Int):Nat→List Int
 | 0=>[]
 | n+1=>x::iter f (f x) n
def pw (f:Int→Int) (x:Int):Nat→Int
 | 0=>x
 | n+1=>f (pw f x n)
theorem pw_succ (f:Int→Int) (x:Int) (n:Nat):pw f (f x) n=pw f x (n+1):=by
 induction n with
 | zero=>rfl
 | succ n ih=>rw [pw,ih];rfl
theorem iter_len (f:Int→Int) (x:Int) (n:Nat):(iter f x n).length=n:=by
 induction n generalizing x with
 | zero=>rfl
 | succ n ih=>simp [iter,ih]
theorem iter_get (f:Int→Int) (x:Int) (n k:Nat) (hk:k<(iter f x n).length):(iter f x n)[k]=pw f x k:=by
 induction n generalizing x k with
 | zero=>simp [iter] at hk
 | succ n ih =>
  cases k with
  | zero=>rfl
  | succ k =>
   simp only [iter,List.getElem_cons_succ]
   rw [ih (f x) k (by simpa [iter] using hk),pw_succ]
theorem iter_snoc (f:Int→Int) (x:Int) (n:Nat):iter f x (n+1)=iter f x n++[pw f x n]:=by
 induction n generalizing x with
 | zero=>rfl
 | succ n ih =>
  rw [iter,ih (f x),pw_succ];rfl
variable {f:Int→Int} {D:List Int} (hD:∀ x∈D,f x∈D) (hi:∀ x∈D,∀ y∈D,f x=f y→x=y)
include hD in
theorem pw_mem {x:Int} (hx:x∈D) (n:Nat):pw f x n∈D:=by
 induction n with
 | zero=>exact hx
 | succ n ih=>exact hD _ ih
include hD hi in
theorem pw_back {x:Int} (hx:x∈D) {i j:Nat} (h:pw f x i=pw f x (i+j)):pw f x j=x:=by
 induction i with
 | zero=>rw [Nat.zero_add] at h;exact h.symm
 | succ i ih =>
  refine ih (hi _ (pw_mem hD hx i) _ (pw_mem hD hx (i+j)) ?_)
  rw [show i+1+j=(i+j)+1 by omega] at h
  exact h
theorem iter_nodup_or (f:Int→Int) (x:Int) (n:Nat):(iter f x n).Nodup∨∃ i j,0<j∧i+j<n∧pw f x i=pw f x (i+j):=by
 induction n with
 | zero=>exact .inl List.nodup_nil
 | succ n ih =>
  rcases ih with h | ⟨i,j,h1,h2,h3⟩
  ·
   by_cases hm:pw f x n∈iter f x n
   ·
    right
    obtain ⟨k,hk,e⟩:=List.mem_iff_getElem.1 hm
    rw [iter_get] at e
    rw [iter_len] at hk
    exact ⟨k,n-k,by omega,by omega,by rw [e,show k+(n-k)=n by omega]⟩
   ·
    left
    rw [iter_snoc,List.nodup_append]
    refine ⟨h,by simp,fun a ha b hb=>?_⟩
    rw [List.mem_singleton] at hb
    subst hb
    exact fun e=>hm (e ▸ ha)
  · exact .inr ⟨i,j,h1,by omega,h3⟩
include hD hi in
theorem returns {x:Int} (hx:x∈D):∃ j,0<j∧j≤D.length∧pw f x j=x:=by
 rcases iter_nodup_or f x (D.length+1) with h | ⟨i,j,h1,h2,h3⟩
 ·
  have:=nodup_le h (fun y hy=>by
   obtain ⟨k,hk,rfl⟩:=List.mem_iff_getElem.1 hy
   rw [iter_get];exact pw_mem hD hx k)
  rw [iter_len] at this
  omega
 · exact ⟨j,h1,by omega,pw_back hD hi hx h3⟩
def per (f:Int→Int) (x:Int):Nat→Nat→Nat
 | k,0=>k
 | k,n+1=>if pw f x k=x then k else per f x (k+1) n
theorem per_first (f:Int→Int) (x:Int) (k n:Nat):k≤per f x k n∧∀ j,k≤j→j<per f x k n→pw f x j≠x:=by
 induction n generalizing k with
 | zero=>exact ⟨Nat.le_refl _,fun j h1 h2=>by simp only [per] at h2;omega⟩
 | succ n ih =>
  unfold per
  split
  · exact ⟨Nat.le_refl _,fun j h1 h2=>by omega⟩
  ·
   rename_i hne
   obtain ⟨h1,h2⟩:=ih (k+1)
   refine ⟨by omega,fun j hj hj2=>?_⟩
   by_cases e:j=k
   · subst e;exact hne
   · exact h2 j (by omega) hj2
theorem per_hit (f:Int→Int) (x:Int) (k n:Nat) (h:∃ j,k≤j∧j≤k+n∧pw f x j=x):pw f x (per f x k n)=x∧per f x k n≤k+n:=by
 induction n generalizing k with
 | zero =>
  obtain ⟨j,h1,h2,h3⟩:=h
  have:j=k:=by omega
  subst this
  exact ⟨h3,Nat.le_refl _⟩
 | succ n ih =>
  unfold per
  split
  · rename_i e;exact ⟨e,by omega⟩
  ·
   rename_i hne
   obtain ⟨j,h1,h2,h3⟩:=h
   have:=ih (k+1) ⟨j,by
    by_cases e:j=k
    · subst e;exact absurd h3 hne
    · omega,by omega,h3⟩
   exact ⟨this.1,by omega⟩
def orbN (f:Int→Int) (D:List Int) (x:Int):Nat:=per f x 1 D.length
def orb (f:Int→Int) (D:List Int) (x:Int):List Int:=iter f x (orbN f D x)
include hD hi in
theorem orb_facts {x:Int} (hx:x∈D):0<orbN f D x∧orbN f D x≤D.length+1∧pw f x (orbN f D x)=x∧(∀ j,0<j→j<orbN f D x→pw f x j≠x)∧(orb f D x).Nodup∧(orb f D x).length=orbN f D x:=by
 obtain ⟨j,h1,h2,h3⟩:=returns hD hi hx
 obtain ⟨a1,a2⟩:=per_first f x 1 D.length
 obtain ⟨b1,b2⟩:=per_hit f x 1 D.length ⟨j,h1,by omega,h3⟩
 refine ⟨a1,by show per f x 1 D.length≤_;omega,b1,fun j h1 h2=>a2 j h1 h2,?_,iter_len _ _ _⟩
 rcases iter_nodup_or f x (orbN f D x) with h | ⟨i,j,c1,c2,c3⟩
 · exact h
 · exact absurd (pw_back hD hi hx c3) (a2 j c1 (by unfold orbN at c2;omega))
theorem mem_iter {f:Int→Int} {x y:Int} {n:Nat}:y∈iter f x n↔∃ k,k<n∧pw f x k=y:=by
 rw [List.mem_iff_getElem]
 constructor
 ·
  rintro ⟨k,hk,e⟩
  rw [iter_get] at e
  rw [iter_len] at hk
  exact ⟨k,hk,e⟩
 ·
  rintro ⟨k,hk,e⟩
  exact ⟨k,by rw [iter_len];exact hk,by rw [iter_get];exact e⟩
include hD hi in
theorem orb_closed {x y:Int} (hx:x∈D):y∈D→(f y∈orb f D x↔y∈orb f D x):=by
 intro hy
 obtain ⟨h1,-,h3,-,-,-⟩:=orb_facts hD hi hx
 unfold orb
 rw [mem_iter,mem_iter]
 constructor
 ·
  rintro ⟨k,hk,e⟩
  cases k with
  | zero =>
   refine ⟨orbN f D x-1,by omega,hi _ (pw_mem hD hx _) _ hy ?_⟩
   have:pw f x (orbN f D x-1+1)=x:=by rw [Nat.sub_add_cancel h1];exact h3
   rw [pw] at this
   rw [this];exact e
  | succ k=>exact ⟨k,by omega,hi _ (pw_mem hD hx _) _ hy e⟩
 ·
  rintro ⟨k,hk,rfl⟩
  by_cases e:k+1=orbN f D x
  ·
   refine ⟨0,h1,?_⟩
   have h4:pw f x (k+1)=x:=by rw [e];exact h3
   exact h4.symm
  · exact ⟨k+1,by omega,rfl⟩
end
section
def cycStep (f:Int→Int) (D:List Int) (acc:List (List Int)) (d:Int):List (List Int):=if d∈acc.flatten then acc else acc++[orb f D d]
def cycL (f:Int→Int) (D L:List Int):List (List Int):=L.foldl (cycStep f D) []
variable {f:Int→Int} {D:List Int}
theorem head_orb {x:Int} (h:0<orbN f D x):x∈orb f D x:=mem_iter.2 ⟨0,h,rfl⟩
theorem orb_mem (hD:∀ x∈D,f x∈D) {x y:Int} (hx:x∈D) (hy:y∈orb f D x):y∈D:=by
 obtain ⟨k,-,rfl⟩:=mem_iter.1 hy
 exact pw_mem hD hx k
structure Cyc (f:Int→Int) (D P:List Int) (acc:List (List Int)):Prop where
 orbs:∀ l∈acc,∃ d∈P,l=orb f D d∧∀ e∈l,e∈P→d≤e
 covers:∀ x∈P,x∈acc.flatten
 nodup:acc.flatten.Nodup
 closed:∀ y∈D,f y∈acc.flatten↔y∈acc.flatten
theorem Cyc.back {P:List Int} {acc:List (List Int)} (h:Cyc f D P acc) (hD:∀ x∈D,f x∈D) {x:Int} (hx:x∈D) (k:Nat):pw f x k∈acc.flatten↔x∈acc.flatten:=by
 induction k with
 | zero=>exact Iff.rfl
 | succ k ih=>exact (h.closed _ (pw_mem hD hx k)).trans ih
theorem Cyc.nil (f:Int→Int) (D:List Int):Cyc f D [] []:=⟨fun l h=>(by cases h),fun x h=>(by cases h),List.nodup_nil,fun y _=>⟨fun h=>(by cases h),fun h=>(by cases h)⟩⟩
theorem Cyc.apart {P:List Int} {acc:List (List Int)} (h:Cyc f D P acc) (hD:∀ x∈D,f x∈D) {d:Int} (hd:d∈D) (hm:d∉acc.flatten) {y:Int} (hy:y∈orb f D d):y∉acc.flatten:=by
 obtain ⟨k,-,rfl⟩:=mem_iter.1 hy
 exact fun e=>hm ((h.back hD hd k).1 e)
theorem Cyc.step {P:List Int} {acc:List (List Int)} (h:Cyc f D P acc) (hD:∀ x∈D,f x∈D) (hi:∀ x∈D,∀ y∈D,f x=f y→x=y) {d:Int} (hd:d∈D) (hlt:∀ x∈P,x<d):Cyc f D (P++[d]) (cycStep f D acc d):=by
 unfold cycStep
 by_cases hm:d∈acc.flatten
 ·
  rw [if_pos hm]
  refine ⟨fun l hl=>?_,fun x hx=>?_,h.nodup,h.closed⟩
  ·
   obtain ⟨d',h1,h2,h3⟩:=h.orbs l hl
   refine ⟨d',List.mem_append_left _ h1,h2,fun e he hp=>?_⟩
   rcases List.mem_append.1 hp with hp | hp
   · exact h3 e he hp
   · rw [List.mem_singleton] at hp;subst hp;exact Int.le_of_lt (hlt _ h1)
  ·
   rcases List.mem_append.1 hx with hx | hx
   · exact h.covers x hx
   · rw [List.mem_singleton] at hx;subst hx;exact hm
 ·
  rw [if_neg hm]
  obtain ⟨o1,-,-,-,o5,-⟩:=orb_facts hD hi hd
  have hfl:(acc++[orb f D d]).flatten=acc.flatten++orb f D d:=by simp
  refine ⟨fun l hl=>?_,fun x hx=>?_,?_,fun y hy=>?_⟩
  ·
   rcases List.mem_append.1 hl with hl | hl
   ·
    obtain ⟨d',h1,h2,h3⟩:=h.orbs l hl
    refine ⟨d',List.mem_append_left _ h1,h2,fun e he hp=>?_⟩
    rcases List.mem_append.1 hp with hp | hp
    · exact h3 e he hp
    · rw [List.mem_singleton] at hp;subst hp;exact Int.le_of_lt (hlt _ h1)
   ·
    rw [List.mem_singleton] at hl
    refine ⟨d,List.mem_append_right _ (List.mem_singleton.2 rfl),hl,fun e he hp=>?_⟩
    subst hl
    rcases List.mem_append.1 hp with hp | hp
    · exact absurd (h.covers e hp) (h.apart hD hd hm he)
    · rw [List.mem_singleton] at hp;exact Int.le_of_eq hp.symm
  ·
   rw [hfl]
   rcases List.mem_append.1 hx with hx | hx
   · exact List.mem_append_left _ (h.covers x hx)
   · rw [List.mem_singleton] at hx;subst hx;exact List.mem_append_right _ (head_orb o1)
  ·
   rw [hfl,List.nodup_append]
   exact ⟨h.nodup,o5,fun a ha b hb e=>h.apart hD hd hm hb (e ▸ ha)⟩
  · rw [hfl,List.mem_append,List.mem_append,h.closed y hy,orb_closed hD hi hd hy]
theorem cyc_fold (hD:∀ x∈D,f x∈D) (hi:∀ x∈D,∀ y∈D,f x=f y→x=y):∀ (L P:List Int) (acc:List (List Int)),Cyc f D P acc→(∀ x∈L,x∈D)→(P++L).Pairwise (· < ·)→Cyc f D (P++L) (L.foldl (cycStep f D) acc)
 | [],P,acc,h,_,_=>by rw [List.append_nil];exact h
 | d::L,P,acc,h,hs,hp=>by
  have hp':=List.pairwise_append.1 hp
  have:=cyc_fold hD hi L (P++[d]) _ (h.step hD hi (hs d List.mem_cons_self) (fun x hx=>hp'.2.2 x hx d List.mem_cons_self)) (fun x hx=>hs x (List.mem_cons_of_mem _ hx)) (by rw [List.append_assoc];exact hp)
  rw [List.append_assoc] at this
  exact this
theorem cyc_all (hD:∀ x∈D,f x∈D) (hi:∀ x∈D,∀ y∈D,f x=f y→x=y) (hs:D.Pairwise (· < ·)):Cyc f D D (cycL f D D):=by
 have:=cyc_fold hD hi D [] [] (Cyc.nil f D) (fun x hx=>hx) hs
 exact this
theorem Cyc.perm {acc:List (List Int)} (h:Cyc f D D acc) (hD:∀ x∈D,f x∈D) (hs:D.Nodup):acc.flatten.Perm D:=by
 refine (List.perm_ext_iff_of_nodup h.nodup hs).2 fun x=>⟨fun hx=>?_,h.covers x⟩
 obtain ⟨l,hl,hx⟩:=List.mem_flatten.1 hx
 obtain ⟨d,h1,h2,-⟩:=h.orbs l hl
 subst h2
 exact orb_mem hD h1 hx
end
end Go.Proofs.YtpempeioeiaijaaGreat
namespace Go.Proofs.YtpempeioeiaijaaGreat
open Go.RowKit

def absI (d:Int):Int:=if d<0 then -d else d
def minI:Int:=-9223372036854775808
def arcD (p:Pl) (d:Int):Option Ar:=if d=0∨d=minI then none else findAr p.arcs (absI d)
def startD (p:Pl) (d:Int):Int:=match arcD p d with
 | none=>0
 | some a=>if 0<d then a.fr else a.dst
def dartL (l:List Ar) (n:Int):List Int:=l.flatMap fun a=>(if a.fr=n then [a.id] else [])++(if a.dst=n then [-a.id] else [])
def toD (p:Pl) (d:Int):Pt:=match findAr p.arcs (absI d) with
 | none=>pt0
 | some a=>if 0<d then (pathS p a).getD 1 pt0 else (pathS p a).getD a.via.length pt0
def dartsD (p:Pl):List Int:=(p.arcs.map (fun a=>-a.id)).reverse++p.arcs.map (·.id)

section
variable {p:Pl} (h:Valid p)
include h
theorem Valid.id_pos {a:Ar} (ha:a∈p.arcs):1≤a.id∧a.id≤1073741824:=by
 have hr:=h.rng
 unfold rangesS at hr
 rw [Bool.and_eq_true] at hr
 have h1:=hr.1
 rw [Bool.not_eq_true',List.any_eq_false] at h1
 have:=h1 a.id (List.mem_append_left _ (List.mem_append_right _ (List.mem_map_of_mem ha)))
 unfold idBad at this
 simp only [Bool.or_eq_true,decide_eq_true_eq,not_or] at this
 omega
theorem Valid.find {a:Ar} (ha:a∈p.arcs):findAr p.arcs a.id=some a:=find_uniq (fun x:Ar=>x.id) p.arcs h.sound.arcs a ha
theorem Valid.arcD_pos {a:Ar} (ha:a∈p.arcs):arcD p a.id=some a:=by
 have:=h.id_pos ha
 unfold arcD absI minI
 rw [if_neg (by omega),if_neg (by omega),h.find ha]
theorem Valid.arcD_neg {a:Ar} (ha:a∈p.arcs):arcD p (-a.id)=some a:=by
 have:=h.id_pos ha
 unfold arcD absI minI
 rw [if_neg (by omega),if_pos (by omega),Int.neg_neg,h.find ha]
theorem Valid.start_pos {a:Ar} (ha:a∈p.arcs):startD p a.id=a.fr:=by
 have:=h.id_pos ha
 unfold startD
 rw [h.arcD_pos ha]
 show (if 0<a.id then a.fr else a.dst)=a.fr
 rw [if_pos (by omega)]
theorem Valid.start_neg {a:Ar} (ha:a∈p.arcs):startD p (-a.id)=a.dst:=by
 have:=h.id_pos ha
 unfold startD
 rw [h.arcD_neg ha]
 show (if 0 < -a.id then a.fr else a.dst)=a.dst
 rw [if_neg (by omega)]
theorem Valid.to_pos {a:Ar} (ha:a∈p.arcs):toD p a.id=(pathS p a).getD 1 pt0:=by
 have:=h.id_pos ha
 unfold toD absI
 rw [if_neg (by omega),h.find ha]
 show (if 0<a.id then _ else _)=_
 rw [if_pos (by omega)]
theorem Valid.to_neg {a:Ar} (ha:a∈p.arcs):toD p (-a.id)=(pathS p a).getD a.via.length pt0:=by
 have:=h.id_pos ha
 unfold toD absI
 rw [if_pos (by omega),Int.neg_neg,h.find ha]
 show (if 0 < -a.id then _ else _)=_
 rw [if_neg (by omega)]
end
theorem mem_dartL {l:List Ar} {n d:Int}:d∈dartL l n↔∃ a∈l,(d=a.id∧a.fr=n)∨(d=-a.id∧a.dst=n):=by
 unfold dartL
 rw [List.mem_flatMap]
 refine exists_congr fun a=>and_congr_right fun _=>?_
 rw [List.mem_append]
 constructor
 ·
  rintro (h | h)
  ·
   split at h
   · rw [List.mem_singleton] at h;exact .inl ⟨h,by assumption⟩
   · cases h
  ·
   split at h
   · rw [List.mem_singleton] at h;exact .inr ⟨h,by assumption⟩
   · cases h
 ·
  rintro (⟨h1,h2⟩ | ⟨h1,h2⟩)
  · left;rw [if_pos h2,h1];exact List.mem_singleton.2 rfl
  · right;rw [if_pos h2,h1];exact List.mem_singleton.2 rfl
theorem mem_dartsD {p:Pl} {d:Int}:d∈dartsD p↔∃ a∈p.arcs,d=a.id∨d=-a.id:=by
 unfold dartsD
 rw [List.mem_append,List.mem_reverse,List.mem_map,List.mem_map]
 constructor
 ·
  rintro (⟨a,ha,rfl⟩ | ⟨a,ha,rfl⟩)
  · exact ⟨a,ha,.inr rfl⟩
  · exact ⟨a,ha,.inl rfl⟩
 ·
  rintro ⟨a,ha,rfl | rfl⟩
  · exact .inr ⟨a,ha,rfl⟩
  · exact .inl ⟨a,ha,rfl⟩
section
variable {p:Pl} (h:Valid p)
include h
theorem Valid.dart_seg {n:Nd} (hn:n∈p.nodes) {d:Int} (hd:d∈dartL p.arcs n.id):∃ a∈p.arcs,∃ k,k+1<(pathS p a).length ∧
  ((d=a.id∧k=0∧a.fr=n.id∧(pathS p a).getD k pt0=n.pt∧(pathS p a).getD (k+1) pt0=toD p d)∨(d=-a.id∧k=a.via.length∧a.dst=n.id∧(pathS p a).getD (k+1) pt0=n.pt∧(pathS p a).getD k pt0=toD p d)):=by
 obtain ⟨a,ha,h1⟩:=mem_dartL.1 hd
 have hl:=pathS_length p a
 rcases h1 with ⟨rfl,h2⟩ | ⟨rfl,h2⟩
 ·
  refine ⟨a,ha,0,by omega,.inl ⟨rfl,rfl,h2,?_,(h.to_pos ha).symm⟩⟩
  rw [path_0,h2];exact h.sound.node_eq hn
 ·
  refine ⟨a,ha,a.via.length,by omega,.inr ⟨rfl,rfl,h2,?_,(h.to_neg ha).symm⟩⟩
  have:(pathS p a).getD (a.via.length+1) pt0=nodeAt p a.dst:=by
   unfold pathS
   rw [List.getD_cons_succ,List.getD_eq_getElem?_getD,List.getElem?_append_right (by omega)]
   simp
  rw [this,h2];exact h.sound.node_eq hn
theorem Valid.to_facts {n:Nd} (hn:n∈p.nodes) {d:Int} (hd:d∈dartL p.arcs n.id):near1 n.pt=true∧near1 (toD p d)=true∧toD p d≠n.pt:=by
 obtain ⟨a,ha,k,hk,h1⟩:=h.dart_seg hn hd
 have n1:=h.pt_near ha (k:=k) (by omega)
 have n2:=h.pt_near ha (k:=k+1) hk
 have hne:=(h.distinct ha hk).1
 rcases h1 with ⟨-,-,-,e1,e2⟩ | ⟨-,-,-,e1,e2⟩
 · rw [e1] at n1 hne;rw [e2] at n2 hne;exact ⟨n1,n2,hne.symm⟩
 · rw [e1] at n2 hne;rw [e2] at n1 hne;exact ⟨n2,n1,hne⟩
theorem Valid.dirs {n:Nd} (hn:n∈p.nodes) {d1 d2:Int} (h1:d1∈dartL p.arcs n.id) (h2:d2∈dartL p.arcs n.id) (hne:d1≠d2):dirLt n.pt (toD p d1) (toD p d2)∨dirLt n.pt (toD p d2) (toD p d1):=by
 by_cases c1:dirLt n.pt (toD p d1) (toD p d2)
 · exact .inl c1
 by_cases c2:dirLt n.pt (toD p d2) (toD p d1)
 · exact .inr c2
 exfalso
 have key:∀ {e1 e2:Int},e1∈dartL p.arcs n.id→e2∈dartL p.arcs n.id→¬ dirLt n.pt (toD p e1) (toD p e2)→¬ dirLt n.pt (toD p e2) (toD p e1)→∀ {a b:Ar} {k m:Nat},
   ((pathS p a).getD k pt0=n.pt∧(pathS p a).getD (k+1) pt0=toD p e1∨(pathS p a).getD (k+1) pt0=n.pt∧(pathS p a).getD k pt0=toD p e1) →
   ((pathS p b).getD m pt0=n.pt∧(pathS p b).getD (m+1) pt0=toD p e2∨(pathS p b).getD (m+1) pt0=n.pt∧(pathS p b).getD m pt0=toD p e2) →
   rmeetS (segK p a k).a (segK p a k).b (segK p b m).a (segK p b m).b=2:=by
  intro e1 e2 m1 m2 q1 q2 a b k m s1 s2
  obtain ⟨n0,n1,x1⟩:=h.to_facts hn m1
  obtain ⟨-,n2,x2⟩:=h.to_facts hn m2
  obtain ⟨r1,r2,r3,r4⟩:=meet_dir n0 n1 n2 x1 x2 q1 q2
  unfold segK
  rcases s1 with ⟨u1,u2⟩ | ⟨u1,u2⟩<;>rcases s2 with ⟨v1,v2⟩ | ⟨v1,v2⟩<;>simp only [u1,u2,v1,v2]
  · exact r1
  · exact r3
  · exact r2
  · exact r4
 obtain ⟨a,ha,k,hk,s1⟩:=h.dart_seg hn h1
 obtain ⟨b,hb,m,hm,s2⟩:=h.dart_seg hn h2
 have t1:(pathS p a).getD k pt0=n.pt∧(pathS p a).getD (k+1) pt0=toD p d1∨(pathS p a).getD (k+1) pt0=n.pt∧(pathS p a).getD k pt0=toD p d1:=by
  rcases s1 with ⟨-,-,-,e1,e2⟩ | ⟨-,-,-,e1,e2⟩
  · exact .inl ⟨e1,e2⟩
  · exact .inr ⟨e1,e2⟩
 have t2:(pathS p b).getD m pt0=n.pt∧(pathS p b).getD (m+1) pt0=toD p d2∨(pathS p b).getD (m+1) pt0=n.pt∧(pathS p b).getD m pt0=toD p d2:=by
  rcases s2 with ⟨-,-,-,e1,e2⟩ | ⟨-,-,-,e1,e2⟩
  · exact .inl ⟨e1,e2⟩
  · exact .inr ⟨e1,e2⟩
 have r12:=key h1 h2 c1 c2 t1 t2
 have r21:=key h2 h1 c2 c1 t2 t1
 by_cases hab:a=b
 ·
  subst hab
  have hl:=pathS_length p a
  have same:∀ {d3 d4:Int} {i j:Nat},d3≠d4→((d3=a.id∧i=0∧a.fr=n.id)∨(d3=-a.id∧i=a.via.length∧a.dst=n.id))→((d4=a.id∧j=0∧a.fr=n.id)∨(d4=-a.id∧j=a.via.length∧a.dst=n.id))→rmeetS (segK p a i).a (segK p a i).b (segK p a j).a (segK p a j).b=2→i<j→False:=by
   intro d3 d4 i j hne z1 z2 z3 z4
   rcases z1 with ⟨y1,y2,y3⟩ | ⟨y1,y2,y3⟩
   ·
    rcases z2 with ⟨x1,x2,x3⟩ | ⟨x1,x2,x3⟩
    · omega
    ·
     have h4:=(h.distinct ha (k:=i) (by omega)).2 (y3.trans x3.symm)
     have hap:=h.segs.2.1 a ha i j z4 (by omega)
     unfold apartS at hap
     rw [z3] at hap
     split at hap
     · simp at hap
     · simp at hap
   ·
    rcases z2 with ⟨x1,x2,x3⟩ | ⟨x1,x2,x3⟩
    · omega
    · omega
  have q1:(d1=a.id∧k=0∧a.fr=n.id)∨(d1=-a.id∧k=a.via.length∧a.dst=n.id):=by
   rcases s1 with ⟨y1,y2,y3,-⟩ | ⟨y1,y2,y3,-⟩
   · exact .inl ⟨y1,y2,y3⟩
   · exact .inr ⟨y1,y2,y3⟩
  have q2:(d2=a.id∧m=0∧a.fr=n.id)∨(d2=-a.id∧m=a.via.length∧a.dst=n.id):=by
   rcases s2 with ⟨y1,y2,y3,-⟩ | ⟨y1,y2,y3,-⟩
   · exact .inl ⟨y1,y2,y3⟩
   · exact .inr ⟨y1,y2,y3⟩
  rcases Nat.lt_trichotomy k m with hkm | hkm | hkm
  · exact same hne q1 q2 r12 hkm
  ·
   subst hkm
   have hd4:=h.distinct ha hk
   rcases q1 with ⟨y1,y2,y3⟩ | ⟨y1,y2,y3⟩
   ·
    rcases q2 with ⟨x1,x2,x3⟩ | ⟨x1,x2,x3⟩
    · exact hne (y1.trans x1.symm)
    · have:=hd4.2 (y3.trans x3.symm);omega
   ·
    rcases q2 with ⟨x1,x2,x3⟩ | ⟨x1,x2,x3⟩
    · have:=hd4.2 (x3.trans y3.symm);omega
    · exact hne (y1.trans x1.symm)
  · exact same (fun e=>hne e.symm) q2 q1 r21 hkm
 ·
  have hp:=h.segs.2.2
  obtain ⟨i,hi,rfl⟩:=List.mem_iff_getElem.1 ha
  obtain ⟨j,hj,rfl⟩:=List.mem_iff_getElem.1 hb
  rw [List.pairwise_iff_getElem] at hp
  have no2:∀ {s t:Sg},joinedS p s t=true→rmeetS s.a s.b t.a t.b=2→False:=by
   intro s t hj2 h2
   unfold joinedS at hj2
   rw [h2] at hj2
   simp at hj2
  rcases Nat.lt_trichotomy i j with hij | hij | hij
  · exact no2 (hp i j hi hj hij k hk m hm) r12
  · subst hij;exact hab rfl
  · exact no2 (hp j i hj hi hij m hm k hk) r21
end
end Go.Proofs.YtpempeioeiaijaaGreat
namespace Go.Proofs.YtpempeioeiaijaaGreat
open Go.RowKit

def insB (lt:Int→Int→Bool) (l:List Int) (c:Int):List Int:=l.takeWhile (fun x=>!lt c x)++c::l.dropWhile (fun x=>!lt c x)
def sortB (lt:Int→Int→Bool) (l:List Int):List Int:=l.foldl (insB lt) []
theorem insB_perm (lt:Int→Int→Bool) (l:List Int) (c:Int):(insB lt l c).Perm (c::l):=by
 unfold insB
 refine List.perm_middle.trans ?_
 rw [List.takeWhile_append_dropWhile]
structure OrdOn (lt:Int→Int→Bool) (D:List Int):Prop where
 asym:∀ x∈D,∀ y∈D,lt x y=true→lt y x=false
 ntr:∀ x∈D,∀ y∈D,∀ z∈D,lt x y=false→lt y z=false→lt x z=false
 tri:∀ x∈D,∀ y∈D,lt x y=false→lt y x=false→x=y
theorem insB_sorted {lt:Int→Int→Bool} {D:List Int} (ho:OrdOn lt D) {l:List Int} (h:l.Pairwise (fun a b=>lt b a=false)) (hl:∀ x∈l,x∈D) {c:Int} (hc:c∈D):(insB lt l c).Pairwise (fun a b=>lt b a=false):=by
 induction l with
 | nil=>simp [insB]
 | cons a l ih =>
  have h':=List.pairwise_cons.1 h
  have ha:=hl a List.mem_cons_self
  unfold insB
  cases hca:lt c a
  ·
   have e1:(a::l).takeWhile (fun x=>!lt c x)=a::l.takeWhile (fun x=>!lt c x):=by rw [List.takeWhile_cons];simp [hca]
   have e2:(a::l).dropWhile (fun x=>!lt c x)=l.dropWhile (fun x=>!lt c x):=by rw [List.dropWhile_cons];simp [hca]
   rw [e1,e2]
   show List.Pairwise _ (a::insB lt l c)
   refine List.pairwise_cons.2 ⟨fun x hx=>?_,ih h'.2 (fun x hx=>hl x (List.mem_cons_of_mem _ hx))⟩
   rcases List.mem_cons.1 ((insB_perm lt l c).subset hx) with rfl | hx
   · exact hca
   · exact h'.1 x hx
  ·
   have e1:(a::l).takeWhile (fun x=>!lt c x)=[]:=by rw [List.takeWhile_cons];simp [hca]
   have e2:(a::l).dropWhile (fun x=>!lt c x)=a::l:=by rw [List.dropWhile_cons];simp [hca]
   rw [e1,e2,List.nil_append]
   refine List.pairwise_cons.2 ⟨fun x hx=>?_,h⟩
   have h1:=ho.asym c hc a ha hca
   rcases List.mem_cons.1 hx with rfl | hx'
   · exact h1
   · exact ho.ntr x (hl x hx) a ha c hc (h'.1 x hx') h1
theorem sortB_fold {lt:Int→Int→Bool} {D:List Int} (ho:OrdOn lt D):∀ (l acc:List Int),acc.Pairwise (fun a b=>lt b a=false)→(∀ x∈l,x∈D)→(∀ x∈acc,x∈D)→(l.foldl (insB lt) acc).Perm (acc++l)∧(l.foldl (insB lt) acc).Pairwise (fun a b=>lt b a=false)
 | [],acc,h,_,_=>by simpa using h
 | c::l,acc,h,hl,ha=>by
  have hc:=hl c List.mem_cons_self
  have:=sortB_fold ho l (insB lt acc c) (insB_sorted ho h ha hc) (fun x hx=>hl x (List.mem_cons_of_mem _ hx)) (fun x hx=>by
   rcases List.mem_cons.1 ((insB_perm lt acc c).subset hx) with rfl | hx
   · exact hc
   · exact ha x hx)
  refine ⟨this.1.trans ?_,this.2⟩
  refine ((insB_perm lt acc c).append_right l).trans ?_
  rw [List.cons_append]
  exact List.perm_middle.symm
theorem sortB_facts {lt:Int→Int→Bool} {D:List Int} (ho:OrdOn lt D):(sortB lt D).Perm D∧(sortB lt D).Pairwise (fun a b=>lt b a=false):=by
 have:=sortB_fold ho D [] List.Pairwise.nil (fun x hx=>hx) (fun x hx=>by cases hx)
 simpa [sortB] using this
theorem sortB_of {lt:Int→Int→Bool} {D m:List Int} (ho:OrdOn lt D) (hp:m.Perm D) (hs:m.Pairwise (fun a b=>lt b a=false)):m=sortB lt D:=by
 obtain ⟨h1,h2⟩:=sortB_facts ho
 exact sorted_uniq (hp.trans h1.symm) hs h2 (fun a ha b hb=>ho.tri a (hp.subset ha) b (hp.subset hb))

def ltD (p:Pl) (o:Pt) (d e:Int):Bool:=lessS o (toD p d) (toD p e)
def aroundD (p:Pl) (n:Int):List Int:=match findNd p.nodes n with
 | none=>[]
 | some x=>sortB (ltD p x.pt) (dartL p.arcs n)
def precD (l:List Int) (d:Int):Int:=match l.findIdx? (fun x=>x == d) with
 | none=>0
 | some i=>l.getD ((i+l.length-1) % l.length) 0
def nextD (p:Pl) (d:Int):Int:=if (arcD p d).isSome then precD (aroundD p (startD p (-d))) (-d) else 0
def cyclesD (p:Pl):List (List Int):=cycL (nextD p) (dartsD p) (dartsD p)

section
variable {p:Pl} (h:Valid p)
include h
theorem Valid.ordOn {n:Nd} (hn:n∈p.nodes):OrdOn (ltD p n.pt) (dartL p.arcs n.id):=by
 have key:∀ d∈dartL p.arcs n.id,∀ e∈dartL p.arcs n.id,(ltD p n.pt d e=true↔dirLt n.pt (toD p d) (toD p e)):=fun d hd e he=>by
  obtain ⟨n0,n1,x1⟩:=h.to_facts hn hd
  obtain ⟨-,n2,x2⟩:=h.to_facts hn he
  unfold ltD
  rw [less_iff]
  exact ⟨fun h=>h.2.2.2,fun h=>⟨by simp [nears,n0,n1,n2],x1,x2,h⟩⟩
 have keyf:∀ d∈dartL p.arcs n.id,∀ e∈dartL p.arcs n.id,(ltD p n.pt d e=false↔¬ dirLt n.pt (toD p d) (toD p e)):=fun d hd e he=>by
  rw [← key d hd e he,Bool.not_eq_true]
 have nz:∀ d∈dartL p.arcs n.id,¬ ((toD p d).x-n.pt.x=0∧(toD p d).y-n.pt.y=0):=fun d hd=>ne_vec.1 (h.to_facts hn hd).2.2
 refine ⟨fun x hx y hy h1=>?_,fun x hx y hy z hz h1 h2=>?_,fun x hx y hy h1 h2=>?_⟩
 ·
  rw [keyf y hy x hx]
  rw [key x hx y hy] at h1
  exact fun h2=>ltV_irr _ _ (ltV_trans (nz x hx) (nz y hy) (nz x hx) h1 h2)
 ·
  rw [keyf x hx y hy] at h1
  rw [keyf y hy z hz] at h2
  rw [keyf x hx z hz]
  exact ltV_ntrans (nz x hx) (nz y hy) (nz z hz) h1 h2
 ·
  rw [keyf x hx y hy] at h1
  rw [keyf y hy x hx] at h2
  rcases Decidable.em (x=y) with e | e
  · exact e
  ·
   rcases h.dirs hn hx hy e with h3 | h3
   · exact absurd h3 h1
   · exact absurd h3 h2
theorem Valid.findNode {n:Nd} (hn:n∈p.nodes):findNd p.nodes n.id=some n:=find_uniq (fun x:Nd=>x.id) p.nodes h.sound.nodes n hn
theorem Valid.around_eq {n:Nd} (hn:n∈p.nodes):aroundD p n.id=sortB (ltD p n.pt) (dartL p.arcs n.id):=by
 unfold aroundD
 rw [h.findNode hn]
theorem Valid.around_perm {n:Nd} (hn:n∈p.nodes):(aroundD p n.id).Perm (dartL p.arcs n.id):=by
 rw [h.around_eq hn];exact (sortB_facts (h.ordOn hn)).1
theorem Valid.dartL_nodup {n:Int}:(dartL p.arcs n).Nodup:=by
 have hs:=h.sound.arcs
 rw [List.pairwise_map] at hs
 have hpos:∀ a∈p.arcs,1≤a.id:=fun a ha=>(h.id_pos ha).1
 unfold dartL List.Nodup
 rw [List.pairwise_flatMap]
 refine ⟨fun a ha=>?_,?_⟩
 ·
  have:=hpos a ha
  split<;>split<;>simp<;>omega
 ·
  have hs2:p.arcs.Pairwise (fun a b=>1≤a.id∧1≤b.id∧a.id<b.id):=by
   rw [List.pairwise_iff_getElem] at hs ⊢
   exact fun i j hi hj hij=>⟨hpos _ (List.getElem_mem hi),hpos _ (List.getElem_mem hj),hs i j hi hj hij⟩
  refine hs2.imp ?_
  rintro a b ⟨h1,h2,h3⟩ x hx y hy
  have hx':x=a.id∨x=-a.id:=by
   rcases List.mem_append.1 hx with hx | hx
   ·
    split at hx
    · exact .inl (List.mem_singleton.1 hx)
    · cases hx
   ·
    split at hx
    · exact .inr (List.mem_singleton.1 hx)
    · cases hx
  have hy':y=b.id∨y=-b.id:=by
   rcases List.mem_append.1 hy with hy | hy
   ·
    split at hy
    · exact .inl (List.mem_singleton.1 hy)
    · cases hy
   ·
    split at hy
    · exact .inr (List.mem_singleton.1 hy)
    · cases hy
  omega
theorem Valid.darts_sorted:(dartsD p).Pairwise (· < ·):=by
 have hs:=h.sound.arcs
 have hpos:∀ a∈p.arcs,1≤a.id:=fun a ha=>(h.id_pos ha).1
 unfold dartsD
 rw [List.pairwise_append]
 refine ⟨?_,hs,fun x hx y hy=>?_⟩
 ·
  rw [List.pairwise_reverse,List.pairwise_map]
  rw [List.pairwise_map] at hs
  exact hs.imp (fun h=>by omega)
 ·
  rw [List.mem_reverse,List.mem_map] at hx
  obtain ⟨a,ha,rfl⟩:=hx
  obtain ⟨b,hb,rfl⟩:=List.mem_map.1 hy
  have:=hpos a ha;have:=hpos b hb
  omega
end
end Go.Proofs.YtpempeioeiaijaaGreat
