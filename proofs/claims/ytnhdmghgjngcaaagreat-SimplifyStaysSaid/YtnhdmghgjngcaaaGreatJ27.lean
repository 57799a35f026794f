import Derived.Test.YtnhdmghgjngcaaaGreatJ23
import Derived.Test.YtnhdmghgjngcaaaGreatJ20
set_option linter.unusedSimpArgs false
set_option linter.unusedVariables false
namespace Go.Proofs.YtnhdmghgjngcaaaGreat
open Go.RowKit

def facF (p:Pl) (O:List (List Int)) (k:Nat):List Int:=(List.range k).map (fcI p O)
theorem facF_len (p:Pl) (O:List (List Int)) (k:Nat):(facF p O k).length=k:=by unfold facF;simp
theorem facF_succ (p:Pl) (O:List (List Int)) (k:Nat):facF p O (k+1)=facF p O k++[fcI p O k]:=by unfold facF;rw [List.range_succ,List.map_append];rfl
theorem DivA.cys_at {p:Pl} {L:List AD} {O:List (List Int)} {N:List Nd} (h:DivA p L O (resX p) N) {i:Nat} (hi:i<L.length):(cysAD L[i]).map (·.1)=cyI p O i:=by
 have hl:=h.len
 unfold cysAD cyI cysX innX
 rw [List.map_cons,h.inn i hi]
 congr 1
 by_cases e:i=0
 · subst e;exact h.out_zero hi
 ·
  show L[i].out=_
  rw [h.out_at hi (by omega),keyA_some (by omega) (by omega)]
  rfl
section
variable {p:Pl} (h:Valid p)
include h
theorem Valid.cyI_dart {O:List (List Int)} (hO:∀ X∈O,X∈outX p) {i:Nat} {c:List Int} (hc:c∈cyI p O i) {d:Int} (hd:d∈c):d∈dartsD p:=by
 unfold cyI cysX at hc
 rcases List.mem_cons.1 hc with rfl | hc
 ·
  unfold keyA at hd
  split at hd
  · cases hd
  · cases e:O[i-1]? with
   | none=>rw [e] at hd;cases hd
   | some X =>
    rw [e] at hd
    exact (h.cyc_nodup (mem_outX.1 (hO X (List.mem_of_getElem? e))).1).2 d hd
 ·
  have:=List.mem_filter.1 hc
  exact (h.cyc_nodup (mem_resX.1 this.1).1).2 d hd
end
def RetFaces (w:World) (p:Pl) (O:List (List Int)) (e:Ending) (w':World):Prop :=
 ∃ A n c,e=.returned (.tuple #[.slice A n c,.bool (facB p)])∧Below w.heap.size w w'∧(facB p=true→Own w' w.heap.size 3 1 inC (.slice A n c) (facF p O (O.length+1)))
theorem facB_not {p:Pl} {O:List (List Int)} (hO:O.Perm (outX p)) {k:Nat} (hk:k≤O.length) (h:(1≤k∧fcI p O k=0)∨(1≤k∧fcI p O k∈seenF p O k)∨∃ c∈cyI p O k,∃ d∈c,sideD p d≠fcI p O k):facB p=false:=by
 rw [← Bool.not_eq_true,facB_iffU hO]
 rintro ⟨hu,-⟩
 rcases h with ⟨h1,h⟩ | ⟨h1,h⟩ | ⟨c,hc,d,hd,h⟩
 · exact hu.some k h1 (by omega) h
 ·
  obtain ⟨i,h2,h3,h4⟩:=mem_seenF.1 h
  exact hu.differ i k h2 h3 (by omega) h4
 · exact h (hu.sides k (by omega) c hc d hd)

set_option maxRecDepth 100000 in
set_option maxHeartbeats 8000000 in
theorem Faces_spec (v vl:Value) (p:Pl) (L:List AD) (O:List (List Int)) (N:List Nd) (w:World) (h:PlV w v p) (hv:Valid p) (hl:AdF w vl L) (hd:DivA p L O (resX p) N) (hO:O.Perm (outX p)) :
  Calls Tryz.prog 43 #[v,vl] w (RetFaces w p O):=by
 have HSi:=Lib.hid (fun d (hd:wfI d) W (hW:Below w.heap.size w W)=>wSide_spec v p d W (h.mono hW) hv.short.long hd)
 have HV:=Lib.hid hv;have HL:=Lib.hid hl;have HD:=Lib.hid hd
 have hll0:=hd.len
 have hol:O.length≤512:=by
  rw [hO.length_eq]
  exact Nat.le_trans (List.length_filter_le _ _) hv.cycs_len
 have HSub:=Lib.hid hO.subset
 have hlb1:1≤L.length∧L.length≤513:=by omega
 have HLl:=Lib.hid hll0
 have HDa:=Lib.hid (fun i c (hc:c∈cyI p O i) d (hd:d∈c)=>hv.cyI_dart (fun X hX=>hO.subset hX) hc hd)
 have HWd:=Lib.hid (fun d (hd:d∈dartsD p)=>show wfI d from wfI_of (by have:=hv.dart_bd hd;omega) (by have:=hv.dart_bd hd;omega))
 have HCy:=Lib.hid (fun i (hi:i<L.length)=>hd.cys_at hi)
 have HNo:=Lib.hid (fun k (hk:k≤O.length)=>facB_not hO (k:=k) hk)
 have HYes:=Lib.hid (facB_iffU hO)
 have HCl:=Lib.hid (fun i (hi:i<L.length)=>show L[i].inn.length≤512 from by
  have:=congrArg List.length (hd.inn i hi)
  rw [List.length_map] at this
  rw [this]
  refine Nat.le_trans (List.length_filter_le _ _) ?_
  exact Nat.le_trans (List.length_filter_le _ _) hv.cycs_len)
 have HSb:=Lib.hid (fun d=>hv.side_bd d)
 obtain ⟨Al,cl,rfl,hl1,hl2,hRl⟩:=hl.sl
 obtain ⟨_,_,_,al,rfl,hpa,⟨An,cn,rfl,-⟩,⟨⟨Aa,ca,rfl,-⟩,-⟩,⟨Af,cf,rfl,-⟩⟩:=h
 unfold maxLen at hl2
 have hff:p.faces.length≤64:=(limS_no hv.lim).2.2.2.1
 have HRl:=Lib.hid hRl
 generalize p.nodes.length=nn at *
 generalize al.length=na at *
 obtain ⟨nf,hnf⟩:∃ nf,p.faces.length=nf:=⟨_,rfl⟩
 rw [hnf] at hff HYes HSi ⊢
 have HNf:=Lib.hid hnf
 clear hpa hRl hv hl hd hnf hll0
 have hmm:=@run_makeMap Tryz.prog
 go_enter Tryz.func43,Tryz.ntmps43
 go_upto_region 2 with fail
 obtain ⟨gm,hgm⟩:∃ gm,gm=w.heap.size+1:=⟨_,rfl⟩
 obtain ⟨W1,hW⟩:∃ W:World,W=(w.alloc (.cells #[.slice An nn cn,.slice Aa na ca,.slice Af nf cf] 26)).alloc (.map #[] 0):=⟨_,rfl⟩
 have X1:Blk W1 w.heap.size 26 #[.slice An nn cn,.slice Aa na ca,.slice Af nf cf]:=by rw [hW];exact (Blk.made rfl _ _).alloc _
 have HM1:=Lib.hid (show SetI W1 gm [] by
  have:=SetI.made (w.alloc (.cells #[.slice An nn cn,.slice Aa na ca,.slice Af nf cf] 26))
  rw [hW,hgm];simpa using this)
 have HB1:=Lib.hid (show Below w.heap.size w W1 by rw [hW];exact bA (bA (bR w) _) _)
 have hgl:w.heap.size<gm:=by omega
 rw [← hW,← hgm]
 clear hW hgm hmm
 have HX1:=Lib.hid X1
 clear X1
 go_upto_block 0 with fail
 go_wp2_with fail
 go_loopw [4,17] (fun s i wr=>∃ k:Nat,k≤L.length∧i=.int .i64 k∧(∃ A c,s=.slice A k c)∧Own wr w.heap.size 3 1 inC s (facF p O k)∧SetI wr gm (seenF p O k)∧FacU p O k∧Blk wr w.heap.size 26 #[.slice An nn cn,.slice Aa na ca,.slice Af nf cf]∧Below w.heap.size w wr) (fun _ i _=>L.length-(intOf i).toNat)
 case atStart => exact ⟨0,Nat.zero_le _,rfl,⟨_,_,rfl⟩,Own.nil _ _ _ _ _,HM1.out,FacU.zero p O,HX1.out,HB1.out⟩
 case round =>
  clear HX1 HM1 HB1
  obtain ⟨k,hk,rfl,⟨A,c,rfl⟩,ho,hm,hu,X1,hb⟩:=hrel
  obtain ⟨wo,rfl⟩:∃ wo:World,wo=wr:=⟨_,rfl⟩
  have HO:=Lib.hid ho;have HM:=Lib.hid hm;have HU:=Lib.hid hu;have HX:=Lib.hid X1;have Hb:=Lib.hid hb
  have hfl:=facF_len p O k
  have hsl:=seenF_len p O k
  have hgml:=hm.lt
  clear ho hm hu hb
  by_cases hlt:k<L.length
  ·
   have hko:k≤O.length:=by have:=HLl.out;omega
   obtain ⟨b,o,rfl,hlb,c0,c1,c2,c3⟩:=(HRl.out.mono Hb.out).ad hlt
   have hcy:=HCy.out k hlt
   have hcl:=HCl.out k hlt
   have hout:=HL.out.out _ (List.getElem_mem hlt)
   have hinn:=HL.out.inn _ (List.getElem_mem hlt)
   have hcyc:=HL.out.cyc _ (List.getElem_mem hlt)
   have hfc:1≤k→L[k].out≠[]∧fcI p O k=sideD p (L[k].out.headD 0):=fun h1=>by
    have e1:=HD.out.out_at hlt h1
    have hX:O[k-1]'(by omega)∈O:=List.getElem_mem _
    rw [e1]
    exact ⟨HV.out.cyc_ne (mem_outX.1 (HSub.out hX)).1,fcI_some h1 hko⟩
   generalize L[k]=x at *
   obtain ⟨tw,out,⟨oa,on,oc⟩,inn,⟨ia,in_,ic⟩,alo,⟨aa,an,ac⟩⟩:=x
   unfold svV at c1 c2 c3 hout hinn
   simp only at c0 c1 c2 c3 hout hinn hcy hcyc hcl hfc
   obtain ⟨fc,hfce⟩:∃ fc,fcI p O k=fc:=⟨_,rfl⟩
   have HFs:=Lib.hid (facF_succ p O k)
   have HSs:=Lib.hid (fun h=>seenF_succ p O (k:=k) h)
   rw [hfce] at hfc HFs HSs
   have HFc:=Lib.hid hfce;have HCyk:=Lib.hid hcy;have HOut:=Lib.hid hout;have HInn:=Lib.hid hinn;have HCyc:=Lib.hid hcyc;have HFh:=Lib.hid hfc
   clear hcy hout hinn hcyc hfc hfce
   have hfb:0≤fc∧fc≤1073741824:=by
    rw [← HFc.out]
    unfold fcI faceX
    split
    · omega
    · exact HSb.out _
   have hf0:k=0→fc=0:=fun e=>by rw [← HFc.out,e];rfl
   have hwf:wfI fc:=wfI_of (by omega) (by omega)
   have HWf:=Lib.hid hwf
   clear hwf
   go_upto_region 5 with fail
   obtain ⟨W2,hW⟩:∃ W:World,W=wo.alloc (.cells #[.int .i64 tw,.slice oa on oc,.slice ia in_ ic,.slice aa an ac] 70):=⟨_,rfl⟩
   have hA:Below wo.heap.size wo W2:=by rw [hW];exact bA (bR wo) _
   have X5:Blk W2 wo.heap.size 70 #[.int .i64 tw,.slice oa on oc,.slice ia in_ ic,.slice aa an ac]:=by rw [hW];exact Blk.made rfl _ _
   replace X1:=X1.keep hA
   have HO2:=Lib.hid (HO.out.keep hA);have HX2:=Lib.hid X1;have HX5:=Lib.hid X5;have HM2:=Lib.hid (HM.out.keep hA)
   have HB2:=Lib.hid (bT Hb.out hA);have HOut2:=Lib.hid (HOut.out.mono (bT Hb.out hA))
   have hz2:=Hb.out.size
   rw [← hW]
   clear hW hA HO HM HX Hb c0 c1 c2 c3 hlb
   obtain ⟨g5,hg5⟩:∃ g5,wo.heap.size=g5:=⟨_,rfl⟩
   rw [hg5] at HX5 X5 hz2 hgml ⊢
   clear hg5
   have hS0:k=0→seenF p O (k+1)=seenF p O k:=fun e=>by subst e;rfl
   have HSz:=Lib.hid hS0
   clear hS0
   have hkn:O.length≤512:=hol
   go_upto_if 23 with fail
   go_cut [9,4,5] (fun f s q wx=>f=.int .i64 fc∧s=.slice A k c∧SetI wx gm (seenF p O (k+1))∧Own wx w.heap.size 3 1 inC (.slice A k c) (facF p O k)∧Blk wx w.heap.size 26 #[.slice An nn cn,.slice Aa na ca,.slice Af nf cf]∧Blk wx g5 70 #[.int .i64 tw,.slice oa on oc,.slice ia in_ ic,.slice aa an ac]∧Below w.heap.size w wx∧(1≤k→fc≠0∧fc∉seenF p O k))
   case first =>
    rcases Nat.eq_zero_or_pos k with h0 | h0
    ·
     have e1:=hf0 h0
     have hk0:¬ (0:Int)<(k:Int):=by omega
     have hm3:=HM2.out
     rw [← HSz.out h0] at hm3
     have HM3:=Lib.hid hm3
     have HE:=Lib.hid e1
     clear hm3 e1 hf0 h0 X1 X5
     go_wp2_with fail
     go_meet
     case rel => exact ⟨by rw [HE.out],rfl,HM3.out,HO2.out,HX2.out,HX5.out,HB2.out,fun h=>by omega⟩
    ·
     have hk0:(0:Int)<(k:Int):=by omega
     obtain ⟨hne,hfe⟩:=HFh.out h0
     have hkl:0<out.length:=List.length_pos_iff.2 hne
     have hhd:out.headD 0=out[0]:=by
      cases out with
      | nil=>exact absurd rfl hne
      | cons d l'=>rfl
     rw [hhd] at hfe
     obtain ⟨Ao,co,hel,-,-,hRo⟩:=HOut2.out
     injection hel with y1 y2 y3
     subst y1 y2 y3
     obtain ⟨bl,ol,hbl',hlbl,d0⟩:=(hRo).int hkl
     subst hbl'
     simp only [Nat.add_zero] at d0
     have kz:(0:Int)<out.length:=by omega
     have kn:¬ out=[]:=hne
     have hmem:out[0]∈dartsD p:=HDa.out k out (by rw [← HCyk.out];exact List.mem_cons_self) _ (List.getElem_mem hkl)
     have HSd:=Lib.hid (fun W (hW:Below w.heap.size w W)=>HSi.out out[0] (HWd.out _ hmem) W hW)
     generalize out[0]=dd at *
     rw [← hfe] at HSd
     have HNk:=Lib.hid (HNo.out k hko)
     rw [HFc.out] at HNk
     have HSk:=Lib.hid (HSs.out h0)
     clear hhd hfe hmem hRo hf0
     obtain ⟨X1l,X1a,X1b,X1c,-,-,-⟩:=X1.facts3
     obtain ⟨X5l,X5a,X5b,X5c,X5d,-,-,-,-⟩:=X5.facts4
     go_upto_region 7 with fail
     refine rg_start (Since W2) (.run 5 0 0 (.call 5 63 (.take 6 127 (.done)))) (by kernel_rfl) (bD (bR _)) (by kernel_rfl) (by kernel_rfl) (Nat.le_of_ble_eq_true (by kernel_rfl)) ?_
     intro opsR QR Hops HQrg hS
     iterate 5
      apply rg_p;exact Hops;exact rfl;exact hS;exact rfl
      · intro _ hqc;go_simp;try rfl
      try simp only [pu]
     refine rg_call (i:=5) (get_of Hops rfl) (fun K hK=>?_)
     have HSrg:=Lib.hid hS;clear hS
     refine rg_run (wanted_plain rfl) ?_
     go_simp
     refine (HSd.out _ (bT HB2.out HSrg.out)).mono ?_
     rintro e wr1 ⟨rfl,hbr1⟩
     have hS:Since W2 wr1:=bT (w:=W2) HSrg.out hbr1
     clear HSrg
     refine hK.out _ _ hS (fun _=>?_)
     clear hK K
     try simp only [pu]
     apply rg_p;exact Hops;exact rfl;exact hS;exact rfl
     · intro _ hqc;go_simp;try rfl
     try simp only [pu]
     refine rg_done ?_
     refine HQrg.down _ _ ?_
     have hB:Below W2.heap.size W2 wr1:=hS
     clear hS HQrg Hops
     have HB3:=Lib.hid (bT HB2.out hB)
     have HO3:=Lib.hid (HO2.out.keep hB);have HX3:=Lib.hid (HX2.out.keep hB);have HX53:=Lib.hid (HX5.out.keep hB);have HM3:=Lib.hid (HM2.out.keep hB)
     clear hB X1 X1l X1a X1b X1c X5 X5l X5a X5b X5c X5d d0 hbr1 HM2 HO2 HX2 HX5 HB2 hlbl kz kn HSd
     by_cases z:fc=0
     ·
      have z1:(fc == 0)=true:=by simpa using z
      have hf:=HNk.out (.inl ⟨h0,z⟩)
      have HF:=Lib.hid hf
      clear z hf
      go_wp2_with fail
      go_ret2
      exact ⟨none,0,0,by rw [HF.out];rfl,HB3.out,fun e=>by rw [HF.out] at e;cases e⟩
     ·
      have z1:(fc == 0)=false:=by simpa using z
      have hlk:=HM3.out.look fc HWf.out
      by_cases z2:fc∈seenF p O k
      ·
       have hf:=HNk.out (.inr (.inl ⟨h0,z2⟩))
       have HF:=Lib.hid hf
       rw [decide_eq_true z2] at hlk
       clear z hf z2
       go_wp2_with fail
       go_ret2
       exact ⟨none,0,0,by rw [HF.out];rfl,HB3.out,fun e=>by rw [HF.out] at e;cases e⟩
      ·
       rw [decide_eq_false z2] at hlk
       obtain ⟨w6,hr6,hm6,hg6⟩:=HM3.out.upd (by omega) fc HWf.out z2
       rw [← HSk.out] at hm6
       have HM6:=Lib.hid hm6
       have HZ:=Lib.hid (show fc≠0∧fc∉seenF p O k from ⟨z,z2⟩)
       have HO6:=Lib.hid (Own.grown HO3.out hg6 (fun g hg e=>setI_own HM3.out HO3.out (by rw [hg,e])))
       have HX6:=Lib.hid (Blk.grown HX3.out hg6 (fun e=>setI_ne HM3.out HX3.out (Option.some.inj e)))
       have HX56:=Lib.hid (Blk.grown HX53.out hg6 (fun e=>setI_ne HM3.out HX53.out (Option.some.inj e)))
       have HB6:=Lib.hid (bG HB3.out hg6 (fun g hg=>by have:=Option.some.inj hg;omega))
       clear hm6 hg6 z z2
       go_wp2_with fail
       go_meet
       case rel => exact ⟨rfl,rfl,HM6.out,HO6.out,HX6.out,HX56.out,HB6.out,fun _=>HZ.out⟩
   case rest =>
    obtain ⟨rfl,rfl,hm3,ho3,X1,X5,hb3,hzz⟩:=hcut
    have HM3:=Lib.hid hm3;have HO3:=Lib.hid ho3;have HX3:=Lib.hid X1;have HX53:=Lib.hid X5;have HB3:=Lib.hid hb3;have HZ:=Lib.hid hzz
    have hAC:=AreaCycles_spec ⟨tw,out,⟨oa,on,oc⟩,inn,⟨ia,in_,ic⟩,alo,⟨aa,an,ac⟩⟩ wc (HInn.out.mono hb3) (by show inn.length≤100000;omega)
    have hcyl:(cysAD ⟨tw,out,⟨oa,on,oc⟩,inn,⟨ia,in_,ic⟩,alo,⟨aa,an,ac⟩⟩).length≤513:=by show inn.length+1≤513;omega
    have hcr:∀ y∈cysAD ⟨tw,out,⟨oa,on,oc⟩,inn,⟨ia,in_,ic⟩,alo,⟨aa,an,ac⟩⟩,Ints w (svV y.2) y.1:=fun y hy=>by
     rcases List.mem_cons.1 hy with rfl | hy
     · exact HOut.out
     · exact HCyc.out y hy
    have hck:=HCyk.out
    unfold svV at hAC
    simp only at hAC
    generalize cysAD ⟨tw,out,⟨oa,on,oc⟩,inn,⟨ia,in_,ic⟩,alo,⟨aa,an,ac⟩⟩=CY at *
    have HAC:=Lib.hid hAC;have HCr:=Lib.hid hcr
    have HDy:=Lib.hid (fun q (hq:q<CY.length) d (hd:d∈CY[q].1)=>HDa.out k CY[q].1 (by rw [← hck];exact List.mem_map_of_mem (List.getElem_mem hq)) d hd)
    have HMy:=Lib.hid (fun q (hq:q<CY.length)=>show CY[q].1∈cyI p O k from by rw [← hck];exact List.mem_map_of_mem (List.getElem_mem hq))
    have HAll:=Lib.hid (fun (h:∀ q (hq:q<CY.length),∀ d∈CY[q].1,sideD p d=fc)=>show ∀ c∈cyI p O k,∀ d∈c,sideD p d=fcI p O k from fun c hc d hd=>by
     rw [← hck] at hc
     obtain ⟨y,hy,rfl⟩:=List.mem_map.1 hc
     obtain ⟨q,hq,rfl⟩:=List.mem_iff_getElem.1 hy
     rw [HFc.out]
     exact h q hq d hd)
    have HNk:=Lib.hid (HNo.out k hko)
    rw [HFc.out] at HNk
    clear hm3 ho3 hb3 hzz HM2 HO2 HX2 HX5 HB2 hAC hcr hck HOut2 HCyk HOut HInn HCyc HFh hf0 HSz HSs
    try clear X5l
    try clear X5a
    try clear X5b
    try clear X5c
    try clear X5d
    obtain ⟨X5l,X5a,X5b,X5c,X5d,-,-,-,-⟩:=X5.facts4
    go_wp2_with fail
    refine HAC.out.mono ?_
    rintro e w3 ⟨⟨A2,c2,rfl,ho2⟩,hb4⟩
    have HB4:=Lib.hid (bT HB3.out hb4)
    have HO4:=Lib.hid (HO3.out.keep hb4);have HX4:=Lib.hid (HX3.out.keep hb4);have HM4:=Lib.hid (HM3.out.keep hb4)
    have HR4:=Lib.hid ho2.row_of
    have hz4:=hb4.size
    clear ho2 hb4 HB3 HO3 HX3 HX53 HM3 X1 X5 X5l X5a X5b X5c X5d HAC
    go_upto_block 2 with fail
    go_wp2_with fail
    go_loopw [4,42] (fun s i wr=>s=.slice A k c∧∃ j:Nat,j≤CY.length∧i=.int .i64 j∧(∀ q (hq:q<CY.length),q<j→∀ d∈CY[q].1,sideD p d=fc)∧Below w3.heap.size w3 wr) (fun _ i _=>CY.length-(intOf i).toNat)
    case atStart => exact ⟨rfl,0,Nat.zero_le _,rfl,(fun q _ h=>by omega),bR w3⟩
    case round =>
     obtain ⟨rfl,j,hj,rfl,hall,hb5⟩:=hrel
     have HAl:=Lib.hid hall;have HB5:=Lib.hid hb5
     clear hall hb5
     by_cases hlj:j<CY.length
     ·
      obtain ⟨b,o,rfl,hlb,c0⟩:=(HR4.out.mono HB5.out).cy hlj
      have hin:=(HCr.out CY[j] (List.getElem_mem hlj)).mono (bT HB4.out HB5.out)
      have hdy:=HDy.out j hlj
      have HMk:=Lib.hid (HMy.out j hlj)
      have HNx:=Lib.hid (fun (h:∀ d∈CY[j].1,sideD p d=fc)=>all_succ (p:=fun y:List Int×SV=>∀ d∈y.1,sideD p d=fc) HAl.out hlj h)
      generalize CY[j]=x at *
      obtain ⟨X,xa,xn,xc⟩:=x
      unfold svV at hin
      simp only at hin c0 hdy HMk HNx
      obtain ⟨Ax,cx,he,hx1,hx2,hRx⟩:=hin
      injection he with y1 y2 y3
      subst y1 y2 y3
      unfold maxLen at hx2
      have hxl:X.length≤9223372036854775807:=by omega
      have HRx:=Lib.hid hRx;have HDx:=Lib.hid hdy
      clear hRx hdy
      obtain ⟨wq,rfl⟩:∃ wq:World,wq=wr:=⟨_,rfl⟩
      go_upto_block 4 with fail
      clear c0 hlb
      go_wp2_with fail
      go_loopw [4,48] (fun s i wr=>s=.slice A k c∧∃ m:Nat,m≤X.length∧i=.int .i64 m∧(∀ q (hq:q<X.length),q<m→sideD p X[q]=fc)∧Below wq.heap.size wq wr) (fun _ i _=>X.length-(intOf i).toNat)
      case atStart => exact ⟨rfl,0,Nat.zero_le _,rfl,(fun q _ h=>by omega),bR wq⟩
      case round =>
       obtain ⟨rfl,m,hmm,rfl,hall,hb6⟩:=hrel
       have HAl2:=Lib.hid hall;have HB6:=Lib.hid hb6
       have HBw:=Lib.hid (bT HB4.out (bT HB5.out hb6))
       clear hall hb6
       by_cases hlm:m<X.length
       ·
        obtain ⟨b2,o2,rfl,hlb2,e0⟩:=(HRx.out.mono HB6.out).int hlm
        have hdm:=HDx.out X[m] (List.getElem_mem hlm)
        have HSd:=Lib.hid (fun W (hW:Below w.heap.size w W)=>HSi.out X[m] (HWd.out _ hdm) W hW)
        have HNm:=Lib.hid (fun (h:sideD p X[m]≠fc)=>HNk.out (.inr (.inr ⟨X,HMk.out,X[m],List.getElem_mem hlm,h⟩)))
        have HYm:=Lib.hid (fun (h:sideD p X[m]=fc)=>all_succ (p:=fun d=>sideD p d=fc) HAl2.out hlm h)
        generalize X[m]=dd at *
        obtain ⟨sd,hsd⟩:∃ sd,sideD p dd=sd:=⟨_,rfl⟩
        rw [hsd] at HSd HNm HYm
        have X1:=HX4.out.keep (bT HB5.out HB6.out)
        clear hsd hdm
        try clear X1l
        try clear X1a
        try clear X1b
        try clear X1c
        obtain ⟨X1l,X1a,X1b,X1c,-,-,-⟩:=X1.facts3
        go_wp2_with fail
        refine (HSd.out _ HBw.out).mono ?_
        rintro e w7 ⟨rfl,hb7⟩
        have HB7:=Lib.hid (bT HB6.out hb7)
        have HBw7:=Lib.hid (bT HBw.out hb7)
        clear hb7 X1 X1l X1a X1b X1c e0 hlb2 HSd
        by_cases z:sd=fc
        ·
         have z1:(sd != fc)=false:=by simpa using z
         have HYz:=Lib.hid (HYm.out z)
         clear z
         go_wp2_with fail
         go_roundw
         case rel => exact ⟨rfl,m+1,by omega,by go_num,HYz.out,HB7.out⟩
         case measure => simp [intOf];omega
        ·
         have z1:(sd != fc)=true:=by simpa using z
         have HF:=Lib.hid (HNm.out z)
         clear z
         go_wp2_with fail
         go_ret2
         exact ⟨none,0,0,by rw [HF.out];rfl,HBw7.out,fun e=>by rw [HF.out] at e;cases e⟩
       ·
        have hmx:m=X.length:=by omega
        have HNz:=Lib.hid (HNx.out fun d hd=>by
         obtain ⟨q,hq,rfl⟩:=List.mem_iff_getElem.1 hd
         exact HAl2.out q hq (by omega))
        clear hmx
        go_wp2_with fail
        go_roundw
        case rel => exact ⟨rfl,j+1,by omega,by go_num,HNz.out,bT HB5.out HB6.out⟩
        case measure => simp [intOf];omega
     ·
      have hjx:j=CY.length:=by omega
      have HUk:=Lib.hid (HU.out.succ (fun h=>by rw [HFc.out];exact (HZ.out h).1) (fun h=>by rw [HFc.out];exact (HZ.out h).2) (HAll.out fun q hq=>HAl.out q hq (by omega)))
      have HX5:=Lib.hid (HX4.out.keep HB5.out);have HO5:=Lib.hid (HO4.out.keep HB5.out);have HM5:=Lib.hid (HM4.out.keep HB5.out);have HB5w:=Lib.hid (bT HB4.out HB5.out)
      have n1:=Own.ne_blk HO5.out HX5.out (by decide)
      have n2:=setI_own HM5.out HO5.out
      have hfl1:=facF_len p O (k+1)
      clear hjx HX4 HO4 HM4 HB4 HR4
      go_upto_region 22 with
       (at_builtin
        refine wpList_appl _ rfl (.tmp 59) (.tmp 61) _ rfl (base:=w.heap.size) elem_in inC_len inC_one rfl (Own.alloc HO5.out _) rfl (l2:=[fc]) (Sl.lit (n:=1) (Blk.made rfl _ _) rfl (le_maxLen (by omega))) (by simp only [List.length_cons,List.length_nil];omega) (by simp only [List.length_cons,List.length_nil];omega) (by have:=HB5w.out.size;simp;omega) ?_
        intro v8 w8 ho8 hg8 hat8
        rw [← HFs.out] at ho8
        obtain ⟨A8,c8,hv8,-⟩:=Own.shape_ ho8
        rw [hfl1] at hv8
        subst hv8
        have HO8:=Lib.hid ho8
        have HM8:=Lib.hid ((HM5.out.keep (bA (bR wr) _)).kept hg8 (fun e=>n2 e.symm))
        have HX8:=Lib.hid (Blk.grown (HX5.out.alloc _) hg8 (fun e=>n1 e.symm))
        have HB8:=Lib.hid (bG (bA HB5w.out _) hg8 (fun g hg=>(HO5.out.lt g hg).1))
        clear ho8 hg8 hat8
        )
      clear n1 n2 hfl1
      go_wp2_with fail
      go_roundw
      case rel => exact ⟨k+1,by omega,by go_num,⟨A8,c8,rfl⟩,HO8.out,HM8.out,HUk.out,HX8.out,HB8.out⟩
      case measure => simp [intOf];omega
  ·
   have hkk:k=L.length:=by omega
   have hko1:O.length+1=k:=by have:=HLl.out;omega
   have hlen:=fun ty=>(HM.out.keep (bD (bR wo))).len ty
   have hres:facB p=(((seenF p O k).length:Int) == (nf:Int)):=by
    have hy:=HYes.out
    rw [hko1] at hy
    rw [Bool.eq_iff_iff,hy,hsl]
    constructor
    · rintro ⟨-,e⟩;simp;omega
    · intro e;simp at e;exact ⟨HU.out,by omega⟩
   have ho:=HO.out
   have HOf:=Lib.hid (show Own wo w.heap.size 3 1 inC (.slice A k c) (facF p O (O.length+1)) by rw [hko1];exact ho)
   have HRe:=Lib.hid hres
   generalize seenF p O k=S at *
   clear hres ho hkk hko1 hsl
   try clear X1l
   try clear X1a
   try clear X1b
   try clear X1c
   obtain ⟨X1l,X1a,X1b,X1c,-,-,-⟩:=X1.facts3
   go_upto_region 23 with fail
   refine rg_start (Since wo) (.take 0 1 (.take 1 3 (.run 3 3 3 (.call 2 63 (.run 3 6 63 (.done)))))) (by kernel_rfl) (bD (bR _)) (by kernel_rfl) (by kernel_rfl) (Nat.le_of_ble_eq_true (by kernel_rfl)) ?_
   intro opsR QR Hops HQrg hS
   iterate 5
    apply rg_p;exact Hops;exact rfl;exact hS;exact rfl
    · intro _ hqc;go_simp;try rfl
    try simp only [pu]
   refine rg_call (i:=2) (get_of Hops rfl) (fun K hK=>?_)
   have HSrg:=Lib.hid hS;clear hS
   refine rg_run (wanted_plain rfl) ?_
   go_simp
   refine hK.out _ _ HSrg.out (fun hS=>?_)
   clear hK K HSrg
   try simp only [pu]
   iterate 3
    apply rg_p;exact Hops;exact rfl;exact hS;exact rfl
    · intro _ hqc;go_simp;try rfl
    try simp only [pu]
   refine rg_done ?_
   refine HQrg.down _ _ ?_
   have hB:Below wo.heap.size wo _:=hS
   clear hS HQrg Hops
   have HBf:=Lib.hid (bT Hb.out hB)
   have HOff:=Lib.hid (HOf.out.keep hB)
   clear hB
   go_wp2_with fail
   go_ret2
   exact ⟨A,k,c,by rw [HRe.out];rfl,HBf.out,fun _=>HOff.out⟩
end Go.Proofs.YtnhdmghgjngcaaaGreat
