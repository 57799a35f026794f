import Derived.Test.YtialfdomhoojiaaGreatJ19
set_option linter.unusedSimpArgs false
set_option linter.unusedVariables false
namespace Go.Proofs.YtialfdomhoojiaaGreat
open Go.RowKit
def ahz (w:World) (p:Pl) (e:Ending) (w':World):Prop :=
 ∃ A c L,e=.returned (.slice A L.length c)/\Below w.heap.size w w'/\iJ 82 w w' w.heap.size (.slice A L.length c) L/\jw p L (jc p) (qM p) p.nodes/\oP p L
def ad0:AD:=⟨0,[],sv0,[],sv0,[],sv0⟩
def EZ (p:Pl) (k:Nat):List (List Int):=((gJ p).take k).filter (fun X=>decide (0<oG p X))
def E5 (p:Pl) (k:Nat):List (List Int):=((gJ p).take k).filter (fun X=>!decide (0<oG p X))
theorem ahA {p:Pl} {k:Nat} (hk:k<(gJ p).length):EZ p (k+1)=EZ p k++(if 0<oG p (gJ p)[k] then [(gJ p)[k]] else []):=by
 unfold EZ;rw [List.take_succ_eq_append_getElem hk,List.filter_append,List.filter_cons];simp only [decide_eq_true_eq,List.filter_nil]
theorem ahB {p:Pl} {k:Nat} (hk:k<(gJ p).length):E5 p (k+1)=E5 p k++(if 0<oG p (gJ p)[k] then [] else [(gJ p)[k]]):=by
 unfold E5;rw [List.take_succ_eq_append_getElem hk,List.filter_append,List.filter_cons];by_cases h:0<oG p (gJ p)[k]<;>simp [h]
theorem ahC (p:Pl):EZ p (gJ p).length=jc p:=by unfold EZ jc;rw [List.take_length]
theorem ahD (p:Pl):E5 p (gJ p).length=qM p:=by unfold E5 qM;rw [List.take_length]
theorem ahE {CL:List (List Int×SV)} {C:List (List Int)} (h:CL.map (·.1)=C) {k:Nat} (hk:k<CL.length) (hk2:k<C.length):C[k]=CL[k].1:=by
 subst h;rw [List.getElem_map]
theorem ahF {CL:List (List Int×SV)} {C:List (List Int)} (h:CL.map (·.1)=C) {k:Nat} (hk:k<CL.length):C.take (k+1)=C.take k++[CL[k].1]:=by
 subst h;rw [List.take_succ_eq_append_getElem (by simpa using hk),List.getElem_map]
set_option maxRecDepth 100000 in
set_option maxHeartbeats 8000000 in
theorem ahG (v vc:Value) (p:Pl) (CL:List (List Int×SV)) (gm:Nat) (f:Int->SV) (w:World) (h:dh w v p) (hv:Valid p) (hc:IE w vc CL) (hcl:CL.map (·.1)=gJ p) (hpm:uF w gm p f) :
  Calls Tryz.prog 58 #[v,vc,.map (some gm)] w (ahz w p):=by
 have EJ:=Lib.hid (fun u l (hl:l∈gJ p) W (hu:Ints W u l) (hW:Below w.heap.size w W)=>show Calls Tryz.prog 120 #[v,u] W fun e w'=>e=.returned (.int .i64 (oG p l))/\Below W.heap.size W w' from by
  have t:=aey v u p l W (h.mono hW) hu hv (fun d hd=>by have:=hv.EF ((hv.Bv hl).2 d hd);exact nR (by omega) (by omega));rw [hv.ahl hl] at t;exact t)
 have Ec:=Lib.hid (fun id W (hW:Below w.heap.size w W)=>abJ v p id W (h.mono hW) (by have:=hv.lim;unfold lH at this;simp only [Bool.or_eq_false_iff,decide_eq_false_iff_not] at this;omega));have RN:=fun W (hW:Below w.heap.size w W)=>afP W gm p f (hpm.keep hW) hv;unfold aF at RN;have HFi:=Lib.hid RN;clear RN;have sH:=Lib.hid hpm;have HV:=Lib.hid hv;have hnl:=hv.YG;have hcn:=hv.RI;have hll:CL.length=(gJ p).length:=by rw [<- hcl,List.length_map]
 have pO:=Lib.hid hcl;have mX:=Lib.hid hll;have MB:=Lib.hid hv.aht;obtain ⟨⟨Ac,cc,rfl,hc1,hc2,G8⟩,hI⟩:=hc;obtain ⟨_,_,_,al,rfl,hpa,⟨An,cn,rfl,hn1,hn2,hR⟩,⟨⟨Aa,ca,rfl,-⟩,-⟩,⟨Af,cf,rfl,-⟩⟩:=h;unfold maxLen at hc2 hn2;have KH:=Lib.hid G8;have HI:=Lib.hid hI;have HRn:=Lib.hid hR;have aj3:CL.length<=512:=by omega
 generalize p.faces.length=nf at *;generalize al.length=na at *;clear hpa G8 hI hR hv hpm hcl hll hcn;go_enter Tryz.func58,Tryz.ntmps58;go_upto_region 2 with fail;obtain ⟨W1,hW⟩:∃ W:World,W=(w.alloc (.cells #[.slice An p.nodes.length cn,.slice Aa na ca,.slice Af nf cf] 26)).alloc (.cells #[.int .i64 0,.slice none 0 0,.slice none 0 0,.slice none 0 0] 82):=⟨_,rfl⟩;have X1:ah W1 w.heap.size 26 #[.slice An p.nodes.length cn,.slice Aa na ca,.slice Af nf cf]:=by rw [hW];exact (ah.made rfl _ _).alloc _
 have jI:=Lib.hid (show Own W1 w.heap.size 82 4 qQ (.slice (some ⟨w.heap.size+1,0,none⟩) 1 1) [ad0] by rw [hW];exact Own.lit _ _ _ _ _ _ _ _ _ (by simp) rfl (by simp) (eG (by omega)) rfl rfl);have HB1:=Lib.hid (show Below w.heap.size w W1 by rw [hW];exact bA (bA (bR w) _) _);rw [<- hW];clear hW;have HA1:=Lib.hid (show iJ 82 w W1 w.heap.size (.slice (some ⟨w.heap.size+1,0,none⟩) 1 1) [ad0] from ⟨jI.out,(fun x hx=>by rw [List.mem_singleton] at hx;subst hx;exact Sl.nil w),(fun x hx=>by rw [List.mem_singleton] at hx;subst hx;exact Own.nil _ _ _ _ _),(fun x hx=>by rw [List.mem_singleton] at hx;subst hx;intro c hc;cases hc),(fun x hx=>by rw [List.mem_singleton] at hx;subst hx;exact Own.nil _ _ _ _ _),List.pairwise_singleton _ _,List.pairwise_singleton _ _⟩);have iE:=Lib.hid X1;clear X1 jI;go_upto_block 0 with fail;go_wp2_with fail;go_loopw [7,8,23] (fun s r i wr=>∃ (k:Nat) (L:List AD) (R:List (List Int×SV)),k<=CL.length/\i=.int .i64 k/\(∃ A c,s=.slice A L.length c)/\(∃ A c,r=.slice A R.length c)/\iJ 82 w wr w.heap.size s L/\Own wr w.heap.size 24 1 kL r R/\jw p L (EZ p k) [] []/\oP p L/\R.map (·.1)=E5 p k/\(∀ x∈R,Ints w (aP x.2) x.1)/\(∀ x∈L,x.iv=sv0)/\L.length<=k+1/\R.length<=k/\ah wr w.heap.size 26 #[.slice An p.nodes.length cn,.slice Aa na ca,.slice Af nf cf]/\Below w.heap.size w wr) (fun _ _ i _=>CL.length-(intOf i).toNat)
 case atStart => exact ⟨0,[ad0],[],Nat.zero_le _,rfl,⟨_,_,rfl⟩,⟨_,_,rfl⟩,HA1.out,Own.nil _ _ _ _ _,jw.start p ad0 rfl rfl rfl,oP.one p ad0,rfl,(fun x hx=>by cases hx),(fun x hx=>by rw [List.mem_singleton] at hx;subst hx;rfl),by simp,by simp,iE.out,HB1.out⟩
 case round =>
  obtain ⟨k,L,R,hk,rfl,⟨A,c,rfl⟩,⟨A',c',rfl⟩,had,hor,hdv,htw,hrm,hri,hiv,hl1,hl2,X1,hb⟩:=hrel;obtain ⟨wo,rfl⟩:∃ wo:World,wo=wr:=⟨_,rfl⟩;have HA:=Lib.hid had;have HO:=Lib.hid hor;have HD:=Lib.hid hdv;have HT:=Lib.hid htw;have MC:=Lib.hid hrm;have RP:=Lib.hid hri;have II:=Lib.hid hiv;have HX:=Lib.hid X1;have Hb:=Lib.hid hb;clear had hor hdv htw hrm hri hiv hb iE HA1 HB1;by_cases hlt:k<CL.length
  ·have hlc:k<(gJ p).length:=by have:=mX.out;omega
   obtain ⟨b,o,rfl,hlb,c0⟩:=(KH.out.mono Hb.out).cy hlt;have hin:=HI.out CL[k] (List.getElem_mem hlt);have hmem:(gJ p)[k]∈gJ p:=List.getElem_mem hlc;have hos:=ahA hlc;have hrs:=ahB hlc;rw [ahE pO.out hlt hlc] at hmem hos hrs;generalize CL[k]=x at *;obtain ⟨l,xs⟩:=x;obtain ⟨xa,xn,xc⟩:=xs;simp only at hin c0 hmem hos hrs;have zB:=Lib.hid hin;have mQ:=Lib.hid (fun W (hW:Below w.heap.size w W)=>EJ.out _ l hmem W (hin.mono hW) hW);obtain ⟨t,ht⟩:∃ t,oG p l=t:=⟨_,rfl⟩;rw [ht] at mQ hos hrs;have HTe:=Lib.hid ht;have Ey:=Lib.hid hos;have HRs:=Lib.hid hrs;clear hin hmem hlc ht hos hrs;obtain ⟨aZ,bf,bg,bK,-,-,-⟩:=X1.aJ;go_upto_region 7 with fail;go_wp2_with fail;refine (mQ.out _ Hb.out).mono ?_;rintro e w2 ⟨rfl,hb2⟩;have HB2:=Lib.hid (bT Hb.out hb2);have HA2:=Lib.hid (HA.out.keep hb2);have iT:=Lib.hid (HO.out.keep hb2);have eF:=Lib.hid (HX.out.keep hb2);have hz2:=HB2.out.size;clear hb2 X1 aZ bf bg bK c0 hlb mQ HA HO HX Hb;by_cases h0:0<t
   ·have hos:=Ey.out;have hrs:=HRs.out;rw [if_pos h0] at hos hrs;rw [List.append_nil] at hrs;have RQ:=Lib.hid hos;have RS:=Lib.hid hrs;clear hos hrs;have n1:=Own.fD HA2.out.own eF.out (by decide);go_upto_region 10 with
     (at_builtin
      refine jX _ rfl (.tmp 32) (.tmp 36) _ rfl (base:=w.heap.size) afA KG afz rfl (Own.alloc HA2.out.own _) rfl (l2:=[(⟨t,l,⟨xa,xn,xc⟩,[],sv0,[],sv0⟩:AD)]) (Sl.lit (n:=1) (ah.made rfl _ _) rfl (eG (by omega))) (by simp only [List.length_cons,List.length_nil];omega) (by simp only [List.length_cons,List.length_nil];omega) (by simp;omega) ?_;intro v3 w3 ho3 hg3 RU;obtain ⟨A3,c3,hv3,-⟩:=Own.qO ho3;have hsh:(L++[(⟨t,l,⟨xa,xn,xc⟩,[],sv0,[],sv0⟩:AD)]).length=L.length+1:=by simp
      rw [hsh] at hv3;subst hv3;have sW:=Lib.hid (iJ.more (by decide) (HA2.out.keep (bA (bR w2) _)) ho3 hg3 zB.out rfl rfl rfl rfl);have iC:=Lib.hid (Own.grown (Own.alloc iT.out _) hg3 (fun g hg=>Own.apart iT.out HA2.out.own (by decide) g hg));have dP:=Lib.hid (ah.grown (eF.out.alloc _) hg3 (fun e=>n1 e.symm));have HB3:=Lib.hid (bG (bA HB2.out _) hg3 (fun g hg=>(HA2.out.own.lt g hg).1));clear ho3 hg3 RU
      )
    clear n1;go_wp2_with fail;go_roundw
    case rel => exact ⟨k+1,_,R,by omega,by go_num,⟨A3,c3,by rw [hsh]⟩,⟨_,_,rfl⟩,sW.out,iC.out,by rw [RQ.out];exact HD.out.more rfl rfl _ rfl rfl,HT.out.more HTe.out.symm,by rw [RS.out];exact MC.out,RP.out,(fun x hx=>by
      rcases List.mem_append.1 hx with hx | hx
      · exact II.out x hx
      · rw [List.mem_singleton] at hx;subst hx;rfl),by rw [hsh];omega,by omega,dP.out,HB3.out⟩
    case measure => simp [intOf];omega
   ·have hos:=Ey.out;have hrs:=HRs.out;rw [if_neg h0] at hos hrs;rw [List.append_nil] at hos;have RQ:=Lib.hid hos;have RS:=Lib.hid hrs;clear hos hrs;have n1:=Own.fD iT.out eF.out (by decide);go_upto_region 10 with
     (at_builtin
      refine jX _ rfl (.tmp 38) (.tmp 40) _ rfl (base:=w.heap.size) KF KD KE rfl (Own.alloc iT.out _) rfl (l2:=[((l,⟨xa,xn,xc⟩):List Int×SV)]) (Sl.lit (n:=1) (ah.made rfl _ _) rfl (eG (by omega))) (by simp only [List.length_cons,List.length_nil];omega) (by simp only [List.length_cons,List.length_nil];omega) (by simp;omega) ?_;intro v3 w3 ho3 hg3 RU;obtain ⟨A3,c3,hv3,-⟩:=Own.qO ho3;have hsh:(R++[((l,⟨xa,xn,xc⟩):List Int×SV)]).length=R.length+1:=by simp
      rw [hsh] at hv3;subst hv3;have iC:=Lib.hid ho3;have sW:=Lib.hid (iJ.ahx (by decide) (HA2.out.keep (bA (bR w2) _)) hg3 (Own.alloc iT.out _) II.out);have dP:=Lib.hid (ah.grown (eF.out.alloc _) hg3 (fun e=>n1 e.symm));have HB3:=Lib.hid (bG (bA HB2.out _) hg3 (fun g hg=>(iT.out.lt g hg).1));clear ho3 hg3 RU
      )
    clear n1;go_wp2_with fail;go_roundw
    case rel => exact ⟨k+1,L,_,by omega,by go_num,⟨_,_,rfl⟩,⟨A3,c3,by rw [hsh]⟩,sW.out,iC.out,by rw [RQ.out];exact HD.out,HT.out,by rw [RS.out,List.map_append,MC.out];rfl,(fun x hx=>by
      rcases List.mem_append.1 hx with hx | hx
      · exact RP.out x hx
      · rw [List.mem_singleton] at hx;subst hx;exact zB.out),II.out,by omega,by rw [hsh];omega,dP.out,HB3.out⟩
    case measure => simp [intOf];omega
  ·have hkk:k=CL.length:=by omega
   subst hkk;have hd0:=HD.out;have hd:=HD.out;have hrm:=MC.out;rw [mX.out,ahC] at hd;rw [mX.out,ahD] at hrm;have hsep:∀ x∈L,jv (aP x.iv) (.slice A' R.length c'):=fun x hx=>by rw [II.out x hx];intro g hg;cases hg
   have HD3:=Lib.hid hd;have RV:=Lib.hid hrm;have uJ:=Lib.hid hsep;have hl0:0<L.length:=by have:=hd0.len;omega
   clear HD MC II hd hd0 hrm hsep X1 pO HI KH EJ;go_upto_block 2 with fail;go_wp2_with fail;go_loopw [45] (fun i wr=>∃ (j:Nat) (L2:List AD),j<=R.length/\i=.int .i64 j/\L2.length=L.length/\iJ 82 w wr w.heap.size (.slice A L.length c) L2/\Own wr w.heap.size 24 1 kL (.slice A' R.length c') R/\jw p L2 (jc p) ((qM p).take j) []/\oP p L2/\(∀ x∈L2,jv (aP x.iv) (.slice A' R.length c'))/\ah wr w.heap.size 26 #[.slice An p.nodes.length cn,.slice Aa na ca,.slice Af nf cf]/\Below w.heap.size w wr) (fun i _=>R.length-(intOf i).toNat)
   case atStart => exact ⟨0,L,Nat.zero_le _,rfl,rfl,HA.out,HO.out,by rw [List.take_zero];exact HD3.out,HT.out,uJ.out,HX.out,Hb.out⟩
   case round =>
    clear HA HO HD3 HT uJ HX Hb;obtain ⟨j,L2,hj,rfl,hl3,had,hor,hdv,htw,hsp,X1,hb⟩:=hrel;obtain ⟨wo,rfl⟩:∃ wo:World,wo=wr:=⟨_,rfl⟩;have HA:=Lib.hid had;have HO:=Lib.hid hor;have HD:=Lib.hid hdv;have HT:=Lib.hid htw;have HS:=Lib.hid hsp;have HX:=Lib.hid X1;have Hb:=Lib.hid hb;clear had hor hdv htw hsp hb;by_cases hlj:j<R.length
    ·have hrl:=HO.out.lt;obtain ⟨b,o,hA',hlb,c0⟩:=(HO.out.row_of).cy hlj;subst hA';have htk:=ahF RV.out hlj;have hmem:R[j].1∈qM p:=by rw [<- RV.out];exact List.mem_map_of_mem (List.getElem_mem hlj)
     have hin:=RP.out R[j] (List.getElem_mem hlj);generalize R[j]=x at *;obtain ⟨l,xa,xn,xc⟩:=x;unfold aP at hin;simp only at hin c0 htk hmem;have hcm:=(XI.1 hmem).1;have hne:=HV.out.Me hcm;have hkl:0<l.length:=List.length_pos_iff.2 hne;have hhd:l.headD 0=l[0]:=by
      cases l with
      | nil=>exact absurd rfl hne
      | cons d l'=>rfl
     have hdd:l[0]∈dS p:=(HV.out.Bv hcm).2 _ (List.getElem_mem hkl);obtain ⟨a,ha,ahH,hpt⟩:=HV.out.Pz hdd;have hcp:GH p l=(aK p a).getD 0 aQ:=by unfold GH;rw [hhd,hpt]
     have hid:=HV.out.oC ha;have hlen:2<=(aK p a).length:=by have:=jQ p a;omega
     have Ee:=HV.out.Em ha;have hpl:(aK p a).length<=66:=by have:=jQ p a;omega
     have nv:=HV.out.oW ha (k:=0) (by omega);have MF:0<(aK p a).length:=by omega
     have egd:(aK p a).getD 0 aQ=(aK p a)[0]:=by simp only [List.getD_eq_getElem?_getD,List.getElem?_eq_getElem MF,Option.getD_some]
     rw [egd] at hcp nv;obtain ⟨n,hmp⟩:=(sH.out.keep Hb.out).mp;have hlk:=(hmp.keep (bD (bR wo))).look a.id (nR (by omega) (by omega));have EG:=sH.out.rd a ha;have k1:IntKind.i64.wrap (-l[0])=-l[0]:=IntWalk.i64_in _ (by omega);have km:max l[0] (-l[0])=a.id:=by omega
     have zB:=Lib.hid hin;obtain ⟨Al,cl,hel,-,-,hRl⟩:=hin.mono Hb.out;injection hel with y1 y2 y3;subst y1 y2 y3;obtain ⟨bl,ol,RX,RY,d0⟩:=(hRl).int hkl;subst RX;simp only [Nat.add_zero] at d0;have kz:(0:Int)<l.length:=by omega
     have kn:¬ l=[]:=hne;generalize f a.id=y at *;obtain ⟨Ap,np,cp⟩:=y;unfold aP at hlk EG;have GU:=Lib.hid EG;obtain ⟨YH,cp',he,hp1,hp2,-⟩:=EG;injection he with y1 y2 y3;subst y1 y2 y3;unfold maxLen at hp2;have mQ:=Lib.hid htk;have LW:=Lib.hid hcp;have MG:=Lib.hid nv;have HKn:=Lib.hid hkl;clear hmp hdd htk hmem hpt ahH ha Ee hcm hhd hne hcp nv egd;generalize a.id=ai at *;generalize aK p a=P at *;generalize l[0]=dd at *;clear hid;go_upto_region 14 with fail;refine dN (Since wo) (.run 9 0 0 (.call 9 1023 (.take 10 2047 (.done)))) (by kernel_rfl) (bD (bR _)) (by kernel_rfl) (by kernel_rfl) (Nat.le_of_ble_eq_true (by kernel_rfl)) ?_;intro dO QR aj aA hS
     iterate 9
      apply aH;exact aj;exact rfl;exact hS;exact rfl
      · intro _ hqc;go_simp;try rfl
      try simp only [pu]
     refine aS (i:=9) (aB aj rfl) (fun K hK=>?_);have ak:=Lib.hid hS;clear hS;refine aG (aN rfl) ?_;go_simp;refine hK.out _ _ ak.out (fun hS=>?_);clear hK K ak
     try simp only [pu]
     apply aH;exact aj;exact rfl;exact hS;exact rfl
     · intro _ hqc;go_simp;try rfl
     try simp only [pu]
     refine dF ?_;refine aA.down _ _ ?_;have hB:Below wo.heap.size wo wo.drew:=hS;clear hS aA aj;obtain ⟨W3,hW3⟩:∃ W:World,W=wo.drew:=⟨_,rfl⟩;rw [<- hW3] at hB ⊢;have HB3:=Lib.hid (bT Hb.out hB);have sW:=Lib.hid (HA.out.keep hB);have iC:=Lib.hid (HO.out.keep hB);have dP:=Lib.hid (HX.out.keep hB);clear hW3 hB HA HO HX Hb c0 d0 hlk k1 km hlb RY X1;obtain ⟨YH,cp',he,-,-,oI⟩:=GU.out.mono HB3.out;injection he with y1 y2 y3;subst y1 y3;clear y2;obtain ⟨bp,op,o9,hlp,e10,e11⟩:=(oI).pt MF;subst o9;simp only [Nat.zero_mul,Nat.add_zero] at e10 e11;clear oI;have kz2:(0:Int)<P.length:=by omega
     have kn2:¬ P=[]:=fun e=>by rw [e] at MF;simp at MF
     have HF:=Lib.hid (HFi.out W3 HB3.out (.slice A L.length c) L2 (sW.out.read HB3.out) (fun x hx d hd=>by
      rcases HD.out.aap hx with e | e
      · rw [e] at hd;cases hd
      · exact (HV.out.Bv (J9.1 e).1).2 d hd) (by omega) P[0] MG.out)
     go_wp2_with fail;refine HF.out.mono ?_;rintro e w4 ⟨⟨bb,rfl,hbx⟩,hb4⟩;obtain ⟨hbl,hhm⟩:=HD.out.home rfl HT.out hbx;rw [<- LW.out] at hhm;have IJ:=Lib.hid hhm;have HB4:=Lib.hid (bT HB3.out hb4);have jy:=Lib.hid (sW.out.keep hb4);have ni:=Lib.hid (iC.out.keep hb4);have dJ:=Lib.hid (dP.out.keep hb4);have aj6:=hb4.size;clear hb4 HF HB3 sW iC dP e10 e11 kz2 kn2 hbx hhm GU MG LW hlp kz kn;obtain ⟨g,hA2,hg0,hgl,-,hce⟩:=Own.EY jy.out.own (by omega);subst hA2;obtain ⟨-,-,e2,-⟩:=hce bb hbl;have pR:=jy.out.inn _ (List.getElem_mem hbl);have hse:=HS.out _ (List.getElem_mem hbl);have hNl:L2[bb].inn.length<=512:=by
      have:=congrArg List.length (HD.out.inn bb hbl)
      rw [List.length_map] at this;rw [this];exact Nat.le_trans (List.length_filter_le _ _) (by rw [List.length_take];omega)
     obtain ⟨iv,hiv⟩:∃ iv,L2[bb].iv=iv:=⟨_,rfl⟩;obtain ⟨N,hN⟩:∃ N,L2[bb].inn=N:=⟨_,rfl⟩;rw [hiv,hN] at pR;rw [hiv] at e2 hse;rw [hN] at hNl;obtain ⟨ia,vG,ic⟩:=iv;unfold aP at pR e2 hse;have xP:=Lib.hid hiv;have IK:=Lib.hid hN;have Iu:=Lib.hid hse;have jD:=Lib.hid pR;clear hiv hN hce hse pR;have kb1:(bb:Int)<L.length:=by omega
     have kb2:0<=(bb:Int):=by omega
     have hsh:(N++[((l,⟨some ⟨bl,ol,none⟩,l.length,xc⟩):List Int×SV)]).length=N.length+1:=by simp
     have ji:=Lib.hid hsh;clear hsh;go_upto_region 17 with
      (at_builtin
       refine jX _ rfl (.tmp 71) (.tmp 73) _ rfl (base:=w.heap.size) KF KD KE rfl (Own.alloc jD.out _) rfl (l2:=[((l,⟨some ⟨bl,ol,none⟩,l.length,xc⟩):List Int×SV)]) (Sl.lit (n:=1) (ah.made rfl _ _) rfl (eG (by omega))) (by simp only [List.length_cons,List.length_nil];omega) (by simp only [List.length_cons,List.length_nil];omega) (by have:=HB4.out.size;simp;omega) ?_;intro v5 w5 eX hg5 jP;obtain ⟨A5,c5,hv5,-⟩:=Own.qO eX;rw [ji.out] at hv5;subst hv5;have hown5:=Own.grown (Own.alloc jy.out.own _) hg5 (fun g hg=>Own.apart jy.out.own jD.out (by decide) g hg);obtain ⟨g',hg',-,MH,uN,uO⟩:=Own.EY hown5 (by omega);injection hg' with hg';injection hg' with hg' _ _;subst hg';obtain ⟨-,-,f2,-⟩:=uO bb hbl;have hf2:=uN (bb*4+2);have xM:=Lib.hid (iJ.ahy (by decide) (jy.out.keep (bA (bR w4) _)) hbl (sV:=⟨A5,N.length+1,c5⟩) (c:=(l,⟨some ⟨bl,ol,none⟩,l.length,xc⟩)) (by rw [IK.out];exact eX) (by rw [xP.out];exact hg5) (by rw [xP.out];exact jP) zB.out);have vP:=Lib.hid (Own.far (p:=⟨g,bb*4+2,none⟩) (Own.grown (Own.alloc ni.out _) hg5 (fun q hq e=>Iu.out q e.symm hq)) (fun e=>Own.apart ni.out jy.out.own (by decide) g e rfl) (.slice A5 (N.length+1) c5));have bP:=Lib.hid (ah.far (p:=⟨g,bb*4+2,none⟩) (ah.grown (dJ.out.alloc _) hg5 (fun e=>Own.fD jD.out dJ.out (by decide) e.symm)) (fun e=>Own.fD jy.out.own dJ.out (by decide) (by rw [e];rfl)) (.slice A5 (N.length+1) c5));have cO:=Lib.hid (bS (p:=⟨g,bb*4+2,none⟩) (bG (bA HB4.out _) hg5 (fun g hg=>(jD.out.lt g hg).1)) hg0 (.slice A5 (N.length+1) c5));have vO:=Lib.hid (show jv (.slice A5 (N.length+1) c5) (.slice (some ⟨b,o,none⟩) R.length c') from fun q hq e=>by
        rcases jP with h | h
        · exact Iu.out q (h.symm.trans hq) e
        ·have h1:=(ni.out.lt q e).2;rw [hq] at h;have:=Option.some.inj h
         simp at this;omega)
       clear eX hg5 jP hown5 uO uN e2
       )
     clear f2 hf2 jy ni dJ HB4 jD Iu hgl MH;go_wp2_with fail;go_roundw
     case rel => exact ⟨j+1,_,by omega,by go_num,by rw [List.length_set];exact hl3,xM.out,vP.out,by rw [mQ.out];exact HD.out.inner MB.out hbl l ⟨some ⟨bl,ol,none⟩,l.length,xc⟩ ⟨A5,N.length+1,c5⟩ IJ.out,HT.out.set hbl rfl rfl,(fun x hx=>by
       rcases rF hx with ⟨rfl,_⟩ | ⟨q,hq,_,rfl⟩
       · exact vO.out
       · exact HS.out _ (List.getElem_mem hq)),bP.out,cO.out⟩
     case measure => simp [intOf];omega
    ·have hjj:j=R.length:=by omega
     subst hjj;have hrl:R.length=(qM p).length:=by rw [<- RV.out,List.length_map]
     have hd:=HD.out;rw [hrl,List.take_length] at hd;have HD6:=Lib.hid hd;clear HD HS HO hd hrl X1;have X1:=HX.out
     try clear aZ
     try clear bf
     try clear bg
     try clear bK
     obtain ⟨aZ,bf,bg,bK,-,-,-⟩:=X1.aJ;go_upto_block 4 with fail;clear X1 aZ bf bg bK;go_wp2_with fail;go_loopw [81] (fun i wr=>∃ (k:Nat) (L3:List AD),k<=p.nodes.length/\i=.int .i64 k/\L3.length=L.length/\iJ 82 w wr w.heap.size (.slice A L.length c) L3/\jw p L3 (jc p) (qM p) (p.nodes.take k)/\oP p L3/\ah wr w.heap.size 26 #[.slice An p.nodes.length cn,.slice Aa na ca,.slice Af nf cf]/\Below w.heap.size w wr) (fun i _=>p.nodes.length-(intOf i).toNat)
     case atStart => exact ⟨0,L2,Nat.zero_le _,rfl,hl3,HA.out,by rw [List.take_zero];exact HD6.out,HT.out,HX.out,Hb.out⟩
     case round =>
      clear HA HD6 HT HX Hb;obtain ⟨k,L3,hk,rfl,hl4,had,hdv,htw,X1,hb⟩:=hrel;obtain ⟨wo,rfl⟩:∃ wo:World,wo=wr:=⟨_,rfl⟩;have HA:=Lib.hid had;have HD:=Lib.hid hdv;have HT:=Lib.hid htw;have HX:=Lib.hid X1;have Hb:=Lib.hid hb;clear had hdv htw hb;by_cases hlk:k<p.nodes.length
      ·obtain ⟨b,o,rfl,hlb,c0,c1,c2'⟩:=(HRn.out.mono Hb.out).nd hlk;have htk:p.nodes.take (k+1)=p.nodes.take k++[p.nodes[k]]:=List.take_succ_eq_append_getElem hlk;have nv:=HV.out.OI (List.getElem_mem hlk);generalize p.nodes[k]=nd at *;have mQ:=Lib.hid htk;have MG:=Lib.hid nv;have RZ:=Lib.hid (fun W (hW:Below w.heap.size w W)=>Ec.out nd.id W hW);have CV:=Lib.hid (fun h0=>HD.out.pass nd h0);clear htk nv;obtain ⟨dg,hdg⟩:∃ dg,kS p.au nd.id=dg:=⟨_,rfl⟩;rw [hdg] at RZ CV;have IB:=Lib.hid hdg;clear hdg;go_upto_region 21 with fail;obtain ⟨W2,hW⟩:∃ W:World,W=wo.alloc (.cells #[.int .i64 nd.id,.int .i64 nd.pt.x,.int .i64 nd.pt.y] 45):=⟨_,rfl⟩;have hA:Below wo.heap.size wo W2:=by rw [hW];exact bA (bR wo) _
       have X5:ah W2 wo.heap.size 45 #[.int .i64 nd.id,.int .i64 nd.pt.x,.int .i64 nd.pt.y]:=by rw [hW];exact ah.made rfl _ _
       replace X1:=X1.keep hA;have HA2:=Lib.hid (HA.out.keep hA);have eF:=Lib.hid X1;have bP:=Lib.hid X5;have HB2:=Lib.hid (bT Hb.out hA);have hz2:=Hb.out.size;rw [<- hW];clear hW hA HA HX Hb c0 c1 c2' hlb;obtain ⟨g5,hg5⟩:∃ g5,wo.heap.size=g5:=⟨_,rfl⟩;rw [hg5] at bP X5 hz2 ⊢;clear hg5
       try clear aZ
       try clear bf
       try clear bg
       try clear bK
       obtain ⟨aZ,bf,bg,bK,-,-,-⟩:=X1.aJ;obtain ⟨bV,bW,dH,iR,-,-,-⟩:=X5.aJ;go_wp2_with fail;refine (RZ.out _ HB2.out).mono ?_;rintro e w3 ⟨rfl,hb3⟩;have HB3:=Lib.hid (bT HB2.out hb3);have sW:=Lib.hid (HA2.out.keep hb3);have dP:=Lib.hid (eF.out.keep hb3);have MI:=bP.out.keep hb3;have xQ:=Lib.hid MI;clear hb3 X1 aZ bf bg bK X5 bV bW dH iR RZ HA2 eF bP HB2;by_cases h0:dg=0
       ·subst h0;have X5:=MI;clear MI CV
        try clear bV
        try clear bW
        try clear dH
        try clear iR
        obtain ⟨bV,bW,dH,iR,-,-,-⟩:=X5.aJ;have HF:=Lib.hid (HFi.out w3 HB3.out (.slice A L.length c) L3 (sW.out.read HB3.out) (fun x hx d hd=>by
         rcases HD.out.aap hx with e | e
         · rw [e] at hd;cases hd
         · exact (HV.out.Bv (J9.1 e).1).2 d hd) (by omega) nd.pt MG.out)
        go_wp2_with fail;refine HF.out.mono ?_;rintro e w4 ⟨⟨bb,rfl,hbx⟩,hb4⟩;obtain ⟨hbl,hhm⟩:=HD.out.home rfl HT.out hbx;have IJ:=Lib.hid hhm;have HB4:=Lib.hid (bT HB3.out hb4);have jy:=Lib.hid (sW.out.keep hb4);have dJ:=Lib.hid (dP.out.keep hb4);have MJ:=Lib.hid (xQ.out.keep hb4);have hz4:=hb4.size;clear hb4 HF HB3 sW dP xQ X5 bV bW dH iR hbx hhm;obtain ⟨g,hA2,hg0,hgl,-,hce⟩:=Own.EY jy.out.own (by omega);subst hA2;obtain ⟨-,-,-,e2⟩:=hce bb hbl;have pR:=jy.out.dM _ (List.getElem_mem hbl);have hNl:L3[bb].dM.length<=256:=by
         rw [HD.out.dM bb hbl,List.length_map];exact Nat.le_trans (List.length_filter_le _ _) (by rw [List.length_take];omega)
        obtain ⟨iv,hiv⟩:∃ iv,L3[bb].av=iv:=⟨_,rfl⟩;obtain ⟨N,hN⟩:∃ N,L3[bb].dM=N:=⟨_,rfl⟩;rw [hiv,hN] at pR;rw [hiv] at e2;rw [hN] at hNl;obtain ⟨ia,vG,ic⟩:=iv;unfold aP at pR e2;have xP:=Lib.hid hiv;have IK:=Lib.hid hN;have jD:=Lib.hid pR;clear hiv hN hce pR;have kb1:(bb:Int)<L.length:=by omega
        have kb2:0<=(bb:Int):=by omega
        have hsh:(N++[nd.id]).length=N.length+1:=by simp
        have ji:=Lib.hid hsh;clear hsh;have X5:=MJ.out
        try clear bV
        try clear bW
        try clear dH
        try clear iR
        obtain ⟨bV,bW,dH,iR,-,-,-⟩:=X5.aJ;have GL:w.heap.size<=w4.heap.size:=HB4.out.size;go_upto_region 23 with fail;refine dN (fA (w.heap.size) w4) (.run 6 0 0 (.take 7 191 (.two 6 255 (.call 8 511 (.call 9 1023 (.call 10 2047 (.take 11 4095 (.take 12 8191 (.call 13 16383 (.done))))))) 8 447 (.two 6 511 (.call 9 1023 (.call 10 2047 (.take 11 4095 (.take 12 8191 (.call 13 16383 (.done)))))) 9 959 (.call 6 1023 (.call 10 2047 (.take 11 4095 (.take 12 8191 (.call 13 16383 (.done)))))))))) (by kernel_rfl) (Below.drew (Below.refl _ _)) (by kernel_rfl) (by kernel_rfl) (Nat.le_of_ble_eq_true (by kernel_rfl)) ?_;intro dO QR aj aA hS
        iterate 7
         apply qh;exact aj;exact rfl;exact hS;exact rfl
         · intro _ hqc;go_simp;try rfl
         try simp only [pu]
        refine wB (i:=6) (j:=8) (aB aj rfl) (aB aj rfl) (fun K hK=>?_) (fun K hK=>?_)
        ·have ak:=Lib.hid hS;clear hS;refine aG (aN rfl) ?_;go_simp;refine hK.out _ _ ak.out (fun hS=>?_);clear hK K ak
         try simp only [pu]
         refine aS (i:=8) (aB aj rfl) (fun K hK=>?_);have ak:=Lib.hid hS;clear hS;refine aG (aN rfl) ?_;go_simp;refine hK.out _ _ ak.out (fun hS=>?_);clear hK K ak
         try simp only [pu]
         refine aS (i:=9) (aB aj rfl) (fun K hK=>?_);have ak:=Lib.hid hS;clear hS;refine aG (aN rfl) ?_;go_simp;refine hK.out _ _ (fP (by omega) ak.out _) (fun hS=>?_);clear hK K ak
         try simp only [pu]
         refine aS (i:=10) (aB aj rfl) (fun K hK=>?_);have ak:=Lib.hid hS;clear hS;refine aG (aN rfl) ?_;refine nK (.tmp 101) (.tmp 104) _ rfl (base:=w.heap.size) uQ qc uS rfl ((jD.out.keep (bD (bR w4))).alloc _) rfl (l2:=[nd.id]) (Sl.lit (n:=1) (ah.made rfl _ _) rfl (eG (by omega))) (by simp only [List.length_cons,List.length_nil];omega) (by simp only [List.length_cons,List.length_nil];omega) (by simp;omega) ?_;intro v5 w5 eX hg5 jP;obtain ⟨A5,c5,hv5,-⟩:=Own.qO eX;rw [ji.out] at hv5;subst hv5;have hown5:=Own.grown ((jy.out.own.keep (bD (bR w4))).alloc _) hg5 (fun g hg=>Own.apart jy.out.own jD.out (by decide) g hg);obtain ⟨g',hg',-,MH,uN,uO⟩:=Own.EY hown5 (by omega);injection hg' with hg';injection hg' with hg' _ _;subst hg';obtain ⟨-,-,-,f2⟩:=uO bb hbl;have hf2:=uN (bb*4+3);have xM:=Lib.hid (iJ.RJ (by decide) (jy.out.keep (bA (bD (bR w4)) _)) hbl (pK:=⟨A5,N.length+1,c5⟩) (c:=nd.id) (by rw [IK.out];exact eX) (by rw [xP.out];exact hg5) (by rw [xP.out];exact jP));have bP:=Lib.hid (ah.far (p:=⟨g,bb*4+3,none⟩) (ah.grown ((dJ.out.drew).alloc _) hg5 (fun e=>Own.fD jD.out dJ.out (by decide) e.symm)) (fun e=>Own.fD jy.out.own dJ.out (by decide) (by rw [e];rfl)) (.slice A5 (N.length+1) c5));have cO:=Lib.hid (bS (p:=⟨g,bb*4+3,none⟩) (bG (bA (bD HB4.out) _) hg5 (fun g hg=>(jD.out.lt g hg).1)) hg0 (.slice A5 (N.length+1) c5));have hS:fA (w.heap.size) w4 w5:=Below.grown (show Below w.heap.size w4 _ from ak.out) hg5 (Nat.le_trans GL (show Below w.heap.size w4 _ from ak.out).size) (fun g hg=>(jD.out.lt g hg).1);clear eX hg5 jP hown5 uO uN e2;clear ak;refine hK.out _ _ hS (fun _=>?_);clear hK K
         try simp only [pu]
         iterate 2
          apply qh;exact aj;exact rfl;exact hS;exact rfl
          · intro _ hqc;go_simp;try rfl
          try simp only [pu]
         refine aS (i:=13) (aB aj rfl) (fun K hK=>?_);have ak:=Lib.hid hS;clear hS;refine aG (aN rfl) ?_;go_simp;refine hK.out _ _ (by unfold fA;have h:Below _ _ _:=ak.out;repeat (first | with_reducible assumption | with_reducible exact Below.refl _ _ | with_reducible refine jY ?_ (by first | omega | (simp;omega)) _ | with_reducible refine Below.drew ?_ | with_reducible refine fP (by omega) ?_ _ | exact h)) ?_;intro hS;clear hK K ak
         try simp only [pu]
         refine dF ?_;refine aA.down _ _ ?_;have hB:Below (w.heap.size) w4 _:=hS;clear hS aA aj;go_wp2_with fail;go_roundw
         case rel => exact ⟨k+1,_,by omega,by go_num,by rw [List.length_set];exact hl4,xM.out,by rw [mQ.out];exact HD.out.lone MB.out hbl nd ⟨A5,N.length+1,c5⟩ IB.out IJ.out,HT.out.set hbl rfl rfl,bP.out,cO.out⟩
         case measure => simp [intOf];omega
        ·have ak:=Lib.hid hS;clear hS;refine aG (aN rfl) ?_;go_simp;refine hK.out _ _ ak.out (fun hS=>?_);clear hK K ak
         try simp only [pu]
         refine wB (i:=6) (j:=9) (aB aj rfl) (aB aj rfl) (fun K hK=>?_) (fun K hK=>?_)
         ·have ak:=Lib.hid hS;clear hS;refine aG (aN rfl) ?_;go_simp;refine hK.out _ _ ak.out (fun hS=>?_);clear hK K ak
          try simp only [pu]
          refine aS (i:=9) (aB aj rfl) (fun K hK=>?_);have ak:=Lib.hid hS;clear hS;refine aG (aN rfl) ?_;go_simp;refine hK.out _ _ (fP (by omega) ak.out _) (fun hS=>?_);clear hK K ak
          try simp only [pu]
          refine aS (i:=10) (aB aj rfl) (fun K hK=>?_);have ak:=Lib.hid hS;clear hS;refine aG (aN rfl) ?_;refine nK (.tmp 101) (.tmp 104) _ rfl (base:=w.heap.size) uQ qc uS rfl ((jD.out.keep (bD (bR w4))).alloc _) rfl (l2:=[nd.id]) (Sl.lit (n:=1) (ah.made rfl _ _) rfl (eG (by omega))) (by simp only [List.length_cons,List.length_nil];omega) (by simp only [List.length_cons,List.length_nil];omega) (by simp;omega) ?_;intro v5 w5 eX hg5 jP;obtain ⟨A5,c5,hv5,-⟩:=Own.qO eX;rw [ji.out] at hv5;subst hv5;have hown5:=Own.grown ((jy.out.own.keep (bD (bR w4))).alloc _) hg5 (fun g hg=>Own.apart jy.out.own jD.out (by decide) g hg);obtain ⟨g',hg',-,MH,uN,uO⟩:=Own.EY hown5 (by omega);injection hg' with hg';injection hg' with hg' _ _;subst hg';obtain ⟨-,-,-,f2⟩:=uO bb hbl;have hf2:=uN (bb*4+3);have xM:=Lib.hid (iJ.RJ (by decide) (jy.out.keep (bA (bD (bR w4)) _)) hbl (pK:=⟨A5,N.length+1,c5⟩) (c:=nd.id) (by rw [IK.out];exact eX) (by rw [xP.out];exact hg5) (by rw [xP.out];exact jP));have bP:=Lib.hid (ah.far (p:=⟨g,bb*4+3,none⟩) (ah.grown ((dJ.out.drew).alloc _) hg5 (fun e=>Own.fD jD.out dJ.out (by decide) e.symm)) (fun e=>Own.fD jy.out.own dJ.out (by decide) (by rw [e];rfl)) (.slice A5 (N.length+1) c5));have cO:=Lib.hid (bS (p:=⟨g,bb*4+3,none⟩) (bG (bA (bD HB4.out) _) hg5 (fun g hg=>(jD.out.lt g hg).1)) hg0 (.slice A5 (N.length+1) c5));have hS:fA (w.heap.size) w4 w5:=Below.grown (show Below w.heap.size w4 _ from ak.out) hg5 (Nat.le_trans GL (show Below w.heap.size w4 _ from ak.out).size) (fun g hg=>(jD.out.lt g hg).1);clear eX hg5 jP hown5 uO uN e2;clear ak;refine hK.out _ _ hS (fun _=>?_);clear hK K
          try simp only [pu]
          iterate 2
           apply qh;exact aj;exact rfl;exact hS;exact rfl
           · intro _ hqc;go_simp;try rfl
           try simp only [pu]
          refine aS (i:=13) (aB aj rfl) (fun K hK=>?_);have ak:=Lib.hid hS;clear hS;refine aG (aN rfl) ?_;go_simp;refine hK.out _ _ (by unfold fA;have h:Below _ _ _:=ak.out;repeat (first | with_reducible assumption | with_reducible exact Below.refl _ _ | with_reducible refine jY ?_ (by first | omega | (simp;omega)) _ | with_reducible refine Below.drew ?_ | with_reducible refine fP (by omega) ?_ _ | exact h)) ?_;intro hS;clear hK K ak
          try simp only [pu]
          refine dF ?_;refine aA.down _ _ ?_;have hB:Below (w.heap.size) w4 _:=hS;clear hS aA aj;go_wp2_with fail;go_roundw
          case rel => exact ⟨k+1,_,by omega,by go_num,by rw [List.length_set];exact hl4,xM.out,by rw [mQ.out];exact HD.out.lone MB.out hbl nd ⟨A5,N.length+1,c5⟩ IB.out IJ.out,HT.out.set hbl rfl rfl,bP.out,cO.out⟩
          case measure => simp [intOf];omega
         ·have ak:=Lib.hid hS;clear hS;refine aG (aN rfl) ?_;go_simp;refine hK.out _ _ (fP (by omega) ak.out _) (fun hS=>?_);clear hK K ak
          try simp only [pu]
          refine aS (i:=6) (aB aj rfl) (fun K hK=>?_);have ak:=Lib.hid hS;clear hS;refine aG (aN rfl) ?_;go_simp;refine hK.out _ _ ak.out (fun hS=>?_);clear hK K ak
          try simp only [pu]
          refine aS (i:=10) (aB aj rfl) (fun K hK=>?_);have ak:=Lib.hid hS;clear hS;refine aG (aN rfl) ?_;refine nK (.tmp 101) (.tmp 104) _ rfl (base:=w.heap.size) uQ qc uS rfl ((jD.out.keep (bD (bR w4))).alloc _) rfl (l2:=[nd.id]) (Sl.lit (n:=1) (ah.made rfl _ _) rfl (eG (by omega))) (by simp only [List.length_cons,List.length_nil];omega) (by simp only [List.length_cons,List.length_nil];omega) (by simp;omega) ?_;intro v5 w5 eX hg5 jP;obtain ⟨A5,c5,hv5,-⟩:=Own.qO eX;rw [ji.out] at hv5;subst hv5;have hown5:=Own.grown ((jy.out.own.keep (bD (bR w4))).alloc _) hg5 (fun g hg=>Own.apart jy.out.own jD.out (by decide) g hg);obtain ⟨g',hg',-,MH,uN,uO⟩:=Own.EY hown5 (by omega);injection hg' with hg';injection hg' with hg' _ _;subst hg';obtain ⟨-,-,-,f2⟩:=uO bb hbl;have hf2:=uN (bb*4+3);have xM:=Lib.hid (iJ.RJ (by decide) (jy.out.keep (bA (bD (bR w4)) _)) hbl (pK:=⟨A5,N.length+1,c5⟩) (c:=nd.id) (by rw [IK.out];exact eX) (by rw [xP.out];exact hg5) (by rw [xP.out];exact jP));have bP:=Lib.hid (ah.far (p:=⟨g,bb*4+3,none⟩) (ah.grown ((dJ.out.drew).alloc _) hg5 (fun e=>Own.fD jD.out dJ.out (by decide) e.symm)) (fun e=>Own.fD jy.out.own dJ.out (by decide) (by rw [e];rfl)) (.slice A5 (N.length+1) c5));have cO:=Lib.hid (bS (p:=⟨g,bb*4+3,none⟩) (bG (bA (bD HB4.out) _) hg5 (fun g hg=>(jD.out.lt g hg).1)) hg0 (.slice A5 (N.length+1) c5));have hS:fA (w.heap.size) w4 w5:=Below.grown (show Below w.heap.size w4 _ from ak.out) hg5 (Nat.le_trans GL (show Below w.heap.size w4 _ from ak.out).size) (fun g hg=>(jD.out.lt g hg).1);clear eX hg5 jP hown5 uO uN e2;clear ak;refine hK.out _ _ hS (fun _=>?_);clear hK K
          try simp only [pu]
          iterate 2
           apply qh;exact aj;exact rfl;exact hS;exact rfl
           · intro _ hqc;go_simp;try rfl
           try simp only [pu]
          refine aS (i:=13) (aB aj rfl) (fun K hK=>?_);have ak:=Lib.hid hS;clear hS;refine aG (aN rfl) ?_;go_simp;refine hK.out _ _ (by unfold fA;have h:Below _ _ _:=ak.out;repeat (first | with_reducible assumption | with_reducible exact Below.refl _ _ | with_reducible refine jY ?_ (by first | omega | (simp;omega)) _ | with_reducible refine Below.drew ?_ | with_reducible refine fP (by omega) ?_ _ | exact h)) ?_;intro hS;clear hK K ak
          try simp only [pu]
          refine dF ?_;refine aA.down _ _ ?_;have hB:Below (w.heap.size) w4 _:=hS;clear hS aA aj;go_wp2_with fail;go_roundw
          case rel => exact ⟨k+1,_,by omega,by go_num,by rw [List.length_set];exact hl4,xM.out,by rw [mQ.out];exact HD.out.lone MB.out hbl nd ⟨A5,N.length+1,c5⟩ IB.out IJ.out,HT.out.set hbl rfl rfl,bP.out,cO.out⟩
          case measure => simp [intOf];omega
       ·have h1:(dg == 0)=false:=by simpa using h0
        have Rt:=Lib.hid (CV.out h0);clear h0 MI CV;go_wp2_with fail;go_roundw
        case rel => exact ⟨k+1,L3,by omega,by go_num,hl4,sW.out,by rw [mQ.out];exact Rt.out,HT.out,dP.out,HB3.out⟩
        case measure => simp [intOf];omega
      ·have hkk:k=p.nodes.length:=by omega
       subst hkk;have hd:=HD.out;rw [List.take_length] at hd;have HDf:=Lib.hid hd;clear hd X1;go_wp2_with fail;go_ret;exact ⟨A,c,L3,by rw [hl4];rfl,Hb.out,by rw [hl4];exact HA.out,HDf.out,HT.out⟩
end Go.Proofs.YtialfdomhoojiaaGreat
