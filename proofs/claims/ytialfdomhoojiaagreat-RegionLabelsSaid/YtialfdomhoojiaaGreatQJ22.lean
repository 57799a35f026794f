import Derived.Test.YtialfdomhoojiaaGreatQJ21
set_option linter.unusedSimpArgs false
set_option linter.unusedVariables false
set_option maxRecDepth 100000
set_option maxHeartbeats 8000000
namespace Go.Proofs.YtialfdomhoojiaaGreat
open Go.RowKit
def auE (w:World) (p:Pl) (e:Ending) (w':World):Prop :=
 ∃ A c L,e=.returned (.slice A L.length c)/\AU w w'/\GY 82 w w' w.heap.size (.slice A L.length c) L/\Gz p L (BP p) (Js p) p.nodes/\RU p L
def ad0:AD:=⟨0,[],sv0,[],sv0,[],sv0⟩
def kZ (p:Pl) (k:Nat):List (List Int):=((Ce p).take k).filter (fun X=>decide (0<FB p X))
def dw (p:Pl) (k:Nat):List (List Int):=((Ce p).take k).filter (fun X=>!decide (0<FB p X))
theorem ajh {p:Pl} {k:Nat} (hk:k<(Ce p).length):kZ p (k+1)=kZ p k++(if 0<FB p (Ce p)[k] then [(Ce p)[k]] else []):=by
 unfold kZ;rw [F7 hk,aAQ,gq];simp only [EO,aaz]
theorem aji {p:Pl} {k:Nat} (hk:k<(Ce p).length):dw p (k+1)=dw p k++(if 0<FB p (Ce p)[k] then [] else [(Ce p)[k]]):=by
 unfold dw;rw [F7 hk,aAQ,gq];by_cases h:0<FB p (Ce p)[k]<;>simp [h]
theorem ajj (p:Pl):kZ p (Ce p).length=BP p:=by unfold kZ BP;rw [I4]
theorem ajk (p:Pl):dw p (Ce p).length=Js p:=by unfold dw Js;rw [I4]
theorem jd {CL:List (List Int×SV)} {C:List (List Int)} (h:CL.map (·.1)=C) {k:Nat} (hk:k<CL.length) (hk2:k<C.length):C[k]=CL[k].1:=by
 subst h;rw [Gp]
theorem auF {CL:List (List Int×SV)} {C:List (List Int)} (h:CL.map (·.1)=C) {k:Nat} (hk:k<CL.length):C.take (k+1)=C.take k++[CL[k].1]:=by
 subst h;rw [F7 (by simpa using hk),Gp]
theorem ajl (v vc:Value) (p:Pl) (CL:List (List Int×SV)) (gm:Nat) (f:Int->SV) (w:World) (h:Ci w v p) (hv:Valid p) (hc:qc w vc CL) (hcl:CL.map (·.1)=Ce p) (hpm:Qe w gm p f) :
  Calls Tryz.prog 58 #[v,vc,.map (some gm)] w (auE w p):=by
 have WH:=AA (fun u l (hl:l∈Ce p) W (hu:Ints W u l) (hW:AU w W)=>show Calls Tryz.prog 120 #[v,u] W fun e w'=>e=.returned (.int .i64 (FB p l))/\AU W w' from by
  have t:=apm v u p l W (h.mono hW) hu hv (fun d hd=>by have:=hv.Qh ((hv.Gq hl).2 d hd);exact N8 AB AB);rw [hv.aBv hl] at t;exact t)
 have aj:=AA (fun id W (hW:AU w W)=>aoA v p id W (h.mono hW) (by have:=hv.lim;unfold Ji at this;simp only [QC,Iy] at this;omega));have ae3:=fun W (hW:AU w W)=>ak4 W gm p f (hpm.keep hW) hv;unfold BA at ae3;have qj:=AA ae3;clear ae3;have KA:=AA hpm;have HV:=AA hv;have hnl:=hv.jU;have hcn:=hv.U5;have hll:CL.length=(Ce p).length:=by rw [<- hcl,Cj]
 have OW:=AA hcl;have JQ:=AA hll;have JI:=AA hv.aBw;obtain ⟨⟨Ac,cc,rfl,hc1,hc2,Jb⟩,hI⟩:=hc;obtain ⟨_,_,_,al,rfl,hpa,⟨An,cn,rfl,hn1,hn2,hR⟩,⟨⟨Aa,ca,rfl,-⟩,-⟩,⟨Af,cf,rfl,-⟩⟩:=h;unfold maxLen at hc2 hn2;have Pv:=AA Jb;have HI:=AA hI;have HRn:=AA hR;have az6:CL.length<=512:=by omega
 generalize p.faces.length=nf at *;generalize al.length=na at *;clear hpa Jb hI hR hv hpm hcl hll hcn;go_enter Tryz.func58,Tryz.ntmps58;go_upto_region 2 with fail;obtain ⟨W1,hW⟩:∃ W:World,W=(w.alloc (.cells #[.slice An p.nodes.length cn,.slice Aa na ca,.slice Af nf cf] 26)).alloc (.cells #[.int .i64 0,.slice none 0 0,.slice none 0 0,.slice none 0 0] 82):=⟨_,rfl⟩;have X1:AO W1 w.heap.size 26 #[.slice An p.nodes.length cn,.slice Aa na ca,.slice Af nf cf]:=by rw [hW];exact (AO.made rfl _ _).alloc _
 have Hg:=AA (show Own W1 w.heap.size 82 4 E8 (.slice (some ⟨w.heap.size+1,0,none⟩) 1 1) [ad0] by rw [hW];exact Own.lit _ _ _ _ _ _ _ _ _ Ak rfl Ak (DN AB) rfl rfl);have HB1:=AA (show AU w W1 by rw [hW];exact bA (bA (bR w) _) _);rw [<- hW];clear hW;have HA1:=AA (show GY 82 w W1 w.heap.size (.slice (some ⟨w.heap.size+1,0,none⟩) 1 1) [ad0] from ⟨Hg.out,(fun x hx=>by rw [EP] at hx;subst hx;exact Sl.nil w),(fun x hx=>by rw [EP] at hx;subst hx;exact Own.nil _ _ _ _ _),(fun x hx=>by rw [EP] at hx;subst hx;intro c hc;cases hc),(fun x hx=>by rw [EP] at hx;subst hx;exact Own.nil _ _ _ _ _),sQ _ _,sQ _ _⟩);have Dt:=AA X1;clear X1 Hg;go_upto_block 0 with fail;go_wp2_with fail;go_loopw [7,8,23] (fun s r i wr=>∃ (k:Nat) (L:List AD) (R:List (List Int×SV)),k<=CL.length/\i=.int .i64 k/\(∃ A c,s=.slice A L.length c)/\(∃ A c,r=.slice A R.length c)/\GY 82 w wr w.heap.size s L/\Own wr w.heap.size 24 1 Ia r R/\Gz p L (kZ p k) [] []/\RU p L/\R.map (·.1)=dw p k/\(∀ x∈R,Ints w (BK x.2) x.1)/\(∀ x∈L,x.iv=sv0)/\L.length<=k+1/\R.length<=k/\AO wr w.heap.size 26 #[.slice An p.nodes.length cn,.slice Aa na ca,.slice Af nf cf]/\AU w wr) (fun _ _ i _=>CL.length-(intOf i).toNat)
 case atStart => exact ⟨0,[ad0],[],Bv _,rfl,⟨_,_,rfl⟩,⟨_,_,rfl⟩,HA1.out,Own.nil _ _ _ _ _,Gz.start p ad0 rfl rfl rfl,RU.one p ad0,rfl,(fun x hx=>by cases hx),(fun x hx=>by rw [EP] at hx;subst hx;rfl),Ak,Ak,Dt.out,HB1.out⟩
 case round =>
  obtain ⟨k,L,R,hk,rfl,⟨A,c,rfl⟩,⟨A',c',rfl⟩,had,hor,hdv,htw,hrm,eF,hiv,hl1,hl2,X1,hb⟩:=hrel;obtain ⟨wo,rfl⟩:=BR wr;have HA:=AA had;have HO:=AA hor;have HD:=AA hdv;have HT:=AA htw;have aaI:=AA hrm;have RX:=AA eF;have wU:=AA hiv;have HX:=AA X1;have Hb:=AA hb;clear had hor hdv htw hrm eF hiv hb Dt HA1 HB1;by_cases hlt:k<CL.length
  ·have hlc:k<(Ce p).length:=by have:=JQ.out;omega
   obtain ⟨b,o,rfl,hlb,c0⟩:=(Pv.out.mono Hb.out).cy hlt;have hin:=HI.out CL[k] (BO hlt);have hmem:(Ce p)[k]∈Ce p:=BO hlc;have hos:=ajh hlc;have hrs:=aji hlc;rw [jd OW.out hlt hlc] at hmem hos hrs;generalize CL[k]=x at *;obtain ⟨l,xs⟩:=x;obtain ⟨xa,xn,xc⟩:=xs;simp only at hin c0 hmem hos hrs;have Jo:=AA hin;have FI:=AA (fun W (hW:AU w W)=>WH.out _ l hmem W (hin.mono hW) hW);obtain ⟨t,ht⟩:=BN (FB p l);rw [ht] at FI hos hrs;have HTe:=AA ht;have Yw:=AA hos;have HRs:=AA hrs;clear hin hmem hlc ht hos hrs;obtain ⟨BF,BG,BH,BI,-,-,-⟩:=X1.Az;go_upto_region 7 with fail;go_wp2_with fail;refine (FI.out _ Hb.out).mono ?_;rintro e w2 ⟨rfl,hb2⟩;have HB2:=AA (bT Hb.out hb2);have HA2:=AA (HA.out.keep hb2);have F9:=AA (HO.out.keep hb2);have CG:=AA (HX.out.keep hb2);have hz2:=HB2.out.size;clear hb2 X1 BF BG BH BI c0 hlb FI HA HO HX Hb;by_cases h0:0<t
   ·have hos:=Yw.out;have hrs:=HRs.out;rw [AZ h0] at hos hrs;rw [JA] at hrs;have eG:=AA hos;have Zi:=AA hrs;clear hos hrs;have n1:=Own.Dz HA2.out.own CG.out Aw;go_upto_region 10 with
     (at_builtin
      refine FK _ rfl (.tmp 32) (.tmp 36) _ rfl (base:=w.heap.size) arP RN xP rfl (Own.alloc HA2.out.own _) rfl (l2:=[(⟨t,l,⟨xa,xn,xc⟩,[],sv0,[],sv0⟩:AD)]) (Sl.lit (n:=1) (AO.made rfl _ _) rfl (DN AB)) DZ DZ DT ?_;intro v3 w3 ho3 hg3 LK;obtain ⟨A3,c3,hv3,-⟩:=Own.Ig ho3;have hsh:(L++[(⟨t,l,⟨xa,xn,xc⟩,[],sv0,[],sv0⟩:AD)]).length=L.length+1:=by simp
      rw [hsh] at hv3;subst hv3;have Jq:=AA (GY.more Aw (HA2.out.keep (bA (bR w2) _)) ho3 hg3 Jo.out rfl rfl rfl rfl);have F5:=AA (Own.grown (Own.alloc F9.out _) hg3 (fun g hg=>Own.apart F9.out HA2.out.own Aw g hg));have Ej:=AA (AO.grown (CG.out.alloc _) hg3 (fun e=>n1 e.symm));have HB3:=AA (bG (bA HB2.out _) hg3 (fun g hg=>(HA2.out.own.lt g hg).1));clear ho3 hg3 LK
      )
    clear n1;go_wp2;go_roundw
    case rel => exact ⟨k+1,_,R,AB,BJ,⟨A3,c3,by rw [hsh]⟩,⟨_,_,rfl⟩,Jq.out,F5.out,by rw [eG.out];exact HD.out.more rfl rfl _ rfl rfl,HT.out.more HTe.out.symm,by rw [Zi.out];exact aaI.out,RX.out,(fun x hx=>by
      rcases FX.1 hx with hx | hx
      · exact wU.out x hx
      · rw [EP] at hx;subst hx;rfl),by rw [hsh];omega,AB,Ej.out,HB3.out⟩
    case measure => exact BL
   ·have hos:=Yw.out;have hrs:=HRs.out;rw [AX h0] at hos hrs;rw [JA] at hos;have eG:=AA hos;have Zi:=AA hrs;clear hos hrs;have n1:=Own.Dz F9.out CG.out Aw;go_upto_region 10 with
     (at_builtin
      refine FK _ rfl (.tmp 38) (.tmp 40) _ rfl (base:=w.heap.size) ZX XZ ZW rfl (Own.alloc F9.out _) rfl (l2:=[((l,⟨xa,xn,xc⟩):List Int×SV)]) (Sl.lit (n:=1) (AO.made rfl _ _) rfl (DN AB)) DZ DZ DT ?_;intro v3 w3 ho3 hg3 LK;obtain ⟨A3,c3,hv3,-⟩:=Own.Ig ho3;have hsh:(R++[((l,⟨xa,xn,xc⟩):List Int×SV)]).length=R.length+1:=by simp
      rw [hsh] at hv3;subst hv3;have F5:=AA ho3;have Jq:=AA (GY.asW Aw (HA2.out.keep (bA (bR w2) _)) hg3 (Own.alloc F9.out _) wU.out);have Ej:=AA (AO.grown (CG.out.alloc _) hg3 (fun e=>n1 e.symm));have HB3:=AA (bG (bA HB2.out _) hg3 (fun g hg=>(F9.out.lt g hg).1));clear ho3 hg3 LK
      )
    clear n1;go_wp2;go_roundw
    case rel => exact ⟨k+1,L,_,AB,BJ,⟨_,_,rfl⟩,⟨A3,c3,by rw [hsh]⟩,Jq.out,F5.out,by rw [eG.out];exact HD.out,HT.out,by rw [Zi.out,GI,aaI.out];rfl,(fun x hx=>by
      rcases FX.1 hx with hx | hx
      · exact RX.out x hx
      · rw [EP] at hx;subst hx;exact Jo.out),wU.out,AB,by rw [hsh];omega,Ej.out,HB3.out⟩
    case measure => exact BL
  ·have hkk:k=CL.length:=by omega
   subst hkk;have hd0:=HD.out;have hd:=HD.out;have hrm:=aaI.out;rw [JQ.out,ajj] at hd;rw [JQ.out,ajk] at hrm;have hsep:∀ x∈L,IL (BK x.iv) (.slice A' R.length c'):=fun x hx=>by rw [wU.out x hx];intro g hg;cases hg
   have HD3:=AA hd;have ae4:=AA hrm;have wV:=AA hsep;have hl0:0<L.length:=by have:=hd0.len;omega
   clear HD aaI wU hd hd0 hrm hsep X1 OW HI Pv WH;go_upto_block 2 with fail;go_wp2_with fail;go_loopw [45] (fun i wr=>∃ (j:Nat) (L2:List AD),j<=R.length/\i=.int .i64 j/\L2.length=L.length/\GY 82 w wr w.heap.size (.slice A L.length c) L2/\Own wr w.heap.size 24 1 Ia (.slice A' R.length c') R/\Gz p L2 (BP p) ((Js p).take j) []/\RU p L2/\(∀ x∈L2,IL (BK x.iv) (.slice A' R.length c'))/\AO wr w.heap.size 26 #[.slice An p.nodes.length cn,.slice Aa na ca,.slice Af nf cf]/\AU w wr) (fun i _=>R.length-(intOf i).toNat)
   case atStart => exact ⟨0,L,Bv _,rfl,rfl,HA.out,HO.out,by rw [O8];exact HD3.out,HT.out,wV.out,HX.out,Hb.out⟩
   case round =>
    clear HA HO HD3 HT wV HX Hb;obtain ⟨j,L2,hj,rfl,hl3,had,hor,hdv,htw,hsp,X1,hb⟩:=hrel;obtain ⟨wo,rfl⟩:=BR wr;have HA:=AA had;have HO:=AA hor;have HD:=AA hdv;have HT:=AA htw;have HS:=AA hsp;have HX:=AA X1;have Hb:=AA hb;clear had hor hdv htw hsp hb;by_cases hlj:j<R.length
    ·have hrl:=HO.out.lt;obtain ⟨b,o,hA',hlb,c0⟩:=(HO.out.row_of).cy hlj;subst hA';have htk:=auF ae4.out hlj;have hmem:R[j].1∈Js p:=by rw [<- ae4.out];exact Gh (BO hlj)
     have hin:=RX.out R[j] (BO hlj);generalize R[j]=x at *;obtain ⟨l,xa,xn,xc⟩:=x;unfold BK at hin;simp only at hin c0 htk hmem;have hcm:=(Vt.1 hmem).1;have hne:=HV.out.Xc hcm;have hkl:0<l.length:=iD.2 hne;have hhd:l.headD 0=l[0]:=by
      cases l with
      | nil=>exact absurd rfl hne
      | cons d l'=>rfl
     have hdd:l[0]∈Bh p:=(HV.out.Gq hcm).2 _ (BO hkl);obtain ⟨a,ha,auG,hpt⟩:=HV.out.TY hdd;have hcp:RG p l=(AV p a).getD 0 AY:=by unfold RG;rw [hhd,hpt]
     have hid:=HV.out.Gx ha;have hlen:2<=(AV p a).length:=by have:=Ey p a;omega
     have Rk:=HV.out.Tv ha;have hpl:(AV p a).length<=66:=by have:=Ey p a;omega
     have nv:=HV.out.Dj ha (k:=0) AB;have aaJ:0<(AV p a).length:=by omega
     have egd:(AV p a).getD 0 AY=(AV p a)[0]:=by simp only [Fj,Dh aaJ,H9]
     rw [egd] at hcp nv;obtain ⟨n,hmp⟩:=(KA.out.keep Hb.out).mp;have hlk:=(hmp.keep (bD (bR wo))).look a.id (N8 AB AB);have O6:=KA.out.rd a ha;have k1:IntKind.i64.wrap (-l[0])=-l[0]:=D6 _ AB;have km:max l[0] (-l[0])=a.id:=by omega
     have Jo:=AA hin;obtain ⟨Al,cl,hel,-,-,hRl⟩:=hin.mono Hb.out;injection hel with y1 y2 y3;subst y1 y2 y3;obtain ⟨bl,ol,wW,wZ,d0⟩:=(hRl).int hkl;subst wW;simp only [YJ] at d0;have kz:(0:Int)<l.length:=by omega
     have kn:¬ l=[]:=hne;generalize f a.id=y at *;obtain ⟨Ap,np,cp⟩:=y;unfold BK at hlk O6;have Vz:=AA O6;obtain ⟨qR,cp',he,hp1,hp2,-⟩:=O6;injection he with y1 y2 y3;subst y1 y2 y3;unfold maxLen at hp2;have FI:=AA htk;have kQ:=AA hcp;have WJ:=AA nv;have HKn:=AA hkl;clear hmp hdd htk hmem hpt auG ha Rk hcm hhd hne hcp nv egd;generalize a.id=ai at *;generalize AV p a=P at *;generalize l[0]=dd at *;clear hid;go_upto_region 14 with fail;refine DJ (wo) (.run 9 0 0 (.call 9 1023 (.take 10 2047 (.done)))) fun CU QR Ae Ah hS=>?_
     iterate 9 refine Aj ?_
     refine Bj ?_;clear hS;intro K hK AQ;go_simp;refine hK.out _ _ AQ.out (fun hS=>?_);clear hK K AQ
     try simp only [pu]
     refine Aj ?_;refine DF ?_;clear hS Ah Ae;intro hB;obtain ⟨W3,hW3⟩:∃ W:World,W=wo.drew:=⟨_,rfl⟩;rw [<- hW3] at hB ⊢;have HB3:=AA (bT Hb.out hB);have Jq:=AA (HA.out.keep hB);have F5:=AA (HO.out.keep hB);have Ej:=AA (HX.out.keep hB);clear hW3 hB HA HO HX Hb c0 d0 hlk k1 km hlb wZ X1;obtain ⟨qR,cp',he,-,-,TK⟩:=Vz.out.mono HB3.out;injection he with y1 y2 y3;subst y1 y3;clear y2;obtain ⟨bp,op,Lm,hlp,e10,e11⟩:=(TK).pt aaJ;subst Lm;simp only [sU,YJ] at e10 e11;clear TK;have kz2:(0:Int)<P.length:=by omega
     have kn2:¬ P=[]:=fun e=>by rw [e] at aaJ;simp at aaJ
     have HF:=AA (qj.out W3 HB3.out (.slice A L.length c) L2 (Jq.out.read HB3.out) (fun x hx d hd=>by
      rcases HD.out.adu hx with e | e
      · rw [e] at hd;cases hd
      · exact (HV.out.Gq (Ku.1 e).1).2 d hd) AB P[0] WJ.out)
     go_wp2_with fail;refine HF.out.mono ?_;rintro e w4 ⟨⟨bb,rfl,hbx⟩,hb4⟩;obtain ⟨hbl,hhm⟩:=HD.out.home rfl HT.out hbx;rw [<- kQ.out] at hhm;have je:=AA hhm;have HB4:=AA (bT HB3.out hb4);have Iu:=AA (Jq.out.keep hb4);have JH:=AA (F5.out.keep hb4);have D8:=AA (Ej.out.keep hb4);have az7:=hb4.size;clear hb4 HF HB3 Jq F5 Ej e10 e11 kz2 kn2 hbx hhm Vz WJ kQ hlp kz kn;obtain ⟨g,hA2,hg0,hgl,-,hce⟩:=Own.P5 Iu.out.own AB;subst hA2;obtain ⟨-,-,e2,-⟩:=hce bb hbl;have LV:=Iu.out.inn _ (BO hbl);have hse:=HS.out _ (BO hbl);have hNl:L2[bb].inn.length<=512:=by
      have:=congrArg List.length (HD.out.inn bb hbl)
      rw [Cj] at this;rw [this];exact EH (OA _ _) su
     obtain ⟨iv,hiv⟩:=BN (L2[bb].iv);obtain ⟨N,hN⟩:=BN (L2[bb].inn);rw [hiv,hN] at LV;rw [hiv] at e2 hse;rw [hN] at hNl;obtain ⟨ia,II,ic⟩:=iv;unfold BK at LV e2 hse;have aAW:=AA hiv;have OE:=AA hN;have RY:=AA hse;have Gm:=AA LV;clear hiv hN hce hse LV;have kb1:(bb:Int)<L.length:=by omega
     have kb2:0<=(bb:Int):=by omega
     have hsh:(N++[((l,⟨some ⟨bl,ol,none⟩,l.length,xc⟩):List Int×SV)]).length=N.length+1:=by simp
     have DW:=AA hsh;clear hsh;go_upto_region 17 with
      (at_builtin
       refine FK _ rfl (.tmp 71) (.tmp 73) _ rfl (base:=w.heap.size) ZX XZ ZW rfl (Own.alloc Gm.out _) rfl (l2:=[((l,⟨some ⟨bl,ol,none⟩,l.length,xc⟩):List Int×SV)]) (Sl.lit (n:=1) (AO.made rfl _ _) rfl (DN AB)) DZ DZ (by have:=HB4.out.size;simp;omega) ?_;intro v5 w5 Di hg5 Gi;obtain ⟨A5,c5,hv5,-⟩:=Own.Ig Di;rw [DW.out] at hv5;subst hv5;have hown5:=Own.grown (Own.alloc Iu.out.own _) hg5 (fun g hg=>Own.apart Iu.out.own Gm.out Aw g hg);obtain ⟨g',hg',-,SS,G6,Hw⟩:=Own.P5 hown5 AB;injection hg' with hg';injection hg' with hg' _ _;subst hg';obtain ⟨-,-,f2,-⟩:=Hw bb hbl;have hf2:=G6 (bb*4+2);have Ii:=AA (GY.aCa Aw (Iu.out.keep (bA (bR w4) _)) hbl (Oy:=⟨A5,N.length+1,c5⟩) (c:=(l,⟨some ⟨bl,ol,none⟩,l.length,xc⟩)) Zw Zu Zv Jo.out);have Fh:=AA (Own.far (p:=⟨g,bb*4+2,none⟩) (Own.grown (Own.alloc JH.out _) hg5 (fun q hq e=>RY.out q e.symm hq)) (fun e=>Own.apart JH.out Iu.out.own Aw g e rfl) (.slice A5 (N.length+1) c5));have DI:=AA (AO.far (p:=⟨g,bb*4+2,none⟩) (AO.grown (D8.out.alloc _) hg5 (fun e=>Own.Dz Gm.out D8.out Aw e.symm)) (fun e=>Own.Dz Iu.out.own D8.out Aw (by rw [e];rfl)) (.slice A5 (N.length+1) c5));have Cm:=AA (bS (p:=⟨g,bb*4+2,none⟩) (bG (bA HB4.out _) hg5 (fun g hg=>(Gm.out.lt g hg).1)) hg0 (.slice A5 (N.length+1) c5));have qQ:=AA (show IL (.slice A5 (N.length+1) c5) (.slice (some ⟨b,o,none⟩) R.length c') from fun q hq e=>by
        rcases Gi with h | h
        · exact RY.out q (h.symm.trans hq) e
        ·have h1:=(JH.out.lt q e).2;rw [hq] at h;have:=Dq h
         simp at this;omega)
       clear Di hg5 Gi hown5 Hw G6 e2
       )
     clear f2 hf2 Iu JH D8 HB4 Gm RY hgl SS;go_wp2;go_roundw
     case rel => exact ⟨j+1,_,AB,BJ,by rw [OD];exact hl3,Ii.out,Fh.out,by rw [FI.out];exact HD.out.inner JI.out hbl l ⟨some ⟨bl,ol,none⟩,l.length,xc⟩ ⟨A5,N.length+1,c5⟩ je.out,HT.out.set hbl rfl rfl,(fun x hx=>by
       rcases V7 hx with ⟨rfl,_⟩ | ⟨q,hq,_,rfl⟩
       · exact qQ.out
       · exact HS.out _ (BO hq)),DI.out,Cm.out⟩
     case measure => exact BL
    ·have hjj:j=R.length:=by omega
     subst hjj;have hrl:R.length=(Js p).length:=by rw [<- ae4.out,Cj]
     have hd:=HD.out;rw [hrl,I4] at hd;have HD6:=AA hd;clear HD HS HO hd hrl X1;have X1:=HX.out
     try clear BF BG BH BI
     obtain ⟨BF,BG,BH,BI,-,-,-⟩:=X1.Az;go_upto_block 4 with fail;clear X1 BF BG BH BI;go_wp2_with fail;go_loopw [81] (fun i wr=>∃ (k:Nat) (L3:List AD),k<=p.nodes.length/\i=.int .i64 k/\L3.length=L.length/\GY 82 w wr w.heap.size (.slice A L.length c) L3/\Gz p L3 (BP p) (Js p) (p.nodes.take k)/\RU p L3/\AO wr w.heap.size 26 #[.slice An p.nodes.length cn,.slice Aa na ca,.slice Af nf cf]/\AU w wr) (fun i _=>p.nodes.length-(intOf i).toNat)
     case atStart => exact ⟨0,L2,Bv _,rfl,hl3,HA.out,by rw [O8];exact HD6.out,HT.out,HX.out,Hb.out⟩
     case round =>
      clear HA HD6 HT HX Hb;obtain ⟨k,L3,hk,rfl,hl4,had,hdv,htw,X1,hb⟩:=hrel;obtain ⟨wo,rfl⟩:=BR wr;have HA:=AA had;have HD:=AA hdv;have HT:=AA htw;have HX:=AA X1;have Hb:=AA hb;clear had hdv htw hb;by_cases hlk:k<p.nodes.length
      ·obtain ⟨b,o,rfl,hlb,c0,c1,c2'⟩:=(HRn.out.mono Hb.out).nd hlk;have htk:p.nodes.take (k+1)=p.nodes.take k++[p.nodes[k]]:=F7 hlk;have nv:=HV.out.wH (BO hlk);generalize p.nodes[k]=nd at *;have FI:=AA htk;have WJ:=AA nv;have jf:=AA (fun W (hW:AU w W)=>aj.out nd.id W hW);have Zj:=AA (fun h0=>HD.out.pass nd h0);clear htk nv;obtain ⟨dg,hdg⟩:=BN (Na p.AP nd.id);rw [hdg] at jf Zj;have ql:=AA hdg;clear hdg;go_upto_region 21 with fail;obtain ⟨W2,hW⟩:∃ W:World,W=wo.alloc (.cells #[.int .i64 nd.id,.int .i64 nd.pt.x,.int .i64 nd.pt.y] 45):=⟨_,rfl⟩;have hA:AU wo W2:=by rw [hW];exact bA (bR wo) _
       have X5:AO W2 wo.heap.size 45 #[.int .i64 nd.id,.int .i64 nd.pt.x,.int .i64 nd.pt.y]:=by rw [hW];exact AO.made rfl _ _
       replace X1:=X1.keep hA;have HA2:=AA (HA.out.keep hA);have CG:=AA X1;have DI:=AA X5;have HB2:=AA (bT Hb.out hA);have hz2:=Hb.out.size;rw [<- hW];clear hW hA HA HX Hb c0 c1 c2' hlb;obtain ⟨g5,hg5⟩:=BN wo.heap.size;rw [hg5] at DI X5 hz2 ⊢;clear hg5
       try clear BF BG BH BI
       obtain ⟨BF,BG,BH,BI,-,-,-⟩:=X1.Az;obtain ⟨CJ,CO,CS,F8,-,-,-⟩:=X5.Az;go_wp2_with fail;refine (jf.out _ HB2.out).mono ?_;rintro e w3 ⟨rfl,hb3⟩;have HB3:=AA (bT HB2.out hb3);have Jq:=AA (HA2.out.keep hb3);have Ej:=AA (CG.out.keep hb3);have aaK:=DI.out.keep hb3;have Zk:=AA aaK;clear hb3 X1 BF BG BH BI X5 CJ CO CS F8 jf HA2 CG DI HB2;by_cases h0:dg=0
       ·subst h0;have X5:=aaK;clear aaK Zj
        try clear CJ CO CS F8
        obtain ⟨CJ,CO,CS,F8,-,-,-⟩:=X5.Az;have HF:=AA (qj.out w3 HB3.out (.slice A L.length c) L3 (Jq.out.read HB3.out) (fun x hx d hd=>by
         rcases HD.out.adu hx with e | e
         · rw [e] at hd;cases hd
         · exact (HV.out.Gq (Ku.1 e).1).2 d hd) AB nd.pt WJ.out)
        go_wp2_with fail;refine HF.out.mono ?_;rintro e w4 ⟨⟨bb,rfl,hbx⟩,hb4⟩;obtain ⟨hbl,hhm⟩:=HD.out.home rfl HT.out hbx;have je:=AA hhm;have HB4:=AA (bT HB3.out hb4);have Iu:=AA (Jq.out.keep hb4);have D8:=AA (Ej.out.keep hb4);have WM:=AA (Zk.out.keep hb4);have dh:=hb4.size;clear hb4 HF HB3 Jq Ej Zk X5 CJ CO CS F8 hbx hhm;obtain ⟨g,hA2,hg0,hgl,-,hce⟩:=Own.P5 Iu.out.own AB;subst hA2;obtain ⟨-,-,-,e2⟩:=hce bb hbl;have LV:=Iu.out.DC _ (BO hbl);have hNl:L3[bb].DC.length<=256:=by
         rw [HD.out.DC bb hbl,Cj];exact EH (OA _ _) su
        obtain ⟨iv,hiv⟩:=BN (L3[bb].av);obtain ⟨N,hN⟩:=BN (L3[bb].DC);rw [hiv,hN] at LV;rw [hiv] at e2;rw [hN] at hNl;obtain ⟨ia,II,ic⟩:=iv;unfold BK at LV e2;have aAW:=AA hiv;have OE:=AA hN;have Gm:=AA LV;clear hiv hN hce LV;have kb1:(bb:Int)<L.length:=by omega
        have kb2:0<=(bb:Int):=by omega
        have hsh:(N++[nd.id]).length=N.length+1:=by simp
        have DW:=AA hsh;clear hsh;have X5:=WM.out
        try clear CJ CO CS F8
        obtain ⟨CJ,CO,CS,F8,-,-,-⟩:=X5.Az;have Tc:w.heap.size<=w4.heap.size:=HB4.out.size;go_upto_region 23 with fail;refine Rz (w.heap.size) (w4) (.run 6 0 0 (.take 7 191 (.two 6 255 (.call 8 511 (.call 9 1023 (.call 10 2047 (.take 11 4095 (.take 12 8191 (.call 13 16383 (.done))))))) 8 447 (.two 6 511 (.call 9 1023 (.call 10 2047 (.take 11 4095 (.take 12 8191 (.call 13 16383 (.done)))))) 9 959 (.call 6 1023 (.call 10 2047 (.take 11 4095 (.take 12 8191 (.call 13 16383 (.done)))))))))) fun CU QR Ae Ah hS=>?_
        iterate 7 refine Aj ?_
        refine PD (i:=6) (j:=8) (Ew Ae rfl) (Ew Ae rfl) (fun K hK=>?_) (fun K hK=>?_)
        ·have AQ:=AA hS;clear hS;refine FY (FV rfl) ?_;go_simp;refine hK.out _ _ AQ.out (fun hS=>?_);clear hK K AQ
         try simp only [pu]
         refine Bj ?_;clear hS;intro K hK AQ;go_simp;refine hK.out _ _ AQ.out (fun hS=>?_);clear hK K AQ
         try simp only [pu]
         refine Bj ?_;clear hS;intro K hK AQ;go_simp;refine hK.out _ _ (IB AB AQ.out _) (fun hS=>?_);clear hK K AQ
         try simp only [pu]
         refine Bj ?_;clear hS;intro K hK AQ;refine JV (.tmp 101) (.tmp 104) _ rfl (base:=w.heap.size) JW Iz JR rfl ((Gm.out.keep (bD (bR w4))).alloc _) rfl (l2:=[nd.id]) (Sl.lit (n:=1) (AO.made rfl _ _) rfl (DN AB)) DZ DZ DT ?_;intro v5 w5 Di hg5 Gi;obtain ⟨A5,c5,hv5,-⟩:=Own.Ig Di;rw [DW.out] at hv5;subst hv5;have hown5:=Own.grown ((Iu.out.own.keep (bD (bR w4))).alloc _) hg5 (fun g hg=>Own.apart Iu.out.own Gm.out Aw g hg);obtain ⟨g',hg',-,SS,G6,Hw⟩:=Own.P5 hown5 AB;injection hg' with hg';injection hg' with hg' _ _;subst hg';obtain ⟨-,-,-,f2⟩:=Hw bb hbl;have hf2:=G6 (bb*4+3);have Ii:=AA (GY.wP Aw (Iu.out.keep (bA (bD (bR w4)) _)) hbl (OV:=⟨A5,N.length+1,c5⟩) (c:=nd.id) Zw Zu Zv);have DI:=AA (AO.far (p:=⟨g,bb*4+3,none⟩) (AO.grown ((D8.out.drew).alloc _) hg5 (fun e=>Own.Dz Gm.out D8.out Aw e.symm)) (fun e=>Own.Dz Iu.out.own D8.out Aw (by rw [e];rfl)) (.slice A5 (N.length+1) c5));have Cm:=AA (bS (p:=⟨g,bb*4+3,none⟩) (bG (bA (bD HB4.out) _) hg5 (fun g hg=>(Gm.out.lt g hg).1)) hg0 (.slice A5 (N.length+1) c5));have hS:GK (w.heap.size) w4 w5:=Below.grown (show Below w.heap.size w4 _ from AQ.out) hg5 (EH Tc (show Below w.heap.size w4 _ from AQ.out).size) (fun g hg=>(Gm.out.lt g hg).1);clear Di hg5 Gi hown5 Hw G6 e2;clear AQ;refine hK.out _ _ hS (fun _=>?_);clear hK K
         try simp only [pu]
         iterate 2 refine Aj ?_
         refine Bj ?_;clear hS;intro K hK AQ;go_simp;refine hK.out _ _ (by unfold GK;have h:Below _ _ _:=AQ.out;repeat (first | with_reducible assumption | with_reducible exact Below.refl _ _ | with_reducible refine MO ?_ OB _ | with_reducible refine Below.drew ?_ | with_reducible refine IB AB ?_ _ | exact h)) ?_;intro hS;clear hK K AQ
         try simp only [pu]
         refine LY ?_;clear hS Ah Ae;intro hB;go_wp2;go_roundw
         case rel => exact ⟨k+1,_,AB,BJ,aAV,Ii.out,by rw [FI.out];exact HD.out.lone JI.out hbl nd ⟨A5,N.length+1,c5⟩ ql.out je.out,HT.out.set hbl rfl rfl,DI.out,Cm.out⟩
         case measure => exact BL
        ·have AQ:=AA hS;clear hS;refine FY (FV rfl) ?_;go_simp;refine hK.out _ _ AQ.out (fun hS=>?_);clear hK K AQ
         try simp only [pu]
         refine PD (i:=6) (j:=9) (Ew Ae rfl) (Ew Ae rfl) (fun K hK=>?_) (fun K hK=>?_)
         ·have AQ:=AA hS;clear hS;refine FY (FV rfl) ?_;go_simp;refine hK.out _ _ AQ.out (fun hS=>?_);clear hK K AQ
          try simp only [pu]
          refine Bj ?_;clear hS;intro K hK AQ;go_simp;refine hK.out _ _ (IB AB AQ.out _) (fun hS=>?_);clear hK K AQ
          try simp only [pu]
          refine Bj ?_;clear hS;intro K hK AQ;refine JV (.tmp 101) (.tmp 104) _ rfl (base:=w.heap.size) JW Iz JR rfl ((Gm.out.keep (bD (bR w4))).alloc _) rfl (l2:=[nd.id]) (Sl.lit (n:=1) (AO.made rfl _ _) rfl (DN AB)) DZ DZ DT ?_;intro v5 w5 Di hg5 Gi;obtain ⟨A5,c5,hv5,-⟩:=Own.Ig Di;rw [DW.out] at hv5;subst hv5;have hown5:=Own.grown ((Iu.out.own.keep (bD (bR w4))).alloc _) hg5 (fun g hg=>Own.apart Iu.out.own Gm.out Aw g hg);obtain ⟨g',hg',-,SS,G6,Hw⟩:=Own.P5 hown5 AB;injection hg' with hg';injection hg' with hg' _ _;subst hg';obtain ⟨-,-,-,f2⟩:=Hw bb hbl;have hf2:=G6 (bb*4+3);have Ii:=AA (GY.wP Aw (Iu.out.keep (bA (bD (bR w4)) _)) hbl (OV:=⟨A5,N.length+1,c5⟩) (c:=nd.id) Zw Zu Zv);have DI:=AA (AO.far (p:=⟨g,bb*4+3,none⟩) (AO.grown ((D8.out.drew).alloc _) hg5 (fun e=>Own.Dz Gm.out D8.out Aw e.symm)) (fun e=>Own.Dz Iu.out.own D8.out Aw (by rw [e];rfl)) (.slice A5 (N.length+1) c5));have Cm:=AA (bS (p:=⟨g,bb*4+3,none⟩) (bG (bA (bD HB4.out) _) hg5 (fun g hg=>(Gm.out.lt g hg).1)) hg0 (.slice A5 (N.length+1) c5));have hS:GK (w.heap.size) w4 w5:=Below.grown (show Below w.heap.size w4 _ from AQ.out) hg5 (EH Tc (show Below w.heap.size w4 _ from AQ.out).size) (fun g hg=>(Gm.out.lt g hg).1);clear Di hg5 Gi hown5 Hw G6 e2;clear AQ;refine hK.out _ _ hS (fun _=>?_);clear hK K
          try simp only [pu]
          iterate 2 refine Aj ?_
          refine Bj ?_;clear hS;intro K hK AQ;go_simp;refine hK.out _ _ (by unfold GK;have h:Below _ _ _:=AQ.out;repeat (first | with_reducible assumption | with_reducible exact Below.refl _ _ | with_reducible refine MO ?_ OB _ | with_reducible refine Below.drew ?_ | with_reducible refine IB AB ?_ _ | exact h)) ?_;intro hS;clear hK K AQ
          try simp only [pu]
          refine LY ?_;clear hS Ah Ae;intro hB;go_wp2;go_roundw
          case rel => exact ⟨k+1,_,AB,BJ,aAV,Ii.out,by rw [FI.out];exact HD.out.lone JI.out hbl nd ⟨A5,N.length+1,c5⟩ ql.out je.out,HT.out.set hbl rfl rfl,DI.out,Cm.out⟩
          case measure => exact BL
         ·have AQ:=AA hS;clear hS;refine FY (FV rfl) ?_;go_simp;refine hK.out _ _ (IB AB AQ.out _) (fun hS=>?_);clear hK K AQ
          try simp only [pu]
          refine Bj ?_;clear hS;intro K hK AQ;go_simp;refine hK.out _ _ AQ.out (fun hS=>?_);clear hK K AQ
          try simp only [pu]
          refine Bj ?_;clear hS;intro K hK AQ;refine JV (.tmp 101) (.tmp 104) _ rfl (base:=w.heap.size) JW Iz JR rfl ((Gm.out.keep (bD (bR w4))).alloc _) rfl (l2:=[nd.id]) (Sl.lit (n:=1) (AO.made rfl _ _) rfl (DN AB)) DZ DZ DT ?_;intro v5 w5 Di hg5 Gi;obtain ⟨A5,c5,hv5,-⟩:=Own.Ig Di;rw [DW.out] at hv5;subst hv5;have hown5:=Own.grown ((Iu.out.own.keep (bD (bR w4))).alloc _) hg5 (fun g hg=>Own.apart Iu.out.own Gm.out Aw g hg);obtain ⟨g',hg',-,SS,G6,Hw⟩:=Own.P5 hown5 AB;injection hg' with hg';injection hg' with hg' _ _;subst hg';obtain ⟨-,-,-,f2⟩:=Hw bb hbl;have hf2:=G6 (bb*4+3);have Ii:=AA (GY.wP Aw (Iu.out.keep (bA (bD (bR w4)) _)) hbl (OV:=⟨A5,N.length+1,c5⟩) (c:=nd.id) Zw Zu Zv);have DI:=AA (AO.far (p:=⟨g,bb*4+3,none⟩) (AO.grown ((D8.out.drew).alloc _) hg5 (fun e=>Own.Dz Gm.out D8.out Aw e.symm)) (fun e=>Own.Dz Iu.out.own D8.out Aw (by rw [e];rfl)) (.slice A5 (N.length+1) c5));have Cm:=AA (bS (p:=⟨g,bb*4+3,none⟩) (bG (bA (bD HB4.out) _) hg5 (fun g hg=>(Gm.out.lt g hg).1)) hg0 (.slice A5 (N.length+1) c5));have hS:GK (w.heap.size) w4 w5:=Below.grown (show Below w.heap.size w4 _ from AQ.out) hg5 (EH Tc (show Below w.heap.size w4 _ from AQ.out).size) (fun g hg=>(Gm.out.lt g hg).1);clear Di hg5 Gi hown5 Hw G6 e2;clear AQ;refine hK.out _ _ hS (fun _=>?_);clear hK K
          try simp only [pu]
          iterate 2 refine Aj ?_
          refine Bj ?_;clear hS;intro K hK AQ;go_simp;refine hK.out _ _ (by unfold GK;have h:Below _ _ _:=AQ.out;repeat (first | with_reducible assumption | with_reducible exact Below.refl _ _ | with_reducible refine MO ?_ OB _ | with_reducible refine Below.drew ?_ | with_reducible refine IB AB ?_ _ | exact h)) ?_;intro hS;clear hK K AQ
          try simp only [pu]
          refine LY ?_;clear hS Ah Ae;intro hB;go_wp2;go_roundw
          case rel => exact ⟨k+1,_,AB,BJ,aAV,Ii.out,by rw [FI.out];exact HD.out.lone JI.out hbl nd ⟨A5,N.length+1,c5⟩ ql.out je.out,HT.out.set hbl rfl rfl,DI.out,Cm.out⟩
          case measure => exact BL
       ·have h1:(dg == 0)=false:=by simpa using h0
        have HPq:=AA (Zj.out h0);clear h0 aaK Zj;go_wp2;go_roundw
        case rel => exact ⟨k+1,L3,AB,BJ,hl4,Jq.out,by rw [FI.out];exact HPq.out,HT.out,Ej.out,HB3.out⟩
        case measure => exact BL
      ·have hkk:k=p.nodes.length:=by omega
       subst hkk;have hd:=HD.out;rw [I4] at hd;have jg:=AA hd;clear hd X1;go_wp2;go_ret;exact ⟨A,c,L3,by rw [hl4];rfl,Hb.out,by rw [hl4];exact HA.out,jg.out,HT.out⟩
def Zl (p:Pl) (v:Pt) (O:List (List Int)) (k n:Nat):Prop :=
 (n=0/\Jm (fun X=>encS p X v) (FB p) (O.take k)=none)\/∃ hn:n-1<O.length,1<=n/\n<=k/\Jm (fun X=>encS p X v) (FB p) (O.take k)=some O[n-1]
theorem auH (p:Pl) (v:Pt) (O:List (List Int)):Zl p v O 0 0:=.inl ⟨rfl,by rw [O8];rfl⟩
theorem auI {p:Pl} {v:Pt} {O:List (List Int)} {k n:Nat} (h:Zl p v O k n) (hk:k<O.length) (hE:encS p O[k] v=true) (hlt:n=0\/∃ hn:n-1<O.length,FB p O[k]<FB p O[n-1]):Zl p v O (k+1) (k+1):=by
 refine .inr ⟨AB,AB,Dc _,?_⟩;rw [acW _ _ hk];unfold RF;rcases h with ⟨rfl,e⟩ | ⟨hb,h1,h2,e⟩
 · rw [e];simp [hE]
 ·rw [e];rcases hlt with g | ⟨_,g⟩
  · omega
  · simp [hE,g]
theorem ajm {p:Pl} {v:Pt} {O:List (List Int)} {k n:Nat} (h:Zl p v O k n) (hk:k<O.length) (hno:encS p O[k] v=false\/(n≠0/\∃ hn:n-1<O.length,¬ FB p O[k]<FB p O[n-1])):Zl p v O (k+1) n:=by
 rcases h with ⟨rfl,e⟩ | ⟨hb,h1,h2,e⟩
 ·refine .inl ⟨rfl,?_⟩;rw [acW _ _ hk,e];rcases hno with g | ⟨g,-⟩
  · unfold RF;simp [g]
  · exact absurd rfl g
 ·refine .inr ⟨hb,h1,AB,?_⟩;rw [acW _ _ hk,e];unfold RF;rcases hno with g | ⟨-,_,g⟩
  · simp [g]
  · simp [g]
theorem auJ {p:Pl} (h:Valid p) {v:Pt} (nv:C9 v=true) {O:List (List Int)} (hO:O.Perm (BP p)) {n:Nat} (hb:Zl p v O O.length n):n<=O.length/\Ie p v=KO O n:=by
 have e0:=h.aqx hO.symm nv;unfold Zl at hb;rw [I4,e0] at hb;rcases hb with ⟨rfl,e⟩ | ⟨hb,h1,h2,e⟩
 · exact ⟨Bv _,by rw [e];rfl⟩
 · exact ⟨h2,by rw [e,Tn h1 h2]⟩
theorem auK (v vl:Value) (p:Pl) (CL:List (List Int×SV)) (O:List (List Int)) (at_:Pt) (w:World) (h:Ci w v p) (hv:Valid p) (hC:qc w vl CL) (hcl:CL.map (·.1)=O) (hO:O.Perm (BP p)) (nv:C9 at_=true) :
  Calls Tryz.prog 133 #[v,vl,BA at_] w fun e w'=>(∃ n:Nat,e=.returned (.int .i64 ((n:Int)-1))/\n<=O.length/\Ie p at_=KO O n)/\AU w w':=by
 have hmo:∀ X∈O,X∈Ce p:=fun X hX=>(Ku.1 (hO.subset hX)).1;have wu:∀ X∈O,X.length<=512:=fun X hX=>EH (Wq (hv.Gq (hmo X hX)).1 (hv.Gq (hmo X hX)).2) hv.wM;have WH:=AA (fun u l (hl:l∈O) W (hu:Ints W u l) (hW:AU w W)=>show Calls Tryz.prog 132 #[v,u] W fun e w'=>e=.returned (.int .i64 (FB p l))/\AU W w' from by
  have t:=adV v u p l W (h.mono hW) hu hv (fun d hd=>by have:=hv.Qh ((hv.Gq (hmo l hl)).2 d hd);exact N8 AB AB);rw [hv.aBv (hmo l hl)] at t;exact t)
 have ae5:=fun u l (hl:l∈O) W (hu:Ints W u l) (hW:AU w W)=>au8 v u p l at_ W (h.mono hW) hv hu (hv.Gq (hmo l hl)).2 (by have:=wu l hl;omega) nv;unfold BA at ae5 ⊢;have Jo:=AA ae5;clear ae5;have auL:=AA (fun n (hb:Zl p at_ O O.length n)=>auJ hv nv hO hb);have hol:O.length<=512:=by
  rw [hO.length_eq];exact EH (OA _ _) hv.U5
 have hll:CL.length=O.length:=by rw [<- hcl,Cj]
 obtain ⟨⟨Ac,cc,rfl,hc1,hc2,Jb⟩,hI⟩:=hC;unfold maxLen at hc2;obtain ⟨_,_,_,al,rfl,hpa,⟨An,cn,rfl,-⟩,⟨⟨Aa,ca,rfl,-⟩,-⟩,⟨Af,cf,rfl,-⟩⟩:=h;have Pv:=AA Jb;have HI:=AA hI;have OW:=AA hcl;have JQ:=AA hll;have az8:CL.length<=512:=by omega
 clear hpa hv Jb hI hcl hll hmo wu hO;generalize p.nodes.length=nn at *;generalize al.length=na at *;generalize p.faces.length=nf at *;go_enter Tryz.func133,Tryz.ntmps133;go_upto_block 0 with fail;obtain ⟨W1,hW⟩:∃ W:World,W=(w.alloc (.cells #[.slice An nn cn,.slice Aa na ca,.slice Af nf cf] 26)).alloc (.cells #[.int .i64 at_.x,.int .i64 at_.y] 39):=⟨_,rfl⟩;have Dt:=AA (show AO W1 w.heap.size 26 #[.slice An nn cn,.slice Aa na ca,.slice Af nf cf] by rw [hW];exact (AO.made rfl _ _).alloc _);have CG:=AA (show AO W1 (w.heap.size+1) 39 #[.int .i64 at_.x,.int .i64 at_.y] by rw [hW];exact AO.made Ak _ _);have HB1:=AA (show AU w W1 by rw [hW];exact bA (bA (bR w) _) _);rw [<- hW];clear hW;go_wp2_with fail;go_loopw [7,8] (fun s i wr=>∃ k n:Nat,k<=CL.length/\n<=k/\i=.int .i64 k/\s=.int .i64 ((n:Int)-1)/\Zl p at_ O k n/\AU W1 wr) (fun _ i _=>CL.length-(intOf i).toNat)
 case atStart => exact ⟨0,0,Bv _,Bv _,rfl,rfl,auH p at_ O,bR W1⟩
 case round =>
  obtain ⟨k,n,hk,hnk,rfl,rfl,Eo,hb⟩:=hrel;have FP:=AA Eo;have HB:=AA hb;have Ep:=AA (bT HB1.out hb);have X1:=Dt.out.keep hb;have X2:=CG.out.keep hb;clear Eo hb;by_cases hlt:k<CL.length
  ·have hlo:k<O.length:=by have:=JQ.out;omega
   obtain ⟨b,o,rfl,hlb,c0⟩:=(Pv.out.mono Ep.out).cy hlt;have hin:=(HI.out _ (BO hlt));have hoe:=jd OW.out hlt hlo;have hmem:O[k]∈O:=BO hlo;have hyes:=AA (fun hE hl=>auI FP.out hlo hE hl);have hnot:=AA (fun hE=>ajm FP.out hlo (.inl hE));have qX:=AA (fun hE=>ajm FP.out hlo (.inr hE));rw [hoe] at hmem hyes hnot qX;generalize CL[k]=x at *;obtain ⟨X,xa,xn,xc⟩:=x;simp only at hin c0 hmem hyes hnot qX hoe;have FI:=AA (fun W (hW:AU w W)=>WH.out _ X hmem W (hin.mono hW) hW);have aaL:=AA (fun W (hW:AU w W)=>Jo.out _ X hmem W (hin.mono hW) hW);obtain ⟨E,hE⟩:=BN (encS p X at_);rw [hE] at aaL hyes hnot;obtain ⟨t,ht⟩:=BN (FB p X);rw [ht] at FI hyes qX;have k1:(k:Int)<CL.length:=by omega
   have k2:0<=(k:Int):=by omega
   clear hoe hmem hin hE ht hlo
   cases E
   case false =>
    obtain ⟨BF,BG,BH,BI,-,-,-⟩:=X1.Az;obtain ⟨BU,BX,Bg,-,-⟩:=X2.BQ;go_upto_region 5 with fail;refine DJ (wr) (.run 6 0 0 (.call 6 127 (.run 19 7 127 (.done)))) fun CU QR Ae Ah hS=>?_
    iterate 6 refine Aj ?_
    refine GL (aaL.out _ (bT Ep.out hS)) ?_;clear hS;intro CX CV hS;refine Aj ?_
    iterate 17 refine Jh ?_
    refine Aj ?_;refine DF ?_;clear hS Ah Ae;intro hB;have Cm:=AA (bT HB.out hB);clear hB X1 BF BG BH BI X2 BU BX Bg c0;go_wp2;go_roundw
    case rel => exact ⟨k+1,n,AB,AB,BJ,rfl,hnot.out rfl,Cm.out⟩
    case measure => exact BL
   case true =>
    rcases YG n with h0 | h0
    ·subst h0;have kz:((0:Nat):Int)-1=-1:=rfl;rw [kz];have hy:=AA (hyes.out rfl (.inl rfl));clear kz
     try clear BF BG BH BI
     obtain ⟨BF,BG,BH,BI,-,-,-⟩:=X1.Az
     try clear BU BX Bg
     obtain ⟨BU,BX,Bg,-,-⟩:=X2.BQ;go_upto_region 5 with fail;refine DJ (wr) (.run 6 0 0 (.call 6 127 (.run 19 7 127 (.done)))) fun CU QR Ae Ah hS=>?_
     iterate 6 refine Aj ?_
     refine GL (aaL.out _ (bT Ep.out hS)) ?_;clear hS;intro CX CV hS;refine Aj ?_
     iterate 3 refine Du ?_
     iterate 13 refine Jh ?_
     refine Du ?_;refine Aj ?_;refine DF ?_;clear hS Ah Ae;intro hB;have Cm:=AA (bT HB.out hB);clear hB X1 BF BG BH BI X2 BU BX Bg c0;go_wp2;go_roundw
     case rel => exact ⟨k+1,k+1,AB,AB,BJ,by rw [show (((k+1:Nat):Int)-1)=k by omega],hy.out,Cm.out⟩
     case measure => exact BL
    ·have hnl:n-1<CL.length:=by omega
     have hno:n-1<O.length:=by have:=JQ.out;omega
     obtain ⟨b',o',hA',-,e0⟩:=(Pv.out.mono Ep.out).cy hnl;injection hA' with hA';injection hA' with y1 y2 _;subst y1 y2;have hin:=(HI.out _ (BO hnl));have hoe:=jd OW.out hnl hno;have hmem:O[n-1]∈O:=BO hno;have aaM:=AA (fun (h:t<FB p O[n-1])=>hyes.out rfl (.inr ⟨hno,h⟩));have aaN:=AA (fun (h:¬ t<FB p O[n-1])=>qX.out ⟨AB,hno,h⟩);rw [hoe] at hmem aaM aaN;obtain ⟨m,rfl⟩:∃ m,n=m+1:=⟨n-1,AB⟩;simp only [gu] at *;generalize CL[m]=y at *;obtain ⟨Y,ya,yn,yc⟩:=y;simp only at hin e0 hmem aaM aaN hoe;have HTm:=AA (fun W (hW:AU w W)=>WH.out _ Y hmem W (hin.mono hW) hW);obtain ⟨u,hu⟩:=BN (FB p Y);rw [hu] at HTm aaM aaN;have km:(((m+1:Nat):Int)-1)=(m:Int):=by omega
     rw [km];have k3:(m:Int)<CL.length:=by omega
     have k4:0<=(m:Int):=by omega
     have k5:¬ (m:Int)<0:=by omega
     clear km hoe hmem hin hu hno
     try clear BF BG BH BI
     obtain ⟨BF,BG,BH,BI,-,-,-⟩:=X1.Az
     try clear BU BX Bg
     obtain ⟨BU,BX,Bg,-,-⟩:=X2.BQ;go_upto_region 5 with fail;refine DJ (wr) (.run 6 0 0 (.call 6 127 (.run 9 7 127 (.run 5 17 65535 (.call 16 4194303 (.call 22 8388607 (.run 3 23 8388607 (.done)))))))) fun CU QR Ae Ah hS=>?_
     iterate 6 refine Aj ?_
     refine GL (aaL.out _ (bT Ep.out hS)) ?_;clear hS;intro CX CV hS;refine Aj ?_
     iterate 13 refine Du ?_
     refine GL (FI.out _ (bT Ep.out hS)) ?_;clear hS;intro wr2 Fp hS;refine GL (HTm.out _ (bT Ep.out hS)) ?_;clear hS;intro wr3 PK hS
     iterate 2 refine Du ?_
     refine Aj ?_;refine DF ?_;clear hS Ah Ae;intro hB;have Cm:=AA (bT HB.out hB);clear hB X1 BF BG BH BI X2 BU BX Bg c0 e0;by_cases c:t<u
     ·have hy:=AA (aaM.out c);go_wp2;go_roundw
      case rel => exact ⟨k+1,k+1,AB,AB,BJ,by rw [show (((k+1:Nat):Int)-1)=k by omega],hy.out,Cm.out⟩
      case measure => exact BL
     ·have hy:=AA (aaN.out c);go_wp2;go_roundw
      case rel => exact ⟨k+1,m+1,AB,AB,BJ,by rw [show (((m+1:Nat):Int)-1)=m by omega],hy.out,Cm.out⟩
      case measure => exact BL
  ·have hkk:k=O.length:=by have:=JQ.out;omega
   have Eo:=FP.out;rw [hkk] at Eo;have HF:=AA (auL.out n Eo);clear Eo hkk X1 X2;go_wp2;go_ret;exact ⟨⟨n,rfl,HF.out⟩,Ep.out⟩
theorem auM (f:Int->Int) (D:List Int) (hD:∀ x∈D,f x∈D) (hi:∀ x∈D,∀ y∈D,f x=f y->x=y) (l:List (Int×Int)) (hpr:∀ x∈l,x.2=f x.1) (hmem:∀ d∈D,d∈l.map (·.1)) (hlen:l.length=D.length) (hl:D.length<=100000) (u v:Value) (d:Int) (hd:d∈D) (w:World) (hu:Ints w u (l.map (·.1))) (hv:Ints w v (l.map (·.2))) :
  Calls Tryz.prog 195 #[u,v,.int .i64 d] w (aBh w (JZ f D d)):=by
 obtain ⟨o1,-,o3,o4,o5,o6⟩:=Ws hD hi hd;have oN:LJ f D d<=D.length:=by
  have:=Wq o5 (fun y hy=>wI hD hd hy)
  rwa [o6] at this
 obtain ⟨A1,c1,rfl,hn1,hc1,hR1⟩:=hu;obtain ⟨A2,c2,rfl,hn2,hc2,hR2⟩:=hv;rw [Cj] at hn1 hn2 ⊢;rw [Cj];unfold maxLen at hc1 hc2;have HR1:=AA hR1;have HR2:=AA hR2;have HPr:=AA hpr;have Qg:=AA (fun j=>hmem _ (Xl (f:=f) hD hd j));obtain ⟨q,hq⟩:=BN (JZ f D d);rw [hq] at o6 ⊢;have aCn:=AA (show iter f d (LJ f D d)=q from hq);have aCo:=AA o6;have H3:=AA o3;have H4:=AA o4;clear hR1 hR2 hpr hmem hq o6 o3 o4 o5 hD hi hd;rw [<- hlen] at oN hl;clear hlen;generalize LJ f D d=N at *;go_enter Tryz.func195,Tryz.ntmps195;go_upto_block 0 with fail;have yM:=AA (Own.lit w w.heap.size 3 1 DR [d] #[.int .i64 d] 1 w.heap.size rfl rfl (Dc _) (DN AB) rfl rfl);go_wp2_with fail;go_loopw [7] (fun s wr=>∃ j:Nat,j+1<=N/\(∃ A c,s=.slice A (j+1) c)/\Own wr w.heap.size 3 1 DR s (iter f d (j+1))/\AU w wr) (fun s _=>N-lenV s)
 case atStart => exact ⟨0,AB,⟨_,_,rfl⟩,yM.out,bA (bR w) _⟩
 case round =>
  obtain ⟨j,hj,⟨A,c,rfl⟩,own,hb⟩:=hrel;obtain ⟨wo,rfl⟩:=BR wr;have HO:=AA own;have Hb:=AA hb;clear own hb yM;have hjl:(j:Int)+1<=l.length:=by omega
  obtain ⟨y,hy⟩:=BN (pw f d j);have HY:=AA hy;clear hy;go_upto_block 2 with fail;go_wp2_with fail;go_loopw [8,9] (fun t i wr=>∃ (k:Nat) (x:Int),k<=l.length/\i=.int .i64 k/\t=.int .i64 x/\AU wo wr/\(x=f y\/∀ m (hm:m<l.length),m<k->l[m].1≠y)) (fun _ i _=>l.length-(intOf i).toNat)
  case atStart => exact ⟨0,0,Bv _,rfl,rfl,bR wo,.inr (fun m _ h=>by omega)⟩
  case round =>
   obtain ⟨k,x,hk,rfl,rfl,hb2,hx⟩:=hrel;have Hb2:=AA hb2;have HX:=AA hx;have hz2:=hb2.size;clear hb2 hx;by_cases hlt:k<l.length
   ·obtain ⟨b1,q1,rfl,hl1,e1⟩:=(HR1.out.mono (bT Hb.out Hb2.out)).int (k:=k) (by rw [Cj];exact hlt);obtain ⟨b2,q2,rfl,hl2,e2⟩:=(HR2.out.mono (bT Hb.out Hb2.out)).int (k:=k) (by rw [Cj];exact hlt);obtain ⟨b3,q3,rfl,hl3,e3⟩:=((HO.out.keep Hb2.out).row_in).int (k:=j) (by rw [XW];omega);rw [Gp] at e1 e2;rw [iJ,HY.out] at e3;rw [HPr.out _ (BO hlt)] at e2;have HS:=AA (show ∀ m (hm:m<l.length),m<k+1->m=k\/m<k from fun m _ h=>by omega);have HN:=AA (show (l[k].1 == y)=false->(x=f y\/∀ m (hm:m<l.length),m<k+1->l[m].1≠y) from fun he=>by
     rcases HX.out with h | h
     · exact .inl h
     ·refine .inr (fun m hm hmk=>?_);by_cases e:m=k
      · subst e;simpa using he
      · exact h m hm AB)
    clear HS;generalize l[k].1=z at *;have k2:IntKind.i64.wrap ((j:Int)+1-1)=j:=by rw [show (j:Int)+1-1=j by omega];exact D6 _ AB
    have k3:IntKind.i64.wrap (j:Int)=j:=D6 _ AB;have k4:(j:Int)<(j:Int)+1:=by omega
    have k5:0<=(j:Int):=by omega
    have k6:(j:Int)+1-1=j:=by omega
    have k7:(k:Int)<l.length:=by omega
    go_upto_region 7 with fail;refine DJ (wr) (.run 11 0 0 (.done)) fun CU QR Ae Ah hS=>?_
    iterate 11 refine Aj ?_
    refine DF ?_;clear hS Ah Ae;intro hB;obtain ⟨W7,hW⟩:∃ W:World,W=wr.drew:=⟨_,rfl⟩;rw [<- hW] at hB ⊢;have MW:=AA (bT Hb2.out hB);replace e2:=Eh hB e2;have ayZ:b2<W7.heap.size:=by have:=hB.size;omega
    clear hW hB k2 k3 k4 k5 k6 e1 e3
    cases hz:(z == y)
    ·have OE:=AA (HN.out hz);clear HN;go_wp2;go_roundw
     case rel => exact ⟨k+1,x,AB,BJ,rfl,MW.out,OE.out⟩
     case measure => exact BL
    ·have hzy:z=y:=by simpa using hz
     rw [hzy] at e2;clear HN hzy;go_wp2;go_roundw
     case rel => exact ⟨k+1,f y,AB,BJ,rfl,MW.out,.inl rfl⟩
     case measure => exact BL
   ·have hxe:x=f y:=by
     rcases HX.out with h | h
     · exact h
     ·exfalso;obtain ⟨a,ha,e⟩:=ED.1 (Qg.out j);obtain ⟨m,hm,rfl⟩:=EF.1 ha;rw [HY.out] at e;exact h m hm AB e
    have hyn:f y=pw f d (j+1):=by rw [<- HY.out];rfl
    rw [hyn] at hxe;subst hxe;have F9:=AA (HO.out.keep Hb2.out);have hsn:iter f d (j+1+1)=iter f d (j+1)++[pw f d (j+1)]:=adJ _ _ _;have Xu:=AA hsn;clear hyn hsn;have Hb3:=AA (bT Hb.out Hb2.out);have hjN:pw f d (j+1)=d->j+1=N:=fun e=>by
     rcases rU (j+1) N with h | h
     · exact absurd e (H4.out _ AB h)
     · omega
    have ajn:pw f d (j+1)≠d->j+1<N:=fun e=>by
     rcases rU (j+1) N with h | h
     · exact h
     ·have:j+1=N:=by omega
      rw [this,H3.out] at e;exact absurd rfl e
    have HJ:=AA hjN;have HJ2:=AA ajn;clear hjN ajn;generalize pw f d (j+1)=x at *
    cases hxd:(x == d)
    ·have hlt2:=HJ2.out (by simpa using hxd);go_wp2_with
      (at_builtin
       refine FK _ rfl (.tmp 42) (.tmp 44) _ rfl (base:=w.heap.size) JW Iz JR rfl (Own.alloc F9.out _) rfl (l2:=[x]) (Sl.lit (n:=1) (AO.made rfl _ _) rfl (DN AB)) abL abL (by have:=Hb3.out.size;simp;omega) ?_;intro v5 w5 Di hg5 Gi;rw [<- Xu.out] at Di;obtain ⟨A5,c5,hv5,-⟩:=Own.Ig Di;rw [XW] at hv5;subst hv5;have Fh:=AA Di;have Cm:=AA (bG (bA Hb3.out _) hg5 (fun g hg=>(F9.out.lt g hg).1));clear Di hg5 Gi)
     go_roundw
     case rel => exact ⟨j+1,AB,⟨A5,c5,rfl⟩,Fh.out,Cm.out⟩
     case measure => simp only [lenV];omega
    ·have hjn:=HJ.out (by simpa using hxd);have ho:=F9.out;subst hjn;rw [aCn.out] at ho;have aaO:=AA ho;clear ho;go_wp2;go_ret;exact ⟨A,c,by rw [aCo.out];rfl,Hb3.out,by rw [aCo.out];exact aaO.out⟩
