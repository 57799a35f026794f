import Derived.Test.YtialfdomhoojiaaGreatJ23
set_option linter.unusedSimpArgs false
set_option linter.unusedVariables false
set_option maxRecDepth 100000
set_option maxHeartbeats 8000000
namespace Go.Proofs.YtialfdomhoojiaaGreat
open Go.RowKit
def av9 (w:World) (p:Pl) (e:Ending) (w':World):Prop :=
 ∃ A c L,e=.returned (.slice A L.length c)/\AP w w'/\GH 82 w w' w.heap.size (.slice A L.length c) L/\FX p L (Bj p) (J8 p) p.nodes/\RU p L
def ad0:AD:=⟨0,[],sv0,[],sv0,[],sv0⟩
def jk (p:Pl) (k:Nat):List (List Int):=((CX p).take k).filter (fun X=>decide (0<F8 p X))
def fF (p:Pl) (k:Nat):List (List Int):=((CX p).take k).filter (fun X=>!decide (0<F8 p X))
theorem alB {p:Pl} {k:Nat} (hk:k<(CX p).length):jk p (k+1)=jk p k++(if 0<F8 p (CX p)[k] then [(CX p)[k]] else []):=by
 unfold jk;rw [En hk,rX,fQ];simp only [E8,aaw]
theorem alC {p:Pl} {k:Nat} (hk:k<(CX p).length):fF p (k+1)=fF p k++(if 0<F8 p (CX p)[k] then [] else [(CX p)[k]]):=by
 unfold fF;rw [En hk,rX,fQ];by_cases h:0<F8 p (CX p)[k]<;>simp [h]
theorem alD (p:Pl):jk p (CX p).length=Bj p:=by unfold jk Bj;rw [H8]
theorem alE (p:Pl):fF p (CX p).length=J8 p:=by unfold fF J8;rw [H8]
theorem fG {CL:List (List Int×SV)} {C:List (List Int)} (h:CL.map (·.1)=C) {k:Nat} (hk:k<CL.length) (hk2:k<C.length):C[k]=CL[k].1:=by
 subst h;rw [Gq]
theorem avA {CL:List (List Int×SV)} {C:List (List Int)} (h:CL.map (·.1)=C) {k:Nat} (hk:k<CL.length):C.take (k+1)=C.take k++[CL[k].1]:=by
 subst h;rw [En (by simpa using hk),Gq]
theorem alF (v vc:Value) (p:Pl) (CL:List (List Int×SV)) (gm:Nat) (f:Int->SV) (w:World) (h:Cb w v p) (hv:Valid p) (hc:fD w vc CL) (hcl:CL.map (·.1)=CX p) (hpm:QT w gm p f) :
  Calls Tryz.prog 58 #[v,vc,.map (some gm)] w (av9 w p):=by
 have Tc:=AA (fun u l (hl:l∈CX p) W (hu:Ints W u l) (hW:AP w W)=>show Calls Tryz.prog 120 #[v,u] W fun e w'=>e=.returned (.int .i64 (F8 p l))/\AP W w' from by
  have t:=aq2 v u p l W (h.mono hW) hu hv (fun d hd=>by have:=hv.Qo ((hv.Gy hl).2 d hd);exact KU AB AB);rw [hv.aCt hl] at t;exact t)
 have dM:=AA (fun id W (hW:AP w W)=>aoP v p id W (h.mono hW) (by have:=hv.lim;unfold JX at this;simp only [Rq,J3] at this;omega));have afO:=fun W (hW:AP w W)=>akV W gm p f (hpm.keep hW) hv;unfold BD at afO;have qc:=AA afO;clear afO;have Jr:=AA hpm;have HV:=AA hv;have hnl:=hv.bW;have hcn:=hv.QY;have hll:CL.length=(CX p).length:=by rw [<- hcl,Cm]
 have Ny:=AA hcl;have JG:=AA hll;have II:=AA hv.aeD;obtain ⟨⟨Ac,cc,rfl,hc1,hc2,IC⟩,hI⟩:=hc;obtain ⟨_,_,_,al,rfl,hpa,⟨An,cn,rfl,hn1,hn2,hR⟩,⟨⟨Aa,ca,rfl,-⟩,-⟩,⟨Af,cf,rfl,-⟩⟩:=h;unfold maxLen at hc2 hn2;have NH:=AA IC;have HI:=AA hI;have HRn:=AA hR;have ayw:CL.length<=512:=by omega
 generalize p.faces.length=nf at *;generalize al.length=na at *;clear hpa IC hI hR hv hpm hcl hll hcn;go_enter Tryz.func58,Tryz.ntmps58;go_upto_region 2 with fail;obtain ⟨W1,hW⟩:∃ W:World,W=(w.alloc (.cells #[.slice An p.nodes.length cn,.slice Aa na ca,.slice Af nf cf] 26)).alloc (.cells #[.int .i64 0,.slice none 0 0,.slice none 0 0,.slice none 0 0] 82):=⟨_,rfl⟩;have X1:AO W1 w.heap.size 26 #[.slice An p.nodes.length cn,.slice Aa na ca,.slice Af nf cf]:=by rw [hW];exact (AO.made rfl _ _).alloc _
 have JZ:=AA (show Own W1 w.heap.size 82 4 Di (.slice (some ⟨w.heap.size+1,0,none⟩) 1 1) [ad0] by rw [hW];exact Own.lit _ _ _ _ _ _ _ _ _ Aw rfl Aw (D6 AB) rfl rfl);have HB1:=AA (show AP w W1 by rw [hW];exact bA (bA (bR w) _) _);rw [<- hW];clear hW;have HA1:=AA (show GH 82 w W1 w.heap.size (.slice (some ⟨w.heap.size+1,0,none⟩) 1 1) [ad0] from ⟨JZ.out,(fun x hx=>by rw [ED] at hx;subst hx;exact Sl.nil w),(fun x hx=>by rw [ED] at hx;subst hx;exact Own.nil _ _ _ _ _),(fun x hx=>by rw [ED] at hx;subst hx;intro c hc;cases hc),(fun x hx=>by rw [ED] at hx;subst hx;exact Own.nil _ _ _ _ _),sQ _ _,sQ _ _⟩);have D9:=AA X1;clear X1 JZ;go_upto_block 0 with fail;go_wp2_with fail;go_loopw [7,8,23] (fun s r i wr=>∃ (k:Nat) (L:List AD) (R:List (List Int×SV)),k<=CL.length/\i=.int .i64 k/\(∃ A c,s=.slice A L.length c)/\(∃ A c,r=.slice A R.length c)/\GH 82 w wr w.heap.size s L/\Own wr w.heap.size 24 1 Ib r R/\FX p L (jk p k) [] []/\RU p L/\R.map (·.1)=fF p k/\(∀ x∈R,Ints w (BJ x.2) x.1)/\(∀ x∈L,x.iv=sv0)/\L.length<=k+1/\R.length<=k/\AO wr w.heap.size 26 #[.slice An p.nodes.length cn,.slice Aa na ca,.slice Af nf cf]/\AP w wr) (fun _ _ i _=>CL.length-(intOf i).toNat)
 case atStart => exact ⟨0,[ad0],[],BZ _,rfl,⟨_,_,rfl⟩,⟨_,_,rfl⟩,HA1.out,Own.nil _ _ _ _ _,FX.start p ad0 rfl rfl rfl,RU.one p ad0,rfl,(fun x hx=>by cases hx),(fun x hx=>by rw [ED] at hx;subst hx;rfl),Aw,Aw,D9.out,HB1.out⟩
 case round =>
  obtain ⟨k,L,R,hk,rfl,⟨A,c,rfl⟩,⟨A',c',rfl⟩,had,hor,hdv,htw,hrm,fH,hiv,hl1,hl2,X1,hb⟩:=hrel;obtain ⟨wo,rfl⟩:=BO wr;have HA:=AA had;have HO:=AA hor;have HD:=AA hdv;have HT:=AA htw;have aaS:=AA hrm;have RV:=AA fH;have zi:=AA hiv;have HX:=AA X1;have Hb:=AA hb;clear had hor hdv htw hrm fH hiv hb D9 HA1 HB1;by_cases hlt:k<CL.length
  ·have hlc:k<(CX p).length:=by have:=JG.out;omega
   obtain ⟨b,o,rfl,hlb,c0⟩:=(NH.out.mono Hb.out).cy hlt;have hin:=HI.out CL[k] (BH hlt);have hmem:(CX p)[k]∈CX p:=BH hlc;have hos:=alB hlc;have hrs:=alC hlc;rw [fG Ny.out hlt hlc] at hmem hos hrs;generalize CL[k]=x at *;obtain ⟨l,xs⟩:=x;obtain ⟨xa,xn,xc⟩:=xs;simp only at hin c0 hmem hos hrs;have Jg:=AA hin;have Et:=AA (fun W (hW:AP w W)=>Tc.out _ l hmem W (hin.mono hW) hW);obtain ⟨t,ht⟩:=BL (F8 p l);rw [ht] at Et hos hrs;have HTe:=AA ht;have YZ:=AA hos;have HRs:=AA hrs;clear hin hmem hlc ht hos hrs;obtain ⟨Ak,Au,Az,BA,-,-,-⟩:=X1.BF;go_upto_region 7 with fail;go_wp2_with fail;refine (Et.out _ Hb.out).mono ?_;rintro e w2 ⟨rfl,hb2⟩;have HB2:=AA (bT Hb.out hb2);have HA2:=AA (HA.out.keep hb2);have EU:=AA (HO.out.keep hb2);have CG:=AA (HX.out.keep hb2);have hz2:=HB2.out.size;clear hb2 X1 Ak Au Az BA c0 hlb Et HA HO HX Hb;by_cases h0:0<t
   ·have hos:=YZ.out;have hrs:=HRs.out;rw [AZ h0] at hos hrs;rw [IQ] at hrs;have fJ:=AA hos;have ZK:=AA hrs;clear hos hrs;have n1:=Own.Dz HA2.out.own CG.out BG;go_upto_region 10 with
     (at_builtin
      refine Ew _ rfl (.tmp 32) (.tmp 36) _ rfl (base:=w.heap.size) at1 Pz oQ rfl (Own.alloc HA2.out.own _) rfl (l2:=[(⟨t,l,⟨xa,xn,xc⟩,[],sv0,[],sv0⟩:AD)]) (Sl.lit (n:=1) (AO.made rfl _ _) rfl (D6 AB)) DR DR DC ?_;intro v3 w3 ho3 hg3 Jc;obtain ⟨A3,c3,hv3,-⟩:=Own.IE ho3;have hsh:(L++[(⟨t,l,⟨xa,xn,xc⟩,[],sv0,[],sv0⟩:AD)]).length=L.length+1:=by simp
      rw [hsh] at hv3;subst hv3;have IY:=AA (GH.more BG (HA2.out.keep (bA (bR w2) _)) ho3 hg3 Jg.out rfl rfl rfl rfl);have EI:=AA (Own.grown (Own.alloc EU.out _) hg3 (fun g hg=>Own.apart EU.out HA2.out.own BG g hg));have Ep:=AA (AO.grown (CG.out.alloc _) hg3 (fun e=>n1 e.symm));have HB3:=AA (bG (bA HB2.out _) hg3 (fun g hg=>(HA2.out.own.lt g hg).1));clear ho3 hg3 Jc
      )
    clear n1;go_wp2;go_roundw
    case rel => exact ⟨k+1,_,R,AB,BI,⟨A3,c3,by rw [hsh]⟩,⟨_,_,rfl⟩,IY.out,EI.out,by rw [fJ.out];exact HD.out.more rfl rfl _ rfl rfl,HT.out.more HTe.out.symm,by rw [ZK.out];exact aaS.out,RV.out,(fun x hx=>by
      rcases FZ.1 hx with hx | hx
      · exact zi.out x hx
      · rw [ED] at hx;subst hx;rfl),by rw [hsh];omega,AB,Ep.out,HB3.out⟩
    case measure => exact BK
   ·have hos:=YZ.out;have hrs:=HRs.out;rw [AX h0] at hos hrs;rw [IQ] at hos;have fJ:=AA hos;have ZK:=AA hrs;clear hos hrs;have n1:=Own.Dz EU.out CG.out BG;go_upto_region 10 with
     (at_builtin
      refine Ew _ rfl (.tmp 38) (.tmp 40) _ rfl (base:=w.heap.size) YK XO YJ rfl (Own.alloc EU.out _) rfl (l2:=[((l,⟨xa,xn,xc⟩):List Int×SV)]) (Sl.lit (n:=1) (AO.made rfl _ _) rfl (D6 AB)) DR DR DC ?_;intro v3 w3 ho3 hg3 Jc;obtain ⟨A3,c3,hv3,-⟩:=Own.IE ho3;have hsh:(R++[((l,⟨xa,xn,xc⟩):List Int×SV)]).length=R.length+1:=by simp
      rw [hsh] at hv3;subst hv3;have EI:=AA ho3;have IY:=AA (GH.ath BG (HA2.out.keep (bA (bR w2) _)) hg3 (Own.alloc EU.out _) zi.out);have Ep:=AA (AO.grown (CG.out.alloc _) hg3 (fun e=>n1 e.symm));have HB3:=AA (bG (bA HB2.out _) hg3 (fun g hg=>(EU.out.lt g hg).1));clear ho3 hg3 Jc
      )
    clear n1;go_wp2;go_roundw
    case rel => exact ⟨k+1,L,_,AB,BI,⟨_,_,rfl⟩,⟨A3,c3,by rw [hsh]⟩,IY.out,EI.out,by rw [fJ.out];exact HD.out,HT.out,by rw [ZK.out,GL,aaS.out];rfl,(fun x hx=>by
      rcases FZ.1 hx with hx | hx
      · exact RV.out x hx
      · rw [ED] at hx;subst hx;exact Jg.out),zi.out,AB,by rw [hsh];omega,Ep.out,HB3.out⟩
    case measure => exact BK
  ·have hkk:k=CL.length:=by omega
   subst hkk;have hd0:=HD.out;have hd:=HD.out;have hrm:=aaS.out;rw [JG.out,alD] at hd;rw [JG.out,alE] at hrm;have hsep:∀ x∈L,IG (BJ x.iv) (.slice A' R.length c'):=fun x hx=>by rw [zi.out x hx];intro g hg;cases hg
   have HD3:=AA hd;have afP:=AA hrm;have zk:=AA hsep;have hl0:0<L.length:=by have:=hd0.len;omega
   clear HD aaS zi hd hd0 hrm hsep X1 Ny HI NH Tc;go_upto_block 2 with fail;go_wp2_with fail;go_loopw [45] (fun i wr=>∃ (j:Nat) (L2:List AD),j<=R.length/\i=.int .i64 j/\L2.length=L.length/\GH 82 w wr w.heap.size (.slice A L.length c) L2/\Own wr w.heap.size 24 1 Ib (.slice A' R.length c') R/\FX p L2 (Bj p) ((J8 p).take j) []/\RU p L2/\(∀ x∈L2,IG (BJ x.iv) (.slice A' R.length c'))/\AO wr w.heap.size 26 #[.slice An p.nodes.length cn,.slice Aa na ca,.slice Af nf cf]/\AP w wr) (fun i _=>R.length-(intOf i).toNat)
   case atStart => exact ⟨0,L,BZ _,rfl,rfl,HA.out,HO.out,by rw [OB];exact HD3.out,HT.out,zk.out,HX.out,Hb.out⟩
   case round =>
    clear HA HO HD3 HT zk HX Hb;obtain ⟨j,L2,hj,rfl,hl3,had,hor,hdv,htw,hsp,X1,hb⟩:=hrel;obtain ⟨wo,rfl⟩:=BO wr;have HA:=AA had;have HO:=AA hor;have HD:=AA hdv;have HT:=AA htw;have HS:=AA hsp;have HX:=AA X1;have Hb:=AA hb;clear had hor hdv htw hsp hb;by_cases hlj:j<R.length
    ·have hrl:=HO.out.lt;obtain ⟨b,o,hA',hlb,c0⟩:=(HO.out.row_of).cy hlj;subst hA';have htk:=avA afP.out hlj;have hmem:R[j].1∈J8 p:=by rw [<- afP.out];exact Gs (BH hlj)
     have hin:=RV.out R[j] (BH hlj);generalize R[j]=x at *;obtain ⟨l,xa,xn,xc⟩:=x;unfold BJ at hin;simp only at hin c0 htk hmem;have hcm:=(iD.1 hmem).1;have hne:=HV.out.Wh hcm;have hkl:0<l.length:=fV.2 hne;have hhd:l.headD 0=l[0]:=by
      cases l with
      | nil=>exact absurd rfl hne
      | cons d l'=>rfl
     have hdd:l[0]∈BU p:=(HV.out.Gy hcm).2 _ (BH hkl);obtain ⟨a,ha,avC,hpt⟩:=HV.out.Tq hdd;have hcp:TB p l=(AV p a).getD 0 AY:=by unfold TB;rw [hhd,hpt]
     have hid:=HV.out.Gh ha;have hlen:2<=(AV p a).length:=by have:=Eh p a;omega
     have PY:=HV.out.Sv ha;have hpl:(AV p a).length<=66:=by have:=Eh p a;omega
     have nv:=HV.out.DW ha (k:=0) AB;have aaT:0<(AV p a).length:=by omega
     have egd:(AV p a).getD 0 AY=(AV p a)[0]:=by simp only [Fj,DK aaT,Gp]
     rw [egd] at hcp nv;obtain ⟨n,hmp⟩:=(Jr.out.keep Hb.out).mp;have hlk:=(hmp.keep (bD (bR wo))).look a.id (KU AB AB);have Np:=Jr.out.rd a ha;have k1:IntKind.i64.wrap (-l[0])=-l[0]:=Ci _ AB;have km:max l[0] (-l[0])=a.id:=by omega
     have Jg:=AA hin;obtain ⟨Al,cl,hel,-,-,hRl⟩:=hin.mono Hb.out;injection hel with y1 y2 y3;subst y1 y2 y3;obtain ⟨bl,ol,jl,jm,d0⟩:=(hRl).int hkl;subst jl;simp only [VJ] at d0;have kz:(0:Int)<l.length:=by omega
     have kn:¬ l=[]:=hne;generalize f a.id=y at *;obtain ⟨Ap,np,cp⟩:=y;unfold BJ at hlk Np;have TU:=AA Np;obtain ⟨jD,cp',he,hp1,hp2,-⟩:=Np;injection he with y1 y2 y3;subst y1 y2 y3;unfold maxLen at hp2;have Et:=AA htk;have jf:=AA hcp;have Vt:=AA nv;have HKn:=AA hkl;clear hmp hdd htk hmem hpt avC ha PY hcm hhd hne hcp nv egd;generalize a.id=ai at *;generalize AV p a=P at *;generalize l[0]=dd at *;clear hid;go_upto_region 14 with fail;refine Cj (wo) (.run 9 0 0 (.call 9 1023 (.take 10 2047 (.done)))) fun Bv QR Ae Ah hS=>?_
     iterate 9 refine Aj ?_
     refine BP ?_;clear hS;intro K hK AQ;go_simp;refine hK.out _ _ AQ.out (fun hS=>?_);clear hK K AQ
     try simp only [pu]
     refine Aj ?_;refine Ce ?_;clear hS Ah Ae;intro hB;obtain ⟨W3,hW3⟩:∃ W:World,W=wo.drew:=⟨_,rfl⟩;rw [<- hW3] at hB ⊢;have HB3:=AA (bT Hb.out hB);have IY:=AA (HA.out.keep hB);have EI:=AA (HO.out.keep hB);have Ep:=AA (HX.out.keep hB);clear hW3 hB HA HO HX Hb c0 d0 hlk k1 km hlb jm X1;obtain ⟨jD,cp',he,-,-,Pm⟩:=TU.out.mono HB3.out;injection he with y1 y2 y3;subst y1 y3;clear y2;obtain ⟨bp,op,KJ,hlp,e10,e11⟩:=(Pm).pt aaT;subst KJ;simp only [lN,VJ] at e10 e11;clear Pm;have kz2:(0:Int)<P.length:=by omega
     have kn2:¬ P=[]:=fun e=>by rw [e] at aaT;simp at aaT
     have HF:=AA (qc.out W3 HB3.out (.slice A L.length c) L2 (IY.out.read HB3.out) (fun x hx d hd=>by
      rcases HD.out.aCu hx with e | e
      · rw [e] at hd;cases hd
      · exact (HV.out.Gy (Nl.1 e).1).2 d hd) AB P[0] Vt.out)
     go_wp2_with fail;refine HF.out.mono ?_;rintro e w4 ⟨⟨bb,rfl,hbx⟩,hb4⟩;obtain ⟨hbl,hhm⟩:=HD.out.home rfl HT.out hbx;rw [<- jf.out] at hhm;have jo:=AA hhm;have HB4:=AA (bT HB3.out hb4);have Ij:=AA (IY.out.keep hb4);have JA:=AA (EI.out.keep hb4);have DJ:=AA (Ep.out.keep hb4);have ayx:=hb4.size;clear hb4 HF HB3 IY EI Ep e10 e11 kz2 kn2 hbx hhm TU Vt jf hlp kz kn;obtain ⟨g,hA2,hg0,hgl,-,hce⟩:=Own.OY Ij.out.own AB;subst hA2;obtain ⟨-,-,e2,-⟩:=hce bb hbl;have Iu:=Ij.out.inn _ (BH hbl);have hse:=HS.out _ (BH hbl);have hNl:L2[bb].inn.length<=512:=by
      have:=congrArg List.length (HD.out.inn bb hbl)
      rw [Cm] at this;rw [this];exact Dn (LY _ _) fZ
     obtain ⟨iv,hiv⟩:=BL (L2[bb].iv);obtain ⟨N,hN⟩:=BL (L2[bb].inn);rw [hiv,hN] at Iu;rw [hiv] at e2 hse;rw [hN] at hNl;obtain ⟨ia,FY,ic⟩:=iv;unfold BJ at Iu e2 hse;have aAQ:=AA hiv;have QH:=AA hN;have Rf:=AA hse;have G7:=AA Iu;clear hiv hN hce hse Iu;have kb1:(bb:Int)<L.length:=by omega
     have kb2:0<=(bb:Int):=by omega
     have hsh:(N++[((l,⟨some ⟨bl,ol,none⟩,l.length,xc⟩):List Int×SV)]).length=N.length+1:=by simp
     have DL:=AA hsh;clear hsh;go_upto_region 17 with
      (at_builtin
       refine Ew _ rfl (.tmp 71) (.tmp 73) _ rfl (base:=w.heap.size) YK XO YJ rfl (Own.alloc G7.out _) rfl (l2:=[((l,⟨some ⟨bl,ol,none⟩,l.length,xc⟩):List Int×SV)]) (Sl.lit (n:=1) (AO.made rfl _ _) rfl (D6 AB)) DR DR (by have:=HB4.out.size;simp;omega) ?_;intro v5 w5 DY hg5 Gf;obtain ⟨A5,c5,hv5,-⟩:=Own.IE DY;rw [DL.out] at hv5;subst hv5;have hown5:=Own.grown (Own.alloc Ij.out.own _) hg5 (fun g hg=>Own.apart Ij.out.own G7.out BG g hg);obtain ⟨g',hg',-,Q8,GZ,H6⟩:=Own.OY hown5 AB;injection hg' with hg';injection hg' with hg' _ _;subst hg';obtain ⟨-,-,f2,-⟩:=H6 bb hbl;have hf2:=GZ (bb*4+2);have Hu:=AA (GH.aaJ BG (Ij.out.keep (bA (bR w4) _)) hbl (Ox:=⟨A5,N.length+1,c5⟩) (c:=(l,⟨some ⟨bl,ol,none⟩,l.length,xc⟩)) Zi Zg Zh Jg.out);have Fh:=AA (Own.far (p:=⟨g,bb*4+2,none⟩) (Own.grown (Own.alloc JA.out _) hg5 (fun q hq e=>Rf.out q e.symm hq)) (fun e=>Own.apart JA.out Ij.out.own BG g e rfl) (.slice A5 (N.length+1) c5));have D8:=AA (AO.far (p:=⟨g,bb*4+2,none⟩) (AO.grown (DJ.out.alloc _) hg5 (fun e=>Own.Dz G7.out DJ.out BG e.symm)) (fun e=>Own.Dz Ij.out.own DJ.out BG Y8) (.slice A5 (N.length+1) c5));have CW:=AA (bS (p:=⟨g,bb*4+2,none⟩) (bG (bA HB4.out _) hg5 (fun g hg=>(G7.out.lt g hg).1)) hg0 (.slice A5 (N.length+1) c5));have oP:=AA (show IG (.slice A5 (N.length+1) c5) (.slice (some ⟨b,o,none⟩) R.length c') from fun q hq e=>by
        rcases Gf with h | h
        · exact Rf.out q (h.symm.trans hq) e
        ·have h1:=(JA.out.lt q e).2;rw [hq] at h;have:=Dc h
         simp at this;omega)
       clear DY hg5 Gf hown5 H6 GZ e2
       )
     clear f2 hf2 Ij JA DJ HB4 G7 Rf hgl Q8;go_wp2;go_roundw
     case rel => exact ⟨j+1,_,AB,BI,by rw [Qm];exact hl3,Hu.out,Fh.out,by rw [Et.out];exact HD.out.inner II.out hbl l ⟨some ⟨bl,ol,none⟩,l.length,xc⟩ ⟨A5,N.length+1,c5⟩ jo.out,HT.out.set hbl rfl rfl,(fun x hx=>by
       rcases Qb hx with ⟨rfl,_⟩ | ⟨q,hq,_,rfl⟩
       · exact oP.out
       · exact HS.out _ (BH hq)),D8.out,CW.out⟩
     case measure => exact BK
    ·have hjj:j=R.length:=by omega
     subst hjj;have hrl:R.length=(J8 p).length:=by rw [<- afP.out,Cm]
     have hd:=HD.out;rw [hrl,H8] at hd;have HD6:=AA hd;clear HD HS HO hd hrl X1;have X1:=HX.out
     try clear Ak Au Az BA
     obtain ⟨Ak,Au,Az,BA,-,-,-⟩:=X1.BF;go_upto_block 4 with fail;clear X1 Ak Au Az BA;go_wp2_with fail;go_loopw [81] (fun i wr=>∃ (k:Nat) (L3:List AD),k<=p.nodes.length/\i=.int .i64 k/\L3.length=L.length/\GH 82 w wr w.heap.size (.slice A L.length c) L3/\FX p L3 (Bj p) (J8 p) (p.nodes.take k)/\RU p L3/\AO wr w.heap.size 26 #[.slice An p.nodes.length cn,.slice Aa na ca,.slice Af nf cf]/\AP w wr) (fun i _=>p.nodes.length-(intOf i).toNat)
     case atStart => exact ⟨0,L2,BZ _,rfl,hl3,HA.out,by rw [OB];exact HD6.out,HT.out,HX.out,Hb.out⟩
     case round =>
      clear HA HD6 HT HX Hb;obtain ⟨k,L3,hk,rfl,hl4,had,hdv,htw,X1,hb⟩:=hrel;obtain ⟨wo,rfl⟩:=BO wr;have HA:=AA had;have HD:=AA hdv;have HT:=AA htw;have HX:=AA X1;have Hb:=AA hb;clear had hdv htw hb;by_cases hlk:k<p.nodes.length
      ·obtain ⟨b,o,rfl,hlb,c0,c1,c2'⟩:=(HRn.out.mono Hb.out).nd hlk;have htk:p.nodes.take (k+1)=p.nodes.take k++[p.nodes[k]]:=En hlk;have nv:=HV.out.uf (BH hlk);generalize p.nodes[k]=nd at *;have Et:=AA htk;have Vt:=AA nv;have XZ:=AA (fun W (hW:AP w W)=>dM.out nd.id W hW);have ZL:=AA (fun h0=>HD.out.pass nd h0);clear htk nv;obtain ⟨dg,hdg⟩:=BL (Na p.AU nd.id);rw [hdg] at XZ ZL;have qg:=AA hdg;clear hdg;go_upto_region 21 with fail;obtain ⟨W2,hW⟩:∃ W:World,W=wo.alloc (.cells #[.int .i64 nd.id,.int .i64 nd.pt.x,.int .i64 nd.pt.y] 45):=⟨_,rfl⟩;have hA:AP wo W2:=by rw [hW];exact bA (bR wo) _
       have X5:AO W2 wo.heap.size 45 #[.int .i64 nd.id,.int .i64 nd.pt.x,.int .i64 nd.pt.y]:=by rw [hW];exact AO.made rfl _ _
       replace X1:=X1.keep hA;have HA2:=AA (HA.out.keep hA);have CG:=AA X1;have D8:=AA X5;have HB2:=AA (bT Hb.out hA);have hz2:=Hb.out.size;rw [<- hW];clear hW hA HA HX Hb c0 c1 c2' hlb;obtain ⟨g5,hg5⟩:=BL wo.heap.size;rw [hg5] at D8 X5 hz2 ⊢;clear hg5
       try clear Ak Au Az BA
       obtain ⟨Ak,Au,Az,BA,-,-,-⟩:=X1.BF;obtain ⟨CJ,CO,CS,G6,-,-,-⟩:=X5.BF;go_wp2_with fail;refine (XZ.out _ HB2.out).mono ?_;rintro e w3 ⟨rfl,hb3⟩;have HB3:=AA (bT HB2.out hb3);have IY:=AA (HA2.out.keep hb3);have Ep:=AA (CG.out.keep hb3);have aaU:=D8.out.keep hb3;have ZN:=AA aaU;clear hb3 X1 Ak Au Az BA X5 CJ CO CS G6 XZ HA2 CG D8 HB2;by_cases h0:dg=0
       ·subst h0;have X5:=aaU;clear aaU ZL
        try clear CJ CO CS G6
        obtain ⟨CJ,CO,CS,G6,-,-,-⟩:=X5.BF;have HF:=AA (qc.out w3 HB3.out (.slice A L.length c) L3 (IY.out.read HB3.out) (fun x hx d hd=>by
         rcases HD.out.aCu hx with e | e
         · rw [e] at hd;cases hd
         · exact (HV.out.Gy (Nl.1 e).1).2 d hd) AB nd.pt Vt.out)
        go_wp2_with fail;refine HF.out.mono ?_;rintro e w4 ⟨⟨bb,rfl,hbx⟩,hb4⟩;obtain ⟨hbl,hhm⟩:=HD.out.home rfl HT.out hbx;have jo:=AA hhm;have HB4:=AA (bT HB3.out hb4);have Ij:=AA (IY.out.keep hb4);have DJ:=AA (Ep.out.keep hb4);have Vu:=AA (ZN.out.keep hb4);have ji:=hb4.size;clear hb4 HF HB3 IY Ep ZN X5 CJ CO CS G6 hbx hhm;obtain ⟨g,hA2,hg0,hgl,-,hce⟩:=Own.OY Ij.out.own AB;subst hA2;obtain ⟨-,-,-,e2⟩:=hce bb hbl;have Iu:=Ij.out.CU _ (BH hbl);have hNl:L3[bb].CU.length<=256:=by
         rw [HD.out.CU bb hbl,Cm];exact Dn (LY _ _) fZ
        obtain ⟨iv,hiv⟩:=BL (L3[bb].av);obtain ⟨N,hN⟩:=BL (L3[bb].CU);rw [hiv,hN] at Iu;rw [hiv] at e2;rw [hN] at hNl;obtain ⟨ia,FY,ic⟩:=iv;unfold BJ at Iu e2;have aAQ:=AA hiv;have QH:=AA hN;have G7:=AA Iu;clear hiv hN hce Iu;have kb1:(bb:Int)<L.length:=by omega
        have kb2:0<=(bb:Int):=by omega
        have hsh:(N++[nd.id]).length=N.length+1:=by simp
        have DL:=AA hsh;clear hsh;have X5:=Vu.out
        try clear CJ CO CS G6
        obtain ⟨CJ,CO,CS,G6,-,-,-⟩:=X5.BF;have RG:w.heap.size<=w4.heap.size:=HB4.out.size;go_upto_region 23 with fail;refine QK (w.heap.size) (w4) (.run 6 0 0 (.take 7 191 (.two 6 255 (.call 8 511 (.call 9 1023 (.call 10 2047 (.take 11 4095 (.take 12 8191 (.call 13 16383 (.done))))))) 8 447 (.two 6 511 (.call 9 1023 (.call 10 2047 (.take 11 4095 (.take 12 8191 (.call 13 16383 (.done)))))) 9 959 (.call 6 1023 (.call 10 2047 (.take 11 4095 (.take 12 8191 (.call 13 16383 (.done)))))))))) fun Bv QR Ae Ah hS=>?_
        iterate 7 refine Aj ?_
        refine Oc (i:=6) (j:=8) (Ej Ae rfl) (Ej Ae rfl) (fun K hK=>?_) (fun K hK=>?_)
        ·have AQ:=AA hS;clear hS;refine FQ (FM rfl) ?_;go_simp;refine hK.out _ _ AQ.out (fun hS=>?_);clear hK K AQ
         try simp only [pu]
         refine BP ?_;clear hS;intro K hK AQ;go_simp;refine hK.out _ _ AQ.out (fun hS=>?_);clear hK K AQ
         try simp only [pu]
         refine BP ?_;clear hS;intro K hK AQ;go_simp;refine hK.out _ _ (Gj AB AQ.out _) (fun hS=>?_);clear hK K AQ
         try simp only [pu]
         refine BP ?_;clear hS;intro K hK AQ;refine IZ (.tmp 101) (.tmp 104) _ rfl (base:=w.heap.size) IB Gt IK rfl ((G7.out.keep (bD (bR w4))).alloc _) rfl (l2:=[nd.id]) (Sl.lit (n:=1) (AO.made rfl _ _) rfl (D6 AB)) DR DR DC ?_;intro v5 w5 DY hg5 Gf;obtain ⟨A5,c5,hv5,-⟩:=Own.IE DY;rw [DL.out] at hv5;subst hv5;have hown5:=Own.grown ((Ij.out.own.keep (bD (bR w4))).alloc _) hg5 (fun g hg=>Own.apart Ij.out.own G7.out BG g hg);obtain ⟨g',hg',-,Q8,GZ,H6⟩:=Own.OY hown5 AB;injection hg' with hg';injection hg' with hg' _ _;subst hg';obtain ⟨-,-,-,f2⟩:=H6 bb hbl;have hf2:=GZ (bb*4+3);have Hu:=AA (GH.zf BG (Ij.out.keep (bA (bD (bR w4)) _)) hbl (OV:=⟨A5,N.length+1,c5⟩) (c:=nd.id) Zi Zg Zh);have D8:=AA (AO.far (p:=⟨g,bb*4+3,none⟩) (AO.grown ((DJ.out.drew).alloc _) hg5 (fun e=>Own.Dz G7.out DJ.out BG e.symm)) (fun e=>Own.Dz Ij.out.own DJ.out BG Y8) (.slice A5 (N.length+1) c5));have CW:=AA (bS (p:=⟨g,bb*4+3,none⟩) (bG (bA (bD HB4.out) _) hg5 (fun g hg=>(G7.out.lt g hg).1)) hg0 (.slice A5 (N.length+1) c5));have hS:Fb (w.heap.size) w4 w5:=Below.grown (show Below w.heap.size w4 _ from AQ.out) hg5 (Dn RG (show Below w.heap.size w4 _ from AQ.out).size) (fun g hg=>(G7.out.lt g hg).1);clear DY hg5 Gf hown5 H6 GZ e2;clear AQ;refine hK.out _ _ hS (fun _=>?_);clear hK K
         try simp only [pu]
         iterate 2 refine Aj ?_
         refine BP ?_;clear hS;intro K hK AQ;go_simp;refine hK.out _ _ (by unfold Fb;have h:Below _ _ _:=AQ.out;repeat (first | with_reducible assumption | with_reducible exact Below.refl _ _ | with_reducible refine MK ?_ OC _ | with_reducible refine Below.drew ?_ | with_reducible refine Gj AB ?_ _ | exact h)) ?_;intro hS;clear hK K AQ
         try simp only [pu]
         refine KW ?_;clear hS Ah Ae;intro hB;go_wp2;go_roundw
         case rel => exact ⟨k+1,_,AB,BI,aAP,Hu.out,by rw [Et.out];exact HD.out.lone II.out hbl nd ⟨A5,N.length+1,c5⟩ qg.out jo.out,HT.out.set hbl rfl rfl,D8.out,CW.out⟩
         case measure => exact BK
        ·have AQ:=AA hS;clear hS;refine FQ (FM rfl) ?_;go_simp;refine hK.out _ _ AQ.out (fun hS=>?_);clear hK K AQ
         try simp only [pu]
         refine Oc (i:=6) (j:=9) (Ej Ae rfl) (Ej Ae rfl) (fun K hK=>?_) (fun K hK=>?_)
         ·have AQ:=AA hS;clear hS;refine FQ (FM rfl) ?_;go_simp;refine hK.out _ _ AQ.out (fun hS=>?_);clear hK K AQ
          try simp only [pu]
          refine BP ?_;clear hS;intro K hK AQ;go_simp;refine hK.out _ _ (Gj AB AQ.out _) (fun hS=>?_);clear hK K AQ
          try simp only [pu]
          refine BP ?_;clear hS;intro K hK AQ;refine IZ (.tmp 101) (.tmp 104) _ rfl (base:=w.heap.size) IB Gt IK rfl ((G7.out.keep (bD (bR w4))).alloc _) rfl (l2:=[nd.id]) (Sl.lit (n:=1) (AO.made rfl _ _) rfl (D6 AB)) DR DR DC ?_;intro v5 w5 DY hg5 Gf;obtain ⟨A5,c5,hv5,-⟩:=Own.IE DY;rw [DL.out] at hv5;subst hv5;have hown5:=Own.grown ((Ij.out.own.keep (bD (bR w4))).alloc _) hg5 (fun g hg=>Own.apart Ij.out.own G7.out BG g hg);obtain ⟨g',hg',-,Q8,GZ,H6⟩:=Own.OY hown5 AB;injection hg' with hg';injection hg' with hg' _ _;subst hg';obtain ⟨-,-,-,f2⟩:=H6 bb hbl;have hf2:=GZ (bb*4+3);have Hu:=AA (GH.zf BG (Ij.out.keep (bA (bD (bR w4)) _)) hbl (OV:=⟨A5,N.length+1,c5⟩) (c:=nd.id) Zi Zg Zh);have D8:=AA (AO.far (p:=⟨g,bb*4+3,none⟩) (AO.grown ((DJ.out.drew).alloc _) hg5 (fun e=>Own.Dz G7.out DJ.out BG e.symm)) (fun e=>Own.Dz Ij.out.own DJ.out BG Y8) (.slice A5 (N.length+1) c5));have CW:=AA (bS (p:=⟨g,bb*4+3,none⟩) (bG (bA (bD HB4.out) _) hg5 (fun g hg=>(G7.out.lt g hg).1)) hg0 (.slice A5 (N.length+1) c5));have hS:Fb (w.heap.size) w4 w5:=Below.grown (show Below w.heap.size w4 _ from AQ.out) hg5 (Dn RG (show Below w.heap.size w4 _ from AQ.out).size) (fun g hg=>(G7.out.lt g hg).1);clear DY hg5 Gf hown5 H6 GZ e2;clear AQ;refine hK.out _ _ hS (fun _=>?_);clear hK K
          try simp only [pu]
          iterate 2 refine Aj ?_
          refine BP ?_;clear hS;intro K hK AQ;go_simp;refine hK.out _ _ (by unfold Fb;have h:Below _ _ _:=AQ.out;repeat (first | with_reducible assumption | with_reducible exact Below.refl _ _ | with_reducible refine MK ?_ OC _ | with_reducible refine Below.drew ?_ | with_reducible refine Gj AB ?_ _ | exact h)) ?_;intro hS;clear hK K AQ
          try simp only [pu]
          refine KW ?_;clear hS Ah Ae;intro hB;go_wp2;go_roundw
          case rel => exact ⟨k+1,_,AB,BI,aAP,Hu.out,by rw [Et.out];exact HD.out.lone II.out hbl nd ⟨A5,N.length+1,c5⟩ qg.out jo.out,HT.out.set hbl rfl rfl,D8.out,CW.out⟩
          case measure => exact BK
         ·have AQ:=AA hS;clear hS;refine FQ (FM rfl) ?_;go_simp;refine hK.out _ _ (Gj AB AQ.out _) (fun hS=>?_);clear hK K AQ
          try simp only [pu]
          refine BP ?_;clear hS;intro K hK AQ;go_simp;refine hK.out _ _ AQ.out (fun hS=>?_);clear hK K AQ
          try simp only [pu]
          refine BP ?_;clear hS;intro K hK AQ;refine IZ (.tmp 101) (.tmp 104) _ rfl (base:=w.heap.size) IB Gt IK rfl ((G7.out.keep (bD (bR w4))).alloc _) rfl (l2:=[nd.id]) (Sl.lit (n:=1) (AO.made rfl _ _) rfl (D6 AB)) DR DR DC ?_;intro v5 w5 DY hg5 Gf;obtain ⟨A5,c5,hv5,-⟩:=Own.IE DY;rw [DL.out] at hv5;subst hv5;have hown5:=Own.grown ((Ij.out.own.keep (bD (bR w4))).alloc _) hg5 (fun g hg=>Own.apart Ij.out.own G7.out BG g hg);obtain ⟨g',hg',-,Q8,GZ,H6⟩:=Own.OY hown5 AB;injection hg' with hg';injection hg' with hg' _ _;subst hg';obtain ⟨-,-,-,f2⟩:=H6 bb hbl;have hf2:=GZ (bb*4+3);have Hu:=AA (GH.zf BG (Ij.out.keep (bA (bD (bR w4)) _)) hbl (OV:=⟨A5,N.length+1,c5⟩) (c:=nd.id) Zi Zg Zh);have D8:=AA (AO.far (p:=⟨g,bb*4+3,none⟩) (AO.grown ((DJ.out.drew).alloc _) hg5 (fun e=>Own.Dz G7.out DJ.out BG e.symm)) (fun e=>Own.Dz Ij.out.own DJ.out BG Y8) (.slice A5 (N.length+1) c5));have CW:=AA (bS (p:=⟨g,bb*4+3,none⟩) (bG (bA (bD HB4.out) _) hg5 (fun g hg=>(G7.out.lt g hg).1)) hg0 (.slice A5 (N.length+1) c5));have hS:Fb (w.heap.size) w4 w5:=Below.grown (show Below w.heap.size w4 _ from AQ.out) hg5 (Dn RG (show Below w.heap.size w4 _ from AQ.out).size) (fun g hg=>(G7.out.lt g hg).1);clear DY hg5 Gf hown5 H6 GZ e2;clear AQ;refine hK.out _ _ hS (fun _=>?_);clear hK K
          try simp only [pu]
          iterate 2 refine Aj ?_
          refine BP ?_;clear hS;intro K hK AQ;go_simp;refine hK.out _ _ (by unfold Fb;have h:Below _ _ _:=AQ.out;repeat (first | with_reducible assumption | with_reducible exact Below.refl _ _ | with_reducible refine MK ?_ OC _ | with_reducible refine Below.drew ?_ | with_reducible refine Gj AB ?_ _ | exact h)) ?_;intro hS;clear hK K AQ
          try simp only [pu]
          refine KW ?_;clear hS Ah Ae;intro hB;go_wp2;go_roundw
          case rel => exact ⟨k+1,_,AB,BI,aAP,Hu.out,by rw [Et.out];exact HD.out.lone II.out hbl nd ⟨A5,N.length+1,c5⟩ qg.out jo.out,HT.out.set hbl rfl rfl,D8.out,CW.out⟩
          case measure => exact BK
       ·have h1:(dg == 0)=false:=by simpa using h0
        have HPq:=AA (ZL.out h0);clear h0 aaU ZL;go_wp2;go_roundw
        case rel => exact ⟨k+1,L3,AB,BI,hl4,IY.out,by rw [Et.out];exact HPq.out,HT.out,Ep.out,HB3.out⟩
        case measure => exact BK
      ·have hkk:k=p.nodes.length:=by omega
       subst hkk;have hd:=HD.out;rw [H8] at hd;have kZ:=AA hd;clear hd X1;go_wp2;go_ret;exact ⟨A,c,L3,by rw [hl4];rfl,Hb.out,by rw [hl4];exact HA.out,kZ.out,HT.out⟩
def ZP (p:Pl) (v:Pt) (O:List (List Int)) (k n:Nat):Prop :=
 (n=0/\Je (fun X=>encS p X v) (F8 p) (O.take k)=none)\/∃ hn:n-1<O.length,1<=n/\n<=k/\Je (fun X=>encS p X v) (F8 p) (O.take k)=some O[n-1]
theorem avD (p:Pl) (v:Pt) (O:List (List Int)):ZP p v O 0 0:=.inl ⟨rfl,by rw [OB];rfl⟩
theorem avE {p:Pl} {v:Pt} {O:List (List Int)} {k n:Nat} (h:ZP p v O k n) (hk:k<O.length) (hE:encS p O[k] v=true) (hlt:n=0\/∃ hn:n-1<O.length,F8 p O[k]<F8 p O[n-1]):ZP p v O (k+1) (k+1):=by
 refine .inr ⟨AB,AB,DT _,?_⟩;rw [acn _ _ hk];unfold RF;rcases h with ⟨rfl,e⟩ | ⟨hb,h1,h2,e⟩
 · rw [e];simp [hE]
 ·rw [e];rcases hlt with g | ⟨_,g⟩
  · omega
  · simp [hE,g]
theorem alG {p:Pl} {v:Pt} {O:List (List Int)} {k n:Nat} (h:ZP p v O k n) (hk:k<O.length) (hno:encS p O[k] v=false\/(n≠0/\∃ hn:n-1<O.length,¬ F8 p O[k]<F8 p O[n-1])):ZP p v O (k+1) n:=by
 rcases h with ⟨rfl,e⟩ | ⟨hb,h1,h2,e⟩
 ·refine .inl ⟨rfl,?_⟩;rw [acn _ _ hk,e];rcases hno with g | ⟨g,-⟩
  · unfold RF;simp [g]
  · exact absurd rfl g
 ·refine .inr ⟨hb,h1,AB,?_⟩;rw [acn _ _ hk,e];unfold RF;rcases hno with g | ⟨-,_,g⟩
  · simp [g]
  · simp [g]
theorem avF {p:Pl} (h:Valid p) {v:Pt} (nv:Bg v=true) {O:List (List Int)} (hO:O.Perm (Bj p)) {n:Nat} (hb:ZP p v O O.length n):n<=O.length/\I4 p v=Lp O n:=by
 have e0:=h.aqb hO.symm nv;unfold ZP at hb;rw [H8,e0] at hb;rcases hb with ⟨rfl,e⟩ | ⟨hb,h1,h2,e⟩
 · exact ⟨BZ _,Y8⟩
 · exact ⟨h2,by rw [e,Ut h1 h2]⟩
theorem alH (v vl:Value) (p:Pl) (CL:List (List Int×SV)) (O:List (List Int)) (at_:Pt) (w:World) (h:Cb w v p) (hv:Valid p) (hC:fD w vl CL) (hcl:CL.map (·.1)=O) (hO:O.Perm (Bj p)) (nv:Bg at_=true) :
  Calls Tryz.prog 133 #[v,vl,BD at_] w fun e w'=>(∃ n:Nat,e=.returned (.int .i64 ((n:Int)-1))/\n<=O.length/\I4 p at_=Lp O n)/\AP w w':=by
 have hmo:∀ X∈O,X∈CX p:=fun X hX=>(Nl.1 (hO.subset hX)).1;have zl:∀ X∈O,X.length<=512:=fun X hX=>Dn (Uy (hv.Gy (hmo X hX)).1 (hv.Gy (hmo X hX)).2) hv.xk;have Tc:=AA (fun u l (hl:l∈O) W (hu:Ints W u l) (hW:AP w W)=>show Calls Tryz.prog 132 #[v,u] W fun e w'=>e=.returned (.int .i64 (F8 p l))/\AP W w' from by
  have t:=adi v u p l W (h.mono hW) hu hv (fun d hd=>by have:=hv.Qo ((hv.Gy (hmo l hl)).2 d hd);exact KU AB AB);rw [hv.aCt (hmo l hl)] at t;exact t)
 have afQ:=fun u l (hl:l∈O) W (hu:Ints W u l) (hW:AP w W)=>av3 v u p l at_ W (h.mono hW) hv hu (hv.Gy (hmo l hl)).2 (by have:=zl l hl;omega) nv;unfold BD at afQ ⊢;have Jg:=AA afQ;clear afQ;have avG:=AA (fun n (hb:ZP p at_ O O.length n)=>avF hv nv hO hb);have hol:O.length<=512:=by
  rw [hO.length_eq];exact Dn (LY _ _) hv.QY
 have hll:CL.length=O.length:=by rw [<- hcl,Cm]
 obtain ⟨⟨Ac,cc,rfl,hc1,hc2,IC⟩,hI⟩:=hC;unfold maxLen at hc2;obtain ⟨_,_,_,al,rfl,hpa,⟨An,cn,rfl,-⟩,⟨⟨Aa,ca,rfl,-⟩,-⟩,⟨Af,cf,rfl,-⟩⟩:=h;have NH:=AA IC;have HI:=AA hI;have Ny:=AA hcl;have JG:=AA hll;have avH:CL.length<=512:=by omega
 clear hpa hv IC hI hcl hll hmo zl hO;generalize p.nodes.length=nn at *;generalize al.length=na at *;generalize p.faces.length=nf at *;go_enter Tryz.func133,Tryz.ntmps133;go_upto_block 0 with fail;obtain ⟨W1,hW⟩:∃ W:World,W=(w.alloc (.cells #[.slice An nn cn,.slice Aa na ca,.slice Af nf cf] 26)).alloc (.cells #[.int .i64 at_.x,.int .i64 at_.y] 39):=⟨_,rfl⟩;have D9:=AA (show AO W1 w.heap.size 26 #[.slice An nn cn,.slice Aa na ca,.slice Af nf cf] by rw [hW];exact (AO.made rfl _ _).alloc _);have CG:=AA (show AO W1 (w.heap.size+1) 39 #[.int .i64 at_.x,.int .i64 at_.y] by rw [hW];exact AO.made Aw _ _);have HB1:=AA (show AP w W1 by rw [hW];exact bA (bA (bR w) _) _);rw [<- hW];clear hW;go_wp2_with fail;go_loopw [7,8] (fun s i wr=>∃ k n:Nat,k<=CL.length/\n<=k/\i=.int .i64 k/\s=.int .i64 ((n:Int)-1)/\ZP p at_ O k n/\AP W1 wr) (fun _ i _=>CL.length-(intOf i).toNat)
 case atStart => exact ⟨0,0,BZ _,BZ _,rfl,rfl,avD p at_ O,bR W1⟩
 case round =>
  obtain ⟨k,n,hk,hnk,rfl,rfl,Ec,hb⟩:=hrel;have F7:=AA Ec;have HB:=AA hb;have EY:=AA (bT HB1.out hb);have X1:=D9.out.keep hb;have X2:=CG.out.keep hb;clear Ec hb;by_cases hlt:k<CL.length
  ·have hlo:k<O.length:=by have:=JG.out;omega
   obtain ⟨b,o,rfl,hlb,c0⟩:=(NH.out.mono EY.out).cy hlt;have hin:=(HI.out _ (BH hlt));have hoe:=fG Ny.out hlt hlo;have hmem:O[k]∈O:=BH hlo;have hyes:=AA (fun hE hl=>avE F7.out hlo hE hl);have hnot:=AA (fun hE=>alG F7.out hlo (.inl hE));have nZ:=AA (fun hE=>alG F7.out hlo (.inr hE));rw [hoe] at hmem hyes hnot nZ;generalize CL[k]=x at *;obtain ⟨X,xa,xn,xc⟩:=x;simp only at hin c0 hmem hyes hnot nZ hoe;have Et:=AA (fun W (hW:AP w W)=>Tc.out _ X hmem W (hin.mono hW) hW);have aaV:=AA (fun W (hW:AP w W)=>Jg.out _ X hmem W (hin.mono hW) hW);obtain ⟨E,hE⟩:=BL (encS p X at_);rw [hE] at aaV hyes hnot;obtain ⟨t,ht⟩:=BL (F8 p X);rw [ht] at Et hyes nZ;have k1:(k:Int)<CL.length:=by omega
   have k2:0<=(k:Int):=by omega
   clear hoe hmem hin hE ht hlo
   cases E
   case false =>
    obtain ⟨Ak,Au,Az,BA,-,-,-⟩:=X1.BF;obtain ⟨BQ,BR,BX,-,-⟩:=X2.BN;go_upto_region 5 with fail;refine Cj (wr) (.run 6 0 0 (.call 6 127 (.run 19 7 127 (.done)))) fun Bv QR Ae Ah hS=>?_
    iterate 6 refine Aj ?_
    refine FD (aaV.out _ (bT EY.out hS)) ?_;clear hS;intro Bq Bf hS;refine Aj ?_
    iterate 17 refine JU ?_
    refine Aj ?_;refine Ce ?_;clear hS Ah Ae;intro hB;have CW:=AA (bT HB.out hB);clear hB X1 Ak Au Az BA X2 BQ BR BX c0;go_wp2;go_roundw
    case rel => exact ⟨k+1,n,AB,AB,BI,rfl,hnot.out rfl,CW.out⟩
    case measure => exact BK
   case true =>
    rcases VF n with h0 | h0
    ·subst h0;have kz:((0:Nat):Int)-1=-1:=rfl;rw [kz];have hy:=AA (hyes.out rfl (.inl rfl));clear kz
     try clear Ak Au Az BA
     obtain ⟨Ak,Au,Az,BA,-,-,-⟩:=X1.BF
     try clear BQ BR BX
     obtain ⟨BQ,BR,BX,-,-⟩:=X2.BN;go_upto_region 5 with fail;refine Cj (wr) (.run 6 0 0 (.call 6 127 (.run 19 7 127 (.done)))) fun Bv QR Ae Ah hS=>?_
     iterate 6 refine Aj ?_
     refine FD (aaV.out _ (bT EY.out hS)) ?_;clear hS;intro Bq Bf hS;refine Aj ?_
     iterate 3 refine Dh ?_
     iterate 13 refine JU ?_
     refine Dh ?_;refine Aj ?_;refine Ce ?_;clear hS Ah Ae;intro hB;have CW:=AA (bT HB.out hB);clear hB X1 Ak Au Az BA X2 BQ BR BX c0;go_wp2;go_roundw
     case rel => exact ⟨k+1,k+1,AB,AB,BI,by rw [show (((k+1:Nat):Int)-1)=k by omega],hy.out,CW.out⟩
     case measure => exact BK
    ·have hnl:n-1<CL.length:=by omega
     have hno:n-1<O.length:=by have:=JG.out;omega
     obtain ⟨b',o',hA',-,e0⟩:=(NH.out.mono EY.out).cy hnl;injection hA' with hA';injection hA' with y1 y2 _;subst y1 y2;have hin:=(HI.out _ (BH hnl));have hoe:=fG Ny.out hnl hno;have hmem:O[n-1]∈O:=BH hno;have aaW:=AA (fun (h:t<F8 p O[n-1])=>hyes.out rfl (.inr ⟨hno,h⟩));have aaX:=AA (fun (h:¬ t<F8 p O[n-1])=>nZ.out ⟨AB,hno,h⟩);rw [hoe] at hmem aaW aaX;obtain ⟨m,rfl⟩:∃ m,n=m+1:=⟨n-1,AB⟩;simp only [Ze] at *;generalize CL[m]=y at *;obtain ⟨Y,ya,yn,yc⟩:=y;simp only at hin e0 hmem aaW aaX hoe;have HTm:=AA (fun W (hW:AP w W)=>Tc.out _ Y hmem W (hin.mono hW) hW);obtain ⟨u,hu⟩:=BL (F8 p Y);rw [hu] at HTm aaW aaX;have km:(((m+1:Nat):Int)-1)=(m:Int):=by omega
     rw [km];have k3:(m:Int)<CL.length:=by omega
     have k4:0<=(m:Int):=by omega
     have k5:¬ (m:Int)<0:=by omega
     clear km hoe hmem hin hu hno
     try clear Ak Au Az BA
     obtain ⟨Ak,Au,Az,BA,-,-,-⟩:=X1.BF
     try clear BQ BR BX
     obtain ⟨BQ,BR,BX,-,-⟩:=X2.BN;go_upto_region 5 with fail;refine Cj (wr) (.run 6 0 0 (.call 6 127 (.run 9 7 127 (.run 5 17 65535 (.call 16 4194303 (.call 22 8388607 (.run 3 23 8388607 (.done)))))))) fun Bv QR Ae Ah hS=>?_
     iterate 6 refine Aj ?_
     refine FD (aaV.out _ (bT EY.out hS)) ?_;clear hS;intro Bq Bf hS;refine Aj ?_
     iterate 13 refine Dh ?_
     refine FD (Et.out _ (bT EY.out hS)) ?_;clear hS;intro wr2 FT hS;refine FD (HTm.out _ (bT EY.out hS)) ?_;clear hS;intro wr3 Oi hS
     iterate 2 refine Dh ?_
     refine Aj ?_;refine Ce ?_;clear hS Ah Ae;intro hB;have CW:=AA (bT HB.out hB);clear hB X1 Ak Au Az BA X2 BQ BR BX c0 e0;by_cases c:t<u
     ·have hy:=AA (aaW.out c);go_wp2;go_roundw
      case rel => exact ⟨k+1,k+1,AB,AB,BI,by rw [show (((k+1:Nat):Int)-1)=k by omega],hy.out,CW.out⟩
      case measure => exact BK
     ·have hy:=AA (aaX.out c);go_wp2;go_roundw
      case rel => exact ⟨k+1,m+1,AB,AB,BI,by rw [show (((m+1:Nat):Int)-1)=m by omega],hy.out,CW.out⟩
      case measure => exact BK
  ·have hkk:k=O.length:=by have:=JG.out;omega
   have Ec:=F7.out;rw [hkk] at Ec;have HF:=AA (avG.out n Ec);clear Ec hkk X1 X2;go_wp2;go_ret;exact ⟨⟨n,rfl,HF.out⟩,EY.out⟩
theorem avI (f:Int->Int) (D:List Int) (hD:∀ x∈D,f x∈D) (hi:∀ x∈D,∀ y∈D,f x=f y->x=y) (l:List (Int×Int)) (hpr:∀ x∈l,x.2=f x.1) (hmem:∀ d∈D,d∈l.map (·.1)) (hlen:l.length=D.length) (hl:D.length<=100000) (u v:Value) (d:Int) (hd:d∈D) (w:World) (hu:Ints w u (l.map (·.1))) (hv:Ints w v (l.map (·.2))) :
  Calls Tryz.prog 195 #[u,v,.int .i64 d] w (aCm w (JM f D d)):=by
 obtain ⟨o1,-,o3,o4,o5,o6⟩:=WL hD hi hd;have oN:LV f D d<=D.length:=by
  have:=Uy o5 (fun y hy=>wG hD hd hy)
  rwa [o6] at this
 obtain ⟨A1,c1,rfl,hn1,hc1,hR1⟩:=hu;obtain ⟨A2,c2,rfl,hn2,hc2,hR2⟩:=hv;rw [Cm] at hn1 hn2 ⊢;rw [Cm];unfold maxLen at hc1 hc2;have HR1:=AA hR1;have HR2:=AA hR2;have HPr:=AA hpr;have NI:=AA (fun j=>hmem _ (Wx (f:=f) hD hd j));obtain ⟨q,hq⟩:=BL (JM f D d);rw [hq] at o6 ⊢;have aCg:=AA (show iter f d (LV f D d)=q from hq);have aCh:=AA o6;have H3:=AA o3;have H4:=AA o4;clear hR1 hR2 hpr hmem hq o6 o3 o4 o5 hD hi hd;rw [<- hlen] at oN hl;clear hlen;generalize LV f D d=N at *;go_enter Tryz.func195,Tryz.ntmps195;go_upto_block 0 with fail;have xH:=AA (Own.lit w w.heap.size 3 1 D5 [d] #[.int .i64 d] 1 w.heap.size rfl rfl (DT _) (D6 AB) rfl rfl);go_wp2_with fail;go_loopw [7] (fun s wr=>∃ j:Nat,j+1<=N/\(∃ A c,s=.slice A (j+1) c)/\Own wr w.heap.size 3 1 D5 s (iter f d (j+1))/\AP w wr) (fun s _=>N-lenV s)
 case atStart => exact ⟨0,AB,⟨_,_,rfl⟩,xH.out,bA (bR w) _⟩
 case round =>
  obtain ⟨j,hj,⟨A,c,rfl⟩,own,hb⟩:=hrel;obtain ⟨wo,rfl⟩:=BO wr;have HO:=AA own;have Hb:=AA hb;clear own hb xH;have hjl:(j:Int)+1<=l.length:=by omega
  obtain ⟨y,hy⟩:=BL (pw f d j);have HY:=AA hy;clear hy;go_upto_block 2 with fail;go_wp2_with fail;go_loopw [8,9] (fun t i wr=>∃ (k:Nat) (x:Int),k<=l.length/\i=.int .i64 k/\t=.int .i64 x/\AP wo wr/\(x=f y\/∀ m (hm:m<l.length),m<k->l[m].1≠y)) (fun _ i _=>l.length-(intOf i).toNat)
  case atStart => exact ⟨0,0,BZ _,rfl,rfl,bR wo,.inr (fun m _ h=>by omega)⟩
  case round =>
   obtain ⟨k,x,hk,rfl,rfl,hb2,hx⟩:=hrel;have Hb2:=AA hb2;have HX:=AA hx;have hz2:=hb2.size;clear hb2 hx;by_cases hlt:k<l.length
   ·obtain ⟨b1,q1,rfl,hl1,e1⟩:=(HR1.out.mono (bT Hb.out Hb2.out)).int (k:=k) (by rw [Cm];exact hlt);obtain ⟨b2,q2,rfl,hl2,e2⟩:=(HR2.out.mono (bT Hb.out Hb2.out)).int (k:=k) (by rw [Cm];exact hlt);obtain ⟨b3,q3,rfl,hl3,e3⟩:=((HO.out.keep Hb2.out).row_in).int (k:=j) (by rw [Wv];omega);rw [Gq] at e1 e2;rw [iG,HY.out] at e3;rw [HPr.out _ (BH hlt)] at e2;have HS:=AA (show ∀ m (hm:m<l.length),m<k+1->m=k\/m<k from fun m _ h=>by omega);have HN:=AA (show (l[k].1 == y)=false->(x=f y\/∀ m (hm:m<l.length),m<k+1->l[m].1≠y) from fun he=>by
     rcases HX.out with h | h
     · exact .inl h
     ·refine .inr (fun m hm hmk=>?_);by_cases e:m=k
      · subst e;simpa using he
      · exact h m hm AB)
    clear HS;generalize l[k].1=z at *;have k2:IntKind.i64.wrap ((j:Int)+1-1)=j:=by rw [show (j:Int)+1-1=j by omega];exact Ci _ AB
    have k3:IntKind.i64.wrap (j:Int)=j:=Ci _ AB;have k4:(j:Int)<(j:Int)+1:=by omega
    have k5:0<=(j:Int):=by omega
    have k6:(j:Int)+1-1=j:=by omega
    have k7:(k:Int)<l.length:=by omega
    go_upto_region 7 with fail;refine Cj (wr) (.run 11 0 0 (.done)) fun Bv QR Ae Ah hS=>?_
    iterate 11 refine Aj ?_
    refine Ce ?_;clear hS Ah Ae;intro hB;obtain ⟨W7,hW⟩:∃ W:World,W=wr.drew:=⟨_,rfl⟩;rw [<- hW] at hB ⊢;have Jf:=AA (bT Hb2.out hB);replace e2:=Dv hB e2;have ayy:b2<W7.heap.size:=by have:=hB.size;omega
    clear hW hB k2 k3 k4 k5 k6 e1 e3
    cases hz:(z == y)
    ·have QH:=AA (HN.out hz);clear HN;go_wp2;go_roundw
     case rel => exact ⟨k+1,x,AB,BI,rfl,Jf.out,QH.out⟩
     case measure => exact BK
    ·have hzy:z=y:=by simpa using hz
     rw [hzy] at e2;clear HN hzy;go_wp2;go_roundw
     case rel => exact ⟨k+1,f y,AB,BI,rfl,Jf.out,.inl rfl⟩
     case measure => exact BK
   ·have hxe:x=f y:=by
     rcases HX.out with h | h
     · exact h
     ·exfalso;obtain ⟨a,ha,e⟩:=EM.1 (NI.out j);obtain ⟨m,hm,rfl⟩:=Dp.1 ha;rw [HY.out] at e;exact h m hm AB e
    have hyn:f y=pw f d (j+1):=by rw [<- HY.out];rfl
    rw [hyn] at hxe;subst hxe;have EU:=AA (HO.out.keep Hb2.out);have hsn:iter f d (j+1+1)=iter f d (j+1)++[pw f d (j+1)]:=adT _ _ _;have Un:=AA hsn;clear hyn hsn;have Hb3:=AA (bT Hb.out Hb2.out);have hjN:pw f d (j+1)=d->j+1=N:=fun e=>by
     rcases rU (j+1) N with h | h
     · exact absurd e (H4.out _ AB h)
     · omega
    have alI:pw f d (j+1)≠d->j+1<N:=fun e=>by
     rcases rU (j+1) N with h | h
     · exact h
     ·have:j+1=N:=by omega
      rw [this,H3.out] at e;exact absurd rfl e
    have HJ:=AA hjN;have HJ2:=AA alI;clear hjN alI;generalize pw f d (j+1)=x at *
    cases hxd:(x == d)
    ·have hlt2:=HJ2.out (by simpa using hxd);go_wp2_with
      (at_builtin
       refine Ew _ rfl (.tmp 42) (.tmp 44) _ rfl (base:=w.heap.size) IB Gt IK rfl (Own.alloc EU.out _) rfl (l2:=[x]) (Sl.lit (n:=1) (AO.made rfl _ _) rfl (D6 AB)) abR abR (by have:=Hb3.out.size;simp;omega) ?_;intro v5 w5 DY hg5 Gf;rw [<- Un.out] at DY;obtain ⟨A5,c5,hv5,-⟩:=Own.IE DY;rw [Wv] at hv5;subst hv5;have Fh:=AA DY;have CW:=AA (bG (bA Hb3.out _) hg5 (fun g hg=>(EU.out.lt g hg).1));clear DY hg5 Gf)
     go_roundw
     case rel => exact ⟨j+1,AB,⟨A5,c5,rfl⟩,Fh.out,CW.out⟩
     case measure => simp only [lenV];omega
    ·have hjn:=HJ.out (by simpa using hxd);have ho:=EU.out;subst hjn;rw [aCg.out] at ho;have aaY:=AA ho;clear ho;go_wp2;go_ret;exact ⟨A,c,by rw [aCh.out];rfl,Hb3.out,by rw [aCh.out];exact aaY.out⟩
