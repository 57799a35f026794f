import Derived.Test.YtpempeioeiaijaaGreatJ14
set_option linter.unusedSimpArgs false
set_option linter.unusedVariables false
set_option maxRecDepth 100000
set_option maxHeartbeats 8000000
namespace Go.Proofs.YtpempeioeiaijaaGreat
open Go.RowKit Tryz
def avP (w:World) (p:Pl) (e:Ending) (w':World):Prop :=
 ∃ A c L,e=.returned (.slice A L.length c)/\AU w w'/\GY 106 w w' w.heap.size (.slice A L.length c) L/\Ie p L (Ci p) (Nl p) p.nodes/\Qp p L
def ad0:AD:=⟨0,[],sv0,[],sv0,[],sv0⟩
def iW (p:Pl) (k:Nat):List (List Int):=((Cb p).take k).filter (fun X=>decide (0<F8 p X))
def aO (p:Pl) (k:Nat):List (List Int):=((Cb p).take k).filter (fun X=>!decide (0<F8 p X))
theorem am0 {p:Pl} {k:Nat} (hk:k<(Cb p).length):iW p (k+1)=iW p k++(if 0<F8 p (Cb p)[k] then [(Cb p)[k]] else []):=by
 unfold iW;rw [Em hk,yX,eG];simp only [Dq,acu]
theorem am1 {p:Pl} {k:Nat} (hk:k<(Cb p).length):aO p (k+1)=aO p k++(if 0<F8 p (Cb p)[k] then [] else [(Cb p)[k]]):=by
 unfold aO;rw [Em hk,yX,eG];by_cases h:0<F8 p (Cb p)[k]<;>simp [h]
theorem am2 (p:Pl):iW p (Cb p).length=Ci p:=by unfold iW Ci;rw [I5]
theorem am3 (p:Pl):aO p (Cb p).length=Nl p:=by unfold aO Nl;rw [I5]
theorem pY {CL:List (List Int×SV)} {C:List (List Int)} (h:CL.map (·.1)=C) {k:Nat} (hk:k<CL.length) (hk2:k<C.length):C[k]=CL[k].1:=by
 subst h;rw [Iu]
theorem avQ {CL:List (List Int×SV)} {C:List (List Int)} (h:CL.map (·.1)=C) {k:Nat} (hk:k<CL.length):C.take (k+1)=C.take k++[CL[k].1]:=by
 subst h;rw [Em Uc,Iu]
theorem am4 (v vc:Value) (p:Pl) (CL:List (List Int×SV)) (gm:Nat) (f:Int->SV) (w:World) (h:D6 w v p) (hv:Valid p) (hc:pV w vc CL) (hcl:CL.map (·.1)=Cb p) (hpm:YX w gm p f) :
  Calls prog 71 #[v,vc,.map (some gm)] w (avP w p):=by
 have QE:=AB (fun u l (hl:l∈Cb p) W (hu:Ints W u l) (hW:AU w W)=>show Calls prog 123 #[v,u] W fun e w'=>e=.returned (.int .i64 (F8 p l))/\AU W w' from by
  have t:=aqA v u p l W (h.mono hW) hu hv (fun d hd=>by have:=hv.QC ((hv.Ic hl).2 d hd);exact KC AA AA);rw [hv.abg hl] at t;exact t)
 have ZP:=AB (fun id W (hW:AU w W)=>ao4 v p id W (h.mono hW) (by have:=hv.lim;unfold KD at this;simp only [OC,JH] at this;omega));have afT:=fun W (hW:AU w W)=>auS W gm p f (hpm.keep hW) hv;unfold BA at afT;have iD:=AB afT;clear afT;have Po:=AB hpm;have HV:=AB hv;have hnl:=hv.aat;have hcn:=hv.Yu;have hll:CL.length=(Cb p).length:=by rw [<- hcl,CV]
 obtain ⟨ML,Jj,Rh⟩:=CG hcl hll hv.afK;obtain ⟨⟨Ac,cc,rfl,hc1,hc2,RY⟩,hI⟩:=hc;obtain ⟨_,_,_,al,rfl,hpa,⟨An,cn,rfl,hn1,hn2,hR⟩,⟨⟨Aa,ca,rfl,-⟩,-⟩,⟨Af,cf,rfl,-⟩⟩:=h;unfold maxLen at hc2 hn2;obtain ⟨VP,HI,HRn⟩:=CG RY hI hR;have azn:CL.length<=512:=AA
 generalize p.faces.length=nf at *;generalize al.length=na at *;clear hpa RY hI hR hv hpm hcl hll hcn;go_enter func71,ntmps71;go_upto_region 2 with fail;obtain ⟨W1,hW⟩:∃ W:World,W=(w.alloc (.cells #[.slice An p.nodes.length cn,.slice Aa na ca,.slice Af nf cf] 34)).alloc (.cells #[.int .i64 0,.slice none 0 0,.slice none 0 0,.slice none 0 0] 106):=⟨_,rfl⟩;have X1:AO W1 w.heap.size 34 #[.slice An p.nodes.length cn,.slice Aa na ca,.slice Af nf cf]:=by rw [hW];exact (AO.made rfl _ _).alloc _
 have Fp:=AB (show Own W1 w.heap.size 106 4 F9 (.slice (some ⟨w.heap.size+1,0,none⟩) 1 1) [ad0] by rw [hW];exact Own.lit _ _ _ _ _ _ _ _ _ Ah rfl Ah (D7 AA) rfl rfl);have HB1:=AB (show AU w W1 by rw [hW];exact bA (bA (bR w) _) _);rw [<- hW];clear hW;have HA1:=AB (show GY 106 w W1 w.heap.size (.slice (some ⟨w.heap.size+1,0,none⟩) 1 1) [ad0] from ⟨Fp.1,(fun x hx=>by rw [Eb] at hx;subst hx;exact Sl.nil w),(fun x hx=>by rw [Eb] at hx;subst hx;exact Own.nil _ _ _ _ _),(fun x hx=>by rw [Eb] at hx;subst hx;intro c hc;cases hc),(fun x hx=>by rw [Eb] at hx;subst hx;exact Own.nil _ _ _ _ _),dh _ _,dh _ _⟩);have Dt:=AB X1;clear X1 Fp;go_upto_block 0 with fail;go_wp2_with fail;go_loopw [7,8,23] (fun s r i wr=>∃ (k:Nat) (L:List AD) (R:List (List Int×SV)),k<=CL.length/\i=.int .i64 k/\(∃ A c,s=.slice A L.length c)/\(∃ A c,r=.slice A R.length c)/\GY 106 w wr w.heap.size s L/\Own wr w.heap.size 32 1 J5 r R/\Ie p L (iW p k) [] []/\Qp p L/\R.map (·.1)=aO p k/\(∀ x∈R,Ints w (BF x.2) x.1)/\(∀ x∈L,x.iv=sv0)/\L.length<=k+1/\R.length<=k/\AO wr w.heap.size 34 #[.slice An p.nodes.length cn,.slice Aa na ca,.slice Af nf cf]/\AU w wr) (fun _ _ i _=>CL.length-(intOf i).toNat)
 case atStart => exact ⟨0,[ad0],[],BX _,rfl,⟨_,_,rfl⟩,⟨_,_,rfl⟩,HA1.1,Own.nil _ _ _ _ _,Ie.start p ad0 rfl rfl rfl,Qp.one p ad0,rfl,(fun x hx=>by cases hx),(fun x hx=>by rw [Eb] at hx;subst hx;rfl),Ah,Ah,Dt.1,HB1.1⟩
 case round =>
  obtain ⟨k,L,R,hk,rfl,⟨A,c,rfl⟩,⟨A',c',rfl⟩,had,hor,hdv,htw,hrm,vg,hiv,hl1,hl2,X1,hb⟩:=hrel;obtain ⟨wo,rfl⟩:=BR wr;obtain ⟨HA,HO,HD,HT,abv,Yx,vk,HX,Hb⟩:=yV had hor hdv htw hrm vg hiv X1 hb;clear had hor hdv htw hrm vg hiv hb Dt HA1 HB1;by_cases hlt:k<CL.length
  ·have hlc:k<(Cb p).length:=by have:=Jj.1;omega
   obtain ⟨b,o,rfl,hlb,c0⟩:=(VP.1.mono Hb.1).cy hlt;have hin:=HI.1 CL[k] (BO hlt);have hmem:(Cb p)[k]∈Cb p:=BO hlc;have hos:=am0 hlc;have hrs:=am1 hlc;rw [pY ML.1 hlt hlc] at hmem hos hrs;generalize CL[k]=x at *;obtain ⟨l,xs⟩:=x;obtain ⟨xa,xn,xc⟩:=xs;simp only at hin c0 hmem hos hrs;have QU:=AB hin;have Ei:=AB (fun W (hW:AU w W)=>QE.1 _ l hmem W (hin.mono hW) hW);obtain ⟨t,ht⟩:=BI (F8 p l);rw [ht] at Ei hos hrs;obtain ⟨HTe,Yh,HRs⟩:=CG ht hos hrs;clear hin hmem hlc ht hos hrs;obtain ⟨BJ,BK,BL,BQ,-⟩:=X1.Az;go_upto_region 7 with fail;go_wp2_with fail;refine (Ei.1 _ Hb.1).mono ?_;rintro e w2 ⟨rfl,hb2⟩;obtain ⟨HB2,HA2,Fq,DC⟩:=DW (bT Hb.1 hb2) (HA.1.keep hb2) (HO.1.keep hb2) (HX.1.keep hb2);have hz2:=HB2.1.size;clear hb2 X1 BJ BK BL BQ c0 hlb Ei HA HO HX Hb;by_cases h0:0<t
   ·have hos:=Yh.1;have hrs:=HRs.1;rw [AZ h0] at hos hrs;rw [MC] at hrs;have aP:=AB hos;have Yy:=AB hrs;clear hos hrs;have n1:=Own.EX HA2.1.own DC.1 Aw;go_upto_region 10 with
     (at_builtin
      refine FK _ rfl (.tmp 32) (.tmp 36) _ rfl (base:=w.heap.size) auE Sr afq rfl (Own.alloc HA2.1.own _) rfl (l2:=[(⟨t,l,⟨xa,xn,xc⟩,[],sv0,[],sv0⟩:AD)]) (Sl.lit (n:=1) (AO.made rfl _ _) rfl (D7 AA)) Dl Dl DR ?_;intro v3 w3 ho3 hg3 Vo;obtain ⟨A3,c3,hv3,-⟩:=Own.GU ho3;have hsh:(L++[(⟨t,l,⟨xa,xn,xc⟩,[],sv0,[],sv0⟩:AD)]).length=L.length+1:=by simp
      rw [hsh] at hv3;subst hv3;obtain ⟨MN,G7,EY,HB3⟩:=DW (GY.more Aw (HA2.1.keep (bA (bR w2) _)) ho3 hg3 QU.1 rfl rfl rfl rfl) (Own.grown (Own.alloc Fq.1 _) hg3 (fun g hg=>Own.apart Fq.1 HA2.1.own Aw g hg)) (AO.grown (DC.1.alloc _) hg3 (fun e=>n1 e.symm)) (bG (bA HB2.1 _) hg3 (fun g hg=>(HA2.1.own.lt g hg).1));clear ho3 hg3 Vo
      )
    clear n1;go_wp2;go_roundw
    case rel => exact ⟨k+1,_,R,AA,BG,⟨A3,c3,by rw [hsh]⟩,⟨_,_,rfl⟩,MN.1,G7.1,by rw [aP.1];exact HD.1.more rfl rfl _ rfl rfl,HT.1.more HTe.1.symm,by rw [Yy.1];exact abv.1,Yx.1,(fun x hx=>by
      rcases GI.1 hx with hx | hx
      · exact vk.1 x hx
      · rw [Eb] at hx;subst hx;rfl),by rw [hsh];omega,AA,EY.1,HB3.1⟩
    case measure => exact BH
   ·have hos:=Yh.1;have hrs:=HRs.1;rw [AX h0] at hos hrs;rw [MC] at hos;have aP:=AB hos;have Yy:=AB hrs;clear hos hrs;have n1:=Own.EX Fq.1 DC.1 Aw;go_upto_region 10 with
     (at_builtin
      refine FK _ rfl (.tmp 38) (.tmp 40) _ rfl (base:=w.heap.size) Yk WS Yj rfl (Own.alloc Fq.1 _) rfl (l2:=[((l,⟨xa,xn,xc⟩):List Int×SV)]) (Sl.lit (n:=1) (AO.made rfl _ _) rfl (D7 AA)) Dl Dl DR ?_;intro v3 w3 ho3 hg3 Vo;obtain ⟨A3,c3,hv3,-⟩:=Own.GU ho3;have hsh:(R++[((l,⟨xa,xn,xc⟩):List Int×SV)]).length=R.length+1:=by simp
      rw [hsh] at hv3;subst hv3;obtain ⟨G7,MN,EY,HB3⟩:=DW ho3 (GY.av8 Aw (HA2.1.keep (bA (bR w2) _)) hg3 (Own.alloc Fq.1 _) vk.1) (AO.grown (DC.1.alloc _) hg3 (fun e=>n1 e.symm)) (bG (bA HB2.1 _) hg3 (fun g hg=>(Fq.1.lt g hg).1));clear ho3 hg3 Vo
      )
    clear n1;go_wp2;go_roundw
    case rel => exact ⟨k+1,L,_,AA,BG,⟨_,_,rfl⟩,⟨A3,c3,by rw [hsh]⟩,MN.1,G7.1,by rw [aP.1];exact HD.1,HT.1,by rw [Yy.1,FH,abv.1];rfl,(fun x hx=>by
      rcases GI.1 hx with hx | hx
      · exact Yx.1 x hx
      · rw [Eb] at hx;subst hx;exact QU.1),vk.1,AA,by rw [hsh];omega,EY.1,HB3.1⟩
    case measure => exact BH
  ·have hkk:k=CL.length:=AA
   subst hkk;have hd0:=HD.1;have hd:=HD.1;have hrm:=abv.1;rw [Jj.1,am2] at hd;rw [Jj.1,am3] at hrm;have hsep:∀ x∈L,IV (BF x.iv) (.slice A' R.length c'):=fun x hx=>by rw [vk.1 x hx];intro g hg;cases hg
   obtain ⟨HD3,afU,vw⟩:=CG hd hrm hsep;have hl0:0<L.length:=by have:=hd0.len;omega
   clear HD abv vk hd hd0 hrm hsep X1 ML HI VP QE;go_upto_block 2 with fail;go_wp2_with fail;go_loopw [45] (fun i wr=>∃ (j:Nat) (L2:List AD),j<=R.length/\i=.int .i64 j/\L2.length=L.length/\GY 106 w wr w.heap.size (.slice A L.length c) L2/\Own wr w.heap.size 32 1 J5 (.slice A' R.length c') R/\Ie p L2 (Ci p) ((Nl p).take j) []/\Qp p L2/\(∀ x∈L2,IV (BF x.iv) (.slice A' R.length c'))/\AO wr w.heap.size 34 #[.slice An p.nodes.length cn,.slice Aa na ca,.slice Af nf cf]/\AU w wr) (fun i _=>R.length-(intOf i).toNat)
   case atStart => exact ⟨0,L,BX _,rfl,rfl,HA.1,HO.1,by rw [OD];exact HD3.1,HT.1,vw.1,HX.1,Hb.1⟩
   case round =>
    clear HA HO HD3 HT vw HX Hb;obtain ⟨j,L2,hj,rfl,hl3,had,hor,hdv,htw,hsp,X1,hb⟩:=hrel;obtain ⟨wo,rfl⟩:=BR wr;obtain ⟨HA,HO,HD,HT,HS,HX,Hb⟩:=WI had hor hdv htw hsp X1 hb;clear had hor hdv htw hsp hb;by_cases hlj:j<R.length
    ·have hrl:=HO.1.lt;obtain ⟨b,o,hA',hlb,c0⟩:=(HO.1.row_of).cy hlj;subst hA';have htk:=avQ afU.1 hlj;have hmem:R[j].1∈Nl p:=by rw [<- afU.1];exact FZ (BO hlj)
     have hin:=Yx.1 R[j] (BO hlj);generalize R[j]=x at *;obtain ⟨l,xa,xn,xc⟩:=x;unfold BF at hin;simp only at hin c0 htk hmem;have hcm:=(Xg.1 hmem).1;have hne:=HV.1.WY hcm;have hkl:0<l.length:=kN.2 hne;have hhd:l.headD 0=l[0]:=by
      cases l with
      | nil=>exact absurd rfl hne
      | cons d l'=>rfl
     have hdd:l[0]∈Bj p:=(HV.1.Ic hcm).2 _ (BO hkl);obtain ⟨a,ha,avR,hpt⟩:=HV.1.gQ hdd;have hcp:UU p l=(AV p a).getD 0 AY:=by unfold UU;rw [hhd,hpt]
     have hid:=HV.1.IQ ha;have hlen:2<=(AV p a).length:=by have:=Fa p a;omega
     have ZT:=HV.1.Xr ha;have hpl:(AV p a).length<=66:=by have:=Fa p a;omega
     have nv:=HV.1.Dh ha (k:=0) AA;have ab8:0<(AV p a).length:=AA
     have egd:(AV p a).getD 0 AY=(AV p a)[0]:=by simp only [Gm,Di ab8,Ih]
     rw [egd] at hcp nv;obtain ⟨n,hmp⟩:=(Po.1.keep Hb.1).mp;have hlk:=(hmp.keep (bD (bR wo))).look a.id (KC AA AA);have nO:=Po.1.rd a ha;have k1:=EL (-l[0]);have km:max l[0] (-l[0])=a.id:=AA
     have QU:=AB hin;obtain ⟨Al,cl,hel,-,-,hRl⟩:=hin.mono Hb.1;injection hel with y1 y2 y3;subst y1 y2 y3;obtain ⟨bl,ol,wB,wC,d0⟩:=(hRl).int hkl;subst wB;simp only [RF] at d0;have kz:(0:Int)<l.length:=AA
     have kn:¬ l=[]:=hne;generalize f a.id=y at *;obtain ⟨Ap,np,cp⟩:=y;unfold BF at hlk nO;have bg:=AB nO;obtain ⟨Ap',cp',he,hp1,hp2,-⟩:=nO;injection he with y1 y2 y3;subst y1 y2 y3;unfold maxLen at hp2;obtain ⟨Ei,Yt,Yw⟩:=CG htk hcp nv;clear hmp hdd htk hmem hpt avR ha ZT hcm hhd hne hcp nv egd;generalize a.id=ai at *;generalize AV p a=P at *;generalize l[0]=dd at *;clear hid;go_upto_region 14 with fail;refine D9 (wo) (.run 9 0 0 (.call 9 1023 (.take 10 2047 (.done)))) fun CQ QR Ae Aj hS=>?_
     iterate 9 refine Ak ?_
     refine BN ?_;clear hS;intro K hK AP;go_simp;refine hK.out _ _ AP.out (fun hS=>?_);clear hK K AP
     try simp only [pu]
     refine Ak ?_;refine D5 ?_;clear hS Aj Ae;intro hB;obtain ⟨W3,hW3⟩:∃ W:World,W=wo.drew:=⟨_,rfl⟩;rw [<- hW3] at hB ⊢;obtain ⟨HB3,MN,G7,EY⟩:=DW (bT Hb.1 hB) (HA.1.keep hB) (HO.1.keep hB) (HX.1.keep hB);clear hW3 hB HA HO HX Hb c0 d0 hlk k1 km hlb wC X1;obtain ⟨Ap',cp',he,-,-,wI⟩:=bg.1.mono HB3.1;injection he with y1 y2 y3;subst y1 y3;clear y2;obtain ⟨bp,op,RX,hlp,e10,e11⟩:=(wI).pt ab8;subst RX;simp only [kP,RF] at e10 e11;clear wI;have kz2:(0:Int)<P.length:=AA
     have kn2:¬ P=[]:=fun e=>by rw [e] at ab8;simp at ab8
     have HF:=AB (iD.1 W3 HB3.1 (.slice A L.length c) L2 (MN.1.read HB3.1) (fun x hx d hd=>by
      rcases HD.1.alm hx with e | e
      · rw [e] at hd;cases hd
      · exact (HV.1.Ic (Np.1 e).1).2 d hd) AA P[0] Yw.1)
     go_wp2_with fail;refine HF.1.mono ?_;rintro e w4 ⟨⟨bb,rfl,hbx⟩,hb4⟩;obtain ⟨hbl,hhm⟩:=HD.1.home rfl HT.1 hbx;rw [<- Yt.1] at hhm;obtain ⟨iE,HB4,Io,Jc,DL⟩:=I4 hhm (bT HB3.1 hb4) (MN.1.keep hb4) (G7.1.keep hb4) (EY.1.keep hb4);have azo:=hb4.size;clear hb4 HF HB3 MN G7 EY e10 e11 kz2 kn2 hbx hhm bg Yw Yt hlp kz kn;obtain ⟨g,hA2,hg0,hgl,-,hce⟩:=Own.Ol Io.1.own AA;subst hA2;obtain ⟨-,-,e2,-⟩:=hce bb hbl;have Ky:=Io.1.inn _ (BO hbl);have hse:=HS.1 _ (BO hbl);have hNl:L2[bb].inn.length<=512:=by
      have:=congrArg List.length (HD.1.inn bb hbl)
      rw [CV] at this;rw [this];exact EG (SC _ _) jw
     obtain ⟨iv,hiv⟩:=BI (L2[bb].iv);obtain ⟨N,hN⟩:=BI (L2[bb].inn);rw [hiv,hN] at Ky;rw [hiv] at e2 hse;rw [hN] at hNl;obtain ⟨ia,Ld,ic⟩:=iv;unfold BF at Ky e2 hse;obtain ⟨yw,ZN,Qq,Gi⟩:=DW hiv hN hse Ky;clear hiv hN hce hse Ky;have kb1:(bb:Int)<L.length:=AA
     have kb2:0<=(bb:Int):=AA
     have hsh:(N++[((l,⟨some ⟨bl,ol,none⟩,l.length,xc⟩):List Int×SV)]).length=N.length+1:=by simp
     have ED:=AB hsh;clear hsh;go_upto_region 17 with
      (at_builtin
       refine FK _ rfl (.tmp 71) (.tmp 73) _ rfl (base:=w.heap.size) Yk WS Yj rfl (Own.alloc Gi.1 _) rfl (l2:=[((l,⟨some ⟨bl,ol,none⟩,l.length,xc⟩):List Int×SV)]) (Sl.lit (n:=1) (AO.made rfl _ _) rfl (D7 AA)) Dl Dl (by have:=HB4.1.size;simp;omega) ?_;intro v5 w5 Dj hg5 G5;obtain ⟨A5,c5,hv5,-⟩:=Own.GU Dj;rw [ED.1] at hv5;subst hv5;have hown5:=Own.grown (Own.alloc Io.1.own _) hg5 (fun g hg=>Own.apart Io.1.own Gi.1 Aw g hg);obtain ⟨g',hg',-,Ri,G8,Hw⟩:=Own.Ol hown5 AA;injection hg' with hg';injection hg' with hg' _ _;subst hg';obtain ⟨-,-,f2,-⟩:=Hw bb hbl;have hf2:=G8 (bb*4+2);obtain ⟨Ip,Ep,DX,Ce⟩:=DW (GY.abl Aw (Io.1.keep (bA (bR w4) _)) hbl (Oi:=⟨A5,N.length+1,c5⟩) (c:=(l,⟨some ⟨bl,ol,none⟩,l.length,xc⟩)) ZI ZH Z9 QU.1) (Own.far (p:=⟨g,bb*4+2,none⟩) (Own.grown (Own.alloc Jc.1 _) hg5 (fun q hq e=>Qq.1 q e.symm hq)) (fun e=>Own.apart Jc.1 Io.1.own Aw g e rfl) (.slice A5 (N.length+1) c5)) (AO.far (p:=⟨g,bb*4+2,none⟩) (AO.grown (DL.1.alloc _) hg5 (fun e=>Own.EX Gi.1 DL.1 Aw e.symm)) (fun e=>Own.EX Io.1.own DL.1 Aw (by rw [e];rfl)) (.slice A5 (N.length+1) c5)) (bS (p:=⟨g,bb*4+2,none⟩) (bG (bA HB4.1 _) hg5 (fun g hg=>(Gi.1.lt g hg).1)) hg0 (.slice A5 (N.length+1) c5));have nN:=AB (show IV (.slice A5 (N.length+1) c5) (.slice (some ⟨b,o,none⟩) R.length c') from fun q hq e=>by
        rcases G5 with h | h
        · exact Qq.1 q (h.symm.trans hq) e
        ·have h1:=(Jc.1.lt q e).2;rw [hq] at h;have:=DV h
         simp at this;omega)
       clear Dj hg5 G5 hown5 Hw G8 e2
       )
     clear f2 hf2 Io Jc DL HB4 Gi Qq hgl Ri;go_wp2;go_roundw
     case rel => exact ⟨j+1,_,AA,BG,by rw [P7];exact hl3,Ip.1,Ep.1,by rw [Ei.1];exact HD.1.inner Rh.1 hbl l ⟨some ⟨bl,ol,none⟩,l.length,xc⟩ ⟨A5,N.length+1,c5⟩ iE.1,HT.1.set hbl rfl rfl,(fun x hx=>by
       rcases UE hx with ⟨rfl,_⟩ | ⟨q,hq,_,rfl⟩
       · exact nN.1
       · exact HS.1 _ (BO hq)),DX.1,Ce.1⟩
     case measure => exact BH
    ·have hjj:j=R.length:=AA
     subst hjj;have hrl:R.length=(Nl p).length:=by rw [<- afU.1,CV]
     have hd:=HD.1;rw [hrl,I5] at hd;have HD6:=AB hd;clear HD HS HO hd hrl X1;have X1:=HX.1
     try clear BJ BK BL BQ
     obtain ⟨BJ,BK,BL,BQ,-⟩:=X1.Az;go_upto_block 4 with fail;clear X1 BJ BK BL BQ;go_wp2_with fail;go_loopw [81] (fun i wr=>∃ (k:Nat) (L3:List AD),k<=p.nodes.length/\i=.int .i64 k/\L3.length=L.length/\GY 106 w wr w.heap.size (.slice A L.length c) L3/\Ie p L3 (Ci p) (Nl p) (p.nodes.take k)/\Qp p L3/\AO wr w.heap.size 34 #[.slice An p.nodes.length cn,.slice Aa na ca,.slice Af nf cf]/\AU w wr) (fun i _=>p.nodes.length-(intOf i).toNat)
     case atStart => exact ⟨0,L2,BX _,rfl,hl3,HA.1,by rw [OD];exact HD6.1,HT.1,HX.1,Hb.1⟩
     case round =>
      clear HA HD6 HT HX Hb;obtain ⟨k,L3,hk,rfl,hl4,had,hdv,htw,X1,hb⟩:=hrel;obtain ⟨wo,rfl⟩:=BR wr;obtain ⟨HA,HD,HT,HX,Hb⟩:=I4 had hdv htw X1 hb;clear had hdv htw hb;by_cases hlk:k<p.nodes.length
      ·obtain ⟨b,o,rfl,hlb,c0,c1,c2'⟩:=(HRn.1.mono Hb.1).nd hlk;have htk:p.nodes.take (k+1)=p.nodes.take k++[p.nodes[k]]:=Em hlk;have nv:=HV.1.uU (BO hlk);generalize p.nodes[k]=nd at *;obtain ⟨Ei,Yw,iF,YK⟩:=DW htk nv (fun W (hW:AU w W)=>ZP.1 nd.id W hW) (fun h0=>HD.1.pass nd h0);clear htk nv;obtain ⟨dg,hdg⟩:=BI (Oe p.AQ nd.id);rw [hdg] at iF YK;have pq:=AB hdg;clear hdg;go_upto_region 21 with fail;obtain ⟨W2,hW⟩:∃ W:World,W=wo.alloc (.cells #[.int .i64 nd.id,.int .i64 nd.pt.x,.int .i64 nd.pt.y] 47):=⟨_,rfl⟩;have hA:AU wo W2:=by rw [hW];exact bA (bR wo) _
       have X5:AO W2 wo.heap.size 47 #[.int .i64 nd.id,.int .i64 nd.pt.x,.int .i64 nd.pt.y]:=by rw [hW];exact AO.made rfl _ _
       replace X1:=X1.keep hA;obtain ⟨HA2,DC,DX,HB2⟩:=DW (HA.1.keep hA) X1 X5 (bT Hb.1 hA);have hz2:=Hb.1.size;rw [<- hW];clear hW hA HA HX Hb c0 c1 c2' hlb;obtain ⟨g5,hg5⟩:=BI wo.heap.size;rw [hg5] at DX X5 hz2 ⊢;clear hg5
       try clear BJ BK BL BQ
       obtain ⟨BJ,BK,BL,BQ,-⟩:=X1.Az;obtain ⟨DI,DJ,DU,IJ,-⟩:=X5.Az;go_wp2_with fail;refine (iF.1 _ HB2.1).mono ?_;rintro e w3 ⟨rfl,hb3⟩;obtain ⟨HB3,MN,EY⟩:=CG (bT HB2.1 hb3) (HA2.1.keep hb3) (DC.1.keep hb3);have ab9:=DX.1.keep hb3;have YL:=AB ab9;clear hb3 X1 BJ BK BL BQ X5 DI DJ DU IJ iF HA2 DC DX HB2;by_cases h0:dg=0
       ·subst h0;have X5:=ab9;clear ab9 YK
        try clear DI DJ DU IJ
        obtain ⟨DI,DJ,DU,IJ,-⟩:=X5.Az;have HF:=AB (iD.1 w3 HB3.1 (.slice A L.length c) L3 (MN.1.read HB3.1) (fun x hx d hd=>by
         rcases HD.1.alm hx with e | e
         · rw [e] at hd;cases hd
         · exact (HV.1.Ic (Np.1 e).1).2 d hd) AA nd.pt Yw.1)
        go_wp2_with fail;refine HF.1.mono ?_;rintro e w4 ⟨⟨bb,rfl,hbx⟩,hb4⟩;obtain ⟨hbl,hhm⟩:=HD.1.home rfl HT.1 hbx;obtain ⟨iE,HB4,Io,DL,VY⟩:=I4 hhm (bT HB3.1 hb4) (MN.1.keep hb4) (EY.1.keep hb4) (YL.1.keep hb4);have aN:=hb4.size;clear hb4 HF HB3 MN EY YL X5 DI DJ DU IJ hbx hhm;obtain ⟨g,hA2,hg0,hgl,-,hce⟩:=Own.Ol Io.1.own AA;subst hA2;obtain ⟨-,-,-,e2⟩:=hce bb hbl;have Ky:=Io.1.EP _ (BO hbl);have hNl:L3[bb].EP.length<=256:=by
         rw [HD.1.EP bb hbl,CV];exact EG (SC _ _) jw
        obtain ⟨iv,hiv⟩:=BI (L3[bb].av);obtain ⟨N,hN⟩:=BI (L3[bb].EP);rw [hiv,hN] at Ky;rw [hiv] at e2;rw [hN] at hNl;obtain ⟨ia,Ld,ic⟩:=iv;unfold BF at Ky e2;obtain ⟨yw,ZN,Gi⟩:=CG hiv hN Ky;clear hiv hN hce Ky;have kb1:(bb:Int)<L.length:=AA
        have kb2:0<=(bb:Int):=AA
        have hsh:(N++[nd.id]).length=N.length+1:=by simp
        have ED:=AB hsh;clear hsh;have X5:=VY.1
        try clear DI DJ DU IJ
        obtain ⟨DI,DJ,DU,IJ,-⟩:=X5.Az;have QA:w.heap.size<=w4.heap.size:=HB4.1.size;go_upto_region 23 with fail;refine PE (w.heap.size) (w4) (.run 6 0 0 (.take 7 191 (.two 6 255 (.call 8 511 (.call 9 1023 (.call 10 2047 (.take 11 4095 (.take 12 8191 (.call 13 16383 (.done))))))) 8 447 (.two 6 511 (.call 9 1023 (.call 10 2047 (.take 11 4095 (.take 12 8191 (.call 13 16383 (.done)))))) 9 959 (.call 6 1023 (.call 10 2047 (.take 11 4095 (.take 12 8191 (.call 13 16383 (.done)))))))))) fun CQ QR Ae Aj hS=>?_
        iterate 7 refine Ak ?_
        refine MQ (i:=6) (j:=8) (ET Ae rfl) (ET Ae rfl) (fun K hK=>?_) (fun K hK=>?_)
        ·have AP:=AB hS;clear hS;refine En (Eh rfl) ?_;go_simp;refine hK.out _ _ AP.out (fun hS=>?_);clear hK K AP
         try simp only [pu]
         refine BN ?_;clear hS;intro K hK AP;go_simp;refine hK.out _ _ AP.out (fun hS=>?_);clear hK K AP
         try simp only [pu]
         refine BN ?_;clear hS;intro K hK AP;go_simp;refine hK.out _ _ (Ej AA AP.out _) (fun hS=>?_);clear hK K AP
         try simp only [pu]
         refine BN ?_;clear hS;intro K hK AP;refine GK (.tmp 101) (.tmp 104) _ rfl (base:=w.heap.size) Jk JV Jl rfl ((Gi.1.keep (bD (bR w4))).alloc _) rfl (l2:=[nd.id]) (Sl.lit (n:=1) (AO.made rfl _ _) rfl (D7 AA)) Dl Dl DR ?_;intro v5 w5 Dj hg5 G5;obtain ⟨A5,c5,hv5,-⟩:=Own.GU Dj;rw [ED.1] at hv5;subst hv5;have hown5:=Own.grown ((Io.1.own.keep (bD (bR w4))).alloc _) hg5 (fun g hg=>Own.apart Io.1.own Gi.1 Aw g hg);obtain ⟨g',hg',-,Ri,G8,Hw⟩:=Own.Ol hown5 AA;injection hg' with hg';injection hg' with hg' _ _;subst hg';obtain ⟨-,-,-,f2⟩:=Hw bb hbl;have hf2:=G8 (bb*4+3);obtain ⟨Ip,DX,Ce⟩:=CG (GY.vZ Aw (Io.1.keep (bA (bD (bR w4)) _)) hbl (OV:=⟨A5,N.length+1,c5⟩) (c:=nd.id) ZI ZH Z9) (AO.far (p:=⟨g,bb*4+3,none⟩) (AO.grown ((DL.1.drew).alloc _) hg5 (fun e=>Own.EX Gi.1 DL.1 Aw e.symm)) (fun e=>Own.EX Io.1.own DL.1 Aw (by rw [e];rfl)) (.slice A5 (N.length+1) c5)) (bS (p:=⟨g,bb*4+3,none⟩) (bG (bA (bD HB4.1) _) hg5 (fun g hg=>(Gi.1.lt g hg).1)) hg0 (.slice A5 (N.length+1) c5));have hS:E8 (w.heap.size) w4 w5:=Below.grown (show Below w.heap.size w4 _ from AP.out) hg5 (EG QA (show Below w.heap.size w4 _ from AP.out).size) (fun g hg=>(Gi.1.lt g hg).1);clear Dj hg5 G5 hown5 Hw G8 e2;clear AP;refine hK.out _ _ hS (fun _=>?_);clear hK K
         try simp only [pu]
         iterate 2 refine Ak ?_
         refine BN ?_;clear hS;intro K hK AP;go_simp;refine hK.out _ _ (by unfold E8;have h:Below _ _ _:=AP.out;repeat (first | with_reducible assumption | with_reducible exact Below.refl _ _ | with_reducible refine JG ?_ Jv _ | with_reducible refine Below.drew ?_ | with_reducible refine Ej AA ?_ _ | exact h)) ?_;intro hS;clear hK K AP
         try simp only [pu]
         refine J3 ?_;clear hS Aj Ae;intro hB;go_wp2;go_roundw
         case rel => exact ⟨k+1,_,AA,BG,yJ,Ip.1,by rw [Ei.1];exact HD.1.lone Rh.1 hbl nd ⟨A5,N.length+1,c5⟩ pq.1 iE.1,HT.1.set hbl rfl rfl,DX.1,Ce.1⟩
         case measure => exact BH
        ·have AP:=AB hS;clear hS;refine En (Eh rfl) ?_;go_simp;refine hK.out _ _ AP.out (fun hS=>?_);clear hK K AP
         try simp only [pu]
         refine MQ (i:=6) (j:=9) (ET Ae rfl) (ET Ae rfl) (fun K hK=>?_) (fun K hK=>?_)
         ·have AP:=AB hS;clear hS;refine En (Eh rfl) ?_;go_simp;refine hK.out _ _ AP.out (fun hS=>?_);clear hK K AP
          try simp only [pu]
          refine BN ?_;clear hS;intro K hK AP;go_simp;refine hK.out _ _ (Ej AA AP.out _) (fun hS=>?_);clear hK K AP
          try simp only [pu]
          refine BN ?_;clear hS;intro K hK AP;refine GK (.tmp 101) (.tmp 104) _ rfl (base:=w.heap.size) Jk JV Jl rfl ((Gi.1.keep (bD (bR w4))).alloc _) rfl (l2:=[nd.id]) (Sl.lit (n:=1) (AO.made rfl _ _) rfl (D7 AA)) Dl Dl DR ?_;intro v5 w5 Dj hg5 G5;obtain ⟨A5,c5,hv5,-⟩:=Own.GU Dj;rw [ED.1] at hv5;subst hv5;have hown5:=Own.grown ((Io.1.own.keep (bD (bR w4))).alloc _) hg5 (fun g hg=>Own.apart Io.1.own Gi.1 Aw g hg);obtain ⟨g',hg',-,Ri,G8,Hw⟩:=Own.Ol hown5 AA;injection hg' with hg';injection hg' with hg' _ _;subst hg';obtain ⟨-,-,-,f2⟩:=Hw bb hbl;have hf2:=G8 (bb*4+3);obtain ⟨Ip,DX,Ce⟩:=CG (GY.vZ Aw (Io.1.keep (bA (bD (bR w4)) _)) hbl (OV:=⟨A5,N.length+1,c5⟩) (c:=nd.id) ZI ZH Z9) (AO.far (p:=⟨g,bb*4+3,none⟩) (AO.grown ((DL.1.drew).alloc _) hg5 (fun e=>Own.EX Gi.1 DL.1 Aw e.symm)) (fun e=>Own.EX Io.1.own DL.1 Aw (by rw [e];rfl)) (.slice A5 (N.length+1) c5)) (bS (p:=⟨g,bb*4+3,none⟩) (bG (bA (bD HB4.1) _) hg5 (fun g hg=>(Gi.1.lt g hg).1)) hg0 (.slice A5 (N.length+1) c5));have hS:E8 (w.heap.size) w4 w5:=Below.grown (show Below w.heap.size w4 _ from AP.out) hg5 (EG QA (show Below w.heap.size w4 _ from AP.out).size) (fun g hg=>(Gi.1.lt g hg).1);clear Dj hg5 G5 hown5 Hw G8 e2;clear AP;refine hK.out _ _ hS (fun _=>?_);clear hK K
          try simp only [pu]
          iterate 2 refine Ak ?_
          refine BN ?_;clear hS;intro K hK AP;go_simp;refine hK.out _ _ (by unfold E8;have h:Below _ _ _:=AP.out;repeat (first | with_reducible assumption | with_reducible exact Below.refl _ _ | with_reducible refine JG ?_ Jv _ | with_reducible refine Below.drew ?_ | with_reducible refine Ej AA ?_ _ | exact h)) ?_;intro hS;clear hK K AP
          try simp only [pu]
          refine J3 ?_;clear hS Aj Ae;intro hB;go_wp2;go_roundw
          case rel => exact ⟨k+1,_,AA,BG,yJ,Ip.1,by rw [Ei.1];exact HD.1.lone Rh.1 hbl nd ⟨A5,N.length+1,c5⟩ pq.1 iE.1,HT.1.set hbl rfl rfl,DX.1,Ce.1⟩
          case measure => exact BH
         ·have AP:=AB hS;clear hS;refine En (Eh rfl) ?_;go_simp;refine hK.out _ _ (Ej AA AP.out _) (fun hS=>?_);clear hK K AP
          try simp only [pu]
          refine BN ?_;clear hS;intro K hK AP;go_simp;refine hK.out _ _ AP.out (fun hS=>?_);clear hK K AP
          try simp only [pu]
          refine BN ?_;clear hS;intro K hK AP;refine GK (.tmp 101) (.tmp 104) _ rfl (base:=w.heap.size) Jk JV Jl rfl ((Gi.1.keep (bD (bR w4))).alloc _) rfl (l2:=[nd.id]) (Sl.lit (n:=1) (AO.made rfl _ _) rfl (D7 AA)) Dl Dl DR ?_;intro v5 w5 Dj hg5 G5;obtain ⟨A5,c5,hv5,-⟩:=Own.GU Dj;rw [ED.1] at hv5;subst hv5;have hown5:=Own.grown ((Io.1.own.keep (bD (bR w4))).alloc _) hg5 (fun g hg=>Own.apart Io.1.own Gi.1 Aw g hg);obtain ⟨g',hg',-,Ri,G8,Hw⟩:=Own.Ol hown5 AA;injection hg' with hg';injection hg' with hg' _ _;subst hg';obtain ⟨-,-,-,f2⟩:=Hw bb hbl;have hf2:=G8 (bb*4+3);obtain ⟨Ip,DX,Ce⟩:=CG (GY.vZ Aw (Io.1.keep (bA (bD (bR w4)) _)) hbl (OV:=⟨A5,N.length+1,c5⟩) (c:=nd.id) ZI ZH Z9) (AO.far (p:=⟨g,bb*4+3,none⟩) (AO.grown ((DL.1.drew).alloc _) hg5 (fun e=>Own.EX Gi.1 DL.1 Aw e.symm)) (fun e=>Own.EX Io.1.own DL.1 Aw (by rw [e];rfl)) (.slice A5 (N.length+1) c5)) (bS (p:=⟨g,bb*4+3,none⟩) (bG (bA (bD HB4.1) _) hg5 (fun g hg=>(Gi.1.lt g hg).1)) hg0 (.slice A5 (N.length+1) c5));have hS:E8 (w.heap.size) w4 w5:=Below.grown (show Below w.heap.size w4 _ from AP.out) hg5 (EG QA (show Below w.heap.size w4 _ from AP.out).size) (fun g hg=>(Gi.1.lt g hg).1);clear Dj hg5 G5 hown5 Hw G8 e2;clear AP;refine hK.out _ _ hS (fun _=>?_);clear hK K
          try simp only [pu]
          iterate 2 refine Ak ?_
          refine BN ?_;clear hS;intro K hK AP;go_simp;refine hK.out _ _ (by unfold E8;have h:Below _ _ _:=AP.out;repeat (first | with_reducible assumption | with_reducible exact Below.refl _ _ | with_reducible refine JG ?_ Jv _ | with_reducible refine Below.drew ?_ | with_reducible refine Ej AA ?_ _ | exact h)) ?_;intro hS;clear hK K AP
          try simp only [pu]
          refine J3 ?_;clear hS Aj Ae;intro hB;go_wp2;go_roundw
          case rel => exact ⟨k+1,_,AA,BG,yJ,Ip.1,by rw [Ei.1];exact HD.1.lone Rh.1 hbl nd ⟨A5,N.length+1,c5⟩ pq.1 iE.1,HT.1.set hbl rfl rfl,DX.1,Ce.1⟩
          case measure => exact BH
       ·have h1:(dg == 0)=false:=by simpa using h0
        have pz:=AB (YK.1 h0);clear h0 ab9 YK;go_wp2;go_roundw
        case rel => exact ⟨k+1,L3,AA,BG,hl4,MN.1,by rw [Ei.1];exact pz.1,HT.1,EY.1,HB3.1⟩
        case measure => exact BH
      ·have hkk:k=p.nodes.length:=AA
       subst hkk;have hd:=HD.1;rw [I5] at hd;have HDf:=AB hd;clear hd X1;go_wp2;go_ret;exact ⟨A,c,L3,by rw [hl4];rfl,Hb.1,by rw [hl4];exact HA.1,HDf.1,HT.1⟩
def YN (p:Pl) (v:Pt) (O:List (List Int)) (k n:Nat):Prop :=
 (n=0/\Js (fun X=>encS p X v) (F8 p) (O.take k)=none)\/∃ hn:n-1<O.length,1<=n/\n<=k/\Js (fun X=>encS p X v) (F8 p) (O.take k)=some O[n-1]
theorem avS (p:Pl) (v:Pt) (O:List (List Int)):YN p v O 0 0:=.inl ⟨rfl,by rw [OD];rfl⟩
theorem avT {p:Pl} {v:Pt} {O:List (List Int)} {k n:Nat} (h:YN p v O k n) (hk:k<O.length) (hE:encS p O[k] v=true) (hlt:n=0\/∃ hn:n-1<O.length,F8 p O[k]<F8 p O[n-1]):YN p v O (k+1) (k+1):=by
 refine .inr ⟨AA,AA,Cj _,?_⟩;rw [aef _ _ hk];unfold Qi;rcases h with ⟨rfl,e⟩ | ⟨hb,h1,h2,e⟩
 · rw [e];simp [hE]
 ·rw [e];rcases hlt with g | ⟨_,g⟩
  · omega
  · simp [hE,g]
theorem am5 {p:Pl} {v:Pt} {O:List (List Int)} {k n:Nat} (h:YN p v O k n) (hk:k<O.length) (hno:encS p O[k] v=false\/(n≠0/\∃ hn:n-1<O.length,¬ F8 p O[k]<F8 p O[n-1])):YN p v O (k+1) n:=by
 rcases h with ⟨rfl,e⟩ | ⟨hb,h1,h2,e⟩
 ·refine .inl ⟨rfl,?_⟩;rw [aef _ _ hk,e];rcases hno with g | ⟨g,-⟩
  · unfold Qi;simp [g]
  · exact absurd rfl g
 ·refine .inr ⟨hb,h1,AA,?_⟩;rw [aef _ _ hk,e];unfold Qi;rcases hno with g | ⟨-,_,g⟩
  · simp [g]
  · simp [g]
theorem avU {p:Pl} (h:Valid p) {v:Pt} (nv:CJ v=true) {O:List (List Int)} (hO:O.Perm (Ci p)) {n:Nat} (hb:YN p v O O.length n):n<=O.length/\MG p v=Lj O n:=by
 have e0:=h.asw hO.symm nv;unfold YN at hb;rw [I5,e0] at hb;rcases hb with ⟨rfl,e⟩ | ⟨hb,h1,h2,e⟩
 · exact ⟨BX _,by rw [e];rfl⟩
 · exact ⟨h2,by rw [e,VT h1 h2]⟩
theorem aud (v vl:Value) (p:Pl) (CL:List (List Int×SV)) (O:List (List Int)) (at_:Pt) (w:World) (h:D6 w v p) (hv:Valid p) (hC:pV w vl CL) (hcl:CL.map (·.1)=O) (hO:O.Perm (Ci p)) (nv:CJ at_=true) :
  Calls prog 135 #[v,vl,BA at_] w fun e w'=>(∃ n:Nat,e=.returned (.int .i64 ((n:Int)-1))/\n<=O.length/\MG p at_=Lj O n)/\AU w w':=by
 have hmo:∀ X∈O,X∈Cb p:=fun X hX=>(Np.1 (hO.subset hX)).1;have wE:∀ X∈O,X.length<=512:=fun X hX=>EG (Vk (hv.Ic (hmo X hX)).1 (hv.Ic (hmo X hX)).2) hv.wQ;have QE:=AB (fun u l (hl:l∈O) W (hu:Ints W u l) (hW:AU w W)=>show Calls prog 134 #[v,u] W fun e w'=>e=.returned (.int .i64 (F8 p l))/\AU W w' from by
  have t:=aez v u p l W (h.mono hW) hu hv (fun d hd=>by have:=hv.QC ((hv.Ic (hmo l hl)).2 d hd);exact KC AA AA);rw [hv.abg (hmo l hl)] at t;exact t)
 have afV:=fun u l (hl:l∈O) W (hu:Ints W u l) (hW:AU w W)=>avJ v u p l at_ W (h.mono hW) hv hu (hv.Ic (hmo l hl)).2 (by have:=wE l hl;omega) nv;unfold BA at afV ⊢;have QU:=AB afV;clear afV;have aue:=AB (fun n (hb:YN p at_ O O.length n)=>avU hv nv hO hb);have hol:O.length<=512:=by
  rw [hO.length_eq];exact EG (SC _ _) hv.Yu
 have hll:CL.length=O.length:=by rw [<- hcl,CV]
 obtain ⟨⟨Ac,cc,rfl,hc1,hc2,RY⟩,hI⟩:=hC;unfold maxLen at hc2;obtain ⟨_,_,_,al,rfl,hpa,⟨An,cn,rfl,-⟩,⟨⟨Aa,ca,rfl,-⟩,-⟩,⟨Af,cf,rfl,-⟩⟩:=h;obtain ⟨VP,HI,ML,Jj⟩:=DW RY hI hcl hll;have azp:CL.length<=512:=AA
 clear hpa hv RY hI hcl hll hmo wE hO;generalize p.nodes.length=nn at *;generalize al.length=na at *;generalize p.faces.length=nf at *;go_enter func135,ntmps135;go_upto_block 0 with fail;obtain ⟨W1,hW⟩:∃ W:World,W=(w.alloc (.cells #[.slice An nn cn,.slice Aa na ca,.slice Af nf cf] 34)).alloc (.cells #[.int .i64 at_.x,.int .i64 at_.y] 42):=⟨_,rfl⟩;obtain ⟨Dt,DC,HB1⟩:=CG (show AO W1 w.heap.size 34 #[.slice An nn cn,.slice Aa na ca,.slice Af nf cf] by rw [hW];exact (AO.made rfl _ _).alloc _) (show AO W1 (w.heap.size+1) 42 #[.int .i64 at_.x,.int .i64 at_.y] by rw [hW];exact AO.made Ah _ _) (show AU w W1 by rw [hW];exact bA (bA (bR w) _) _);rw [<- hW];clear hW;go_wp2_with fail;go_loopw [7,8] (fun s i wr=>∃ k n:Nat,k<=CL.length/\n<=k/\i=.int .i64 k/\s=.int .i64 ((n:Int)-1)/\YN p at_ O k n/\AU W1 wr) (fun _ i _=>CL.length-(intOf i).toNat)
 case atStart => exact ⟨0,0,BX _,BX _,rfl,rfl,avS p at_ O,bR W1⟩
 case round =>
  obtain ⟨k,n,hk,hnk,rfl,rfl,Ik,hb⟩:=hrel;obtain ⟨IY,HB,KF⟩:=CG Ik hb (bT HB1.1 hb);have X1:=Dt.1.keep hb;have X2:=DC.1.keep hb;clear Ik hb;by_cases hlt:k<CL.length
  ·have hlo:k<O.length:=by have:=Jj.1;omega
   obtain ⟨b,o,rfl,hlb,c0⟩:=(VP.1.mono KF.1).cy hlt;have hin:=(HI.1 _ (BO hlt));have hoe:=pY ML.1 hlt hlo;have hmem:O[k]∈O:=BO hlo;obtain ⟨hyes,hnot,mG⟩:=CG (fun hE hl=>avT IY.1 hlo hE hl) (fun hE=>am5 IY.1 hlo (.inl hE)) (fun hE=>am5 IY.1 hlo (.inr hE));rw [hoe] at hmem hyes hnot mG;generalize CL[k]=x at *;obtain ⟨X,xa,xn,xc⟩:=x;simp only at hin c0 hmem hyes hnot mG hoe;have Ei:=AB (fun W (hW:AU w W)=>QE.1 _ X hmem W (hin.mono hW) hW);have abA:=AB (fun W (hW:AU w W)=>QU.1 _ X hmem W (hin.mono hW) hW);obtain ⟨E,hE⟩:=BI (encS p X at_);rw [hE] at abA hyes hnot;obtain ⟨t,ht⟩:=BI (F8 p X);rw [ht] at Ei hyes mG;have k1:(k:Int)<CL.length:=AA
   have k2:0<=(k:Int):=AA
   clear hoe hmem hin hE ht hlo
   cases E
   case false =>
    obtain ⟨BJ,BK,BL,BQ,-⟩:=X1.Az;obtain ⟨Bh,Bq,Bv,-⟩:=X2.Bl;go_upto_region 5 with fail;refine D9 (wr) (.run 6 0 0 (.call 6 127 (.run 19 7 127 (.done)))) fun CQ QR Ae Aj hS=>?_
    iterate 6 refine Ak ?_
    refine II (abA.1 _ (bT KF.1 hS)) ?_;clear hS;intro BZ BU hS;refine Ak ?_
    iterate 17 refine JW ?_
    refine Ak ?_;refine D5 ?_;clear hS Aj Ae;intro hB;have Ce:=AB (bT HB.1 hB);clear hB X1 BJ BK BL BQ X2 Bh Bq Bv c0;go_wp2;go_roundw
    case rel => exact ⟨k+1,n,AA,AA,BG,rfl,hnot.1 rfl,Ce.1⟩
    case measure => exact BH
   case true =>
    rcases kL n with h0 | h0
    ·subst h0;have kz:((0:Nat):Int)-1=-1:=rfl;rw [kz];have hy:=AB (hyes.1 rfl (.inl rfl));clear kz
     try clear BJ BK BL BQ
     obtain ⟨BJ,BK,BL,BQ,-⟩:=X1.Az
     try clear Bh Bq Bv
     obtain ⟨Bh,Bq,Bv,-⟩:=X2.Bl;go_upto_region 5 with fail;refine D9 (wr) (.run 6 0 0 (.call 6 127 (.run 19 7 127 (.done)))) fun CQ QR Ae Aj hS=>?_
     iterate 6 refine Ak ?_
     refine II (abA.1 _ (bT KF.1 hS)) ?_;clear hS;intro BZ BU hS;refine Ak ?_
     iterate 3 refine E5 ?_
     iterate 13 refine JW ?_
     refine E5 ?_;refine Ak ?_;refine D5 ?_;clear hS Aj Ae;intro hB;have Ce:=AB (bT HB.1 hB);clear hB X1 BJ BK BL BQ X2 Bh Bq Bv c0;go_wp2;go_roundw
     case rel => exact ⟨k+1,k+1,AA,AA,BG,by rw [show (((k+1:Nat):Int)-1)=k by omega],hy.1,Ce.1⟩
     case measure => exact BH
    ·have hnl:n-1<CL.length:=AA
     have hno:n-1<O.length:=by have:=Jj.1;omega
     obtain ⟨b',o',hA',-,e0⟩:=(VP.1.mono KF.1).cy hnl;injection hA' with hA';injection hA' with y1 y2 _;subst y1 y2;have hin:=(HI.1 _ (BO hnl));have hoe:=pY ML.1 hnl hno;have hmem:O[n-1]∈O:=BO hno;have abB:=AB (fun (h:t<F8 p O[n-1])=>hyes.1 rfl (.inr ⟨hno,h⟩));have abC:=AB (fun (h:¬ t<F8 p O[n-1])=>mG.1 ⟨AA,hno,h⟩);rw [hoe] at hmem abB abC;obtain ⟨m,rfl⟩:∃ m,n=m+1:=⟨n-1,AA⟩;simp only [yg] at *;generalize CL[m]=y at *;obtain ⟨Y,ya,yn,yc⟩:=y;simp only at hin e0 hmem abB abC hoe;have HTm:=AB (fun W (hW:AU w W)=>QE.1 _ Y hmem W (hin.mono hW) hW);obtain ⟨u,hu⟩:=BI (F8 p Y);rw [hu] at HTm abB abC;have km:(((m+1:Nat):Int)-1)=(m:Int):=AA
     rw [km];have k3:(m:Int)<CL.length:=AA
     have k4:0<=(m:Int):=AA
     have k5:¬ (m:Int)<0:=AA
     clear km hoe hmem hin hu hno
     try clear BJ BK BL BQ
     obtain ⟨BJ,BK,BL,BQ,-⟩:=X1.Az
     try clear Bh Bq Bv
     obtain ⟨Bh,Bq,Bv,-⟩:=X2.Bl;go_upto_region 5 with fail;refine D9 (wr) (.run 6 0 0 (.call 6 127 (.run 9 7 127 (.run 5 17 65535 (.call 16 4194303 (.call 22 8388607 (.run 3 23 8388607 (.done)))))))) fun CQ QR Ae Aj hS=>?_
     iterate 6 refine Ak ?_
     refine II (abA.1 _ (bT KF.1 hS)) ?_;clear hS;intro BZ BU hS;refine Ak ?_
     iterate 13 refine E5 ?_
     refine II (Ei.1 _ (bT KF.1 hS)) ?_;clear hS;intro wr2 Du hS;refine II (HTm.1 _ (bT KF.1 hS)) ?_;clear hS;intro wr3 NG hS
     iterate 2 refine E5 ?_
     refine Ak ?_;refine D5 ?_;clear hS Aj Ae;intro hB;have Ce:=AB (bT HB.1 hB);clear hB X1 BJ BK BL BQ X2 Bh Bq Bv c0 e0;by_cases c:t<u
     ·have hy:=AB (abB.1 c);go_wp2;go_roundw
      case rel => exact ⟨k+1,k+1,AA,AA,BG,by rw [show (((k+1:Nat):Int)-1)=k by omega],hy.1,Ce.1⟩
      case measure => exact BH
     ·have hy:=AB (abC.1 c);go_wp2;go_roundw
      case rel => exact ⟨k+1,m+1,AA,AA,BG,by rw [show (((m+1:Nat):Int)-1)=m by omega],hy.1,Ce.1⟩
      case measure => exact BH
  ·have hkk:k=O.length:=by have:=Jj.1;omega
   have Ik:=IY.1;rw [hkk] at Ik;have HF:=AB (aue.1 n Ik);clear Ik hkk X1 X2;go_wp2;go_ret;exact ⟨⟨n,rfl,HF.1⟩,KF.1⟩
theorem auf (f:Int->Int) (D:List Int) (hD:∀ x∈D,f x∈D) (hi:∀ x∈D,∀ y∈D,f x=f y->x=y) (l:List (Int×Int)) (hpr:∀ x∈l,x.2=f x.1) (hmem:∀ d∈D,d∈l.map (·.1)) (hlen:l.length=D.length) (hl:D.length<=100000) (u v:Value) (d:Int) (hd:d∈D) (w:World) (hu:Ints w u (l.map (·.1))) (hv:Ints w v (l.map (·.2))) :
  Calls prog 182 #[u,v,.int .i64 d] w (aap w (JZ f D d)):=by
 obtain ⟨o1,-,o3,o4,o5,o6⟩:=Vl hD hi hd;have oN:KZ f D d<=D.length:=by
  have:=Vk o5 (fun y hy=>uV hD hd hy)
  rwa [o6] at this
 obtain ⟨A1,c1,rfl,hn1,hc1,hR1⟩:=hu;obtain ⟨A2,c2,rfl,hn2,hc2,hR2⟩:=hv;rw [CV] at hn1 hn2 ⊢;rw [CV];unfold maxLen at hc1 hc2;obtain ⟨HR1,HR2,HPr,gV⟩:=DW hR1 hR2 hpr (fun j=>hmem _ (XH (f:=f) hD hd j));obtain ⟨q,hq⟩:=BI (JZ f D d);rw [hq] at o6 ⊢;obtain ⟨aah,aai,H3,H4⟩:=DW (show iter f d (KZ f D d)=q from hq) o6 o3 o4;clear hR1 hR2 hpr hmem hq o6 o3 o4 o5 hD hi hd;rw [<- hlen] at oN hl;clear hlen;generalize KZ f D d=N at *;go_enter func182,ntmps182;go_upto_block 0 with fail;have uz:=AB (Own.lit w w.heap.size 3 1 DY [d] #[.int .i64 d] 1 w.heap.size rfl rfl (Cj _) (D7 AA) rfl rfl);go_wp2_with fail;go_loopw [7] (fun s wr=>∃ j:Nat,j+1<=N/\(∃ A c,s=.slice A (j+1) c)/\Own wr w.heap.size 3 1 DY s (iter f d (j+1))/\AU w wr) (fun s _=>N-lenV s)
 case atStart => exact ⟨0,AA,⟨_,_,rfl⟩,uz.1,bA (bR w) _⟩
 case round =>
  obtain ⟨j,hj,⟨A,c,rfl⟩,own,hb⟩:=hrel;obtain ⟨wo,rfl⟩:=BR wr;have HO:=AB own;have Hb:=AB hb;clear own hb uz;have hjl:(j:Int)+1<=l.length:=AA
  obtain ⟨y,hy⟩:=BI (pw f d j);have HY:=AB hy;clear hy;go_upto_block 2 with fail;go_wp2_with fail;go_loopw [8,9] (fun t i wr=>∃ (k:Nat) (x:Int),k<=l.length/\i=.int .i64 k/\t=.int .i64 x/\AU wo wr/\(x=f y\/∀ m (hm:m<l.length),m<k->l[m].1≠y)) (fun _ i _=>l.length-(intOf i).toNat)
  case atStart => exact ⟨0,0,BX _,rfl,rfl,bR wo,.inr (fun m _ h=>AA)⟩
  case round =>
   obtain ⟨k,x,hk,rfl,rfl,hb2,hx⟩:=hrel;have Hb2:=AB hb2;have HX:=AB hx;have hz2:=hb2.size;clear hb2 hx;by_cases hlt:k<l.length
   ·obtain ⟨b1,q1,rfl,hl1,e1⟩:=(HR1.1.mono (bT Hb.1 Hb2.1)).int (k:=k) (by rw [CV];exact hlt);obtain ⟨b2,q2,rfl,hl2,e2⟩:=(HR2.1.mono (bT Hb.1 Hb2.1)).int (k:=k) (by rw [CV];exact hlt);obtain ⟨b3,q3,rfl,hl3,e3⟩:=((HO.1.keep Hb2.1).row_in).int (k:=j) (by rw [WL];omega);rw [Iu] at e1 e2;rw [fJ,HY.1] at e3;rw [HPr.1 _ (BO hlt)] at e2;have HS:=AB (show ∀ m (hm:m<l.length),m<k+1->m=k\/m<k from fun m _ h=>AA);have HN:=AB (show (l[k].1 == y)=false->(x=f y\/∀ m (hm:m<l.length),m<k+1->l[m].1≠y) from fun he=>by
     rcases HX.1 with h | h
     · exact .inl h
     ·refine .inr (fun m hm hmk=>?_);by_cases e:m=k
      · subst e;simpa using he
      · exact h m hm AA)
    clear HS;generalize l[k].1=z at *;have k2:IntKind.i64.wrap ((j:Int)+1-1)=j:=by rw [show (j:Int)+1-1=j by omega];exact Jw _ AA
    have k3:IntKind.i64.wrap (j:Int)=j:=Jw _ AA;have k4:(j:Int)<(j:Int)+1:=AA
    have k5:0<=(j:Int):=AA
    have k6:(j:Int)+1-1=j:=AA
    have k7:(k:Int)<l.length:=AA
    go_upto_region 7 with fail;refine D9 (wr) (.run 11 0 0 (.done)) fun CQ QR Ae Aj hS=>?_
    iterate 11 refine Ak ?_
    refine D5 ?_;clear hS Aj Ae;intro hB;obtain ⟨W7,hW⟩:∃ W:World,W=wr.drew:=⟨_,rfl⟩;rw [<- hW] at hB ⊢;have Gx:=AB (bT Hb2.1 hB);replace e2:=KL hB e2;have azq:b2<W7.heap.size:=by have:=hB.size;omega
    clear hW hB k2 k3 k4 k5 k6 e1 e3
    cases hz:(z == y)
    ·have ZN:=AB (HN.1 hz);clear HN;go_wp2;go_roundw
     case rel => exact ⟨k+1,x,AA,BG,rfl,Gx.1,ZN.1⟩
     case measure => exact BH
    ·have hzy:z=y:=by simpa using hz
     rw [hzy] at e2;clear HN hzy;go_wp2;go_roundw
     case rel => exact ⟨k+1,f y,AA,BG,rfl,Gx.1,.inl rfl⟩
     case measure => exact BH
   ·have hxe:x=f y:=by
     rcases HX.1 with h | h
     · exact h
     ·exfalso;obtain ⟨a,ha,e⟩:=Ez.1 (gV.1 j);obtain ⟨m,hm,rfl⟩:=EF.1 ha;rw [HY.1] at e;exact h m hm AA e
    have hyn:f y=pw f d (j+1):=by rw [<- HY.1];rfl
    rw [hyn] at hxe;subst hxe;have Fq:=AB (HO.1.keep Hb2.1);have hsn:iter f d (j+1+1)=iter f d (j+1)++[pw f d (j+1)]:=aem _ _ _;have nC:=AB hsn;clear hyn hsn;have Hb3:=AB (bT Hb.1 Hb2.1);have hjN:pw f d (j+1)=d->j+1=N:=fun e=>by
     rcases Nat.lt_or_ge (j+1) N with h | h
     · exact absurd e (H4.1 _ AA h)
     · omega
    have am6:pw f d (j+1)≠d->j+1<N:=fun e=>by
     rcases Nat.lt_or_ge (j+1) N with h | h
     · exact h
     ·have:j+1=N:=AA
      rw [this,H3.1] at e;exact absurd rfl e
    have HJ:=AB hjN;have HJ2:=AB am6;clear hjN am6;generalize pw f d (j+1)=x at *
    cases hxd:(x == d)
    ·have hlt2:=HJ2.1 (by simpa using hxd);go_wp2_with
      (at_builtin
       refine FK _ rfl (.tmp 42) (.tmp 44) _ rfl (base:=w.heap.size) Jk JV Jl rfl (Own.alloc Fq.1 _) rfl (l2:=[x]) (Sl.lit (n:=1) (AO.made rfl _ _) rfl (D7 AA)) acQ acQ (by have:=Hb3.1.size;simp;omega) ?_;intro v5 w5 Dj hg5 G5;rw [<- nC.1] at Dj;obtain ⟨A5,c5,hv5,-⟩:=Own.GU Dj;rw [WL] at hv5;subst hv5;have Ep:=AB Dj;have Ce:=AB (bG (bA Hb3.1 _) hg5 (fun g hg=>(Fq.1.lt g hg).1));clear Dj hg5 G5)
     go_roundw
     case rel => exact ⟨j+1,AA,⟨A5,c5,rfl⟩,Ep.1,Ce.1⟩
     case measure => simp only [lenV];omega
    ·have hjn:=HJ.1 (by simpa using hxd);have ho:=Fq.1;subst hjn;rw [aah.1] at ho;have abD:=AB ho;clear ho;go_wp2;go_ret;exact ⟨A,c,by rw [aai.1];rfl,Hb3.1,by rw [aai.1];exact abD.1⟩
theorem am7 (v:Value) (p:Pl) (w:World) (h:D6 w v p) (hv:Valid p) :
  Calls prog 70 #[v] w (afl w (Cb p) 0):=by
 have hck:Gn p=0:=(fH p).2 hv;have Fe:=AB (fun W (hW:AU w W)=>adL v p W (h.mono hW));rw [hck] at Fe;have NJ:=AB (fun n W (hW:AU w W)=>atP v p n W (h.mono hW) hv);obtain ⟨_,_,_,al,rfl,hpa,⟨An,cn,rfl,hn1,hn2,hR⟩,⟨⟨Aa,ca,rfl,-⟩,-⟩,⟨Af,cf,rfl,-⟩⟩:=h;unfold maxLen at hn2;have HR:=AB hR;have HV:=AB hv;have hnl:=hv.aat;generalize al.length=na at *;generalize p.faces.length=nf at *;obtain ⟨nn,hnn⟩:=BI p.nodes.length;rw [hnn] at hn1 hnl Fe NJ ⊢;have aav:=AB hnn;obtain ⟨q,hq⟩:=BI (Cb p);rw [hq];have HQ0:=AB hq;clear hpa hR hv hck hnn hq;go_enter func70,ntmps70;go_wp2_with fail;refine (Fe.1 _ (bA (bR w) _)).mono ?_;rintro e w1 ⟨rfl,hb1⟩;have X1:AO w1 w.heap.size 34 #[.slice An nn cn,.slice Aa na ca,.slice Af nf cf]:=(AO.made rfl _ _).keep hb1;have B1:=AB (bT (bA (bR w) _) hb1);clear hb1 Fe;have hmm:=@run_makeMap prog;go_upto_region 6 with fail;obtain ⟨gk,hgk⟩:=BI w1.heap.size;obtain ⟨W5,hW⟩:∃ W:World,W=(w1.alloc (.map #[] 0)).alloc (.cells #[.map (some w1.heap.size)] 109):=⟨_,rfl⟩;have hA:AU w1 W5:=by rw [hW];exact bA (bA (bR w1) _) _
 obtain ⟨DX,Pn,Dt,B5⟩:=DW (show AO W5 (w1.heap.size+1) 109 #[.map (some w1.heap.size)] by rw [hW];exact AO.made Ah _ _) (show Gw W5 w1.heap.size 0 (fun _=>0) by rw [hW];exact (Gw.made w1).keep (bA (bR _) _)) (X1.keep hA) (bT B1.1 hA);have hz1:w.heap.size+1<=w1.heap.size:=X1.lt;rw [<- hW];clear hW hA X1 hmm;rw [hgk] at DX Pn hz1 ⊢;clear hgk;have X1:=Dt.1;obtain ⟨BJ,BK,BL,BQ,-⟩:=X1.Az;have am8:=AB (@asR);have QA:gk+1<W5.heap.size:=DX.1.lt;go_upto_block 0 with fail;go_wp2_with fail;go_loopw [4,24] (fun s i wr=>∃ (k:Nat) (F:Int->Int) (cnt:Nat),k<=nn/\i=.int .i64 k/\(∃ A c,s=.slice A (Ku p k).length c)/\Own wr (w.heap.size+1) 3 1 DY s (Ku p k)/\cnt<=(Ku p k).length/\Gw wr gk cnt F/\nI p F (Ku p k)/\AO wr w.heap.size 34 #[.slice An nn cn,.slice Aa na ca,.slice Af nf cf]/\AO wr (gk+1) 109 #[.map (some gk)]/\AU w wr/\W5.heap.size<=wr.heap.size) (fun _ i _=>nn-(intOf i).toNat)
 case atStart => exact ⟨0,fun _=>0,0,BX _,rfl,⟨none,0,rfl⟩,Own.nil _ _ _ _ _,BX _,Pn.1,(fun e he=>by cases he),X1,DX.1,B5.1,Cj _⟩
 case round =>
  obtain ⟨k,F,cnt,hk,rfl,⟨A,c,rfl⟩,own,hcnt,mp,fol,X1,X5,hb,hsz⟩:=hrel;obtain ⟨wo,rfl⟩:=BR wr;have hlk:=al5 HV.1 k;obtain ⟨HO,HM,abE,Dt,DX,Hb⟩:=Jz own mp fol X1 X5 hb;clear own mp fol hb BJ BK BL BQ;by_cases hlt:k<nn
  ·have hkn:k<p.nodes.length:=by have:=aav.1;omega
   obtain ⟨b,o,rfl,hlb,c0,c1,c2⟩:=(HR.1.mono Hb.1).nd hkn;have hnm:p.nodes[k]∈p.nodes:=BO hkn;have um:=al4 p k hkn;generalize p.nodes[k]=nd at *;have Vt:=AB hnm;have Yn:=AB um;have nK:=HV.1.afj nd.id;have WU:=AB (NJ.1 nd.id);have Ju:=AB (fun d (hd:d∈DT p nd.id)=>HV.1.afm Vt.1 hd);clear hnm um;obtain ⟨L,hL⟩:=BI (Ku p k);obtain ⟨Q,hQ⟩:=BI (DT p nd.id);rw [hL] at hlk hcnt Yn HO abE ⊢;rw [hQ] at Yn nK WU Ju;clear hL hQ
   try clear BJ BK BL BQ
   obtain ⟨BJ,BK,BL,BQ,-⟩:=X1.Az;obtain ⟨DI,DJ,-⟩:=X5.LD;go_wp2_with fail;refine (WU.1 _ (bA Hb.1 _)).mono ?_;rintro e w2 ⟨Aq,cq,rfl,hb2,hoq⟩;have HW2:=AB (show AU wo w2 from bT (bA (bR wo) _) hb2);have abD:=AB (Own.EM hoq (b':=wo.heap.size) Ah);have am9:∀ g,(Value.slice A L.length c).ownBlock=some g->(Value.slice Aq Q.length cq).ownBlock≠some g:=fun g hg e=>by
    have h1:=(HO.1.lt g hg).2;have h2:=(abD.1.lt g e).1;omega
   have aug:=AB am9;have hsz2:=HW2.1.size;clear hb2 hoq am9 c0 c1 c2 hlb X1 X5 BJ BK BL BQ DI DJ WU;go_upto_block 2 with fail;go_wp2_with fail;go_loopw [4,34] (fun s i wr=>∃ (j:Nat) (G:Int->Int) (cnt2:Nat),j<=Q.length/\i=.int .i64 j/\(∃ A c,s=.slice A (L.length+j) c)/\Own wr (w.heap.size+1) 3 1 DY s (L++Q.take j)/\cnt2<=L.length+j/\Gw wr gk cnt2 G/\nI p G (L++Q.take j)/\Own wr wo.heap.size 3 1 DY (.slice Aq Q.length cq) Q/\(∀ g,s.ownBlock=some g->(Value.slice Aq Q.length cq).ownBlock≠some g)/\AO wr w.heap.size 34 #[.slice (some ⟨b,o,none⟩) nn cn,.slice Aa na ca,.slice Af nf cf]/\AO wr (gk+1) 109 #[.map (some gk)]/\AU w wr/\wo.heap.size<=wr.heap.size) (fun _ i _=>Q.length-(intOf i).toNat)
   case atStart => exact ⟨0,F,cnt,BX _,rfl,⟨A,c,rfl⟩,by rw [OD,MC];exact HO.1.keep HW2.1,AA,HM.1.keep HW2.1,by rw [OD,MC];exact abE.1,abD.1,aug.1,Dt.1.keep HW2.1,DX.1.keep HW2.1,bT Hb.1 HW2.1,hsz2⟩
   case round =>
    obtain ⟨j,G,cnt2,hj,rfl,⟨A3,c3,rfl⟩,wG,azr,mp3,alI,oq3,alJ,X1,X5,hb3,hsz3⟩:=hrel;obtain ⟨G7,Nq,HF3,HQ3,vw,QG,YL,HB3⟩:=yU wG mp3 alI oq3 alJ X1 X5 hb3;clear wG mp3 alI oq3 alJ hb3;by_cases hlj:j<Q.length
    ·obtain ⟨bq,iH,rfl,iI,e0⟩:=(HQ3.1.row_in).int hlj;have hnx:=Ju.1 Q[j] (BO hlj);have hbd:=HV.1.QC hnx.2;have htk:Q.take (j+1)=Q.take j++[Q[j]]:=Em hlj;generalize Q[j]=d at *;have k1:=EL (-d);obtain ⟨Ei,MI,abG,HLn⟩:=DW htk hnx.1 (show F6 (-d) from KC AA AA) (show (L++Q.take (j+1)).length=L.length+(j+1) by rw [Es,GH];omega);have n1:=Own.EX G7.1 X1 Aw;have n5:=Own.EX G7.1 X5 Aw;have nm:=vK Nq.1 G7.1;clear htk hnx;go_upto_region 13 with fail;clear e0 iI;go_upto_region 14 with
      (at_builtin
       refine FK _ rfl (.tmp 38) (.tmp 40) _ rfl (base:=w.heap.size+1) Jk JV Jl rfl (Own.alloc G7.1 _) rfl (l2:=[d]) (Sl.lit (n:=1) (AO.made rfl _ _) rfl (D7 AA)) (by simp only [Es,GH,JA,LH];omega) (by simp only [Es,GH,JA,LH];omega) DR ?_;intro v1 w1 ho1 hg1 MH;rw [LJ,<- Ei.1] at ho1;obtain ⟨A1,c1,hv1,-⟩:=Own.GU ho1;rw [HLn.1] at hv1;subst hv1;have Fp:=AB ho1;replace X1:=AO.grown (X1.alloc _) hg1 (fun e=>n1 e.symm);replace X5:=AO.grown (X5.alloc _) hg1 (fun e=>n5 e.symm);have JO:=AB ((Nq.1.keep (bA (bR wr) _)).kept hg1 (fun e=>nm e.symm));have uq:=AB (Own.grown (HQ3.1.alloc _) hg1 (fun g hg e=>vw.1 g e.symm hg));have lq:=AB (show ∀ g,(Value.slice A1 (L.length+(j+1)) c1).ownBlock=some g->(Value.slice (some ⟨bq,iH,none⟩) Q.length cq).ownBlock≠some g from fun g hg e=>by
        rcases MH with h | h
        · exact vw.1 g (h.symm.trans hg) e
        ·have h1:=(HQ3.1.lt g e).2;rw [hg] at h;have:=DV h
         simp at this;omega)
       have HB1:=AB (bG (bA HB3.1 _) hg1 (fun g hg=>by have:=(G7.1.lt g hg).1;omega));have hsz1:wr.heap.size<=w1.heap.size:=by have:=hg1.size;simp at this;omega
       clear ho1 hg1 MH
       )
     have auh:=AB X1;have aui:=AB X5;have m1:=vJ JO.1 X1;have m5:=vJ JO.1 X5
     try clear DI DJ
     obtain ⟨DI,DJ,-⟩:=X5.LD;refine tH (w1) (some gk) (.run 5 0 0 (.call 5 63 (.call 6 127 (.done)))) fun CQ QR Ae Aj hS=>?_
     iterate 5 refine Ak ?_
     refine II (am8.1 _ Q d _ ((uq.1.keep (bD (bR w1))).sl) AA) ?_;clear hS;intro BZ BU hS;refine BN ?_;clear hS;intro K hK AP;obtain ⟨w6,hr6,Rj,FN⟩:=(JO.1.keep (bT (bD (bR w1)) BU)).upd AA (-d) abG.1 (precD Q d);go_simp;have hS:SE w1 (some gk) w6:=gT AP.out FN;have RV:=AB Rj;clear Rj FN hr6;clear AP;refine hK.out _ _ hS (fun _=>?_);clear hK K
     try simp only [pu]
     refine ku ?_;clear hS Aj Ae;intro hB;go_wp2;go_roundw
     case rel => exact ⟨j+1,_,cnt2+1,AA,BG,⟨A1,c1,rfl⟩,Own.grown Fp.1 hB (fun g hg e=>vK JO.1 Fp.1 (by rw [hg];exact e)),AA,RV.1,by rw [Ei.1,<- LJ];exact HF3.1.snoc MI.1,Own.grown uq.1 hB (fun g hg e=>vK JO.1 uq.1 (by rw [hg];exact e)),lq.1,AO.grow auh.1 hB (fun e=>m1 (DV e)),AO.grow aui.1 hB (fun e=>m5 (DV e)),bG HB1.1 hB (fun g hg=>by have:=DV hg;omega),EG AA hB.size⟩
     case measure => exact BH
    ·have hjj:j=Q.length:=AA
     subst hjj;have ho:=G7.1;have hf:=HF3.1;rw [I5] at ho hf;have Vy:=AB (show Ku p (k+1)=L++Q from Yn.1);obtain ⟨HLn,Jc,HF4⟩:=CG (show (Ku p (k+1)).length=L.length+Q.length by rw [Vy.1,Es]) ho hf;clear ho hf;go_wp2;go_roundw
     case rel => exact ⟨k+1,G,cnt2,AA,BG,⟨A3,c3,by rw [HLn.1]⟩,by rw [Vy.1];exact Jc.1,by rw [HLn.1];omega,Nq.1,by rw [Vy.1];exact HF4.1,QG.1,YL.1,HB3.1,AA⟩
     case measure => exact BH
  ·have hkk:k=nn:=AA
   subst hkk;have hNN:=aav.1;subst hNN;have hperm:(Ku p p.nodes.length).Perm (Bj p):=by rw [aas];exact HV.1.zZ
   have hDl:=HV.1.al6;have hLD:=hperm.length_eq;have hasc:=HV.1.asY;obtain ⟨abH,fC,QK,HDw,Fe,HS⟩:=Jz (fun d (hd:d∈Bj p)=>HV.1.asZ abE.1 hd) (fun x (hx:x∈Bj p)=>(HV.1.Q5 hx).1) (fun x (hx:x∈Bj p) y (hy:y∈Bj p)=>HV.1.XJ (d:=x) (e:=y) hx hy) (fun x (hx:x∈Bj p)=>show F6 x from KC (by have:=HV.1.QC hx;omega) (by have:=HV.1.QC hx;omega)) (fun k=>HV.1.al7 k) (asX (w.heap.size+1) _ (Ku p p.nodes.length) _ HO.1 AA);have vC:=Own.EX HO.1 DX.1 Aw;have uw:=vK HM.1 HO.1;have hlo:=HO.1.lt;rw [hasc] at HS;rw [hLD] at HS hcnt uw vC hlo ⊢;obtain ⟨Vt,iw,aQ⟩:=CG uw vC hlo;have hq:=HQ0.1;unfold Cb aaC at hq;have Hq:=AB hq;clear HQ0 hperm hLD hasc hlk hq HO abE NJ am8 HV uw vC hlo X1 X5;generalize Bj p=D at *;generalize FC p=f at *;go_wp2_with fail;refine HS.1.mono ?_;rintro e ws ⟨rfl,hos,hgs⟩;obtain ⟨aaq,auj,HMs,Yh⟩:=DW (bG Hb.1 hgs (fun g hg=>by have:=(aQ.1 g hg).1;omega)) (AO.grown DX.1 hgs (fun e=>iw.1 e.symm)) (HM.1.kept hgs (fun e=>Vt.1 e.symm)) hos;clear hos hgs HS;have hmm:=@run_makeMap prog;go_upto_region 19 with fail;obtain ⟨gm,hgm⟩:=BI ws.heap.size;obtain ⟨W6,hW⟩:∃ W:World,W=(ws.alloc (.map #[] 0)).alloc (.cells #[.map (some ws.heap.size)] 158):=⟨_,rfl⟩;have hA:AU ws W6:=by rw [hW];exact bA (bA (bR ws) _) _
   obtain ⟨HXs,HI6,afW,RV,JQ,Ew⟩:=Jz (show AO W6 (ws.heap.size+1) 158 #[.map (some ws.heap.size)] by rw [hW];exact AO.made Ah _ _) (show Lr W6 ws.heap.size 0 (fun _=>false) by rw [hW];exact (Lr.made ws).keep (bA (bR _) _)) (auj.1.keep hA) (HMs.1.keep hA) (Yh.1.keep hA) (bT aaq.1 hA);have hgl:=HMs.1.lt;rw [<- hW];clear hW hA hmm;rw [hgm] at HXs HI6 hgl ⊢;have hws:w.heap.size<=gm:=by rw [<- hgm];exact aaq.1.size
   clear hgm;have auk:=AB (@atE f D fC.1 QK.1 F abH.1 HDw.1 AA);have UW:gm+1<W6.heap.size:=HXs.1.lt;go_upto_block 4 with fail;go_wp2_with fail;go_loopw [2,56] (fun s i wr=>∃ (k:Nat) (acc:List (List Int×SV)) (S:Int->Bool),k<=D.length/\i=.int .i64 k/\acc.length<=k/\(∃ A c,s=.slice A acc.length c)/\Sj wr w.heap.size s acc/\acc.map (·.1)=(D.take k).foldl (Ou f D) []/\Lr wr gm (acc.map (·.1)).flatten.length S/\(∀ x,S x=decide (x∈(acc.map (·.1)).flatten))/\Own wr (w.heap.size+1) 3 1 DY (.slice A D.length c) D/\AO wr (gm+1) 158 #[.map (some gm)]/\AO wr (gk+1) 109 #[.map (some gk)]/\Gw wr gk cnt F/\AU w wr/\gm+1<wr.heap.size) (fun _ i _=>D.length-(intOf i).toNat)
   case atStart => exact ⟨0,[],fun _=>false,BX _,rfl,BX _,⟨none,0,rfl⟩,⟨Own.nil _ _ _ _ _,fun x hx=>by cases hx⟩,rfl,HI6.1,fun x=>by simp,JQ.1,HXs.1,afW.1,RV.1,Ew.1,UW⟩
   case round =>
    obtain ⟨k,acc,S,hk,rfl,hak,⟨A2,c2,rfl⟩,wF,hacc,mi,hS,od,xs,x5,mk,hb,hsz⟩:=hrel;obtain ⟨QH,jc,aS,abI,jd,HX,DX,VX,HB⟩:=yV wF hacc mi hS od xs x5 mk hb;have ZQ:=xs;clear wF hacc mi hS od xs x5 mk hb;by_cases hlt:k<D.length
    ·obtain ⟨bq,iH,hA,iI,e0⟩:=(jd.1.row_in).int hlt;subst hA;have hx:D[k]∈D:=BO hlt;have hsucc:=akK f D k hlt;rw [<- jc.1] at hsucc;have UF:=Fe.1 k;rw [<- jc.1] at UF;generalize D[k]=x at *;have hlk:=aS.1.look x (HDw.1 x hx);rw [abI.1 x] at hlk;obtain ⟨U9,qA,qB⟩:=CG hsucc UF hx;clear hsucc UF hx;obtain ⟨uP,uQ,-⟩:=ZQ.LD;by_cases hm:x∈(acc.map (·.1)).flatten
     ·rw [JB hm] at hlk;have hst:=AB (show Ou f D (acc.map (·.1)) x=acc.map (·.1) by unfold Ou;rw [AZ hm]);clear hm;go_wp2;go_roundw
      case rel => exact ⟨k+1,acc,S,AA,BG,AA,⟨A2,c2,rfl⟩,QH.1,by rw [U9.1,hst.1],aS.1,abI.1,jd.1,HX.1,DX.1,VX.1,HB.1,hsz⟩
      case measure => exact BH
     ·rw [Fg hm] at hlk;have hst:=AB (show Ou f D (acc.map (·.1)) x=acc.map (·.1)++[JZ f D x] by unfold Ou;rw [AX hm]);have hfn:(acc.map (·.1)).flatten.length<=D.length:=Vk qA.1.nodup (fun y hy=>by
       obtain ⟨l,hl,hy⟩:=kF.1 hy;obtain ⟨d,h1,h2,-⟩:=qA.1.ng l hl;subst h2;exact uV fC.1 (kW h1) hy)
      have HF2:=AB (auk.1 S x qB.1 (fun y hy=>by rw [abI.1 y];exact Fg (qA.1.apart fC.1 qB.1 hm hy)) (gm+1) (gk+1) gm gk (acc.map (·.1)).flatten.length cnt wr AA HX.1 DX.1 aS.1 VX.1 AA);have hol:(JZ f D x).length<=D.length+1:=by
       have h:=Vl fC.1 QK.1 qB.1;rw [h.2.2.2.2.2];exact h.2.1
      clear hm;generalize JZ f D x=o at *;go_wp2_with fail;refine HF2.1.mono ?_;rintro e w4 ⟨A4,c4,rfl,Nc,hm4,hg4⟩;have hrs:=hg4.size;have ncy:=mZ aS.1 QH.1.1;obtain ⟨Oa,HCe,Jc,fF,HD4,DL,VY,HK4,HB4⟩:=yV (Own.grown QH.1.1 hg4 (fun g hg e=>ncy (hg.trans e))) (show ∀ y∈acc,Own w4 w.heap.size 3 1 DY (.slice y.2.a y.2.n y.2.c) y.1 from fun y hy=>Own.grown (QH.1.2 y hy) hg4 (fun g hg e=>mZ aS.1 (QH.1.2 y hy) (hg.trans e))) (Own.EM Nc (b':=w.heap.size) (HB.1.size)) hm4 (Own.grown jd.1 hg4 (fun g hg e=>mZ aS.1 jd.1 (hg.trans e))) (AO.grow HX.1 hg4 (fun e=>vX aS.1 HX.1 (DV e))) (AO.grow DX.1 hg4 (fun e=>vX aS.1 DX.1 (DV e))) (VX.1.kept hg4 (fun e=>by have:=DV e;omega)) (bG HB.1 hg4 (fun g hg=>by have:=DV hg;omega));clear Nc hm4 hg4 ncy HF2 ZQ uP uQ e0 iI;go_upto_region 25 with
       (at_builtin
        refine FK _ rfl (.tmp 64) (.tmp 68) _ rfl (base:=w.heap.size) Yk WS Yj rfl (Own.alloc Oa.1 _) rfl (l2:=[((o,⟨A4,o.length,c4⟩):List Int×SV)]) (Sl.lit (n:=1) (AO.made rfl _ _) rfl (D7 AA)) Dl Dl (by have:=HB4.1.size;simp;omega) ?_;intro v5 w5 Dj hg5 G5;obtain ⟨A5,c5,hv5,-⟩:=Own.GU Dj;rw [show (acc++[((o,⟨A4,o.length,c4⟩):List Int×SV)]).length=acc.length+1 by simp] at hv5;subst hv5;have abJ:∀ {l:List Int} {A':Option Addr} {n' c':Nat} {b':Nat},Own w4 b' 3 1 DY (.slice A' n' c') l->∀ g,(Value.slice A' n' c').ownBlock=some g->some g≠(Value.slice A2 acc.length c2).ownBlock:=fun h g hg=>Own.apart h Oa.1 Aw g hg;have oQ:=AB (show Sj w5 w.heap.size (.slice A5 (acc.length+1) c5) (acc++[((o,⟨A4,o.length,c4⟩):List Int×SV)]) from ⟨Dj,fun y hy=>by
         rcases GI.1 hy with hy | hy
         · exact Own.grown (Own.alloc (HCe.1 y hy) _) hg5 (abJ (HCe.1 y hy))
         ·rw [Eb] at hy;subst hy;exact Own.grown (Own.alloc Jc.1 _) hg5 (abJ Jc.1)⟩)
        obtain ⟨HD5,abK,aul,HK5,aum,Ce⟩:=Jz (Own.grown (Own.alloc HD4.1 _) hg5 (abJ HD4.1)) (AO.grown (DL.1.alloc _) hg5 (fun e=>Own.EX Oa.1 DL.1 Aw e.symm)) (AO.grown (VY.1.alloc _) hg5 (fun e=>Own.EX Oa.1 VY.1 Aw e.symm)) ((HK4.1.keep (bA (bR w4) _)).kept hg5 (fun e=>vK HK4.1 Oa.1 e.symm)) ((fF.1.keep (bA (bR w4) _)).kept hg5 (fun e=>mZ fF.1 Oa.1 e.symm)) (bG (bA HB4.1 _) hg5 (fun g hg=>(Oa.1.lt g hg).1));have hs5:=hg5.size;simp only [World.size_alloc] at hs5;clear Dj hg5 G5 abJ
        )
      go_wp2;go_roundw
      case rel => exact ⟨k+1,acc++[((o,⟨A4,o.length,c4⟩):List Int×SV)],Si S o,AA,BG,by rw [Es,yu];omega,⟨A5,c5,by rw [Es,yu]⟩,oQ.1,by rw [U9.1,hst.1,FH];rfl,by rw [FH,yY,Es];have h:=aum.1;simpa using h,(fun y=>by unfold Si;rw [abI.1 y,FH,yY,Jh];simp),HD5.1,abK.1,aul.1,HK5.1,Ce.1,AA⟩
      case measure => exact BH
    ·have hkk:k=D.length:=AA
     subst hkk;have hfin:=jc.1;rw [I5,Hq.1] at hfin;have hfl:acc.length=q.length:=by rw [<- hfin,CV]
     have afX:=AB hfin;have hc:=QH.1;rw [hfl] at hc ⊢;have HC:=AB hc;clear hfin hc hfl;go_wp2_with fail;go_ret2;exact ⟨A2,c2,acc,rfl,HB.1,afX.1,HC.1⟩
theorem Ints.slice {w:World} {a:Option Addr} {n c:Nat} {l:List Int} (h:Ints w (.slice a n c) l):n=l.length/\l.length<=c/\c<=maxLen/\Row w a (l.flatMap DY):=by
 obtain ⟨A,c',he,h1,h2,h3⟩:=h;injection he with e1 e2 e3;subst e1 e2 e3;exact ⟨rfl,h1,h2,h3⟩
