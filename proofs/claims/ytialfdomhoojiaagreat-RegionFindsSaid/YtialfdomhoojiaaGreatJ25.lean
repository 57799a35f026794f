import Derived.Test.YtialfdomhoojiaaGreatJ24
set_option linter.unusedSimpArgs false
set_option linter.unusedVariables false
set_option maxRecDepth 100000
set_option maxHeartbeats 8000000
namespace Go.Proofs.YtialfdomhoojiaaGreat
open Go.RowKit
theorem alJ (v:Value) (p:Pl) (w:World) (h:Cb w v p) (hv:Valid p) :
  Calls Tryz.prog 57 #[v] w (ae1 w (CX p) 0):=by
 have hck:Ig p=0:=(dP p).2 hv;have Gm:=AA (fun W (hW:AP w W)=>agc v p W (h.mono hW));rw [hck] at Gm;have Il:=AA (fun n W (hW:AP w W)=>as9 v p n W (h.mono hW) hv);obtain ⟨_,_,_,al,rfl,hpa,⟨An,cn,rfl,hn1,hn2,hR⟩,⟨⟨Aa,ca,rfl,-⟩,-⟩,⟨Af,cf,rfl,-⟩⟩:=h;unfold maxLen at hn2;have HR:=AA hR;have HV:=AA hv;have hnl:=hv.bW;generalize al.length=na at *;generalize p.faces.length=nf at *;obtain ⟨nn,hnn⟩:=BL p.nodes.length;rw [hnn] at hn1 hnl Gm Il ⊢;have aCr:=AA hnn;obtain ⟨q,hq⟩:=BL (CX p);rw [hq];have HQ0:=AA hq;clear hpa hR hv hck hnn hq;go_enter Tryz.func57,Tryz.ntmps57;go_wp2_with fail;refine (Gm.out _ (bA (bR w) _)).mono ?_;rintro e w1 ⟨rfl,hb1⟩;have X1:AO w1 w.heap.size 26 #[.slice An nn cn,.slice Aa na ca,.slice Af nf cf]:=(AO.made rfl _ _).keep hb1;have B1:=AA (bT (bA (bR w) _) hb1);clear hb1 Gm;have hmm:=@run_makeMap Tryz.prog;go_upto_region 6 with fail;obtain ⟨gk,hgk⟩:=BL w1.heap.size;obtain ⟨W5,hW⟩:∃ W:World,W=(w1.alloc (.map #[] 0)).alloc (.cells #[.map (some w1.heap.size)] 96):=⟨_,rfl⟩;have hA:AP w1 W5:=by rw [hW];exact bA (bA (bR w1) _) _
 have D8:=AA (show AO W5 (w1.heap.size+1) 96 #[.map (some w1.heap.size)] by rw [hW];exact AO.made Aw _ _);have TV:=AA (show Gg W5 w1.heap.size 0 (fun _=>0) by rw [hW];exact (Gg.made w1).keep (bA (bR _) _));have D9:=AA (X1.keep hA);have B5:=AA (bT B1.out hA);have hz1:w.heap.size+1<=w1.heap.size:=X1.lt;rw [<- hW];clear hW hA X1 hmm;rw [hgk] at D8 TV hz1 ⊢;clear hgk;have X1:=D9.out;obtain ⟨Ak,Au,Az,BA,-,-,-⟩:=X1.BF;have alK:=AA (@asF);have RG:gk+1<W5.heap.size:=D8.out.lt;go_upto_block 0 with fail;go_wp2_with fail;go_loopw [4,24] (fun s i wr=>∃ (k:Nat) (F:Int->Int) (cnt:Nat),k<=nn/\i=.int .i64 k/\(∃ A c,s=.slice A (LJ p k).length c)/\Own wr (w.heap.size+1) 3 1 D5 s (LJ p k)/\cnt<=(LJ p k).length/\Gg wr gk cnt F/\oL p F (LJ p k)/\AO wr w.heap.size 26 #[.slice An nn cn,.slice Aa na ca,.slice Af nf cf]/\AO wr (gk+1) 96 #[.map (some gk)]/\AP w wr/\W5.heap.size<=wr.heap.size) (fun _ i _=>nn-(intOf i).toNat)
 case atStart => exact ⟨0,fun _=>0,0,BZ _,rfl,⟨none,0,rfl⟩,Own.nil _ _ _ _ _,BZ _,TV.out,(fun e he=>by cases he),X1,D8.out,B5.out,DT _⟩
 case round =>
  obtain ⟨k,F,cnt,hk,rfl,⟨A,c,rfl⟩,own,hcnt,mp,fol,X1,X5,hb,hsz⟩:=hrel;obtain ⟨wo,rfl⟩:=BO wr;have hlk:=akG HV.out k;have HO:=AA own;have HM:=AA mp;have aaZ:=AA fol;have D9:=AA X1;have D8:=AA X5;have Hb:=AA hb;clear own mp fol hb Ak Au Az BA;by_cases hlt:k<nn
  ·have hkn:k<p.nodes.length:=by have:=aCr.out;omega
   obtain ⟨b,o,rfl,hlb,c0,c1,c2⟩:=(HR.out.mono Hb.out).nd hkn;have hnm:p.nodes[k]∈p.nodes:=BH hkn;have xZ:=akF p k hkn;generalize p.nodes[k]=nd at *;have NK:=AA hnm;have ZF:=AA xZ;have TQ:=HV.out.ady nd.id;have LM:=AA (Il.out nd.id);have KD:=AA (fun d (hd:d∈DF p nd.id)=>HV.out.ae2 NK.out hd);clear hnm xZ;obtain ⟨L,hL⟩:=BL (LJ p k);obtain ⟨Q,hQ⟩:=BL (DF p nd.id);rw [hL] at hlk hcnt ZF HO aaZ ⊢;rw [hQ] at ZF TQ LM KD;clear hL hQ
   try clear Ak Au Az BA
   obtain ⟨Ak,Au,Az,BA,-,-,-⟩:=X1.BF;obtain ⟨CJ,CO,-⟩:=X5.Fa;go_wp2_with fail;refine (LM.out _ (bA Hb.out _)).mono ?_;rintro e w2 ⟨Aq,cq,rfl,hb2,hoq⟩;have HW2:=AA (show AP wo w2 from bT (bA (bR wo) _) hb2);have aaY:=AA (Own.Du hoq (b':=wo.heap.size) Aw);have alL:∀ g,(Value.slice A L.length c).ownBlock=some g->(Value.slice Aq Q.length cq).ownBlock≠some g:=fun g hg e=>by
    have h1:=(HO.out.lt g hg).2;have h2:=(aaY.out.lt g e).1;omega
   have avJ:=AA alL;have hsz2:=HW2.out.size;clear hb2 hoq alL c0 c1 c2 hlb X1 X5 Ak Au Az BA CJ CO LM;go_upto_block 2 with fail;go_wp2_with fail;go_loopw [4,34] (fun s i wr=>∃ (j:Nat) (G:Int->Int) (cnt2:Nat),j<=Q.length/\i=.int .i64 j/\(∃ A c,s=.slice A (L.length+j) c)/\Own wr (w.heap.size+1) 3 1 D5 s (L++Q.take j)/\cnt2<=L.length+j/\Gg wr gk cnt2 G/\oL p G (L++Q.take j)/\Own wr wo.heap.size 3 1 D5 (.slice Aq Q.length cq) Q/\(∀ g,s.ownBlock=some g->(Value.slice Aq Q.length cq).ownBlock≠some g)/\AO wr w.heap.size 26 #[.slice (some ⟨b,o,none⟩) nn cn,.slice Aa na ca,.slice Af nf cf]/\AO wr (gk+1) 96 #[.map (some gk)]/\AP w wr/\wo.heap.size<=wr.heap.size) (fun _ i _=>Q.length-(intOf i).toNat)
   case atStart => exact ⟨0,F,cnt,BZ _,rfl,⟨A,c,rfl⟩,by rw [OB,IQ];exact HO.out.keep HW2.out,AB,HM.out.keep HW2.out,by rw [OB,IQ];exact aaZ.out,aaY.out,avJ.out,D9.out.keep HW2.out,D8.out.keep HW2.out,bT Hb.out HW2.out,hsz2⟩
   case round =>
    obtain ⟨j,G,cnt2,hj,rfl,⟨A3,c3,rfl⟩,xg,ayz,mp3,alM,oq3,alN,X1,X5,hb3,hsz3⟩:=hrel;have EI:=AA xg;have Px:=AA mp3;have HF3:=AA alM;have oH:=AA oq3;have zk:=AA alN;have SQ:=AA X1;have ZN:=AA X5;have HB3:=AA hb3;clear xg mp3 alM oq3 alN hb3;by_cases hlj:j<Q.length
    ·obtain ⟨bq,kJ,rfl,kK,e0⟩:=(oH.out.row_in).int hlj;have hnx:=KD.out Q[j] (BH hlj);have hbd:=HV.out.Qo hnx.2;have htk:Q.take (j+1)=Q.take j++[Q[j]]:=En hlj;generalize Q[j]=d at *;have k1:IntKind.i64.wrap (-d)=-d:=Ci _ AB;have Et:=AA htk;have bV:=AA hnx.1;have aac:=AA (show ES (-d) from KU AB AB);have HLn:=AA (show (L++Q.take (j+1)).length=L.length+(j+1) by rw [EC,Ie];omega);have n1:=Own.Dz EI.out X1 BG;have n5:=Own.Dz EI.out X5 BG;have nm:=xQ Px.out EI.out;clear htk hnx;go_upto_region 13 with fail;clear e0 kK;go_upto_region 14 with
      (at_builtin
       refine Ew _ rfl (.tmp 38) (.tmp 40) _ rfl (base:=w.heap.size+1) IB Gt IK rfl (Own.alloc EI.out _) rfl (l2:=[d]) (Sl.lit (n:=1) (AO.made rfl _ _) rfl (D6 AB)) (by simp only [EC,Ie,I9,Md];omega) (by simp only [EC,Ie,I9,Md];omega) DC ?_;intro v1 w1 ho1 hg1 SI;rw [JR,<- Et.out] at ho1;obtain ⟨A1,c1,hv1,-⟩:=Own.IE ho1;rw [HLn.out] at hv1;subst hv1;have JZ:=AA ho1;replace X1:=AO.grown (X1.alloc _) hg1 (fun e=>n1 e.symm);replace X5:=AO.grown (X5.alloc _) hg1 (fun e=>n5 e.symm);have OM:=AA ((Px.out.keep (bA (bR wr) _)).kept hg1 (fun e=>nm e.symm));have bU:=AA (Own.grown (oH.out.alloc _) hg1 (fun g hg e=>zk.out g e.symm hg));have RI:=AA (show ∀ g,(Value.slice A1 (L.length+(j+1)) c1).ownBlock=some g->(Value.slice (some ⟨bq,kJ,none⟩) Q.length cq).ownBlock≠some g from fun g hg e=>by
        rcases SI with h | h
        · exact zk.out g (h.symm.trans hg) e
        ·have h1:=(oH.out.lt g e).2;rw [hg] at h;have:=Dc h
         simp at this;omega)
       have HB1:=AA (bG (bA HB3.out _) hg1 (fun g hg=>by have:=(EI.out.lt g hg).1;omega));have hsz1:wr.heap.size<=w1.heap.size:=by have:=hg1.size;simp at this;omega
       clear ho1 hg1 SI
       )
     have avK:=AA X1;have avL:=AA X5;have m1:=xP OM.out X1;have m5:=xP OM.out X5
     try clear CJ CO
     obtain ⟨CJ,CO,-⟩:=X5.Fa;refine Vp (w1) (some gk) (.run 5 0 0 (.call 5 63 (.call 6 127 (.done)))) fun Bv QR Ae Ah hS=>?_
     iterate 5 refine Aj ?_
     refine FD (alK.out _ Q d _ ((bU.out.keep (bD (bR w1))).sl) AB) ?_;clear hS;intro Bq Bf hS;refine BP ?_;clear hS;intro K hK AQ;obtain ⟨w6,hr6,Xa,JB⟩:=(OM.out.keep (bT (bD (bR w1)) Bf)).upd AB (-d) aac.out (precD Q d);go_simp;have hS:JI w1 (some gk) w6:=gT AQ.out JB;have Ul:=AA Xa;clear Xa JB hr6;clear AQ;refine hK.out _ _ hS (fun _=>?_);clear hK K
     try simp only [pu]
     refine Ry ?_;clear hS Ah Ae;intro hB;go_wp2;go_roundw
     case rel => exact ⟨j+1,_,cnt2+1,AB,BI,⟨A1,c1,rfl⟩,Own.grown JZ.out hB (fun g hg e=>xQ OM.out JZ.out (by rw [hg];exact e)),AB,Ul.out,by rw [Et.out,<- JR];exact HF3.out.snoc bV.out,Own.grown bU.out hB (fun g hg e=>xQ OM.out bU.out (by rw [hg];exact e)),RI.out,AO.grow avK.out hB (fun e=>m1 (Dc e)),AO.grow avL.out hB (fun e=>m5 (Dc e)),bG HB1.out hB (fun g hg=>by have:=Dc hg;omega),Dn AB hB.size⟩
     case measure => exact BK
    ·have hjj:j=Q.length:=by omega
     subst hjj;have ho:=EI.out;have hf:=HF3.out;rw [H8] at ho hf;have YN:=AA (show LJ p (k+1)=L++Q from ZF.out);have HLn:=AA (show (LJ p (k+1)).length=L.length+Q.length by rw [YN.out,EC]);have JA:=AA ho;have HF4:=AA hf;clear ho hf;go_wp2;go_roundw
     case rel => exact ⟨k+1,G,cnt2,AB,BI,⟨A3,c3,by rw [HLn.out]⟩,by rw [YN.out];exact JA.out,by rw [HLn.out];omega,Px.out,by rw [YN.out];exact HF4.out,SQ.out,ZN.out,HB3.out,AB⟩
     case measure => exact BK
  ·have hkk:k=nn:=by omega
   subst hkk;have hNN:=aCr.out;subst hNN;have hperm:(LJ p p.nodes.length).Perm (BU p):=by rw [aCo];exact HV.out.aBW
   have hDl:=HV.out.akH;have hLD:=hperm.length_eq;have hasc:=HV.out.ara;have U0:=AA (fun d (hd:d∈BU p)=>HV.out.arb aaZ.out hd);have aK:=AA (fun x (hx:x∈BU p)=>(HV.out.Qe hx).1);have QX:=AA (fun x (hx:x∈BU p) y (hy:y∈BU p)=>HV.out.Xg (d:=x) (e:=y) hx hy);have HDw:=AA (fun x (hx:x∈BU p)=>show ES x from KU (by have:=HV.out.Qo hx;omega) (by have:=HV.out.Qo hx;omega));have Gm:=AA (fun k=>HV.out.akI k);have HS:=AA (akE (w.heap.size+1) _ (LJ p p.nodes.length) _ HO.out AB);have xJ:=Own.Dz HO.out D8.out BG;have yT:=xQ HM.out HO.out;have hlo:=HO.out.lt;rw [hasc] at HS;rw [hLD] at HS hcnt yT xJ hlo ⊢;have NK:=AA yT;have jR:=AA xJ;have Vw:=AA hlo;have hq:=HQ0.out;unfold CX aBS at hq;have Hq:=AA hq;clear HQ0 hperm hLD hasc hlk hq HO aaZ Il alK HV yT xJ hlo X1 X5;generalize BU p=D at *;generalize FP p=f at *;go_wp2_with fail;refine HS.out.mono ?_;rintro e ws ⟨rfl,hos,hgs⟩;have oG:=AA (bG Hb.out hgs (fun g hg=>by have:=(Vw.out g hg).1;omega));have avM:=AA (AO.grown D8.out hgs (fun e=>jR.out e.symm));have HMs:=AA (HM.out.kept hgs (fun e=>NK.out e.symm));have YZ:=AA hos;clear hos hgs HS;have hmm:=@run_makeMap Tryz.prog;go_upto_region 19 with fail;obtain ⟨gm,hgm⟩:=BL ws.heap.size;obtain ⟨W6,hW⟩:∃ W:World,W=(ws.alloc (.map #[] 0)).alloc (.cells #[.map (some ws.heap.size)] 139):=⟨_,rfl⟩;have hA:AP ws W6:=by rw [hW];exact bA (bA (bR ws) _) _
   have HXs:=AA (show AO W6 (ws.heap.size+1) 139 #[.map (some ws.heap.size)] by rw [hW];exact AO.made Aw _ _);have HI6:=AA (show La W6 ws.heap.size 0 (fun _=>false) by rw [hW];exact (La.made ws).keep (bA (bR _) _));have afR:=AA (avM.out.keep hA);have Ul:=AA (HMs.out.keep hA);have ML:=AA (YZ.out.keep hA);have Eb:=AA (bT oG.out hA);have hgl:=HMs.out.lt;rw [<- hW];clear hW hA hmm;rw [hgm] at HXs HI6 hgl ⊢;have hws:w.heap.size<=gm:=by rw [<- hgm];exact oG.out.size
   clear hgm;have avN:=AA (@arv f D aK.out QX.out F U0.out HDw.out AB);have jZ:gm+1<W6.heap.size:=HXs.out.lt;go_upto_block 4 with fail;go_wp2_with fail;go_loopw [2,56] (fun s i wr=>∃ (k:Nat) (acc:List (List Int×SV)) (S:Int->Bool),k<=D.length/\i=.int .i64 k/\acc.length<=k/\(∃ A c,s=.slice A acc.length c)/\TY wr w.heap.size s acc/\acc.map (·.1)=(D.take k).foldl (Ol f D) []/\La wr gm (acc.map (·.1)).flatten.length S/\(∀ x,S x=decide (x∈(acc.map (·.1)).flatten))/\Own wr (w.heap.size+1) 3 1 D5 (.slice A D.length c) D/\AO wr (gm+1) 139 #[.map (some gm)]/\AO wr (gk+1) 96 #[.map (some gk)]/\Gg wr gk cnt F/\AP w wr/\gm+1<wr.heap.size) (fun _ i _=>D.length-(intOf i).toNat)
   case atStart => exact ⟨0,[],fun _=>false,BZ _,rfl,BZ _,⟨none,0,rfl⟩,⟨Own.nil _ _ _ _ _,fun x hx=>by cases hx⟩,rfl,HI6.out,fun x=>by simp,ML.out,HXs.out,afR.out,Ul.out,Eb.out,jZ⟩
   case round =>
    obtain ⟨k,acc,S,hk,rfl,hak,⟨A2,c2,rfl⟩,zo,hacc,mi,hS,od,xs,x5,mk,hb,hsz⟩:=hrel;have Lr:=AA zo;have jq:=AA hacc;have NT:=AA mi;have aad:=AA hS;have V7:=AA od;have HX:=AA xs;have D8:=AA x5;have Vs:=AA mk;have HB:=AA hb;have LD:=xs;clear zo hacc mi hS od xs x5 mk hb;by_cases hlt:k<D.length
    ·obtain ⟨bq,kJ,hA,kK,e0⟩:=(V7.out.row_in).int hlt;subst hA;have hx:D[k]∈D:=BH hlt;have hsucc:=akJ f D k hlt;rw [<- jq.out] at hsucc;have P5:=Gm.out k;rw [<- jq.out] at P5;generalize D[k]=x at *;have hlk:=NT.out.look x (HDw.out x hx);rw [aad.out x] at hlk;have Ov:=AA hsucc;have dY:=AA P5;have qh:=AA hx;clear hsucc P5 hx;obtain ⟨VP,VQ,-⟩:=LD.Fa;by_cases hm:x∈(acc.map (·.1)).flatten
     ·rw [JE hm] at hlk;have hst:=AA (show Ol f D (acc.map (·.1)) x=acc.map (·.1) by unfold Ol;rw [AZ hm]);clear hm;go_wp2;go_roundw
      case rel => exact ⟨k+1,acc,S,AB,BI,AB,⟨A2,c2,rfl⟩,Lr.out,by rw [Ov.out,hst.out],NT.out,aad.out,V7.out,HX.out,D8.out,Vs.out,HB.out,hsz⟩
      case measure => exact BK
     ·rw [G8 hm] at hlk;have hst:=AA (show Ol f D (acc.map (·.1)) x=acc.map (·.1)++[JM f D x] by unfold Ol;rw [AX hm]);have hfn:(acc.map (·.1)).flatten.length<=D.length:=Uy dY.out.nodup (fun y hy=>by
       obtain ⟨l,hl,hy⟩:=aAI.1 hy;obtain ⟨d,h1,h2,-⟩:=dY.out.lV l hl;subst h2;exact wG aK.out (aAE h1) hy)
      have HF2:=AA (avN.out S x qh.out (fun y hy=>by rw [aad.out y];exact G8 (dY.out.apart aK.out qh.out hm hy)) (gm+1) (gk+1) gm gk (acc.map (·.1)).flatten.length cnt wr AB HX.out D8.out NT.out Vs.out AB);have hol:(JM f D x).length<=D.length+1:=by
       have h:=WL aK.out QX.out qh.out;rw [h.2.2.2.2.2];exact h.2.1
      clear hm;generalize JM f D x=o at *;go_wp2_with fail;refine HF2.out.mono ?_;rintro e w4 ⟨A4,c4,rfl,JY,hm4,hg4⟩;have hrs:=hg4.size;have ncy:=oI NT.out Lr.out.1;have Qc:=AA (Own.grown Lr.out.1 hg4 (fun g hg e=>ncy (hg.trans e)));have xu:=AA (show ∀ y∈acc,Own w4 w.heap.size 3 1 D5 (.slice y.2.a y.2.n y.2.c) y.1 from fun y hy=>Own.grown (Lr.out.2 y hy) hg4 (fun g hg e=>oI NT.out (Lr.out.2 y hy) (hg.trans e)));have JA:=AA (Own.Du JY (b':=w.heap.size) (HB.out.size));have jC:=AA hm4;have HD4:=AA (Own.grown V7.out hg4 (fun g hg e=>oI NT.out V7.out (hg.trans e)));have DJ:=AA (AO.grow HX.out hg4 (fun e=>yR NT.out HX.out (Dc e)));have Vu:=AA (AO.grow D8.out hg4 (fun e=>yR NT.out D8.out (Dc e)));have HK4:=AA (Vs.out.kept hg4 (fun e=>by have:=Dc e;omega));have HB4:=AA (bG HB.out hg4 (fun g hg=>by have:=Dc hg;omega));clear JY hm4 hg4 ncy HF2 LD VP VQ e0 kK;go_upto_region 25 with
       (at_builtin
        refine Ew _ rfl (.tmp 64) (.tmp 68) _ rfl (base:=w.heap.size) YK XO YJ rfl (Own.alloc Qc.out _) rfl (l2:=[((o,⟨A4,o.length,c4⟩):List Int×SV)]) (Sl.lit (n:=1) (AO.made rfl _ _) rfl (D6 AB)) DR DR (by have:=HB4.out.size;simp;omega) ?_;intro v5 w5 DY hg5 Gf;obtain ⟨A5,c5,hv5,-⟩:=Own.IE DY;rw [show (acc++[((o,⟨A4,o.length,c4⟩):List Int×SV)]).length=acc.length+1 by simp] at hv5;subst hv5;have aae:∀ {l:List Int} {A':Option Addr} {n' c':Nat} {b':Nat},Own w4 b' 3 1 D5 (.slice A' n' c') l->∀ g,(Value.slice A' n' c').ownBlock=some g->some g≠(Value.slice A2 acc.length c2).ownBlock:=fun h g hg=>Own.apart h Qc.out BG g hg;have qj:=AA (show TY w5 w.heap.size (.slice A5 (acc.length+1) c5) (acc++[((o,⟨A4,o.length,c4⟩):List Int×SV)]) from ⟨DY,fun y hy=>by
         rcases FZ.1 hy with hy | hy
         · exact Own.grown (Own.alloc (xu.out y hy) _) hg5 (aae (xu.out y hy))
         ·rw [ED] at hy;subst hy;exact Own.grown (Own.alloc JA.out _) hg5 (aae JA.out)⟩)
        have HD5:=AA (Own.grown (Own.alloc HD4.out _) hg5 (aae HD4.out));have jr:=AA (AO.grown (DJ.out.alloc _) hg5 (fun e=>Own.Dz Qc.out DJ.out BG e.symm));have afS:=AA (AO.grown (Vu.out.alloc _) hg5 (fun e=>Own.Dz Qc.out Vu.out BG e.symm));have HK5:=AA ((HK4.out.keep (bA (bR w4) _)).kept hg5 (fun e=>xQ HK4.out Qc.out e.symm));have avO:=AA ((jC.out.keep (bA (bR w4) _)).kept hg5 (fun e=>oI jC.out Qc.out e.symm));have CW:=AA (bG (bA HB4.out _) hg5 (fun g hg=>(Qc.out.lt g hg).1));have hs5:=hg5.size;simp only [World.size_alloc] at hs5;clear DY hg5 Gf aae
        )
      go_wp2;go_roundw
      case rel => exact ⟨k+1,acc++[((o,⟨A4,o.length,c4⟩):List Int×SV)],TR S o,AB,BI,by rw [EC,lJ];omega,⟨A5,c5,by rw [EC,lJ]⟩,qj.out,by rw [Ov.out,hst.out,GL];rfl,by rw [GL,abB,EC];have h:=avO.out;simpa using h,(fun y=>by unfold TR;rw [aad.out y,GL,abB,LX];simp),HD5.out,jr.out,afS.out,HK5.out,CW.out,AB⟩
      case measure => exact BK
    ·have hkk:k=D.length:=by omega
     subst hkk;have hfin:=jq.out;rw [H8,Hq.out] at hfin;have hfl:acc.length=q.length:=by rw [<- hfin,Cm]
     have Vx:=AA hfin;have hc:=Lr.out;rw [hfl] at hc ⊢;have HC:=AA hc;clear hfin hc hfl;go_wp2_with fail;go_ret2;exact ⟨A2,c2,acc,rfl,HB.out,Vx.out,HC.out⟩
theorem Ints.slice {w:World} {a:Option Addr} {n c:Nat} {l:List Int} (h:Ints w (.slice a n c) l):n=l.length/\l.length<=c/\c<=maxLen/\Row w a (l.flatMap D5):=by
 obtain ⟨A,c',he,h1,h2,h3⟩:=h;injection he with e1 e2 e3;subst e1 e2 e3;exact ⟨rfl,h1,h2,h3⟩
theorem avP (l:List Int) (x:Int):(l.any fun y=>y == x)=decide (x∈l):=by
 rw [LX,PE,decide_eq_true_iff];constructor
 ·rintro ⟨y,hy,e⟩;rw [beq_iff_eq] at e;exact e ▸ hy
 ·intro h;exact ⟨x,h,Aw⟩
theorem alO (v:Value) (p:Pl) (w:World) (h:Cb w v p) (hv:Valid p) :
  Calls Tryz.prog 131 #[v] w (ae1 w (CX p) 0):=by
 have hck:Ig p=0:=(dP p).2 hv;have Gm:=AA (fun W (hW:AP w W)=>ahK v p W (h.mono hW));rw [hck] at Gm;have dZ:=AA (fun W (hW:AP w W)=>asv v p W (h.mono hW) hv);have HDt:=AA (fun W (hW:AP w W)=>atS v p W (h.mono hW) hv);have zu:=AA (@atQ);obtain ⟨vn,va,vf,al,rfl,-⟩:=h;have hD:∀ x∈BU p,FP p x∈BU p:=fun x hx=>(hv.Qe hx).1;have hi:∀ x∈BU p,∀ y∈BU p,FP p x=FP p y->x=y:=fun x hx y hy=>hv.Xg hx hy;have hdl:=hv.akH;have hpl:=hv.atP;have Lr:=AA (@avI (FP p) (BU p) hD hi (Ns p p.nodes.length) (fun x hx=>(hv.ark hx).2) (fun d hd=>hv.atO hd) hpl AB);have aK:=AA hD;have QX:=AA hi;have avQ:=AA (fun k=>hv.akI k);obtain ⟨q,hq⟩:=BL (CX p);rw [hq];unfold CX aBS at hq;have Hq:=AA hq;have jP:=AA hpl;clear hv hck hD hi hq hpl;generalize BU p=D at *;generalize FP p=f at *;generalize Ns p p.nodes.length=P at *;go_enter Tryz.func131,Tryz.ntmps131;go_wp2_with fail;refine (Gm.out _ (bA (bR w) _)).mono ?_;rintro e w1 ⟨rfl,hb1⟩;have X1:AO w1 w.heap.size 26 #[vn,va,vf]:=(AO.made rfl _ _).keep hb1;have D9:=AA X1;have B1:=AA (bT (bA (bR w) _) hb1);clear hb1 Gm;obtain ⟨Ak,Au,Az,BA,-,-,-⟩:=X1.BF;go_wp2_with fail;refine (dZ.out _ B1.out).mono ?_;rintro e w2 ⟨Af,cf,Ag,cg,rfl,hb2,hof,hog⟩;have B2:=AA (bT B1.out hb2);have RJ:=AA (Own.sl hof);have HOg:=AA (Own.sl hog);have CG:=AA (D9.out.keep hb2);clear hb2 hof hog X1 Ak Au Az BA dZ D9;have X1:=CG.out
 try clear Ak Au Az BA
 obtain ⟨Ak,Au,Az,BA,-,-,-⟩:=X1.BF;go_wp2_with fail;refine (HDt.out _ B2.out).mono ?_;rintro e w3 ⟨Ad,cd,rfl,hb3,hod⟩;have B3:=AA (bT B2.out hb3);have V7:=AA (Own.sl hod);have ql:=AA (show Ints w3 (.slice Af P.length cf) (P.map (·.1)) from (RJ.out).mono hb3);have aaR:=AA (show Ints w3 (.slice Ag P.length cg) (P.map (·.2)) from (HOg.out).mono hb3);have o7:=AA (show Ints w3 (.slice Ad D.length cd) D from V7.out);clear hb3 hod X1 Ak Au Az BA HDt RJ HOg V7 CG;have hrd:=(o7.out.slice).2.2.2;have hrm:=(o7.out.slice).2.2.1;unfold maxLen at hrm;have HRd:=AA hrd;clear hrd;go_upto_block 0 with fail;go_wp2_with fail;go_loopw [5,6,10] (fun s t i wr=>∃ (k:Nat) (acc:List (List Int×SV)),k<=D.length/\i=.int .i64 k/\acc.length<=k/\(∃ A c,s=.slice A acc.length c)/\(∃ A c,t=.slice A (acc.map (·.1)).flatten.length c)/\TY wr w3.heap.size s acc/\Own wr w3.heap.size 3 1 D5 t (acc.map (·.1)).flatten/\acc.map (·.1)=(D.take k).foldl (Ol f D) []/\(∀ x∈acc,IG (.slice x.2.a x.2.n x.2.c) t)/\AP w3 wr) (fun _ _ i _=>D.length-(intOf i).toNat)
 case atStart => exact ⟨0,[],BZ _,rfl,BZ _,⟨none,0,rfl⟩,⟨none,0,rfl⟩,⟨Own.nil _ _ _ _ _,fun x hx=>by cases hx⟩,Own.nil _ _ _ _ _,rfl,(fun x hx=>by cases hx),bR w3⟩
 case round =>
  obtain ⟨k,acc,hk,rfl,hak,⟨A2,c2,rfl⟩,⟨A3,c3,rfl⟩,zo,own,hacc,sep,hb⟩:=hrel;have afT:=AA zo;have HO:=AA own;have jq:=AA hacc;have LK:=AA sep;have HB:=AA hb;have hzr:=hb.size;clear zo own hacc sep hb;by_cases hlt:k<D.length
  ·obtain ⟨bq,kJ,rfl,kK,e0⟩:=(HRd.out.mono HB.out).int hlt;have hx:D[k]∈D:=BH hlt;have hsucc:=akJ f D k hlt;rw [<- jq.out] at hsucc;have P5:=avQ.out k;rw [<- jq.out] at P5;generalize D[k]=x at *;have hfn:(acc.map (·.1)).flatten.length<=D.length:=Uy P5.nodup (fun y hy=>by
    obtain ⟨l,hl,hy⟩:=aAI.1 hy;obtain ⟨d,h1,h2,-⟩:=P5.lV l hl;subst h2;exact wG aK.out (aAE h1) hy)
   have Ov:=AA hsucc;have qh:=AA hx;clear hsucc P5 hx;obtain ⟨T,hT0⟩:=BL ((acc.map (·.1)).flatten);have HTT:=AA hT0;rw [hT0] at HO hfn LK ⊢;have hT:=zu.out (.slice A3 T.length c3) T x wr (Own.sl HO.out);rw [avP] at hT;by_cases hm:x∈T
   ·rw [JE hm] at hT;have hst:=AA (show Ol f D (acc.map (·.1)) x=acc.map (·.1) by unfold Ol;rw [hT0,AZ hm]);have HT:=AA hT;clear hm hT hT0;go_wp2_with fail;refine HT.out.mono ?_;rintro e w4 ⟨rfl,hb4⟩;have HB4:=AA hb4;clear hb4 e0 kK;go_wp2;go_roundw
    case rel => exact ⟨k+1,acc,AB,BI,AB,⟨A2,c2,rfl⟩,⟨A3,c3,by rw [HTT.out]⟩,afT.out.keep HB4.out,by rw [HTT.out];exact HO.out.keep HB4.out,by rw [Ov.out,hst.out],LK.out,bT HB.out HB4.out⟩
    case measure => exact BK
   ·rw [G8 hm] at hT;have hst:=AA (show Ol f D (acc.map (·.1)) x=acc.map (·.1)++[JM f D x] by unfold Ol;rw [hT0,AX hm]);have HT:=AA hT;have hol:(JM f D x).length<=D.length+1:=by
     have h:=WL aK.out QX.out qh.out;rw [h.2.2.2.2.2];exact h.2.1
    have HC:=AA (fun W (hW:AP w3 W)=>Lr.out (.slice Af P.length cf) (.slice Ag P.length cg) x qh.out W (ql.out.mono hW) (aaR.out.mono hW));clear hm hT hT0;generalize JM f D x=o at *;go_wp2_with fail;refine HT.out.mono ?_;rintro e w4 ⟨rfl,hb4⟩;have HB4:=AA (bT HB.out hb4);have auc:=AA (afT.out.keep hb4);have JA:=AA (HO.out.keep hb4);replace e0:=Dv hb4 e0;have aud:bq<w4.heap.size:=by have:=hb4.size;omega
    have ji:=hb4.size;clear hb4 kK HT;go_wp2_with fail;refine (HC.out _ HB4.out).mono ?_;rintro e w5 ⟨A5,c5,rfl,hb5,DY⟩;have CW:=AA (bT HB4.out hb5);have qj:=AA (auc.out.keep hb5);have Fh:=AA (JA.out.keep hb5);have qm:=AA (Own.Du DY (b':=w3.heap.size) AB);have oP:=AA (show IG (.slice A5 o.length c5) (.slice A3 T.length c3) from fun g hg e=>by
     have h1:=(DY.lt g hg).1;have h2:=(JA.out.lt g e).2;omega)
    have RG:=hb5.size;clear hb5 DY HC e0 aud;have HFt:=AA (show ((acc++[((o,⟨A5,o.length,c5⟩):List Int×SV)]).map (·.1)).flatten=T++o by rw [GL,abB,HTT.out];simp);clear JA;go_upto_region 14 with
     (at_builtin
      refine Ew _ rfl (.tmp 43) (.tmp 44) _ rfl (base:=w3.heap.size) IB Gt IK rfl Fh.out rfl (l2:=o) (Own.sl qm.out) AB AB AB ?_;intro v6 w6 QU JB kL;obtain ⟨A6,c6,hv6,-⟩:=Own.IE QU;rw [EC] at hv6;subst hv6;have ML:=AA QU;have kM:∀ g,(Value.slice A6 (T.length+o.length) c6).ownBlock=some g->(Value.slice A3 T.length c3).ownBlock=some g\/g=w5.heap.size:=fun g hg=>by
       rcases kL with h | h
       · exact .inl (h.symm.trans hg)
       · rw [hg] at h;exact .inr (Dc h)
      have afU:=AA (Own.grown qj.out.1 JB (fun g hg e=>Own.apart qj.out.1 Fh.out BG g hg e));have alP:=AA (show ∀ y∈acc,Own w6 w3.heap.size 3 1 D5 (.slice y.2.a y.2.n y.2.c) y.1 from fun y hy=>Own.grown (qj.out.2 y hy) JB (fun g hg e=>LK.out y hy g hg e.symm));have HL6:=AA (Own.grown qm.out JB (fun g hg e=>oP.out g hg e.symm));have HS6:=AA (show ∀ y∈acc,IG (.slice y.2.a y.2.n y.2.c) (.slice A6 (T.length+o.length) c6) from fun y hy g hg e=>by
       rcases kM g e with h | h
       · exact LK.out y hy g hg h
       · have:=((qj.out.2 y hy).lt g hg).2;omega)
      have aue:=AA (show IG (.slice A5 o.length c5) (.slice A6 (T.length+o.length) c6) from fun g hg e=>by
       rcases kM g e with h | h
       · exact oP.out g hg h
       · have:=(qm.out.lt g hg).2;omega)
      have Eb:=AA (bG CW.out JB (fun g hg=>(Fh.out.lt g hg).1));have jZ:=JB.size;clear QU JB kL kM
      )
    go_upto_region 10 with
     (at_builtin
      refine Ew _ rfl (.tmp 46) (.tmp 48) _ rfl (base:=w3.heap.size) YK XO YJ rfl (Own.alloc afU.out _) rfl (l2:=[((o,⟨A5,o.length,c5⟩):List Int×SV)]) (Sl.lit (n:=1) (AO.made rfl _ _) rfl (D6 AB)) DR DR (by have:=Eb.out.size;simp;omega) ?_;intro v7 w7 MS Fg RZ;obtain ⟨A7,c7,hv7,-⟩:=Own.IE MS;rw [show (acc++[((o,⟨A5,o.length,c5⟩):List Int×SV)]).length=acc.length+1 by simp] at hv7;subst hv7;have UU:∀ {l:List Int} {A':Option Addr} {n' c':Nat} {b':Nat},Own w6 b' 3 1 D5 (.slice A' n' c') l->∀ g,(Value.slice A' n' c').ownBlock=some g->some g≠(Value.slice A2 acc.length c2).ownBlock:=fun h g hg=>Own.apart h afU.out BG g hg;have auf:=AA (show TY w7 w3.heap.size (.slice A7 (acc.length+1) c7) (acc++[((o,⟨A5,o.length,c5⟩):List Int×SV)]) from ⟨MS,fun y hy=>by
       rcases FZ.1 hy with hy | hy
       · exact Own.grown (Own.alloc (alP.out y hy) _) Fg (UU (alP.out y hy))
       ·rw [ED] at hy;subst hy;exact Own.grown (Own.alloc HL6.out _) Fg (UU HL6.out)⟩)
      have au:=AA (Own.grown (Own.alloc ML.out _) Fg (UU ML.out));have Jf:=AA (bG (bA Eb.out _) Fg (fun g hg=>(afU.out.lt g hg).1));clear MS Fg RZ UU
      )
    go_wp2;go_roundw
    case rel => exact ⟨k+1,acc++[((o,⟨A5,o.length,c5⟩):List Int×SV)],AB,BI,by rw [EC,lJ];omega,⟨A7,c7,by rw [EC,lJ]⟩,⟨A6,c6,by rw [HFt.out,EC]⟩,auf.out,by rw [HFt.out];exact au.out,by rw [Ov.out,hst.out,GL];rfl,(fun y hy=>by
     rcases FZ.1 hy with hy | hy
     · exact HS6.out y hy
     · rw [ED] at hy;subst hy;exact aue.out),Jf.out⟩
    case measure => exact BK
  ·obtain rfl:k=D.length:=by omega
   have hfin:=jq.out;rw [H8,Hq.out] at hfin;have hfl:acc.length=q.length:=by rw [<- hfin,Cm]
   have Vx:=AA hfin;have hc:=afT.out;rw [hfl] at hc ⊢;generalize (acc.map (·.1)).flatten=T at *;have HC:=AA hc;have hz3:=B3.out.size;clear hfin hc hfl;go_wp2_with fail;go_ret2;exact ⟨A2,c2,acc,rfl,bT B3.out HB.out,Vx.out,⟨HC.out.1.Du hz3,fun y hy=>(HC.out.2 y hy).Du hz3⟩⟩
theorem Own.zy {e:TypeId} {w:World} {B:Nat} {A:Option Addr} {n c:Nat} {L:List (List Int×SV)} (h:Own w B e 1 Ib (.slice A n c) L) (hl:0<L.length):∃ g,A=some ⟨g,0,none⟩/\B<=g/\g<w.heap.size/\(∀ j,w.frozen? ⟨g,j,none⟩=false) /\
  ∀ k (hk:k<L.length),w.cell? ⟨g,k,none⟩=some (.slice L[k].2.a L[k].2.n L[k].2.c):=by
 have hr:=h.row_of;rcases h.2 with ⟨_,h0⟩ | ⟨g,cap,cur,hv,hg,hh,-⟩
 · omega
 ·injection hv with e1 e2 e3;subst e1;refine ⟨g,rfl,hg,AO.lt hh,fun j=>AO.frozen hh j,fun k hk=>?_⟩;obtain ⟨b,o,Ec,-,c0⟩:=hr.cy hk;injection Ec with Ec;injection Ec with y1 y2 _;subst y1 y2;simpa only [QC] using c0
theorem Own.afV {w:World} {base g n c i:Nat} {e:TypeId} {l:List (List Int×SV)} (h:Own w base e 1 Ib (.slice (some ⟨g,0,none⟩) n c) l) (hi:i<l.length) (y:List Int×SV):Own (w.setCell ⟨g,i,none⟩ (.slice y.2.a y.2.n y.2.c)) base e 1 Ib (.slice (some ⟨g,0,none⟩) n c) (l.set i y):=by
 have:=Own.jH XO h hi (j:=0) AB y (.slice y.2.a y.2.n y.2.c) rfl
 simpa using this
def MW (Q:List (List Int×SV)) (k:Nat) (z:List Int×SV):List (List Int×SV):=Q.take k++z::Q.drop k
theorem gV {Q:List (List Int×SV)} {k:Nat} (hk:k<=Q.length) (z:List Int×SV):(MW Q k z).length=Q.length+1:=by
 unfold MW;simp only [EC,I9,Ie,gI];omega
theorem aug (Q:List (List Int×SV)) (z:List Int×SV):Q++[z]=MW Q Q.length z:=by unfold MW;rw [H8,aax]
theorem auh {Q:List (List Int×SV)} {k j:Nat} (hj:j<k) (hk:k<=Q.length) (z:List Int×SV):(MW Q k z)[j]'(by rw [gV hk];omega)=Q[j]:=by
 unfold MW;rw [List.getElem_append_left fZ,List.getElem_take]
theorem aui {Q:List (List Int×SV)} {k:Nat} (hk:k<Q.length) (z:List Int×SV):(MW Q (k+1) z).set (k+1) Q[k]=MW Q k Q[k]:=by
 unfold MW;have hl:(Q.take (k+1)).length=k+1:=by rw [Ie];omega
 rw [aat (k+1) _ AB,hl,aau,abh,En hk,JR];congr 1;rw [Qk hk];rfl
theorem alQ {Q:List (List Int×SV)} {k:Nat} (hk:k<=Q.length) (z y:List Int×SV):(MW Q k z).set k y=MW Q k y:=by
 unfold MW;have hl:(Q.take k).length=k:=by rw [Ie];omega
 rw [aat k _ AB,hl,aau,abh]
theorem aaf (Q:List (List Int×SV)) (k:Nat) (z:List Int×SV):(MW Q k z).Perm (z::Q):=by
 unfold MW;refine List.perm_middle.trans ?_;rw [Zd]
theorem alR {Q:List (List Int×SV)} {k:Nat} (hk:k<=Q.length) {x:List Int×SV} (hs:(Q.map (·.1)).Pairwise (fun a b=>RP b a=false))
  (h1:∀ j (hj:j<Q.length),k<=j->GX (DZ x.1) (DZ Q[j].1)=true) (h2:k=0\/∃ hj:k-1<Q.length,GX (DZ x.1) (DZ Q[k-1].1)=false) :
  ((MW Q k x).map (·.1)).Pairwise (fun a b=>RP b a=false):=by
 have hs':=IL.1 hs;rw [Fe] at hs';refine IL.2 ?_;unfold MW;rw [Ql,JC];have hsl:Q.Pairwise (fun a b=>RP b.1 a.1=false):=IL.1 hs;refine ⟨hsl.sublist (List.take_sublist _ _),⟨fun y hy=>?_,hsl.sublist (List.drop_sublist _ _)⟩,fun a ha b hb=>?_⟩
 ·obtain ⟨j,hj,rfl⟩:=Dp.1 hy;rw [gI] at hj;rw [List.getElem_drop];exact aiw (h1 (k+j) AB AB)
 ·obtain ⟨i,hi,rfl⟩:=Dp.1 ha;rw [Ie] at hi;rw [List.getElem_take];rcases EJ.1 hb with rfl | hb
  ·rcases h2 with h2 | ⟨hj,h2⟩
   · omega
   ·show GX (DZ b.1) (DZ Q[i].1)=false
    by_cases e:i=k-1
    · subst e;exact h2
    ·have h3:GX (DZ Q[k-1].1) (DZ Q[i].1)=false:=hs' i (k-1) AB hj AB;rw [<- Iz];intro hc;by_cases h4:GX (DZ Q[i].1) (DZ Q[k-1].1)=true
     · rw [aeW hc h4] at h2;cases h2
     ·have:=aiv (by simpa using h4) h3
      rw [this,h2] at hc
      cases hc
  ·obtain ⟨j,hj,rfl⟩:=Dp.1 hb;rw [gI] at hj;rw [List.getElem_drop];exact hs' i (k+j) AB AB AB
def auj (w:World) (p:Pl) (e:Ending) (w':World):Prop :=
 ∃ A c L,e=.returned (.slice A L.length c)/\AP w w'/\TY w' w.heap.size (.slice A L.length c) L/\L.map (·.1)=sortK (Bj p)
theorem alS (v:Value) (p:Pl) (w:World) (h:Cb w v p) (hv:Valid p):Calls Tryz.prog 72 #[v] w (auj w p):=by
 have Gm:=AA (fun W (hW:AP w W)=>alO v p W (h.mono hW) hv);have Tc:=AA (fun u l (hl:l∈CX p) W (hu:Ints W u l) (hW:AP w W)=>show Calls Tryz.prog 132 #[v,u] W fun e w'=>e=.returned (.int .i64 (F8 p l))/\AP W w' from by
  have t:=adi v u p l W (h.mono hW) hu hv (fun d hd=>by have:=hv.Qo ((hv.Gy hl).2 d hd);exact KU AB AB);rw [hv.aCt hl] at t;exact t)
 have HKy:=AA (fun u l (hl:l∈CX p) W (hu:Ints W u l)=>auG u l W hu (fV.2 (hv.Wh hl)) (fun d hd=>hv.Qo ((hv.Gy hl).2 d hd)));have qX:=AA (fun l (hl:l∈CX p)=>hv.Qo ((hv.Gy hl).2 _ (yQ (hv.Wh hl))));have PZ:=AA (fun l hl hs=>hv.aiz (l:=l) hl hs);have hcn:=hv.QY;obtain ⟨_,_,_,al,rfl,hpa,⟨An,cn,rfl,-⟩,⟨⟨Aa,ca,rfl,-⟩,-⟩,⟨Af,cf,rfl,-⟩⟩:=h;clear hpa hv;generalize p.nodes.length=nn at *;generalize al.length=na at *;generalize p.faces.length=nf at *;go_enter Tryz.func72,Tryz.ntmps72;go_wp2_with fail;refine (Gm.out _ (bA (bR w) _)).mono ?_;rintro e w1 ⟨Ac,cc,CL,rfl,hb1,hcl,hco⟩;have hcr:=hco.read;have hle:(CX p).length=CL.length:=by rw [<- hcl,Cm]
 have aA0:=AA (show ∀ x∈CL,Own w1 w.heap.size 3 1 D5 (.slice x.2.a x.2.n x.2.c) x.1 from fun x hx=>(hco.2 x hx).Du Aw);rw [hle] at hcr hcn ⊢;obtain ⟨⟨Ac',cc',he',hc1,hc2,IC⟩,hI⟩:=hcr;injection he' with y1 y2 y3;subst y1 y3;clear y2;unfold maxLen at hc2;have X1:AO w1 w.heap.size 26 #[.slice An nn cn,.slice Aa na ca,.slice Af nf cf]:=(AO.made rfl _ _).keep hb1;have HB1:=AA (bT (bA (bR w) _) hb1);have D9:=AA X1;have NH:=AA IC;have HI:=AA hI;have Ny:=AA hcl;have JG:=AA hle;clear hb1 Gm hcl hco hle X1 IC hI;go_upto_block 0 with fail;go_wp2_with fail;go_loopw [5,6] (fun s i wr=>∃ (k:Nat) (Q:List (List Int×SV)),k<=CL.length/\i=.int .i64 k/\(∃ A c,s=.slice A Q.length c)/\Own wr w1.heap.size 24 1 Ib s Q/\Q.length<=k/\(Q.map (·.1)).Perm (jk p k)/\(Q.map (·.1)).Pairwise (fun a b=>RP b a=false)/\(∀ x∈Q,Own w1 w.heap.size 3 1 D5 (.slice x.2.a x.2.n x.2.c) x.1/\x.1∈CX p)/\AP w1 wr) (fun _ i _=>CL.length-(intOf i).toNat)
 case atStart => exact ⟨0,[],BZ _,rfl,⟨none,0,rfl⟩,Own.nil _ _ _ _ _,DT _,List.Perm.refl _,List.Pairwise.nil,(fun x hx=>by cases hx),bR w1⟩
 case round =>
  obtain ⟨k,Q,hk,rfl,⟨A,c,rfl⟩,ho,TQ,hpe,hso,fH,hb⟩:=hrel;obtain ⟨wo,rfl⟩:=BO wr;have HO:=AA ho;have jv:=AA hpe;have jw:=AA hso;have RV:=AA fH;have HB:=AA hb;clear ho hpe hso fH hb;by_cases hlt:k<CL.length
  ·have hlc:k<(CX p).length:=by have:=JG.out;omega
   obtain ⟨b,o,rfl,hlb0,c00⟩:=(NH.out).cy hlt;have hlb:b<wo.heap.size:=by have:=HB.out.size;omega
   have c0:=Dv HB.out c00;have hin:=HI.out CL[k] (BH hlt);have Vy:=aA0.out CL[k] (BH hlt);have hmem:(CX p)[k]∈CX p:=BH hlc;have hos:=alB hlc;rw [fG Ny.out hlt hlc] at hmem hos;generalize CL[k]=x at *;obtain ⟨X,xa,xn,xc⟩:=x;simp only at hin Vy c0 c00 hmem hos;have aA1:=AA Vy;clear Vy;have aag:=AA c00;clear c00;have Jg:=AA hin;have V8:=AA c0;have QV:=AA hmem;have Et:=AA (fun W (hW:AP w1 W)=>Tc.out _ X hmem W (hin.mono hW) (bT HB1.out hW));have HKx:=AA (fun W (hW:AP w1 W)=>HKy.out _ X hmem W (hin.mono hW));have hkb:=qX.out X hmem;obtain ⟨t,ht⟩:=BL (F8 p X);rw [ht] at Et hos;have YZ:=AA hos;have k1:(k:Int)<CL.length:=by omega
   have k2:0<=(k:Int):=by omega
   have X1:=D9.out.keep HB.out;clear hin hmem hos ht hlc;obtain ⟨Ak,Au,Az,BA,-,-,-⟩:=X1.BF;go_upto_region 6 with fail;refine Cj (wo) (.run 5 0 0 (.call 5 63 (.take 6 127 (.done)))) fun Bv QR Ae Ah hS=>?_
   iterate 5 refine Aj ?_
   refine FD (Et.out _ (bT HB.out hS)) ?_;clear hS;intro Bq Bf hS;refine Aj ?_;refine Ce ?_;clear hS Ah Ae;intro hB;obtain ⟨W3,hW3⟩:∃ W:World,W=Bq:=⟨_,rfl⟩;rw [<- hW3] at hB Bf ⊢;have HB3:=AA (bT HB.out hB);have EI:=AA (HO.out.keep hB);replace c0:=Dv hB V8.out;have qo:b<W3.heap.size:=by have:=hB.size;omega
   have hz3:=HB3.out.size;clear hB Bf hW3 X1 Ak Au Az BA V8 hlb Et HB HO;by_cases h0:t<=0
   ·have hos:=YZ.out;rw [AX AB,IQ] at hos;have fJ:=AA hos;clear hos;go_wp2;go_roundw
    case rel => exact ⟨k+1,Q,AB,BI,⟨_,_,rfl⟩,EI.out,AB,by rw [fJ.out];exact jv.out,jw.out,RV.out,HB3.out⟩
    case measure => exact BK
   ·have hos:=YZ.out;rw [AZ AB] at hos;have fJ:=AA hos;clear hos;have hsh:(Q++[((X,⟨xa,xn,xc⟩):List Int×SV)]).length=Q.length+1:=by simp
    have DL:=AA hsh;clear hsh;go_upto_region 8 with fail;go_upto_block 2 with
     (at_builtin
      refine Ew _ rfl (.tmp 28) (.tmp 33) _ rfl (base:=w1.heap.size) YK XO YJ rfl (Own.alloc EI.out _) rfl (l2:=[((X,⟨xa,xn,xc⟩):List Int×SV)]) (Sl.lit (n:=1) (AO.made rfl _ _) rfl (D6 AB)) DR DR DC ?_;intro v4 w4 JY hg4 Zw;obtain ⟨A4,c4,hv4,-⟩:=Own.IE JY;rw [DL.out] at hv4;subst hv4;have JA:=AA JY;have HB4:=AA (bG (bA HB3.out _) hg4 (fun g hg=>(EI.out.lt g hg).1));have ji:=hg4.size;simp only [World.size_alloc] at ji;clear JY hg4 Zw
      )
    obtain ⟨g,hgA,hg0,-,-,-⟩:=Own.zy JA.out (by rw [DL.out];omega);subst hgA;have HC4:=AA (Dv HB4.out aag.out);clear c0 qo EI HB3;go_wp2_with fail;go_loopw [7] (fun i wr=>∃ (m:Nat) (z:List Int×SV),m<=Q.length/\i=.int .i64 m/\Own wr w1.heap.size 24 1 Ib (.slice (some ⟨g,0,none⟩) (Q.length+1) c4) (MW Q m z)/\(∀ j (hj:j<Q.length),m<=j->GX (DZ X) (DZ Q[j].1)=true)/\AP w1 wr) (fun i _=>(intOf i).toNat)
    case atStart => exact ⟨Q.length,(X,⟨xa,xn,xc⟩),DT _,rfl,by rw [<- aug];exact JA.out,(fun j hj h=>by omega),HB4.out⟩
    case round =>
     clear JA HB4 ji;obtain ⟨m,z,hm,rfl,DY,hge,hb5⟩:=hrel;obtain ⟨wq,rfl⟩:=BO wr;have aA2:=AA DY;have aA3:=AA hge;have dh:=AA hb5;clear DY hge hb5;rcases VF m with h9 | h9
     ·subst h9;go_upto_region 9 with fail;refine Cj (wq) (.run 16 0 0 (.done)) fun Bv QR Ae Ah hS=>?_
      iterate 3 refine Aj ?_
      iterate 12 refine JU ?_
      refine Aj ?_;refine Ce ?_;clear hS Ah Ae;intro hB;obtain ⟨W5,GU⟩:∃ W:World,W=wq.drew:=⟨_,rfl⟩;rw [<- GU] at hB ⊢;have CW:=AA (bT dh.out hB);have Fh:=AA (aA2.out.keep hB);clear hB GU dh aA2;have hst:=show (0:Nat)=0\/∃ hj:0-1<Q.length,GX (DZ X) (DZ Q[0-1].1)=false from .inl rfl
      have afW:=AA hst;obtain ⟨g',GN,-,Q8,GZ,H6⟩:=Own.zy Fh.out (by rw [gV (BZ _)];omega);injection GN with GN;injection GN with GN _ _;subst GN;have f0:=H6 0 (by rw [gV (BZ _)];omega);have hf0:=GZ 0;have c0:=Dv CW.out aag.out;have jV:b<W5.heap.size:=by have:=CW.out.size;omega
      have hm1:(0:Int)<(Q.length:Int)+1:=by omega
      have RJ:=AA (show Own (W5.setCell ⟨g,0,none⟩ (.slice xa xn xc)) w1.heap.size 24 1 Ib (.slice (some ⟨g,0,none⟩) (Q.length+1) c4) (MW Q (0) (X,⟨xa,xn,xc⟩)) from by
       have:=Own.afV Fh.out (i:=0) (by rw [gV (BZ _)];omega) (X,⟨xa,xn,xc⟩)
       rwa [alQ (BZ _)] at this)
      have MV:=AA (bS (p:=⟨g,0,none⟩) CW.out hg0 (.slice xa xn xc));clear H6 GZ hst Fh;go_wp2;go_roundw
      case rel => exact ⟨k+1,MW Q (0) (X,⟨xa,xn,xc⟩),AB,BI,⟨_,_,by rw [gV (BZ _)]⟩,RJ.out,by rw [gV (BZ _)];omega,by
        rw [fJ.out];refine ((aaf Q (0) (X,⟨xa,xn,xc⟩)).map (·.1)).trans ?_;rw [Ez];exact ((jv.out).cons X).trans (abj (l₁:=[X])),alR (BZ _) jw.out aA3.out afW.out,(fun y hy=>by
         rcases EJ.1 ((aaf Q (0) _).subset hy) with rfl | hy
         · exact ⟨aA1.out,QV.out⟩
         · exact RV.out y hy),MV.out⟩
      case measure => exact BK
     ·obtain ⟨m,rfl⟩:∃ m',m=m'+1:=⟨m-1,AB⟩;have hmq:m<Q.length:=by omega
      obtain ⟨g',GN,-,Q8,-,H6⟩:=Own.zy aA2.out Zk;injection GN with GN;injection GN with GN _ _;subst GN;have e0:=H6 m Zk;rw [auh (abk m) hm] at e0;obtain ⟨alT,afX⟩:=RV.out Q[m] (BH hmq);have afY:Ints w1 (.slice Q[m].2.a Q[m].2.n Q[m].2.c) Q[m].1:=alT.sl;clear alT;have aah:=AA (fun (h:GX (DZ X) (DZ Q[m].1)=true)=>show ∀ j (hj:j<Q.length),m<=j->GX (DZ X) (DZ Q[j].1)=true from fun j hj hmj=>by
       by_cases e:j=m
       · subst e;exact h
       · exact aA3.out j hj AB)
      have LK:=AA (fun (h:GX (DZ X) (DZ Q[m].1)=false)=>show m+1=0\/∃ hj:m+1-1<Q.length,GX (DZ X) (DZ Q[m+1-1].1)=false from .inr ⟨hmq,h⟩);have HDn:=AA (aui hmq z);have hkb2:=qX.out Q[m].1 afX;have HKq:=AA (fun W (hW:AP w1 W)=>HKy.out _ Q[m].1 afX W (afY.mono hW));have jf:=AA (fun (W:World) (h:Own W w1.heap.size 24 1 Ib (.slice (some ⟨g,0,none⟩) (Q.length+1) c4) (MW Q (m+1) z))=>Own.afV h (i:=m+1) Zk Q[m]);generalize Q[m]=y at *;obtain ⟨Y,ya,yn,yc⟩:=y;simp only at e0 HKq hkb2 aah LK HDn afY jf;generalize DZ Y=ky at *;obtain ⟨kx,hkx⟩:=BL (DZ X);rw [hkx] at HKx hkb aah LK aA3;have HKe:=AA hkx;have qY:=AA (fun W=>alA kx ky W AB AB);obtain ⟨E,hE⟩:=BL (GX kx ky);rw [hE] at qY aah LK;clear hE hkx afX afY H6;have c0:=Dv dh.out aag.out;have auk:b<wq.heap.size:=by have:=dh.out.size;omega
      have m1:(0:Int)<(m:Int)+1:=by omega
      have m2:IntKind.i64.wrap ((m:Int)+1)=(m:Int)+1:=Ci _ AB;have m3:IntKind.i64.wrap (m:Int)=(m:Int):=Ci _ AB;have m4:(m:Int)<(Q.length:Int)+1:=by omega
      have m5:0<=(m:Int):=by omega
      have m6:IntKind.i64.wrap ((m:Int)+1-1)=(m:Int):=by rw [Ci _ AB];omega
      go_upto_region 9 with fail;refine Cj (wq) (.run 7 0 0 (.run 5 8 127 (.call 7 8191 (.call 13 16383 (.call 14 32767 (.take 15 65535 (.done))))))) fun Bv QR Ae Ah hS=>?_
      iterate 3 refine Aj ?_
      iterate 9 refine Dh ?_
      refine FD (HKx.out _ (bT dh.out hS)) ?_;clear hS;intro Bq Bf hS;refine FD (HKq.out _ (bT dh.out hS)) ?_;clear hS;intro wr2 FT hS;refine FD (qY.out _) ?_;clear hS;intro wr3 Oi hS;refine Aj ?_;refine Ce ?_;clear hS Ah Ae;intro hB;obtain ⟨W5,GU⟩:∃ W:World,W=wr3:=⟨_,rfl⟩;rw [<- GU] at hB ⊢;have CW:=AA (bT dh.out hB);have Fh:=AA (aA2.out.keep hB);replace e0:=Dv hB e0;clear hB Bf FT Oi GU dh aA2 Q8 auk qY HKq c0
      cases E
      ·rw [HKe.out.symm] at LK aA3;clear e0 m1 m2 m3 m4 m5 m6;have hst:=LK.out rfl;have afW:=AA hst;obtain ⟨g',GN,-,Q8,GZ,H6⟩:=Own.zy Fh.out Zk;injection GN with GN;injection GN with GN _ _;subst GN;have f0:=H6 (m+1) Zk;have hf0:=GZ (m+1);have c0:=Dv CW.out aag.out;have jV:b<W5.heap.size:=by have:=CW.out.size;omega
       have hm1:(m:Int)+1<(Q.length:Int)+1:=by omega
       have RJ:=AA (show Own (W5.setCell ⟨g,m+1,none⟩ (.slice xa xn xc)) w1.heap.size 24 1 Ib (.slice (some ⟨g,0,none⟩) (Q.length+1) c4) (MW Q (m+1) (X,⟨xa,xn,xc⟩)) from by
        have:=Own.afV Fh.out (i:=m+1) Zk (X,⟨xa,xn,xc⟩)
        rwa [alQ hm] at this)
       have MV:=AA (bS (p:=⟨g,m+1,none⟩) CW.out hg0 (.slice xa xn xc));clear H6 GZ hst Fh;go_wp2;go_roundw
       case rel => exact ⟨k+1,MW Q (m+1) (X,⟨xa,xn,xc⟩),AB,BI,⟨_,_,by rw [gV hm]⟩,RJ.out,Zk,by
         rw [fJ.out];refine ((aaf Q (m+1) (X,⟨xa,xn,xc⟩)).map (·.1)).trans ?_;rw [Ez];exact ((jv.out).cons X).trans (abj (l₁:=[X])),alR hm jw.out aA3.out afW.out,(fun y hy=>by
          rcases EJ.1 ((aaf Q (m+1) _).subset hy) with rfl | hy
          · exact ⟨aA1.out,QV.out⟩
          · exact RV.out y hy),MV.out⟩
       case measure => exact BK
      ·obtain ⟨g',GN,-,Q8,GZ,H6⟩:=Own.zy Fh.out Zk;injection GN with GN;injection GN with GN _ _;subst GN;have f0:=H6 (m+1) Zk;have hf0:=GZ (m+1);have ML:=AA (jf.out _ Fh.out);rw [HDn.out] at ML;have Eb:=AA (bS (p:=⟨g,m+1,none⟩) CW.out hg0 (.slice ya yn yc));have HGx:=aah.out rfl;rw [<- HKe.out] at HGx;have HGz:=AA HGx;have m7:(m:Int)+1<(Q.length:Int)+1:=by omega
       clear H6 GZ HGx Fh;go_wp2;go_roundw
       case rel => exact ⟨m,_,AB,BI,ML.out,HGz.out,Eb.out⟩
       case measure => simp [intOf]
  ·have hkk:k=(CX p).length:=by have:=JG.out;omega
   have hpe:=jv.out;rw [hkk,alD] at hpe;have HF:=AA (PZ.out _ hpe jw.out);have aCq:=HB1.out.size;have SS:=AA (show TY wo w.heap.size (.slice A Q.length c) Q from ⟨HO.out.Du aCq,fun x hx=>((RV.out x hx).1).keep HB.out⟩);clear hpe hkk;go_wp2;go_ret;exact ⟨A,c,Q,rfl,bT HB1.out HB.out,SS.out,HF.out⟩
