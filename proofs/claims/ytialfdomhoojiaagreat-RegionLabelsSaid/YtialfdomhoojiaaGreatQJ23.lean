import Derived.Test.YtialfdomhoojiaaGreatQJ22
set_option linter.unusedSimpArgs false
set_option linter.unusedVariables false
set_option maxRecDepth 100000
set_option maxHeartbeats 8000000
namespace Go.Proofs.YtialfdomhoojiaaGreat
open Go.RowKit
theorem ajo (v:Value) (p:Pl) (w:World) (h:Ci w v p) (hv:Valid p) :
  Calls Tryz.prog 57 #[v] w (aeM w (Ce p) 0):=by
 have hck:IG p=0:=(Yi p).2 hv;have GV:=AA (fun W (hW:AU w W)=>agz v p W (h.mono hW));rw [hck] at GV;have Jw:=AA (fun n W (hW:AU w W)=>asH v p n W (h.mono hW) hv);obtain ⟨_,_,_,al,rfl,hpa,⟨An,cn,rfl,hn1,hn2,hR⟩,⟨⟨Aa,ca,rfl,-⟩,-⟩,⟨Af,cf,rfl,-⟩⟩:=h;unfold maxLen at hn2;have HR:=AA hR;have HV:=AA hv;have hnl:=hv.jU;generalize al.length=na at *;generalize p.faces.length=nf at *;obtain ⟨nn,hnn⟩:=BN p.nodes.length;rw [hnn] at hn1 hnl GV Jw ⊢;have aBm:=AA hnn;obtain ⟨q,hq⟩:=BN (Ce p);rw [hq];have HQ0:=AA hq;clear hpa hR hv hck hnn hq;go_enter Tryz.func57,Tryz.ntmps57;go_wp2_with fail;refine (GV.out _ (bA (bR w) _)).mono ?_;rintro e w1 ⟨rfl,hb1⟩;have X1:AO w1 w.heap.size 26 #[.slice An nn cn,.slice Aa na ca,.slice Af nf cf]:=(AO.made rfl _ _).keep hb1;have B1:=AA (bT (bA (bR w) _) hb1);clear hb1 GV;have hmm:=@run_makeMap Tryz.prog;go_upto_region 6 with fail;obtain ⟨gk,hgk⟩:=BN w1.heap.size;obtain ⟨W5,hW⟩:∃ W:World,W=(w1.alloc (.map #[] 0)).alloc (.cells #[.map (some w1.heap.size)] 96):=⟨_,rfl⟩;have hA:AU w1 W5:=by rw [hW];exact bA (bA (bR w1) _) _
 have DI:=AA (show AO W5 (w1.heap.size+1) 96 #[.map (some w1.heap.size)] by rw [hW];exact AO.made Ak _ _);have Tf:=AA (show Gy W5 w1.heap.size 0 (fun _=>0) by rw [hW];exact (Gy.made w1).keep (bA (bR _) _));have Dt:=AA (X1.keep hA);have B5:=AA (bT B1.out hA);have hz1:w.heap.size+1<=w1.heap.size:=X1.lt;rw [<- hW];clear hW hA X1 hmm;rw [hgk] at DI Tf hz1 ⊢;clear hgk;have X1:=Dt.out;obtain ⟨BF,BG,BH,BI,-,-,-⟩:=X1.Az;have ajp:=AA (@asN);have Tc:gk+1<W5.heap.size:=DI.out.lt;go_upto_block 0 with fail;go_wp2_with fail;go_loopw [4,24] (fun s i wr=>∃ (k:Nat) (F:Int->Int) (cnt:Nat),k<=nn/\i=.int .i64 k/\(∃ A c,s=.slice A (LP p k).length c)/\Own wr (w.heap.size+1) 3 1 DR s (LP p k)/\cnt<=(LP p k).length/\Gy wr gk cnt F/\nU p F (LP p k)/\AO wr w.heap.size 26 #[.slice An nn cn,.slice Aa na ca,.slice Af nf cf]/\AO wr (gk+1) 96 #[.map (some gk)]/\AU w wr/\W5.heap.size<=wr.heap.size) (fun _ i _=>nn-(intOf i).toNat)
 case atStart => exact ⟨0,fun _=>0,0,Bv _,rfl,⟨none,0,rfl⟩,Own.nil _ _ _ _ _,Bv _,Tf.out,(fun e he=>by cases he),X1,DI.out,B5.out,Dc _⟩
 case round =>
  obtain ⟨k,F,cnt,hk,rfl,⟨A,c,rfl⟩,own,hcnt,mp,fol,X1,X5,hb,hsz⟩:=hrel;obtain ⟨wo,rfl⟩:=BR wr;have hlk:=aix HV.out k;have HO:=AA own;have HM:=AA mp;have aaP:=AA fol;have Dt:=AA X1;have DI:=AA X5;have Hb:=AA hb;clear own mp fol hb BF BG BH BI;by_cases hlt:k<nn
  ·have hkn:k<p.nodes.length:=by have:=aBm.out;omega
   obtain ⟨b,o,rfl,hlb,c0,c1,c2⟩:=(HR.out.mono Hb.out).nd hkn;have hnm:p.nodes[k]∈p.nodes:=BO hkn;have xK:=aiw p k hkn;generalize p.nodes[k]=nd at *;have RJ:=AA hnm;have Zb:=AA xK;have Uw:=HV.out.aeJ nd.id;have Ou:=AA (Jw.out nd.id);have PZ:=AA (fun d (hd:d∈DL p nd.id)=>HV.out.aeN RJ.out hd);clear hnm xK;obtain ⟨L,hL⟩:=BN (LP p k);obtain ⟨Q,hQ⟩:=BN (DL p nd.id);rw [hL] at hlk hcnt Zb HO aaP ⊢;rw [hQ] at Zb Uw Ou PZ;clear hL hQ
   try clear BF BG BH BI
   obtain ⟨BF,BG,BH,BI,-,-,-⟩:=X1.Az;obtain ⟨CJ,CO,-⟩:=X5.Fb;go_wp2_with fail;refine (Ou.out _ (bA Hb.out _)).mono ?_;rintro e w2 ⟨Aq,cq,rfl,hb2,hoq⟩;have HW2:=AA (show AU wo w2 from bT (bA (bR wo) _) hb2);have aaO:=AA (Own.ES hoq (b':=wo.heap.size) Ak);have ajq:∀ g,(Value.slice A L.length c).ownBlock=some g->(Value.slice Aq Q.length cq).ownBlock≠some g:=fun g hg e=>by
    have h1:=(HO.out.lt g hg).2;have h2:=(aaO.out.lt g e).1;omega
   have auN:=AA ajq;have hsz2:=HW2.out.size;clear hb2 hoq ajq c0 c1 c2 hlb X1 X5 BF BG BH BI CJ CO Ou;go_upto_block 2 with fail;go_wp2_with fail;go_loopw [4,34] (fun s i wr=>∃ (j:Nat) (G:Int->Int) (cnt2:Nat),j<=Q.length/\i=.int .i64 j/\(∃ A c,s=.slice A (L.length+j) c)/\Own wr (w.heap.size+1) 3 1 DR s (L++Q.take j)/\cnt2<=L.length+j/\Gy wr gk cnt2 G/\nU p G (L++Q.take j)/\Own wr wo.heap.size 3 1 DR (.slice Aq Q.length cq) Q/\(∀ g,s.ownBlock=some g->(Value.slice Aq Q.length cq).ownBlock≠some g)/\AO wr w.heap.size 26 #[.slice (some ⟨b,o,none⟩) nn cn,.slice Aa na ca,.slice Af nf cf]/\AO wr (gk+1) 96 #[.map (some gk)]/\AU w wr/\wo.heap.size<=wr.heap.size) (fun _ i _=>Q.length-(intOf i).toNat)
   case atStart => exact ⟨0,F,cnt,Bv _,rfl,⟨A,c,rfl⟩,by rw [O8,JA];exact HO.out.keep HW2.out,AB,HM.out.keep HW2.out,by rw [O8,JA];exact aaP.out,aaO.out,auN.out,Dt.out.keep HW2.out,DI.out.keep HW2.out,bT Hb.out HW2.out,hsz2⟩
   case round =>
    obtain ⟨j,G,cnt2,hj,rfl,⟨A3,c3,rfl⟩,xM,aya,mp3,ajr,oq3,ajs,X1,X5,hb3,hsz3⟩:=hrel;have F5:=AA xM;have Pm:=AA mp3;have HF3:=AA ajr;have qm:=AA oq3;have wV:=AA ajs;have jh:=AA X1;have Zk:=AA X5;have HB3:=AA hb3;clear xM mp3 ajr oq3 ajs hb3;by_cases hlj:j<Q.length
    ·obtain ⟨bq,kL,rfl,kM,e0⟩:=(qm.out.row_in).int hlj;have hnx:=PZ.out Q[j] (BO hlj);have hbd:=HV.out.Qh hnx.2;have htk:Q.take (j+1)=Q.take j++[Q[j]]:=F7 hlj;generalize Q[j]=d at *;have k1:IntKind.i64.wrap (-d)=-d:=D6 _ AB;have FI:=AA htk;have fH:=AA hnx.1;have aaQ:=AA (show En (-d) from N8 AB AB);have HLn:=AA (show (L++Q.take (j+1)).length=L.length+(j+1) by rw [ER,Iw];omega);have n1:=Own.Dz F5.out X1 Aw;have n5:=Own.Dz F5.out X5 Aw;have nm:=xC Pm.out F5.out;clear htk hnx;go_upto_region 13 with fail;clear e0 kM;go_upto_region 14 with
      (at_builtin
       refine FK _ rfl (.tmp 38) (.tmp 40) _ rfl (base:=w.heap.size+1) JW Iz JR rfl (Own.alloc F5.out _) rfl (l2:=[d]) (Sl.lit (n:=1) (AO.made rfl _ _) rfl (DN AB)) (by simp only [ER,Iw,IU,LX];omega) (by simp only [ER,Iw,IU,LX];omega) DT ?_;intro v1 w1 ho1 hg1 XY;rw [KW,<- FI.out] at ho1;obtain ⟨A1,c1,hv1,-⟩:=Own.Ig ho1;rw [HLn.out] at hv1;subst hv1;have Hg:=AA ho1;replace X1:=AO.grown (X1.alloc _) hg1 (fun e=>n1 e.symm);replace X5:=AO.grown (X5.alloc _) hg1 (fun e=>n5 e.symm);have Jz:=AA ((Pm.out.keep (bA (bR wr) _)).kept hg1 (fun e=>nm e.symm));have yK:=AA (Own.grown (qm.out.alloc _) hg1 (fun g hg e=>wV.out g e.symm hg));have WE:=AA (show ∀ g,(Value.slice A1 (L.length+(j+1)) c1).ownBlock=some g->(Value.slice (some ⟨bq,kL,none⟩) Q.length cq).ownBlock≠some g from fun g hg e=>by
        rcases XY with h | h
        · exact wV.out g (h.symm.trans hg) e
        ·have h1:=(qm.out.lt g e).2;rw [hg] at h;have:=Dq h
         simp at this;omega)
       have HB1:=AA (bG (bA HB3.out _) hg1 (fun g hg=>by have:=(F5.out.lt g hg).1;omega));have hsz1:wr.heap.size<=w1.heap.size:=by have:=hg1.size;simp at this;omega
       clear ho1 hg1 XY
       )
     have auO:=AA X1;have atf:=AA X5;have m1:=xB Jz.out X1;have m5:=xB Jz.out X5
     try clear CJ CO
     obtain ⟨CJ,CO,-⟩:=X5.Fb;refine UY (w1) (some gk) (.run 5 0 0 (.call 5 63 (.call 6 127 (.done)))) fun CU QR Ae Ah hS=>?_
     iterate 5 refine Aj ?_
     refine GL (ajp.out _ Q d _ ((yK.out.keep (bD (bR w1))).sl) AB) ?_;clear hS;intro CX CV hS;refine Bj ?_;clear hS;intro K hK AQ;obtain ⟨w6,hr6,Xy,Ir⟩:=(Jz.out.keep (bT (bD (bR w1)) CV)).upd AB (-d) aaQ.out (precD Q d);go_simp;have hS:JU w1 (some gk) w6:=gT AQ.out Ir;have Ut:=AA Xy;clear Xy Ir hr6;clear AQ;refine hK.out _ _ hS (fun _=>?_);clear hK K
     try simp only [pu]
     refine Qq ?_;clear hS Ah Ae;intro hB;go_wp2;go_roundw
     case rel => exact ⟨j+1,_,cnt2+1,AB,BJ,⟨A1,c1,rfl⟩,Own.grown Hg.out hB (fun g hg e=>xC Jz.out Hg.out (by rw [hg];exact e)),AB,Ut.out,by rw [FI.out,<- KW];exact HF3.out.snoc fH.out,Own.grown yK.out hB (fun g hg e=>xC Jz.out yK.out (by rw [hg];exact e)),WE.out,AO.grow auO.out hB (fun e=>m1 (Dq e)),AO.grow atf.out hB (fun e=>m5 (Dq e)),bG HB1.out hB (fun g hg=>by have:=Dq hg;omega),EH AB hB.size⟩
     case measure => exact BL
    ·have hjj:j=Q.length:=by omega
     subst hjj;have ho:=F5.out;have hf:=HF3.out;rw [I4] at ho hf;have Za:=AA (show LP p (k+1)=L++Q from Zb.out);have HLn:=AA (show (LP p (k+1)).length=L.length+Q.length by rw [Za.out,ER]);have JH:=AA ho;have HF4:=AA hf;clear ho hf;go_wp2;go_roundw
     case rel => exact ⟨k+1,G,cnt2,AB,BJ,⟨A3,c3,by rw [HLn.out]⟩,by rw [Za.out];exact JH.out,by rw [HLn.out];omega,Pm.out,by rw [Za.out];exact HF4.out,jh.out,Zk.out,HB3.out,AB⟩
     case measure => exact BL
  ·have hkk:k=nn:=by omega
   subst hkk;have hNN:=aBm.out;subst hNN;have hperm:(LP p p.nodes.length).Perm (Bh p):=by rw [aBj];exact HV.out.aB0
   have hDl:=HV.out.aiy;have hLD:=hperm.length_eq;have hasc:=HV.out.asQ;have aaR:=AA (fun d (hd:d∈Bh p)=>HV.out.asR aaP.out hd);have fK:=AA (fun x (hx:x∈Bh p)=>(HV.out.QT hx).1);have Qi:=AA (fun x (hx:x∈Bh p) y (hy:y∈Bh p)=>HV.out.Xn (d:=x) (e:=y) hx hy);have HDw:=AA (fun x (hx:x∈Bh p)=>show En x from N8 (by have:=HV.out.Qh hx;omega) (by have:=HV.out.Qh hx;omega));have GV:=AA (fun k=>HV.out.aiz k);have HS:=AA (aiv (w.heap.size+1) _ (LP p p.nodes.length) _ HO.out AB);have yN:=Own.Dz HO.out DI.out Aw;have yL:=xC HM.out HO.out;have hlo:=HO.out.lt;rw [hasc] at HS;rw [hLD] at HS hcnt yL yN hlo ⊢;have RJ:=AA yL;have jR:=AA yN;have zQ:=AA hlo;have hq:=HQ0.out;unfold Ce aBZ at hq;have Hq:=AA hq;clear HQ0 hperm hLD hasc hlk hq HO aaP Jw ajp HV yL yN hlo X1 X5;generalize Bh p=D at *;generalize FH p=f at *;go_wp2_with fail;refine HS.out.mono ?_;rintro e ws ⟨rfl,hos,hgs⟩;have oM:=AA (bG Hb.out hgs (fun g hg=>by have:=(zQ.out g hg).1;omega));have atg:=AA (AO.grown DI.out hgs (fun e=>jR.out e.symm));have HMs:=AA (HM.out.kept hgs (fun e=>RJ.out e.symm));have Yw:=AA hos;clear hos hgs HS;have hmm:=@run_makeMap Tryz.prog;go_upto_region 19 with fail;obtain ⟨gm,hgm⟩:=BN ws.heap.size;obtain ⟨W6,hW⟩:∃ W:World,W=(ws.alloc (.map #[] 0)).alloc (.cells #[.map (some ws.heap.size)] 139):=⟨_,rfl⟩;have hA:AU ws W6:=by rw [hW];exact bA (bA (bR ws) _) _
   have HXs:=AA (show AO W6 (ws.heap.size+1) 139 #[.map (some ws.heap.size)] by rw [hW];exact AO.made Ak _ _);have HI6:=AA (show Le W6 ws.heap.size 0 (fun _=>false) by rw [hW];exact (Le.made ws).keep (bA (bR _) _));have ae6:=AA (atg.out.keep hA);have Ut:=AA (HMs.out.keep hA);have RH:=AA (Yw.out.keep hA);have GU:=AA (bT oM.out hA);have hgl:=HMs.out.lt;rw [<- hW];clear hW hA hmm;rw [hgm] at HXs HI6 hgl ⊢;have hws:w.heap.size<=gm:=by rw [<- hgm];exact oM.out.size
   clear hgm;have ath:=AA (@aqX f D fK.out Qi.out F aaR.out HDw.out AB);have oK:gm+1<W6.heap.size:=HXs.out.lt;go_upto_block 4 with fail;go_wp2_with fail;go_loopw [2,56] (fun s i wr=>∃ (k:Nat) (acc:List (List Int×SV)) (S:Int->Bool),k<=D.length/\i=.int .i64 k/\acc.length<=k/\(∃ A c,s=.slice A acc.length c)/\Ti wr w.heap.size s acc/\acc.map (·.1)=(D.take k).foldl (Om f D) []/\Le wr gm (acc.map (·.1)).flatten.length S/\(∀ x,S x=decide (x∈(acc.map (·.1)).flatten))/\Own wr (w.heap.size+1) 3 1 DR (.slice A D.length c) D/\AO wr (gm+1) 139 #[.map (some gm)]/\AO wr (gk+1) 96 #[.map (some gk)]/\Gy wr gk cnt F/\AU w wr/\gm+1<wr.heap.size) (fun _ i _=>D.length-(intOf i).toNat)
   case atStart => exact ⟨0,[],fun _=>false,Bv _,rfl,Bv _,⟨none,0,rfl⟩,⟨Own.nil _ _ _ _ _,fun x hx=>by cases hx⟩,rfl,HI6.out,fun x=>by simp,RH.out,HXs.out,ae6.out,Ut.out,GU.out,oK⟩
   case round =>
    obtain ⟨k,acc,S,hk,rfl,hak,⟨A2,c2,rfl⟩,zS,hacc,mi,hS,od,xs,x5,mk,hb,hsz⟩:=hrel;have MX:=AA zS;have ji:=AA hacc;have OX:=AA mi;have aaS:=AA hS;have V8:=AA od;have HX:=AA xs;have DI:=AA x5;have SQ:=AA mk;have HB:=AA hb;have LH:=xs;clear zS hacc mi hS od xs x5 mk hb;by_cases hlt:k<D.length
    ·obtain ⟨bq,kL,hA,kM,e0⟩:=(V8.out.row_in).int hlt;subst hA;have hx:D[k]∈D:=BO hlt;have hsucc:=aj0 f D k hlt;rw [<- ji.out] at hsucc;have V9:=GV.out k;rw [<- ji.out] at V9;generalize D[k]=x at *;have hlk:=OX.out.look x (HDw.out x hx);rw [aaS.out x] at hlk;have QZ:=AA hsucc;have qo:=AA V9;have qp:=AA hx;clear hsucc V9 hx;obtain ⟨WZ,Wh,-⟩:=LH.Fb;by_cases hm:x∈(acc.map (·.1)).flatten
     ·rw [JO hm] at hlk;have hst:=AA (show Om f D (acc.map (·.1)) x=acc.map (·.1) by unfold Om;rw [AZ hm]);clear hm;go_wp2;go_roundw
      case rel => exact ⟨k+1,acc,S,AB,BJ,AB,⟨A2,c2,rfl⟩,MX.out,by rw [QZ.out,hst.out],OX.out,aaS.out,V8.out,HX.out,DI.out,SQ.out,HB.out,hsz⟩
      case measure => exact BL
     ·rw [Gg hm] at hlk;have hst:=AA (show Om f D (acc.map (·.1)) x=acc.map (·.1)++[JZ f D x] by unfold Om;rw [AX hm]);have hfn:(acc.map (·.1)).flatten.length<=D.length:=Wq qo.out.nodup (fun y hy=>by
       obtain ⟨l,hl,hy⟩:=aAP.1 hy;obtain ⟨d,h1,h2,-⟩:=qo.out.oz l hl;subst h2;exact wI fK.out (aAG h1) hy)
      have HF2:=AA (ath.out S x qp.out (fun y hy=>by rw [aaS.out y];exact Gg (qo.out.apart fK.out qp.out hm hy)) (gm+1) (gk+1) gm gk (acc.map (·.1)).flatten.length cnt wr AB HX.out DI.out OX.out SQ.out AB);have hol:(JZ f D x).length<=D.length+1:=by
       have h:=Ws fK.out Qi.out qp.out;rw [h.2.2.2.2.2];exact h.2.1
      clear hm;generalize JZ f D x=o at *;go_wp2_with fail;refine HF2.out.mono ?_;rintro e w4 ⟨A4,c4,rfl,Jk,hm4,hg4⟩;have hrs:=hg4.size;have ncy:=oL OX.out MX.out.1;have Qd:=AA (Own.grown MX.out.1 hg4 (fun g hg e=>ncy (hg.trans e)));have zT:=AA (show ∀ y∈acc,Own w4 w.heap.size 3 1 DR (.slice y.2.a y.2.n y.2.c) y.1 from fun y hy=>Own.grown (MX.out.2 y hy) hg4 (fun g hg e=>oL OX.out (MX.out.2 y hy) (hg.trans e)));have JH:=AA (Own.ES Jk (b':=w.heap.size) (HB.out.size));have iw:=AA hm4;have HD4:=AA (Own.grown V8.out hg4 (fun g hg e=>oL OX.out V8.out (hg.trans e)));have D8:=AA (AO.grow HX.out hg4 (fun e=>yH OX.out HX.out (Dq e)));have WM:=AA (AO.grow DI.out hg4 (fun e=>yH OX.out DI.out (Dq e)));have HK4:=AA (SQ.out.kept hg4 (fun e=>by have:=Dq e;omega));have HB4:=AA (bG HB.out hg4 (fun g hg=>by have:=Dq hg;omega));clear Jk hm4 hg4 ncy HF2 LH WZ Wh e0 kM;go_upto_region 25 with
       (at_builtin
        refine FK _ rfl (.tmp 64) (.tmp 68) _ rfl (base:=w.heap.size) ZX XZ ZW rfl (Own.alloc Qd.out _) rfl (l2:=[((o,⟨A4,o.length,c4⟩):List Int×SV)]) (Sl.lit (n:=1) (AO.made rfl _ _) rfl (DN AB)) DZ DZ (by have:=HB4.out.size;simp;omega) ?_;intro v5 w5 Di hg5 Gi;obtain ⟨A5,c5,hv5,-⟩:=Own.Ig Di;rw [show (acc++[((o,⟨A4,o.length,c4⟩):List Int×SV)]).length=acc.length+1 by simp] at hv5;subst hv5;have aaT:∀ {l:List Int} {A':Option Addr} {n' c':Nat} {b':Nat},Own w4 b' 3 1 DR (.slice A' n' c') l->∀ g,(Value.slice A' n' c').ownBlock=some g->some g≠(Value.slice A2 acc.length c2).ownBlock:=fun h g hg=>Own.apart h Qd.out Aw g hg;have qw:=AA (show Ti w5 w.heap.size (.slice A5 (acc.length+1) c5) (acc++[((o,⟨A4,o.length,c4⟩):List Int×SV)]) from ⟨Di,fun y hy=>by
         rcases FX.1 hy with hy | hy
         · exact Own.grown (Own.alloc (zT.out y hy) _) hg5 (aaT (zT.out y hy))
         ·rw [EP] at hy;subst hy;exact Own.grown (Own.alloc JH.out _) hg5 (aaT JH.out)⟩)
        have HD5:=AA (Own.grown (Own.alloc HD4.out _) hg5 (aaT HD4.out));have jk:=AA (AO.grown (D8.out.alloc _) hg5 (fun e=>Own.Dz Qd.out D8.out Aw e.symm));have ae7:=AA (AO.grown (WM.out.alloc _) hg5 (fun e=>Own.Dz Qd.out WM.out Aw e.symm));have HK5:=AA ((HK4.out.keep (bA (bR w4) _)).kept hg5 (fun e=>xC HK4.out Qd.out e.symm));have ati:=AA ((iw.out.keep (bA (bR w4) _)).kept hg5 (fun e=>oL iw.out Qd.out e.symm));have Cm:=AA (bG (bA HB4.out _) hg5 (fun g hg=>(Qd.out.lt g hg).1));have hs5:=hg5.size;simp only [World.size_alloc] at hs5;clear Di hg5 Gi aaT
        )
      go_wp2;go_roundw
      case rel => exact ⟨k+1,acc++[((o,⟨A4,o.length,c4⟩):List Int×SV)],Td S o,AB,BJ,by rw [ER,sD];omega,⟨A5,c5,by rw [ER,sD]⟩,qw.out,by rw [QZ.out,hst.out,GI];rfl,by rw [GI,ab1,ER];have h:=ati.out;simpa using h,(fun y=>by unfold Td;rw [aaS.out y,GI,ab1,MH];simp),HD5.out,jk.out,ae7.out,HK5.out,Cm.out,AB⟩
      case measure => exact BL
    ·have hkk:k=D.length:=by omega
     subst hkk;have hfin:=ji.out;rw [I4,Hq.out] at hfin;have hfl:acc.length=q.length:=by rw [<- hfin,Cj]
     have WO:=AA hfin;have hc:=MX.out;rw [hfl] at hc ⊢;have HC:=AA hc;clear hfin hc hfl;go_wp2_with fail;go_ret2;exact ⟨A2,c2,acc,rfl,HB.out,WO.out,HC.out⟩
theorem Ints.slice {w:World} {a:Option Addr} {n c:Nat} {l:List Int} (h:Ints w (.slice a n c) l):n=l.length/\l.length<=c/\c<=maxLen/\Row w a (l.flatMap DR):=by
 obtain ⟨A,c',he,h1,h2,h3⟩:=h;injection he with e1 e2 e3;subst e1 e2 e3;exact ⟨rfl,h1,h2,h3⟩
theorem atj (l:List Int) (x:Int):(l.any fun y=>y == x)=decide (x∈l):=by
 rw [MH,OC,decide_eq_true_iff];constructor
 ·rintro ⟨y,hy,e⟩;rw [beq_iff_eq] at e;exact e ▸ hy
 ·intro h;exact ⟨x,h,Ak⟩
theorem ajt (v:Value) (p:Pl) (w:World) (h:Ci w v p) (hv:Valid p) :
  Calls Tryz.prog 131 #[v] w (aeM w (Ce p) 0):=by
 have hck:IG p=0:=(Yi p).2 hv;have GV:=AA (fun W (hW:AU w W)=>ah8 v p W (h.mono hW));rw [hck] at GV;have eH:=AA (fun W (hW:AU w W)=>as2 v p W (h.mono hW) hv);have HDt:=AA (fun W (hW:AU w W)=>arh v p W (h.mono hW) hv);have HHs:=AA (@arf);obtain ⟨vn,va,vf,al,rfl,-⟩:=h;have hD:∀ x∈Bh p,FH p x∈Bh p:=fun x hx=>(hv.QT hx).1;have hi:∀ x∈Bh p,∀ y∈Bh p,FH p x=FH p y->x=y:=fun x hx y hy=>hv.Xn hx hy;have hdl:=hv.aiy;have hpl:=hv.ard;have MX:=AA (@auM (FH p) (Bh p) hD hi (Np p p.nodes.length) (fun x hx=>(hv.ara hx).2) (fun d hd=>hv.arb hd) hpl AB);have fK:=AA hD;have Qi:=AA hi;have atl:=AA (fun k=>hv.aiz k);obtain ⟨q,hq⟩:=BN (Ce p);rw [hq];unfold Ce aBZ at hq;have Hq:=AA hq;have Yx:=AA hpl;clear hv hck hD hi hq hpl;generalize Bh p=D at *;generalize FH p=f at *;generalize Np p p.nodes.length=P at *;go_enter Tryz.func131,Tryz.ntmps131;go_wp2_with fail;refine (GV.out _ (bA (bR w) _)).mono ?_;rintro e w1 ⟨rfl,hb1⟩;have X1:AO w1 w.heap.size 26 #[vn,va,vf]:=(AO.made rfl _ _).keep hb1;have Dt:=AA X1;have B1:=AA (bT (bA (bR w) _) hb1);clear hb1 GV;obtain ⟨BF,BG,BH,BI,-,-,-⟩:=X1.Az;go_wp2_with fail;refine (eH.out _ B1.out).mono ?_;rintro e w2 ⟨Af,cf,Ag,cg,rfl,hb2,hof,hog⟩;have B2:=AA (bT B1.out hb2);have RV:=AA (Own.sl hof);have HOg:=AA (Own.sl hog);have CG:=AA (Dt.out.keep hb2);clear hb2 hof hog X1 BF BG BH BI eH Dt;have X1:=CG.out
 try clear BF BG BH BI
 obtain ⟨BF,BG,BH,BI,-,-,-⟩:=X1.Az;go_wp2_with fail;refine (HDt.out _ B2.out).mono ?_;rintro e w3 ⟨Ad,cd,rfl,hb3,hod⟩;have B3:=AA (bT B2.out hb3);have V8:=AA (Own.sl hod);have eP:=AA (show Ints w3 (.slice Af P.length cf) (P.map (·.1)) from (RV.out).mono hb3);have aaH:=AA (show Ints w3 (.slice Ag P.length cg) (P.map (·.2)) from (HOg.out).mono hb3);have qx:=AA (show Ints w3 (.slice Ad D.length cd) D from V8.out);clear hb3 hod X1 BF BG BH BI HDt RV HOg V8 CG;have hrd:=(qx.out.slice).2.2.2;have hrm:=(qx.out.slice).2.2.1;unfold maxLen at hrm;have eU:=AA hrd;clear hrd;go_upto_block 0 with fail;go_wp2_with fail;go_loopw [5,6,10] (fun s t i wr=>∃ (k:Nat) (acc:List (List Int×SV)),k<=D.length/\i=.int .i64 k/\acc.length<=k/\(∃ A c,s=.slice A acc.length c)/\(∃ A c,t=.slice A (acc.map (·.1)).flatten.length c)/\Ti wr w3.heap.size s acc/\Own wr w3.heap.size 3 1 DR t (acc.map (·.1)).flatten/\acc.map (·.1)=(D.take k).foldl (Om f D) []/\(∀ x∈acc,IL (.slice x.2.a x.2.n x.2.c) t)/\AU w3 wr) (fun _ _ i _=>D.length-(intOf i).toNat)
 case atStart => exact ⟨0,[],Bv _,rfl,Bv _,⟨none,0,rfl⟩,⟨none,0,rfl⟩,⟨Own.nil _ _ _ _ _,fun x hx=>by cases hx⟩,Own.nil _ _ _ _ _,rfl,(fun x hx=>by cases hx),bR w3⟩
 case round =>
  obtain ⟨k,acc,hk,rfl,hak,⟨A2,c2,rfl⟩,⟨A3,c3,rfl⟩,zS,own,hacc,sep,hb⟩:=hrel;have ae8:=AA zS;have HO:=AA own;have ji:=AA hacc;have LD:=AA sep;have HB:=AA hb;have hzr:=hb.size;clear zS own hacc sep hb;by_cases hlt:k<D.length
  ·obtain ⟨bq,kL,rfl,kM,e0⟩:=(eU.out.mono HB.out).int hlt;have hx:D[k]∈D:=BO hlt;have hsucc:=aj0 f D k hlt;rw [<- ji.out] at hsucc;have V9:=atl.out k;rw [<- ji.out] at V9;generalize D[k]=x at *;have hfn:(acc.map (·.1)).flatten.length<=D.length:=Wq V9.nodup (fun y hy=>by
    obtain ⟨l,hl,hy⟩:=aAP.1 hy;obtain ⟨d,h1,h2,-⟩:=V9.oz l hl;subst h2;exact wI fK.out (aAG h1) hy)
   have QZ:=AA hsucc;have qp:=AA hx;clear hsucc V9 hx;obtain ⟨T,hT0⟩:=BN ((acc.map (·.1)).flatten);have HTT:=AA hT0;rw [hT0] at HO hfn LD ⊢;have hT:=HHs.out (.slice A3 T.length c3) T x wr (Own.sl HO.out);rw [atj] at hT;by_cases hm:x∈T
   ·rw [JO hm] at hT;have hst:=AA (show Om f D (acc.map (·.1)) x=acc.map (·.1) by unfold Om;rw [hT0,AZ hm]);have HT:=AA hT;clear hm hT hT0;go_wp2_with fail;refine HT.out.mono ?_;rintro e w4 ⟨rfl,hb4⟩;have HB4:=AA hb4;clear hb4 e0 kM;go_wp2;go_roundw
    case rel => exact ⟨k+1,acc,AB,BJ,AB,⟨A2,c2,rfl⟩,⟨A3,c3,by rw [HTT.out]⟩,ae8.out.keep HB4.out,by rw [HTT.out];exact HO.out.keep HB4.out,by rw [QZ.out,hst.out],LD.out,bT HB.out HB4.out⟩
    case measure => exact BL
   ·rw [Gg hm] at hT;have hst:=AA (show Om f D (acc.map (·.1)) x=acc.map (·.1)++[JZ f D x] by unfold Om;rw [hT0,AX hm]);have HT:=AA hT;have hol:(JZ f D x).length<=D.length+1:=by
     have h:=Ws fK.out Qi.out qp.out;rw [h.2.2.2.2.2];exact h.2.1
    have HC:=AA (fun W (hW:AU w3 W)=>MX.out (.slice Af P.length cf) (.slice Ag P.length cg) x qp.out W (eP.out.mono hW) (aaH.out.mono hW));clear hm hT hT0;generalize JZ f D x=o at *;go_wp2_with fail;refine HT.out.mono ?_;rintro e w4 ⟨rfl,hb4⟩;have HB4:=AA (bT HB.out hb4);have atm:=AA (ae8.out.keep hb4);have JH:=AA (HO.out.keep hb4);replace e0:=Eh hb4 e0;have atn:bq<w4.heap.size:=by have:=hb4.size;omega
    have dh:=hb4.size;clear hb4 kM HT;go_wp2_with fail;refine (HC.out _ HB4.out).mono ?_;rintro e w5 ⟨A5,c5,rfl,hb5,Di⟩;have Cm:=AA (bT HB4.out hb5);have qw:=AA (atm.out.keep hb5);have Fh:=AA (JH.out.keep hb5);have HL5:=AA (Own.ES Di (b':=w3.heap.size) AB);have qQ:=AA (show IL (.slice A5 o.length c5) (.slice A3 T.length c3) from fun g hg e=>by
     have h1:=(Di.lt g hg).1;have h2:=(JH.out.lt g e).2;omega)
    have Tc:=hb5.size;clear hb5 Di HC e0 atn;have HFt:=AA (show ((acc++[((o,⟨A5,o.length,c5⟩):List Int×SV)]).map (·.1)).flatten=T++o by rw [GI,ab1,HTT.out];simp);clear JH;go_upto_region 14 with
     (at_builtin
      refine FK _ rfl (.tmp 43) (.tmp 44) _ rfl (base:=w3.heap.size) JW Iz JR rfl Fh.out rfl (l2:=o) (Own.sl HL5.out) AB AB AB ?_;intro v6 w6 Us Ir xO;obtain ⟨A6,c6,hv6,-⟩:=Own.Ig Us;rw [ER] at hv6;subst hv6;have RH:=AA Us;have kN:∀ g,(Value.slice A6 (T.length+o.length) c6).ownBlock=some g->(Value.slice A3 T.length c3).ownBlock=some g\/g=w5.heap.size:=fun g hg=>by
       rcases xO with h | h
       · exact .inl (h.symm.trans hg)
       · rw [hg] at h;exact .inr (Dq h)
      have ae9:=AA (Own.grown qw.out.1 Ir (fun g hg e=>Own.apart qw.out.1 Fh.out Aw g hg e));have aju:=AA (show ∀ y∈acc,Own w6 w3.heap.size 3 1 DR (.slice y.2.a y.2.n y.2.c) y.1 from fun y hy=>Own.grown (qw.out.2 y hy) Ir (fun g hg e=>LD.out y hy g hg e.symm));have HL6:=AA (Own.grown HL5.out Ir (fun g hg e=>qQ.out g hg e.symm));have HS6:=AA (show ∀ y∈acc,IL (.slice y.2.a y.2.n y.2.c) (.slice A6 (T.length+o.length) c6) from fun y hy g hg e=>by
       rcases kN g e with h | h
       · exact LD.out y hy g hg h
       · have:=((qw.out.2 y hy).lt g hg).2;omega)
      have ato:=AA (show IL (.slice A5 o.length c5) (.slice A6 (T.length+o.length) c6) from fun g hg e=>by
       rcases kN g e with h | h
       · exact qQ.out g hg h
       · have:=(HL5.out.lt g hg).2;omega)
      have GU:=AA (bG Cm.out Ir (fun g hg=>(Fh.out.lt g hg).1));have oK:=Ir.size;clear Us Ir xO kN
      )
    go_upto_region 10 with
     (at_builtin
      refine FK _ rfl (.tmp 46) (.tmp 48) _ rfl (base:=w3.heap.size) ZX XZ ZW rfl (Own.alloc ae9.out _) rfl (l2:=[((o,⟨A5,o.length,c5⟩):List Int×SV)]) (Sl.lit (n:=1) (AO.made rfl _ _) rfl (DN AB)) DZ DZ (by have:=GU.out.size;simp;omega) ?_;intro v7 w7 Ox G9 Tj;obtain ⟨A7,c7,hv7,-⟩:=Own.Ig Ox;rw [show (acc++[((o,⟨A5,o.length,c5⟩):List Int×SV)]).length=acc.length+1 by simp] at hv7;subst hv7;have Xe:∀ {l:List Int} {A':Option Addr} {n' c':Nat} {b':Nat},Own w6 b' 3 1 DR (.slice A' n' c') l->∀ g,(Value.slice A' n' c').ownBlock=some g->some g≠(Value.slice A2 acc.length c2).ownBlock:=fun h g hg=>Own.apart h ae9.out Aw g hg;have atp:=AA (show Ti w7 w3.heap.size (.slice A7 (acc.length+1) c7) (acc++[((o,⟨A5,o.length,c5⟩):List Int×SV)]) from ⟨Ox,fun y hy=>by
       rcases FX.1 hy with hy | hy
       · exact Own.grown (Own.alloc (aju.out y hy) _) G9 (Xe (aju.out y hy))
       ·rw [EP] at hy;subst hy;exact Own.grown (Own.alloc HL6.out _) G9 (Xe HL6.out)⟩)
      have fF:=AA (Own.grown (Own.alloc RH.out _) G9 (Xe RH.out));have MW:=AA (bG (bA GU.out _) G9 (fun g hg=>(ae9.out.lt g hg).1));clear Ox G9 Tj Xe
      )
    go_wp2;go_roundw
    case rel => exact ⟨k+1,acc++[((o,⟨A5,o.length,c5⟩):List Int×SV)],AB,BJ,by rw [ER,sD];omega,⟨A7,c7,by rw [ER,sD]⟩,⟨A6,c6,by rw [HFt.out,ER]⟩,atp.out,by rw [HFt.out];exact fF.out,by rw [QZ.out,hst.out,GI];rfl,(fun y hy=>by
     rcases FX.1 hy with hy | hy
     · exact HS6.out y hy
     · rw [EP] at hy;subst hy;exact ato.out),MW.out⟩
    case measure => exact BL
  ·obtain rfl:k=D.length:=by omega
   have hfin:=ji.out;rw [I4,Hq.out] at hfin;have hfl:acc.length=q.length:=by rw [<- hfin,Cj]
   have WO:=AA hfin;have hc:=ae8.out;rw [hfl] at hc ⊢;generalize (acc.map (·.1)).flatten=T at *;have HC:=AA hc;have hz3:=B3.out.size;clear hfin hc hfl;go_wp2_with fail;go_ret2;exact ⟨A2,c2,acc,rfl,bT B3.out HB.out,WO.out,⟨HC.out.1.ES hz3,fun y hy=>(HC.out.2 y hy).ES hz3⟩⟩
theorem Own.zU {e:TypeId} {w:World} {B:Nat} {A:Option Addr} {n c:Nat} {L:List (List Int×SV)} (h:Own w B e 1 Ia (.slice A n c) L) (hl:0<L.length):∃ g,A=some ⟨g,0,none⟩/\B<=g/\g<w.heap.size/\(∀ j,w.frozen? ⟨g,j,none⟩=false) /\
  ∀ k (hk:k<L.length),w.cell? ⟨g,k,none⟩=some (.slice L[k].2.a L[k].2.n L[k].2.c):=by
 have hr:=h.row_of;rcases h.2 with ⟨_,h0⟩ | ⟨g,cap,cur,hv,hg,hh,-⟩
 · omega
 ·injection hv with e1 e2 e3;subst e1;refine ⟨g,rfl,hg,AO.lt hh,fun j=>AO.frozen hh j,fun k hk=>?_⟩;obtain ⟨b,o,Eo,-,c0⟩:=hr.cy hk;injection Eo with Eo;injection Eo with y1 y2 _;subst y1 y2;simpa only [Qm] using c0
theorem Own.aeA {w:World} {base g n c i:Nat} {e:TypeId} {l:List (List Int×SV)} (h:Own w base e 1 Ia (.slice (some ⟨g,0,none⟩) n c) l) (hi:i<l.length) (y:List Int×SV):Own (w.setCell ⟨g,i,none⟩ (.slice y.2.a y.2.n y.2.c)) base e 1 Ia (.slice (some ⟨g,0,none⟩) n c) (l.set i y):=by
 have:=Own.bn XZ h hi (j:=0) AB y (.slice y.2.a y.2.n y.2.c) rfl
 simpa using this
def MZ (Q:List (List Int×SV)) (k:Nat) (z:List Int×SV):List (List Int×SV):=Q.take k++z::Q.drop k
theorem iH {Q:List (List Int×SV)} {k:Nat} (hk:k<=Q.length) (z:List Int×SV):(MZ Q k z).length=Q.length+1:=by
 unfold MZ;simp only [ER,IU,Iw,mD];omega
theorem atq (Q:List (List Int×SV)) (z:List Int×SV):Q++[z]=MZ Q Q.length z:=by unfold MZ;rw [I4,aaq]
theorem atr {Q:List (List Int×SV)} {k j:Nat} (hj:j<k) (hk:k<=Q.length) (z:List Int×SV):(MZ Q k z)[j]'(by rw [iH hk];omega)=Q[j]:=by
 unfold MZ;rw [List.getElem_append_left su,List.getElem_take]
theorem att {Q:List (List Int×SV)} {k:Nat} (hk:k<Q.length) (z:List Int×SV):(MZ Q (k+1) z).set (k+1) Q[k]=MZ Q k Q[k]:=by
 unfold MZ;have hl:(Q.take (k+1)).length=k+1:=by rw [Iw];omega
 rw [ab2 (k+1) _ AB,hl,ab3,abT,F7 hk,KW];congr 1;rw [Ql hk];rfl
theorem ajv {Q:List (List Int×SV)} {k:Nat} (hk:k<=Q.length) (z y:List Int×SV):(MZ Q k z).set k y=MZ Q k y:=by
 unfold MZ;have hl:(Q.take k).length=k:=by rw [Iw];omega
 rw [ab2 k _ AB,hl,ab3,abT]
theorem aaU (Q:List (List Int×SV)) (k:Nat) (z:List Int×SV):(MZ Q k z).Perm (z::Q):=by
 unfold MZ;refine List.perm_middle.trans ?_;rw [Zo]
theorem ajw {Q:List (List Int×SV)} {k:Nat} (hk:k<=Q.length) {x:List Int×SV} (hs:(Q.map (·.1)).Pairwise (fun a b=>RS b a=false))
  (h1:∀ j (hj:j<Q.length),k<=j->Gl (Dp x.1) (Dp Q[j].1)=true) (h2:k=0\/∃ hj:k-1<Q.length,Gl (Dp x.1) (Dp Q[k-1].1)=false) :
  ((MZ Q k x).map (·.1)).Pairwise (fun a b=>RS b a=false):=by
 have hs':=I5.1 hs;rw [Fa] at hs';refine I5.2 ?_;unfold MZ;rw [Qn,JL];have hsl:Q.Pairwise (fun a b=>RS b.1 a.1=false):=I5.1 hs;refine ⟨hsl.sublist (List.take_sublist _ _),⟨fun y hy=>?_,hsl.sublist (List.drop_sublist _ _)⟩,fun a ha b hb=>?_⟩
 ·obtain ⟨j,hj,rfl⟩:=EF.1 hy;rw [mD] at hj;rw [List.getElem_drop];exact ak8 (h1 (k+j) AB AB)
 ·obtain ⟨i,hi,rfl⟩:=EF.1 ha;rw [Iw] at hi;rw [List.getElem_take];rcases EW.1 hb with rfl | hb
  ·rcases h2 with h2 | ⟨hj,h2⟩
   · omega
   ·show Gl (Dp b.1) (Dp Q[i].1)=false
    by_cases e:i=k-1
    · subst e;exact h2
    ·have h3:Gl (Dp Q[k-1].1) (Dp Q[i].1)=false:=hs' i (k-1) AB hj AB;rw [<- JK];intro hc;by_cases h4:Gl (Dp Q[i].1) (Dp Q[k-1].1)=true
     · rw [adr hc h4] at h2;cases h2
     ·have:=ak7 (by simpa using h4) h3
      rw [this,h2] at hc
      cases hc
  ·obtain ⟨j,hj,rfl⟩:=EF.1 hb;rw [mD] at hj;rw [List.getElem_drop];exact hs' i (k+j) AB AB AB
def atu (w:World) (p:Pl) (e:Ending) (w':World):Prop :=
 ∃ A c L,e=.returned (.slice A L.length c)/\AU w w'/\Ti w' w.heap.size (.slice A L.length c) L/\L.map (·.1)=sortK (BP p)
theorem atv (v:Value) (p:Pl) (w:World) (h:Ci w v p) (hv:Valid p):Calls Tryz.prog 72 #[v] w (atu w p):=by
 have GV:=AA (fun W (hW:AU w W)=>ajt v p W (h.mono hW) hv);have WH:=AA (fun u l (hl:l∈Ce p) W (hu:Ints W u l) (hW:AU w W)=>show Calls Tryz.prog 132 #[v,u] W fun e w'=>e=.returned (.int .i64 (FB p l))/\AU W w' from by
  have t:=adV v u p l W (h.mono hW) hu hv (fun d hd=>by have:=hv.Qh ((hv.Gq hl).2 d hd);exact N8 AB AB);rw [hv.aBv hl] at t;exact t)
 have HKy:=AA (fun u l (hl:l∈Ce p) W (hu:Ints W u l)=>atC u l W hu (iD.2 (hv.Xc hl)) (fun d hd=>hv.Qh ((hv.Gq hl).2 d hd)));have qZ:=AA (fun l (hl:l∈Ce p)=>hv.Qh ((hv.Gq hl).2 _ (wL (hv.Xc hl))));have PY:=AA (fun l hl hs=>hv.akB (l:=l) hl hs);have hcn:=hv.U5;obtain ⟨_,_,_,al,rfl,hpa,⟨An,cn,rfl,-⟩,⟨⟨Aa,ca,rfl,-⟩,-⟩,⟨Af,cf,rfl,-⟩⟩:=h;clear hpa hv;generalize p.nodes.length=nn at *;generalize al.length=na at *;generalize p.faces.length=nf at *;go_enter Tryz.func72,Tryz.ntmps72;go_wp2_with fail;refine (GV.out _ (bA (bR w) _)).mono ?_;rintro e w1 ⟨Ac,cc,CL,rfl,hb1,hcl,hco⟩;have hcr:=hco.read;have hle:(Ce p).length=CL.length:=by rw [<- hcl,Cj]
 have zV:=AA (show ∀ x∈CL,Own w1 w.heap.size 3 1 DR (.slice x.2.a x.2.n x.2.c) x.1 from fun x hx=>(hco.2 x hx).ES Ak);rw [hle] at hcr hcn ⊢;obtain ⟨⟨Ac',cc',he',hc1,hc2,Jb⟩,hI⟩:=hcr;injection he' with y1 y2 y3;subst y1 y3;clear y2;unfold maxLen at hc2;have X1:AO w1 w.heap.size 26 #[.slice An nn cn,.slice Aa na ca,.slice Af nf cf]:=(AO.made rfl _ _).keep hb1;have HB1:=AA (bT (bA (bR w) _) hb1);have Dt:=AA X1;have Pv:=AA Jb;have HI:=AA hI;have OW:=AA hcl;have JQ:=AA hle;clear hb1 GV hcl hco hle X1 Jb hI;go_upto_block 0 with fail;go_wp2_with fail;go_loopw [5,6] (fun s i wr=>∃ (k:Nat) (Q:List (List Int×SV)),k<=CL.length/\i=.int .i64 k/\(∃ A c,s=.slice A Q.length c)/\Own wr w1.heap.size 24 1 Ia s Q/\Q.length<=k/\(Q.map (·.1)).Perm (kZ p k)/\(Q.map (·.1)).Pairwise (fun a b=>RS b a=false)/\(∀ x∈Q,Own w1 w.heap.size 3 1 DR (.slice x.2.a x.2.n x.2.c) x.1/\x.1∈Ce p)/\AU w1 wr) (fun _ i _=>CL.length-(intOf i).toNat)
 case atStart => exact ⟨0,[],Bv _,rfl,⟨none,0,rfl⟩,Own.nil _ _ _ _ _,Dc _,List.Perm.refl _,List.Pairwise.nil,(fun x hx=>by cases hx),bR w1⟩
 case round =>
  obtain ⟨k,Q,hk,rfl,⟨A,c,rfl⟩,ho,Uw,hpe,hso,eF,hb⟩:=hrel;obtain ⟨wo,rfl⟩:=BR wr;have HO:=AA ho;have jl:=AA hpe;have aaV:=AA hso;have RX:=AA eF;have HB:=AA hb;clear ho hpe hso eF hb;by_cases hlt:k<CL.length
  ·have hlc:k<(Ce p).length:=by have:=JQ.out;omega
   obtain ⟨b,o,rfl,hlb0,c00⟩:=(Pv.out).cy hlt;have hlb:b<wo.heap.size:=by have:=HB.out.size;omega
   have c0:=Eh HB.out c00;have hin:=HI.out CL[k] (BO hlt);have WQ:=zV.out CL[k] (BO hlt);have hmem:(Ce p)[k]∈Ce p:=BO hlc;have hos:=ajh hlc;rw [jd OW.out hlt hlc] at hmem hos;generalize CL[k]=x at *;obtain ⟨X,xa,xn,xc⟩:=x;simp only at hin WQ c0 c00 hmem hos;have zW:=AA WQ;clear WQ;have aaW:=AA c00;clear c00;have Jo:=AA hin;have VA:=AA c0;have Qb:=AA hmem;have FI:=AA (fun W (hW:AU w1 W)=>WH.out _ X hmem W (hin.mono hW) (bT HB1.out hW));have HKx:=AA (fun W (hW:AU w1 W)=>HKy.out _ X hmem W (hin.mono hW));have hkb:=qZ.out X hmem;obtain ⟨t,ht⟩:=BN (FB p X);rw [ht] at FI hos;have Yw:=AA hos;have k1:(k:Int)<CL.length:=by omega
   have k2:0<=(k:Int):=by omega
   have X1:=Dt.out.keep HB.out;clear hin hmem hos ht hlc;obtain ⟨BF,BG,BH,BI,-,-,-⟩:=X1.Az;go_upto_region 6 with fail;refine DJ (wo) (.run 5 0 0 (.call 5 63 (.take 6 127 (.done)))) fun CU QR Ae Ah hS=>?_
   iterate 5 refine Aj ?_
   refine GL (FI.out _ (bT HB.out hS)) ?_;clear hS;intro CX CV hS;refine Aj ?_;refine DF ?_;clear hS Ah Ae;intro hB;obtain ⟨W3,hW3⟩:∃ W:World,W=CX:=⟨_,rfl⟩;rw [<- hW3] at hB CV ⊢;have HB3:=AA (bT HB.out hB);have F5:=AA (HO.out.keep hB);replace c0:=Eh hB VA.out;have qy:b<W3.heap.size:=by have:=hB.size;omega
   have hz3:=HB3.out.size;clear hB CV hW3 X1 BF BG BH BI VA hlb FI HB HO;by_cases h0:t<=0
   ·have hos:=Yw.out;rw [AX AB,JA] at hos;have eG:=AA hos;clear hos;go_wp2;go_roundw
    case rel => exact ⟨k+1,Q,AB,BJ,⟨_,_,rfl⟩,F5.out,AB,by rw [eG.out];exact jl.out,aaV.out,RX.out,HB3.out⟩
    case measure => exact BL
   ·have hos:=Yw.out;rw [AZ AB] at hos;have eG:=AA hos;clear hos;have hsh:(Q++[((X,⟨xa,xn,xc⟩):List Int×SV)]).length=Q.length+1:=by simp
    have DW:=AA hsh;clear hsh;go_upto_region 8 with fail;go_upto_block 2 with
     (at_builtin
      refine FK _ rfl (.tmp 28) (.tmp 33) _ rfl (base:=w1.heap.size) ZX XZ ZW rfl (Own.alloc F5.out _) rfl (l2:=[((X,⟨xa,xn,xc⟩):List Int×SV)]) (Sl.lit (n:=1) (AO.made rfl _ _) rfl (DN AB)) DZ DZ DT ?_;intro v4 w4 Jk hg4 bV;obtain ⟨A4,c4,hv4,-⟩:=Own.Ig Jk;rw [DW.out] at hv4;subst hv4;have JH:=AA Jk;have HB4:=AA (bG (bA HB3.out _) hg4 (fun g hg=>(F5.out.lt g hg).1));have dh:=hg4.size;simp only [World.size_alloc] at dh;clear Jk hg4 bV
      )
    obtain ⟨g,hgA,hg0,-,-,-⟩:=Own.zU JH.out (by rw [DW.out];omega);subst hgA;have HC4:=AA (Eh HB4.out aaW.out);clear c0 qy F5 HB3;go_wp2_with fail;go_loopw [7] (fun i wr=>∃ (m:Nat) (z:List Int×SV),m<=Q.length/\i=.int .i64 m/\Own wr w1.heap.size 24 1 Ia (.slice (some ⟨g,0,none⟩) (Q.length+1) c4) (MZ Q m z)/\(∀ j (hj:j<Q.length),m<=j->Gl (Dp X) (Dp Q[j].1)=true)/\AU w1 wr) (fun i _=>(intOf i).toNat)
    case atStart => exact ⟨Q.length,(X,⟨xa,xn,xc⟩),Dc _,rfl,by rw [<- atq];exact JH.out,(fun j hj h=>by omega),HB4.out⟩
    case round =>
     clear JH HB4 dh;obtain ⟨m,z,hm,rfl,Di,hge,hb5⟩:=hrel;obtain ⟨wq,rfl⟩:=BR wr;have zZ:=AA Di;have zf:=AA hge;have eu:=AA hb5;clear Di hge hb5;rcases YG m with h9 | h9
     ·subst h9;go_upto_region 9 with fail;refine DJ (wq) (.run 16 0 0 (.done)) fun CU QR Ae Ah hS=>?_
      iterate 3 refine Aj ?_
      iterate 12 refine Jh ?_
      refine Aj ?_;refine DF ?_;clear hS Ah Ae;intro hB;obtain ⟨W5,IY⟩:∃ W:World,W=wq.drew:=⟨_,rfl⟩;rw [<- IY] at hB ⊢;have Cm:=AA (bT eu.out hB);have Fh:=AA (zZ.out.keep hB);clear hB IY eu zZ;have hst:=show (0:Nat)=0\/∃ hj:0-1<Q.length,Gl (Dp X) (Dp Q[0-1].1)=false from .inl rfl
      have adX:=AA hst;obtain ⟨g',Gn,-,SS,G6,Hw⟩:=Own.zU Fh.out (by rw [iH (Bv _)];omega);injection Gn with Gn;injection Gn with Gn _ _;subst Gn;have f0:=Hw 0 (by rw [iH (Bv _)];omega);have hf0:=G6 0;have c0:=Eh Cm.out aaW.out;have kH:b<W5.heap.size:=by have:=Cm.out.size;omega
      have hm1:(0:Int)<(Q.length:Int)+1:=by omega
      have RV:=AA (show Own (W5.setCell ⟨g,0,none⟩ (.slice xa xn xc)) w1.heap.size 24 1 Ia (.slice (some ⟨g,0,none⟩) (Q.length+1) c4) (MZ Q (0) (X,⟨xa,xn,xc⟩)) from by
       have:=Own.aeA Fh.out (i:=0) (by rw [iH (Bv _)];omega) (X,⟨xa,xn,xc⟩)
       rwa [ajv (Bv _)] at this)
      have LU:=AA (bS (p:=⟨g,0,none⟩) Cm.out hg0 (.slice xa xn xc));clear Hw G6 hst Fh;go_wp2;go_roundw
      case rel => exact ⟨k+1,MZ Q (0) (X,⟨xa,xn,xc⟩),AB,BJ,⟨_,_,by rw [iH (Bv _)]⟩,RV.out,by rw [iH (Bv _)];omega,by
        rw [eG.out];refine ((aaU Q (0) (X,⟨xa,xn,xc⟩)).map (·.1)).trans ?_;rw [FM];exact ((jl.out).cons X).trans (abU (l₁:=[X])),ajw (Bv _) aaV.out zf.out adX.out,(fun y hy=>by
         rcases EW.1 ((aaU Q (0) _).subset hy) with rfl | hy
         · exact ⟨zW.out,Qb.out⟩
         · exact RX.out y hy),LU.out⟩
      case measure => exact BL
     ·obtain ⟨m,rfl⟩:∃ m',m=m'+1:=⟨m-1,AB⟩;have rC:m<Q.length:=by omega
      obtain ⟨g',Gn,-,SS,-,Hw⟩:=Own.zU zZ.out Zx;injection Gn with Gn;injection Gn with Gn _ _;subst Gn;have e0:=Hw m Zx;rw [atr (Nat.lt_succ_self m) hm] at e0;obtain ⟨ajx,adY⟩:=RX.out Q[m] (BO rC);have adZ:Ints w1 (.slice Q[m].2.a Q[m].2.n Q[m].2.c) Q[m].1:=ajx.sl;clear ajx;have aaX:=AA (fun (h:Gl (Dp X) (Dp Q[m].1)=true)=>show ∀ j (hj:j<Q.length),m<=j->Gl (Dp X) (Dp Q[j].1)=true from fun j hj hmj=>by
       by_cases e:j=m
       · subst e;exact h
       · exact zf.out j hj AB)
      have LD:=AA (fun (h:Gl (Dp X) (Dp Q[m].1)=false)=>show m+1=0\/∃ hj:m+1-1<Q.length,Gl (Dp X) (Dp Q[m+1-1].1)=false from .inr ⟨rC,h⟩);have HDn:=AA (att rC z);have hkb2:=qZ.out Q[m].1 adY;have HKq:=AA (fun W (hW:AU w1 W)=>HKy.out _ Q[m].1 adY W (adZ.mono hW));have kQ:=AA (fun (W:World) (h:Own W w1.heap.size 24 1 Ia (.slice (some ⟨g,0,none⟩) (Q.length+1) c4) (MZ Q (m+1) z))=>Own.aeA h (i:=m+1) Zx Q[m]);generalize Q[m]=y at *;obtain ⟨Y,ya,yn,yc⟩:=y;simp only at e0 HKq hkb2 aaX LD HDn adZ kQ;generalize Dp Y=ky at *;obtain ⟨kx,hkx⟩:=BN (Dp X);rw [hkx] at HKx hkb aaX LD zf;have HKe:=AA hkx;have qg:=AA (fun W=>ajf kx ky W AB AB);obtain ⟨E,hE⟩:=BN (Gl kx ky);rw [hE] at qg aaX LD;clear hE hkx adY adZ Hw;have c0:=Eh eu.out aaW.out;have atw:b<wq.heap.size:=by have:=eu.out.size;omega
      have m1:(0:Int)<(m:Int)+1:=by omega
      have m2:IntKind.i64.wrap ((m:Int)+1)=(m:Int)+1:=D6 _ AB;have m3:IntKind.i64.wrap (m:Int)=(m:Int):=D6 _ AB;have m4:(m:Int)<(Q.length:Int)+1:=by omega
      have m5:0<=(m:Int):=by omega
      have m6:IntKind.i64.wrap ((m:Int)+1-1)=(m:Int):=by rw [D6 _ AB];omega
      go_upto_region 9 with fail;refine DJ (wq) (.run 7 0 0 (.run 5 8 127 (.call 7 8191 (.call 13 16383 (.call 14 32767 (.take 15 65535 (.done))))))) fun CU QR Ae Ah hS=>?_
      iterate 3 refine Aj ?_
      iterate 9 refine Du ?_
      refine GL (HKx.out _ (bT eu.out hS)) ?_;clear hS;intro CX CV hS;refine GL (HKq.out _ (bT eu.out hS)) ?_;clear hS;intro wr2 Fp hS;refine GL (qg.out _) ?_;clear hS;intro wr3 PK hS;refine Aj ?_;refine DF ?_;clear hS Ah Ae;intro hB;obtain ⟨W5,IY⟩:∃ W:World,W=wr3:=⟨_,rfl⟩;rw [<- IY] at hB ⊢;have Cm:=AA (bT eu.out hB);have Fh:=AA (zZ.out.keep hB);replace e0:=Eh hB e0;clear hB CV Fp PK IY eu zZ SS atw qg HKq c0
      cases E
      ·rw [HKe.out.symm] at LD zf;clear e0 m1 m2 m3 m4 m5 m6;have hst:=LD.out rfl;have adX:=AA hst;obtain ⟨g',Gn,-,SS,G6,Hw⟩:=Own.zU Fh.out Zx;injection Gn with Gn;injection Gn with Gn _ _;subst Gn;have f0:=Hw (m+1) Zx;have hf0:=G6 (m+1);have c0:=Eh Cm.out aaW.out;have kH:b<W5.heap.size:=by have:=Cm.out.size;omega
       have hm1:(m:Int)+1<(Q.length:Int)+1:=by omega
       have RV:=AA (show Own (W5.setCell ⟨g,m+1,none⟩ (.slice xa xn xc)) w1.heap.size 24 1 Ia (.slice (some ⟨g,0,none⟩) (Q.length+1) c4) (MZ Q (m+1) (X,⟨xa,xn,xc⟩)) from by
        have:=Own.aeA Fh.out (i:=m+1) Zx (X,⟨xa,xn,xc⟩)
        rwa [ajv hm] at this)
       have LU:=AA (bS (p:=⟨g,m+1,none⟩) Cm.out hg0 (.slice xa xn xc));clear Hw G6 hst Fh;go_wp2;go_roundw
       case rel => exact ⟨k+1,MZ Q (m+1) (X,⟨xa,xn,xc⟩),AB,BJ,⟨_,_,by rw [iH hm]⟩,RV.out,Zx,by
         rw [eG.out];refine ((aaU Q (m+1) (X,⟨xa,xn,xc⟩)).map (·.1)).trans ?_;rw [FM];exact ((jl.out).cons X).trans (abU (l₁:=[X])),ajw hm aaV.out zf.out adX.out,(fun y hy=>by
          rcases EW.1 ((aaU Q (m+1) _).subset hy) with rfl | hy
          · exact ⟨zW.out,Qb.out⟩
          · exact RX.out y hy),LU.out⟩
       case measure => exact BL
      ·obtain ⟨g',Gn,-,SS,G6,Hw⟩:=Own.zU Fh.out Zx;injection Gn with Gn;injection Gn with Gn _ _;subst Gn;have f0:=Hw (m+1) Zx;have hf0:=G6 (m+1);have RH:=AA (kQ.out _ Fh.out);rw [HDn.out] at RH;have GU:=AA (bS (p:=⟨g,m+1,none⟩) Cm.out hg0 (.slice ya yn yc));have HGx:=aaX.out rfl;rw [<- HKe.out] at HGx;have HGz:=AA HGx;have m7:(m:Int)+1<(Q.length:Int)+1:=by omega
       clear Hw G6 HGx Fh;go_wp2;go_roundw
       case rel => exact ⟨m,_,AB,BJ,RH.out,HGz.out,GU.out⟩
       case measure => simp [intOf]
  ·have hkk:k=(Ce p).length:=by have:=JQ.out;omega
   have hpe:=jl.out;rw [hkk,ajj] at hpe;have HF:=AA (PY.out _ hpe aaV.out);have hz9:=HB1.out.size;have SX:=AA (show Ti wo w.heap.size (.slice A Q.length c) Q from ⟨HO.out.ES hz9,fun x hx=>((RX.out x hx).1).keep HB.out⟩);clear hpe hkk;go_wp2;go_ret;exact ⟨A,c,Q,rfl,bT HB1.out HB.out,SX.out,HF.out⟩
theorem gS {w0 w1:World} {g:Nat} (h:w0.grownBy w1 (some g)) (i:Nat) (u:Value):w0.grownBy (w1.setCell ⟨g,i,none⟩ u) (some g):=by
 refine gT h ⟨rfl,rfl,rfl,?_,fun j _ hne=>?_⟩
 · simp
 · exact Below.heap_setCell w1 ⟨g,i,none⟩ u j (fun e=>hne Rt)
