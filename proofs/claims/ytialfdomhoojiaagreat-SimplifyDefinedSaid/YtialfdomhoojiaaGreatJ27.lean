import Derived.Test.YtialfdomhoojiaaGreatJ26
set_option linter.unusedSimpArgs false
set_option linter.unusedVariables false
set_option maxRecDepth 100000
set_option maxHeartbeats 8000000
namespace Go.Proofs.YtialfdomhoojiaaGreat
open Go.RowKit
theorem aq9 (v:Value) (p:Pl) (w:World) (h:bQ w v p) (hv:Valid p) :
  Calls Tryz.prog 57 #[v] w (aa9 w (cO p) 0):=by
 have hck:nZ p=0:=(U9 p).2 hv;have mM:=avE (fun W (hW:Below w.heap.size w W)=>aeK v p W (h.mono hW));rw [hck] at mM;have pO:=avE (fun n W (hW:Below w.heap.size w W)=>an7 v p n W (h.mono hW) hv);obtain ⟨_,_,_,al,rfl,hpa,⟨An,cn,rfl,hn1,hn2,hR⟩,⟨⟨Aa,ca,rfl,-⟩,-⟩,⟨Af,cf,rfl,-⟩⟩:=h;unfold maxLen at hn2;have HR:=avE hR;have HV:=avE hv;have hnl:=hv.VO;generalize al.length=na at *;generalize p.faces.length=nf at *;obtain ⟨nn,hnn⟩:∃ nn,p.nodes.length=nn:=⟨_,rfl⟩;rw [hnn] at hn1 hnl mM pO ⊢;have VU:=avE hnn;obtain ⟨q,hq⟩:∃ q,cO p=q:=⟨_,rfl⟩;rw [hq];have HQ0:=avE hq;clear hpa hR hv hck hnn hq;go_enter Tryz.func57,Tryz.ntmps57;go_wp2_with fail;refine (mM.out _ (bA (bR w) _)).mono ?_;rintro e w1 ⟨rfl,hb1⟩;have X1:ah w1 w.heap.size 26 #[.slice An nn cn,.slice Aa na ca,.slice Af nf cf]:=(ah.made rfl _ _).keep hb1;have B1:=avE (bT (bA (bR w) _) hb1);clear hb1 mM;have hmm:=@run_makeMap Tryz.prog;go_upto_region 6 with fail;obtain ⟨gk,hgk⟩:∃ gk,w1.heap.size=gk:=⟨_,rfl⟩;obtain ⟨W5,hW⟩:∃ W:World,W=(w1.alloc (.map #[] 0)).alloc (.cells #[.map (some w1.heap.size)] 96):=⟨_,rfl⟩;have hA:Below w1.heap.size w1 W5:=by rw [hW];exact bA (bA (bR w1) _) _
 have dF:=avE (show ah W5 (w1.heap.size+1) 96 #[.map (some w1.heap.size)] by rw [hW];exact ah.made ars _ _);have Jw:=avE (show oz W5 w1.heap.size 0 (fun _=>0) by rw [hW];exact (oz.made w1).keep (bA (bR _) _));have gq:=avE (X1.keep hA);have B5:=avE (bT B1.out hA);have hz1:w.heap.size+1<=w1.heap.size:=X1.lt;rw [<- hW];clear hW hA X1 hmm;rw [hgk] at dF Jw hz1 ⊢;clear hgk;have X1:=gq.out;obtain ⟨aS,aT,aU,aW,-,-,-⟩:=X1.aF;have ah3:=avE (@aoe);have zG:gk+1<W5.heap.size:=dF.out.lt;go_upto_block 0 with fail;go_wp2_with fail;go_loopw [4,24] (fun s i wr=>∃ (k:Nat) (F:Int->Int) (cnt:Nat),k<=nn/\i=.int .i64 k/\(∃ A c,s=.slice A (nR p k).length c)/\Own wr (w.heap.size+1) 3 1 dw s (nR p k)/\cnt<=(nR p k).length/\oz wr gk cnt F/\Oq p F (nR p k)/\ah wr w.heap.size 26 #[.slice An nn cn,.slice Aa na ca,.slice Af nf cf]/\ah wr (gk+1) 96 #[.map (some gk)]/\Below w.heap.size w wr/\W5.heap.size<=wr.heap.size) (fun _ i _=>nn-(intOf i).toNat)
 case atStart => exact ⟨0,fun _=>0,0,avK _,rfl,⟨none,0,rfl⟩,Own.nil _ _ _ _ _,avK _,Jw.out,(fun e he=>by cases he),X1,dF.out,B5.out,awe _⟩
 case round =>
  obtain ⟨k,F,cnt,hk,rfl,⟨A,c,rfl⟩,own,hcnt,mp,fol,X1,X5,hb,hsz⟩:=hrel;obtain ⟨wo,rfl⟩:∃ wo:World,wo=wr:=⟨_,rfl⟩;have hlk:=agI HV.out k;have HO:=avE own;have HM:=avE mp;have Xz:=avE fol;have gq:=avE X1;have dF:=avE X5;have Hb:=avE hb;clear own mp fol hb aS aT aU aW;by_cases hlt:k<nn
  ·have hkn:k<p.nodes.length:=by have:=VU.out;omega
   obtain ⟨b,o,rfl,hlb,c0,c1,c2⟩:=(HR.out.mono Hb.out).nd hkn;have hnm:p.nodes[k]∈p.nodes:=avF hkn;have BO:=agH p k hkn;generalize p.nodes[k]=nd at *;have uT:=avE hnm;have wV:=avE BO;have Lp:=HV.out.aa7 nd.id;have Ls:=avE (pO.out nd.id);have oD:=avE (fun d (hd:d∈dJ p nd.id)=>HV.out.abd uT.out hd);clear hnm BO;obtain ⟨L,hL⟩:∃ L,nR p k=L:=⟨_,rfl⟩;obtain ⟨Q,hQ⟩:∃ Q,dJ p nd.id=Q:=⟨_,rfl⟩;rw [hL] at hlk hcnt wV HO Xz ⊢;rw [hQ] at wV Lp Ls oD;clear hL hQ
   try clear aS
   try clear aT
   try clear aU
   try clear aW
   obtain ⟨aS,aT,aU,aW,-,-,-⟩:=X1.aF;obtain ⟨bI,bJ,-⟩:=X5.iV;go_wp2_with fail;refine (Ls.out _ (bA Hb.out _)).mono ?_;rintro e w2 ⟨Aq,cq,rfl,hb2,hoq⟩;have HW2:=avE (show Below wo.heap.size wo w2 from bT (bA (bR wo) _) hb2);have BX:=avE (Own.fG hoq (b':=wo.heap.size) ars);have ah4:∀ g,(Value.slice A L.length c).ownBlock=some g->(Value.slice Aq Q.length cq).ownBlock≠some g:=fun g hg e=>by
    have h1:=(HO.out.lt g hg).2;have h2:=(BX.out.lt g e).1;omega
   have ara:=avE ah4;have hsz2:=HW2.out.size;clear hb2 hoq ah4 c0 c1 c2 hlb X1 X5 aS aT aU aW bI bJ Ls;go_upto_block 2 with fail;go_wp2_with fail;go_loopw [4,34] (fun s i wr=>∃ (j:Nat) (G:Int->Int) (cnt2:Nat),j<=Q.length/\i=.int .i64 j/\(∃ A c,s=.slice A (L.length+j) c)/\Own wr (w.heap.size+1) 3 1 dw s (L++Q.take j)/\cnt2<=L.length+j/\oz wr gk cnt2 G/\Oq p G (L++Q.take j)/\Own wr wo.heap.size 3 1 dw (.slice Aq Q.length cq) Q/\(∀ g,s.ownBlock=some g->(Value.slice Aq Q.length cq).ownBlock≠some g)/\ah wr w.heap.size 26 #[.slice (some ⟨b,o,none⟩) nn cn,.slice Aa na ca,.slice Af nf cf]/\ah wr (gk+1) 96 #[.map (some gk)]/\Below w.heap.size w wr/\wo.heap.size<=wr.heap.size) (fun _ i _=>Q.length-(intOf i).toNat)
   case atStart => exact ⟨0,F,cnt,avK _,rfl,⟨A,c,rfl⟩,by rw [List.take_zero,List.append_nil];exact HO.out.keep HW2.out,by omega,HM.out.keep HW2.out,by rw [List.take_zero,List.append_nil];exact Xz.out,BX.out,ara.out,gq.out.keep HW2.out,dF.out.keep HW2.out,bT Hb.out HW2.out,hsz2⟩
   case round =>
    obtain ⟨j,G,cnt2,hj,rfl,⟨A3,c3,rfl⟩,Ry,auX,mp3,ah5,oq3,ah6,X1,X5,hb3,hsz3⟩:=hrel;have gY:=avE Ry;have tY:=avE mp3;have HF3:=avE ah5;have SY:=avE oq3;have DK:=avE ah6;have arb:=avE X1;have GU:=avE X5;have HB3:=avE hb3;clear Ry mp3 ah5 oq3 ah6 hb3;by_cases hlj:j<Q.length
    ·obtain ⟨bq,Lu,rfl,LC,e0⟩:=(SY.out.row_in).int hlj;have hnx:=oD.out Q[j] (avF hlj);have hbd:=HV.out.tZ hnx.2;have htk:Q.take (j+1)=Q.take j++[Q[j]]:=avH hlj;generalize Q[j]=d at *;have k1:IntKind.i64.wrap (-d)=-d:=avS _ Pe;have jf:=avE htk;have Rk:=avE hnx.1;have XD:=avE (show eU (-d) from qX Pe Pe);have HLn:=avE (show (L++Q.take (j+1)).length=L.length+(j+1) by rw [avL,awk];omega);have n1:=Own.iO gY.out X1 arC;have n5:=Own.iO gY.out X5 arC;have nm:=Ro tY.out gY.out;clear htk hnx;go_upto_region 13 with fail;clear e0 LC;go_upto_region 14 with
      (at_builtin
       refine iZ _ rfl (.tmp 38) (.tmp 40) _ rfl (base:=w.heap.size+1) jR jB jT rfl (Own.alloc gY.out _) rfl (l2:=[d]) (Sl.lit (n:=1) (ah.made rfl _ _) rfl (dP Pe)) (by simp only [avL,awk,avO,avN];omega) (by simp only [avL,awk,avO,avN];omega) arV ?_;intro v1 w1 ho1 hg1 yx;rw [awm,<- jf.out] at ho1;obtain ⟨A1,c1,hv1,-⟩:=Own.lI ho1;rw [HLn.out] at hv1;subst hv1;have ku:=avE ho1;replace X1:=ah.grown (X1.alloc _) hg1 (fun e=>n1 e.symm);replace X5:=ah.grown (X5.alloc _) hg1 (fun e=>n5 e.symm);have mZ:=avE ((tY.out.keep (bA (bR wr) _)).kept hg1 (fun e=>nm e.symm));have uS:=avE (Own.grown (SY.out.alloc _) hg1 (fun g hg e=>DK.out g e.symm hg));have nM:=avE (show ∀ g,(Value.slice A1 (L.length+(j+1)) c1).ownBlock=some g->(Value.slice (some ⟨bq,Lu,none⟩) Q.length cq).ownBlock≠some g from fun g hg e=>by
        rcases yx with h | h
        · exact DK.out g (h.symm.trans hg) e
        ·have h1:=(SY.out.lt g e).2;rw [hg] at h;have:=avP h
         simp at this;omega)
       have HB1:=avE (bG (bA HB3.out _) hg1 (fun g hg=>by have:=(gY.out.lt g hg).1;omega));have hsz1:wr.heap.size<=w1.heap.size:=by have:=hg1.size;simp at this;omega
       clear ho1 hg1 yx
       )
     have ard:=avE X1;have arf:=avE X5;have m1:=abb mZ.out X1;have m5:=abb mZ.out X5
     try clear bI
     try clear bJ
     obtain ⟨bI,bJ,-⟩:=X5.iV;refine YS (w1) (some gk) (.run 5 0 0 (.call 5 63 (.call 6 127 (.done)))) fun bZ QR aB aH hS=>?_
     iterate 5 refine aC ?_
     refine fV (ah3.out _ Q d _ ((uS.out.keep (bD (bR w1))).sl) Pe) ?_;clear hS;intro cZ bW hS;refine bK ?_;clear hS;intro K hK ak;obtain ⟨w6,hr6,OV,lK⟩:=(mZ.out.keep (bT (bD (bR w1)) bW)).upd Pe (-d) XD.out (precD Q d);go_simp;have hS:Ae w1 (some gk) w6:=gT ak.out lK;have Eu:=avE OV;clear OV lK hr6;clear ak;refine hK.out _ _ hS (fun _=>?_);clear hK K
     try simp only [pu]
     refine YT ?_;clear hS aH aB;intro hB;go_wp2;go_roundw
     case rel => exact ⟨j+1,_,cnt2+1,by omega,by go_num,⟨A1,c1,rfl⟩,Own.grown ku.out hB (fun g hg e=>Ro mZ.out ku.out (by rw [hg];exact e)),by omega,Eu.out,by rw [jf.out,<- awm];exact HF3.out.snoc Rk.out,Own.grown uS.out hB (fun g hg e=>Ro mZ.out uS.out (by rw [hg];exact e)),nM.out,ah.grow ard.out hB (fun e=>m1 (avP e)),ah.grow arf.out hB (fun e=>m5 (avP e)),bG HB1.out hB (fun g hg=>by have:=avP hg;omega),avZ Pe hB.size⟩
     case measure => simp [intOf];omega
    ·have hjj:j=Q.length:=by omega
     subst hjj;have ho:=gY.out;have hf:=HF3.out;rw [List.take_length] at ho hf;have qy:=avE (show nR p (k+1)=L++Q from wV.out);have HLn:=avE (show (nR p (k+1)).length=L.length+Q.length by rw [qy.out,avL]);have kP:=avE ho;have XE:=avE hf;clear ho hf;go_wp2;go_roundw
     case rel => exact ⟨k+1,G,cnt2,by omega,by go_num,⟨A3,c3,by rw [HLn.out]⟩,by rw [qy.out];exact kP.out,by rw [HLn.out];omega,tY.out,by rw [qy.out];exact XE.out,arb.out,GU.out,HB3.out,by omega⟩
     case measure => simp [intOf];omega
  ·have hkk:k=nn:=by omega
   subst hkk;have hNN:=VU.out;subst hNN;have hperm:(nR p p.nodes.length).Perm (bf p):=by rw [VN];exact HV.out.Vh
   have hDl:=HV.out.agJ;have hLD:=hperm.length_eq;have hasc:=HV.out.aok;have lZ:=avE (fun d (hd:d∈bf p)=>HV.out.aol Xz.out hd);have Jy:=avE (fun x (hx:x∈bf p)=>(HV.out.uK hx).1);have BN:=avE (fun x (hx:x∈bf p) y (hy:y∈bf p)=>HV.out.Ej (d:=x) (e:=y) hx hy);have HDw:=avE (fun x (hx:x∈bf p)=>show eU x from qX (by have:=HV.out.tZ hx;omega) (by have:=HV.out.tZ hx;omega));have mM:=avE (fun k=>HV.out.agK k);have HS:=avE (aoj (w.heap.size+1) _ (nR p p.nodes.length) _ HO.out Pe);have Rh:=Own.iO HO.out dF.out arC;have Q9:=Ro HM.out HO.out;have hlo:=HO.out.lt;rw [hasc] at HS;rw [hLD] at HS hcnt Q9 Rh hlo ⊢;have uT:=avE Q9;have Lj:=avE Rh;have HLo:=avE hlo;have hq:=HQ0.out;unfold cO Va at hq;have Hq:=avE hq;clear HQ0 hperm hLD hasc hlk hq HO Xz pO ah3 HV Q9 Rh hlo X1 X5;generalize bf p=D at *;generalize iH p=f at *;go_wp2_with fail;refine HS.out.mono ?_;rintro e ws ⟨rfl,hos,hgs⟩;have VK:=avE (bG Hb.out hgs (fun g hg=>by have:=(HLo.out g hg).1;omega));have arh:=avE (ah.grown dF.out hgs (fun e=>Lj.out e.symm));have HMs:=avE (HM.out.kept hgs (fun e=>uT.out e.symm));have Gi:=avE hos;clear hos hgs HS;have hmm:=@run_makeMap Tryz.prog;go_upto_region 19 with fail;obtain ⟨gm,hgm⟩:∃ gm,ws.heap.size=gm:=⟨_,rfl⟩;obtain ⟨W6,hW⟩:∃ W:World,W=(ws.alloc (.map #[] 0)).alloc (.cells #[.map (some ws.heap.size)] 139):=⟨_,rfl⟩;have hA:Below ws.heap.size ws W6:=by rw [hW];exact bA (bA (bR ws) _) _
   have HXs:=avE (show ah W6 (ws.heap.size+1) 139 #[.map (some ws.heap.size)] by rw [hW];exact ah.made ars _ _);have HI6:=avE (show oC W6 ws.heap.size 0 (fun _=>false) by rw [hW];exact (oC.made ws).keep (bA (bR _) _));have ach:=avE (arh.out.keep hA);have Eu:=avE (HMs.out.keep hA);have qp:=avE (Gi.out.keep hA);have jq:=avE (bT VK.out hA);have hgl:=HMs.out.lt;rw [<- hW];clear hW hA hmm;rw [hgm] at HXs HI6 hgl ⊢;have hws:w.heap.size<=gm:=by rw [<- hgm];exact VK.out.size
   clear hgm;have ari:=avE (@anU f D Jy.out BN.out F lZ.out HDw.out Pe);have QZ:gm+1<W6.heap.size:=HXs.out.lt;go_upto_block 4 with fail;go_wp2_with fail;go_loopw [2,56] (fun s i wr=>∃ (k:Nat) (acc:List (List Int×SV)) (S:Int->Bool),k<=D.length/\i=.int .i64 k/\acc.length<=k/\(∃ A c,s=.slice A acc.length c)/\zJ wr w.heap.size s acc/\acc.map (·.1)=(D.take k).foldl (rG f D) []/\oC wr gm (acc.map (·.1)).flatten.length S/\(∀ x,S x=decide (x∈(acc.map (·.1)).flatten))/\Own wr (w.heap.size+1) 3 1 dw (.slice A D.length c) D/\ah wr (gm+1) 139 #[.map (some gm)]/\ah wr (gk+1) 96 #[.map (some gk)]/\oz wr gk cnt F/\Below w.heap.size w wr/\gm+1<wr.heap.size) (fun _ i _=>D.length-(intOf i).toNat)
   case atStart => exact ⟨0,[],fun _=>false,avK _,rfl,avK _,⟨none,0,rfl⟩,⟨Own.nil _ _ _ _ _,fun x hx=>by cases hx⟩,rfl,HI6.out,fun x=>by simp,qp.out,HXs.out,ach.out,Eu.out,jq.out,QZ⟩
   case round =>
    obtain ⟨k,acc,S,hk,rfl,hak,⟨A2,c2,rfl⟩,S9,hacc,mi,hS,od,xs,x5,mk,hb,hsz⟩:=hrel;have yK:=avE S9;have MI:=avE hacc;have ES:=avE mi;have XF:=avE hS;have MJ:=avE od;have HX:=avE xs;have dF:=avE x5;have JM:=avE mk;have HB:=avE hb;have lF:=xs;clear S9 hacc mi hS od xs x5 mk hb;by_cases hlt:k<D.length
    ·obtain ⟨bq,Lu,hA,LC,e0⟩:=(MJ.out.row_in).int hlt;subst hA;have hx:D[k]∈D:=avF hlt;have hsucc:=agL f D k hlt;rw [<- MI.out] at hsucc;have sD:=mM.out k;rw [<- MI.out] at sD;generalize D[k]=x at *;have hlk:=ES.out.look x (HDw.out x hx);rw [XF.out x] at hlk;have yB:=avE hsucc;have JU:=avE sD;have OW:=avE hx;clear hsucc sD hx;obtain ⟨qJ,qK,-⟩:=lF.iV;by_cases hm:x∈(acc.map (·.1)).flatten
     ·rw [avW hm] at hlk;have hst:=avE (show rG f D (acc.map (·.1)) x=acc.map (·.1) by unfold rG;rw [if_pos hm]);clear hm;go_wp2;go_roundw
      case rel => exact ⟨k+1,acc,S,by omega,by go_num,by omega,⟨A2,c2,rfl⟩,yK.out,by rw [yB.out,hst.out],ES.out,XF.out,MJ.out,HX.out,dF.out,JM.out,HB.out,hsz⟩
      case measure => simp [intOf];omega
     ·rw [avV hm] at hlk;have hst:=avE (show rG f D (acc.map (·.1)) x=acc.map (·.1)++[lG f D x] by unfold rG;rw [if_neg hm]);have hfn:(acc.map (·.1)).flatten.length<=D.length:=Dk JU.out.nodup (fun y hy=>by
       obtain ⟨l,hl,hy⟩:=List.mem_flatten.1 hy;obtain ⟨d,h1,h2,-⟩:=JU.out.NV l hl;subst h2;exact Qq Jy.out (List.mem_of_mem_take h1) hy)
      have HF2:=avE (ari.out S x OW.out (fun y hy=>by rw [XF.out y];exact avV (JU.out.apart Jy.out OW.out hm hy)) (gm+1) (gk+1) gm gk (acc.map (·.1)).flatten.length cnt wr Pe HX.out dF.out ES.out JM.out Pe);have hol:(lG f D x).length<=D.length+1:=by
       have h:=Dl Jy.out BN.out OW.out;rw [h.2.2.2.2.2];exact h.2.1
      clear hm;generalize lG f D x=o at *;go_wp2_with fail;refine HF2.out.mono ?_;rintro e w4 ⟨A4,c4,rfl,jI,hm4,hg4⟩;have hrs:=hg4.size;have ncy:=Oi ES.out yK.out.1;have xJ:=avE (Own.grown yK.out.1 hg4 (fun g hg e=>ncy (hg.trans e)));have HCe:=avE (show ∀ y∈acc,Own w4 w.heap.size 3 1 dw (.slice y.2.a y.2.n y.2.c) y.1 from fun y hy=>Own.grown (yK.out.2 y hy) hg4 (fun g hg e=>Oi ES.out (yK.out.2 y hy) (hg.trans e)));have kP:=avE (Own.fG jI (b':=w.heap.size) (HB.out.size));have KC:=avE hm4;have HD4:=avE (Own.grown MJ.out hg4 (fun g hg e=>Oi ES.out MJ.out (hg.trans e)));have dI:=avE (ah.grow HX.out hg4 (fun e=>Q5 ES.out HX.out (avP e)));have Xv:=avE (ah.grow dF.out hg4 (fun e=>Q5 ES.out dF.out (avP e)));have HK4:=avE (JM.out.kept hg4 (fun e=>by have:=avP e;omega));have HB4:=avE (bG HB.out hg4 (fun g hg=>by have:=avP hg;omega));clear jI hm4 hg4 ncy HF2 lF qJ qK e0 LC;go_upto_region 25 with
       (at_builtin
        refine iZ _ rfl (.tmp 64) (.tmp 68) _ rfl (base:=w.heap.size) Gm Ew Gl rfl (Own.alloc xJ.out _) rfl (l2:=[((o,⟨A4,o.length,c4⟩):List Int×SV)]) (Sl.lit (n:=1) (ah.made rfl _ _) rfl (dP Pe)) afr afr (by have:=HB4.out.size;simp;omega) ?_;intro v5 w5 dG hg5 iG;obtain ⟨A5,c5,hv5,-⟩:=Own.lI dG;rw [show (acc++[((o,⟨A4,o.length,c4⟩):List Int×SV)]).length=acc.length+1 by simp] at hv5;subst hv5;have XG:∀ {l:List Int} {A':Option Addr} {n' c':Nat} {b':Nat},Own w4 b' 3 1 dw (.slice A' n' c') l->∀ g,(Value.slice A' n' c').ownBlock=some g->some g≠(Value.slice A2 acc.length c2).ownBlock:=fun h g hg=>Own.apart h xJ.out arC g hg;have OX:=avE (show zJ w5 w.heap.size (.slice A5 (acc.length+1) c5) (acc++[((o,⟨A4,o.length,c4⟩):List Int×SV)]) from ⟨dG,fun y hy=>by
         rcases av1.1 hy with hy | hy
         · exact Own.grown (Own.alloc (HCe.out y hy) _) hg5 (XG (HCe.out y hy))
         ·rw [avY] at hy;subst hy;exact Own.grown (Own.alloc kP.out _) hg5 (XG kP.out)⟩)
        have HD5:=avE (Own.grown (Own.alloc HD4.out _) hg5 (XG HD4.out));have arj:=avE (ah.grown (dI.out.alloc _) hg5 (fun e=>Own.iO xJ.out dI.out arC e.symm));have ark:=avE (ah.grown (Xv.out.alloc _) hg5 (fun e=>Own.iO xJ.out Xv.out arC e.symm));have HK5:=avE ((HK4.out.keep (bA (bR w4) _)).kept hg5 (fun e=>Ro HK4.out xJ.out e.symm));have arl:=avE ((KC.out.keep (bA (bR w4) _)).kept hg5 (fun e=>Oi KC.out xJ.out e.symm));have bC:=avE (bG (bA HB4.out _) hg5 (fun g hg=>(xJ.out.lt g hg).1));have hs5:=hg5.size;simp only [World.size_alloc] at hs5;clear dG hg5 iG XG
        )
      go_wp2;go_roundw
      case rel => exact ⟨k+1,acc++[((o,⟨A4,o.length,c4⟩):List Int×SV)],zH S o,by omega,by go_num,by rw [avL,List.length_singleton];omega,⟨A5,c5,by rw [avL,List.length_singleton]⟩,OX.out,by rw [yB.out,hst.out,List.map_append];rfl,by rw [List.map_append,List.flatten_append,avL];have h:=arl.out;simpa using h,(fun y=>by unfold zH;rw [XF.out y,List.map_append,List.flatten_append,Bool.eq_iff_iff];simp),HD5.out,arj.out,ark.out,HK5.out,bC.out,by omega⟩
      case measure => simp [intOf];omega
    ·have hkk:k=D.length:=by omega
     subst hkk;have hfin:=MI.out;rw [List.take_length,Hq.out] at hfin;have hfl:acc.length=q.length:=by rw [<- hfin,avM]
     have aci:=avE hfin;have hc:=yK.out;rw [hfl] at hc ⊢;have HC:=avE hc;clear hfin hc hfl;go_wp2_with fail;go_ret2;exact ⟨A2,c2,acc,rfl,HB.out,aci.out,HC.out⟩
theorem Ints.slice {w:World} {a:Option Addr} {n c:Nat} {l:List Int} (h:Ints w (.slice a n c) l):n=l.length/\l.length<=c/\c<=maxLen/\Row w a (l.flatMap dw):=by
 obtain ⟨A,c',he,h1,h2,h3⟩:=h;injection he with e1 e2 e3;subst e1 e2 e3;exact ⟨rfl,h1,h2,h3⟩
theorem arn (l:List Int) (x:Int):(l.any fun y=>y == x)=decide (x∈l):=by
 rw [Bool.eq_iff_iff,awg,decide_eq_true_iff];constructor
 ·rintro ⟨y,hy,e⟩;rw [beq_iff_eq] at e;exact e ▸ hy
 ·intro h;exact ⟨x,h,by simp⟩
theorem ah7 (v:Value) (p:Pl) (w:World) (h:bQ w v p) (hv:Valid p) :
  Calls Tryz.prog 131 #[v] w (aa9 w (cO p) 0):=by
 have hck:nZ p=0:=(U9 p).2 hv;have mM:=avE (fun W (hW:Below w.heap.size w W)=>adW v p W (h.mono hW));rw [hck] at mM;have OY:=avE (fun W (hW:Below w.heap.size w W)=>aoN v p W (h.mono hW) hv);have HDt:=avE (fun W (hW:Below w.heap.size w W)=>aov v p W (h.mono hW) hv);have Tc:=avE (@aou);obtain ⟨vn,va,vf,al,rfl,-⟩:=h;have hD:∀ x∈bf p,iH p x∈bf p:=fun x hx=>(hv.uK hx).1;have hi:∀ x∈bf p,∀ y∈bf p,iH p x=iH p y->x=y:=fun x hx y hy=>hv.Ej hx hy;have hdl:=hv.agJ;have hpl:=hv.aot;have yK:=avE (@aq8 (iH p) (bf p) hD hi (qx p p.nodes.length) (fun x hx=>(hv.aor hx).2) (fun d hd=>hv.aos hd) hpl Pe);have Jy:=avE hD;have BN:=avE hi;have aro:=avE (fun k=>hv.agK k);obtain ⟨q,hq⟩:∃ q,cO p=q:=⟨_,rfl⟩;rw [hq];unfold cO Va at hq;have Hq:=avE hq;have qM:=avE hpl;clear hv hck hD hi hq hpl;generalize bf p=D at *;generalize iH p=f at *;generalize qx p p.nodes.length=P at *;go_enter Tryz.func131,Tryz.ntmps131;go_wp2_with fail;refine (mM.out _ (bA (bR w) _)).mono ?_;rintro e w1 ⟨rfl,hb1⟩;have X1:ah w1 w.heap.size 26 #[vn,va,vf]:=(ah.made rfl _ _).keep hb1;have gq:=avE X1;have B1:=avE (bT (bA (bR w) _) hb1);clear hb1 mM;obtain ⟨aS,aT,aU,aW,-,-,-⟩:=X1.aF;go_wp2_with fail;refine (OY.out _ B1.out).mono ?_;rintro e w2 ⟨Af,cf,Ag,cg,rfl,hb2,hof,hog⟩;have B2:=avE (bT B1.out hb2);have yI:=avE (Own.sl hof);have HOg:=avE (Own.sl hog);have dh:=avE (gq.out.keep hb2);clear hb2 hof hog X1 aS aT aU aW OY gq;have X1:=dh.out
 try clear aS
 try clear aT
 try clear aU
 try clear aW
 obtain ⟨aS,aT,aU,aW,-,-,-⟩:=X1.aF;go_wp2_with fail;refine (HDt.out _ B2.out).mono ?_;rintro e w3 ⟨Ad,cd,rfl,hb3,hod⟩;have B3:=avE (bT B2.out hb3);have MJ:=avE (Own.sl hod);have OH:=avE (show Ints w3 (.slice Af P.length cf) (P.map (·.1)) from (yI.out).mono hb3);have Xr:=avE (show Ints w3 (.slice Ag P.length cg) (P.map (·.2)) from (HOg.out).mono hb3);have HDs:=avE (show Ints w3 (.slice Ad D.length cd) D from MJ.out);clear hb3 hod X1 aS aT aU aW HDt yI HOg MJ dh;have hrd:=(HDs.out.slice).2.2.2;have hrm:=(HDs.out.slice).2.2.1;unfold maxLen at hrm;have HRd:=avE hrd;clear hrd;go_upto_block 0 with fail;go_wp2_with fail;go_loopw [5,6,10] (fun s t i wr=>∃ (k:Nat) (acc:List (List Int×SV)),k<=D.length/\i=.int .i64 k/\acc.length<=k/\(∃ A c,s=.slice A acc.length c)/\(∃ A c,t=.slice A (acc.map (·.1)).flatten.length c)/\zJ wr w3.heap.size s acc/\Own wr w3.heap.size 3 1 dw t (acc.map (·.1)).flatten/\acc.map (·.1)=(D.take k).foldl (rG f D) []/\(∀ x∈acc,jw (.slice x.2.a x.2.n x.2.c) t)/\Below w3.heap.size w3 wr) (fun _ _ i _=>D.length-(intOf i).toNat)
 case atStart => exact ⟨0,[],avK _,rfl,avK _,⟨none,0,rfl⟩,⟨none,0,rfl⟩,⟨Own.nil _ _ _ _ _,fun x hx=>by cases hx⟩,Own.nil _ _ _ _ _,rfl,(fun x hx=>by cases hx),bR w3⟩
 case round =>
  obtain ⟨k,acc,hk,rfl,hak,⟨A2,c2,rfl⟩,⟨A3,c3,rfl⟩,S9,own,hacc,sep,hb⟩:=hrel;have acj:=avE S9;have HO:=avE own;have MI:=avE hacc;have uU:=avE sep;have HB:=avE hb;have hzr:=hb.size;clear S9 own hacc sep hb;by_cases hlt:k<D.length
  ·obtain ⟨bq,Lu,rfl,LC,e0⟩:=(HRd.out.mono HB.out).int hlt;have hx:D[k]∈D:=avF hlt;have hsucc:=agL f D k hlt;rw [<- MI.out] at hsucc;have sD:=aro.out k;rw [<- MI.out] at sD;generalize D[k]=x at *;have hfn:(acc.map (·.1)).flatten.length<=D.length:=Dk sD.nodup (fun y hy=>by
    obtain ⟨l,hl,hy⟩:=List.mem_flatten.1 hy;obtain ⟨d,h1,h2,-⟩:=sD.NV l hl;subst h2;exact Qq Jy.out (List.mem_of_mem_take h1) hy)
   have yB:=avE hsucc;have OW:=avE hx;clear hsucc sD hx;obtain ⟨T,hT0⟩:∃ T,(acc.map (·.1)).flatten=T:=⟨_,rfl⟩;have HTT:=avE hT0;rw [hT0] at HO hfn uU ⊢;have hT:=Tc.out (.slice A3 T.length c3) T x wr (Own.sl HO.out);rw [arn] at hT;by_cases hm:x∈T
   ·rw [avW hm] at hT;have hst:=avE (show rG f D (acc.map (·.1)) x=acc.map (·.1) by unfold rG;rw [hT0,if_pos hm]);have HT:=avE hT;clear hm hT hT0;go_wp2_with fail;refine HT.out.mono ?_;rintro e w4 ⟨rfl,hb4⟩;have HB4:=avE hb4;clear hb4 e0 LC;go_wp2;go_roundw
    case rel => exact ⟨k+1,acc,by omega,by go_num,by omega,⟨A2,c2,rfl⟩,⟨A3,c3,by rw [HTT.out]⟩,acj.out.keep HB4.out,by rw [HTT.out];exact HO.out.keep HB4.out,by rw [yB.out,hst.out],uU.out,bT HB.out HB4.out⟩
    case measure => simp [intOf];omega
   ·rw [avV hm] at hT;have hst:=avE (show rG f D (acc.map (·.1)) x=acc.map (·.1)++[lG f D x] by unfold rG;rw [hT0,if_neg hm]);have HT:=avE hT;have hol:(lG f D x).length<=D.length+1:=by
     have h:=Dl Jy.out BN.out OW.out;rw [h.2.2.2.2.2];exact h.2.1
    have HC:=avE (fun W (hW:Below w3.heap.size w3 W)=>yK.out (.slice Af P.length cf) (.slice Ag P.length cg) x OW.out W (OH.out.mono hW) (Xr.out.mono hW));clear hm hT hT0;generalize lG f D x=o at *;go_wp2_with fail;refine HT.out.mono ?_;rintro e w4 ⟨rfl,hb4⟩;have HB4:=avE (bT HB.out hb4);have arp:=avE (acj.out.keep hb4);have kP:=avE (HO.out.keep hb4);replace e0:=kF hb4 e0;have arq:bq<w4.heap.size:=by have:=hb4.size;omega
    have MB:=hb4.size;clear hb4 LC HT;go_wp2_with fail;refine (HC.out _ HB4.out).mono ?_;rintro e w5 ⟨A5,c5,rfl,hb5,dG⟩;have bC:=avE (bT HB4.out hb5);have OX:=avE (arp.out.keep hb5);have jd:=avE (kP.out.keep hb5);have Sv:=avE (Own.fG dG (b':=w3.heap.size) Pe);have wW:=avE (show jw (.slice A5 o.length c5) (.slice A3 T.length c3) from fun g hg e=>by
     have h1:=(dG.lt g hg).1;have h2:=(kP.out.lt g e).2;omega)
    have zG:=hb5.size;clear hb5 dG HC e0 arq;have HFt:=avE (show ((acc++[((o,⟨A5,o.length,c5⟩):List Int×SV)]).map (·.1)).flatten=T++o by rw [List.map_append,List.flatten_append,HTT.out];simp);clear kP;go_upto_region 14 with
     (at_builtin
      refine iZ _ rfl (.tmp 43) (.tmp 44) _ rfl (base:=w3.heap.size) jR jB jT rfl jd.out rfl (l2:=o) (Own.sl Sv.out) Pe Pe Pe ?_;intro v6 w6 wO lK Rz;obtain ⟨A6,c6,hv6,-⟩:=Own.lI wO;rw [avL] at hv6;subst hv6;have qp:=avE wO;have LD:∀ g,(Value.slice A6 (T.length+o.length) c6).ownBlock=some g->(Value.slice A3 T.length c3).ownBlock=some g\/g=w5.heap.size:=fun g hg=>by
       rcases Rz with h | h
       · exact .inl (h.symm.trans hg)
       · rw [hg] at h;exact .inr (avP h)
      have acn:=avE (Own.grown OX.out.1 lK (fun g hg e=>Own.apart OX.out.1 jd.out arC g hg e));have ah8:=avE (show ∀ y∈acc,Own w6 w3.heap.size 3 1 dw (.slice y.2.a y.2.n y.2.c) y.1 from fun y hy=>Own.grown (OX.out.2 y hy) lK (fun g hg e=>uU.out y hy g hg e.symm));have HL6:=avE (Own.grown Sv.out lK (fun g hg e=>wW.out g hg e.symm));have HS6:=avE (show ∀ y∈acc,jw (.slice y.2.a y.2.n y.2.c) (.slice A6 (T.length+o.length) c6) from fun y hy g hg e=>by
       rcases LD g e with h | h
       · exact uU.out y hy g hg h
       · have:=((OX.out.2 y hy).lt g hg).2;omega)
      have aru:=avE (show jw (.slice A5 o.length c5) (.slice A6 (T.length+o.length) c6) from fun g hg e=>by
       rcases LD g e with h | h
       · exact wW.out g hg h
       · have:=(Sv.out.lt g hg).2;omega)
      have jq:=avE (bG bC.out lK (fun g hg=>(jd.out.lt g hg).1));have QZ:=lK.size;clear wO lK Rz LD
      )
    go_upto_region 10 with
     (at_builtin
      refine iZ _ rfl (.tmp 46) (.tmp 48) _ rfl (base:=w3.heap.size) Gm Ew Gl rfl (Own.alloc acn.out _) rfl (l2:=[((o,⟨A5,o.length,c5⟩):List Int×SV)]) (Sl.lit (n:=1) (ah.made rfl _ _) rfl (dP Pe)) afr afr (by have:=jq.out.size;simp;omega) ?_;intro v7 w7 BZ kD aco;obtain ⟨A7,c7,hv7,-⟩:=Own.lI BZ;rw [show (acc++[((o,⟨A5,o.length,c5⟩):List Int×SV)]).length=acc.length+1 by simp] at hv7;subst hv7;have AB:∀ {l:List Int} {A':Option Addr} {n' c':Nat} {b':Nat},Own w6 b' 3 1 dw (.slice A' n' c') l->∀ g,(Value.slice A' n' c').ownBlock=some g->some g≠(Value.slice A2 acc.length c2).ownBlock:=fun h g hg=>Own.apart h acn.out arC g hg;have arv:=avE (show zJ w7 w3.heap.size (.slice A7 (acc.length+1) c7) (acc++[((o,⟨A5,o.length,c5⟩):List Int×SV)]) from ⟨BZ,fun y hy=>by
       rcases av1.1 hy with hy | hy
       · exact Own.grown (Own.alloc (ah8.out y hy) _) kD (AB (ah8.out y hy))
       ·rw [avY] at hy;subst hy;exact Own.grown (Own.alloc HL6.out _) kD (AB HL6.out)⟩)
      have Dy:=avE (Own.grown (Own.alloc qp.out _) kD (AB qp.out));have gW:=avE (bG (bA jq.out _) kD (fun g hg=>(acn.out.lt g hg).1));clear BZ kD aco AB
      )
    go_wp2;go_roundw
    case rel => exact ⟨k+1,acc++[((o,⟨A5,o.length,c5⟩):List Int×SV)],by omega,by go_num,by rw [avL,List.length_singleton];omega,⟨A7,c7,by rw [avL,List.length_singleton]⟩,⟨A6,c6,by rw [HFt.out,avL]⟩,arv.out,by rw [HFt.out];exact Dy.out,by rw [yB.out,hst.out,List.map_append];rfl,(fun y hy=>by
     rcases av1.1 hy with hy | hy
     · exact HS6.out y hy
     · rw [avY] at hy;subst hy;exact aru.out),gW.out⟩
    case measure => simp [intOf];omega
  ·obtain rfl:k=D.length:=by omega
   have hfin:=MI.out;rw [List.take_length,Hq.out] at hfin;have hfl:acc.length=q.length:=by rw [<- hfin,avM]
   have aci:=avE hfin;have hc:=acj.out;rw [hfl] at hc ⊢;generalize (acc.map (·.1)).flatten=T at *;have HC:=avE hc;have hz3:=B3.out.size;clear hfin hc hfl;go_wp2_with fail;go_ret2;exact ⟨A2,c2,acc,rfl,bT B3.out HB.out,aci.out,⟨HC.out.1.fG hz3,fun y hy=>(HC.out.2 y hy).fG hz3⟩⟩
theorem Own.Td {e:TypeId} {w:World} {B:Nat} {A:Option Addr} {n c:Nat} {L:List (List Int×SV)} (h:Own w B e 1 lJ (.slice A n c) L) (hl:0<L.length):∃ g,A=some ⟨g,0,none⟩/\B<=g/\g<w.heap.size/\(∀ j,w.frozen? ⟨g,j,none⟩=false) /\
  ∀ k (hk:k<L.length),w.cell? ⟨g,k,none⟩=some (.slice L[k].2.a L[k].2.n L[k].2.c):=by
 have hr:=h.row_of;rcases h.2 with ⟨_,h0⟩ | ⟨g,cap,cur,hv,hg,hh,-⟩
 · omega
 ·injection hv with e1 e2 e3;subst e1;refine ⟨g,rfl,hg,ah.lt hh,fun j=>ah.frozen hh j,fun k hk=>?_⟩;obtain ⟨b,o,jK,-,c0⟩:=hr.cy hk;injection jK with jK;injection jK with y1 y2 _;subst y1 y2;simpa only [Nat.zero_add] using c0
theorem Own.acp {w:World} {base g n c i:Nat} {e:TypeId} {l:List (List Int×SV)} (h:Own w base e 1 lJ (.slice (some ⟨g,0,none⟩) n c) l) (hi:i<l.length) (y:List Int×SV):Own (w.setCell ⟨g,i,none⟩ (.slice y.2.a y.2.n y.2.c)) base e 1 lJ (.slice (some ⟨g,0,none⟩) n c) (l.set i y):=by
 have:=Own.Nv Ew h hi (j:=0) Pe y (.slice y.2.a y.2.n y.2.c) rfl
 simpa using this
def oW (Q:List (List Int×SV)) (k:Nat) (z:List Int×SV):List (List Int×SV):=Q.take k++z::Q.drop k
theorem vF {Q:List (List Int×SV)} {k:Nat} (hk:k<=Q.length) (z:List Int×SV):(oW Q k z).length=Q.length+1:=by
 unfold oW;simp only [avL,avO,awk,awl];omega
theorem arw (Q:List (List Int×SV)) (z:List Int×SV):Q++[z]=oW Q Q.length z:=by unfold oW;rw [List.take_length,List.drop_length]
theorem arx {Q:List (List Int×SV)} {k j:Nat} (hj:j<k) (hk:k<=Q.length) (z:List Int×SV):(oW Q k z)[j]'(by rw [vF hk];omega)=Q[j]:=by
 unfold oW;rw [List.getElem_append_left avx,List.getElem_take]
theorem arz {Q:List (List Int×SV)} {k:Nat} (hk:k<Q.length) (z:List Int×SV):(oW Q (k+1) z).set (k+1) Q[k]=oW Q k Q[k]:=by
 unfold oW;have hl:(Q.take (k+1)).length=k+1:=by rw [awk];omega
 rw [List.set_append_right (k+1) _ Pe,hl,Nat.sub_self,List.set_cons_zero,avH hk,awm];congr 1;rw [List.drop_eq_getElem_cons hk];rfl
theorem ah9 {Q:List (List Int×SV)} {k:Nat} (hk:k<=Q.length) (z y:List Int×SV):(oW Q k z).set k y=oW Q k y:=by
 unfold oW;have hl:(Q.take k).length=k:=by rw [awk];omega
 rw [List.set_append_right k _ Pe,hl,Nat.sub_self,List.set_cons_zero]
theorem XH (Q:List (List Int×SV)) (k:Nat) (z:List Int×SV):(oW Q k z).Perm (z::Q):=by
 unfold oW;refine List.perm_middle.trans ?_;rw [List.take_append_drop]
theorem aia {Q:List (List Int×SV)} {k:Nat} (hk:k<=Q.length) {x:List Int×SV} (hs:(Q.map (·.1)).Pairwise (fun a b=>xC b a=false))
  (h1:∀ j (hj:j<Q.length),k<=j->jy (gQ x.1) (gQ Q[j].1)=true) (h2:k=0\/∃ hj:k-1<Q.length,jy (gQ x.1) (gQ Q[k-1].1)=false) :
  ((oW Q k x).map (·.1)).Pairwise (fun a b=>xC b a=false):=by
 have hs':=List.pairwise_map.1 hs;rw [avJ] at hs';refine List.pairwise_map.2 ?_;unfold oW;rw [List.pairwise_append,List.pairwise_cons];have hsl:Q.Pairwise (fun a b=>xC b.1 a.1=false):=List.pairwise_map.1 hs;refine ⟨hsl.sublist (List.take_sublist _ _),⟨fun y hy=>?_,hsl.sublist (List.drop_sublist _ _)⟩,fun a ha b hb=>?_⟩
 ·obtain ⟨j,hj,rfl⟩:=avI.1 hy;rw [awl] at hj;rw [List.getElem_drop];exact ahI (h1 (k+j) Pe Pe)
 ·obtain ⟨i,hi,rfl⟩:=avI.1 ha;rw [awk] at hi;rw [List.getElem_take];rcases av2.1 hb with rfl | hb
  ·rcases h2 with h2 | ⟨hj,h2⟩
   · omega
   ·show jy (gQ b.1) (gQ Q[i].1)=false
    by_cases e:i=k-1
    · subst e;exact h2
    ·have h3:jy (gQ Q[k-1].1) (gQ Q[i].1)=false:=hs' i (k-1) Pe hj Pe;rw [<- Bool.not_eq_true];intro hc;by_cases h4:jy (gQ Q[i].1) (gQ Q[k-1].1)=true
     · rw [ahH hc h4] at h2;cases h2
     ·have:=ahG (by simpa using h4) h3
      rw [this,h2] at hc
      cases hc
  ·obtain ⟨j,hj,rfl⟩:=avI.1 hb;rw [awl] at hj;rw [List.getElem_drop];exact hs' i (k+j) Pe Pe Pe
def arA (w:World) (p:Pl) (e:Ending) (w':World):Prop :=
 ∃ A c L,e=.returned (.slice A L.length c)/\Below w.heap.size w w'/\zJ w' w.heap.size (.slice A L.length c) L/\L.map (·.1)=sortK (iE p)
theorem arB (v:Value) (p:Pl) (w:World) (h:bQ w v p) (hv:Valid p):Calls Tryz.prog 72 #[v] w (arA w p):=by
 have mM:=avE (fun W (hW:Below w.heap.size w W)=>ah7 v p W (h.mono hW) hv);have xk:=avE (fun u l (hl:l∈cO p) W (hu:Ints W u l) (hW:Below w.heap.size w W)=>show Calls Tryz.prog 132 #[v,u] W fun e w'=>e=.returned (.int .i64 (iD p l))/\Below W.heap.size W w' from by
  have t:=aan v u p l W (h.mono hW) hu hv (fun d hd=>by have:=hv.tZ ((hv.lV hl).2 d hd);exact qX Pe Pe);rw [hv.Xb hl] at t;exact t)
 have HKy:=avE (fun u l (hl:l∈cO p) W (hu:Ints W u l)=>aqI u l W hu (List.length_pos_iff.2 (hv.GH hl)) (fun d hd=>hv.tZ ((hv.lV hl).2 d hd)));have Xf:=avE (fun l (hl:l∈cO p)=>hv.tZ ((hv.lV hl).2 _ (abX (hv.GH hl))));have HSo:=avE (fun l hl hs=>hv.aqu (l:=l) hl hs);have hcn:=hv.GI;obtain ⟨_,_,_,al,rfl,hpa,⟨An,cn,rfl,-⟩,⟨⟨Aa,ca,rfl,-⟩,-⟩,⟨Af,cf,rfl,-⟩⟩:=h;clear hpa hv;generalize p.nodes.length=nn at *;generalize al.length=na at *;generalize p.faces.length=nf at *;go_enter Tryz.func72,Tryz.ntmps72;go_wp2_with fail;refine (mM.out _ (bA (bR w) _)).mono ?_;rintro e w1 ⟨Ac,cc,CL,rfl,hb1,hcl,hco⟩;have hcr:=hco.read;have hle:(cO p).length=CL.length:=by rw [<- hcl,avM]
 have LZ:=avE (show ∀ x∈CL,Own w1 w.heap.size 3 1 dw (.slice x.2.a x.2.n x.2.c) x.1 from fun x hx=>(hco.2 x hx).fG ars);rw [hle] at hcr hcn ⊢;obtain ⟨⟨Ac',cc',he',hc1,hc2,uf⟩,hI⟩:=hcr;injection he' with y1 y2 y3;subst y1 y3;clear y2;unfold maxLen at hc2;have X1:ah w1 w.heap.size 26 #[.slice An nn cn,.slice Aa na ca,.slice Af nf cf]:=(ah.made rfl _ _).keep hb1;have HB1:=avE (bT (bA (bR w) _) hb1);have gq:=avE X1;have zK:=avE uf;have HI:=avE hI;have nU:=avE hcl;have iM:=avE hle;clear hb1 mM hcl hco hle X1 uf hI;go_upto_block 0 with fail;go_wp2_with fail;go_loopw [5,6] (fun s i wr=>∃ (k:Nat) (Q:List (List Int×SV)),k<=CL.length/\i=.int .i64 k/\(∃ A c,s=.slice A Q.length c)/\Own wr w1.heap.size 24 1 lJ s Q/\Q.length<=k/\(Q.map (·.1)).Perm (MC p k)/\(Q.map (·.1)).Pairwise (fun a b=>xC b a=false)/\(∀ x∈Q,Own w1 w.heap.size 3 1 dw (.slice x.2.a x.2.n x.2.c) x.1/\x.1∈cO p)/\Below w1.heap.size w1 wr) (fun _ i _=>CL.length-(intOf i).toNat)
 case atStart => exact ⟨0,[],avK _,rfl,⟨none,0,rfl⟩,Own.nil _ _ _ _ _,awe _,List.Perm.refl _,List.Pairwise.nil,(fun x hx=>by cases hx),bR w1⟩
 case round =>
  obtain ⟨k,Q,hk,rfl,⟨A,c,rfl⟩,ho,Lp,hpe,hso,SS,hb⟩:=hrel;obtain ⟨wo,rfl⟩:∃ wo:World,wo=wr:=⟨_,rfl⟩;have HO:=avE ho;have XI:=avE hpe;have XJ:=avE hso;have GN:=avE SS;have HB:=avE hb;clear ho hpe hso SS hb;by_cases hlt:k<CL.length
  ·have hlc:k<(cO p).length:=by have:=iM.out;omega
   obtain ⟨b,o,rfl,hlb0,c00⟩:=(zK.out).cy hlt;have hlb:b<wo.heap.size:=by have:=HB.out.size;omega
   have c0:=kF HB.out c00;have hin:=HI.out CL[k] (avF hlt);have DT:=LZ.out CL[k] (avF hlt);have hmem:(cO p)[k]∈cO p:=avF hlc;have hos:=ahX hlc;rw [OU nU.out hlt hlc] at hmem hos;generalize CL[k]=x at *;obtain ⟨X,xa,xn,xc⟩:=x;simp only at hin DT c0 c00 hmem hos;have Tf:=avE DT;clear DT;have XK:=avE c00;clear c00;have yC:=avE hin;have GX:=avE c0;have JB:=avE hmem;have jf:=avE (fun W (hW:Below w1.heap.size w1 W)=>xk.out _ X hmem W (hin.mono hW) (bT HB1.out hW));have HKx:=avE (fun W (hW:Below w1.heap.size w1 W)=>HKy.out _ X hmem W (hin.mono hW));have hkb:=Xf.out X hmem;obtain ⟨t,ht⟩:∃ t,iD p X=t:=⟨_,rfl⟩;rw [ht] at jf hos;have Gi:=avE hos;have k1:(k:Int)<CL.length:=by omega
   have k2:0<=(k:Int):=by omega
   have X1:=gq.out.keep HB.out;clear hin hmem hos ht hlc;obtain ⟨aS,aT,aU,aW,-,-,-⟩:=X1.aF;go_upto_region 6 with fail;refine dH (wo) (.run 5 0 0 (.call 5 63 (.take 6 127 (.done)))) fun bZ QR aB aH hS=>?_
   iterate 5 refine aC ?_
   refine fV (jf.out _ (bT HB.out hS)) ?_;clear hS;intro cZ bW hS;refine aC ?_;refine dB ?_;clear hS aH aB;intro hB;obtain ⟨W3,hW3⟩:∃ W:World,W=cZ:=⟨_,rfl⟩;rw [<- hW3] at hB bW ⊢;have HB3:=avE (bT HB.out hB);have gY:=avE (HO.out.keep hB);replace c0:=kF hB GX.out;have Ti:b<W3.heap.size:=by have:=hB.size;omega
   have hz3:=HB3.out.size;clear hB bW hW3 X1 aS aT aU aW GX hlb jf HB HO;by_cases h0:t<=0
   ·have hos:=Gi.out;rw [if_neg Pe,List.append_nil] at hos;have JR:=avE hos;clear hos;go_wp2;go_roundw
    case rel => exact ⟨k+1,Q,by omega,by go_num,⟨_,_,rfl⟩,gY.out,by omega,by rw [JR.out];exact XI.out,XJ.out,GN.out,HB3.out⟩
    case measure => simp [intOf];omega
   ·have hos:=Gi.out;rw [if_pos Pe] at hos;have JR:=avE hos;clear hos;have hsh:(Q++[((X,⟨xa,xn,xc⟩):List Int×SV)]).length=Q.length+1:=by simp
    have iL:=avE hsh;clear hsh;go_upto_region 8 with fail;go_upto_block 2 with
     (at_builtin
      refine iZ _ rfl (.tmp 28) (.tmp 33) _ rfl (base:=w1.heap.size) Gm Ew Gl rfl (Own.alloc gY.out _) rfl (l2:=[((X,⟨xa,xn,xc⟩):List Int×SV)]) (Sl.lit (n:=1) (ah.made rfl _ _) rfl (dP Pe)) afr afr arV ?_;intro v4 w4 jI hg4 UH;obtain ⟨A4,c4,hv4,-⟩:=Own.lI jI;rw [iL.out] at hv4;subst hv4;have kP:=avE jI;have HB4:=avE (bG (bA HB3.out _) hg4 (fun g hg=>(gY.out.lt g hg).1));have MB:=hg4.size;simp only [World.size_alloc] at MB;clear jI hg4 UH
      )
    obtain ⟨g,hgA,hg0,-,-,-⟩:=Own.Td kP.out (by rw [iL.out];omega);subst hgA;have HC4:=avE (kF HB4.out XK.out);clear c0 Ti gY HB3;go_wp2_with fail;go_loopw [7] (fun i wr=>∃ (m:Nat) (z:List Int×SV),m<=Q.length/\i=.int .i64 m/\Own wr w1.heap.size 24 1 lJ (.slice (some ⟨g,0,none⟩) (Q.length+1) c4) (oW Q m z)/\(∀ j (hj:j<Q.length),m<=j->jy (gQ X) (gQ Q[j].1)=true)/\Below w1.heap.size w1 wr) (fun i _=>(intOf i).toNat)
    case atStart => exact ⟨Q.length,(X,⟨xa,xn,xc⟩),awe _,rfl,by rw [<- arw];exact kP.out,(fun j hj h=>by omega),HB4.out⟩
    case round =>
     clear kP HB4 MB;obtain ⟨m,z,hm,rfl,dG,hge,hb5⟩:=hrel;obtain ⟨wq,rfl⟩:∃ wq:World,wq=wr:=⟨_,rfl⟩;have Tj:=avE dG;have Tm:=avE hge;have JV:=avE hb5;clear dG hge hb5;rcases Nat.eq_zero_or_pos m with h9 | h9
     ·subst h9;go_upto_region 9 with fail;refine dH (wq) (.run 16 0 0 (.done)) fun bZ QR aB aH hS=>?_
      iterate 3 refine aC ?_
      iterate 12 refine jC ?_
      refine aC ?_;refine dB ?_;clear hS aH aB;intro hB;obtain ⟨W5,kJ⟩:∃ W:World,W=wq.drew:=⟨_,rfl⟩;rw [<- kJ] at hB ⊢;have bC:=avE (bT JV.out hB);have jd:=avE (Tj.out.keep hB);clear hB kJ JV Tj;have hst:=show (0:Nat)=0\/∃ hj:0-1<Q.length,jy (gQ X) (gQ Q[0-1].1)=false from .inl rfl
      have acr:=avE hst;obtain ⟨g',jo,-,vC,jQ,jA⟩:=Own.Td jd.out (by rw [vF (avK _)];omega);injection jo with jo;injection jo with jo _ _;subst jo;have f0:=jA 0 (by rw [vF (avK _)];omega);have hf0:=jQ 0;have c0:=kF bC.out XK.out;have Lr:b<W5.heap.size:=by have:=bC.out.size;omega
      have hm1:(0:Int)<(Q.length:Int)+1:=by omega
      have yI:=avE (show Own (W5.setCell ⟨g,0,none⟩ (.slice xa xn xc)) w1.heap.size 24 1 lJ (.slice (some ⟨g,0,none⟩) (Q.length+1) c4) (oW Q (0) (X,⟨xa,xn,xc⟩)) from by
       have:=Own.acp jd.out (i:=0) (by rw [vF (avK _)];omega) (X,⟨xa,xn,xc⟩)
       rwa [ah9 (avK _)] at this)
      have yH:=avE (bS (p:=⟨g,0,none⟩) bC.out hg0 (.slice xa xn xc));clear jA jQ hst jd;go_wp2;go_roundw
      case rel => exact ⟨k+1,oW Q (0) (X,⟨xa,xn,xc⟩),by omega,by go_num,⟨_,_,by rw [vF (avK _)]⟩,yI.out,by rw [vF (avK _)];omega,by
        rw [JR.out];refine ((XH Q (0) (X,⟨xa,xn,xc⟩)).map (·.1)).trans ?_;rw [List.map_cons];exact ((XI.out).cons X).trans (List.perm_append_comm (l₁:=[X])),aia (avK _) XJ.out Tm.out acr.out,(fun y hy=>by
         rcases av2.1 ((XH Q (0) _).subset hy) with rfl | hy
         · exact ⟨Tf.out,JB.out⟩
         · exact GN.out y hy),yH.out⟩
      case measure => simp [intOf];omega
     ·obtain ⟨m,rfl⟩:∃ m',m=m'+1:=⟨m-1,by omega⟩;have ET:m<Q.length:=by omega
      obtain ⟨g',jo,-,vC,-,jA⟩:=Own.Td Tj.out avv;injection jo with jo;injection jo with jo _ _;subst jo;have e0:=jA m avv;rw [arx (Nat.lt_succ_self m) hm] at e0;obtain ⟨aib,acs⟩:=GN.out Q[m] (avF ET);have acu:Ints w1 (.slice Q[m].2.a Q[m].2.n Q[m].2.c) Q[m].1:=aib.sl;clear aib;have XL:=avE (fun (h:jy (gQ X) (gQ Q[m].1)=true)=>show ∀ j (hj:j<Q.length),m<=j->jy (gQ X) (gQ Q[j].1)=true from fun j hj hmj=>by
       by_cases e:j=m
       · subst e;exact h
       · exact Tm.out j hj Pe)
      have uU:=avE (fun (h:jy (gQ X) (gQ Q[m].1)=false)=>show m+1=0\/∃ hj:m+1-1<Q.length,jy (gQ X) (gQ Q[m+1-1].1)=false from .inr ⟨ET,h⟩);have HDn:=avE (arz ET z);have hkb2:=Xf.out Q[m].1 acs;have HKq:=avE (fun W (hW:Below w1.heap.size w1 W)=>HKy.out _ Q[m].1 acs W (acu.mono hW));have Mc:=avE (fun (W:World) (h:Own W w1.heap.size 24 1 lJ (.slice (some ⟨g,0,none⟩) (Q.length+1) c4) (oW Q (m+1) z))=>Own.acp h (i:=m+1) avv Q[m]);generalize Q[m]=y at *;obtain ⟨Y,ya,yn,yc⟩:=y;simp only at e0 HKq hkb2 XL uU HDn acu Mc;generalize gQ Y=ky at *;obtain ⟨kx,hkx⟩:∃ kx,gQ X=kx:=⟨_,rfl⟩;rw [hkx] at HKx hkb XL uU Tm;have uF:=avE hkx;have JL:=avE (fun W=>ahU kx ky W Pe Pe);obtain ⟨E,hE⟩:∃ E,jy kx ky=E:=⟨_,rfl⟩;rw [hE] at JL XL uU;clear hE hkx acs acu jA;have c0:=kF JV.out XK.out;have arD:b<wq.heap.size:=by have:=JV.out.size;omega
      have m1:(0:Int)<(m:Int)+1:=by omega
      have m2:IntKind.i64.wrap ((m:Int)+1)=(m:Int)+1:=avS _ Pe;have m3:IntKind.i64.wrap (m:Int)=(m:Int):=avS _ Pe;have m4:(m:Int)<(Q.length:Int)+1:=by omega
      have m5:0<=(m:Int):=by omega
      have m6:IntKind.i64.wrap ((m:Int)+1-1)=(m:Int):=by rw [avS _ Pe];omega
      go_upto_region 9 with fail;refine dH (wq) (.run 7 0 0 (.run 5 8 127 (.call 7 8191 (.call 13 16383 (.call 14 32767 (.take 15 65535 (.done))))))) fun bZ QR aB aH hS=>?_
      iterate 3 refine aC ?_
      iterate 9 refine dN ?_
      refine fV (HKx.out _ (bT JV.out hS)) ?_;clear hS;intro cZ bW hS;refine fV (HKq.out _ (bT JV.out hS)) ?_;clear hS;intro wr2 iW hS;refine fV (JL.out _) ?_;clear hS;intro wr3 qj hS;refine aC ?_;refine dB ?_;clear hS aH aB;intro hB;obtain ⟨W5,kJ⟩:∃ W:World,W=wr3:=⟨_,rfl⟩;rw [<- kJ] at hB ⊢;have bC:=avE (bT JV.out hB);have jd:=avE (Tj.out.keep hB);replace e0:=kF hB e0;clear hB bW iW qj kJ JV Tj vC arD JL HKq c0
      cases E
      ·rw [uF.out.symm] at uU Tm;clear e0 m1 m2 m3 m4 m5 m6;have hst:=uU.out rfl;have acr:=avE hst;obtain ⟨g',jo,-,vC,jQ,jA⟩:=Own.Td jd.out avv;injection jo with jo;injection jo with jo _ _;subst jo;have f0:=jA (m+1) avv;have hf0:=jQ (m+1);have c0:=kF bC.out XK.out;have Lr:b<W5.heap.size:=by have:=bC.out.size;omega
       have hm1:(m:Int)+1<(Q.length:Int)+1:=by omega
       have yI:=avE (show Own (W5.setCell ⟨g,m+1,none⟩ (.slice xa xn xc)) w1.heap.size 24 1 lJ (.slice (some ⟨g,0,none⟩) (Q.length+1) c4) (oW Q (m+1) (X,⟨xa,xn,xc⟩)) from by
        have:=Own.acp jd.out (i:=m+1) avv (X,⟨xa,xn,xc⟩)
        rwa [ah9 hm] at this)
       have yH:=avE (bS (p:=⟨g,m+1,none⟩) bC.out hg0 (.slice xa xn xc));clear jA jQ hst jd;go_wp2;go_roundw
       case rel => exact ⟨k+1,oW Q (m+1) (X,⟨xa,xn,xc⟩),by omega,by go_num,⟨_,_,by rw [vF hm]⟩,yI.out,by rw [vF hm];omega,by
         rw [JR.out];refine ((XH Q (m+1) (X,⟨xa,xn,xc⟩)).map (·.1)).trans ?_;rw [List.map_cons];exact ((XI.out).cons X).trans (List.perm_append_comm (l₁:=[X])),aia hm XJ.out Tm.out acr.out,(fun y hy=>by
          rcases av2.1 ((XH Q (m+1) _).subset hy) with rfl | hy
          · exact ⟨Tf.out,JB.out⟩
          · exact GN.out y hy),yH.out⟩
       case measure => simp [intOf];omega
      ·obtain ⟨g',jo,-,vC,jQ,jA⟩:=Own.Td jd.out avv;injection jo with jo;injection jo with jo _ _;subst jo;have f0:=jA (m+1) avv;have hf0:=jQ (m+1);have qp:=avE (Mc.out _ jd.out);rw [HDn.out] at qp;have jq:=avE (bS (p:=⟨g,m+1,none⟩) bC.out hg0 (.slice ya yn yc));have HGx:=XL.out rfl;rw [<- uF.out] at HGx;have HGz:=avE HGx;have m7:(m:Int)+1<(Q.length:Int)+1:=by omega
       clear jA jQ HGx jd;go_wp2;go_roundw
       case rel => exact ⟨m,_,by omega,by go_num,qp.out,HGz.out,jq.out⟩
       case measure => simp [intOf]
  ·have hkk:k=(cO p).length:=by have:=iM.out;omega
   have hpe:=XI.out;rw [hkk,ahZ] at hpe;have HF:=avE (HSo.out _ hpe XJ.out);have VT:=HB1.out.size;have GY:=avE (show zJ wo w.heap.size (.slice A Q.length c) Q from ⟨HO.out.fG VT,fun x hx=>((GN.out x hx).1).keep HB.out⟩);clear hpe hkk;go_wp2;go_ret;exact ⟨A,c,Q,rfl,bT HB1.out HB.out,GY.out,HF.out⟩
theorem gS {w0 w1:World} {g:Nat} (h:w0.grownBy w1 (some g)) (i:Nat) (u:Value):w0.grownBy (w1.setCell ⟨g,i,none⟩ u) (some g):=by
 refine gT h ⟨rfl,rfl,rfl,?_,fun j _ hne=>?_⟩
 · simp
 · exact Below.heap_setCell w1 ⟨g,i,none⟩ u j (fun e=>hne avA)
end Go.Proofs.YtialfdomhoojiaaGreat
