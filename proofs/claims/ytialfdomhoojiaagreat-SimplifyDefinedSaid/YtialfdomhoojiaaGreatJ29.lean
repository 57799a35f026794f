import Derived.Test.YtialfdomhoojiaaGreatRegRF
import Derived.Test.YtialfdomhoojiaaGreatJ28
set_option linter.unusedSimpArgs false
set_option linter.unusedVariables false
set_option maxRecDepth 100000
set_option maxHeartbeats 8000000
namespace Go.Proofs.YtialfdomhoojiaaGreat
open Go.RowKit
def EU (p:Pl) (O:List (List Int)) (k:Nat):List Int:=(List.range k).map (kU p O)
theorem TG (p:Pl) (O:List (List Int)) (k:Nat):(EU p O k).length=k:=by unfold EU;simp
theorem ar6 (p:Pl) (O:List (List Int)) (k:Nat):EU p O (k+1)=EU p O k++[kU p O k]:=by unfold EU;rw [List.range_succ,List.map_append];rfl
theorem jP.ar7 {p:Pl} {L:List AD} {O:List (List Int)} {N:List Nd} (h:jP p L O (rO p) N) {i:Nat} (hi:i<L.length):(DI L[i]).map (·.1)=vk p O i:=by
 have hl:=h.len;unfold DI vk Oh aaZ;rw [List.map_cons,h.inn i hi];congr 1;by_cases e:i=0
 · subst e;exact h.ahK hi
 ·show L[i].out=_
  rw [h.SK hi Pe,Md Pe Pe];rfl
section
variable {p:Pl} (h:Valid p)
include h
theorem Valid.aiq {O:List (List Int)} (hO:∀ X∈O,X∈iE p) {i:Nat} {c:List Int} (hc:c∈vk p O i) {d:Int} (hd:d∈c):d∈bf p:=by
 unfold vk Oh at hc;rcases av2.1 hc with rfl | hc
 ·unfold xG at hd;split at hd
  · cases hd
  · cases e:O[i-1]? with
   | none=>rw [e] at hd;cases hd
   | some X =>
    rw [e] at hd;exact (h.lV (Dv.1 (hO X (List.mem_of_getElem? e))).1).2 d hd
 ·have:=av7.1 hc
  exact (h.lV (aaY.1 this.1).1).2 d hd
end
def ar8 (w:World) (p:Pl) (O:List (List Int)) (e:Ending) (w':World):Prop :=
 ∃ A n c,e=.returned (.tuple #[.slice A n c,.bool (uz p)])/\Below w.heap.size w w'/\(uz p=true->Own w' w.heap.size 3 1 dw (.slice A n c) (EU p O (O.length+1)))
theorem air {p:Pl} {O:List (List Int)} (hO:O.Perm (iE p)) {k:Nat} (hk:k<=O.length) (h:(1<=k/\kU p O k=0)\/(1<=k/\kU p O k∈jh p O k)\/∃ c∈vk p O k,∃ d∈c,iw p d≠kU p O k):uz p=false:=by
 rw [<- Bool.not_eq_true,ab1 hO];rintro ⟨hu,-⟩;rcases h with ⟨h1,h⟩ | ⟨h1,h⟩ | ⟨c,hc,d,hd,h⟩
 · exact hu.some k h1 Pe h
 ·obtain ⟨i,h2,h3,h4⟩:=abZ.1 h;exact hu.differ i k h2 h3 Pe h4
 · exact h (hu.sides k Pe c hc d hd)
theorem ar9 (v vl:Value) (p:Pl) (L:List AD) (O:List (List Int)) (N:List Nd) (w:World) (h:bQ w v p) (hv:Valid p) (hl:OT w vl L) (hd:jP p L O (rO p) N) (hO:O.Perm (iE p)) :
  Calls Tryz.prog 108 #[v,vl] w (ar8 w p O):=by
 have Ja:=avE (fun d (hd:eU d) W (hW:Below w.heap.size w W)=>amd v p d W (h.mono hW) hv.short.long hd);have HV:=avE hv;have HL:=avE hl;have HD:=avE hd;have ais:=hd.len;have hol:O.length<=512:=by
  rw [hO.length_eq];exact avZ (List.length_filter_le _ _) hv.GI
 have HSub:=avE hO.subset;have N9:1<=L.length/\L.length<=513:=by omega
 have iM:=avE ais;have TI:=avE (fun i c (hc:c∈vk p O i) d (hd:d∈c)=>hv.aiq (fun X hX=>hO.subset hX) hc hd);have XD:=avE (fun d (hd:d∈bf p)=>show eU d from qX avC avC);have yK:=avE (fun i (hi:i<L.length)=>hd.ar7 hi);have jL:=avE (fun k (hk:k<=O.length)=>air hO (k:=k) hk);have ait:=avE (ab1 hO);have nU:=avE (fun i (hi:i<L.length)=>show L[i].inn.length<=512 from by
  have:=congrArg List.length (hd.inn i hi)
  rw [avM] at this;rw [this];refine avZ (List.length_filter_le _ _) ?_;exact avZ (List.length_filter_le _ _) hv.GI)
 have HSb:=avE (fun d=>hv.aqA d);obtain ⟨Al,cl,rfl,hl1,hl2,hRl⟩:=hl.sl;obtain ⟨_,_,_,al,rfl,hpa,⟨An,cn,rfl,-⟩,⟨⟨Aa,ca,rfl,-⟩,-⟩,⟨Af,cf,rfl,-⟩⟩:=h;unfold maxLen at hl2;have hff:p.faces.length<=64:=(UQ hv.lim).2.2.2.1;have HRl:=avE hRl;generalize p.nodes.length=nn at *;generalize al.length=na at *;obtain ⟨nf,hnf⟩:∃ nf,p.faces.length=nf:=⟨_,rfl⟩;rw [hnf] at hff ait Ja ⊢;have yL:=avE hnf;clear hpa hRl hv hl hd hnf ais;have hmm:=@run_makeMap Tryz.prog;go_enter Tryz.func108,Tryz.ntmps108;go_upto_region 2 with fail;obtain ⟨gm,hgm⟩:∃ gm,gm=w.heap.size+1:=⟨_,rfl⟩;obtain ⟨W1,hW⟩:∃ W:World,W=(w.alloc (.cells #[.slice An nn cn,.slice Aa na ca,.slice Af nf cf] 26)).alloc (.map #[] 0):=⟨_,rfl⟩;have X1:ah W1 w.heap.size 26 #[.slice An nn cn,.slice Aa na ca,.slice Af nf cf]:=by rw [hW];exact (ah.made rfl _ _).alloc _
 have mZ:=avE (show jM W1 gm [] by
  have:=jM.made (w.alloc (.cells #[.slice An nn cn,.slice Aa na ca,.slice Af nf cf] 26))
  rw [hW,hgm];simpa using this)
 have HB1:=avE (show Below w.heap.size w W1 by rw [hW];exact bA (bA (bR w) _) _);have hgl:w.heap.size<gm:=by omega
 rw [<- hW,<- hgm];clear hW hgm hmm;have gq:=avE X1;clear X1;go_upto_block 0 with fail;go_wp2_with fail;go_loopw [4,17] (fun s i wr=>∃ k:Nat,k<=L.length/\i=.int .i64 k/\(∃ A c,s=.slice A k c)/\Own wr w.heap.size 3 1 dw s (EU p O k)/\jM wr gm (jh p O k)/\rZ p O k/\ah wr w.heap.size 26 #[.slice An nn cn,.slice Aa na ca,.slice Af nf cf]/\Below w.heap.size w wr) (fun _ i _=>L.length-(intOf i).toNat)
 case atStart => exact ⟨0,avK _,rfl,⟨_,_,rfl⟩,Own.nil _ _ _ _ _,mZ.out,rZ.zero p O,gq.out,HB1.out⟩
 case round =>
  clear gq mZ HB1;obtain ⟨k,hk,rfl,⟨A,c,rfl⟩,ho,hm,hu,X1,hb⟩:=hrel;obtain ⟨wo,rfl⟩:∃ wo:World,wo=wr:=⟨_,rfl⟩;have HO:=avE ho;have HM:=avE hm;have HU:=avE hu;have HX:=avE X1;have Hb:=avE hb;have hfl:=TG p O k;have hsl:=Xc p O k;have asa:=hm.lt;clear ho hm hu hb;by_cases hlt:k<L.length
  ·have hko:k<=O.length:=by have:=iM.out;omega
   obtain ⟨b,o,rfl,hlb,c0,c1,c2,c3⟩:=(HRl.out.mono Hb.out).ad hlt;have hcy:=yK.out k hlt;have hcl:=nU.out k hlt;have hout:=HL.out.out _ (avF hlt);have kV:=HL.out.inn _ (avF hlt);have sD:=HL.out.lH _ (avF hlt);have hfc:1<=k->L[k].out≠[]/\kU p O k=iw p (L[k].out.headD 0):=fun h1=>by
    have e1:=HD.out.SK hlt h1;have hX:O[k-1]'(by omega)∈O:=avF _;rw [e1];exact ⟨HV.out.GH (Dv.1 (HSub.out hX)).1,JK h1 hko⟩
   generalize L[k]=x at *;obtain ⟨tw,out,⟨oa,on,oc⟩,inn,⟨ia,xq,ic⟩,fD,⟨aa,an,ac⟩⟩:=x;unfold bg at c1 c2 c3 hout kV;simp only at c0 c1 c2 c3 hout kV hcy sD hcl hfc;obtain ⟨fc,G8⟩:∃ fc,kU p O k=fc:=⟨_,rfl⟩;have OH:=avE (ar6 p O k);have O7:=avE (fun h=>ahN p O (k:=k) h);rw [G8] at hfc OH O7;have yM:=avE G8;have TK:=avE hcy;have acB:=avE hout;have jg:=avE kV;have JU:=avE sD;have HFh:=avE hfc;clear hcy hout kV sD hfc G8;have hfb:0<=fc/\fc<=1073741824:=by
    rw [<- yM.out];unfold kU QX;split
    · omega
    · exact HSb.out _
   have hf0:k=0->fc=0:=fun e=>by rw [<- yM.out,e];rfl
   have hwf:eU fc:=qX Pe Pe;have NT:=avE hwf;clear hwf;go_upto_region 5 with fail;obtain ⟨W2,hW⟩:∃ W:World,W=wo.alloc (.cells #[.int .i64 tw,.slice oa on oc,.slice ia xq ic,.slice aa an ac] 82):=⟨_,rfl⟩;have hA:Below wo.heap.size wo W2:=by rw [hW];exact bA (bR wo) _
   have X5:ah W2 wo.heap.size 82 #[.int .i64 tw,.slice oa on oc,.slice ia xq ic,.slice aa an ac]:=by rw [hW];exact ah.made rfl _ _
   replace X1:=X1.keep hA;have iU:=avE (HO.out.keep hA);have dh:=avE X1;have dF:=avE X5;have Dh:=avE (HM.out.keep hA);have HB2:=avE (bT Hb.out hA);have aiu:=avE (acB.out.mono (bT Hb.out hA));have hz2:=Hb.out.size;rw [<- hW];clear hW hA HO HM HX Hb c0 c1 c2 c3 hlb;obtain ⟨g5,hg5⟩:∃ g5,wo.heap.size=g5:=⟨_,rfl⟩;rw [hg5] at dF X5 hz2 asa ⊢;clear hg5;have hS0:k=0->jh p O (k+1)=jh p O k:=fun e=>by subst e;rfl
   have yj:=avE hS0;clear hS0;have hkn:O.length<=512:=hol;go_upto_if 23 with fail;go_cut [9,4,5] (fun f s q wx=>f=.int .i64 fc/\s=.slice A k c/\jM wx gm (jh p O (k+1))/\Own wx w.heap.size 3 1 dw (.slice A k c) (EU p O k)/\ah wx w.heap.size 26 #[.slice An nn cn,.slice Aa na ca,.slice Af nf cf]/\ah wx g5 82 #[.int .i64 tw,.slice oa on oc,.slice ia xq ic,.slice aa an ac]/\Below w.heap.size w wx/\(1<=k->fc≠0/\fc∉jh p O k))
   case first =>
    rcases Nat.eq_zero_or_pos k with h0 | h0
    ·have e1:=hf0 h0;have hk0:¬ (0:Int)<(k:Int):=by omega
     have qm:=Dh.out;rw [<- yj.out h0] at qm;have tY:=avE qm;have HE:=avE e1;clear qm e1 hf0 h0 X1 X5;go_wp2;go_meet
     case rel => exact ⟨by rw [HE.out],rfl,tY.out,iU.out,dh.out,dF.out,HB2.out,fun h=>by omega⟩
    ·have hk0:(0:Int)<(k:Int):=by omega
     obtain ⟨hne,hfe⟩:=HFh.out h0;have hkl:0<out.length:=List.length_pos_iff.2 hne;have hhd:out.headD 0=out[0]:=by
      cases out with
      | nil=>exact absurd rfl hne
      | cons d l'=>rfl
     rw [hhd] at hfe;obtain ⟨Ao,co,hel,-,-,XU⟩:=aiu.out;injection hel with y1 y2 y3;subst y1 y2 y3;obtain ⟨bl,ol,MF,MG,d0⟩:=(XU).int hkl;subst MF;simp only [Nat.add_zero] at d0;have kz:(0:Int)<out.length:=by omega
     have kn:¬ out=[]:=hne;have hmem:out[0]∈bf p:=TI.out k out (by rw [<- TK.out];exact av3) _ (avF hkl);have tJ:=avE (fun W (hW:Below w.heap.size w W)=>Ja.out out[0] (XD.out _ hmem) W hW);generalize out[0]=dd at *;rw [<- hfe] at tJ;have wM:=avE (jL.out k hko);rw [yM.out] at wM;have HSk:=avE (O7.out h0);clear hhd hfe hmem XU hf0;obtain ⟨aS,aT,aU,aW,-,-,-⟩:=X1.aF;obtain ⟨bI,bJ,bV,jk,zx,-,-,-,-⟩:=X5.YH;go_upto_region 7 with fail;refine dH (W2) (.run 5 0 0 (.call 5 63 (.take 6 127 (.done)))) fun bZ QR aB aH hS=>?_
     iterate 5 refine aC ?_
     refine fV (tJ.out _ (bT HB2.out hS)) ?_;clear hS;intro cZ bW hS;refine aC ?_;refine dB ?_;clear hS aH aB;intro hB;have HB3:=avE (bT HB2.out hB);have gY:=avE (iU.out.keep hB);have dW:=avE (dh.out.keep hB);have GU:=avE (dF.out.keep hB);have tY:=avE (Dh.out.keep hB);clear hB X1 aS aT aU aW X5 bI bJ bV jk zx d0 bW Dh iU dh dF HB2 MG kz kn tJ;by_cases z:fc=0
     ·have z1:(fc == 0)=true:=by simpa using z
      have hf:=wM.out (.inl ⟨h0,z⟩);have HF:=avE hf;clear z hf;go_wp2_with fail;go_ret2;exact ⟨none,0,0,by rw [HF.out];rfl,HB3.out,fun e=>by rw [HF.out] at e;cases e⟩
     ·have z1:(fc == 0)=false:=by simpa using z
      have hlk:=tY.out.look fc NT.out;by_cases z2:fc∈jh p O k
      ·have hf:=wM.out (.inr (.inl ⟨h0,z2⟩));have HF:=avE hf;rw [avW z2] at hlk;clear z hf z2;go_wp2_with fail;go_ret2;exact ⟨none,0,0,by rw [HF.out];rfl,HB3.out,fun e=>by rw [HF.out] at e;cases e⟩
      ·rw [avV z2] at hlk;obtain ⟨w6,hr6,OV,lK⟩:=tY.out.upd Pe fc NT.out z2;rw [<- HSk.out] at OV;have Eu:=avE OV;have HZ:=avE (show fc≠0/\fc∉jh p O k from ⟨z,z2⟩);have qp:=avE (Own.grown gY.out lK (fun g hg e=>aho tY.out gY.out (by rw [hg,e])));have pI:=avE (ah.grown dW.out lK (fun e=>abC tY.out dW.out (avP e)));have ach:=avE (ah.grown GU.out lK (fun e=>abC tY.out GU.out (avP e)));have jq:=avE (bG HB3.out lK (fun g hg=>by have:=avP hg;omega));clear OV lK z z2;go_wp2;go_meet
       case rel => exact ⟨rfl,rfl,Eu.out,qp.out,pI.out,ach.out,jq.out,fun _=>HZ.out⟩
   case rest =>
    obtain ⟨rfl,rfl,qm,ho3,X1,X5,hb3,hzz⟩:=hcut;have tY:=avE qm;have gY:=avE ho3;have dW:=avE X1;have GU:=avE X5;have HB3:=avE hb3;have HZ:=avE hzz;have FH:=ao7 ⟨tw,out,⟨oa,on,oc⟩,inn,⟨ia,xq,ic⟩,fD,⟨aa,an,ac⟩⟩ wc (jg.out.mono hb3) (by show inn.length<=100000;omega);have acf:(DI ⟨tw,out,⟨oa,on,oc⟩,inn,⟨ia,xq,ic⟩,fD,⟨aa,an,ac⟩⟩).length<=513:=by show inn.length+1<=513;omega
    have hcr:∀ y∈DI ⟨tw,out,⟨oa,on,oc⟩,inn,⟨ia,xq,ic⟩,fD,⟨aa,an,ac⟩⟩,Ints w (bg y.2) y.1:=fun y hy=>by
     rcases av2.1 hy with rfl | hy
     · exact acB.out
     · exact JU.out y hy
    have hck:=TK.out;unfold bg at FH;simp only at FH;generalize DI ⟨tw,out,⟨oa,on,oc⟩,inn,⟨ia,xq,ic⟩,fD,⟨aa,an,ac⟩⟩=CY at *;have Ql:=avE FH;have GY:=avE hcr;have HDy:=avE (fun q (hq:q<CY.length) d (hd:d∈CY[q].1)=>TI.out k CY[q].1 (by rw [<- hck];exact awd (avF hq)) d hd);have WM:=avE (fun q (hq:q<CY.length)=>show CY[q].1∈vk p O k from by rw [<- hck];exact awd (avF hq));have ab4:=avE (fun (h:∀ q (hq:q<CY.length),∀ d∈CY[q].1,iw p d=fc)=>show ∀ c∈vk p O k,∀ d∈c,iw p d=kU p O k from fun c hc d hd=>by
     rw [<- hck] at hc;obtain ⟨y,hy,rfl⟩:=av6.1 hc;obtain ⟨q,hq,rfl⟩:=avI.1 hy;rw [yM.out];exact h q hq d hd)
    have wM:=avE (jL.out k hko);rw [yM.out] at wM;clear qm ho3 hb3 hzz Dh iU dh dF HB2 FH hcr hck aiu TK acB jg JU HFh hf0 yj O7
    try clear bI
    try clear bJ
    try clear bV
    try clear jk
    try clear zx
    obtain ⟨bI,bJ,bV,jk,zx,-,-,-,-⟩:=X5.YH;go_wp2_with fail;refine Ql.out.mono ?_;rintro e w3 ⟨⟨A2,c2,rfl,ho2⟩,hb4⟩;have HB4:=avE (bT HB3.out hb4);have kP:=avE (gY.out.keep hb4);have dI:=avE (dW.out.keep hb4);have KC:=avE (tY.out.keep hb4);have HR4:=avE ho2.row_of;have MB:=hb4.size;clear ho2 hb4 HB3 gY dW GU tY X1 X5 bI bJ bV jk zx Ql;go_upto_block 2 with fail;go_wp2_with fail;go_loopw [4,42] (fun s i wr=>s=.slice A k c/\∃ j:Nat,j<=CY.length/\i=.int .i64 j/\(∀ q (hq:q<CY.length),q<j->∀ d∈CY[q].1,iw p d=fc)/\Below w3.heap.size w3 wr) (fun _ i _=>CY.length-(intOf i).toNat)
    case atStart => exact ⟨rfl,0,avK _,rfl,(fun q _ h=>by omega),bR w3⟩
    case round =>
     obtain ⟨rfl,j,hj,rfl,hall,hb5⟩:=hrel;have qL:=avE hall;have bC:=avE hb5;clear hall hb5;by_cases hlj:j<CY.length
     ·obtain ⟨b,o,rfl,hlb,c0⟩:=(HR4.out.mono bC.out).cy hlj;have hin:=(GY.out CY[j] (avF hlj)).mono (bT HB4.out bC.out);have hdy:=HDy.out j hlj;have JM:=avE (WM.out j hlj);have oD:=avE (fun (h:∀ d∈CY[j].1,iw p d=fc)=>all_succ (p:=fun y:List Int×SV=>∀ d∈y.1,iw p d=fc) qL.out hlj h);generalize CY[j]=x at *;obtain ⟨X,xa,xn,xc⟩:=x;unfold bg at hin;simp only at hin c0 hdy JM oD;obtain ⟨Ax,cx,he,hx1,hx2,hRx⟩:=hin;injection he with y1 y2 y3;subst y1 y2 y3;unfold maxLen at hx2;have hxl:X.length<=9223372036854775807:=by omega
      have XV:=avE hRx;have HDx:=avE hdy;clear hRx hdy;obtain ⟨wq,rfl⟩:∃ wq:World,wq=wr:=⟨_,rfl⟩;go_upto_block 4 with fail;clear c0 hlb;go_wp2_with fail;go_loopw [4,48] (fun s i wr=>s=.slice A k c/\∃ m:Nat,m<=X.length/\i=.int .i64 m/\(∀ q (hq:q<X.length),q<m->iw p X[q]=fc)/\Below wq.heap.size wq wr) (fun _ i _=>X.length-(intOf i).toNat)
      case atStart => exact ⟨rfl,0,avK _,rfl,(fun q _ h=>by omega),bR wq⟩
      case round =>
       obtain ⟨rfl,m,hmm,rfl,hall,hb6⟩:=hrel;have aiv:=avE hall;have jq:=avE hb6;have jW:=avE (bT HB4.out (bT bC.out hb6));clear hall hb6;by_cases hlm:m<X.length
       ·obtain ⟨b2,o2,rfl,ahV,e0⟩:=(XV.out.mono jq.out).int hlm;have hdm:=HDx.out X[m] (avF hlm);have tJ:=avE (fun W (hW:Below w.heap.size w W)=>Ja.out X[m] (XD.out _ hdm) W hW);have uT:=avE (fun (h:iw p X[m]≠fc)=>wM.out (.inr (.inr ⟨X,JM.out,X[m],avF hlm,h⟩)));have HYm:=avE (fun (h:iw p X[m]=fc)=>all_succ (p:=fun d=>iw p d=fc) aiv.out hlm h);generalize X[m]=dd at *;obtain ⟨sd,hsd⟩:∃ sd,iw p dd=sd:=⟨_,rfl⟩;rw [hsd] at tJ uT HYm;have X1:=dI.out.keep (bT bC.out jq.out);clear hsd hdm
        try clear aS
        try clear aT
        try clear aU
        try clear aW
        obtain ⟨aS,aT,aU,aW,-,-,-⟩:=X1.aF;go_wp2_with fail;refine (tJ.out _ jW.out).mono ?_;rintro e w7 ⟨rfl,hb7⟩;have gW:=avE (bT jq.out hb7);have asb:=avE (bT jW.out hb7);clear hb7 X1 aS aT aU aW e0 ahV tJ;by_cases z:sd=fc
        ·have z1:(sd != fc)=false:=by simpa using z
         have HYz:=avE (HYm.out z);clear z;go_wp2;go_roundw
         case rel => exact ⟨rfl,m+1,by omega,by go_num,HYz.out,gW.out⟩
         case measure => simp [intOf];omega
        ·have z1:(sd != fc)=true:=by simpa using z
         have HF:=avE (uT.out z);clear z;go_wp2_with fail;go_ret2;exact ⟨none,0,0,by rw [HF.out];rfl,asb.out,fun e=>by rw [HF.out] at e;cases e⟩
       ·have hmx:m=X.length:=by omega
        have HNz:=avE (oD.out fun d hd=>by
         obtain ⟨q,hq,rfl⟩:=avI.1 hd;exact aiv.out q hq Pe)
        clear hmx;go_wp2;go_roundw
        case rel => exact ⟨rfl,j+1,by omega,by go_num,HNz.out,bT bC.out jq.out⟩
        case measure => simp [intOf];omega
     ·have hjx:j=CY.length:=by omega
      have HUk:=avE (HU.out.succ (fun h=>by rw [yM.out];exact (HZ.out h).1) (fun h=>by rw [yM.out];exact (HZ.out h).2) (ab4.out fun q hq=>qL.out q hq Pe));have dF:=avE (dI.out.keep bC.out);have jd:=avE (kP.out.keep bC.out);have Jw:=avE (KC.out.keep bC.out);have Sm:=avE (bT HB4.out bC.out);have n1:=Own.iO jd.out dF.out arC;have n2:=aho Jw.out jd.out;have aiw:=TG p O (k+1);clear hjx dI kP KC HB4 HR4;go_upto_region 22 with
       (at_builtin
        refine iZ _ rfl (.tmp 59) (.tmp 61) _ rfl (base:=w.heap.size) jR jB jT rfl (Own.alloc jd.out _) rfl (l2:=[fc]) (Sl.lit (n:=1) (ah.made rfl _ _) rfl (dP Pe)) afr afr (by have:=Sm.out.size;simp;omega) ?_;intro v8 w8 Ez EC Rw;rw [<- OH.out] at Ez;obtain ⟨A8,c8,hv8,-⟩:=Own.lI Ez;rw [aiw] at hv8;subst hv8;have DF:=avE Ez;have HM8:=avE ((Jw.out.keep (bA (bR wr) _)).kept EC (fun e=>n2 e.symm));have ZU:=avE (ah.grown (dF.out.alloc _) EC (fun e=>n1 e.symm));have jl:=avE (bG (bA Sm.out _) EC (fun g hg=>(jd.out.lt g hg).1));clear Ez EC Rw
        )
      clear n1 n2 aiw;go_wp2;go_roundw
      case rel => exact ⟨k+1,by omega,by go_num,⟨A8,c8,rfl⟩,DF.out,HM8.out,HUk.out,ZU.out,jl.out⟩
      case measure => simp [intOf];omega
  ·have hkk:k=L.length:=by omega
   have acC:O.length+1=k:=by have:=iM.out;omega
   have hlen:=fun ty=>(HM.out.keep (bD (bR wo))).len ty;have hres:uz p=(((jh p O k).length:Int) == (nf:Int)):=by
    have hy:=ait.out;rw [acC] at hy;rw [Bool.eq_iff_iff,hy,hsl];constructor
    · rintro ⟨-,e⟩;simp;omega
    · intro e;simp at e;exact ⟨HU.out,by omega⟩
   have ho:=HO.out;have yI:=avE (show Own wo w.heap.size 3 1 dw (.slice A k c) (EU p O (O.length+1)) by rw [acC];exact ho);have XW:=avE hres;generalize jh p O k=S at *;clear hres ho hkk acC hsl
   try clear aS
   try clear aT
   try clear aU
   try clear aW
   obtain ⟨aS,aT,aU,aW,-,-,-⟩:=X1.aF;go_upto_region 23 with fail;refine dH (wo) (.take 0 1 (.take 1 3 (.run 3 3 3 (.call 2 63 (.run 3 6 63 (.done)))))) fun bZ QR aB aH hS=>?_
   iterate 5 refine aC ?_
   refine bK ?_;clear hS;intro K hK ak;go_simp;refine hK.out _ _ ak.out (fun hS=>?_);clear hK K ak
   try simp only [pu]
   iterate 3 refine aC ?_
   refine dB ?_;clear hS aH aB;intro hB;have yH:=avE (bT Hb.out hB);have ase:=avE (yI.out.keep hB);clear hB;go_wp2_with fail;go_ret2;exact ⟨A,k,c,by rw [XW.out];rfl,yH.out,fun _=>ase.out⟩
theorem asf {l:List Int} (h:l.Pairwise (· < ·)) (n:Int):(sF l n).Pairwise (· < ·)/\∀ x,x∈sF l n↔x∈l\/x=n:=by
 unfold sF;split
 ·rename_i hc;rw [awg] at hc;obtain ⟨y,hy,e⟩:=hc;simp only [avQ] at e;subst e;refine ⟨h,fun x=>⟨.inl,fun h=>?_⟩⟩;rcases h with h | rfl
  · exact h
  · exact hy
 ·rename_i hc;have hn:n∉l:=fun hm=>hc (awg.2 ⟨n,hm,by simp⟩);have hall:l.takeWhile (fun y=>decide (y<n))++l.dropWhile (fun y=>decide (y<n))=l:=List.takeWhile_append_dropWhile;have h1:∀ y∈l.takeWhile (fun y=>decide (y<n)),y<n:=fun y hy=>by
   have:=awh.1 (List.all_takeWhile (p:=fun y=>decide (y<n)) (l:=l)) y hy
   simpa using this
  have hp:=h;rw [<- hall,List.pairwise_append] at hp;have h2:∀ y∈l.dropWhile (fun y=>decide (y<n)),n<y:=by
   intro y hy
   cases hd:l.dropWhile (fun y=>decide (y<n)) with
   | nil=>rw [hd] at hy;cases hy
   | cons z m =>
    have hz:¬ z<n:=by
     have:=List.head_dropWhile_not (fun y=>decide (y<n)) (l:=l) (by rw [hd];simp)
     simp only [hd,List.head_cons] at this;simpa using this
    have hzl:z∈l:=by rw [<- hall];exact List.mem_append_right _ (by rw [hd];exact av3)
    have hzn:z≠n:=fun e=>hn (e ▸ hzl);rw [hd] at hy;rcases av2.1 hy with rfl | hy
    · omega
    ·have hp2:=hp.2.1;rw [hd] at hp2;have:=(List.pairwise_cons.1 hp2).1 y hy
     omega
  refine ⟨?_,fun x=>?_⟩
  ·rw [List.pairwise_append,List.pairwise_cons];refine ⟨hp.1,⟨h2,hp.2.1⟩,fun a ha b hb=>?_⟩;rcases av2.1 hb with rfl | hb
   · exact h1 a ha
   · exact hp.2.2 a ha b hb
  ·have:x∈l↔x∈l.takeWhile (fun y=>decide (y<n))\/x∈l.dropWhile (fun y=>decide (y<n)):=by
    rw [<- av1,hall]
   rw [this,av1,av2];constructor
   ·rintro (h | h | h)
    · exact .inl (.inl h)
    · exact .inr h
    · exact .inl (.inr h)
   ·rintro ((h | h) | h)
    · exact .inl h
    · exact .inr (.inr h)
    · exact .inr (.inl h)
theorem asg (l:List Int):(uG l).Pairwise (· < ·)/\∀ x,x∈uG l↔x∈l:=by
 have:∀ (l acc:List Int),acc.Pairwise (· < ·)->(l.foldl sF acc).Pairwise (· < ·)/\∀ x,x∈l.foldl sF acc↔x∈acc\/x∈l:=by
  intro l
  induction l with
  | nil=>intro acc h;exact ⟨h,fun x=>by simp⟩
  | cons a l ih =>
   intro acc h;rw [List.foldl_cons];obtain ⟨h1,h2⟩:=asf h a;obtain ⟨h3,h4⟩:=ih _ h1;refine ⟨h3,fun x=>?_⟩;rw [h4,h2,av2,or_assoc]
 obtain ⟨h1,h2⟩:=this l [] List.Pairwise.nil;exact ⟨h1,fun x=>by rw [show uG l=l.foldl sF [] from rfl,h2];simp⟩
theorem ash {l m:List Int} (hl:l.Pairwise (· < ·)) (hm:m.Pairwise (· < ·)) (h:∀ x,x∈l↔x∈m):l=m:=by
 have n1:l.Nodup:=hl.imp (fun h=>by omega);have n2:m.Nodup:=hm.imp (fun h=>by omega);have hp:l.Perm m:=(List.perm_ext_iff_of_nodup n1 n2).2 h;refine Qp (lt:=fun a b=>decide (a<b)) hp (hl.imp (fun h=>by simp;omega)) (hm.imp (fun h=>by simp;omega)) (fun a _ b _ h1 h2=>?_);simp only [avX] at h1 h2;omega
theorem asi {F l:List Int} (hF:F.Nodup) (hl:l.Pairwise (· < ·)) (hs:∀ x∈F,x∈l):uG F=l↔F.length=l.length:=by
 obtain ⟨h1,h2⟩:=asg F;have n1:(uG F).Nodup:=h1.imp (fun h=>by omega);have hp:(uG F).Perm F:=(List.perm_ext_iff_of_nodup n1 hF).2 h2;constructor
 ·intro e;rw [<- e,hp.length_eq]
 ·intro e;have n2:l.Nodup:=hl.imp (fun h=>by omega);refine ash h1 hl fun x=>?_;rw [h2];refine ⟨hs x,fun hx=>Classical.byContradiction fun hc=>?_⟩;have:=Dk (l:=x::F) (m:=l) (List.nodup_cons.2 ⟨hc,hF⟩) (fun y hy=>by
   rcases av2.1 hy with rfl | hy
   · exact hx
   · exact hs y hy)
  rw [avO] at this;omega
theorem asj (v vc:Value) (p:Pl) (X:List Int) (fc:Int) (w:World) (h:bQ w v p) (hv:Valid p) (hX:Ints w vc X) (hd:∀ d∈X,d∈bf p) (hl:X.length<=1000) :
  Calls Tryz.prog 112 #[v,vc,.int .i64 fc] w fun e w'=>e=.returned (.bool (X.all fun d=>iw p d == fc))/\Below w.heap.size w w':=by
 have Ja:=avE (fun d (hd:d∈bf p) W (hW:Below w.heap.size w W)=>ae8 v p d W (h.mono hW) hv.short.long (qX avC avC));have RF:=avE hd;obtain ⟨Ac,cc,rfl,hc1,hc2,uf⟩:=hX;unfold maxLen at hc2;obtain ⟨_,_,_,al,rfl,hpa,⟨An,cn,rfl,-⟩,⟨⟨Aa,ca,rfl,-⟩,-⟩,⟨Af,cf,rfl,-⟩⟩:=h;have zK:=avE uf;obtain ⟨R,hR⟩:∃ R,(X.all fun d=>iw p d == fc)=R:=⟨_,rfl⟩;rw [hR];have HR:=avE hR;clear hpa uf hR;generalize p.nodes.length=nn at *;generalize al.length=na at *;generalize p.faces.length=nf at *;go_enter Tryz.func112,Tryz.ntmps112;go_upto_region 1 with fail;obtain ⟨W1,hW⟩:∃ W:World,W=w.alloc (.cells #[.slice An nn cn,.slice Aa na ca,.slice Af nf cf] 26):=⟨_,rfl⟩;have gq:=avE (show ah W1 w.heap.size 26 #[.slice An nn cn,.slice Aa na ca,.slice Af nf cf] by rw [hW];exact ah.made rfl _ _);have HB1:=avE (show Below w.heap.size w W1 by rw [hW];exact bA (bR w) _);rw [<- hW];clear hW;go_wp2_with fail;go_loopw [7] (fun i wr=>∃ k:Nat,k<=X.length/\i=.int .i64 k/\(∀ j (hj:j<X.length),j<k->iw p X[j]=fc)/\Below W1.heap.size W1 wr) (fun i _=>X.length-(intOf i).toNat)
 case atStart => exact ⟨0,avK _,rfl,(fun j _ h=>by omega),bR W1⟩
 case round =>
  obtain ⟨k,hk,rfl,hall,hb⟩:=hrel;have qL:=avE hall;have HB:=avE hb;have X1:=gq.out.keep hb;clear hall hb;by_cases hlt:k<X.length
  ·obtain ⟨b,o,rfl,hlb,c0⟩:=(zK.out.mono (bT HB1.out HB.out)).int hlt;have hdm:=RF.out X[k] (avF hlt);have tJ:=avE (fun W (hW:Below w.heap.size w W)=>Ja.out X[k] hdm W hW);have jL:=avE (fun (h:iw p X[k]≠fc)=>show R=false from by
    rw [<- HR.out,<- Bool.not_eq_true,awh];intro hc;exact h (eq_of_beq (hc _ (avF hlt))))
   have TQ:=avE (fun (h:iw p X[k]=fc)=>all_succ (p:=fun d=>iw p d=fc) qL.out hlt h);generalize X[k]=dd at *;obtain ⟨sd,hsd⟩:∃ sd,iw p dd=sd:=⟨_,rfl⟩;rw [hsd] at tJ jL TQ;have k1:(k:Int)<X.length:=by omega
   have k2:0<=(k:Int):=by omega
   clear hsd hdm;obtain ⟨aS,aT,aU,aW,-,-,-⟩:=X1.aF;go_upto_region 4 with fail;refine dH (wr) (.run 5 0 0 (.take 6 95 (.call 5 127 (.take 7 255 (.done))))) fun bZ QR aB aH hS=>?_
   iterate 6 refine aC ?_
   refine fV (tJ.out _ (bT (bT HB1.out HB.out) hS)) ?_;clear hS;intro cZ bW hS;refine aC ?_;refine dB ?_;clear hS aH aB;intro hB;have bC:=avE (bT HB.out hB);clear hB bW X1 aS aT aU aW c0 hlb;by_cases z:sd=fc
   ·have z1:(sd != fc)=false:=by simpa using z
    have HYz:=avE (TQ.out z);clear z;go_wp2;go_roundw
    case rel => exact ⟨k+1,by omega,by go_num,HYz.out,bC.out⟩
    case measure => simp [intOf];omega
   ·have z1:(sd != fc)=true:=by simpa using z
    have HF:=avE (jL.out z);clear z;go_wp2;go_ret;exact ⟨aY HF.out.symm,bT HB1.out bC.out⟩
  ·have HF:=avE (show R=true from by
    rw [<- HR.out,awh];intro d hd;obtain ⟨j,hj,rfl⟩:=avI.1 hd;rw [qL.out j hj Pe];exact beq_self_eq_true _)
   clear X1;go_wp2;go_ret;exact ⟨aY HF.out.symm,bT HB1.out HB.out⟩
end Go.Proofs.YtialfdomhoojiaaGreat
