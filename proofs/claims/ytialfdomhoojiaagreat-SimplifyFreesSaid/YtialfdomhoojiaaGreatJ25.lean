import Derived.Test.YtialfdomhoojiaaGreatJ21
import Derived.Test.YtialfdomhoojiaaGreatJ17
import Derived.Test.YtialfdomhoojiaaGreatJ23
import Derived.Test.YtialfdomhoojiaaGreatJ12
import Derived.Test.YtialfdomhoojiaaGreatJ11
import Derived.Test.YtialfdomhoojiaaGreatJ24
import Derived.Test.YtialfdomhoojiaaGreatJ04
import Derived.Test.YtialfdomhoojiaaGreatJ15
import Derived.Test.YtialfdomhoojiaaGreatJ01
import Derived.Test.YtialfdomhoojiaaGreatGB
set_option linter.unusedSimpArgs false
set_option linter.unusedVariables false
namespace Go.Proofs.YtialfdomhoojiaaGreat
open Go.RowKit
def vT (p:Pl) (O:List (List Int)) (k:Nat):List Int:=(List.range k).map (jW p O)
theorem IX (p:Pl) (O:List (List Int)) (k:Nat):(vT p O k).length=k:=by unfold vT;simp
theorem aib (p:Pl) (O:List (List Int)) (k:Nat):vT p O (k+1)=vT p O k++[jW p O k]:=by unfold vT;rw [List.range_succ,List.map_append];rfl
theorem jw.aic {p:Pl} {L:List AD} {O:List (List Int)} {N:List Nd} (h:jw p L O (qM p) N) {i:Nat} (hi:i<L.length):(xu L[i]).map (·.1)=uK p O i:=by
 have hl:=h.len;unfold xu uK GI XJ;rw [List.map_cons,h.inn i hi];congr 1;by_cases e:i=0
 · subst e;exact h.aho hi
 ·show L[i].out=_
  rw [h.RH hi (by omega),IC (by omega) (by omega)];rfl
section
variable {p:Pl} (h:Valid p)
include h
theorem Valid.aie {O:List (List Int)} (hO:∀ X∈O,X∈jc p) {i:Nat} {c:List Int} (hc:c∈uK p O i) {d:Int} (hd:d∈c):d∈dS p:=by
 unfold uK GI at hc;rcases List.mem_cons.1 hc with rfl | hc
 ·unfold rD at hd;split at hd
  · cases hd
  · cases e:O[i-1]? with
   | none=>rw [e] at hd;cases hd
   | some X =>
    rw [e] at hd;exact (h.Bv (J9.1 (hO X (List.mem_of_getElem? e))).1).2 d hd
 ·have:=List.mem_filter.1 hc
  exact (h.Bv (XI.1 this.1).1).2 d hd
end
def aif (w:World) (p:Pl) (O:List (List Int)) (e:Ending) (w':World):Prop :=
 ∃ A n c,e=.returned (.tuple #[.slice A n c,.bool (uM p)])/\Below w.heap.size w w'/\(uM p=true->Own w' w.heap.size 3 1 dX (.slice A n c) (vT p O (O.length+1)))
theorem aii {p:Pl} {O:List (List Int)} (hO:O.Perm (jc p)) {k:Nat} (hk:k<=O.length) (h:(1<=k/\jW p O k=0)\/(1<=k/\jW p O k∈kN p O k)\/∃ c∈uK p O k,∃ d∈c,iF p d≠jW p O k):uM p=false:=by
 rw [<- Bool.not_eq_true,aas hO];rintro ⟨hu,-⟩;rcases h with ⟨h1,h⟩ | ⟨h1,h⟩ | ⟨c,hc,d,hd,h⟩
 · exact hu.some k h1 (by omega) h
 ·obtain ⟨i,h2,h3,h4⟩:=aaq.1 h;exact hu.differ i k h2 h3 (by omega) h4
 · exact h (hu.sides k (by omega) c hc d hd)
set_option maxRecDepth 100000 in
set_option maxHeartbeats 8000000 in
theorem aij (v vl:Value) (p:Pl) (L:List AD) (O:List (List Int)) (N:List Nd) (w:World) (h:dh w v p) (hv:Valid p) (hl:xO w vl L) (hd:jw p L O (qM p) N) (hO:O.Perm (jc p)) :
  Calls Tryz.prog 108 #[v,vl] w (aif w p O):=by
 have JJ:=Lib.hid (fun d (hd:cZ d) W (hW:Below w.heap.size w W)=>aem v p d W (h.mono hW) hv.short.long hd);have HV:=Lib.hid hv;have HL:=Lib.hid hl;have HD:=Lib.hid hd;have aaH:=hd.len;have hol:O.length<=512:=by
  rw [hO.length_eq];exact Nat.le_trans (List.length_filter_le _ _) hv.RI
 have HSub:=Lib.hid hO.subset;have Pn:1<=L.length/\L.length<=513:=by omega
 have mX:=Lib.hid aaH;have HDa:=Lib.hid (fun i c (hc:c∈uK p O i) d (hd:d∈c)=>hv.aie (fun X hX=>hO.subset hX) hc hd);have ML:=Lib.hid (fun d (hd:d∈dS p)=>show cZ d from nR (by have:=hv.EF hd;omega) (by have:=hv.EF hd;omega));have zJ:=Lib.hid (fun i (hi:i<L.length)=>hd.aic hi);have jg:=Lib.hid (fun k (hk:k<=O.length)=>aii hO (k:=k) hk);have aaI:=Lib.hid (aas hO);have pO:=Lib.hid (fun i (hi:i<L.length)=>show L[i].inn.length<=512 from by
  have:=congrArg List.length (hd.inn i hi)
  rw [List.length_map] at this;rw [this];refine Nat.le_trans (List.length_filter_le _ _) ?_;exact Nat.le_trans (List.length_filter_le _ _) hv.RI)
 have HSb:=Lib.hid (fun d=>hv.ahs d);obtain ⟨Al,cl,rfl,hl1,hl2,hRl⟩:=hl.sl;obtain ⟨_,_,_,al,rfl,hpa,⟨An,cn,rfl,-⟩,⟨⟨Aa,ca,rfl,-⟩,-⟩,⟨Af,cf,rfl,-⟩⟩:=h;unfold maxLen at hl2;have hff:p.faces.length<=64:=(Oo hv.lim).2.2.2.1;have HRl:=Lib.hid hRl;generalize p.nodes.length=nn at *;generalize al.length=na at *;obtain ⟨nf,hnf⟩:∃ nf,p.faces.length=nf:=⟨_,rfl⟩;rw [hnf] at hff aaI JJ ⊢;have IY:=Lib.hid hnf;clear hpa hRl hv hl hd hnf aaH;have hmm:=@run_makeMap Tryz.prog;go_enter Tryz.func108,Tryz.ntmps108;go_upto_region 2 with fail;obtain ⟨gm,hgm⟩:∃ gm,gm=w.heap.size+1:=⟨_,rfl⟩;obtain ⟨W1,hW⟩:∃ W:World,W=(w.alloc (.cells #[.slice An nn cn,.slice Aa na ca,.slice Af nf cf] 26)).alloc (.map #[] 0):=⟨_,rfl⟩;have X1:ah W1 w.heap.size 26 #[.slice An nn cn,.slice Aa na ca,.slice Af nf cf]:=by rw [hW];exact (ah.made rfl _ _).alloc _
 have jS:=Lib.hid (show gK W1 gm [] by
  have:=gK.made (w.alloc (.cells #[.slice An nn cn,.slice Aa na ca,.slice Af nf cf] 26))
  rw [hW,hgm];simpa using this)
 have HB1:=Lib.hid (show Below w.heap.size w W1 by rw [hW];exact bA (bA (bR w) _) _);have hgl:w.heap.size<gm:=by omega
 rw [<- hW,<- hgm];clear hW hgm hmm;have iE:=Lib.hid X1;clear X1;go_upto_block 0 with fail;go_wp2_with fail;go_loopw [4,17] (fun s i wr=>∃ k:Nat,k<=L.length/\i=.int .i64 k/\(∃ A c,s=.slice A k c)/\Own wr w.heap.size 3 1 dX s (vT p O k)/\gK wr gm (kN p O k)/\rE p O k/\ah wr w.heap.size 26 #[.slice An nn cn,.slice Aa na ca,.slice Af nf cf]/\Below w.heap.size w wr) (fun _ i _=>L.length-(intOf i).toNat)
 case atStart => exact ⟨0,Nat.zero_le _,rfl,⟨_,_,rfl⟩,Own.nil _ _ _ _ _,jS.out,rE.zero p O,iE.out,HB1.out⟩
 case round =>
  clear iE jS HB1;obtain ⟨k,hk,rfl,⟨A,c,rfl⟩,ho,hm,hu,X1,hb⟩:=hrel;obtain ⟨wo,rfl⟩:∃ wo:World,wo=wr:=⟨_,rfl⟩;have HO:=Lib.hid ho;have HM:=Lib.hid hm;have HU:=Lib.hid hu;have HX:=Lib.hid X1;have Hb:=Lib.hid hb;have hfl:=IX p O k;have hsl:=ahv p O k;have aik:=hm.lt;clear ho hm hu hb;by_cases hlt:k<L.length
  ·have hko:k<=O.length:=by have:=mX.out;omega
   obtain ⟨b,o,rfl,hlb,c0,c1,c2,c3⟩:=(HRl.out.mono Hb.out).ad hlt;have hcy:=zJ.out k hlt;have hcl:=pO.out k hlt;have hout:=HL.out.out _ (List.getElem_mem hlt);have pR:=HL.out.inn _ (List.getElem_mem hlt);have CW:=HL.out.jA _ (List.getElem_mem hlt);have hfc:1<=k->L[k].out≠[]/\jW p O k=iF p (L[k].out.headD 0):=fun h1=>by
    have e1:=HD.out.RH hlt h1;have hX:O[k-1]'(by omega)∈O:=List.getElem_mem _;rw [e1];exact ⟨HV.out.Me (J9.1 (HSub.out hX)).1,CS h1 hko⟩
   generalize L[k]=x at *;obtain ⟨tw,out,⟨oa,on,oc⟩,inn,⟨ia,vG,ic⟩,dM,⟨aa,an,ac⟩⟩:=x;unfold aP at c1 c2 c3 hout pR;simp only at c0 c1 c2 c3 hout pR hcy CW hcl hfc;obtain ⟨fc,SK⟩:∃ fc,jW p O k=fc:=⟨_,rfl⟩;have LH:=Lib.hid (aib p O k);have SL:=Lib.hid (fun h=>ahu p O (k:=k) h);rw [SK] at hfc LH SL;have C9:=Lib.hid SK;have SN:=Lib.hid hcy;have SQ:=Lib.hid hout;have jD:=Lib.hid pR;have Fb:=Lib.hid CW;have HFh:=Lib.hid hfc;clear hcy hout pR CW hfc SK;have hfb:0<=fc/\fc<=1073741824:=by
    rw [<- C9.out];unfold jW Ko;split
    · omega
    · exact HSb.out _
   have hf0:k=0->fc=0:=fun e=>by rw [<- C9.out,e];rfl
   have hwf:cZ fc:=nR (by omega) (by omega);have Eb:=Lib.hid hwf;clear hwf;go_upto_region 5 with fail;obtain ⟨W2,hW⟩:∃ W:World,W=wo.alloc (.cells #[.int .i64 tw,.slice oa on oc,.slice ia vG ic,.slice aa an ac] 82):=⟨_,rfl⟩;have hA:Below wo.heap.size wo W2:=by rw [hW];exact bA (bR wo) _
   have X5:ah W2 wo.heap.size 82 #[.int .i64 tw,.slice oa on oc,.slice ia vG ic,.slice aa an ac]:=by rw [hW];exact ah.made rfl _ _
   replace X1:=X1.keep hA;have iT:=Lib.hid (HO.out.keep hA);have eF:=Lib.hid X1;have bP:=Lib.hid X5;have AV:=Lib.hid (HM.out.keep hA);have HB2:=Lib.hid (bT Hb.out hA);have aaJ:=Lib.hid (SQ.out.mono (bT Hb.out hA));have hz2:=Hb.out.size;rw [<- hW];clear hW hA HO HM HX Hb c0 c1 c2 c3 hlb;obtain ⟨g5,hg5⟩:∃ g5,wo.heap.size=g5:=⟨_,rfl⟩;rw [hg5] at bP X5 hz2 aik ⊢;clear hg5;have hS0:k=0->kN p O (k+1)=kN p O k:=fun e=>by subst e;rfl
   have J6:=Lib.hid hS0;clear hS0;have hkn:O.length<=512:=hol;go_upto_if 23 with fail;go_cut [9,4,5] (fun f s q wx=>f=.int .i64 fc/\s=.slice A k c/\gK wx gm (kN p O (k+1))/\Own wx w.heap.size 3 1 dX (.slice A k c) (vT p O k)/\ah wx w.heap.size 26 #[.slice An nn cn,.slice Aa na ca,.slice Af nf cf]/\ah wx g5 82 #[.int .i64 tw,.slice oa on oc,.slice ia vG ic,.slice aa an ac]/\Below w.heap.size w wx/\(1<=k->fc≠0/\fc∉kN p O k))
   case first =>
    rcases Nat.eq_zero_or_pos k with h0 | h0
    ·have e1:=hf0 h0;have hk0:¬ (0:Int)<(k:Int):=by omega
     have kG:=AV.out;rw [<- J6.out h0] at kG;have mP:=Lib.hid kG;have HE:=Lib.hid e1;clear kG e1 hf0 h0 X1 X5;go_wp2_with fail;go_meet
     case rel => exact ⟨by rw [HE.out],rfl,mP.out,iT.out,eF.out,bP.out,HB2.out,fun h=>by omega⟩
    ·have hk0:(0:Int)<(k:Int):=by omega
     obtain ⟨hne,hfe⟩:=HFh.out h0;have hkl:0<out.length:=List.length_pos_iff.2 hne;have hhd:out.headD 0=out[0]:=by
      cases out with
      | nil=>exact absurd rfl hne
      | cons d l'=>rfl
     rw [hhd] at hfe;obtain ⟨Ao,co,hel,-,-,hRo⟩:=aaJ.out;injection hel with y1 y2 y3;subst y1 y2 y3;obtain ⟨bl,ol,RX,RY,d0⟩:=(hRo).int hkl;subst RX;simp only [Nat.add_zero] at d0;have kz:(0:Int)<out.length:=by omega
     have kn:¬ out=[]:=hne;have hmem:out[0]∈dS p:=HDa.out k out (by rw [<- SN.out];exact List.mem_cons_self) _ (List.getElem_mem hkl);have wP:=Lib.hid (fun W (hW:Below w.heap.size w W)=>JJ.out out[0] (ML.out _ hmem) W hW);generalize out[0]=dd at *;rw [<- hfe] at wP;have wX:=Lib.hid (jg.out k hko);rw [C9.out] at wX;have HSk:=Lib.hid (SL.out h0);clear hhd hfe hmem hRo hf0;obtain ⟨aZ,bf,bg,bK,-,-,-⟩:=X1.aJ;obtain ⟨bV,bW,dH,iR,qG,-,-,-,-⟩:=X5.Nv;go_upto_region 7 with fail;refine dN (Since W2) (.run 5 0 0 (.call 5 63 (.take 6 127 (.done)))) (by kernel_rfl) (bD (bR _)) (by kernel_rfl) (by kernel_rfl) (Nat.le_of_ble_eq_true (by kernel_rfl)) ?_;intro dO QR aj aA hS
     iterate 5
      apply aH;exact aj;exact rfl;exact hS;exact rfl
      · intro _ hqc;go_simp;try rfl
      try simp only [pu]
     refine aS (i:=5) (aB aj rfl) (fun K hK=>?_);have ak:=Lib.hid hS;clear hS;refine aG (aN rfl) ?_;go_simp;refine (wP.out _ (bT HB2.out ak.out)).mono ?_;rintro e bY ⟨rfl,dB⟩;have hS:Since W2 bY:=bT (w:=W2) ak.out dB;clear ak;refine hK.out _ _ hS (fun _=>?_);clear hK K
     try simp only [pu]
     apply aH;exact aj;exact rfl;exact hS;exact rfl
     · intro _ hqc;go_simp;try rfl
     try simp only [pu]
     refine dF ?_;refine aA.down _ _ ?_;have hB:Below W2.heap.size W2 bY:=hS;clear hS aA aj;have HB3:=Lib.hid (bT HB2.out hB);have iC:=Lib.hid (iT.out.keep hB);have dP:=Lib.hid (eF.out.keep hB);have xQ:=Lib.hid (bP.out.keep hB);have mP:=Lib.hid (AV.out.keep hB);clear hB X1 aZ bf bg bK X5 bV bW dH iR qG d0 dB AV iT eF bP HB2 RY kz kn wP;by_cases z:fc=0
     ·have z1:(fc == 0)=true:=by simpa using z
      have hf:=wX.out (.inl ⟨h0,z⟩);have HF:=Lib.hid hf;clear z hf;go_wp2_with fail;go_ret2;exact ⟨none,0,0,by rw [HF.out];rfl,HB3.out,fun e=>by rw [HF.out] at e;cases e⟩
     ·have z1:(fc == 0)=false:=by simpa using z
      have hlk:=mP.out.look fc Eb.out;by_cases z2:fc∈kN p O k
      ·have hf:=wX.out (.inr (.inl ⟨h0,z2⟩));have HF:=Lib.hid hf;rw [decide_eq_true z2] at hlk;clear z hf z2;go_wp2_with fail;go_ret2;exact ⟨none,0,0,by rw [HF.out];rfl,HB3.out,fun e=>by rw [HF.out] at e;cases e⟩
      ·rw [decide_eq_false z2] at hlk;obtain ⟨w6,hr6,E8,sS⟩:=mP.out.upd (by omega) fc Eb.out z2;rw [<- HSk.out] at E8;have vF:=Lib.hid E8;have HZ:=Lib.hid (show fc≠0/\fc∉kN p O k from ⟨z,z2⟩);have BF:=Lib.hid (Own.grown iC.out sS (fun g hg e=>ZE mP.out iC.out (by rw [hg,e])));have nZ:=Lib.hid (ah.grown dP.out sS (fun e=>QI mP.out dP.out (Option.some.inj e)));have Sr:=Lib.hid (ah.grown xQ.out sS (fun e=>QI mP.out xQ.out (Option.some.inj e)));have lQ:=Lib.hid (bG HB3.out sS (fun g hg=>by have:=Option.some.inj hg;omega));clear E8 sS z z2;go_wp2_with fail;go_meet
       case rel => exact ⟨rfl,rfl,vF.out,BF.out,nZ.out,Sr.out,lQ.out,fun _=>HZ.out⟩
   case rest =>
    obtain ⟨rfl,rfl,kG,ho3,X1,X5,hb3,hzz⟩:=hcut;have mP:=Lib.hid kG;have iC:=Lib.hid ho3;have dP:=Lib.hid X1;have xQ:=Lib.hid X5;have HB3:=Lib.hid hb3;have HZ:=Lib.hid hzz;have wO:=afR ⟨tw,out,⟨oa,on,oc⟩,inn,⟨ia,vG,ic⟩,dM,⟨aa,an,ac⟩⟩ wc (jD.out.mono hb3) (by show inn.length<=100000;omega);have aj8:(xu ⟨tw,out,⟨oa,on,oc⟩,inn,⟨ia,vG,ic⟩,dM,⟨aa,an,ac⟩⟩).length<=513:=by show inn.length+1<=513;omega
    have hcr:∀ y∈xu ⟨tw,out,⟨oa,on,oc⟩,inn,⟨ia,vG,ic⟩,dM,⟨aa,an,ac⟩⟩,Ints w (aP y.2) y.1:=fun y hy=>by
     rcases List.mem_cons.1 hy with rfl | hy
     · exact SQ.out
     · exact Fb.out y hy
    have hck:=SN.out;unfold aP at wO;simp only at wO;generalize xu ⟨tw,out,⟨oa,on,oc⟩,inn,⟨ia,vG,ic⟩,dM,⟨aa,an,ac⟩⟩=CY at *;have Gj:=Lib.hid wO;have MX:=Lib.hid hcr;have HDy:=Lib.hid (fun q (hq:q<CY.length) d (hd:d∈CY[q].1)=>HDa.out k CY[q].1 (by rw [<- hck];exact List.mem_map_of_mem (List.getElem_mem hq)) d hd);have LJ:=Lib.hid (fun q (hq:q<CY.length)=>show CY[q].1∈uK p O k from by rw [<- hck];exact List.mem_map_of_mem (List.getElem_mem hq));have ail:=Lib.hid (fun (h:∀ q (hq:q<CY.length),∀ d∈CY[q].1,iF p d=fc)=>show ∀ c∈uK p O k,∀ d∈c,iF p d=jW p O k from fun c hc d hd=>by
     rw [<- hck] at hc;obtain ⟨y,hy,rfl⟩:=List.mem_map.1 hc;obtain ⟨q,hq,rfl⟩:=List.mem_iff_getElem.1 hy;rw [C9.out];exact h q hq d hd)
    have wX:=Lib.hid (jg.out k hko);rw [C9.out] at wX;clear kG ho3 hb3 hzz AV iT eF bP HB2 wO hcr hck aaJ SN SQ jD Fb HFh hf0 J6 SL
    try clear bV
    try clear bW
    try clear dH
    try clear iR
    try clear qG
    obtain ⟨bV,bW,dH,iR,qG,-,-,-,-⟩:=X5.Nv;go_wp2_with fail;refine Gj.out.mono ?_;rintro e w3 ⟨⟨A2,c2,rfl,ho2⟩,hb4⟩;have HB4:=Lib.hid (bT HB3.out hb4);have ni:=Lib.hid (iC.out.keep hb4);have dJ:=Lib.hid (dP.out.keep hb4);have AX:=Lib.hid (mP.out.keep hb4);have HR4:=Lib.hid ho2.row_of;have hz4:=hb4.size;clear ho2 hb4 HB3 iC dP xQ mP X1 X5 bV bW dH iR qG Gj;go_upto_block 2 with fail;go_wp2_with fail;go_loopw [4,42] (fun s i wr=>s=.slice A k c/\∃ j:Nat,j<=CY.length/\i=.int .i64 j/\(∀ q (hq:q<CY.length),q<j->∀ d∈CY[q].1,iF p d=fc)/\Below w3.heap.size w3 wr) (fun _ i _=>CY.length-(intOf i).toNat)
    case atStart => exact ⟨rfl,0,Nat.zero_le _,rfl,(fun q _ h=>by omega),bR w3⟩
    case round =>
     obtain ⟨rfl,j,hj,rfl,hall,hb5⟩:=hrel;have vC:=Lib.hid hall;have cO:=Lib.hid hb5;clear hall hb5;by_cases hlj:j<CY.length
     ·obtain ⟨b,o,rfl,hlb,c0⟩:=(HR4.out.mono cO.out).cy hlj;have hin:=(MX.out CY[j] (List.getElem_mem hlj)).mono (bT HB4.out cO.out);have hdy:=HDy.out j hlj;have Fa:=Lib.hid (LJ.out j hlj);have zh:=Lib.hid (fun (h:∀ d∈CY[j].1,iF p d=fc)=>all_succ (p:=fun y:List Int×SV=>∀ d∈y.1,iF p d=fc) vC.out hlj h);generalize CY[j]=x at *;obtain ⟨X,xa,xn,xc⟩:=x;unfold aP at hin;simp only at hin c0 hdy Fa zh;obtain ⟨Ax,cx,he,hx1,hx2,hRx⟩:=hin;injection he with y1 y2 y3;subst y1 y2 y3;unfold maxLen at hx2;have hxl:X.length<=9223372036854775807:=by omega
      have MZ:=Lib.hid hRx;have HDx:=Lib.hid hdy;clear hRx hdy;obtain ⟨wq,rfl⟩:∃ wq:World,wq=wr:=⟨_,rfl⟩;go_upto_block 4 with fail;clear c0 hlb;go_wp2_with fail;go_loopw [4,48] (fun s i wr=>s=.slice A k c/\∃ m:Nat,m<=X.length/\i=.int .i64 m/\(∀ q (hq:q<X.length),q<m->iF p X[q]=fc)/\Below wq.heap.size wq wr) (fun _ i _=>X.length-(intOf i).toNat)
      case atStart => exact ⟨rfl,0,Nat.zero_le _,rfl,(fun q _ h=>by omega),bR wq⟩
      case round =>
       obtain ⟨rfl,m,hmm,rfl,hall,hb6⟩:=hrel;have aaK:=Lib.hid hall;have lQ:=Lib.hid hb6;have kX:=Lib.hid (bT HB4.out (bT cO.out hb6));clear hall hb6;by_cases hlm:m<X.length
       ·obtain ⟨b2,o2,rfl,ain,e0⟩:=(MZ.out.mono lQ.out).int hlm;have hdm:=HDx.out X[m] (List.getElem_mem hlm);have wP:=Lib.hid (fun W (hW:Below w.heap.size w W)=>JJ.out X[m] (ML.out _ hdm) W hW);have sF:=Lib.hid (fun (h:iF p X[m]≠fc)=>wX.out (.inr (.inr ⟨X,Fa.out,X[m],List.getElem_mem hlm,h⟩)));have PO:=Lib.hid (fun (h:iF p X[m]=fc)=>all_succ (p:=fun d=>iF p d=fc) aaK.out hlm h);generalize X[m]=dd at *;obtain ⟨sd,hsd⟩:∃ sd,iF p dd=sd:=⟨_,rfl⟩;rw [hsd] at wP sF PO;have X1:=dJ.out.keep (bT cO.out lQ.out);clear hsd hdm
        try clear aZ
        try clear bf
        try clear bg
        try clear bK
        obtain ⟨aZ,bf,bg,bK,-,-,-⟩:=X1.aJ;go_wp2_with fail;refine (wP.out _ kX.out).mono ?_;rintro e w7 ⟨rfl,hb7⟩;have jT:=Lib.hid (bT lQ.out hb7);have aio:=Lib.hid (bT kX.out hb7);clear hb7 X1 aZ bf bg bK e0 ain wP;by_cases z:sd=fc
        ·have z1:(sd != fc)=false:=by simpa using z
         have HYz:=Lib.hid (PO.out z);clear z;go_wp2_with fail;go_roundw
         case rel => exact ⟨rfl,m+1,by omega,by go_num,HYz.out,jT.out⟩
         case measure => simp [intOf];omega
        ·have z1:(sd != fc)=true:=by simpa using z
         have HF:=Lib.hid (sF.out z);clear z;go_wp2_with fail;go_ret2;exact ⟨none,0,0,by rw [HF.out];rfl,aio.out,fun e=>by rw [HF.out] at e;cases e⟩
       ·have hmx:m=X.length:=by omega
        have HNz:=Lib.hid (zh.out fun d hd=>by
         obtain ⟨q,hq,rfl⟩:=List.mem_iff_getElem.1 hd;exact aaK.out q hq (by omega))
        clear hmx;go_wp2_with fail;go_roundw
        case rel => exact ⟨rfl,j+1,by omega,by go_num,HNz.out,bT cO.out lQ.out⟩
        case measure => simp [intOf];omega
     ·have hjx:j=CY.length:=by omega
      have HUk:=Lib.hid (HU.out.succ (fun h=>by rw [C9.out];exact (HZ.out h).1) (fun h=>by rw [C9.out];exact (HZ.out h).2) (ail.out fun q hq=>vC.out q hq (by omega)));have bP:=Lib.hid (dJ.out.keep cO.out);have vP:=Lib.hid (ni.out.keep cO.out);have zy:=Lib.hid (AX.out.keep cO.out);have Ip:=Lib.hid (bT HB4.out cO.out);have n1:=Own.fD vP.out bP.out (by decide);have n2:=ZE zy.out vP.out;have aaL:=IX p O (k+1);clear hjx dJ ni AX HB4 HR4;go_upto_region 22 with
       (at_builtin
        refine jX _ rfl (.tmp 59) (.tmp 61) _ rfl (base:=w.heap.size) uQ qc uS rfl (Own.alloc vP.out _) rfl (l2:=[fc]) (Sl.lit (n:=1) (ah.made rfl _ _) rfl (eG (by omega))) (by simp only [List.length_cons,List.length_nil];omega) (by simp only [List.length_cons,List.length_nil];omega) (by have:=Ip.out.size;simp;omega) ?_;intro v8 w8 Na Nb aip;rw [<- LH.out] at Na;obtain ⟨A8,c8,hv8,-⟩:=Own.qO Na;rw [aaL] at hv8;subst hv8;have Ro:=Lib.hid Na;have HM8:=Lib.hid ((zy.out.keep (bA (bR wr) _)).kept Nb (fun e=>n2 e.symm));have OB:=Lib.hid (ah.grown (bP.out.alloc _) Nb (fun e=>n1 e.symm));have ku:=Lib.hid (bG (bA Ip.out _) Nb (fun g hg=>(vP.out.lt g hg).1));clear Na Nb aip
        )
      clear n1 n2 aaL;go_wp2_with fail;go_roundw
      case rel => exact ⟨k+1,by omega,by go_num,⟨A8,c8,rfl⟩,Ro.out,HM8.out,HUk.out,OB.out,ku.out⟩
      case measure => simp [intOf];omega
  ·have hkk:k=L.length:=by omega
   have SS:O.length+1=k:=by have:=mX.out;omega
   have hlen:=fun ty=>(HM.out.keep (bD (bR wo))).len ty;have hres:uM p=(((kN p O k).length:Int) == (nf:Int)):=by
    have hy:=aaI.out;rw [SS] at hy;rw [Bool.eq_iff_iff,hy,hsl];constructor
    · rintro ⟨-,e⟩;simp;omega
    · intro e;simp at e;exact ⟨HU.out,by omega⟩
   have ho:=HO.out;have SX:=Lib.hid (show Own wo w.heap.size 3 1 dX (.slice A k c) (vT p O (O.length+1)) by rw [SS];exact ho);have HRe:=Lib.hid hres;generalize kN p O k=S at *;clear hres ho hkk SS hsl
   try clear aZ
   try clear bf
   try clear bg
   try clear bK
   obtain ⟨aZ,bf,bg,bK,-,-,-⟩:=X1.aJ;go_upto_region 23 with fail;refine dN (Since wo) (.take 0 1 (.take 1 3 (.run 3 3 3 (.call 2 63 (.run 3 6 63 (.done)))))) (by kernel_rfl) (bD (bR _)) (by kernel_rfl) (by kernel_rfl) (Nat.le_of_ble_eq_true (by kernel_rfl)) ?_;intro dO QR aj aA hS
   iterate 5
    apply aH;exact aj;exact rfl;exact hS;exact rfl
    · intro _ hqc;go_simp;try rfl
    try simp only [pu]
   refine aS (i:=2) (aB aj rfl) (fun K hK=>?_);have ak:=Lib.hid hS;clear hS;refine aG (aN rfl) ?_;go_simp;refine hK.out _ _ ak.out (fun hS=>?_);clear hK K ak
   try simp only [pu]
   iterate 3
    apply aH;exact aj;exact rfl;exact hS;exact rfl
    · intro _ hqc;go_simp;try rfl
    try simp only [pu]
   refine dF ?_;refine aA.down _ _ ?_;have hB:Below wo.heap.size wo _:=hS;clear hS aA aj;have CO:=Lib.hid (bT Hb.out hB);have aiq:=Lib.hid (SX.out.keep hB);clear hB;go_wp2_with fail;go_ret2;exact ⟨A,k,c,by rw [HRe.out];rfl,CO.out,fun _=>aiq.out⟩
theorem pU.fM {w:World} {B B':Nat} {v:Value} {L:List AD} (h:pU w B v L) (hb:B'<=B):pU w B' v L :=
 ⟨h.own.fM hb,fun x hx=>(h.out x hx).fM hb,fun x hx=>(h.inn x hx).fM hb,fun x hx c hc=>(h.jA x hx c hc).fM hb,fun x hx=>(h.dM x hx).fM hb⟩
theorem pU.face {w:World} {B g n c:Nat} {L:List AD} (h:pU w B (.slice (some ⟨g,0,none⟩) n c) L) {i:Nat} (hi:i<L.length) (f:Int) :
  pU (w.setCell ⟨g,i*4,none⟩ (.int .i64 f)) B (.slice (some ⟨g,0,none⟩) n c) (L.set i {L[i] with tw:=f}):=by
 have hm:=List.getElem_mem hi;refine ⟨?_,fun x hx=>?_,fun x hx=>?_,fun x hx=>?_,fun x hx=>?_⟩
 ·have:=Own.Jr KG h.own hi (j:=0) (by omega) {L[i] with tw:=f} (.int .i64 f) rfl
  simpa using this
 ·rcases rF hx with ⟨rfl,_⟩ | ⟨j,hj,_,rfl⟩
  · exact Own.zL (h.out L[i] hm) h.own (by decide) _ _
  · exact Own.zL (h.out _ (List.getElem_mem hj)) h.own (by decide) _ _
 ·rcases rF hx with ⟨rfl,_⟩ | ⟨j,hj,_,rfl⟩
  · exact Own.zL (h.inn L[i] hm) h.own (by decide) _ _
  · exact Own.zL (h.inn _ (List.getElem_mem hj)) h.own (by decide) _ _
 ·rcases rF hx with ⟨rfl,_⟩ | ⟨j,hj,_,rfl⟩
  · exact fun c hc=>Own.zL (h.jA L[i] hm c hc) h.own (by decide) _ _
  · exact fun c hc=>Own.zL (h.jA _ (List.getElem_mem hj) c hc) h.own (by decide) _ _
 ·rcases rF hx with ⟨rfl,_⟩ | ⟨j,hj,_,rfl⟩
  · exact Own.zL (h.dM L[i] hm) h.own (by decide) _ _
  · exact Own.zL (h.dM _ (List.getElem_mem hj)) h.own (by decide) _ _
structure Nc (n:Nat) (v:Value) (L:List AD):Prop where
 own:∀ q,v.ownBlock=some q->q<n
 out:∀ x∈L,∀ q,(aP x.ov).ownBlock=some q->q<n
 inn:∀ x∈L,∀ q,(aP x.iv).ownBlock=some q->q<n
 jA:∀ x∈L,∀ c∈x.inn,∀ q,(aP c.2).ownBlock=some q->q<n
 dM:∀ x∈L,∀ q,(aP x.av).ownBlock=some q->q<n
theorem Nc.face {n:Nat} {v:Value} {L L':List AD} (h:Nc n v L) (hl:∀ x∈L',∃ y∈L,∃ t,x = {y with tw:=t}):Nc n v L' :=
 ⟨h.own,fun x hx=>by obtain ⟨y,hy,t,rfl⟩:=hl x hx;exact h.out y hy,fun x hx=>by obtain ⟨y,hy,t,rfl⟩:=hl x hx;exact h.inn y hy,fun x hx=>by obtain ⟨y,hy,t,rfl⟩:=hl x hx;exact h.jA y hy,fun x hx=>by obtain ⟨y,hy,t,rfl⟩:=hl x hx;exact h.dM y hy⟩
theorem pU.grown {w w':World} {B n:Nat} {v:Value} {L:List AD} {row:Option Nat} (h:pU w B v L) (hl:Nc n v L) (hg:w.grownBy w' row) (hr:∀ q,row=some q->n<=q):pU w' B v L:=by
 have ne:∀ g,g<n->some g≠row:=fun g hgn e=>by have:=hr g e.symm;omega
 exact ⟨Own.grown h.own hg (fun g hg=>ne g (hl.own g hg)),fun x hx=>Own.grown (h.out x hx) hg (fun g hg=>ne g (hl.out x hx g hg)),fun x hx=>Own.grown (h.inn x hx) hg (fun g hg=>ne g (hl.inn x hx g hg)),fun x hx c hc=>Own.grown (h.jA x hx c hc) hg (fun g hg=>ne g (hl.jA x hx c hc g hg)),fun x hx=>Own.grown (h.dM x hx) hg (fun g hg=>ne g (hl.dM x hx g hg))⟩
theorem rE.nodup {p:Pl} {O:List (List Int)} {k:Nat} (h:rE p O k):(kN p O k).Nodup:=by
 unfold kN List.Nodup;rw [List.pairwise_map,List.pairwise_iff_getElem];intro i j hi hj hij;simp only [List.length_range] at hi hj;simp only [List.getElem_range];exact h.differ (i+1) (j+1) (by omega) (by omega) (by omega)
end Go.Proofs.YtialfdomhoojiaaGreat
