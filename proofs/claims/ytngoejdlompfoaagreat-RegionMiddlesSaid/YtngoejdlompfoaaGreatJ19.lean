import Derived.Test.YtngoejdlompfoaaGreatJ18
import Derived.Test.YtngoejdlompfoaaGreatLaySortRg
set_option linter.unusedSimpArgs false
set_option linter.unusedVariables false
set_option maxRecDepth 100000
set_option maxHeartbeats 8000000
namespace Go.Proofs.YtngoejdlompfoaaGreat
open Go.RowKit Tryz
def PO(p:Pl)(O:List<|List Int)(k:Nat):List Int:=(List.range k).map<|IJ p O
theorem Vr(p:Pl)(O:List<|List Int)(k:Nat):(PO p O k).length=k:=by unfold PO;simp
theorem au7(p:Pl)(O:List<|List Int)(k:Nat):PO p O (k+1)=PO p O k++[IJ p O k]:=by unfold PO;rw[aU,Gt];rfl
theorem Gn.aFe{p:Pl}{L:List AD}{O:List<|List Int}{N:List Nd}(h:Gn p L O (Gj p) N){i:Nat}(hi:i<L.length):(Nz L[i]).map (·.1)=Nw p O i:=by
 have c:=h.len;unfold Nz Nw GN Mc;rw[FB,h.inn i hi];congr 1;by_cases e:i=0;.subst e;exact h.ajF hi
 show L[i].out=_;rw[h.kN hi I,YC I I];rfl
section
variable{p:Pl}(h:Valid p)
include h
theorem Valid.ae2{O:List<|List Int}(o:∀X∈O,X∈BN p){i:Nat}{c:List Int}(j:c∈Nw p O i){d:Int}(hd:d∈c):d∈BZ p:=by
 unfold Nw GN at j;rcases Dv.1 j with rfl|j
 .unfold NU at hd;split at hd;.cases hd
  cases e:O[i-1]? with|none=>rw[e]at hd;cases hd|some X=>rw[e]at hd;exact(h.Fv (Gl.1<|o X<|aCc e).1).2 d hd
 have:=Nc.1 j;exact(h.Fv (VT.1 this.1).1).2 d hd
end
def au8(w:World)(p:Pl)(O:List<|List Int)(e:Ending)(w':World):Prop:=∃A n c,e=.returned (.tuple #[.slice A n c,.bool<|PD p])/\AU w w'/\(PD p=true->Own w' w.heap.size 3 1 DF (.slice A n c) (PO p O<|O.length+1))
theorem akN{p:Pl}{O:List<|List Int}(o:O.Perm<|BN p){k:Nat}(hk:k<=O.length)(h:1<=k/\IJ p O k=0\/1<=k/\IJ p O k∈Gp p O k\/∃c∈Nw p O k,∃d∈c,Ej p d≠IJ p O k):PD p=false:=by
 rw[<-Je,adM o];rintro⟨j,-⟩;rcases h with⟨h1,h⟩|⟨h1,h⟩|⟨c,s,d,hd,h⟩;.exact j.some k h1 I h
 .obtain⟨i,h2,h3,z⟩:=adL.1 h;exact j.differ i k h2 h3 I z
 exact h<|j.sides k I c s d hd
theorem au9(v vl:Value)(p:Pl)(L:List AD)(O:List<|List Int)(N:List Nd)(w:World)(h:Cj w v p)(hv:Valid p)(hl:U1 w vl L)(hd:Gn p L O (Gj p) N)(hO:O.Perm<|BN p):Calls prog 122 #[v,vl] w<|au8 w p O:=by
 obtain⟨Xk,HV,HL,HD⟩:=D9 (λd(hd:Eb d)W(hW:AU w W)=>aqv v p d W (h.mono hW) hv.short.long hd) hv hl hd;have akO:=hd.len;have hol:O.length<=512:=by rw[hO.length_eq];exact Du (NH _ _) hv.SX
 have HSub:=V hO.subset;have aAq:1<=L.length/\L.length<=513:=I;obtain⟨Jw,aB4,HWd,Kw,Fz,akP⟩:=Lp akO (λi c(hc:c∈Nw p O i)d(hd:d∈c)=>hv.ae2 (λX hX=>hO.subset hX) hc hd) (λd(hd:d∈BZ p)=>show Eb d from L8 xX xX) (λi(hi:i<L.length)=>hd.aFe hi) (λk(hk:k<=O.length)=>akN hO (k:=k) hk)<|adM hO;have Oq:=V (λi(hi:i<L.length)=>show L[i].inn.length<=512 from by have:=congrArg List.length<|hd.inn i hi;rw[D6]at this;rw[this];refine Du (NH _ _) ?_;exact Du (NH _ _) hv.SX);have HSb:=V λd=>hv.atT d;obtain⟨Al,cl,rfl,hl1,hl2,hRl⟩:=hl.sl;obtain⟨_,_,_,al,rfl,hpa,⟨An,cn,rfl,-⟩,⟨⟨Aa,ca,rfl,-⟩,-⟩,⟨Af,cf,rfl,-⟩⟩:=h;unfold maxLen at hl2;have hff:p.faces.length<=64:=(aAI hv.lim).2.2.2.1;have HRl:=V hRl;generalize p.nodes.length=nn at*;generalize al.length=na at*;obtain⟨nf,hnf⟩:=BM p.faces.length;rw[hnf]at hff akP Xk⊢;clear hpa hRl hv hl hd hnf akO;have hmm:=@run_makeMap prog;go_enter func122,ntmps122;go_upto_region 2 with fail;obtain⟨gm,hgm⟩:=BR<|w.heap.size+1;obtain⟨W1,hW⟩:∃W:World,W=(w.alloc<|.cells #[.slice An nn cn,.slice Aa na ca,.slice Af nf cf] 26).alloc (.map #[] 0):=⟨_,rfl⟩;have T:AO W1 w.heap.size 26 #[.slice An nn cn,.slice Aa na ca,.slice Af nf cf]:=by rw[hW];exact(AO.made rfl _ _).alloc _
 have MO:=V (show NV W1 gm []by have:=NV.made<|w.alloc<|.cells #[.slice An nn cn,.slice Aa na ca,.slice Af nf cf] 26;rw[hW,hgm];simpa using this);have HB1:=V (show AU w W1 by rw[hW];exact bA (bA (bR w) _) _);have hgl:w.heap.size<gm:=I;rw[<-hW,<-hgm];clear hW hgm hmm;have DU:=V T;clear T;go_upto_block 0 with fail;go_wp2_with fail;go_loopw[4,17](λs i wr=>∃k:Nat,k<=L.length/\i=.int .i64 k/\(∃A c,s=.slice A k c)/\Own wr w.heap.size 3 1 DF s (PO p O k)/\NV wr gm (Gp p O k)/\QY p O k/\AO wr w.heap.size 26 #[.slice An nn cn,.slice Aa na ca,.slice Af nf cf]/\AU w wr)λ_ i _=>L.length-(intOf i).toNat;case atStart=>exact⟨0,C9 _,rfl,⟨_,_,rfl⟩,Own.nil _ _ _ _ _,MO.1,QY.zero p O,DU.1,HB1.1⟩
 clear DU MO HB1;obtain⟨k,hk,rfl,⟨A,c,rfl⟩,ho,hm,hu,T,hb⟩:=hrel;obtain⟨wo,rfl⟩:=BR wr;obtain⟨HO,HM,HU,HX,Hb⟩:=G9 ho hm hu T hb;have hfl:=Vr p O k;have hsl:=aEY p O k;have auA:=hm.lt;clear ho hm hu hb;by_cases hlt:k<L.length
 .have hko:k<=O.length:=by have:=Jw.1;omega
  obtain⟨b,o,rfl,hlb,c0,c1,c2,c3⟩:=(HRl.1.mono Hb.1).ad hlt;have hcy:=Kw.1 k hlt;have hcl:=Oq.1 k hlt;have hout:=HL.1.out _<|BG hlt;have Jo:=HL.1.inn _<|BG hlt;have Qb:=HL.1.Ik _<|BG hlt;have hfc:1<=k->L[k].out≠[]/\IJ p O k=Ej p (L[k].out.headD 0):=λh1=>by have e1:=HD.1.kN hlt h1;have hX:O[k-1]'(by omega)∈O:=BG _;rw[e1];exact⟨HV.1.VF (Gl.1<|HSub.1 hX).1,aW h1 hko⟩
  generalize L[k]=x at*;obtain⟨tw,C,⟨oa,on,oc⟩,inn,⟨ia,IX,ic⟩,Ci,⟨aa,an,ac⟩⟩:=x;unfold BO at c1 c2 c3 hout Jo;simp only at c0 c1 c2 c3 hout Jo hcy Qb hcl hfc;obtain⟨M,fQ⟩:=BM<|IJ p O k;have vw:=V<|au7 p O k;have vM:=V λh=>ajH p O (k:=k) h;rw[fQ]at hfc vw vM;obtain⟨Ur,aB5,ae3,Gh,kV,HFh⟩:=Lp fQ hcy hout Jo Qb hfc;clear hcy hout Jo Qb hfc fQ;have hfb:0<=M/\M<=1073741824:=by
   rw[<-Ur.1];unfold IJ JZ;split;.omega
   exact HSb.1 _
  have hf0:k=0->M=0:=λe=>by rw[<-Ur.1,e];rfl
  have hwf:Eb M:=L8 I I;have sK:=V hwf;clear hwf;go_upto_region 5 with fail;obtain⟨W2,hW⟩:∃W:World,W=wo.alloc (.cells #[.int .i64 tw,.slice oa on oc,.slice ia IX ic,.slice aa an ac] 99):=⟨_,rfl⟩;have hA:AU wo W2:=by rw[hW];exact bA (bR wo) _
  have X5:AO W2 wo.heap.size 99 #[.int .i64 tw,.slice oa on oc,.slice ia IX ic,.slice aa an ac]:=by rw[hW];exact AO.made rfl _ _
  replace T:=T.keep hA;obtain⟨EZ,CW,D5,KH,HB2,akQ⟩:=Lp (HO.1.keep hA) T X5 (HM.1.keep hA) (J Hb.1 hA)<|ae3.1.mono<|J Hb.1 hA;have hz2:=Hb.1.size;rw[<-hW];clear hW hA HO HM HX Hb c0 c1 c2 c3 hlb;obtain⟨g5,hg5⟩:=BM wo.heap.size;rw[hg5]at D5 X5 hz2 auA⊢;clear hg5;have hS0:k=0->Gp p O (k+1)=Gp p O k:=λe=>by subst e;rfl
  have WC:=V hS0;clear hS0;have hkn:O.length<=512:=hol;go_upto_if 23 with fail;go_cut[9,4,5]λf s q wx=>f=.int .i64 M/\s=.slice A k c/\NV wx gm (Gp p O<|k+1)/\Own wx w.heap.size 3 1 DF (.slice A k c) (PO p O k)/\AO wx w.heap.size 26 #[.slice An nn cn,.slice Aa na ca,.slice Af nf cf]/\AO wx g5 99 #[.int .i64 tw,.slice oa on oc,.slice ia IX ic,.slice aa an ac]/\AU w wx/\(1<=k->M≠0/\M∉Gp p O k);case first=>
   rcases Xe k with h0|h0;.have e1:=hf0 h0;have hk0:¬(0:Int)<(k:Int):=I;have RS:=KH.1;rw[<-WC.1 h0]at RS;have Qy:=V RS;have HE:=V e1;clear RS e1 hf0 h0 T X5;go_wp2;go_meet;exact⟨by rw[HE.1],rfl,Qy.1,EZ.1,CW.1,D5.1,HB2.1,λh=>I⟩
   have hk0:(0:Int)<(k:Int):=I;obtain⟨hne,hfe⟩:=HFh.1 h0;have hkl:0<C.length:=ZG.2 hne;have hhd:C.headD 0=C[0]:=by cases C with|nil=>exact absurd rfl hne|cons d l'=>rfl
   rw[hhd]at hfe;obtain⟨Ao,co,hel,-,-,hRo⟩:=akQ.1;injection hel with y1 y2 y3;subst y1 y2 y3;obtain⟨bl,ol,oC,oD,d0⟩:=(hRo).int hkl;subst oC;simp only[VA]at d0;have kz:(0:Int)<C.length:=I;have kn:¬C=[]:=hne;have hmem:C[0]∈BZ p:=aB4.1 k C (by rw[<-aB5.1];exact ED) _<|BG hkl;have MK:=V λW(hW:AU w W)=>Xk.1 C[0] (HWd.1 _ hmem) W hW;generalize C[0]=dd at*;rw[<-hfe]at MK;have KI:=V<|Fz.1 k hko;rw[Ur.1]at KI;have HSk:=V<|vM.1 h0;clear hhd hfe hmem hRo hf0;obtain⟨Au,Aw,Az,BA,-⟩:=T.BF;obtain⟨CJ,CO,CQ,Gi,Vo,-⟩:=X5.MC;go_upto_region 7 with fail;refine CZ W2 (.run 5 0 0<|.call 5 63<|.take 6 127<|.done) λCG QR Ae Aj hS=>?_;iterate 5 refine Ah ?_
   refine FM (MK.1 _<|J HB2.1 hS) ?_;clear hS;intro Bv Bj hS;refine Ah ?_;refine CX ?_;clear hS Aj Ae;intro hB;obtain⟨HB3,Eo,FN,fH,Qy⟩:=G9 (J HB2.1 hB) (EZ.1.keep hB) (CW.1.keep hB) (D5.1.keep hB)<|KH.1.keep hB;clear hB T Au Aw Az BA X5 CJ CO CQ Gi Vo d0 Bj KH EZ CW D5 HB2 oD kz kn MK;by_cases z:M=0
   .have z1:(M==0)=true:=by simpa using z
    have hf:=KI.1<|.inl ⟨h0,z⟩;have HF:=V hf;clear z hf;go_wp2_with fail;go_ret2;exact⟨none,0,0,Yx,HB3.1,λe=>by rw[HF.1]at e;cases e⟩
   have z1:(M==0)=false:=by simpa using z
   have hlk:=Qy.1.look M sK.1;by_cases z2:M∈Gp p O k;.have hf:=KI.1<|.inr<|.inl ⟨h0,z2⟩;have HF:=V hf;rw[Ia z2]at hlk;clear z hf z2;go_wp2_with fail;go_ret2;exact⟨none,0,0,Yx,HB3.1,λe=>by rw[HF.1]at e;cases e⟩
   rw[GX z2]at hlk;obtain⟨w6,vg,Zd,LQ⟩:=Qy.1.upd I M sK.1 z2;rw[<-HSk.1]at Zd;obtain⟨XV,HZ,MP,Ic,U4,EG⟩:=Lp Zd (show M≠0/\M∉Gp p O k from⟨z,z2⟩) (Own.grown Eo.1 LQ<|λg hg e=>akM Qy.1 Eo.1<|by rw[hg,e]) (AO.grown FN.1 LQ<|λe=>ae1 Qy.1 FN.1<|Dn e) (AO.grown fH.1 LQ<|λe=>ae1 Qy.1 fH.1<|Dn e)<|bG HB3.1 LQ (λg hg=>by have:=Dn hg;omega);clear Zd LQ z z2;go_wp2;go_meet;exact⟨rfl,rfl,XV.1,MP.1,Ic.1,U4.1,EG.1,λ_=>HZ.1⟩
  obtain⟨rfl,rfl,RS,ho3,T,X5,hb3,hzz⟩:=hcut;obtain⟨Qy,Eo,FN,fH,HB3,HZ⟩:=Lp RS ho3 T X5 hb3 hzz;have Ud:=ace ⟨tw,C,⟨oa,on,oc⟩,inn,⟨ia,IX,ic⟩,Ci,⟨aa,an,ac⟩⟩ wc (Gh.1.mono hb3) (by show inn.length<=100000;omega);have aBU:(Nz ⟨tw,C,⟨oa,on,oc⟩,inn,⟨ia,IX,ic⟩,Ci,⟨aa,an,ac⟩⟩).length<=513:=by show inn.length+1<=513;omega
  have hcr:∀y∈Nz ⟨tw,C,⟨oa,on,oc⟩,inn,⟨ia,IX,ic⟩,Ci,⟨aa,an,ac⟩⟩,Ints w (BO y.2) y.1:=λy hy=>by
   rcases Dv.1 hy with rfl|hy;.exact ae3.1
   exact kV.1 y hy
  have hck:=aB5.1;unfold BO at Ud;simp only at Ud;generalize Nz ⟨tw,C,⟨oa,on,oc⟩,inn,⟨ia,IX,ic⟩,Ci,⟨aa,an,ac⟩⟩=CY at*;obtain⟨iR,Uo,HDy,HMy⟩:=D9 Ud hcr (λq(hq:q<CY.length)d(hd:d∈CY[q].1)=>aB4.1 k CY[q].1 (by rw[<-hck];exact H6<|BG hq) d hd) (λq(hq:q<CY.length)=>show CY[q].1∈Nw p O k from by rw[<-hck];exact H6<|BG hq);have acg:=V (λ(h:∀q(hq:q<CY.length),∀d∈CY[q].1,Ej p d=M)=>show∀c∈Nw p O k,∀d∈c,Ej p d=IJ p O k fromλc hc d hd=>by rw[<-hck]at hc;obtain⟨y,hy,rfl⟩:=EP.1 hc;obtain⟨q,hq,rfl⟩:=Dy.1 hy;rw[Ur.1];exact h q hq d hd);have KI:=V<|Fz.1 k hko;rw[Ur.1]at KI;clear RS ho3 hb3 hzz KH EZ CW D5 HB2 Ud hcr hck akQ aB5 ae3 Gh kV HFh hf0 WC vM;try clear CJ CO CQ Gi Vo
  obtain⟨CJ,CO,CQ,Gi,Vo,-⟩:=X5.MC;go_wp2_with fail;refine iR.1.mono ?_;rintro e w3⟨⟨A2,c2,rfl,ho2⟩,hb4⟩;obtain⟨HB4,Jt,D7,mD,HR4⟩:=G9 (J HB3.1 hb4) (Eo.1.keep hb4) (FN.1.keep hb4) (Qy.1.keep hb4) ho2.row_of;have oh:=hb4.size;clear ho2 hb4 HB3 Eo FN fH Qy T X5 CJ CO CQ Gi Vo iR;go_upto_block 2 with fail;go_wp2_with fail;go_loopw[4,42](λs i wr=>s=.slice A k c/\∃j:Nat,j<=CY.length/\i=.int .i64 j/\(∀q(hq:q<CY.length),q<j->∀d∈CY[q].1,Ej p d=M)/\AU w3 wr)λ_ i _=>CY.length-(intOf i).toNat;case atStart=>exact⟨rfl,0,C9 _,rfl,λq _ h=>I,bR w3⟩
  obtain⟨rfl,j,hj,rfl,U,hb5⟩:=hrel;have Nv:=V U;have Cb:=V hb5;clear U hb5;by_cases hlj:j<CY.length
  .obtain⟨b,o,rfl,hlb,c0⟩:=(HR4.1.mono Cb.1).cy hlj;have hin:=(Uo.1 CY[j]<|BG hlj).mono<|J HB4.1 Cb.1;have hdy:=HDy.1 j hlj;have YE:=V<|HMy.1 j hlj;have JK:=V λ(h:∀d∈CY[j].1,Ej p d=M)=>all_succ (p:=λy:List Int×SV=>∀d∈y.1,Ej p d=M) Nv.1 hlj h;generalize CY[j]=x at*;obtain⟨X,xa,xn,xc⟩:=x;unfold BO at hin;simp only at hin c0 hdy YE JK;obtain⟨Ax,cx,he,hx1,hx2,qG⟩:=hin;injection he with y1 y2 y3;subst y1 y2 y3;unfold maxLen at hx2;have hxl:X.length<=9223372036854775807:=I;have HRx:=V qG;have HDx:=V hdy;clear qG hdy;obtain⟨wq,rfl⟩:=BR wr;go_upto_block 4 with fail;clear c0 hlb;go_wp2_with fail;go_loopw[4,48](λs i wr=>s=.slice A k c/\∃m:Nat,m<=X.length/\i=.int .i64 m/\(∀q(hq:q<X.length),q<m->Ej p X[q]=M)/\AU wq wr)λ_ i _=>X.length-(intOf i).toNat;case atStart=>exact⟨rfl,0,C9 _,rfl,λq _ h=>I,bR wq⟩
   obtain⟨rfl,m,hmm,rfl,U,hb6⟩:=hrel;obtain⟨ajg,EG,Ez⟩:=CB U hb6<|J HB4.1<|J Cb.1 hb6;clear U hb6;by_cases hlm:m<X.length
   .obtain⟨b2,o2,rfl,aBN,e0⟩:=(HRx.1.mono EG.1).int hlm;have hdm:=HDx.1 X[m]<|BG hlm;obtain⟨MK,Ob,HYm⟩:=CB (λW(hW:AU w W)=>Xk.1 X[m] (HWd.1 _ hdm) W hW) (λ(h:Ej p X[m]≠M)=>KI.1<|.inr<|.inr ⟨X,YE.1,X[m],BG hlm,h⟩) λ(h:Ej p X[m]=M)=>all_succ (p:=λd=>Ej p d=M) ajg.1 hlm h;generalize X[m]=dd at*;obtain⟨sd,hsd⟩:=BM<|Ej p dd;rw[hsd]at MK Ob HYm;have T:=D7.1.keep<|J Cb.1 EG.1;clear hsd hdm;try clear Au Aw Az BA
    obtain⟨Au,Aw,Az,BA,-⟩:=T.BF;go_wp2_with fail;refine(MK.1 _ Ez.1).mono ?_;rintro e w7⟨rfl,hb7⟩;have Gw:=V<|J EG.1 hb7;have auB:=V<|J Ez.1 hb7;clear hb7 T Au Aw Az BA e0 aBN MK;by_cases z:sd=M
    .have z1:(sd !=M)=false:=by simpa using z
     have HYz:=V<|HYm.1 z;clear z;go_wp2;go_roundw;case rel=>exact⟨rfl,m+1,I,BH,HYz.1,Gw.1⟩
     exact BJ
    have z1:(sd !=M)=true:=by simpa using z
    have HF:=V<|Ob.1 z;clear z;go_wp2_with fail;go_ret2;exact⟨none,0,0,Yx,auB.1,λe=>by rw[HF.1]at e;cases e⟩
   have hmx:m=X.length:=I;have HNz:=V (JK.1 λd hd=>by obtain⟨q,hq,rfl⟩:=Dy.1 hd;exact ajg.1 q hq I);clear hmx;go_wp2;go_roundw;case rel=>exact⟨rfl,j+1,I,BH,HNz.1,J Cb.1 EG.1⟩
   exact BJ
  have hjx:j=CY.length:=I;obtain⟨HUk,D5,Gf,VZ,ajh⟩:=G9 (HU.1.succ (λh=>by rw[Ur.1];exact(HZ.1 h).1) (λh=>by rw[Ur.1];exact(HZ.1 h).2)<|acg.1 λq hq=>Nv.1 q hq I) (D7.1.keep Cb.1) (Jt.1.keep Cb.1) (mD.1.keep Cb.1)<|J HB4.1 Cb.1;have n1:=Own.ET Gf.1 D5.1 BI;have n2:=akM VZ.1 Gf.1;have aji:=Vr p O<|k+1;clear hjx D7 Jt mD HB4 HR4;go_upto_region 22 with(at_builtin;refine FV _ rfl (.tmp 59) (.tmp 61) _ rfl (base:=w.heap.size) J3 IV J4 rfl (Own.alloc Gf.1 _) rfl (l2:=[M]) (Sl.lit (n:=1) (AO.made rfl _ _) rfl<|DC I) DY DY (by have:=ajh.1.size;simp;omega) ?_;intro v8 w8 ZX P9 aAd;rw[<-vw.1]at ZX;obtain⟨A8,c8,hv8,-⟩:=Own.Il ZX;rw[aji]at hv8;subst hv8;obtain⟨XY,HM8,WU,Js⟩:=D9 ZX ((VZ.1.keep<|bA (bR wr) _).kept P9<|λe=>n2 e.symm) (AO.grown (D5.1.alloc _) P9<|λe=>n1 e.symm)<|bG (bA ajh.1 _) P9<|λg hg=>(Gf.1.lt g hg).1;clear ZX P9 aAd);clear n1 n2 aji;go_wp2;go_roundw;case rel=>exact⟨k+1,I,BH,⟨A8,c8,rfl⟩,XY.1,HM8.1,HUk.1,WU.1,Js.1⟩
  exact BJ
 have hkk:k=L.length:=I;have ae4:O.length+1=k:=by have:=Jw.1;omega
 have hlen:=λty=>(HM.1.keep<|bD<|bR wo).len ty;have hres:PD p=(((Gp p O k).length:Int)==(nf:Int)):=by
  have hy:=akP.1;rw[ae4]at hy;rw[KQ,hy,hsl];constructor;.rintro⟨-,e⟩;simp;omega
  intro e;simp at e;exact⟨HU.1,I⟩
 have ho:=HO.1;have U2:=V (show Own wo w.heap.size 3 1 DF (.slice A k c)<|PO p O<|O.length+1 by rw[ae4];exact ho);have vN:=V hres;generalize Gp p O k=S at*;clear hres ho hkk ae4 hsl;try clear Au Aw Az BA
 obtain⟨Au,Aw,Az,BA,-⟩:=T.BF;go_upto_region 23 with fail;refine CZ wo (.take 0 1<|.take 1 3<|.run 3 3 3<|.call 2 63<|.run 3 6 63<|.done) λCG QR Ae Aj hS=>?_;iterate 5 refine Ah ?_
 refine BP ?_;clear hS;intro K hK AQ;go_simp;refine hK.out _ _ AQ.out λhS=>?_;clear hK K AQ;try simp only[pu]
 iterate 3 refine Ah ?_
 refine CX ?_;clear hS Aj Ae;intro hB;have Lm:=V<|J Hb.1 hB;have auC:=V<|U2.1.keep hB;clear hB;go_wp2_with fail;go_ret2;exact⟨A,k,c,by rw[vN.1];rfl,Lm.1,λ_=>auC.1⟩
theorem ae5{l:List Int}(h:l.Pairwise (·<·))(n:Int):(JO l n).Pairwise (·<·)/\∀x,x∈JO l n↔x∈l\/x=n:=by
 unfold JO;split
 .rename_i C;rw[PW]at C;obtain⟨y,j,e⟩:=C;simp only[DI]at e;subst e;refine⟨h,λx=>⟨.inl,λh=>?_⟩⟩;rcases h with h|rfl;.exact h
  exact j
 rename_i C;have hn:n∉l:=λhm=>C<|PW.2 ⟨n,hm,Ak⟩;have c:l.takeWhile (λy=>decide<|y<n)++l.dropWhile (λy=>decide<|y<n)=l:=aCW;have h1:∀y∈l.takeWhile λy=>decide<|y<n,y<n:=λy j=>by have:=KO.1 (List.all_takeWhile (p:=λy=>decide<|y<n) (l:=l)) y j;simpa using this
 have o:=h;rw[<-c,QE]at o;have h2:∀y∈l.dropWhile λy=>decide<|y<n,n<y:=by intro y j;cases hd:l.dropWhile λy=>decide<|y<n with|nil=>rw[hd]at j;cases j|cons z m=>
   have U:¬z<n:=by have:=List.head_dropWhile_not (λy=>decide<|y<n) (l:=l) (by rw[hd];simp);simp only[hd,List.head_cons]at this;simpa using this
   have K:z∈l:=by rw[<-c];exact aQ _<|by rw[hd];exact ED
   have T:z≠n:=λe=>hn<|e▸K;rw[hd]at j;rcases Dv.1 j with rfl|j;.omega
   .have s:=o.2.1;rw[hd]at s;have:=(I8.1 s).1 y j;omega
 refine⟨?_,λx=>?_⟩
 .rw[QE,I8];refine⟨o.1,⟨h2,o.2.1⟩,λa M b hb=>?_⟩;rcases Dv.1 hb with rfl|hb;.exact h1 a M
  exact o.2.2 a M b hb
 have:x∈l↔x∈l.takeWhile (λy=>decide<|y<n)\/x∈l.dropWhile λy=>decide<|y<n:=by rw[<-F9,c]
 rw[this,F9,Dv];constructor
 .rintro(h|h|h);.exact .inl<|.inl h
  .exact .inr h
  exact .inl<|.inr h
 rintro((h|h)|h);.exact .inl h
 .exact .inr<|.inr h
 exact .inr<|.inl h
theorem ajj(l:List Int):(O5 l).Pairwise (·<·)/\∀x,x∈O5 l↔x∈l:=by
 have:∀(l c:List Int),c.Pairwise (·<·)->(l.foldl JO c).Pairwise (·<·)/\∀x,x∈l.foldl JO c↔x∈c\/x∈l:=by intro l;induction l with|nil=>intro c h;exact⟨h,λx=>by simp⟩|cons a l j=>intro c h;rw[V8];obtain⟨h1,h2⟩:=ae5 h a;obtain⟨h3,o⟩:=j _ h1;refine⟨h3,λx=>?_⟩;rw[o,h2,Dv,or_assoc]
 obtain⟨h1,h2⟩:=this l [] List.Pairwise.nil;exact⟨h1,λx=>by rw[show O5 l=l.foldl JO []from rfl,h2];simp⟩
theorem auD{l m:List Int}(c:l.Pairwise (·<·))(hm:m.Pairwise (·<·))(h:∀x,x∈l↔x∈m):l=m:=by have j:l.Nodup:=c.imp λh=>I;have o:m.Nodup:=hm.imp λh=>I;have s:l.Perm m:=(xq j o).2 h;refine nN (lt:=λa b=>decide<|a<b) s (c.imp<|λh=>by simp;omega) (hm.imp<|λh=>by simp;omega) λa _ b _ h1 h2=>?_;simp only[IL]at h1 h2;omega
theorem ate{c l:List Int}(o:c.Nodup)(s:l.Pairwise (·<·))(z:∀x∈c,x∈l):O5 c=l↔c.length=l.length:=by
 obtain⟨h1,h2⟩:=ajj c;have C:(O5 c).Nodup:=h1.imp λh=>I;have K:(O5 c).Perm c:=(xq C o).2 h2;constructor;.intro e;rw[<-e,K.length_eq]
 intro e;have U:l.Nodup:=s.imp λh=>I;refine auD h1 s λx=>?_;rw[h2];refine⟨z x,λM=>Iq λT=>?_⟩;have:=Wq (l:=x::c) (m:=l) (lD.2 ⟨T,o⟩) (λy j=>by
  rcases Dv.1 j with rfl|j;.exact M
  exact z y j);rw[Gy]at this;omega
theorem atf(v vc:Value)(p:Pl)(X:List Int)(c:Int)(w:World)(h:Cj w v p)(hv:Valid p)(hX:Ints w vc X)(hd:∀d∈X,d∈BZ p)(hl:X.length<=1000):Calls prog 127 #[v,vc,.int .i64 c] w λe w'=>e=.returned (.bool<|X.all λd=>Ej p d==c)/\AU w w':=by
 have Xk:=V λd(hd:d∈BZ p)W(hW:AU w W)=>aEJ v p d W (h.mono hW) hv.short.long<|L8 xX xX;have Yn:=V hd;obtain⟨Ac,cc,rfl,hc1,hc2,J6⟩:=hX;unfold maxLen at hc2;obtain⟨_,_,_,al,rfl,hpa,⟨An,cn,rfl,-⟩,⟨⟨Aa,ca,rfl,-⟩,-⟩,⟨Af,cf,rfl,-⟩⟩:=h;have Oc:=V J6;obtain⟨R,hR⟩:=BM<|X.all λd=>Ej p d==c;rw[hR];have HR:=V hR;clear hpa J6 hR;generalize p.nodes.length=nn at*;generalize al.length=na at*;generalize p.faces.length=nf at*;go_enter func127,ntmps127;go_upto_region 1 with fail;obtain⟨U,hW⟩:∃W:World,W=w.alloc (.cells #[.slice An nn cn,.slice Aa na ca,.slice Af nf cf] 26):=⟨_,rfl⟩;have DU:=V (show AO U w.heap.size 26 #[.slice An nn cn,.slice Aa na ca,.slice Af nf cf]by rw[hW];exact AO.made rfl _ _);have s:=V (show AU w U by rw[hW];exact bA (bR w) _);rw[<-hW];clear hW;go_wp2_with fail;go_loopw[7](λi wr=>∃k:Nat,k<=X.length/\i=.int .i64 k/\(∀j(hj:j<X.length),j<k->Ej p X[j]=c)/\AU U wr)λi _=>X.length-(intOf i).toNat;case atStart=>exact⟨0,C9 _,rfl,λj _ h=>I,bR U⟩
 obtain⟨k,hk,rfl,C,hb⟩:=hrel;have Nv:=V C;have HB:=V hb;have X1:=DU.1.keep hb;clear C hb;by_cases hlt:k<X.length
 .obtain⟨b,o,rfl,hlb,c0⟩:=(Oc.1.mono<|J s.1 HB.1).int hlt;have K:=Yn.1 X[k]<|BG hlt;have MK:=V λW(hW:AU w W)=>Xk.1 X[k] K W hW;have Fz:=V (λ(h:Ej p X[k]≠c)=>show R=false from by rw[<-HR.1,<-Je,KO];intro hc;exact h<|eq_of_beq<|hc _<|BG hlt);have M:=V λ(h:Ej p X[k]=c)=>all_succ (p:=λd=>Ej p d=c) Nv.1 hlt h;generalize X[k]=dd at*;obtain⟨sd,T⟩:=BM<|Ej p dd;rw[T]at MK Fz M;have k1:(k:Int)<X.length:=I;have k2:0<=(k:Int):=I;clear T K;obtain⟨Au,Aw,Az,BA,-⟩:=X1.BF;go_upto_region 4 with fail;refine CZ wr (.run 5 0 0<|.take 6 95<|.call 5 127<|.take 7 255<|.done) λCG QR Ae Aj hS=>?_;iterate 6 refine Ah ?_
  refine FM (MK.1 _<|J (J s.1 HB.1) hS) ?_;clear hS;intro Bv Bj hS;refine Ah ?_;refine CX ?_;clear hS Aj Ae;intro hB;have Cb:=V<|J HB.1 hB;clear hB Bj X1 Au Aw Az BA c0 hlb;by_cases z:sd=c
  .have z1:(sd !=c)=false:=by simpa using z
   have HYz:=V<|M.1 z;clear z;go_wp2;go_roundw;case rel=>exact⟨k+1,I,BH,HYz.1,Cb.1⟩
   exact BJ
  have z1:(sd !=c)=true:=by simpa using z
  have HF:=V<|Fz.1 z;clear z;go_wp2;go_ret;exact⟨Cm HF.1.symm,J s.1 Cb.1⟩
 have HF:=V (show R=true from by rw[<-HR.1,KO];intro d hd;obtain⟨j,hj,rfl⟩:=Dy.1 hd;rw[Nv.1 j hj I];exact beq_self_eq_true _);clear X1;go_wp2;go_ret;exact⟨Cm HF.1.symm,J s.1 HB.1⟩
set_option linter.unusedSectionVars false
def Us(n d:Int):Int:=if 0<d then n/d else-n/ -d
def XB(n d:Int):Int:=-Us (-n) d
def KN(y:Int)(q:Pt×Pt):List Int:=if y<min q.1.y q.2.y\/max q.1.y q.2.y<y then[]else if q.1.y=q.2.y then[q.1.x,q.2.x]else[q.1.x+Us ((y-q.1.y)*(q.2.x-q.1.x)) (q.2.y-q.1.y),q.1.x+XB ((y-q.1.y)*(q.2.x-q.1.x)) (q.2.y-q.1.y)]
def XD(a b:List Int):List Int:=b.foldl JO<|O5 a
def jf(p:Pl):List<|Pt×Pt:=p.AP.flatMap λa=>EO<|AV p a
def aFf(y:Int)(S:List<|Pt×Pt):List Int:=S.foldl (λl q=>XD l<|KN y q) []
def Xz(y:Int)(l:List Int)(n:Nd):List Int:=if n.pt.y=y then JO l n.pt.x else l
def Ls(p:Pl)(y:Int):List Int:=p.nodes.foldl (Xz y)<|aFf y<|jf p
theorem ajk:∀(b l:List Int),l.Pairwise (·<·)->(b.foldl JO l).Pairwise (·<·)/\∀x,x∈b.foldl JO l↔x∈l\/x∈b|[],l,h=>⟨h,λx=>by simp⟩|n::b,l,h=>by obtain⟨h1,h2⟩:=ae5 h n;obtain⟨h3,c⟩:=ajk b _ h1;refine⟨h3,λx=>?_⟩;rw[V8,c,h2,Dv,or_assoc]
theorem atg(a b:List Int):(XD a b).Pairwise (·<·)/\∀x,x∈XD a b↔x∈a\/x∈b:=by obtain⟨h1,h2⟩:=ajj a;obtain⟨h3,c⟩:=ajk b _ h1;exact⟨h3,λx=>by unfold XD;rw[c,h2]⟩
theorem ajl(y:Int):∀(S:List<|Pt×Pt)(l:List Int),l.Pairwise (·<·)->(S.foldl (λl q=>XD l<|KN y q) l).Pairwise (·<·)/\∀x,x∈S.foldl (λl q=>XD l<|KN y q) l↔x∈l\/∃q∈S,x∈KN y q|[],l,h=>⟨h,λx=>by simp⟩|q::S,l,_=>by obtain⟨h1,h2⟩:=atg l<|KN y q;obtain⟨h3,c⟩:=ajl y S _ h1;refine⟨h3,λx=>?_⟩;rw[V8,c,h2];simp only[Dv,exists_eq_or_imp,or_assoc]
theorem ajm(y:Int):∀(c:List Nd)(l:List Int),l.Pairwise (·<·)->(c.foldl (Xz y) l).Pairwise (·<·)/\∀x,x∈c.foldl (Xz y) l↔x∈l\/∃n∈c,n.pt.y=y/\n.pt.x=x
 |[],l,h=>⟨h,λx=>by simp⟩|n::c,l,h=>by
  have h0:(Xz y l n).Pairwise (·<·)/\∀x,x∈Xz y l n↔x∈l\/n.pt.y=y/\n.pt.x=x:=by
   unfold Xz;split;.rename_i e;obtain⟨h1,h2⟩:=ae5 h n.pt.x;refine⟨h1,λx=>?_⟩;rw[h2];exact or_congr Iff.rfl ⟨λg=>⟨e,g.symm⟩,λg=>g.2.symm⟩
   rename_i e;exact⟨h,λx=>⟨.inl,λg=>g.resolve_right λg=>e g.1⟩⟩
  obtain⟨h3,j⟩:=ajm y c _ h0.1;refine⟨h3,λx=>?_⟩;rw[V8,j,h0.2];simp only[Dv,exists_eq_or_imp,or_assoc]
theorem jg(p:Pl)(y:Int):(Ls p y).Pairwise (·<·)/\∀x,x∈Ls p y↔(∃q∈jf p,x∈KN y q)\/∃n∈p.nodes,n.pt.y=y/\n.pt.x=x:=by obtain⟨h1,h2⟩:(aFf y<|jf p).Pairwise (·<·)/\∀x,x∈aFf y (jf p)↔x∈[]\/∃q∈jf p,x∈KN y q:=ajl y (jf p) [] List.Pairwise.nil;obtain⟨h3,c⟩:=ajm y p.nodes _ h1;refine⟨h3,λx=>?_⟩;unfold Ls;rw[c];refine or_congr ?_ Iff.rfl;rw[h2];simp
theorem aFg{t H d:Int}(c:0<H)(h0:0<=t)(h1:t<=H):min 0 d<=t*d/H/\t*d/H<=max 0 d:=by
 rcases gJ 0 d with h|h
 .have a1:0<=t*d:=LX h0 h;have j:t*d<=H*d:=aDz h1 h;have o:0<=t*d/H:=aDd a1 I;have s:t*d/H<=d:=by have:=aa4 c j;rwa[xu _ I]at this
  omega
 have a1:t*d<=0:=xk h0 h;have j:H*d<=t*d:=by have:=aeb h1 h;exact this
 have o:t*d/H<=0:=by have:=aa4 c a1;simpa using this
 have s:d<=t*d/H:=by have:=aa4 c j;rwa[xu _ I]at this
 omega
theorem ath{y:Int}{q:Pt×Pt}{x:Int}(h:x∈KN y q):min q.1.x q.2.x<=x/\x<=max q.1.x q.2.x/\min q.1.y q.2.y<=y/\y<=max q.1.y q.2.y:=by
 obtain⟨a,b⟩:=q;unfold KN at h;simp only at h⊢;split at h;.cases h
 rename_i s;split at h;.rename_i c;simp only[Dv,ZF,or_false]at h;rcases h with rfl|rfl<;>omega
 rename_i c;simp only[Dv,ZF,or_false]at h;unfold XB Us at h;by_cases e:0<b.y-a.y;.have o:=aFg (t:=y-a.y) (H:=b.y-a.y) (d:=b.x-a.x) e I I;have j:=aFg (t:=y-a.y) (H:=b.y-a.y) (d:=-(b.x-a.x)) e I I;rw[AZ e,AZ e]at h;rw[qm]at j;rcases h with h|h<;>omega
 have o:=aFg (t:=-(y-a.y)) (H:=-(b.y-a.y)) (d:=b.x-a.x) I I I;have j:=aFg (t:=-(y-a.y)) (H:=-(b.y-a.y)) (d:=-(b.x-a.x)) I I I;rw[AX e,AX e]at h;rw[PY]at o;rw[PY,qm]at j;rcases h with h|h<;>omega
theorem ati{u H d:Int}(c:0<H):(u-H*d)/H=u/H-d:=by
 have:u-H*d=u+-d*H:=by rw[PY,KT H d];omega
 rw[this,Int.add_mul_ediv_right _ _ I];omega
theorem ajn{y:Int}{a b:Pt}(h1:(FQ a b).y<=y)(h2:y<=(I4 a b).y)(h3:(FQ a b).y≠(I4 a b).y):(FQ a b).x+Tz y a b∈KN y (a,b):=by
 unfold KN Tz;unfold FQ I4 at*;by_cases c:b.y<a.y
 .simp only[AZ c]at h1 h2 h3⊢;rw[AX I,AX I];simp only[Dv,ZF,or_false];right;unfold XB Us QL;rw[AX I];have e:-(-((y-a.y)*(b.x-a.x)))=-((y-b.y)*(a.x-b.x))-(a.y-b.y)*(b.x-a.x):=by grind
  have j:-(b.y-a.y)=a.y-b.y:=I;rw[e,j,ati I];omega
 simp only[AX c]at h1 h2 h3⊢;rw[AX I,AX I];simp only[Dv,ZF,or_false];right;unfold XB Us QL;rw[AZ I]
theorem atj(a b:Pt):(FQ a b).y<=(I4 a b).y/\(FQ a b).y=min a.y b.y/\(I4 a b).y=max a.y b.y:=by unfold FQ I4;split<;>omega
theorem ae6{y:Int}{q:Pt×Pt}{c:Int}(h:c∈IG y q):c∈KN y q:=by
 obtain⟨a,b⟩:=q;unfold IG at h;simp only at h;split at h;.rename_i e;rw[EJ]at h;rw[h];exact ajn e.1 I I
 cases h
theorem atl{y:Int}{q:Pt×Pt}{r:Rn}(h:r∈Ll y q):r.lo∈KN y q/\r.hi-1∈KN y q:=by
 obtain⟨a,b⟩:=q;have o:=atj a b;unfold Ll at h;simp only at h;split at h;.cases h
 rename_i e;split at h
 .rename_i c;rw[EJ]at h;have s:min (FQ a b).x (I4 a b).x=min a.x b.x/\max (FQ a b).x (I4 a b).x=max a.x b.x:=by unfold FQ I4;split<;>omega
  have hb:KN y (a,b)=[a.x,b.x]:=by unfold KN;simp only;rw[AX I,AZ I]
  rw[h,hb];simp only[Dv,ZF,or_false];omega
 rename_i c;split at h;.rw[EJ]at h;have:=ajn (y:=y) (a:=a) (b:=b) I I c;rw[h];refine⟨this,?_⟩;have j:(FQ a b).x+Tz y a b+1-1=(FQ a b).x+Tz y a b:=I;show(FQ a b).x+Tz y a b+1-1∈_;rw[j];exact this
 cases h
theorem ajo{P Q:Int->Bool}:∀{l:List Int},l.Pairwise (·<·)->(∀x,(∃a∈l,x=a\/x=a+1/\∃b∈l,x<b)->P x=Q x)->Gg P l=Gg Q l
 |[],_,_=>rfl|[a],_,h=>by rw[Gg,Gg,h a ⟨a,Ak,.inl rfl⟩];rfl|a::b::l,hp,h=>by
  have j:=I8.1 hp;rw[aDO P a,aDO Q a,h a ⟨a,Ak,.inl rfl⟩,ajo j.2 λx⟨c,hc,g⟩=>h x ⟨c,FW _ hc,g.imp id λg=>⟨g.1,g.2.imp λd hd=>⟨FW _ hd.1,hd.2⟩⟩⟩];congr 2;rw[gW,gW];by_cases c:a+1<b;.rw[h (a+1) ⟨a,Ak,.inr ⟨rfl,b,Ak,c⟩⟩]
  rw[AX λe=>c e.1,AX λe=>c e.1]
section
variable{p:Pl}(h:Valid p)
include h
theorem Valid.aFh{X:List Int}(s:X∈BN p){x y:Int}:Dt (Lr p (some X) y) x↔((FZ p<|some X).flatMap<|IG y).countP (λc=>decide<|c<=x)%2=1/\¬Dt ((FZ p<|some X).flatMap<|Ll y) x/\¬Dt (VG p (some X) y) x:=by
 obtain⟨z,C⟩:=h.acY s x y;have o:=aBF<|(FZ p<|some X).flatMap<|IG y;have j:Dt (Ju<|ZY<|(FZ p<|some X).flatMap<|IG y) x↔((FZ p<|some X).flatMap<|IG y).countP (λc=>decide<|c<=x)%2=1:=by rw[<-o.1.countP_eq];exact acW x _ _ rfl o.2<|by rw[o.1.length_eq];exact z
 have hm:=(yu _ _ (Wp<|Ju<|ZY<|(FZ p<|some X).flatMap<|IG y).1 (Wp<|(FZ p<|some X).flatMap (Ll y)++VG p (some X) y).1).2.2 x;show Dt (Ot _ _) x↔_;rw[hm,(Wp _).2,(Wp _).2,j,Ry,not_or]
theorem Valid.aB6{X:List Int}(c:X∈BN p){q:Pt×Pt}(j:q∈FZ p (some X)):q∈jf p:=by obtain⟨a,o,-,k,hk,rfl⟩:=h.aE5 c j;refine Fj.2 ⟨a,o,?_⟩;unfold EO;exact EP.2 ⟨k,FC.2 I,rfl⟩
theorem Valid.atm{X:List Int}(o:X∈BN p){x j y:Int}(s:x<=j)(hb:∀b∈Ls p y,b<x\/j<b):Dt (Lr p (some X) y) x↔Dt (Lr p (some X) y) j:=by
 have hm:=(jg p y).2;rw[h.aFh o,h.aFh o];have M:((FZ p<|some X).flatMap<|IG y).countP (λc=>decide<|c<=x)=((FZ p<|some X).flatMap<|IG y).countP λc=>decide<|c<=j:=by refine List.countP_congr λc T=>?_;obtain⟨q,C,g⟩:=Fj.1 T;have:=hb c<|(hm c).2<|.inl ⟨q,h.aB6 o C,ae6 g⟩;simp only[DI];omega
 have U:Dt ((FZ p<|some X).flatMap<|Ll y) x↔Dt ((FZ p<|some X).flatMap<|Ll y) j:=by unfold Dt;refine exists_congr λr=>and_congr_right λhr=>?_;obtain⟨q,C,g⟩:=Fj.1 hr;obtain⟨t1,t2⟩:=atl g;have:=hb _<|(hm _).2<|.inl ⟨q,h.aB6 o C,t1⟩;have:=hb _<|(hm _).2<|.inl ⟨q,h.aB6 o C,t2⟩;omega
 have K:∀z,x<=z->z<=j->¬Dt (VG p (some X) y) z:=λz z1 z2 g=>by obtain⟨n,hn,-,-,e⟩:=h.aie.1 g;have:=hb z<|(hm z).2<|.inr ⟨n,hn,Rf,Rf⟩;omega
 rw[M,U];exact and_congr_right λ_=>and_congr_right λ_=>⟨λ_=>K _ s<|J8 _,λ_=>K _ (J8 _) s⟩
theorem Valid.ae7{X:List Int}(j:X∈BN p){x y:Int}(hb:∀b∈Ls p y,b<x):¬Dt (Lr p (some X) y) x:=λg=>by
 have hm:=(jg p y).2;have o:=((h.aFh j).1 g).1;have s:((FZ p<|some X).flatMap<|IG y).countP (λc=>decide<|c<=x)=((FZ p<|some X).flatMap<|IG y).length:=by rw[List.countP_eq_length];intro c z;obtain⟨q,C,g⟩:=Fj.1 z;have:=hb c<|(hm c).2<|.inl ⟨q,h.aB6 j C,ae6 g⟩;simp only[DI];omega
 rw[s,(h.acY j x y).1]at o;cases o
theorem Valid.ae8{X:List Int}(j:X∈BN p){x y:Int}(hb:∀b∈Ls p y,x<b):¬Dt (Lr p (some X) y) x:=λg=>by
 have hm:=(jg p y).2;have o:=((h.aFh j).1 g).1;have s:((FZ p<|some X).flatMap<|IG y).countP (λc=>decide<|c<=x)=0:=by rw[aCh];intro c z;obtain⟨q,C,g⟩:=Fj.1 z;have:=hb c<|(hm c).2<|.inl ⟨q,h.aB6 j C,ae6 g⟩;simp only[DI];omega
 rw[s]at o;cases o
theorem Valid.jh{x y:Int}(s:x∈Ls p y):Bl ⟨x,y⟩=true/\MN ⟨x,y⟩:=by
 have c:MN ⟨x,y⟩:=by
  rcases((jg p y).2 x).1 s with⟨q,j,g⟩|⟨n,hn,z,C⟩;.obtain⟨a,o,j⟩:=Fj.1 j;obtain⟨k,hk,rfl⟩:=EP.1<|show q∈(List.range<|(AV p a).length-1).map _ from j;rw[FC]at hk;have K:=h.aEZ o (k:=k) I;have M:=h.aEZ o (k:=k+1) I;have:=ath g;unfold MN at*;simp only at*;omega
  have:=h.ajL hn;unfold MN at*;simp only;omega
 refine⟨?_,c⟩;unfold Bl MN at*;simp only[EC,DI];simp only at c;omega
theorem Valid.ajp{X:List Int}(s:X∈BN p){x y:Int}(g:Dt (Lr p (some X) y) x):Bl ⟨x,y⟩=true:=by have j:∃a∈Ls p y,a<=x:=Iq λc=>h.ae8 s (λb hb=>aCd.1 λg=>c ⟨b,hb,g⟩) g;have o:∃a∈Ls p y,x<=a:=Iq λc=>h.ae7 s (λb hb=>aCd.1 λg=>c ⟨b,hb,g⟩) g;obtain⟨a,C,K⟩:=j;obtain⟨b,hb,M⟩:=o;have z:=(h.jh C).2;have g2:=(h.jh hb).2;unfold MN at z g2;unfold Bl;simp only[EC,DI];simp only at z g2;omega
theorem Valid.row_iff{X:List Int}(j:X∈BN p){y:Int}{P:Int->Bool}(hP:∀x,Bl ⟨x,y⟩=true->(P x=true↔vO p (some X) ⟨x,y⟩))(n:Int):Dt (Gg P<|Ls p y) n↔Dt (Lr p (some X) y) n:=by classical
 have c:=(jg p y).1;have hQ:Gg P (Ls p y)=Gg (λx=>decide<|Dt (Lr p (some X) y) x) (Ls p y):=by
  refine ajo c λx o=>?_;have U:Bl ⟨x,y⟩=true:=by obtain⟨a,s,C⟩:=o;have n1:=(h.jh s).2;unfold MN at n1;unfold Bl;simp only[EC,DI];simp only at n1;rcases C with rfl|⟨rfl,-⟩<;>omega
  rw[KQ,hP x U,DI,h.aii j U]
 rw[hQ];by_cases hn:∀a∈(Ls p y).head?,a<=n;.rw[aeu c (λx x' _ K hb=>by rw[KQ,DI,DI];exact h.atm j K hb) (λx o=>by rw[IL];exact h.ae7 j o) n hn,DI]
 .have M:¬Dt (Lr p (some X) y) n:=h.ae8 j λb hb=>by cases e:Ls p y with|nil=>rw[e]at hb;cases hb|cons a l=>
    rw[e]at hn c hb;have s:n<a:=by refine aCd.1 λg=>hn λz T=>?_;simp at T;omega
    rcases Dv.1 hb with rfl|hb;.exact s
    .have:=(I8.1 c).1 b hb;omega
  refine⟨λg=>?_,λg=>absurd g M⟩;cases e:Ls p y with|nil=>rw[e]at g;exact absurd g<|Nk n|cons a l=>rw[e]at hn c g;obtain⟨r,hr,q1,q2⟩:=g;have:=aDP c r hr;exact absurd λz T=>by simp at T;omega hn
theorem Valid.atn{X:List Int}(c:X∈BN p){y:Int}{P:Int->Bool}(j:∀x,Bl ⟨x,y⟩=true->(P x=true↔vO p (some X) ⟨x,y⟩)):(Jb<|Gg P<|Ls p y).1=Oh (Lr p (some X) y):=atd (aes (jg p y).1) (yu _ _ (Wp _).1 (Wp _).1).1<|h.row_iff c j
end
def qH(l:List Int):Int:=(l.find?<|λx=>decide<|x≠0).getD 0
theorem avF(v:Value)(l:List Int)(w:World)(h:Ints w v l)(hs:l.length<=1000):Calls prog 135 #[v] w λe w'=>e=.returned (.int .i64<|qH l)/\w=w':=by
 obtain⟨A,c,rfl,hn,hc,hR⟩:=h;unfold maxLen at hc;have HR:=V hR;clear hR;obtain⟨q,T⟩:=BM<|qH l;rw[T];have Hq:=V T;clear T;go_enter func135,ntmps135;go_wp2_with fail;go_loopw[8](λu wr=>∃k:Nat,k<=l.length/\u=.int .i64 k/\wr=w/\∀j(z:j<l.length),j<k->l[j]=0)λu _=>l.length-(intOf u).toNat;case atStart=>exact⟨0,C9 _,rfl,rfl,λ_ _ h=>I⟩
 obtain⟨k,hk,rfl,rfl,C⟩:=hrel;have s:=V C;clear C;by_cases hlt:k<l.length
 .obtain⟨b,o,rfl,hlb,c0⟩:=HR.1.int hlt;by_cases hz:l[k]=0
  .have U:(l[k]!=0)=false:=by simp[hz]
   have Hz:=V hz;clear hz;go_wp2;go_roundw;case rel=>exact⟨k+1,I,BH,trivial,λj z K=>if e:j<k then s.1 j z e else by have:j=k:=I;subst this;exact Hz.1⟩
   exact BJ
  have U:(l[k]!=0)=true:=by simp[hz]
  have M:=yZ l (λx=>decide<|x≠0) k hlt λj z K=>by simp[s.1 j z K] (by simp[hz]);have Hf:=V M;clear hz M;go_wp2;go_ret;exact⟨DZ<|by rw[<-Hq.1,qH,Hf.1];rfl,rfl⟩
 have M:=aD9 l (λx=>decide<|x≠0) (λj z=>by simp[s.1 j z I]);have Hf:=V M;clear M;go_wp2;go_ret;exact⟨DZ<|by rw[<-Hq.1,qH,Hf.1];rfl,rfl⟩
theorem avG(v:Value)(l:List Int)(w:World)(h:Ints w v l)(c:l.length<=1000):Calls prog 135 #[v] w λe w'=>e=.returned (.int .i64<|qH l)/\Nj w w':=(avF v l w h c).mono λe w' h=>⟨h.1,by rw[<-h.2];exact⟨bR w,dR w⟩⟩
open Go.RowKit Go.Sort
theorem avH(s t:AD)(w:World):Calls prog 70 #[.agg #[.int .i64 s.tw,BO s.ov,BO s.iv,BO s.av],.agg #[.int .i64 t.tw,BO t.ov,BO t.iv,BO t.av]] w λe w'=>e=.returned (.int .i64<|Lj s.tw t.tw)/\Nj w w':=by unfold BO;go_enter func70,ntmps70;go_wp2_with fail;refine(aAO s.tw t.tw _).mono ?_;rintro e w1⟨rfl,c,j⟩;have o:=V<|J (bA (bA (bR w) _) _) c;have z:=V<|dT (dA (dA (dR w) _) _) j;clear c j;go_wp2;go_ret;exact⟨rfl,o.1,z.1⟩
def cmpK(a b:Int):Int:=qH [Lj (max a<|-a)<|max b<|-b,Lj b a]
theorem avI(a b:Int):cmpK a b<0↔Gv a b=true:=by
 rw[jJ];unfold cmpK qH Lj Et;have j:max a (-a)=if a<0 then-a else a:=by split<;>omega
 have o:max b (-b)=if b<0 then-b else b:=by split<;>omega
 rw[j,o];generalize(if a<0 then-a else a)=c;generalize(if b<0 then-b else b)=d;by_cases h1:c<d;.simp[h1]
 by_cases h2:d<c;.simp[h1,h2];omega
 by_cases h3:b<a;.simp[h1,h2,h3];omega
 by_cases h4:a<b<;>simp[h1,h2,h3,h4]<;>omega
theorem aFi{α:Type}(f:α->Int)(x y:α):ltOf (λx y=>cmpK (f x)<|f y) x y=Gv (f x) (f y):=by rw[KQ,<-avI];unfold ltOf;simp only[DI]
theorem avJ{α:Type}(f:α->Int):SWO<|ltOf<|λx y:α=>cmpK (f x)<|f y where
 irrefl x:=by rw[aFi];exact arP _
 trans x y z h1 h2:=by rw[aFi]at*;exact abu h1 h2
 ntrans x y z h1 h2:=by rw[aFi]at*;rw[<-Je]at*;rw[jJ]at*;omega
theorem Ints.avK{w:World}{g:Nat}{t:TypeId}{a b:Int}(h:AO w g t #[.int .i64 a,.int .i64 b]):Ints w (.slice (some ⟨g,0,none⟩) 2 2) [a,b]:=Sl.lit (n:=2) h rfl<|DC I
theorem avL(a b:Int)(w:World)(ha:-1073741824<=a/\a<=1073741824)(hb:-1073741824<=b/\b<=1073741824):Calls prog 80 #[.int .i64 a,.int .i64 b] w λe w'=>e=.returned (.int .i64<|cmpK a b)/\Nj w w':=by have k1:=DR<|-a;have k2:=DR<|-b;unfold cmpK;have HX:=V λW=>aAO (max a<|-a) (max b<|-b) W;have HY:=V λW=>aAO b a W;generalize Lj (max a<|-a) (max b<|-b)=x at*;generalize Lj b a=y at*;go_enter func80,ntmps80;go_wp2_with fail;refine(HX.1 _).mono ?_;rintro e w1⟨rfl,j,o⟩;go_wp2_with fail;refine(HY.1 _).mono ?_;rintro e w2⟨rfl,hb2,s⟩;have K:=V<|bA (J j hb2)<|.cells #[.int .i64 x,.int .i64 y] 3;have M:=V<|dA (dT o s)<|.cells #[.int .i64 x,.int .i64 y] 3;have c:=Ints.avK<|AO.made (w:=w2) rfl 3 #[.int .i64 x,.int .i64 y];have HO:=V<|avG _ _ _ c Ak;clear j hb2 o s k1 k2 c;go_wp2_with fail;refine HO.1.mono ?_;rintro e w3⟨rfl,z,C⟩;have T:=V<|J K.1 z;have U:=V<|dT M.1 C;clear z C;go_wp2;go_ret;exact⟨rfl,T.1,U.1⟩
def OV(w0:World)(s:AD):Prop:=Ints w0 (BO s.ov) s.out/\0<s.out.length/\∀d∈s.out,-1073741824<=d/\d<=1073741824
theorem OV.mono{w w':World}{s:AD}(h:OV w s)(hb:AU w w'):OV w' s:=⟨h.1.mono hb,h.2⟩
theorem avM(s t:AD)(w:World)(c:OV w s)(j:OV w t):Calls prog 79 #[.agg #[.int .i64 s.tw,BO s.ov,BO s.iv,BO s.av],.agg #[.int .i64 t.tw,BO t.ov,BO t.iv,BO t.av]] w λe w'=>e=.returned (.int .i64<|cmpK (Dp s.out)<|Dp t.out)/\Nj w w':=by
 obtain⟨HS,HT,HC⟩:=CB (λW(hW:AU w W)=>(aiq (BO s.ov) s.out W (c.1.mono hW) c.2.1 c.2.2).mono (R':=λe w'=>e=.returned (.int .i64<|Dp s.out)/\Nj W w') λe w' g=>⟨g.1,by rw[<-g.2];exact⟨bR W,dR W⟩⟩) (λW(hW:AU w W)=>(aiq (BO t.ov) t.out W (j.1.mono hW) j.2.1 j.2.2).mono (R':=λe w'=>e=.returned (.int .i64<|Dp t.out)/\Nj W w') λe w' g=>⟨g.1,by rw[<-g.2];exact⟨bR W,dR W⟩⟩) λW=>avL (Dp s.out) (Dp t.out) W (c.2.2 _<|aAo<|λe=>by have:=c.2.1;rw[e]at this;cases this)<|j.2.2 _<|aAo (λe=>by have:=j.2.1;rw[e]at this;cases this);unfold BO at*;generalize Dp s.out=x at*;generalize Dp t.out=y at*;clear c j;obtain⟨tw,so,⟨oa,on,oc⟩,si,⟨ia,IX,ic⟩,sa,⟨aa,an,ac⟩⟩:=s;obtain⟨o,so',⟨z,C,M⟩,si',⟨T,U,ic'⟩,sa',⟨aa',an',ac'⟩⟩:=t;simp only at*;go_enter func79,ntmps79;go_upto_region 1 with fail;obtain⟨W,hW⟩:=BR<|(w.alloc<|.cells #[.int .i64 tw,.slice oa on oc,.slice ia IX ic,.slice aa an ac] 99).alloc<|.cells #[.int .i64 o,.slice z C M,.slice T U ic',.slice aa' an' ac'] 99;have Bw:AU w W:=by rw[hW];exact bA (bA (bR w) _) _
 have Dw:=V (show w.drawn<=W.drawn by rw[hW];exact dA (dA (dR w) _) _);have X1:AO W w.heap.size 99 #[.int .i64 tw,.slice oa on oc,.slice ia IX ic,.slice aa an ac]:=by rw[hW];exact(AO.made rfl _ _).alloc _
 have X2:AO W (w.heap.size+1) 99 #[.int .i64 o,.slice z C M,.slice T U ic',.slice aa' an' ac']:=by rw[hW];exact AO.made Ak _ _
 rw[<-hW];clear hW;obtain⟨Au,Aw,Az,BA,X1d,-⟩:=X1.MC;obtain⟨BX,Bf,Bh,CS,aAA,-⟩:=X2.MC;refine CZ W (.take 0 1<|.take 1 3<|.take 3 11<|.take 4 27<|.call 2 31<|.call 5 63<|.call 6 127<|.take 7 255<|.done) λCG QR Ae Aj hS=>?_;iterate 4 refine Ah ?_
 refine BP ?_;clear hS;intro K hK AQ;go_simp;refine(HS.1 _<|J Bw AQ.out).mono ?_;rintro e Bv⟨rfl,Bj,hd1⟩;have hS:Since W Bv:=J (w:=W) AQ.out Bj;clear AQ;refine hK.out _ _ hS λ_=>?_;clear hK K;try simp only[pu]
 refine BP ?_;clear hS;intro K hK AQ;go_simp;refine(HT.1 _<|J Bw AQ.out).mono ?_;rintro e wr2⟨rfl,F5,hd2⟩;have hS:Since W wr2:=J (w:=W) AQ.out F5;clear AQ;refine hK.out _ _ hS λ_=>?_;clear hK K;try simp only[pu]
 refine BP ?_;clear hS;intro K hK AQ;go_simp;refine(HC.1 _).mono ?_;rintro e wr3⟨rfl,Ld,hd3⟩;have hS:Since W wr3:=J (w:=W) AQ.out Ld;clear AQ;refine hK.out _ _ hS λ_=>?_;clear hK K;try simp only[pu]
 refine Ah ?_;refine CX ?_;clear hS Aj Ae;intro hB;have D3:=V<|dT (dT (dT (dD Dw.1) hd1) hd2) hd3;go_wp2;go_ret;exact⟨rfl,J Bw hB,D3.1⟩
open Go.RowKit Go.Sort
theorem avN:∀w,(isAgg 69).run prog w=.ok true w:=λ_=>by kernel_rfl
theorem avO:∀w,(Go.sizeOf 69).run prog w=.ok 4 w:=λ_=>by kernel_rfl
def avP(w:World)(base:Nat)(v:Value)(sl:List AD)(e:Ending)(w':World):Prop:=e=.returned (.tuple #[])/\∃sl':List AD,sl'.Perm sl/\sl'.Pairwise (λa b=>ltOf (λx y:AD=>Lj x.tw y.tw) b a=false)/\Own w' base 69 4 EH v sl'/\w.grownBy w' v.ownBlock
theorem avQ(base:Nat)(v:Value)(sl:List AD)(w:World)(M:Own w base 69 4 EH v sl)(hn:sl.length<=4294967296):Calls prog 69 #[v,.func (.func 70) #[] #[]] w<|avP w base v sl:=by
 rcases sl with _|⟨s0,rest⟩
 .have hv:∃p o,v=.slice p 0 o:=by
   rcases M.2 with⟨h,_⟩|⟨g,o,z,h,_⟩;.exact⟨_,_,h⟩
   exact⟨_,_,h⟩
  obtain⟨p,o,rfl⟩:=hv;refine Calls.mono (AnyF.slices_SortFunc_none Tryz.sortRg p o (.func (.func 70) #[] #[]) w) ?_;rintro e w'⟨rfl,rfl⟩;exact⟨rfl,[],List.Perm.refl _,List.Pairwise.nil,M,World.grownBy.refl _ _⟩
 generalize hsl:s0::rest=sl at*;have hs0:s0∈sl:=by rw[<-hsl];simp
 have hpos:0<sl.length:=by rw[<-hsl];simp
 obtain⟨hlen,hown2⟩:=M;rcases hown2 with⟨_,h0⟩|⟨g,o,z,rfl,hg,hh,hnc,hcm,hcs,hx⟩;.omega
 haveI hI:Inhabited {s:AD//s=s}:=⟨⟨s0,rfl⟩⟩;have T:∃K:List {s:AD//s=s},K.map (·.1)=sl:=⟨sl.attachWith (λs=>s=s) λ_ _=>rfl,Ak⟩;obtain⟨K,T⟩:=T;have hdn:K.length=sl.length:=by rw[<-T];simp
 have hfm:K.flatMap (λx=>EH x.1)=sl.flatMap EH:=by rw[<-T,Qm]
 have hcur:∀j,j<sl.length*4->z[j]?=(sl.flatMap EH)[j]?:=λj C=>by rw[<-hx,List.getElem?_take,AZ C];simp
 have eg:∀args w,(callFunc 70 args).run prog w=.ok (.enter 70 args) w:=enters_of func70 IK rfl;have hkk:∀x:{s:AD//s=s},(EH x.1).length=4:=λ_=>rfl;have hcmp:CmpLays prog 70 #[] (λx:{s:AD//s=s}=>EH x.1) 4 (λx y=>(λx y:AD=>Lj x.tw y.tw) x.1 y.1) g 0 K.toArray.size w:=λm os dk hdk x y=>by have hg':=iP (λx:{s:AD//s=s}=>EH x.1) 4 w g 0 m dk os;exact(avH x.1 y.1 _).mono λe w' h=>⟨h.1,zT h.2⟩
 have hsz:K.toArray.size*4=sl.length*4:=by simp[hdn]
 have hH:HoldsK (λx:{s:AD//s=s}=>EH x.1) 4 w g 0 K.toArray:=λj C=>by
  rw[size_flatK,hsz]at C;refine⟨?_,AO.frozen (t:=69) (cs:=z) hh _⟩;rw[cell_of_row w g _ z 69 (0,0) hh,Rk,hcur j C,iQ _ 4 hkk _ j<|by rw[hsz];exact C];simp only[id];rw[hfm,List.getElem!_eq_getElem?_getD];have:j<(sl.flatMap EH).length:=by rw[hlen];exact C
  rw[DK this];rfl
 have hcon:=AnyQ.slices_SortFunc Tryz.sortRg 4 avN avO (λx:{s:AD//s=s}=>EH x.1) hkk (λx=>aAj x.1) (λx y=>(λx y:AD=>Lj x.tw y.tw) x.1 y.1) (aaX λx:{s:AD//s=s}=>x.1.tw) 70 #[] g 0 o K.toArray w eg hcmp hH (AO.lt hh) D8;have hns:K.toArray.size=sl.length:=by simp[hdn]
 rw[hns]at hcon;refine Calls.mono hcon ?_;rintro e w'⟨rfl,c,n,os,hp,hs,rfl⟩;obtain⟨p1,-,p3⟩:=hp;have U:c.size=sl.length:=by rw[p1,hns]
 have hperm:c.toList.Perm K:=by
  have e1:c.extract 0 sl.length=c:=by rw[<-U];simp
  have e2:K.toArray.extract 0 sl.length=K.toArray:=by rw[<-hns];simp
  rw[e1,e2]at p3;simpa using p3
 have hg':=iP (λx:{s:AD//s=s}=>EH x.1) 4 w g 0 n c os;refine⟨rfl,c.toList.map (·.1),by rw[<-T];exact hperm.map _,?_,?_,hg'⟩
 .rw[H9,FT];intro i j hi C hij;have hj':j<c.size:=by simpa using C
  have:=hs i j (C9 _) hij (by rw[<-U];exact hj');rw[getElem!_pos c j hj',getElem!_pos c i I]at this;exact this
 have hl':(c.toList.map (·.1)).length=sl.length:=by simp[U]
 unfold Own;rw[hl'];have hfd:(c.toList.map (·.1)).flatMap EH=c.toList.flatMap λx=>EH x.1:=by rw[Qm]
 have hln:((c.toList.map (·.1)).flatMap EH).length=sl.length*4:=by rw[flat_length EH 4 SQ,hl']
 refine⟨hln,.inr ⟨g,o,putCells id 0 (flatK (λx:{s:AD//s=s}=>EH x.1) 4 c) z,rfl,hg,?_,hnc,hcm,xZ,?_⟩⟩;.have hgl:g<w.heap.size:=AO.lt hh;rw[sH,Array.getElem?_append_left<|by simpa using hgl,Array.getElem?_modify,AZ rfl,hh];rfl
 apply qw;intro j;rw[List.getElem?_take];by_cases C:j<sl.length*4
 .rw[AZ C,hfd];have hjc:j<z.size:=by rw[hcs];have:=qx 4 hnc;omega
  have hjd:j<c.size*4:=by rw[U];exact C
  have e1:(putCells id 0 (flatK (λx:{s:AD//s=s}=>EH x.1) 4 c) z).toList[j]?=some (flatK (λx:{s:AD//s=s}=>EH x.1) 4 c)[j]!:=by simp[putCells,hjc,hjd]
  rw[e1,iQ _ 4 hkk _ j hjd,List.getElem!_eq_getElem?_getD];have:j<(c.toList.flatMap λx=>EH x.1).length:=by rw[<-hfd,hln];exact C
  rw[DK this];rfl
 rw[AX C,aN<|by rw[hln];omega]
