import Derived.Test.YtngoejdlompfoaaGreatJ26
import Derived.StillTailTactics
set_option linter.unusedSimpArgs false
set_option linter.unusedVariables false
set_option maxRecDepth 100000
set_option maxHeartbeats 8000000
namespace Go.Proofs.YtngoejdlompfoaaGreat
open Go.RowKit Tryz
def V6(p:Pl)(f:Int):Option Pt:=if Fa p≠0 then none else VH p f
theorem ala(a b:Int)(W:World):(Instr.index 129 (.agg #[.int .i64 a,.int .i64 b])<|.int .i64 0).run prog W=.ok (.int .i64 a) W/\(Instr.index 129 (.agg #[.int .i64 a,.int .i64 b])<|.int .i64 1).run prog W=.ok (.int .i64 b) W:=⟨IK,IK⟩
theorem ayR(v:Value)(p:Pl)(fc:Int)(w:World)(h:Cj w v p)(hv:Fa p≠0):Calls prog 41 #[v,.int .i64 fc] w λe w'=>e=.returned (XM none)/\AU w w':=by
 have K:=V λW(hW:AU w W)=>ak1 v p W (h.mono hW) hv;obtain⟨M,T,U,al,rfl,-⟩:=h;generalize Fa p=z at*;have hb:(z !=0)=true:=by simpa using hv
 clear hv;go_enter func41,ntmps41;go_upto_region 1 with fail;obtain⟨s,hW⟩:∃W:World,W=(w.alloc<|.cells #[M,T,U] 26).alloc (.cells #[.int .i64 0,.int .i64 0] 50):=⟨_,rfl⟩;have X2:AO s w.heap.size 26 #[M,T,U]:=by rw[hW];exact(AO.made rfl _ _).alloc _
 have j:AO s (w.heap.size+1) 50 #[.int .i64 0,.int .i64 0]:=by rw[hW];exact AO.made Ak _ _
 have o:=V (show AU w s by rw[hW];exact bA (bA (bR w) _) _);have D7:=V j;rw[<-hW];clear hW j;obtain⟨BX,Bf,Bh,CS,-⟩:=X2.BF;go_wp2_with fail;refine(K.1 _ o.1).mono ?_;rintro e w1⟨rfl,c⟩;have C:=V<|J o.1 c;have j:=D7.1.keep c;have D5:=V j;clear c K X2 BX Bf Bh CS;obtain⟨Bg,Bq,CP,DX,EU⟩:=j.BL;go_wp2_with fail;refine L6 (t:=50) (g:=w.heap.size+1) (cs:=#[.int .i64 0,.int .i64 0]) rfl UR rfl rfl (AO.O9 D5.1) ⟨rfl,bS (p:=⟨w.heap.size+1,1,none⟩) (bS (p:=⟨w.heap.size+1,0,none⟩) C.1 Ak _) Ak _⟩
theorem adU(v:Value)(p:Pl)(fc:Int)(w:World)(h:Cj w v p)(hv:Fa p=0):Calls prog 41 #[v,.int .i64 fc] w λe w'=>e=.returned (XM<|VH p fc)/\AU w w':=by
 obtain⟨hvv,hfb⟩:=QA hv;have hf:=uZ.1 hfb;obtain⟨Hix,HC,HPv,Vy⟩:=D9 (ayQ hf fc) (λW(hW:AU w W)=>aFk v p W (h.mono hW) hv) h hvv;have hol:(BN p).length<=512:=Du (NH _ _) hvv.SX;obtain⟨q,hq⟩:=BM<|VH p fc;rw[hq];have HQ:=V hq;obtain⟨_,_,_,al,rfl,-,⟨An,cn,rfl,-⟩,⟨⟨Aa,ca,rfl,-⟩,-⟩,⟨Af,cf,rfl,-⟩⟩:=h;obtain⟨o,hV⟩:=BR (.agg #[.slice An p.nodes.length cn,.slice Aa al.length ca,.slice Af p.faces.length cf]:Value);rw[<-hV]at HPv;have HVe:=V hV;generalize p.nodes.length=nn at*;generalize al.length=na at*;generalize p.faces.length=nf at*;clear hq hV hvv hfb hv hf;go_enter func41,ntmps41;go_upto_region 1 with fail;obtain⟨W1,hW⟩:∃W:World,W=(w.alloc<|.cells #[.slice An nn cn,.slice Aa na ca,.slice Af nf cf] 26).alloc (.cells #[.int .i64 0,.int .i64 0] 50):=⟨_,rfl⟩;have X2:AO W1 w.heap.size 26 #[.slice An nn cn,.slice Aa na ca,.slice Af nf cf]:=by rw[hW];exact(AO.made rfl _ _).alloc _
 have M:AO W1 (w.heap.size+1) 50 #[.int .i64 0,.int .i64 0]:=by rw[hW];exact AO.made Ak _ _
 have HB1:=V (show AU w W1 by rw[hW];exact bA (bA (bR w) _) _);rw[<-hW];clear hW;obtain⟨g4,h4⟩:∃g,w.heap.size+1=g:=⟨_,rfl⟩;have hg4:w.heap.size<=g4:=I;rw[h4]at M⊢;obtain⟨g2,h2⟩:∃g,w.heap.size=g:=⟨_,rfl⟩;rw[h2]at X2⊢;have CW:=V X2;have D7:=V M;have n24:g2≠g4:=I;have n42:g4≠g2:=I;clear h4 h2 M;obtain⟨BX,Bf,Bh,CS,-⟩:=X2.BF;go_wp2_with fail;refine(HC.1 _ HB1.1).mono ?_;rintro e w1⟨A,c,L,A',c',gm,f,rfl,hb1,Qc,hfi,hdv,htw,hpm,hgm,-⟩;have HB2:=V<|J HB1.1 hb1;have hll:L.length=(BN p).length+1:=hdv.len;rw[hll]at hfi;obtain⟨HIx,alb,alc,HA,HD,Jl,HL⟩:=V9 (λW(hW:AU w1 W)=>ahu _ _ fc W<|hfi.mono hW) (CW.1.keep hb1) (D7.1.keep hb1) Qc hdv hpm hll;rw[<-hll]at HIx;clear hb1 HC X2 BX Bf Bh CS CW D7 HB1 Qc hfi hdv htw hpm hgm hll;go_wp2_with fail;refine(HIx.1 _<|bR w1).mono ?_;rintro e w2⟨rfl,hb2⟩;obtain⟨HB3,ald,aFQ,HA2,ale⟩:=G9 (J HB2.1 hb2) (alb.1.keep hb2) (alc.1.keep hb2) (HA.1.mono hb2)<|Jl.1.keep hb2;rw[HL.1];clear hb2 HIx alb alc HA Jl HB2;have hix:=Hix.1;clear Hix;rcases hix with⟨i,hi,hz,aBy⟩|⟨hz,aBy⟩;case inr=>have hq:=HQ.1;unfold VH at hq;rw[aBy]at hq;have pV:=V<|show q=none from hq.symm;generalize bW _ fc=z at*;have M:=aFQ.1;clear hq HQ aBy;obtain⟨Bg,Bq,CP,DX,EU⟩:=M.BL;go_wp2_with fail;refine L6 (t:=50) (g:=g4) (cs:=#[.int .i64 0,.int .i64 0]) rfl UR rfl rfl (AO.O9 aFQ.1) ⟨by rw[pV.1];rfl,bS (p:=⟨g4,1,none⟩) (bS (p:=⟨g4,0,none⟩) HB3.1 hg4 _) hg4 _⟩
 rw[hz];have adV:=V aBy;have kz:¬(i:Int)+1<1:=I;clear hz aBy;go_upto_region 7 with fail;have xJ:i+1<L.length:=by rw[HL.1];omega
 have hX:(BN p)[i]∈BN p:=BG hi;obtain⟨X,qW⟩:=BM (BN p)[i];have U:=HD.1.kN xJ I;have hcy:=HD.1.aFe xJ;have hkey:NU (BN p) (i+1)=some X:=by rw[YC I I];simp only[gI];rw[qW]
 unfold Nw at hcy;rw[hkey]at hcy;have hal:L[i+1].Ci=Sr p (some X):=by rw[HD.1.Ci (i+1) xJ,hkey];rfl
 simp only[gI]at U;rw[qW]at U hX adV;have hmem:=BG xJ;obtain⟨HR,Y3,Qa,Oc,IU⟩:=G9 (λW(hW:AU w2 W)=>(HA2.1.mono hW).sl) (λW(hW:AU w2 W)=>(HA2.1.mono hW).out _ hmem) (λW(hW:AU w2 W)=>(HA2.1.mono hW).inn _ hmem) (λW(hW:AU w2 W)=>(HA2.1.mono hW).Ik _ hmem) λW(hW:AU w2 W)=>(HA2.1.mono hW).Ci _ hmem;have ayS:(DV p X).length<=33280:=by have h1:=Vy.1.amD (b:=some X)<|FW _<|H6 hX;have h2:=am9 (DV p) (l:=GN p<|some X) (a:=X) ED;unfold FZ at h1;omega
 have hdd:=(Vy.1.Fv (Gl.1 hX).1).2;have Q5:VH p fc=uf p (some X) (NI<|Kv<|DV p X).y0 (NI<|Kv<|DV p X).y1:=by unfold VH;rw[adV.1]
 rw[HQ.1]at Q5;have hne:Kv (DV p X)≠[]:=by have hh:=Vy.1.U0 (Gl.1 hX).1;obtain⟨a,ha,-,hp⟩:=Vy.1.Ug<|hdd _ hh;have hl:=En p a;have hpt:(AV p a).getD 0 AY∈Kv (DV p X):=(Vy.1.aFt hdd _).2<|Fj.2 ⟨_,hh,(aeF _ _ _).2<|by rw[hp,G5,DK<|show 0<(AV p a).length by omega];exact BG _⟩;intro e0;rw[e0]at hpt;cases hpt
 have hbx:=aFs hne;have NT:∀u∈Kv<|DV p X,Bl u=true:=λu hu=>by have hu:=(Vy.1.aFt hdd u).1 hu;obtain⟨d,hd,hu⟩:=Fj.1 hu;rw[aeF]at hu;obtain⟨a,ha,-,hp⟩:=Vy.1.Ug<|hdd _ hd;rw[hp]at hu;exact Vy.1.Zu ha hu
 have hby:(-2097152<=(NI<|Kv<|DV p X).y0/\(NI<|Kv<|DV p X).y0<=2097152)/\-2097152<=(NI<|Kv<|DV p X).y1/\(NI<|Kv<|DV p X).y1<=2097152:=by obtain⟨u,hu,e⟩:=hbx.y0;obtain⟨u',hu',e'⟩:=hbx.y1;have n1:=NT u hu;have n2:=NT u' hu';rw[QO]at n1 n2;omega
 have hel:0<(Kv<|DV p X).length:=ZG.2 hne;obtain⟨E,hE⟩:=BM<|Kv<|DV p X;rw[hE]at Q5 hby hel;obtain⟨bx,adW⟩:=BM<|NI E;rw[adW]at Q5 hby;obtain⟨OU,HE,KL,HMd,NJ⟩:=G9 Q5 hE adW (λW(hW:AU w2 W)y=>ayJ o p W ((HPv.1.mono HB3.1).mono hW) Vy.1 gm f (ale.1.keep hW) L[i+1] X hX (Y3.1 W hW) (Qa.1 W hW) (Oc.1 W hW) (IU.1 W hW) hcy hal y) λW B g k1 k2 hB h0 hw=>ayO w2 gm p f ale.1 Vy.1 (BO L[i+1].ov) L[i+1].out (Y3.1 w2<|bR w2) (by rw[U];exact hdd) B g (by rw[U];omega) k1 k2 W hB (.slice none 0 0) h0 hw;rw[U]at NJ;have hrow:=HA2.1.sl;obtain⟨A2,c2,he,-,-,hRr⟩:=hrow;injection he with q1 q2 q3;subst q1 q3;clear q2;obtain⟨bl,ol,hAe,hlb,c0,c1,xK,c3⟩:=hRr.ad xJ;generalize L[i+1]=x at*;obtain⟨tw,out,⟨oa,on,oc⟩,inn,⟨ia,IX,ic⟩,Ci,⟨aa,an,ac⟩⟩:=x;unfold BO at c1 xK c3 HMd NJ;simp only at c0 c1 xK c3 HMd NJ;subst hAe;have kl:(i:Int)+1<((BN p).length:Int)+1:=I;have k0:0<=(i:Int)+1:=I;obtain⟨nO,hnO⟩:=BM (BN p).length;rw[hnO]at kl⊢;clear qW U hcy hkey hal hmem ayS hdd Q5 hne hbx NT hE adW hnO hRr HL adV HQ HD xJ;go_upto_region 8 with fail;obtain⟨W3,hW⟩:∃W:World,W=w2.alloc (.cells #[.slice none 0 0] 29):=⟨_,rfl⟩;have MW:AO W3 w2.heap.size 29 #[.slice none 0 0]:=by rw[hW];exact AO.made rfl _ _
 have hA:AU w2 W3:=by rw[hW];exact bA (bR w2) _
 have JD:=V hA;have xB:=V<|show fE W3 W3.heap.size w2.heap.size []<|.slice none 0 0 from⟨MW,Own.nil _ _ _ _ _⟩;have d1:=Dk hA c1;have hl3:w2.heap.size<=W3.heap.size:=hA.size;rw[<-hW];clear hW hA MW;obtain⟨g11,h11⟩:∃g,w2.heap.size=g:=⟨_,rfl⟩;have aFq:w2.heap.size<=g11:=I;rw[h11]at xB⊢;clear h11;go_wp2_with fail;refine(NJ.1 W3 W3.heap.size g11 hl3 aFq (Dh _) xB.1 JD.1).mono ?_;rintro e w4⟨rfl,ayT⟩;obtain⟨⟨vp,hpb⟩,-,hb4⟩:=ayT;rw[HE.1]at hpb;obtain⟨Ap,cp,hvp,-⟩:=hpb.own.sl;subst hvp;have MW:=hpb.box;have hrb:=λW(hW:AU w4 W)=>ayK _ E W (Sl.mono hpb.own.sl hW) hel;rw[KL.1]at hrb;unfold fD at hrb;have HRb:=V hrb;have HB4:=V hb4;clear hrb hpb hb4 NJ xB JD d1 HE KL;obtain⟨YW,YX,-⟩:=MW.G7;go_wp2_with fail;refine(HRb.1 _<|bR w4).mono ?_;rintro e w5⟨rfl,hb5⟩;obtain⟨x0,y0,x1,y1⟩:=bx;simp only at hby⊢;have Cb:=V<|J HB4.1 hb5;clear hb5 HB4 HRb MW YW YX hel;go_upto_region 10 with fail;obtain⟨W6,hW⟩:∃W:World,W=w5.alloc (.cells #[.int .i64 x0,.int .i64 y0,.int .i64 x1,.int .i64 y1] 95):=⟨_,rfl⟩;have NG:AO W6 w5.heap.size 95 #[.int .i64 x0,.int .i64 y0,.int .i64 x1,.int .i64 y1]:=by rw[hW];exact AO.made rfl _ _
 have hA:AU w2 W6:=by rw[hW];exact bA Cb.1 _
 obtain⟨EG,CW,D7,Vs⟩:=D9 hA (ald.1.keep hA) (aFQ.1.keep hA) NG;replace c0:=Dk hA c0;replace c1:=Dk hA c1;replace xK:=Dk hA xK;replace c3:=Dk hA c3;replace hlb:=IQ hlb hA.size;obtain⟨g12,h12⟩:∃g,w5.heap.size=g:=⟨_,rfl⟩;rw[<-hW];rw[h12]at NG Vs⊢;clear hW hA ald aFQ h12 Cb;obtain⟨PE,PG,PI,PK,xM,-⟩:=NG.MC;have km:=DR<|y0+y1;go_upto_block 0 with fail;obtain⟨C,hmid⟩:=BM<|(y0+y1)/2;have hmb:-2097153<=C/\C<=2097153:=I;have jy:=V hmid;simp only[hmid];clear hmid km NG PE PG PI PK xM;obtain⟨Oq,kP,HC2,HC3⟩:=D9 c0 c1 xK c3;clear c0 c1 xK c3;go_wp2_with fail;go_loopw[14,5](λd ok wr=>∃D:Nat,d=.int .i64 D/\(∀j,j<D->midD p (some X) y0 y1 C j=none)/\ok=.bool false/\D<=4194310/\AU W6 wr)λd _ _=>4194312-(intOf d).toNat;case atStart=>exact⟨0,rfl,λj hj=>I,rfl,I,bR W6⟩
 obtain⟨D,rfl,hno,rfl,hD,hbw⟩:=hrel;obtain⟨wo,rfl⟩:=BR wr;have Fz:=V hno;have Ez:=V hbw;have NG:=Vs.1.keep hbw;have k1:=DR<|C+D;have k2:=DR<|C-D;clear hno hbw;try clear PE PG PI PK xM
 obtain⟨PE,PG,PI,PK,xM,-⟩:=NG.MC;by_cases hc:C+D<=y1\/y0<=C-D;.have hDb:D<=4194308:=I;go_upto_block 2 with fail;all_goals
   clear NG PE PG PI PK xM;go_wp2_with fail;go_loopw[72,5](λj ok wr=>∃s:Nat,s<=2/\j=.int .i64 s/\(1<=s->midRow p (some X) y0 y1 (C+D)=none)/\(2<=s->midRow p (some X) y0 y1 (C-D)=none)/\ok=.bool false/\AU W6 wr)λj _ _=>2-(intOf j).toNat;case atStart=>exact⟨0,I,rfl,λh=>I,λh=>I,rfl,Ez.1⟩
   case round=>
    obtain⟨s,hJ,rfl,hj1,hj2,rfl,hbv⟩:=hrel;obtain⟨wv,rfl⟩:=BR wr;obtain⟨HJ1,HJ2,Kz⟩:=CB hj1 hj2 hbv;clear hj1 hj2 hbv;by_cases hlt:s<2
    .have hyy:∃yy,(∀W,(Instr.index 129 (.agg #[.int .i64<|C+D,.int .i64<|C-D])<|.int .i64 s).run prog W=.ok (.int .i64 yy) W)/\(yy=C+D\/yy=C-D)/\(midRow p (some X) y0 y1 yy=none->(1<=s+1->midRow p (some X) y0 y1 (C+D)=none)/\(2<=s+1->midRow p (some X) y0 y1 (C-D)=none))/\∀u,midRow p (some X) y0 y1 yy=some u->midD p (some X) y0 y1 C D=some u:=by
      have:s=0\/s=1:=I;rcases this with rfl|rfl;.exact⟨C+D,λW=>(ala _ _ W).1,.inl rfl,λh=>⟨λ_=>h,λh=>I⟩,λu hu=>by unfold midD;rw[hu];rfl⟩
      exact⟨C-D,λW=>(ala _ _ W).2,.inr rfl,λh=>⟨λ_=>HJ1.1<|Dh _,λ_=>h⟩,λu hu=>by unfold midD;rw[HJ1.1<|Dh _,hu];rfl⟩
     obtain⟨yy,hI,hyb,hyn,hys⟩:=hyy;have aBZ:=V hyn;have XO:=V hys;have azn:-6291465<=yy/\yy<=6291465:=I;have NG:=Vs.1.keep Kz.1;clear hyb hyn hys HJ1 HJ2;try clear PE PG PI PK xM
     obtain⟨PE,PG,PI,PK,xM,-⟩:=NG.MC;by_cases ho:yy<y0\/y1<yy;.have hr:=aBZ.1<|aBs p (some X) ho;have HR1:=V hr;clear hr aBZ XO;go_wp2_with fail;all_goals
       go_roundw;case rel=>exact⟨s+1,I,BH,HR1.1.1,HR1.1.2,rfl,Kz.1⟩
       case measure=>exact BJ
     have ho1:¬yy<y0:=λe=>ho<|.inl e;have ho2:¬y1<yy:=λe=>ho<|.inr e;have kT:=awk p (some X) ho;have T:=λW(hW:AU wv W)=>HMd.1 W (J EG.1<|J Kz.1 hW) yy;rw[HVe.1]at T;unfold adS at T;rw[<-kT]at T;obtain⟨res,hres⟩:=BM<|midRow p (some X) y0 y1 yy;rw[hres]at T;have alf:=V hres;have X2:=CW.1.keep Kz.1;have M:=D7.1.keep Kz.1;have c0:=Dk Kz.1 Oq.1;have c1:=Dk Kz.1 kP.1;have c2:=Dk Kz.1 HC2.1;have c3:=Dk Kz.1 HC3.1;have hlv:=IQ hlb Kz.1.size;have hbl:bl≠g4:=λe=>by subst e;rw[M.cell]at c1;generalize ol+(i+1)*4+1=k at c1;match k,c1 with|0,h=>simp at h|1,h=>simp at h|k+2,h=>simp at h
     have azo:=hbl.symm;clear kT hres ho;try clear BX Bf Bh CS
     obtain⟨BX,Bf,Bh,CS,-⟩:=X2.BF;cases res with
     |none=>
      unfold XM at T;have aeQ:=V T;have hr:=aBZ.1 alf.1;have HR1:=V hr;clear T hr aBZ XO;go_upto_region 18 with fail;refine Wn wv (some g4) (.run 7 0 0<|.call 7 255<|.run 3 8 255<|.call 11 4095<|.take 12 8191<|.done) λCG QR Ae Aj hS=>?_;replace M:=M.drew;iterate 7 refine Ah ?_
      refine FM (aeQ.1 _<|bD<|bR wv) ?_;clear hS;intro Bv Bj hS;try replace M:=M.keep Bj
      iterate 3 refine Ah ?_
      refine BP ?_;clear hS;intro K hK AQ;obtain⟨Bg,Bq,CP,DX,EU⟩:=M.BL;go_simp;refine hK.out _ _ QG λhS=>?_;clear hK K AQ;try simp only[pu]
      refine Ah ?_;refine U7 ?_;clear hS Aj Ae;intro hB;rw[alZ M (i:=0) (v:=.int .i64 0) rfl,alZ M (i:=1) (v:=.int .i64 0) rfl];have HBz:=V<|J Kz.1<|J (bD<|bR wv) Bj;clear hB;go_wp2;go_roundw;case rel=>exact⟨s+1,I,BH,HR1.1.1,HR1.1.2,rfl,HBz.1⟩
      case measure=>exact BJ|some u=>
      unfold XM at T;have aeQ:=V T;have hq:q=some u:=by rw[OU.1];exact awm p (some X) (D:=D) (by rw[jy.1];exact Fz.1)<|by rw[jy.1];exact XO.1 u alf.1
      have pV:=V hq;clear T hq aBZ XO;go_upto_region 18 with fail;refine Wn wv (some g4) (.run 7 0 0<|.call 7 255<|.run 3 8 255<|.call 11 4095<|.take 12 8191<|.done) λCG QR Ae Aj hS=>?_;replace M:=M.drew;iterate 7 refine Ah ?_
      refine FM (aeQ.1 _<|bD<|bR wv) ?_;clear hS;intro Bv Bj hS;try replace M:=M.keep Bj
      iterate 3 refine Ah ?_
      refine BP ?_;clear hS;intro K hK AQ;obtain⟨Bg,Bq,CP,DX,EU⟩:=M.BL;go_simp;refine hK.out _ _ QG λhS=>?_;clear hK K AQ;try simp only[pu]
      refine Ah ?_;refine U7 ?_;clear hS Aj Ae;intro hB;have HBz:=V<|J Kz.1<|J (bD<|bR wv) Bj;clear hB Bg Bq CP DX EU;have X4n:=AO.O9 M (x0:=.int .i64 u.x) (x1:=.int .i64 u.y);obtain⟨wz,hwz⟩:=BR<|(Bv.setCell ⟨g4,0,none⟩<|.int .i64 u.x).setCell ⟨g4,1,none⟩<|.int .i64 u.y;have kF:=V (show AU w wz by rw[hwz];exact bS (p:=⟨g4,1,none⟩) (bS (p:=⟨g4,0,none⟩) (J HB3.1<|J EG.1 HBz.1) hg4 _) hg4 _);rw[<-hwz]at X4n⊢;clear hwz M;have aeR:=V X4n;obtain⟨Bg,Bq,CP,DX,EU⟩:=X4n.BL;go_wp2_with fail;refine L6 (t:=50) (g:=g4) (cs:=#[.int .i64 u.x,.int .i64 u.y]) rfl UR rfl rfl (AO.O9 aeR.1) ⟨by rw[pV.1];unfold XM;congr 1,bS (p:=⟨g4,1,none⟩) (bS (p:=⟨g4,0,none⟩) kF.1 hg4 _) hg4 _⟩
    obtain rfl:s=2:=I;have hd:=midD p (some X) y0 y1 C D;have hn:midD p (some X) y0 y1 C D=none:=by unfold midD;rw[HJ1.1 I,HJ2.1 I];rfl
    have Ro:=V (show∀j,j<D+1->midD p (some X) y0 y1 C j=none fromλj hj=>by
     by_cases e:j=D;.subst e;exact hn
     exact Fz.1 j I);clear hn hd;go_wp2;go_roundw;case rel=>exact⟨D+1,BH,Ro.1,rfl,I,Kz.1⟩
    exact BJ
 have hc1:¬C+D<=y1:=λe=>hc<|.inl e;have hc2:¬y0<=C-D:=λe=>hc<|.inr e;have hq:q=none:=by rw[OU.1];exact awl p (some X) (D:=D) (by rw[jy.1];exact Fz.1) (by rw[jy.1];omega)<|by rw[jy.1];omega
 have pV:=V hq;have M:=D7.1.keep Ez.1;have aeR:=V M;clear hq hc;try clear Bg Bq CP
 try clear DX EU
 obtain⟨Bg,Bq,CP,DX,EU⟩:=M.BL;go_wp2_with fail;refine L6 (t:=50) (g:=g4) (cs:=#[.int .i64 0,.int .i64 0]) rfl UR rfl rfl (AO.O9 aeR.1) ⟨by rw[pV.1];rfl,bS (p:=⟨g4,1,none⟩) (bS (p:=⟨g4,0,none⟩) (J HB3.1<|J EG.1 Ez.1) hg4 _) hg4 _⟩
theorem Row.ayU{w:World}{A:Option Addr}{l:List Pt}(h:Row w A<|l.flatMap Ep)(h0:0<l.length):∃b o,A=some ⟨b,o,none⟩/\b<w.heap.size/\∀j(s:j<l.length),w.cell? ⟨b,o+j*2,none⟩=some (.int .i64 l[j].x)/\w.cell? ⟨b,o+j*2+1,none⟩=some (.int .i64 l[j].y):=by
 obtain⟨b,o,z,hb,-⟩:=h.pt h0;refine⟨b,o,z,hb,λj s=>?_⟩;obtain⟨b',C,c,-,K,c1⟩:=h.pt s;rw[z]at c;obtain⟨rfl,rfl⟩:b=b'/\o=C:=by simpa using c
 exact⟨K,c1⟩
theorem alg:StructOf prog 95 4:=.QI Tryz.underlying95 IK
theorem ayV(v:Value)(l:List Pt)(w:World)(h:EL w v l)(j:0<l.length):Calls prog 67 #[v] w λe w'=>e=.returned (.agg<|fD<|NI l)/\AU w w':=by
 obtain⟨A,c,rfl,h1,h2,hR⟩:=h;unfold maxLen at h2;obtain⟨b,o,rfl,hlb,hc⟩:=Row.ayU hR j;obtain⟨u0,u1⟩:=hc 0 j;simp only[yK,VA]at u0 u1;obtain⟨r,hr⟩:=BM<|NI l;rw[hr];have HR:=V (show l.foldl Ph ⟨l[0].x,l[0].y,l[0].x,l[0].y⟩=r by rw[<-hr];cases l with|nil=>simp at j|cons p l=>rfl);have HI:=V (show(⟨l[0].x,l[0].y,l[0].x,l[0].y⟩:Bx)=(l.take 1).foldl Ph ⟨l[0].x,l[0].y,l[0].x,l[0].y⟩by cases l with|nil=>simp at j|cons p l=>show _=Ph ⟨p.x,p.y,p.x,p.y⟩ p;unfold Ph;simp);have HC:=V hc;obtain⟨T,U⟩:=BM l.length;have HLn:=V U;rw[U]at h1 j⊢;obtain⟨s,hp0⟩:∃p,l[0]=p:=⟨_,rfl⟩;rw[hp0]at u0 u1 HR HI;clear hr hc hR hp0 U;have v1:(0:Int)<T:=I;have v2:((T:Int)==0)=false:=by simp;omega
 have v3:¬T=0:=I;unfold fD;obtain⟨g2,hg2⟩:∃g,w.heap.size=g:=⟨_,rfl⟩;obtain⟨W,hW⟩:=BR<|w.alloc<|.cells #[.int .i64 0,.int .i64 0,.int .i64 0,.int .i64 0] 95;have hA:AU w W:=by rw[hW];exact bA (bR w) _
 have X2:AO W g2 95 #[.int .i64 0,.int .i64 0,.int .i64 0,.int .i64 0]:=by rw[hW];exact AO.made hg2.symm _ _
 have HB:=V hA;have CW:=V X2;go_enter func67,ntmps67;go_upto_region 3 with fail;try rw[<-hW]
 have z:w.heap.size<=g2:=I;have hbg:b<g2:=I;have hbW:b<W.heap.size:=IQ hlb hA.size;replace u0:=Dk hA u0;replace u1:=Dk hA u1;clear hW hg2 hA;go_cut[3]λu wx=>∃g3,u=.pointer (some ⟨g3,0,none⟩)/\AO wx g3 95 #[.int .i64 s.x,.int .i64 s.y,.int .i64 s.x,.int .i64 s.y]/\W.heap.size<=g3/\AU W wx;case first=>
  refine Pe W.heap.size W (.run 17 0 0<|.call 17 262143<|.call 18 524287<|.done) λCG QR Ae Aj hS=>?_;iterate 17 refine Ah ?_
  refine BP ?_;clear hS;intro K hK AQ;go_simp;have XQy:Below W.heap.size W W.drew:=AQ.out;have XQz:W.heap.size<=(W.drew).heap.size:=Du I (show Below W.heap.size W<|W.drew from AQ.out).size;refine hK.out _ _ (Gs I AQ.out _) λhS=>?_;clear hK K AQ;try replace XQ:=XQ.alloc<|.cells #[.int .i64 0,.int .i64 0,.int .i64 0,.int .i64 0] 95
  have XQ:=AO.new W.drew 95 #[.int .i64 0,.int .i64 0,.int .i64 0,.int .i64 0];try simp only[World.size_drew,World.size_alloc]at XQ XQz
  try simp only[pu]
  refine BP ?_;clear hS;intro K hK AQ;obtain⟨XQl,XQa,XQb,XQc,XQd,XQe,XQf,XQg,XQh⟩:=XQ.MC;go_simp;refine hK.out _ _ (by unfold Fh;have h:Below _ _ _:=AQ.out;repeat(first|with_reducible assumption|with_reducible exact Below.refl _ _|with_reducible refine Na ?_ PV _|with_reducible refine Below.drew ?_|with_reducible refine Gs I ?_ _|exact h)) ?_;intro hS;clear hK K AQ;try simp only[pu]
  refine L9 ?_;clear hS Aj Ae;intro hB;go_wp2;go_meet;exact⟨_,rfl,by first|with_reducible exact AO.nD XQ|with_reducible exact AO.made rfl _ _|with_reducible exact AO.drew<|AO.made rfl _ _,DJ,hB⟩
 obtain⟨g3,rfl,C,hg3,M⟩:=hcut;obtain⟨W3,hW3⟩:=BR wc;rw[<-hW3]at C M⊢;obtain⟨HB3,aBa,FN⟩:=CB (J HB.1 M) (CW.1.keep M) C;have ayW:g2<g3:=by have:=CW.1.lt;omega
 have ayX:w.heap.size<=g3:=I;have azp:b<g3:=I;clear hW3 M C X2 u0 u1 hbW;go_wp2_with fail;go_loopw[4](λu wr=>∃(k:Nat)(x:Bx),1<=k/\k<=T/\u=.int .i64 k/\x=(l.take k).foldl Ph ⟨s.x,s.y,s.x,s.y⟩/\AO wr g3 95 #[.int .i64 x.x0,.int .i64 x.y0,.int .i64 x.x1,.int .i64 x.y1]/\Below g3 W3 wr)λu _=>T-(intOf u).toNat;case atStart=>exact⟨1,⟨s.x,s.y,s.x,s.y⟩,Dh _,j,rfl,HI.1,FN.1,Below.refl _ _⟩
 obtain⟨k,x,hk1,hk,rfl,hx,C,hb⟩:=hrel;obtain⟨Hb,HX,aBt⟩:=CB hb hx C;have l3:=C.lt;have Ez:=V<|show AU w wr from HB3.1.trans<|hb.mono ayX;clear hb hx;by_cases hlt:k<T
 .have hkl:k<l.length:=by rw[HLn.1];exact hlt
  obtain⟨c0,c1⟩:=HC.1 k hkl;replace c0:=Dk Ez.1 c0;replace c1:=Dk Ez.1 c1;have hst:(l.take<|k+1).foldl Ph ⟨s.x,s.y,s.x,s.y⟩=Ph x l[k]:=by rw[Eu hkl,LG,<-HX.1];rfl
  unfold Ph at hst;have Ce:=V hst;obtain⟨q,hq⟩:=BM l[k];rw[hq]at c0 c1 Ce;clear hq hst hkl;have hbr:b<wr.heap.size:=I;have hne:some b≠some g3:=λe=>by have:=Dn e;omega
  have r1:0<=(k:Int):=I;have r2:(k:Int)<T:=I;obtain⟨E5,Em,Ew,MV,MH,iE,aAM,amL,amM⟩:=C.MC;go_upto_region 7 with fail;have hmn:(⟨if q.x<x.x0 then q.x else x.x0,if q.y<x.y0 then q.y else x.y0,if x.x1<q.x then q.x else x.x1,if x.y1<q.y then q.y else x.y1⟩:Bx)=⟨min x.x0 q.x,min x.y0 q.y,max x.x1 q.x,max x.y1 q.y⟩:=by
   congr 1;.split<;>omega
   .split<;>omega
   .split<;>omega
   split<;>omega
  have HMn:=V hmn;clear hmn;go_still_tail 33,IK;change wpList _ _ _ _ _ wr.drew;have MH:=aBt.1.drew;have aeS:=V MH;have hbd:Below g3 W3 wr.drew:=Below.drew Hb.1;obtain⟨wd,hwd⟩:=BR wr.drew;have KZ:=V hbd;rw[<-hwd]at MH aeS KZ⊢;clear hwd hbd C E5 Em Ew MV c0 c1;obtain⟨azq,azr,azs,azt,azu,azN,azO,azP,azQ⟩:=MH.MC;go_wp2;go_roundw;case rel=>first|exact⟨k+1,_,I,I,BH,HMn.1.trans Ce.1.symm,aeS.1.nD,(((KZ.1.setCell (p:=⟨g3,0,none⟩) (Dh _) _).setCell (p:=⟨g3,1,none⟩) (Dh _) _).setCell (p:=⟨g3,2,none⟩) (Dh _) _).setCell (p:=⟨g3,3,none⟩) (Dh _) _⟩|exact⟨k+1,_,I,I,BH,Ce.1.symm,aeS.1.nD,(((KZ.1.setCell (p:=⟨g3,0,none⟩) (Dh _) _).setCell (p:=⟨g3,1,none⟩) (Dh _) _).setCell (p:=⟨g3,2,none⟩) (Dh _) _).setCell (p:=⟨g3,3,none⟩) (Dh _) _⟩
  exact BJ
 have hxr:x=r:=by rw[HX.1,Ip<|by have:=HLn.1;omega,HR.1]
 have HXr:=V hxr;have r2:¬(k:Int)<T:=I;clear hxr;have X2:=aBa.1.below Hb.1 ayW;have ayY:=V X2;try clear E5 Em Ew MV MH
 try clear iE aAM amL amM
 obtain⟨E5,Em,Ew,MV,MH,-⟩:=C.MC;obtain⟨BX,Bf,Bh,CS,aAA,UL,WS,aF,adT⟩:=X2.MC;go_wp2_with fail;refine nG (g:=g2) (cs:=#[.int .i64 x.x0,.int .i64 x.y0,.int .i64 x.x1,.int .i64 x.y1]) rfl alg rfl rfl (AO.nD ayY.1) ⟨by rw[HXr.1],?_⟩;exact(((Ez.1.setCell (p:=⟨g2,0,none⟩) z _).setCell (p:=⟨g2,1,none⟩) z _).setCell (p:=⟨g2,2,none⟩) z _).setCell (p:=⟨g2,3,none⟩) z _
theorem ayZ(v:Value)(w:World)(h:EL w v []):Calls prog 67 #[v] w λe w'=>e=.returned (.agg<|fD<|NI [])/\AU w w':=by
 obtain⟨A,c,rfl,-⟩:=h;have hz:(([]:List Pt).length:Int)=0:=rfl;unfold fD NI;simp only[Nb];obtain⟨g2,o⟩:∃g,w.heap.size=g:=⟨_,rfl⟩;obtain⟨W,s⟩:=BR<|w.alloc<|.cells #[.int .i64 0,.int .i64 0,.int .i64 0,.int .i64 0] 95;have z:AU w W:=by rw[s];exact bA (bR w) _
 have C:AO W g2 95 #[.int .i64 0,.int .i64 0,.int .i64 0,.int .i64 0]:=by rw[s];exact AO.made o.symm _ _
 have K:=V z;have M:=V C;go_enter func67,ntmps67;go_upto_region 1 with fail;rw[<-s];try rw[o]
 have j:w.heap.size<=g2:=I;clear s o z;obtain⟨BX,Bf,Bh,CS,T,UL,WS,aF,U⟩:=C.MC;go_wp2_with fail;refine nG (g:=g2) (cs:=#[.int .i64 0,.int .i64 0,.int .i64<|-1,.int .i64<|-1]) rfl alg rfl rfl (AO.nD M.1) ⟨rfl,?_⟩;exact(((K.1.setCell (p:=⟨g2,0,none⟩) j _).setCell (p:=⟨g2,1,none⟩) j _).setCell (p:=⟨g2,2,none⟩) j _).setCell (p:=⟨g2,3,none⟩) j _
theorem alh(v:Value)(l:List Pt)(w:World)(h:EL w v l):Calls prog 67 #[v] w λe w'=>e=.returned (.agg<|fD<|NI l)/\AU w w':=by cases l with|nil=>exact ayZ v w h|cons p l=>exact ayV v (p::l) w h Ak
theorem aya{g:Int->Option Pt}{c j:Int}{i:Nat}(hi:i<(j-c+3).toNat)(h:(List.range i).findSome? (λi=>g<|NW c j i)=none){v:Pt}(hv:g (NW c j i)=some v):aC8 g c j=some v:=by
 have far:∀m:Nat,(List.range<|i+1+m).findSome? (λi=>g<|NW c j i)=some v:=λm=>by induction m with|zero=>rw[VA,eH,h,hv];rfl|succ m o=>rw[<-Nat.add_assoc,eH,o];rfl
 unfold aC8;have e:(j-c+3).toNat=i+1+((j-c+3).toNat-(i+1)):=I;rw[e];exact far _
theorem ali{q k j:Nat}(h:q<=k*65536+j*66)(c:j<=512):q<=(k+1)*65536:=I
theorem ayb(v:Value)(p:Pl)(f:Int)(w:World)(h:Cj w v p):Calls prog 42 #[v,.int .i64 f] w λe w'=>e=.returned (XM<|V6 p f)/\AU w w':=by
 obtain⟨HC,jc,aBb,MK,Iy,Ue⟩:=Lp (λW(hW:AU w W)=>auv v p W<|h.mono hW) (λ(hz:Fa p=0)W(hW:AU w W)=>aiY v p W (h.mono hW) (QA hz).1) (λ(hz:Fa p=0)y(hy:-2097152<=y/\y<=2097152)vl CL W(hC:aY W vl CL)(hcl:CL.map (·.1)=sortK (BN p))(hW:AU w W)=>avp v vl p CL (sortK<|BN p) f y W (h.mono hW) (QA hz).1 hC hcl (Wi _).1 hy) (λ(hz:Fa p=0)d(hd:d∈BZ p)W(hW:AU w W)=>aEJ v p d W (h.mono hW) (λa ha=>Du ((QA hz).1.short a ha) I)<|by have:=(QA hz).1.Rq hd;exact L8 I I) (λ(hz:Fa p=0)d(hd:d∈BZ p)W(hW:AU w W)=>aBQ v p d W (h.mono hW) (QA hz).1 hd) λ(hz:Fa p=0)d(hd:d∈BZ p)=>(QA hz).1.aBR hd;have Q9:=V (λ(hz:Fa p=0)X(hX:X∈sortK (BN p))=>show 0<X.length/\X.length<=512/\∀d∈X,d∈BZ p from by have hm:=(Gl.1<|(Wi _).1.subset hX).1;have hn:=(QA hz).1.Fv hm;exact⟨ZG.2<|(QA hz).1.VF hm,Du (Wq hn.1 hn.2) (QA hz).1.uY,hn.2⟩);have Uj:=V (λ(hz:Fa p=0)=>show(sortK<|BN p).length<=512 by rw[(Wi _).1.length_eq];exact Du (NH _ _) (QA hz).1.SX);have kW:=V λ(A:Option Addr)(c:Nat)(hh:Ints w (.slice A p.faces.length c) p.faces)W(hW:AU w W)=>acL _ p.faces f W<|Ints.mono hh hW;have Fz:=V (λ(hz:Fa p=0)(hn:f∉p.faces)=>show V6 p f=none by unfold V6 VH;rw[AX<|by rw[hz];simp];cases c:SY p f with|none=>rfl|some X=>exact absurd (((QA hz).1.ajf<|uZ.1 (QA hz).2).2 ⟨X,c⟩) hn);have XO:=V (λ(hz:Fa p=0)(hn:f∈p.faces)=>show 0<(Qe p f<|sortK<|BN p).length/\qP (NI<|Qe p f<|sortK<|BN p) (Qe p f<|sortK<|BN p)/\(∀u∈Qe p f<|sortK<|BN p,Bl u=true)/\V6 p f=aFA p f (NI<|Qe p f<|sortK<|BN p)from by obtain⟨hv,hfb⟩:=QA hz;have hf:=uZ.1 hfb;obtain⟨X,hr⟩:=(hv.ajf hf).1 hn;have hO:=(Wi<|BN p).1;have hp:=hv.avx hf hr hO;have hb:=aFs<|ZG.1 hp;refine⟨hp,hb,hv.avy hf hr hO,?_⟩;unfold V6;rw[AX<|by rw[hz];simp,hv.auf hf hr hb<|adX hf hr hO]);obtain⟨KZ,HEr,Jl⟩:=CB (λ(hz:Fa p=0)y=>(QA hz).1.avu (f:=f) (y:=y)) λ(hz:Fa p≠0)=>show V6 p f=none by unfold V6;rw[AZ hz] λk(hk:k<(sortK<|BN p).length)=>avw p f hk;obtain⟨_,_,_,al,rfl,-,⟨An,cn,rfl,-⟩,⟨⟨Aa,ca,rfl,-⟩,-⟩,hfa⟩:=h;obtain⟨Af,cf,rfl,hf1,hf2,hfr⟩:=hfa;have je:=V<|kW.1 Af cf ⟨Af,cf,rfl,hf1,hf2,hfr⟩;obtain⟨hz,hhz⟩:∃z,p.faces.any (λy=>decide<|y=f)=z:=⟨_,rfl⟩;rw[hhz]at je;have HHz:=V hhz;clear kW hf1 hf2 hfr hhz;obtain⟨O,hO⟩:=BM<|sortK<|BN p;rw[hO]at aBb Q9 Uj XO Jl;have YK:=V hO;clear hO;obtain⟨R,hR⟩:=BM<|V6 p f;rw[hR]at Fz XO HEr⊢;clear hR;generalize p.nodes.length=nn at*;generalize al.length=na at*;generalize p.faces.length=nf at*;obtain⟨z,hzz⟩:=BM<|Fa p;rw[hzz]at HC jc aBb MK Iy Ue Q9 Uj Fz XO KZ HEr;clear hzz;go_enter func42,ntmps42;go_upto_region 1 with fail;obtain⟨W1,hW⟩:∃W:World,W=(w.alloc<|.cells #[.slice An nn cn,.slice Aa na ca,.slice Af nf cf] 26).alloc (.cells #[.int .i64 0,.int .i64 0] 50):=⟨_,rfl⟩;have U:AO W1 w.heap.size 26 #[.slice An nn cn,.slice Aa na ca,.slice Af nf cf]:=by rw[hW];exact(AO.made rfl _ _).alloc _
 have X4:AO W1 (w.heap.size+1) 50 #[.int .i64 0,.int .i64 0]:=by rw[hW];exact AO.made Ak _ _
 have HB1:=V (show AU w W1 by rw[hW];exact bA (bA (bR w) _) _);rw[<-hW];clear hW;obtain⟨g4,h4⟩:∃g,w.heap.size+1=g:=⟨_,rfl⟩;have hg4:w.heap.size<=g4:=I;rw[h4]at X4⊢;obtain⟨g2,h2⟩:∃g,w.heap.size=g:=⟨_,rfl⟩;have hg2:w.heap.size<=g2:=I;rw[h2]at U⊢;have CW:=V U;have D7:=V X4;have n24:g2≠g4:=I;have n42:g4≠g2:=I;clear h4 h2 X4;obtain⟨BX,Bf,Bh,CS,-⟩:=U.BF;go_wp2_with fail;refine(HC.1 _ HB1.1).mono ?_;rintro e w1⟨rfl,hb1⟩;obtain⟨T,qK,qQ⟩:=CB (J HB1.1 hb1) (CW.1.keep hb1)<|D7.1.keep hb1;clear hb1 HC U BX Bf Bh CS CW D7 HB1;by_cases h0:z=0;case neg=>
  have hb:(z !=0)=true:=by simpa using h0
  have HRn:=V<|HEr.1 h0;have X4:=qQ.1;obtain⟨Bg,Bq,CP,DX,EU⟩:=X4.BL;go_wp2_with fail;refine L6 (t:=50) (g:=g4) (cs:=#[.int .i64 0,.int .i64 0]) rfl UR rfl rfl (AO.O9 qQ.1) ⟨by rw[HRn.1];rfl,bS (p:=⟨g4,1,none⟩) (bS (p:=⟨g4,0,none⟩) T.1 hg4 _) hg4 _⟩
 subst h0;replace jc:=V<|jc.1 rfl;replace aBb:=V<|aBb.1 rfl;replace MK:=V<|MK.1 rfl;replace Iy:=V<|Iy.1 rfl;replace Ue:=V<|Ue.1 rfl;replace Q9:=V<|Q9.1 rfl;replace Fz:=V<|Fz.1 rfl;replace XO:=V<|XO.1 rfl;replace KZ:=V<|KZ.1 rfl;have hol:=Uj.1 rfl;clear Uj HEr;have U:=qK.1;try clear BX Bf Bh CS
 obtain⟨BX,Bf,Bh,CS,-⟩:=U.BF;go_wp2_with fail;refine(je.1 _ T.1).mono ?_;rintro e w2⟨rfl,hb2⟩;obtain⟨HB3,aBa,wQ⟩:=CB (J T.1 hb2) (qK.1.keep hb2)<|qQ.1.keep hb2;clear hb2 je U BX Bf Bh CS qK qQ T;cases hz;case false=>
  have HRn:=V<|Fz.1 (λhm=>by have:=HHz.1;rw[Xg]at this;exact this f hm Ak);have X4:=wQ.1;try clear Bg Bq CP
  try clear DX EU
  obtain⟨Bg,Bq,CP,DX,EU⟩:=X4.BL;go_wp2_with fail;refine L6 (t:=50) (g:=g4) (cs:=#[.int .i64 0,.int .i64 0]) rfl UR rfl rfl (AO.O9 wQ.1) ⟨by rw[HRn.1];rfl,bS (p:=⟨g4,1,none⟩) (bS (p:=⟨g4,0,none⟩) HB3.1 hg4 _) hg4 _⟩
 obtain⟨hy1,hy2,hy3,hy4⟩:=XO.1 (by have:=HHz.1;rw[PW]at this;obtain⟨x,hx,e⟩:=this;rwa[of_decide_eq_true e]at hx);obtain⟨HY1,aD6,HY3,Tt⟩:=D9 hy1 hy2 hy3 hy4;have U:=aBa.1;clear hy1 hy2 hy3 hy4 HHz XO Fz;try clear BX Bf Bh CS
 obtain⟨BX,Bf,Bh,CS,-⟩:=U.BF;go_wp2_with fail;refine(jc.1 _ HB3.1).mono ?_;rintro e w3⟨A6,c6,CL,rfl,hb3,hcy,hcl⟩;obtain⟨HB4,YF,aBn,Kw⟩:=D9 (J HB3.1 hb3) (aBa.1.keep hb3) (wQ.1.keep hb3) hcy.read;rw[YK.1]at hcl;have QH:=V hcl;have hll:CL.length=O.length:=by rw[<-hcl,D6]
 have hlc:CL.length<=512:=I;clear hb3 jc U BX Bf Bh CS aBa wQ HB3 hcl hcy;go_upto_block 0 with fail;go_wp2_with fail;go_loopw[7,8](λs u wr=>∃(k:Nat)(A:Option Addr)(c:Nat)(M:List Pt),k<=CL.length/\u=.int .i64 k/\s=.slice A M.length c/\M=Qe p f (O.take k)/\M.length<=k*65536/\Own wr w3.heap.size 50 2 Ep (.slice A M.length c) M/\AU w3 wr)λ_ u _=>CL.length-(intOf u).toNat;case atStart=>exact⟨0,none,0,[],C9 _,rfl,rfl,by simp[Qe],Ak,Own.nil _ _ _ _ _,bR w3⟩
 obtain⟨k,A,c,M,hk,rfl,rfl,hM,hml,ho,hb⟩:=hrel;obtain⟨wo,rfl⟩:=BR wr;obtain⟨HM,HO,HB⟩:=CB hM ho hb;clear hM ho hb;by_cases hlt:k<CL.length
 .have hlo:k<O.length:=I;have hpm:=Jl.1 k hlo;have hod:=Q9.1 _<|BG hlo;have hoe:=ak QH.1 hlt hlo;have hin:=Kw.1.2 _<|BG hlt;have hro:=Kw.1.1;rw[hoe]at hpm hod;rw[<-HM.1]at hpm;clear hoe;obtain⟨A6',c6',he6,-,-,vg⟩:=hro;injection he6 with o y2 y3;subst o y3;clear y2;obtain⟨b6,o6,rfl,aBd,e6⟩:=vg.cy hlt;generalize CL[k]=x at*;obtain⟨X,xa,xn,xc⟩:=x;simp only at hpm hod hin e6;obtain⟨Ax,cx,hex,hx1,hx2,hrx⟩:=hin;injection hex with z1 z2 z3;subst z1 z2 z3;unfold maxLen at hx2;obtain⟨hxp,hxl,hxd⟩:=hod;obtain⟨b0,o0,rfl,hl0,e0⟩:=hrx.int hxp;have hhd:X.headD 0=X[0]:=by cases X with|nil=>simp at hxp|cons d t=>rfl
  rw[hhd]at hpm;have hd0:=hxd _<|BG hxp;obtain⟨d0,hde⟩:∃d,X[0]=d:=⟨_,rfl⟩;rw[hde]at hpm hd0 e0;simp only[VA]at e0;have xH:=V<|MK.1 d0 hd0;obtain⟨s,hs⟩:=BM<|Ej p d0;rw[hs]at xH hpm;obtain⟨XP,HXd,HRx,HE0,HE6⟩:=G9 hpm hxd hrx e0 e6;have k1:(k:Int)<CL.length:=I;have k2:0<=(k:Int):=I;have k3:(0:Int)<X.length:=I;clear hpm hxd hrx hhd hd0 hde hs vg e0 e6;go_upto_block 2 with fail;go_wp2_with fail;go_loopw[7,9](λs' u wr=>∃(j:Nat)(A:Option Addr)(c:Nat)(Q:List Pt),j<=X.length/\(0<j->s=f)/\u=.int .i64 j/\s'=.slice A Q.length c/\Q=M++(X.take j).flatMap (Iz p)/\Q.length<=k*65536+j*66/\Own wr w3.heap.size 50 2 Ep (.slice A Q.length c) Q/\AU w3 wr)λ_ u _=>X.length-(intOf u).toNat;case atStart=>exact⟨0,A,c,M,C9 _,λh=>absurd h I,rfl,rfl,Ak,Du hml<|Nat.le_add_right _ _,HO.1,HB.1⟩
  obtain⟨j,A2,c2,Q,hj,hjs,rfl,rfl,hQ,TP,ho2,hb2⟩:=hrel;obtain⟨wi,rfl⟩:=BR wr;obtain⟨HQ,EZ,T,HJs⟩:=D9 hQ ho2 hb2 hjs;have U:=YF.1.keep hb2;have hz2:=hb2.size;have e6:=Dk hb2 HE6.1;have e0:=Dk hb2 HE0.1;have ayc:b6<wi.heap.size:=IQ aBd hz2;have ayd:b0<wi.heap.size:=IQ hl0 hz2;clear hQ ho2 hb2 hjs;by_cases hlj:j<X.length
  .have q1:(j:Int)<X.length:=I;have q2:0<=(j:Int):=I;have hdj:=HXd.1 _<|BG hlj;have hpl:=Ue.1 _ hdj;obtain⟨bj,oj,hAj,-,ej0⟩:=HRx.1.int hlj;simp only[JU,Addr.mk.injEq,and_true]at hAj;obtain⟨rfl,rfl⟩:=hAj;have htk:(X.take<|j+1).flatMap (Iz p)=(X.take j).flatMap (Iz p)++Iz p X[j]:=by rw[Eu hlj,LY];simp
   have eP:=V<|Iy.1 _ hdj;obtain⟨dj,alj⟩:∃d,X[j]=d:=⟨_,rfl⟩;rw[alj]at ej0 htk hpl eP;obtain⟨P,hP⟩:=BM<|Iz p dj;rw[hP]at htk hpl eP;have FI:=V htk;have HEj:=V ej0;clear hdj alj hP htk ej0;by_cases hsf:s=f
   .subst hsf;try clear BX Bf Bh CS
    obtain⟨BX,Bf,Bh,CS,-⟩:=U.BF;go_upto_region 9 with fail;refine CZ wi (.run 15 0 0<|.take 16 98303<|.call 15 131071<|.take 17 262143<|.take 18 524287<|.done) λCG QR Ae Aj hS=>?_;iterate 8 refine Ah ?_
    iterate 8 refine DT ?_
    refine FM (xH.1 _<|J HB4.1<|J T.1 hS) ?_;clear hS;intro Bv Bj hS;refine DT ?_;refine Ah ?_;refine CX ?_;clear hS Aj Ae;intro hB;obtain⟨wj,hW⟩:∃W:World,W=Bv:=⟨_,rfl⟩;rw[<-hW]at hB⊢;have Cb:=V<|Below.trans T.1<|hB.mono hz2;have Gf:=V<|EZ.1.keep hB;have U:=YF.1.keep Cb.1;have QU:=Cb.1.size;have e6:=Dk Cb.1 HE6.1;have ej:=Dk Cb.1 HEj.1;have ayc:b6<wj.heap.size:=IQ aBd QU;have ayd:b0<wj.heap.size:=IQ hl0 QU;have lg2:g2<w3.heap.size:=YF.1.lt;clear hB Bj hW BX Bf Bh CS e0 EZ HJs;try clear BX Bf Bh CS
    obtain⟨BX,Bf,Bh,CS,UL,WS,aF⟩:=U.BF;go_upto_region 11 with fail;refine Pe w3.heap.size wj (.run 9 0 0<|.call 9 1023<|.call 10 2047<|.take 11 4095<|.done) λCG QR Ae Aj hS=>?_;iterate 9 refine Ah ?_
    refine BP ?_;clear hS;intro K hK AQ;go_simp;refine(eP.1 _<|J HB4.1<|Below.trans Cb.1 AQ.out).mono ?_;rintro e wy⟨A1,c1,rfl,hby,ho1⟩;have hS:Fh w3.heap.size wj wy:=Below.trans AQ.out<|hby.mono (by have:=Below.size AQ.out;omega);have kF:=V<|show AU wj wy from J (bD<|bR wj) hby;have Ho1:=V ho1;clear hby ho1;clear AQ;refine hK.out _ _ hS λ_=>?_;clear hK K;try simp only[pu]
    refine BP ?_;clear hS;intro K hK AQ;refine Ir (.tmp 57) (.tmp 66) _ rfl (base:=w3.heap.size) (l:=Q) (l2:=P) LZ LK La rfl (Gf.1.keep kF.1) rfl Ho1.1.sl I I (by have:=kF.1.size;omega) ?_;intro v9 wn QW hgn cu;obtain⟨A9,c9,Uk,-⟩:=Own.Il QW;rw[EK]at Uk;subst Uk;have dB:=V QW;have hS:Fh w3.heap.size wj wn:=Below.grown (show Below w3.heap.size wj _ from AQ.out) hgn (by have:=kF.1.size;omega) λg hg=>(Gf.1.lt g hg).1;clear QW hgn cu;clear AQ;refine hK.out _ _ hS λ_=>?_;clear hK K;try simp only[pu]
    refine Ah ?_;refine L9 ?_;clear hS Aj Ae;intro hB;go_wp2;go_roundw;case rel=>exact⟨j+1,A9,c9,Q++P,I,by intros;trivial,BH,by first|trivial|rw[EK],by rw[FI.1,HQ.1,Jv],by rw[EK];omega,by rw[EK];exact dB.1,Below.trans Cb.1 hB⟩
    exact BJ
   have hj0:j=0:=Iq λh=>hsf<|HJs.1 I;subst hj0;have hpe:=XP.1;rw[AX hsf,I9]at hpe;have wE:=HQ.1;rw[PZ,aCa,I9]at wE;subst wE;have YI:=V hpe;have azR:(s==f)=false:=by simpa using hsf
   clear hpe;try clear BX Bf Bh CS
   try clear UL WS aF
   obtain⟨BX,Bf,Bh,CS,-⟩:=U.BF;go_upto_region 9 with fail;refine CZ wi (.run 15 0 0<|.take 16 98303<|.call 15 131071<|.take 17 262143<|.take 18 524287<|.done) λCG QR Ae Aj hS=>?_;iterate 8 refine Ah ?_
   iterate 8 refine DT ?_
   refine FM (xH.1 _<|J HB4.1<|J T.1 hS) ?_;clear hS;intro Bv Bj hS;refine DT ?_;refine Ah ?_;refine CX ?_;clear hS Aj Ae;intro hB;have aCB:=V<|Below.trans T.1<|hB.mono hz2;have II:=V<|EZ.1.keep hB;go_wp2;go_roundw;case rel=>exact⟨k+1,A2,c2,Q,I,BH,rfl,YI.1.symm,ali TP<|C9 _,II.1,aCB.1⟩
   exact BJ
  obtain rfl:j=X.length:=I;have hsf:s=f:=HJs.1 hxp;subst hsf;have hpe:=XP.1;rw[AZ rfl]at hpe;have wE:=HQ.1;rw[Gu,<-hpe]at wE;have YI:=V wE;have q1:¬(X.length:Int)<X.length:=I;clear hpe wE;try clear BX Bf Bh CS
  try clear UL WS aF
  obtain⟨BX,Bf,Bh,CS,-⟩:=U.BF;go_upto_region 9 with fail;refine CZ wi (.run 19 0 0<|.done) λCG QR Ae Aj hS=>?_;iterate 8 refine Ah ?_
  iterate 10 refine Iu ?_
  refine Ah ?_;refine CX ?_;clear hS Aj Ae;intro hB;have aCB:=V<|Below.trans T.1<|hB.mono hz2;have II:=V<|EZ.1.keep hB;go_wp2;go_roundw;case rel=>exact⟨k+1,A2,c2,Q,I,BH,rfl,YI.1,ali TP hxl,II.1,aCB.1⟩
  exact BJ
 obtain rfl:k=CL.length:=I;have hM:=HM.1;rw[hll,Gu]at hM;subst hM;obtain⟨⟨x0,C,x1,o⟩,hbx⟩:∃b,NI (Qe p f O)=b:=⟨_,rfl⟩;have hy2:=aD6.1;have hy4:=Tt.1;rw[hbx]at hy2 hy4;have hyl:=hy2.le.2;have hyn:-2097152<=C/\o<=2097152:=by obtain⟨u,hu,e⟩:=hy2.y0;obtain⟨u',hu',e'⟩:=hy2.y1;have n1:=(QO _).1<|HY3.1 u hu;have n2:=(QO _).1<|HY3.1 u' hu';unfold lim at n1 n2;simp only at e e';omega
 simp only at hyl;have KL:=V λW(hh:EL W (.slice A (Qe p f O).length c)<|Qe p f O)=>alh _ _ W hh;rw[hbx]at KL;unfold fD at KL;unfold aFA at hy4;have jy:=V hy4;have NT:=Own.sl HO.1;obtain⟨JC,vW,aFr,fK,Cb⟩:=G9 NT (YF.1.keep HB.1) (aBn.1.keep HB.1) (Kw.1.mono HB.1)<|J HB4.1 HB.1;clear hbx hy2 hy4 aD6 HY3 Tt HY1 YF aBn Kw NT hml Jl Q9 MK Iy Ue;generalize Qe p f O=M at*;go_upto_region 12 with fail;go_wp2_with fail;refine(KL.1 _ JC.1).mono ?_;rintro e w5⟨rfl,hb5⟩;obtain⟨EG,YA,Yr,alk⟩:=D9 (J Cb.1 hb5) (vW.1.keep hb5) (aFr.1.keep hb5)<|fK.1.mono hb5;clear hb5 vW aFr fK Cb KL JC;go_upto_block 4 with fail;obtain⟨w6,hW⟩:∃W:World,W=w5.alloc (.cells #[.int .i64 x0,.int .i64 C,.int .i64 x1,.int .i64 o] 95):=⟨_,rfl⟩;have EF:AO w6 w5.heap.size 95 #[.int .i64 x0,.int .i64 C,.int .i64 x1,.int .i64 o]:=by rw[hW];exact AO.made rfl _ _
 have hb6:AU w5 w6:=by rw[hW];exact bA (bR w5) _
 rw[<-hW];obtain⟨g10,h10⟩:∃g,w5.heap.size=g:=⟨_,rfl⟩;obtain⟨UM,Gw,XF,Vt⟩:=D9 (h10▸EF) (J EG.1 hb6) (YA.1.keep hb6)<|Yr.1.keep hb6;have hcy:=alk.1.mono hb6;rw[hll]at hcy;have acw:=V hcy;rw[h10];clear hW EF hb6 h10 hcy YA Yr EG alk;have HRs:=V λ(i:Nat)(hi:i<=1000000000000)W=>auk C o i W I I hi;have wa:=DR<|o-C;have wb:=DR<|o-C+2;go_wp2_with fail;go_loopw[11](λu wr=>∃i:Nat,i<=(o-C+3).toNat/\u=.int .i64 i/\(List.range i).findSome? (λi=>XE p f C o<|NW C o i)=none/\AU w6 wr)λu _=>(o-C+3).toNat-(intOf u).toNat;case atStart=>exact⟨0,C9 _,rfl,rfl,bR w6⟩
 obtain⟨i,hi,rfl,hno,hb⟩:=hrel;obtain⟨wo,rfl⟩:=BR wr;have Fz:=V hno;have HB:=V hb;have EF:=UM.1.keep hb;obtain⟨alm,aln,aFR,FH⟩:=D9 EF (XF.1.keep hb) (Vt.1.keep hb)<|J Gw.1 hb;clear hno hb;by_cases hlt:i<(o-C+3).toNat
 .have q1:(i:Int)<=o-C+2:=I;obtain⟨Ce,HAt,Qa⟩:=CB λ(h:XE p f C o (NW C o i)=none)=>show(List.range<|i+1).findSome? (λi=>XE p f C o<|NW C o i)=none by rw[eH,Fz.1,h];rfl (λv(h:XE p f C o (NW C o i)=some v)=>show R=some v from jy.1.trans<|aya hlt Fz.1 h)<|HRs.1 i I;obtain⟨y,hy⟩:=BM<|NW C o i;rw[hy]at Ce HAt Qa;clear hy;obtain⟨Ie,Ig,Ih,UK,Ua,-⟩:=EF.MC;go_wp2_with fail;refine(Qa.1 _).mono ?_;rintro e w7⟨rfl,hb7⟩;have Js:=V<|J FH.1 hb7;have qI:=V<|J HB.1 hb7;have EF:=alm.1.keep hb7;obtain⟨aye,alo,alp⟩:=CB EF (aln.1.keep hb7)<|aFR.1.keep hb7;clear hb7 Ie Ig Ih UK Ua alm aln aFR FH HB;try clear Ie Ig Ih UK Ua
  obtain⟨Ie,Ig,Ih,UK,Ua,-⟩:=EF.MC;by_cases hya:y<C
  .have hn:=Ce.1 (by unfold XE;rw[AZ<|.inl hya]);have HN:=V hn;clear hn;go_wp2;go_roundw;case rel=>exact⟨i+1,I,BH,HN.1,qI.1⟩
   exact BJ
  by_cases hyb:o<y
  .have hn:=Ce.1 (by unfold XE;rw[AZ<|.inr hyb]);have HN:=V hn;clear hn;go_wp2;go_roundw;case rel=>exact⟨i+1,I,BH,HN.1,qI.1⟩
   exact BJ
  have hin:¬(y<C\/o<y):=I;have hbd:=avt<|KZ.1 y;have HRd:=V<|KZ.1 y;have hre:XE p f C o y=if(Jb<|rowP p f y).1.lo<(Jb<|rowP p f y).1.hi then some ⟨((Jb<|rowP p f y).1.lo+(Jb<|rowP p f y).1.hi-1)/2,y⟩else none:=by unfold XE;rw[AX hin]
  have HRy:=V<|aBb.1 y I;have MB:=V λv W(hh:aB W v<|rowP p f y)=>awd v (rowP p f y) W hh HRd.1;obtain⟨⟨lo,hi'⟩,fC⟩:∃r,(Jb<|rowP p f y).1=r:=⟨_,rfl⟩;rw[fC]at hbd hre MB;unfold N9 at hbd;simp only at hbd hre MB;rw[hre]at Ce HAt;have U:=alo.1;clear hre fC HRd hin;generalize rowP p f y=rw_ at*;go_upto_region 18 with fail;clear Ie Ig Ih UK Ua EF;try clear BX Bf Bh CS
  try clear UL WS aF
  obtain⟨BX,Bf,Bh,CS,-⟩:=U.BF;go_wp2_with fail;refine(HRy.1 _ CL _ (acw.1.mono qI.1) QH.1 Js.1).mono ?_;rintro e w8⟨Ar,cr,rfl,hb8,hrn⟩;obtain⟨Ja,alq,alr,HRn⟩:=D9 (J Js.1 hb8) (J qI.1 hb8) (alp.1.keep hb8) hrn;clear hb8 hrn U BX Bf Bh CS alo alp Js qI HRy aye;go_wp2_with fail;refine(MB.1 _ _ HRn.1).mono ?_;rintro e w9⟨rfl,Pq⟩;obtain⟨eU,als,alu⟩:=CB (J Ja.1 Pq) (J alq.1 Pq)<|alr.1.keep Pq;clear Pq alr Ja alq MB HRn;by_cases hlh:lo<hi'
  .rw[AZ hlh]at Ce HAt;have ha:=HAt.1 _ rfl;have HA:=V ha;have hfl:Us (lo+hi'-1) 2=(lo+hi'-1)/2:=by unfold Us;rw[AZ I]
   have Xy:=V λW=>al3 (lo+hi'-1) 2 W l7 I l7;rw[hfl]at Xy;have wc':=DR<|lo+hi';have wd':=DR<|lo+hi'-1;clear ha hfl;go_upto_region 20 with fail;obtain⟨wv,hW⟩:∃W:World,W=w9.alloc (.cells #[.int .i64 lo,.int .i64 hi'] 134):=⟨_,rfl⟩;have SG:AO wv w9.heap.size 134 #[.int .i64 lo,.int .i64 hi']:=by rw[hW];exact AO.made rfl _ _
   have hbv:AU w9 wv:=by rw[hW];exact bA (bR w9) _
   rw[<-hW];have Kz:=V<|J eU.1 hbv;have afH:=V<|alu.1.keep hbv;clear hW hbv alu eU als;obtain⟨mG,mJ,mM,-⟩:=SG.BL;go_wp2_with fail;refine(Xy.1 _).mono ?_;rintro e wf⟨rfl,hbf⟩;have Lm:=V<|J Kz.1 hbf;have pX:=V<|afH.1.keep hbf;have X4:=pX.1;clear hbf afH Kz SG mG mJ mM Xy;try clear Bg Bq CP
   try clear DX EU
   obtain⟨Bg,Bq,CP,DX,EU⟩:=X4.BL;go_wp2_with fail;refine L6 (t:=50) (g:=g4) (cs:=#[.int .i64<|(lo+hi'-1)/2,.int .i64 y]) rfl UR rfl rfl (AO.O9 pX.1) ⟨by rw[HA.1];rfl,bS (p:=⟨g4,1,none⟩) (bS (p:=⟨g4,0,none⟩) Lm.1 hg4 _) hg4 _⟩
  rw[AX hlh]at Ce HAt;have HN:=V<|Ce.1 rfl;go_wp2;go_roundw;case rel=>exact⟨i+1,I,BH,HN.1,bA als.1 _⟩
  exact BJ
 obtain rfl:i=(o-C+3).toNat:=I;have hr:=jy.1.trans Fz.1;have HRn:=V hr;have X4:=aFR.1;clear hr;try clear Ie Ig Ih UK Ua
 obtain⟨Ie,Ig,Ih,UK,Ua,-⟩:=EF.MC;try clear Bg Bq CP
 try clear DX EU
 obtain⟨Bg,Bq,CP,DX,EU⟩:=X4.BL;go_wp2_with fail;refine L6 (t:=50) (g:=g4) (cs:=#[.int .i64 0,.int .i64 0]) rfl UR rfl rfl (AO.O9 aFR.1) ⟨by rw[HRn.1];rfl,bS (p:=⟨g4,1,none⟩) (bS (p:=⟨g4,0,none⟩) FH.1 hg4 _) hg4 _⟩
theorem ayf(v u:Value)(L L':List AD)(w:World)(hl:U1 w v L)(hl':U1 w u L')(he:L.map RF=L'.map RF):Calls prog 32 #[v,u] w λe w'=>e=.returned (.bool true)/\AU w w':=by
 have HS:=V (λ(va ub:Value)(l:List Int)W(h:Ints W va l)(h':Ints W ub l)=>show Calls prog 73 #[va,ub] W λe w'=>e=.returned (.bool true)/\AU W w' from by have t:=akL va ub l l W h h';rw[Ia rfl]at t;exact t);have hll:L.length=L'.length:=by simpa using congrArg List.length he
 have HAt:=V (λk(h1:k<L.length)(h2:k<L'.length)=>show RF L[k]=RF L'[k]from by
  have e1:(L.map RF)[k]'(by simpa using h1)=RF L[k]:=by rw[Ib]
  have e2:(L'.map RF)[k]'(by simpa using h2)=RF L'[k]:=by rw[Ib]
  rw[<-e1,<-e2];congr 1);have HL:=V hl;have aCG:=V hl';obtain⟨A,c,rfl,h1,h2,-⟩:=hl.sl;obtain⟨A',c',rfl,h1',h2',-⟩:=hl'.sl;unfold maxLen at h2;obtain⟨n,hn⟩:=BM L.length;have hn':L'.length=n:=hll.symm.trans hn;have HN:=V hn;have HN':=V hn';have hnb:n<=9223372036854775807:=I;rw[hn,hn'];clear hl hl' he hll hn hn' h1 h2 h1' h2';go_enter func32,ntmps32;go_wp2_with fail;go_loopw[5](λi wr=>∃k:Nat,k<=n/\i=.int .i64 k/\AU w wr)λi _=>n-(intOf i).toNat;case atStart=>exact⟨0,C9 _,rfl,bR w⟩
 obtain⟨k,hk,rfl,hb⟩:=hrel;obtain⟨K,rfl⟩:=BR wr;have U:=V hb;clear hb;by_cases hlt:k<n
 .have k1:k<L.length:=by rw[HN.1];exact hlt
  have k2:k<L'.length:=by rw[HN'.1];exact hlt
  obtain⟨A1,c1,e1,-,-,hR⟩:=(HL.1.mono U.1).sl;obtain⟨A2,c2,e2,-,-,hR'⟩:=(aCG.1.mono U.1).sl;injection e1 with q1 q2 q3;subst q1 q3;clear q2;injection e2 with q1 q2 q3;subst q1 q3;clear q2;obtain⟨b,o,hA,hlb,c0,c1,c2,c3⟩:=hR.ad k1;obtain⟨b',o',hA',Po,d0,d1,d2,d3⟩:=hR'.ad k2;subst hA hA';have hg:=HAt.1 k k1 k2;have m1:=BG k1;have m2:=BG k2;obtain⟨Ho,Ho',Hi,Hi',Hc,Hc',Ha,Ha'⟩:=aCe (λW(hW:AU K W)=>(HL.1.mono<|J U.1 hW).out _ m1) (λW(hW:AU K W)=>(aCG.1.mono<|J U.1 hW).out _ m2) (λW(hW:AU K W)=>(HL.1.mono<|J U.1 hW).inn _ m1) (λW(hW:AU K W)=>(aCG.1.mono<|J U.1 hW).inn _ m2) (λW(hW:AU K W)=>(HL.1.mono<|J U.1 hW).Ik _ m1) (λW(hW:AU K W)=>(aCG.1.mono<|J U.1 hW).Ik _ m2) (λW(hW:AU K W)=>(HL.1.mono<|J U.1 hW).Ci _ m1) λW(hW:AU K W)=>(aCG.1.mono<|J U.1 hW).Ci _ m2;generalize L[k]=x at*;generalize L'[k]=x' at*;obtain⟨tw,out,⟨oa,on,oc⟩,C,⟨ia,IX,ic⟩,Ci,⟨aa,an,ac⟩⟩:=x;obtain⟨tw',out',⟨oa',on',oc'⟩,wF,⟨ia',ae9,ic'⟩,azS,⟨aa',an',ac'⟩⟩:=x';unfold RF at hg;injection hg with g1 g2 g3 g4;simp only at g1 g2 g3 g4;subst g1 g2 g4;unfold BO at c1 c2 c3 d1 d2 d3 Ho Ho' Hi Hi' Ha Ha';simp only at c0 c1 c2 c3 d0 d1 d2 d3 Ho Ho' Hi Hi' Ha Ha' Hc Hc';obtain⟨_,_,e1,hi1,hi2,-⟩:=Hi.1 K<|bR K;have hib:C.length<=9223372036854775807:=by unfold maxLen at hi2;omega
  clear hi1 hi2;obtain⟨_,_,e2,-⟩:=Hi'.1 K<|bR K;injection e1 with q1 q2 q3;subst q1 q3;injection e2 with q1 q2' q3;subst q1 q3;have hil:wF.length=C.length:=by simpa using(congrArg List.length g3).symm
  rw[hil]at q2';subst q2 q2';obtain⟨HIl,HG,Qx,HSa,XZ,HD0⟩:=Lp hil g3 (λW(hW:AU K W)=>HS.1 _ _ out W (Ho.1 W hW)<|Ho'.1 W hW) (λW(hW:AU K W)=>HS.1 _ _ Ci W (Ha.1 W hW)<|Ha'.1 W hW) c2 d2;have i1:0<=(k:Int):=I;have i2:(k:Int)<n:=I;have hnl:((C.length:Int)!=C.length)=false:=by simp
  have htt:(tw !=tw)=false:=by simp
  clear k1 k2 hR hR' m1 m2 g3 hil;go_upto_region 6 with fail;refine CZ K (.run 22 0 0<|.call 22 8388607<|.run 13 23 8388607<|.call 36 137438953471<|.run 17 37 137438953471<|.done) λCG QR Ae Aj hS=>?_;iterate 12 refine Ah ?_
  iterate 10 refine DT ?_
  refine FM (Qx.1 _<|J (bD<|bR K)<|bR _) ?_;clear hS;intro Bv Bj hS;refine DT ?_;iterate 2 refine Ah ?_
  iterate 10 refine DT ?_
  refine FM (HSa.1 _<|J (bD<|bR K) Bj) ?_;clear hS;intro wr2 F5 hS;refine DT ?_;iterate 2 refine Ah ?_
  iterate 13 refine DT ?_
  refine Ah ?_;refine CX ?_;clear hS Aj Ae;intro hB;skip;have M:=V hB;clear hB c0 c1 c2 c3 d0 d1 d2 d3 Qx HSa Ho Ho' Ha Ha' hnl htt Bj F5;replace c2:=Dk M.1 XZ.1;replace d2:=Dk M.1 HD0.1;have hlw:b<wr2.heap.size:=IQ hlb M.1.size;have ayg:b'<wr2.heap.size:=IQ Po M.1.size;go_upto_block 2 with fail;go_wp2_with fail;go_loopw[6](λj wr=>∃s:Nat,s<=C.length/\j=.int .i64 s/\AU K wr)λj _=>C.length-(intOf j).toNat;case atStart=>exact⟨0,C9 _,rfl,M.1⟩
  obtain⟨s,hJ,rfl,T⟩:=hrel;obtain⟨wv,rfl⟩:=BR wr;have Hv:=V T;replace c2:=Dk T XZ.1;replace d2:=Dk T HD0.1;replace hlw:=IQ hlb T.size;replace ayg:=IQ Po T.size;clear T M;by_cases hj:s<C.length
  .have hj':s<wF.length:=by rw[HIl.1];exact hj
   obtain⟨A3,c3,e1,h13,-,hRi⟩:=Hi.1 wv Hv.1;obtain⟨A4,c4,e2,h14,-,alv⟩:=Hi'.1 wv Hv.1;rw[HIl.1]at e2;injection e1 with q1 _ q3;injection e2 with q1' _ q3';subst q1 q3 q1' q3';obtain⟨b3,o3,hA,hl3,e3⟩:=hRi.cy hj;obtain⟨b4,o4,hA',hl4,e4⟩:=alv.cy hj';subst hA hA';have hxe:C[s].1=wF[s].1:=by
    have x1:(C.map (·.1))[s]'(by simpa using hj)=C[s].1:=by rw[Ib]
    have x2:(wF.map (·.1))[s]'(by simpa using hj')=wF[s].1:=by rw[Ib]
    rw[<-x1,<-x2];have hg:=HG.1;congr 1
   have Xk:=V λW(hW:AU wv W)=>HS.1 _ _ C[s].1 W (Hc.1 W (J Hv.1 hW) _<|BG hj) (by rw[hxe];exact Hc'.1 W (J Hv.1 hW) _<|BG hj');clear hxe hRi alv;generalize C[s]=z at*;generalize wF[s]=z' at*;clear hj';obtain⟨zx,⟨za,zn,zc⟩⟩:=z;obtain⟨zx',⟨za',zn',zc'⟩⟩:=z';unfold BO at Xk;simp only at e3 e4 Xk;have i3:0<=(s:Int):=I;have i4:(s:Int)<C.length:=I;go_upto_region 11 with fail;refine CZ wv (.run 16 0 0<|.call 16 131071<|.take 17 262143<|.done) λCG QR Ae Aj hS=>?_;iterate 16 refine Ah ?_
   refine FM (Xk.1 _<|bD<|bR wv) ?_;clear hS;intro Bv Bj hS;refine Ah ?_;refine CX ?_;clear hS Aj Ae;intro hB;go_wp2;go_roundw;case rel=>exact⟨s+1,I,BH,J Hv.1 hB⟩
   exact BJ
  obtain rfl:s=C.length:=I;go_wp2;go_roundw;case rel=>exact⟨k+1,I,BH,J U.1 Hv.1⟩
  exact BJ
 obtain rfl:k=n:=I;go_wp2;go_ret;exact⟨rfl,U.1⟩
def pz:List Pt:=[⟨10,0⟩,⟨10,10⟩,⟨0,10⟩]
def fF:Pl:=⟨[⟨1,⟨0,0⟩⟩],[⟨1,1,1,pz,1,0⟩],[1]⟩
def pl0:Pl:=⟨[],[],[]⟩
def exV(gn ga gf:Nat):Value:=.agg #[.slice (some ⟨gn,0,none⟩) 1 1,.slice (some ⟨ga,0,none⟩) 1 1,.slice (some ⟨gf,0,none⟩) 1 1]
def exN:Array Value:=#[.int .i64 1,.int .i64 0,.int .i64 0]
def alx:Array Value:=#[.int .i64 10,.int .i64 0,.int .i64 10,.int .i64 10,.int .i64 0,.int .i64 10]
def aFS(gv nv cv:Nat)(left:Int):Array Value:=#[.int .i64 1,.int .i64 1,.int .i64 1,.slice (some ⟨gv,0,none⟩) nv cv,.int .i64 left,.int .i64 0]
def axq(w:World)(e:Ending)(w':World):Prop:=∃gn gv ga gf,e=.returned (exV gn ga gf)/\AU w w'/\(w.heap.size<=gn/\w.heap.size<=gv/\w.heap.size<=ga/\w.heap.size<=gf)/\AO w' gn 56 exN/\AO w' gv 50 alx/\AO w' ga 31 (aFS gv 3 3 1)/\AO w' gf 3 #[.int .i64 1]
theorem Cj.blocks{w:World}{c j o:Value}{p:Pl}{al:List<|Ar×Value}(s:p.AP=al.map (·.1))(hn:Xq w c p.nodes)(z:Sl w j al.length<|al.flatMap lK)(hv:gU w al)(C:Ints w o p.faces):Cj w (.agg #[c,j,o]) p:=⟨c,j,o,al,rfl,s,hn,⟨z,hv⟩,C⟩
theorem Cj.zero(w:World):Cj w (.agg #[.slice none 0 0,.slice none 0 0,.slice none 0 0]) pl0:=Cj.blocks (al:=[]) rfl (Sl.nil w) (Sl.nil w) (λk hk=>by simp at hk)<|Sl.nil w
theorem Sl.pre{w:World}{g n c:Nat}{t:TypeId}{cs:Array Value}{xs:List Value}(h:AO w g t cs)(o:∀(j:Nat)(v:Value),xs[j]?=some v->cs[j]?=some v)(hn:n<=c)(s:c<=maxLen):Sl w (.slice (some ⟨g,0,none⟩) n c) n xs:=⟨_,c,rfl,hn,s,λ_=>⟨g,0,rfl,h.lt,λj v z=>by rw[h.cell,Rk];exact o j v z⟩⟩
theorem axr{w:World}{a:Ar}{u:Value}(h:EL w u a.via):gU w [(a,u)]:=λk hk=>by
 have:k=0:=by simpa using hk
 subst this;exact h
theorem Cj.ex{w:World}{s:Value}{l:List Nd}{a v f n c:Nat}{j:Int}{o:List Pt}(hn:Xq w s l)(z:AO w a 31<|aFS v n c j)(hv:EL w (.slice (some ⟨v,0,none⟩) n c) o)(C:AO w f 3 #[.int .i64 1]):Cj w (.agg #[s,.slice (some ⟨a,0,none⟩) 1 1,.slice (some ⟨f,0,none⟩) 1 1]) ⟨l,[⟨1,1,1,o,j,0⟩],[1]⟩:=Cj.blocks (al:=[(⟨1,1,1,o,j,0⟩,.slice (some ⟨v,0,none⟩) n c)]) rfl hn (Sl.lit (n:=1) z rfl<|DC I) (axr hv)<|Sl.lit (n:=1) C rfl<|DC I
theorem axt{w:World}{n:Nat}(h:AO w n 56 exN):Xq w (.slice (some ⟨n,0,none⟩) 1 1) [⟨1,⟨0,0⟩⟩]:=Sl.lit (n:=1) h rfl<|DC I
theorem aeT{w:World}{v:Nat}(h:AO w v 50 alx):EL w (.slice (some ⟨v,0,none⟩) 3 3) pz:=Sl.lit (n:=3) h rfl<|DC I
def Qg:Pl:=⟨[⟨1,⟨0,0⟩⟩,⟨2,⟨5,5⟩⟩],[⟨1,1,1,pz,1,0⟩],[1]⟩
def qA:Pl:=⟨[⟨1,⟨0,0⟩⟩,⟨2,⟨5,5⟩⟩],[⟨1,1,1,pz,0,0⟩],[1]⟩
theorem aly:Fa fF=0:=by decide+kernel
theorem axu:jk fF (sortK<|BN fF)=[⟨0,[],[[-1]],[]⟩,⟨1,[1],[],[]⟩]:=by kernel_rfl
theorem axv:RH fF ⟨5,5⟩=(0,1,0):=by decide+kernel
theorem axw:RH fF ⟨10,5⟩=(2,1,0):=by decide+kernel
theorem axx:VH fF 1=some ⟨5,5⟩:=by kernel_rfl
theorem axy:Fa Qg=0:=by decide+kernel
theorem axz:VH Qg 1=some ⟨2,5⟩:=by kernel_rfl
theorem ay0:Fa qA=12:=by decide+kernel
theorem ay1:LM (Dz qA)=0:=by decide+kernel
theorem ay2:(BN<|Dz qA).length=1:=by decide+kernel
theorem ay3:aFE qA=Qg:=by kernel_rfl
theorem ay4(w:World):Calls prog 68 #[] w<|axq w:=by
 go_enter func68,ntmps68;go_wp2_with fail;refine nG (t:=26) (g:=w.heap.size) (cs:=#[.slice (some ⟨w.heap.size+1,0,none⟩) 1 1,.slice (some ⟨w.heap.size+1+1+1,0,none⟩) 1 1,.slice (some ⟨w.heap.size+1+1+1+1,0,none⟩) 1 1]) rfl aDC rfl rfl ?_ ⟨w.heap.size+1,w.heap.size+1+1,w.heap.size+1+1+1,w.heap.size+1+1+1+1,rfl,?_,I,?_,?_,?_,?_⟩;.exact((((AO.made rfl _ _).alloc _).alloc _).alloc _).alloc _
 .exact bA (bA (bA (bA (bA (bR w) _) _) _) _) _
 .exact(((AO.made Ak _ _).alloc _).alloc _).alloc _
 .exact((AO.made Ak _ _).alloc _).alloc _
 .exact(AO.made Ak _ _).alloc _
 exact AO.made Ak _ _
theorem Own.ay5{α:Type}{w:World}{g n:Nat}{e:TypeId}{cs:Array Value}{base size:Nat}{f:α->List Value}{l:List α}(h:AO w g e cs)(hb:base<=g)(hn:n=l.length)(c:(l.flatMap f).length=l.length*size)(j:cs.toList=l.flatMap f)(hm:n<=maxLen):Own w base e size f (.slice (some ⟨g,0,none⟩) n n) l:=by
 subst hn;unfold Own;have o:cs.size=l.length*size:=by rw[<-c,<-j];simp
 exact⟨c,.inr ⟨g,l.length,cs,rfl,hb,h,Dh _,hm,o,by rw[j,<-c];exact Gu⟩⟩
