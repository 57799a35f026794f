import Derived.Test.YtngoejdlompfoaaGreatJ22
set_option linter.unusedSimpArgs false
set_option linter.unusedVariables false
set_option maxRecDepth 100000
set_option maxHeartbeats 8000000
namespace Go.Proofs.YtngoejdlompfoaaGreat
open Go.RowKit Tryz
theorem avm(P:Int->Bool)(l:List Int)(M:List Rn){i:Nat}(hi:i<l.length)(h:Gg P l=M++Gg P (l.drop i)):Gg P l=M++(if P l[i]=true then[⟨l[i],l[i]+1⟩]else[])++(if hb:i+1<l.length then if l[i]+1<l[i+1]/\P (l[i]+1)=true then[⟨l[i]+1,l[i+1]⟩]else[]else[])++Gg P (l.drop<|i+1):=by
 rw[h,Ql hi,aDO];have e:dJ P l[i] (l.drop<|i+1)=if hb:i+1<l.length then if l[i]+1<l[i+1]/\P (l[i]+1)=true then[⟨l[i]+1,l[i+1]⟩]else[]else[]:=by
  by_cases hb:i+1<l.length;.rw[dif_pos hb,Ql hb,gW]
  rw[dif_neg hb,List.drop_of_length_le I,aDN]
 rw[e];simp only[Jv]
theorem avn(P:Int->Bool)(l:List Int)(M:List Rn){i:Nat}(hi:i<l.length)(h:Gg P l=M++Gg P (l.drop i)):∃G:List Rn,(∀hb:i+1<l.length,G=if l[i]+1<l[i+1]/\P (l[i]+1)=true then[⟨l[i]+1,l[i+1]⟩]else[])/\(¬i+1<l.length->G=[])/\Gg P l=M++(if P l[i]=true then[⟨l[i],l[i]+1⟩]else[])++G++Gg P (l.drop<|i+1):=by
 refine⟨_,λhb=>?_,λhb=>?_,avm P l M hi h⟩;.rw[dif_pos hb]
 rw[dif_neg hb]
theorem alH:∀{l:List Int}{lo hi:Int},l.Pairwise (·<·)->(∀x∈l,lo<=x/\x<=hi)->lo<=hi+1->(l.length:Int)<=hi-lo+1|[],_,_,_,_,h=>by simp only[Nb];omega|a::t,lo,hi,hp,hb,h=>by have h1:=hb a ED;have h2:=alH (I8.1 hp).2 (lo:=a+1) (hi:=hi) (λx c=>⟨(I8.1 hp).1 x c,(hb x<|FW _ c).2⟩) I;simp only[Gy];omega
theorem Valid.avo{p:Pl}(h:Valid p)(y:Int):(Ls p y).length<=2097153:=by have:=alH (jg p y).1 (lo:=-1048576) (hi:=1048576) (λx c=>(h.jh c).2.1) I;omega
theorem avp(v vl:Value)(p:Pl)(CL:List<|List Int×SV)(O:List<|List Int)(f y:Int)(w:World)(h:Cj w v p)(hv:Valid p)(hC:aY w vl CL)(hcl:CL.map (·.1)=O)(hO:O.Perm<|BN p)(hy:-2097152<=y/\y<=2097152):Calls prog 103 #[v,vl,.int .i64 f,.int .i64 y] w λe w'=>∃A c,e=.returned (.slice A (rowP p f y).length c)/\AU w w'/\aB w' (.slice A (rowP p f y).length c) (rowP p f y):=by
 obtain⟨ZK,Un,ZI⟩:=CB (λW(hW:AU w W)=>awN v p y W (h.mono hW) hv hy) (λx(hn:Bl ⟨x,y⟩=true)W(hW:AU w W)=>awG v vl p CL O ⟨x,y⟩ W (h.mono hW) hv (hC.mono hW) hcl hO hn) λx(hx:x∈Ls p y)=>hv.jh hx;have HAs:=V (jg p y).1;have hLl:=hv.avo y;obtain⟨An,cn,Aa,ca,Af,cf,rfl⟩:=h.form;obtain⟨⟨Ac,cc,rfl,-⟩,-⟩:=hC;obtain⟨L,hL⟩:=BM<|Ls p y;obtain⟨P,hP⟩:∃P:Int->Bool,λx=>decide<|Qd p ⟨x,y⟩=(0,f)=P:=⟨_,rfl⟩;have hPx:∀x,P x=decide (Qd p ⟨x,y⟩=(0,f)):=λx=>by rw[<-hP]
 have hrp:rowP p f y=Gg P L:=by unfold rowP;rw[hL,hP]
 have HPx:=V hPx;rw[hrp];rw[hL]at ZK ZI HAs hLl;unfold BD at Un;simp only at Un;clear h hv hcl hO hL hP hPx hrp;generalize p.nodes.length=nn at*;generalize p.AP.length=na at*;generalize p.faces.length=nf at*;generalize CL.length=nc at*;go_enter func103,ntmps103;go_upto_region 1 with fail;obtain⟨W1,hW⟩:=BR<|w.alloc<|.cells #[.slice An nn cn,.slice Aa na ca,.slice Af nf cf] 26;have X1:AO W1 w.heap.size 26 #[.slice An nn cn,.slice Aa na ca,.slice Af nf cf]:=by rw[hW];exact AO.made rfl _ _
 have HB1:=V (show AU w W1 by rw[hW];exact bA (bR w) _);rw[<-hW];have DU:=V X1;clear hW;obtain⟨Au,Aw,Az,BA,-⟩:=X1.BF;go_wp2_with fail;refine(ZK.1 _ HB1.1).mono ?_;rintro e w2⟨A2,c2,rfl,hb2,hi2⟩;have HB2:=V<|J HB1.1 hb2;have Vs:=V<|DU.1.keep hb2;obtain⟨A2',c2',he,hi21,hi22,hr2⟩:=hi2;injection he with y1 y2 y3;have HR2:=V hr2;clear hr2;subst y1 y3;clear y2;unfold maxLen at hi22;clear hb2 X1 Au Aw Az BA DU HB1 ZK;go_upto_block 0 with fail;go_wp2_with fail;go_loopw[10,11](λs u wr=>∃(i:Nat)(A:Option Addr)(c:Nat)(M:List Rn),i<=L.length/\u=.int .i64 i/\s=.slice A M.length c/\Gg P L=M++Gg P (L.drop i)/\M.length<=2*i/\Own wr w2.heap.size 134 2 GZ (.slice A M.length c) M/\AU w2 wr)λ_ u _=>L.length-(intOf u).toNat;case atStart=>exact⟨0,none,0,[],C9 _,rfl,rfl,rfl,C9 _,Own.nil _ _ _ _ _,bR w2⟩
 obtain⟨i,A,c,M,hi,rfl,rfl,hM,hml,ho,hb⟩:=hrel;obtain⟨wo,rfl⟩:=BR wr;obtain⟨HM,HO,HB⟩:=CB hM ho hb;have X1:=Vs.1.keep hb;have aFB:=V X1;clear hM ho hb;by_cases hlt:i<L.length
 .obtain⟨G,hG1,hG2,T⟩:=avn P L M hlt HM.1;have hne:=ZI.1 _<|BG hlt;obtain⟨bb,oo,Uz,hl2,c2'⟩:=HR2.1.int hlt;subst Uz;have U:=Dk HB.1 c2';have hlb:bb<wo.heap.size:=IQ hl2 HB.1.size;clear c2';obtain⟨a,ha⟩:=BM L[i];have aCD:=V ha;rw[ha]at U hne;simp only[ha]at T hG1;obtain⟨Y3,aAt,HG2,aBX⟩:=D9 T hG1 hG2 λW(hW:AU w W)=>Un.1 a hne.1 W hW;have hPa:=HPx.1 a;obtain⟨z,C⟩:=BM<|P a;rw[C]at hPa;have HZ:=V C;have hbg:=hne.2;unfold MN at hbg;simp only at hbg;generalize Qd p ⟨a,y⟩=q at*;obtain⟨k1,k2⟩:=q;have Iy:=V hPa;clear T hG1 hG2 hne hPa C ha;have i1:(i:Int)<L.length:=I;have i2:0<=(i:Int):=I;have kw:=DR<|(i:Int)+1;have ka:=DR<|a+1;try clear Au Aw Az BA
  obtain⟨Au,Aw,Az,BA,-⟩:=X1.BF;go_upto_region 6 with fail;refine CZ wo (.run 8 0 0<|.call 8 511<|.run 5 9 511<|.done) λCG QR Ae Aj hS=>?_;iterate 8 refine Ah ?_
  refine FM (aBX.1 _<|J HB2.1<|J HB.1 hS) ?_;clear hS;intro Bv Bj hS;iterate 5 refine Ah ?_
  refine CX ?_;clear hS Aj Ae;intro o;obtain⟨EG,MP,Ic,Hc0⟩:=D9 (J HB.1 o) (Own.keep HO.1 o) (aFB.1.keep o)<|Dk o U;have avq:bb<Bv.heap.size:=IQ hlb o.size;have hz1:w2.heap.size<=Bv.heap.size:=EG.1.size;clear X1 Au Aw Az BA U hlb o Bj HB HO aFB aBX;go_upto_region 7 with fail;go_cut[41]λu wx=>u=.bool z/\wx=Bv;case first=>
   by_cases h1:k1=0
   .by_cases h2:k2=f
    .have C:z=true:=by rw[Iy.1,h1,h2];simp
     go_wp2;go_meet;exact⟨by rw[C],rfl⟩
    have C:z=false:=by rw[Iy.1];simp[h2]
    go_wp2;go_meet;exact⟨by rw[C];simp[h2],rfl⟩
   have C:z=false:=by rw[Iy.1];simp[h1]
   go_wp2;go_meet;exact⟨by rw[C],rfl⟩
  obtain⟨rfl,hwc⟩:=hcut;obtain⟨w7,rfl⟩:=BR wc;subst hwc;obtain⟨M1,hM1⟩:=BM<|M++if P a=true then[(⟨a,a+1⟩:Rn)]else[];have ayn:M1.length<=2*i+1:=by rw[<-hM1,EK];split<;>simp<;>omega
  have T:=Y3.1;rw[hM1]at T;have Y3:=V T;rw[HZ.1]at hM1;have MO:=V hM1;clear T hM1;have X6:=Ic.1;have U:=Hc0.1;go_upto_if 41 with fail;go_cut[10]λs wx=>∃(A':Option Addr)(c':Nat),s=.slice A' M1.length c'/\Own wx w2.heap.size 134 2 GZ (.slice A' M1.length c') M1/\AU w2 wx;case first=>
   cases z;.have C:=MO.1;simp only[O7,if_false,I9]at C;subst C;go_wp2;go_meet;exact⟨_,_,rfl,MP.1,EG.1⟩
   have C:=MO.1;simp only[if_true]at C;subst C;have hsh:(M++[(⟨a,a+1⟩:Rn)]).length=M.length+1:=by simp
   have DN:=V hsh;clear hsh;go_upto_region 8 with fail;refine Pe w2.heap.size w7 (.run 11 0 0<|.call 11 4095<|.call 12 8191<|.take 13 16383<|.done) λCG QR Ae Aj hS=>?_;iterate 11 refine Ah ?_
   refine BP ?_;clear hS;intro K hK AQ;go_simp;refine hK.out _ _ (Gs I AQ.out _) λhS=>?_;clear hK K AQ;try simp only[pu]
   refine BP ?_;clear hS;intro K hK AQ;refine Ir (.tmp 42) (.tmp 53) _ rfl (base:=w2.heap.size) (l:=M) (l2:=[⟨a,a+1⟩]) Y9 XG Y8 rfl (Own.alloc (MP.1.keep<|bD<|bR w7) _) rfl (Sl.lit (n:=1) (AO.made rfl _ _) rfl<|DC I) DY DY D8 ?_;intro v9 wn QW hgn cu;obtain⟨A9,c9,Uk,-⟩:=Own.Il QW;rw[DN.1]at Uk;subst Uk;have dB:=V QW;have hS:Fh w2.heap.size w7 wn:=Below.grown (Below.alloc (Below.drew<|Below.refl _ _) D8 _) hgn D8 λg hg=>(MP.1.lt g hg).1;clear QW hgn cu;clear AQ;refine hK.out _ _ hS λ_=>?_;clear hK K;try simp only[pu]
   refine Ah ?_;refine L9 ?_;clear hS Aj Ae;intro o;go_wp2;go_meet;exact⟨A9,c9,by rw[DN.1],by rw[DN.1];exact dB.1,Below.trans EG.1 o⟩
  clear X6 U MP EG Hc0 avq hz1 Ic;obtain⟨A1,c1,rfl,ho,hb⟩:=hcut;obtain⟨w8,rfl⟩:=BR wc;have XY:=V ho;have Js:=V hb;have aAe:=hb.size;have WU:=V<|Vs.1.keep hb;clear ho hb;by_cases hb:i+1<L.length
  .have j:=aAt.1 hb;obtain⟨b1,o1,he1,hl1,d0⟩:=HR2.1.int hb;simp only[JU,Addr.mk.injEq,and_true]at he1;obtain⟨rfl,rfl⟩:=he1;obtain⟨_,_,he1,-,U⟩:=HR2.1.int hlt;simp only[JU,Addr.mk.injEq,and_true]at he1;obtain⟨rfl,rfl⟩:=he1;rw[aCD.1]at U;have U:=Dk Js.1 U;have d0:=Dk Js.1 d0;have aeO:=(ZI.1 _<|BG hb).2;have avr:=V (ZI.1 _<|BG hb).1;unfold MN at aeO;obtain⟨b,hbb⟩:=BM L[i+1];rw[hbb]at d0 j aeO avr;simp only at aeO;have i3:(i:Int)+1<L.length:=I;have i4:0<=(i:Int)+1:=I;have n1:((i:Int)+1).toNat=i+1:=I;have aeJ:bb<w8.heap.size:=IQ hl1 aAe;clear hbb;by_cases hab:a+1<b
   .have hPb:=HPx.1<|a+1;have hnb:Bl ⟨a+1,y⟩=true:=by unfold Bl;simp;omega
    have alI:=V λW(hW:AU w W)=>Un.1 (a+1) hnb W hW;obtain⟨z2,hz2⟩:∃z,P (a+1)=z:=⟨_,rfl⟩;rw[hz2]at hPb j;generalize Qd p ⟨a+1,y⟩=q at*;obtain⟨k3,k4⟩:=q;have HPb:=V hPb;have Xa:=V j;have X8:=WU.1;clear hPb j hz2 hnb;go_upto_region 9 with fail;refine CZ w8 (.run 18 0 0<|.done) λCG QR Ae Aj hS=>?_;iterate 6 refine Ah ?_
    iterate 11 refine DT ?_
    refine Ah ?_;refine CX ?_;clear hS Aj Ae;intro o;obtain⟨w9,hW⟩:∃W:World,W=w8.drew:=⟨_,rfl⟩;rw[<-hW]at o⊢;have Ja:=V<|J Js.1 o;have TK:=V<|XY.1.keep o;have X9:=X8.keep o;have c0':=Dk o U;have d0':=Dk o d0;have avs:bb<w9.heap.size:=IQ aeJ o.size;clear hW o X8 U d0 aeJ XY Js WU aAe;obtain⟨Hg,Hu,Jf,aAL,-⟩:=X9.BF;go_upto_region 10 with fail;refine CZ w9 (.run 9 0 0<|.call 9 1023<|.run 5 10 1023<|.done) λCG QR Ae Aj hS=>?_;iterate 9 refine Ah ?_
    refine FM (alI.1 _<|J HB2.1<|J Ja.1 hS) ?_;clear hS;intro Bv Bj hS;iterate 5 refine Ah ?_
    refine CX ?_;clear hS Aj Ae;intro o;obtain⟨w10,hW⟩:∃W:World,W=Bv:=⟨_,rfl⟩;rw[<-hW]at o⊢;have eU:=V<|J Ja.1 o;have aeP:=V<|TK.1.keep o;have U:=Dk o c0';have d0:=Dk o d0';have ayo:w2.heap.size<=w10.heap.size:=eU.1.size;clear hW o Bj X9 Hg Hu Jf aAL c0' d0' avs TK Ja alI;go_upto_region 11 with fail;go_cut[92]λu wx=>u=.bool z2/\wx=w10;case first=>
     by_cases h1:k3=0
     .by_cases h2:k4=f
      .have C:z2=true:=by rw[HPb.1,h1,h2];simp
       go_wp2;go_meet;exact⟨by rw[C],rfl⟩
      have C:z2=false:=by rw[HPb.1];simp[h2]
      go_wp2;go_meet;exact⟨by rw[C];simp[h2],rfl⟩
     have C:z2=false:=by rw[HPb.1];simp[h1]
     go_wp2;go_meet;exact⟨by rw[C],rfl⟩
    obtain⟨rfl,hwc⟩:=hcut;obtain⟨WA,rfl⟩:=BR wc;subst hwc;cases z2
    .have j:=Xa.1;rw[AX Ak]at j;have aCE:=V j;go_wp2;go_roundw;case rel=>exact⟨i+1,A1,c1,M1,I,BH,rfl,by rw[Y3.1,aCE.1,I9],I,aeP.1,eU.1⟩
     exact BJ
    have j:=Xa.1;rw[AZ ⟨hab,rfl⟩]at j;have aCE:=V j;have hsh:(M1++[(⟨a+1,b⟩:Rn)]).length=M1.length+1:=by simp
    have DN:=V hsh;clear hsh j;go_upto_region 12 with fail;refine Pe w2.heap.size WA (.run 12 0 0<|.call 12 8191<|.call 13 16383<|.take 14 32767<|.done) λCG QR Ae Aj hS=>?_;iterate 12 refine Ah ?_
    refine BP ?_;clear hS;intro K hK AQ;go_simp;refine hK.out _ _ (Gs I AQ.out _) λhS=>?_;clear hK K AQ;try simp only[pu]
    refine BP ?_;clear hS;intro K hK AQ;refine Ir (.tmp 93) (.tmp 105) _ rfl (base:=w2.heap.size) (l:=M1) (l2:=[⟨a+1,b⟩]) Y9 XG Y8 rfl (Own.alloc (aeP.1.keep<|bD<|bR WA) _) rfl (Sl.lit (n:=1) (AO.made rfl _ _) rfl<|DC I) DY DY D8 ?_;intro v9 wn QW hgn cu;obtain⟨A9,c9,Uk,-⟩:=Own.Il QW;rw[DN.1]at Uk;subst Uk;have dB:=V QW;have hS:Fh w2.heap.size WA wn:=Below.grown (Below.alloc (Below.drew<|Below.refl _ _) D8 _) hgn D8 λg hg=>(aeP.1.lt g hg).1;clear QW hgn cu;clear AQ;refine hK.out _ _ hS λ_=>?_;clear hK K;try simp only[pu]
    refine Ah ?_;refine L9 ?_;clear hS Aj Ae;intro o;go_wp2;go_roundw;case rel=>exact⟨i+1,A9,c9,M1++[⟨a+1,b⟩],I,BH,by rw[DN.1],by rw[Y3.1,aCE.1],by rw[DN.1];omega,by rw[DN.1];exact dB.1,Below.trans eU.1 o⟩
    exact BJ
   rw[AX λh=>hab h.1]at j;have Xa:=V j;clear j;go_upto_region 9 with fail;refine CZ w8 (.run 18 0 0<|.done) λCG QR Ae Aj hS=>?_;iterate 6 refine Ah ?_
   iterate 11 refine DT ?_
   refine Ah ?_;refine CX ?_;clear hS Aj Ae;intro o;go_wp2;go_roundw;case rel=>exact⟨i+1,A1,c1,M1,I,BH,rfl,by rw[Y3.1,Xa.1,I9],I,XY.1.keep o,J Js.1 o⟩
   exact BJ
  have j:=HG2.1 hb;have Xa:=V j;have i3:¬(i:Int)+1<L.length:=I;clear j;go_upto_region 9 with fail;refine CZ w8 (.run 18 0 0<|.done) λCG QR Ae Aj hS=>?_;iterate 6 refine Ah ?_
  iterate 11 refine Iu ?_
  refine Ah ?_;refine CX ?_;clear hS Aj Ae;intro o;go_wp2;go_roundw;case rel=>exact⟨i+1,A1,c1,M1,I,BH,rfl,by rw[Y3.1,Xa.1,I9],I,XY.1.keep o,J Js.1 o⟩
  exact BJ
 obtain rfl:i=L.length:=I;have hM:=HM.1;rw[aCf]at hM;have hM2:Gg P L=M:=by rw[hM];unfold Gg;simp
 have KH:=V hM2;clear hM hM2;go_wp2_with fail;rw[KH.1];go_ret;exact⟨A,c,rfl,J HB2.1 HB.1,Own.sl HO.1⟩
theorem alJ{P:Int->Bool}:∀{l:List Int}{r:Rn},r∈Gg P l->(∃a∈l,r=⟨a,a+1⟩)\/∃a∈l,∃b∈l,r=⟨a+1,b⟩
 |[],r,h=>by cases h|a::l,r,h=>by
  rw[aDO]at h;rcases F9.1 h with h|h
  .rcases F9.1 h with h|h
   .split at h;.exact .inl ⟨a,ED,EJ.1 h⟩
    cases h
   cases l with|nil=>cases h|cons b l=>
   rw[gW]at h;split at h;.exact .inr ⟨a,ED,b,FW _ ED,EJ.1 h⟩
   .cases h
  rcases alJ h with⟨x,c,e⟩|⟨x,c,z,j,e⟩;.exact .inl ⟨x,FW _ c,e⟩
  exact .inr ⟨x,FW _ c,z,FW _ j,e⟩
theorem avt:∀{l:List Rn},(∀r∈l,N9 r)->N9 (Jb l).1:=λ{l}h=>by
 have c:∀(l:List Rn)(s:Rn×Rn×Bool),N9 s.1->N9 s.2.1->(∀r∈l,N9 r)->N9 (l.foldl PN s).1:=λl=>by induction l with|nil=>exactλs h1 _ _=>h1|cons a l j=>intro s h1 h2 h;have:=alG h1 h2<|h a ED;exact j _ this.1 this.2 λr o=>h r<|FW _ o
 exact c l (Pg,Pg,false) (by unfold N9 Pg;simp only;omega) (by unfold N9 Pg;simp only;omega) h
theorem Valid.avu{p:Pl}(h:Valid p){f y:Int}:∀r∈rowP p f y,N9 r:=λr o=>by
 have c:∀x∈Ls p y,-1048576<=x/\x<=1048576:=λx s=>(h.jh s).2.1;unfold N9;rcases alJ o with⟨a,j,rfl⟩|⟨a,j,b,hb,rfl⟩;.have:=c a j;simp only;omega
 have h1:=c a j;have h2:=c b hb;simp only;omega
theorem avv{p:Pl}(z:Ru p){X Y:List Int}(C:X∈BN p)(F:Y∈BN p)(e:Ej p (Y.headD 0)=Ej p (X.headD 0)):Y=X:=by
 have hd:=z.differ;unfold List.Nodup at hd;rw[H9,FT]at hd;obtain⟨i,hi,c⟩:=Dy.1 C;obtain⟨j,s,o⟩:=Dy.1 F;rcases Om i j with l|l|l;.exact absurd (by rw[c,o];exact e.symm)<|hd i j hi s l
 .subst l;rw[<-c,<-o]
 exact absurd (by rw[c,o];exact e)<|hd j i s hi l
def Qe(p:Pl)(f:Int)(O:List<|List Int):List Pt:=O.flatMap λX=>if Ej p (X.headD 0)=f then X.flatMap<|Iz p else[]
theorem adX{p:Pl}(z:Ru p){f:Int}{X:List Int}(C:SY p f=some X){O:List<|List Int}(j:O.Perm<|BN p)(v:Pt):v∈Qe p f O↔v∈X.flatMap (Iz p):=by
 obtain⟨o,s⟩:=ZP C;unfold Qe;rw[Fj];constructor
 .rintro⟨Y,F,hv⟩;split at hv;.rename_i K;have c:=j.subset F;have:Y=X:=avv z o c (by rw[K];exact s.symm);rw[<-this];exact hv
  cases hv
 intro hv;exact⟨X,j.symm.subset o,by rw[AZ<|show Ej p (X.headD 0)=f from s];exact hv⟩
theorem avw(p:Pl)(f:Int){O:List<|List Int}{k:Nat}(hk:k<O.length):Qe p f (O.take<|k+1)=Qe p f (O.take k)++if Ej p (O[k].headD 0)=f then O[k].flatMap<|Iz p else[]:=by unfold Qe;rw[Eu hk,LY];simp
theorem Valid.avx{p:Pl}(h:Valid p)(K:Ru p){f:Int}{X:List Int}(o:SY p f=some X){O:List<|List Int}(M:O.Perm<|BN p):0<(Qe p f O).length:=by obtain⟨T,U⟩:=ZP o;have s:=(Gl.1 T).1;have c:=h.VF s;cases j:X with|nil=>exact absurd j c|cons d t=>
  have hd:=(h.Fv s).2 d (by rw[j];exact ED);have z:=h.aBR hd;refine ZG.2 λe=>?_;have hv:∀v,v∈Iz p d->False:=λv hv=>by have:=(adX K o M v).2<|Fj.2 ⟨d,by rw[j];exact ED,hv⟩;rw[e]at this;cases this
  cases C:Iz p d with|nil=>rw[C]at z;simp at z|cons v t=>exact hv v<|by rw[C];exact ED
theorem Valid.avy{p:Pl}(h:Valid p){f:Int}{X:List Int}(j:Ru p)(c:SY p f=some X){O:List<|List Int}(o:O.Perm<|BN p):∀v∈Qe p f O,Bl v=true:=λv hv=>by have hv:=(adX j c o v).1 hv;obtain⟨d,hd,hv⟩:=Fj.1 hv;exact h.aiu ((h.Fv (Gl.1 (ZP c).1).1).2 d hd) hv
theorem avz(p:Pl)(A:List Int)(d:Int)(B:List Int):DV p (A++d::B)=DV p A++(EO (GL p d)++DV p B):=by unfold DV;rw[LY,LC]
theorem alK(p:Pl){X:List Int}{k:Nat}(hk:k<X.length):∀m,m+1<(GL p X[k]).length->∃r,DV p X=DV p (X.take k)++(EO<|GL p X[k]).take m++((GL p X[k]).getD m AY,(GL p X[k]).getD (m+1) AY)::r:=λm hm=>by
 have c:m<(EO<|GL p X[k]).length:=by unfold EO;rw[D6,Oo];omega
 have j:EO (GL p X[k])=(EO<|GL p X[k]).take m++(EO<|GL p X[k])[m]::(EO<|GL p X[k]).drop (m+1):=by rw[<-Ql c,gK]
 have o:(EO<|GL p X[k])[m]=((GL p X[k]).getD m AY,(GL p X[k]).getD (m+1) AY):=by simp[EO]
 have s:X=X.take k++X[k]::X.drop (k+1):=by rw[<-Ql hk,gK]
 refine⟨(EO<|GL p X[k]).drop (m+1)++DV p (X.drop<|k+1),?_⟩;have z:DV p X=DV p (X.take k)++(EO (GL p X[k])++DV p (X.drop<|k+1)):=by rw[<-avz p,<-s]
 rw[z,Jv,<-aa3,<-o,<-Jv<|(EO<|GL p X[k]).take m,<-j]
theorem aw0{σ:Type}(w:World)(gm:Nat)(p:Pl)(f:Int->SV)(hpm:Qk w gm p f)(hv:Valid p)(vc:Value)(X:List Int)(hX:Ints w vc X)(hd:∀d∈X,d∈BZ p)(g1 g2 g3:Nat)(Inv:σ->World->Prop)(upd:σ->Pt×Pt->σ)(hI:∀s W,Inv s W->AU w W)(hD:∀s W,Inv s W->Inv s W.drew)(s:σ)(C:∀S0 W q r,DV p X=S0++q::r->Inv (S0.foldl upd s) W->Calls prog 209 #[BD q.1,BD q.2,.pointer<|some ⟨g1,0,none⟩,.pointer<|some ⟨g2,0,none⟩,.pointer<|some ⟨g3,0,none⟩] W λe W'=>e=.returned (.tuple #[])/\Inv (upd (S0.foldl upd s) q) W'/\Below w.heap.size W W')(W:World)(h0:Inv s W):Calls prog 95 #[.map<|some gm,vc,.func (.func 209) #[] #[.pointer<|some ⟨g1,0,none⟩,.pointer<|some ⟨g2,0,none⟩,.pointer<|some ⟨g3,0,none⟩]] W λe W'=>e=.returned (.tuple #[])/\Inv ((DV p X).foldl upd s) W'/\Below w.heap.size W W':=by
 obtain⟨Ac,cc,rfl,hc1,hc2,J6⟩:=hX;unfold maxLen at hc2;obtain⟨Oc,Jl,HI,Ce,TQ,Yn,HV,H0,FI⟩:=yH J6 hpm hI C hD hd hv h0 λk(hk:k<X.length)=>adG p hk;obtain⟨R,hR⟩:=BM<|(DV p X).foldl upd s;rw[hR];have Oe:=V hR;have Rw:=V λk(hk:k<X.length)=>alK p hk;clear J6 hpm hI C hD hd hv h0 hR;go_enter func95,ntmps95;go_wp2_with fail;go_loopw[12](λi wr=>∃k:Nat,k<=X.length/\i=.int .i64 k/\Inv ((DV p<|X.take k).foldl upd s) wr/\Below w.heap.size W wr)λi _=>X.length-(intOf i).toNat;case atStart=>exact⟨0,C9 _,rfl,H0.1,Below.refl _ _⟩
 obtain⟨k,hk,rfl,c,hbw⟩:=hrel;obtain⟨wo,rfl⟩:=BR wr;obtain⟨Jy,Ez,Hb⟩:=CB c hbw<|HI.1 _ _ c;clear c hbw;by_cases hlt:k<X.length
 .obtain⟨b,o,rfl,hlb,c0⟩:=(Oc.1.mono Hb.1).int hlt;have hdd:=Yn.1 _<|BG hlt;have M:=FI.1 k hlt;have T:=Rw.1 k hlt;generalize X[k]=d at*;obtain⟨a,ha,hor,hpt⟩:=HV.1.Ug hdd;have hid:=HV.1.IB ha;rw[hpt]at M T;obtain⟨n,U⟩:=(Jl.1.keep Hb.1).mp;have hlk:=U.look a.id<|L8 I I;have NT:=Jl.1.rd a ha;have hlen:2<=(AV p a).length:=by have:=En p a;omega
  have aBC:=V M;have SS:=V T;have k1:=DR<|-d;have km:max d (-d)=a.id:=I;have Pv:=HV.1.Td ha;have hpl:(AV p a).length<=66:=by have:=En p a;omega
  generalize f a.id=x at*;obtain⟨Ap,np,cp⟩:=x;unfold BO at hlk NT;obtain⟨kK,cp',he,hp1,hp2,Og⟩:=NT;injection he with e1 e2 e3;subst e1 e2 e3;unfold maxLen at hp2;have Yo:=V Og;clear U hdd M T hpt hor ha Og Pv;generalize a.id=ai at*;generalize AV p a=P at*;clear hid;obtain⟨s1,hs1⟩:=BM<|(DV p<|X.take k).foldl upd s;rw[hs1]at Jy;have TR:=V hs1;clear hs1;go_upto_block 2 with fail;go_wp2_with fail;go_loopw[9](λi wr=>∃j:Nat,1<=j/\j<=P.length/\i=.int .i64 j/\Inv (((EO P).take<|j-1).foldl upd s1) wr/\Below w.heap.size wo wr)λi _=>P.length-(intOf i).toNat;case atStart=>exact⟨1,Dh _,I,rfl,Jy.1,Below.refl _ _⟩
  obtain⟨j,hj1,hj2,rfl,c,F6⟩:=hrel;obtain⟨kL,FH,Hb2⟩:=CB c F6<|HI.1 _ _ c;clear c F6;by_cases hlj:j<P.length
  .obtain⟨m,rfl⟩:∃m,j=m+1:=⟨j-1,I⟩;have U:m<P.length:=I;obtain⟨r,hq⟩:=SS.1 m hlj;have M:=aER hlj;have hin:=kL.1;rw[show m+1-1=m by omega]at hin;have C:=Ce.1 _ wr.drew _ r hq (by rw[LG,TR.1];exact TQ.1 _ _ hin);rw[LG,TR.1]at C;have ea:P.getD m AY=P[m]:=by simp only[G5,DK U,I7]
   have eb:P.getD (m+1) AY=P[m+1]:=by simp only[G5,DK hlj,I7]
   rw[ea,eb]at C M;obtain⟨bp,op,KJ,hlp,e10,e11⟩:=Yo.1.pt U;obtain⟨bp',op',JM,-,e20,e21⟩:=Yo.1.pt hlj;rw[KJ]at JM;injection JM with JM;injection JM with x1 x2 _;subst x1 x2;replace e10:=Dk Hb2.1 e10;replace e11:=Dk Hb2.1 e11;replace e20:=Dk Hb2.1 e20;replace e21:=Dk Hb2.1 e21;have U6:=V M;generalize P[m]=pa at*;generalize P[m+1]=pb at*;unfold BD at C;simp only at C;have HC:=V C;clear C M ea eb hq hin;subst KJ;have k2:IntKind.i64.wrap ((m:Int)+1-1)=m:=by rw[show(m:Int)+1-1=m by omega];exact Gz _ I
   have k3:(m:Int)<P.length:=I;have k8:IntKind.i64.wrap (m:Int)=m:=Gz _ I;have k4:0<=(m:Int):=I;have k5:(m:Int)+1-1=m:=I;have k6:(m:Int)+1<P.length:=I;have k7:0<=(m:Int)+1:=I;rw[show((m+1:Nat):Int)=(m:Int)+1 from by omega];go_upto_region 7 with fail;refine Pe w.heap.size wr (.run 10 0 0<|.call 10 2047<|.done) λCG QR Ae Aj hS=>?_;iterate 10 refine Ah ?_
   refine BP ?_;clear hS;intro K hK AQ;go_simp;refine HC.1.mono ?_;rintro e w4⟨rfl,kM,hb4⟩;have hS:Fh w.heap.size wr w4:=Below.trans AQ.out hb4;have aFv:=V kM;clear hb4 kM;clear AQ;refine hK.out _ _ hS λ_=>?_;clear hK K;try simp only[pu]
   refine L9 ?_;clear hS Aj Ae;intro hB;have aBD:=V<|Below.trans FH.1 hB;clear hB e10 e11 e20 e21 hlp;go_wp2;go_roundw;case rel=>exact⟨m+1+1,I,I,BH,aFw,aBD.1⟩
   exact BJ
  obtain rfl:j=P.length:=I;have aBE:(EO P).length=P.length-1:=by unfold EO;rw[D6,Oo]
  have z:=kL.1;rw[Ip I,<-TR.1,<-LG,<-aBC.1]at z;have HF:=V z;clear z aBE;go_wp2;go_roundw;case rel=>exact⟨k+1,I,BH,HF.1,Below.trans Ez.1 FH.1⟩
  exact BJ
 obtain rfl:k=X.length:=I;have z:=Jy.1;rw[Gu,Oe.1]at z;have HF:=V z;clear z;go_wp2_with fail;exact bodyPost_end (v:=.tuple #[]) (results_none rfl _ _ _) rfl ⟨rfl,HF.1,Ez.1⟩
theorem aw1{σ:Type}(w:World)(gm:Nat)(p:Pl)(f:Int->SV)(hpm:Qk w gm p f)(hv:Valid p)(vc:Value)(X:List Int)(hX:Ints w vc X)(hd:∀d∈X,d∈BZ p)(g1:Nat)(Inv:σ->World->Prop)(upd:σ->Pt×Pt->σ)(hI:∀s W,Inv s W->AU w W)(hD:∀s W,Inv s W->Inv s W.drew)(s:σ)(C:∀S0 W q r,DV p X=S0++q::r->Inv (S0.foldl upd s) W->Calls prog 96 #[BD q.1,BD q.2,.pointer<|some ⟨g1,0,none⟩] W λe W'=>e=.returned (.tuple #[])/\Inv (upd (S0.foldl upd s) q) W'/\Below w.heap.size W W')(W:World)(h0:Inv s W):Calls prog 95 #[.map<|some gm,vc,.func (.func 96) #[] #[.pointer<|some ⟨g1,0,none⟩]] W λe W'=>e=.returned (.tuple #[])/\Inv ((DV p X).foldl upd s) W'/\Below w.heap.size W W':=by
 obtain⟨Ac,cc,rfl,hc1,hc2,J6⟩:=hX;unfold maxLen at hc2;obtain⟨Oc,Jl,HI,Ce,TQ,Yn,HV,H0,FI⟩:=yH J6 hpm hI C hD hd hv h0 λk(hk:k<X.length)=>adG p hk;obtain⟨R,hR⟩:=BM<|(DV p X).foldl upd s;rw[hR];have Oe:=V hR;have Rw:=V λk(hk:k<X.length)=>alK p hk;clear J6 hpm hI C hD hd hv h0 hR;go_enter func95,ntmps95;go_wp2_with fail;go_loopw[12](λi wr=>∃k:Nat,k<=X.length/\i=.int .i64 k/\Inv ((DV p<|X.take k).foldl upd s) wr/\Below w.heap.size W wr)λi _=>X.length-(intOf i).toNat;case atStart=>exact⟨0,C9 _,rfl,H0.1,Below.refl _ _⟩
 obtain⟨k,hk,rfl,c,hbw⟩:=hrel;obtain⟨wo,rfl⟩:=BR wr;obtain⟨Jy,Ez,Hb⟩:=CB c hbw<|HI.1 _ _ c;clear c hbw;by_cases hlt:k<X.length
 .obtain⟨b,o,rfl,hlb,c0⟩:=(Oc.1.mono Hb.1).int hlt;have hdd:=Yn.1 _<|BG hlt;have M:=FI.1 k hlt;have T:=Rw.1 k hlt;generalize X[k]=d at*;obtain⟨a,ha,hor,hpt⟩:=HV.1.Ug hdd;have hid:=HV.1.IB ha;rw[hpt]at M T;obtain⟨n,U⟩:=(Jl.1.keep Hb.1).mp;have hlk:=U.look a.id<|L8 I I;have NT:=Jl.1.rd a ha;have hlen:2<=(AV p a).length:=by have:=En p a;omega
  have aBC:=V M;have SS:=V T;have k1:=DR<|-d;have km:max d (-d)=a.id:=I;have Pv:=HV.1.Td ha;have hpl:(AV p a).length<=66:=by have:=En p a;omega
  generalize f a.id=x at*;obtain⟨Ap,np,cp⟩:=x;unfold BO at hlk NT;obtain⟨kK,cp',he,hp1,hp2,Og⟩:=NT;injection he with e1 e2 e3;subst e1 e2 e3;unfold maxLen at hp2;have Yo:=V Og;clear U hdd M T hpt hor ha Og Pv;generalize a.id=ai at*;generalize AV p a=P at*;clear hid;obtain⟨s1,hs1⟩:=BM<|(DV p<|X.take k).foldl upd s;rw[hs1]at Jy;have TR:=V hs1;clear hs1;go_upto_block 2 with fail;go_wp2_with fail;go_loopw[9](λi wr=>∃j:Nat,1<=j/\j<=P.length/\i=.int .i64 j/\Inv (((EO P).take<|j-1).foldl upd s1) wr/\Below w.heap.size wo wr)λi _=>P.length-(intOf i).toNat;case atStart=>exact⟨1,Dh _,I,rfl,Jy.1,Below.refl _ _⟩
  obtain⟨j,hj1,hj2,rfl,c,F6⟩:=hrel;obtain⟨kL,FH,Hb2⟩:=CB c F6<|HI.1 _ _ c;clear c F6;by_cases hlj:j<P.length
  .obtain⟨m,rfl⟩:∃m,j=m+1:=⟨j-1,I⟩;have U:m<P.length:=I;obtain⟨r,hq⟩:=SS.1 m hlj;have M:=aER hlj;have hin:=kL.1;rw[show m+1-1=m by omega]at hin;have C:=Ce.1 _ wr.drew _ r hq (by rw[LG,TR.1];exact TQ.1 _ _ hin);rw[LG,TR.1]at C;have ea:P.getD m AY=P[m]:=by simp only[G5,DK U,I7]
   have eb:P.getD (m+1) AY=P[m+1]:=by simp only[G5,DK hlj,I7]
   rw[ea,eb]at C M;obtain⟨bp,op,KJ,hlp,e10,e11⟩:=Yo.1.pt U;obtain⟨bp',op',JM,-,e20,e21⟩:=Yo.1.pt hlj;rw[KJ]at JM;injection JM with JM;injection JM with x1 x2 _;subst x1 x2;replace e10:=Dk Hb2.1 e10;replace e11:=Dk Hb2.1 e11;replace e20:=Dk Hb2.1 e20;replace e21:=Dk Hb2.1 e21;have U6:=V M;generalize P[m]=pa at*;generalize P[m+1]=pb at*;unfold BD at C;simp only at C;have HC:=V C;clear C M ea eb hq hin;subst KJ;have k2:IntKind.i64.wrap ((m:Int)+1-1)=m:=by rw[show(m:Int)+1-1=m by omega];exact Gz _ I
   have k3:(m:Int)<P.length:=I;have k8:IntKind.i64.wrap (m:Int)=m:=Gz _ I;have k4:0<=(m:Int):=I;have k5:(m:Int)+1-1=m:=I;have k6:(m:Int)+1<P.length:=I;have k7:0<=(m:Int)+1:=I;rw[show((m+1:Nat):Int)=(m:Int)+1 from by omega];go_upto_region 7 with fail;refine Pe w.heap.size wr (.run 10 0 0<|.call 10 2047<|.done) λCG QR Ae Aj hS=>?_;iterate 10 refine Ah ?_
   refine BP ?_;clear hS;intro K hK AQ;go_simp;refine HC.1.mono ?_;rintro e w4⟨rfl,kM,hb4⟩;have hS:Fh w.heap.size wr w4:=Below.trans AQ.out hb4;have aFv:=V kM;clear hb4 kM;clear AQ;refine hK.out _ _ hS λ_=>?_;clear hK K;try simp only[pu]
   refine L9 ?_;clear hS Aj Ae;intro hB;have aBD:=V<|Below.trans FH.1 hB;clear hB e10 e11 e20 e21 hlp;go_wp2;go_roundw;case rel=>exact⟨m+1+1,I,I,BH,aFw,aBD.1⟩
   exact BJ
  obtain rfl:j=P.length:=I;have aBE:(EO P).length=P.length-1:=by unfold EO;rw[D6,Oo]
  have z:=kL.1;rw[Ip I,<-TR.1,<-LG,<-aBC.1]at z;have HF:=V z;clear z aBE;go_wp2;go_roundw;case rel=>exact⟨k+1,I,BH,HF.1,Below.trans Ez.1 FH.1⟩
  exact BJ
 obtain rfl:k=X.length:=I;have z:=Jy.1;rw[Gu,Oe.1]at z;have HF:=V z;clear z;go_wp2_with fail;exact bodyPost_end (v:=.tuple #[]) (results_none rfl _ _ _) rfl ⟨rfl,HF.1,Ez.1⟩
structure Yu(w w':World)(g:Nat)(r:Option Nat):Prop where
 size:w.heap.size<=w'.heap.size
 blk:∀g1,g1<w.heap.size->g1≠g->r≠some g1->w'.heap[g1]?=w.heap[g1]?
theorem Yu.refl(w:World)(g:Nat)(r:Option Nat):Yu w w g r:=⟨Dh _,λ_ _ _ _=>rfl⟩
theorem Yu.keep{w w':World}{g:Nat}{r:Option Nat}(h:Yu w w' g r){c:Nat}{t:TypeId}{cs:Array Value}(hb:AO w c t cs)(h1:c≠g)(h2:r≠some c):AO w' c t cs:=(h.blk c hb.lt h1 h2).trans hb
theorem Yu.own{w w':World}{g:Nat}{r:Option Nat}(h:Yu w w' g r){α:Type}{B:Nat}{e:TypeId}{n:Nat}{f:α->List Value}{v:Value}{l:List α}(ho:Own w B e n f v l)(h1:v.ownBlock≠some g)(h2:∀k,v.ownBlock=some k->r≠some k):Own w' B e n f v l:=by
 obtain⟨h0,h3⟩:=ho;refine⟨h0,?_⟩;rcases h3 with h3|⟨q,j,c,rfl,a1,o,s⟩;.exact .inl h3
 exact .inr ⟨q,j,c,rfl,a1,Yu.keep h (cs:=c) o (λe=>h1 aO)<|h2 q rfl,s⟩
def NewAt(w:World)(v v':Value):Prop:=v'.ownBlock=v.ownBlock\/∃k,v'.ownBlock=some k/\w.heap.size<=k
theorem aw2(lo hi:Int)(B g:Nat)(l:List Rn)(v:Value)(w:World)(h:ZQ w B g l v)(hB:B<=w.heap.size)(hl:l.length<=4000000000):Calls prog 253 #[.int .i64 lo,.int .i64 hi,.pointer<|some ⟨g,0,none⟩] w λe w'=>e=.returned (.tuple #[])/\(∃v',ZQ w' B g (l++Jq lo hi) v'/\NewAt w v v')/\Yu w w' g v.ownBlock/\∀w0:World,AU w0 w->w0.heap.size<=B->w0.heap.size<=g->AU w0 w':=by
 obtain⟨M,own⟩:=h;obtain⟨A,c,rfl,-⟩:=Own.sl own;have D7:=V M;have U:=V own;have n4:=Own.ET own M BI;clear own;unfold Jq;by_cases hlt:lo<hi
 .rw[AZ hlt];obtain⟨Bg,Bq,DX⟩:=M.G7;go_enter func253,ntmps253;have s:(l++[(⟨lo,hi⟩:Rn)]).length=l.length+1:=by simp
  have DN:=V s;clear s;go_wp2_with(at_builtin;refine FV _ rfl (.tmp 8) (.tmp 12) _ rfl (base:=B) Y9 XG Y8 rfl (Own.alloc U.1 _) rfl (l2:=[(⟨lo,hi⟩:Rn)]) (Sl.lit (n:=1) (AO.made rfl _ _) rfl<|DC I) DY DY D8 ?_;intro v3 T o j Kr;obtain⟨z,C,K,-⟩:=o.sl;rw[DN.1]at K;subst K;have Eo:=V o;have RN:=AO.grown (D7.1.alloc _) j λe=>n4 e.symm;obtain⟨wQ,HN3,HAt⟩:=CB RN (Own.ET o RN BI)<|show NewAt w (.slice A l.length c)<|.slice z (l.length+1) C from Kr.imp id<|λe=>⟨_,e,Ak⟩;have HK:=V<|show Yu w (T.setCell ⟨g,0,none⟩<|.slice z (l.length+1) C) g (Value.slice A l.length c).ownBlock from⟨by have:=j.size;simp at this;simp;omega,λg1 h1 h2 h3=>by have h4:=j.block g1 D8<|λe=>h3 e.symm;rw[Below.heap_setCell T ⟨g,0,none⟩ _ g1 h2,h4];exact Below.heap_alloc w _ g1 h1⟩;have HB3:=V<|show∀w0:World,AU w0 w->w0.heap.size<=B->w0.heap.size<=g->AU w0 (T.setCell ⟨g,0,none⟩<|.slice z (l.length+1) C)fromλw0 h1 h2 h3=>bS (p:=⟨g,0,none⟩) (bG (bA h1 _) j<|λk hk=>Du h2 (U.1.lt k hk).1) h3 _;clear o j Kr M Bg Bq DX;obtain⟨jq,jr,jv⟩:=RN.G7);have HF:=V<|show ZQ (T.setCell ⟨g,0,none⟩<|.slice z (l.length+1) C) B g (l++[(⟨lo,hi⟩:Rn)])<|.slice z (l.length+1) C from⟨wQ.1.EM 0 _,Eo.1.far HN3.1 _⟩;exact bodyPost_end (v:=.tuple #[]) (results_none rfl _ _ _) rfl ⟨rfl,⟨_,HF.1,HAt.1⟩,HK.1,HB3.1⟩
 rw[AX hlt,I9];go_enter func253,ntmps253;go_wp2_with fail;exact bodyPost_end (v:=.tuple #[]) (results_none rfl _ _ _) rfl ⟨rfl,⟨_,⟨D7.1,U.1⟩,.inl rfl⟩,Yu.refl _ _ _,λw0 h1 _ _=>h1⟩
structure aw3(w:World)(B g:Nat)(l:List Int)(v:Value):Prop where box:AO w g 24 #[v]own:Own w B 3 1 DF v l
structure V3(w:World)(B g1 g2 g3:Nat)(y:Int)(T:List Rn)(C:List Int)(vt vc:Value):Prop where
 row:AO w g1 3 #[.int .i64 y]tkn:ZQ w B g2 T vt
 Lu:aw3 w B g3 C vc
theorem V3.keep{w w':World}{B c g2 g3:Nat}{y:Int}{T:List Rn}{C:List Int}{j o:Value}(h:V3 w B c g2 g3 y T C j o)(hb:AU w w'):V3 w' B c g2 g3 y T C j o:=⟨h.row.keep hb,h.tkn.keep hb,h.Lu.box.keep hb,h.Lu.own.keep hb⟩
structure Jm(B g2 g3:Nat)(W W':World):Prop where
 below:∀w0:World,AU w0 W->w0.heap.size<=B->w0.heap.size<=g2->w0.heap.size<=g3->AU w0 W'
 size:W.heap.size<=W'.heap.size
 blk:∀g,g<B->g≠g2->g≠g3->W'.heap[g]?=W.heap[g]?
theorem Jm.refl(B g2 g3:Nat)(W:World):Jm B g2 g3 W W:=⟨λ_ h _ _ _=>h,Dh _,λ_ _ _ _=>rfl⟩
theorem Jm.trans{B g2 g3:Nat}{W C c:World}(h:Jm B g2 g3 W C)(z:Jm B g2 g3 C c):Jm B g2 g3 W c:=⟨λw0 K j o s=>z.below w0 (h.below w0 K j o s) j o s,Du h.size z.size,λg j o s=>(z.blk g j o s).trans<|h.blk g j o s⟩
theorem Jm.of{B g2 g3:Nat}{W c:World}(j:B<=W.heap.size)(h:AU W c):Jm B g2 g3 W c:=⟨λw0 o _ _ _=>J o h,h.size,λg s _ _=>h.block g<|IQ s j⟩
theorem Jm.keep{B g2 g3:Nat}{W c:World}(h:Jm B g2 g3 W c){g:Nat}{t:TypeId}{cs:Array Value}(hb:AO W g t cs)(h1:g<B)(h2:g≠g2)(h3:g≠g3):AO c g t cs:=(h.blk g h1 h2 h3).trans hb
theorem V3.adY{w s:World}{B M g2 g3:Nat}{y:Int}{T U:List Rn}{C:List Int}{vt vc c:Value}{o:Obj}(h:V3 w B M g2 g3 y T C vt vc)(hB:B<=w.heap.size)(j:(w.alloc o).grownBy s vt.ownBlock)(ho:Own s B 134 2 GZ c U):V3 (s.setCell ⟨g2,0,none⟩ c) B M g2 g3 y U C c vc/\Jm B g2 g3 w (s.setCell ⟨g2,0,none⟩ c):=by
 have z:=AO.grown (h.tkn.box.alloc o) j λe=>Own.ET h.tkn.own h.tkn.box BI e.symm;have X1:=AO.grown (h.row.alloc o) j λe=>Own.ET h.tkn.own h.row BI e.symm;have X3:=AO.grown (h.Lu.box.alloc o) j λe=>Own.ET h.tkn.own h.Lu.box BI e.symm;have O3:=Own.grown (Own.alloc h.Lu.own o) j λg j=>Own.apart h.Lu.own h.tkn.own BI g j;refine⟨⟨X1.far (p:=⟨g2,0,none⟩) (AO.Nh X1 z BI) _,⟨z.EM 0 _,ho.far (p:=⟨g2,0,none⟩) (Own.ET ho z BI) _⟩,⟨X3.far (p:=⟨g2,0,none⟩) (AO.Nh X3 z BI) _,O3.far (p:=⟨g2,0,none⟩) (Own.ET O3 z BI) _⟩⟩,λw0 k1 K k3 _=>?_,?_,λg k1 K _=>?_⟩;.exact bS (p:=⟨g2,0,none⟩) (bG (bA k1 _) j<|λk hk=>Du K (h.tkn.own.lt k hk).1) k3 _
 .have:=j.size;simp at this;simp;omega
 rw[Below.heap_setCell s ⟨g2,0,none⟩ _ g K,j.block g D8 λe=>by have:=(h.tkn.own.lt g e.symm).1;omega];exact Below.heap_alloc w _ g I
theorem V3.aw4{w s:World}{B K g2 g3:Nat}{y:Int}{T:List Rn}{C C2:List Int}{vt M c:Value}{o:Obj}(h:V3 w B K g2 g3 y T C vt M)(hB:B<=w.heap.size)(j:(w.alloc o).grownBy s M.ownBlock)(ho:Own s B 3 1 DF c C2)(hn:M.ownBlock≠some K)(U:c.ownBlock≠some g3):V3 (s.setCell ⟨g3,0,none⟩ c) B K g2 g3 y T C2 vt c/\Jm B g2 g3 w (s.setCell ⟨g3,0,none⟩ c):=by
 have z:=AO.grown (h.Lu.box.alloc o) j λe=>Own.ET h.Lu.own h.Lu.box BI e.symm;have X1:=AO.grown (h.row.alloc o) j λe=>hn e.symm;have X2:=AO.grown (h.tkn.box.alloc o) j λe=>Own.ET h.Lu.own h.tkn.box BI e.symm;have O2:=Own.grown (Own.alloc h.tkn.own o) j λg j=>Own.apart h.tkn.own h.Lu.own BI g j;refine⟨⟨X1.far (p:=⟨g3,0,none⟩) (AO.Nh X1 z BI) _,⟨X2.far (p:=⟨g3,0,none⟩) (AO.Nh X2 z BI) _,O2.far (p:=⟨g3,0,none⟩) (Own.ET O2 z BI) _⟩,⟨z.EM 0 _,ho.far (p:=⟨g3,0,none⟩) U _⟩⟩,λw0 k1 k2 _ k3=>?_,?_,λg k1 _ k2=>?_⟩;.exact bS (p:=⟨g3,0,none⟩) (bG (bA k1 _) j<|λk hk=>Du k2 (h.Lu.own.lt k hk).1) k3 _
 .have:=j.size;simp at this;simp;omega
 rw[Below.heap_setCell s ⟨g3,0,none⟩ _ g k2,j.block g D8 λe=>by have:=(h.Lu.own.lt g e.symm).1;omega];exact Below.heap_alloc w _ g I
def aw5(W:World)(B g1 g2 g3:Nat)(y:Int)(T:List Rn)(C:List Int)(e:Ending)(W':World):Prop:=e=.returned (.tuple #[])/\(∃vt vc,V3 W' B g1 g2 g3 y T C vt vc)/\Jm B g2 g3 W W'
theorem alL{u v:Int}(j:-2097152<=u/\u<=2097152)(hv:-2097152<=v/\v<=2097152):-4398046511104<=u*v/\u*v<=4398046511104:=by
 have h1:=yG hv.2 (show(0:Int)<=2097152 by omega);rcases gJ 0 u with h|h;.have a1:=yG hv.2 h;have c:=yG hv.1 h;omega
 have a1:=aea h hv.1;have c:=aea h hv.2;omega
theorem aw6{t d H D:Int}(c:0<H)(h0:0<=t)(h1:t<=H)(hd:-D<=d/\d<=D):-D<=QL (t*d) H/\QL (t*d) H<=D:=by
 have hD:0<=D:=I;constructor
 .have h2:¬QL (t*d) H<=-D-1:=by
   rw[nM c];have a1:t*-D<=t*d:=yG hd.1 h0;have j:t*D<=H*D:=aDz h1 hD;have o:(-D-1)*H=-(H*D)-H:=by rw[aCT,PY,aDc,KT D H]
   have s:t*-D=-(t*D):=by rw[qm]
   omega
  omega
 rw[nM c];have a1:t*d<=t*D:=yG hd.2 h0;have j:t*D<=H*D:=aDz h1 hD;have o:D*H=H*D:=KT D H;omega
theorem aw7(a b:Pt)(ha:MN a)(hb:MN b)(y:Int)(B g1 g2 g3:Nat)(T:List Rn)(C:List Int)(vt vc:Value)(w:World)(h:V3 w B g1 g2 g3 y T C vt vc)(K:B<=w.heap.size)(hg1:g1<B)(hT:T.length<=1000000)(hC:C.length<=1000000):Calls prog 209 #[BD a,BD b,.pointer<|some ⟨g1,0,none⟩,.pointer<|some ⟨g2,0,none⟩,.pointer<|some ⟨g3,0,none⟩] w<|aw5 w B g1 g2 g3 y (T++Ll y (a,b))<|C++IG y (a,b):=by
 have aBW:=V @awP;obtain⟨lo,hlo⟩:=BM<|FQ a b;obtain⟨hi,hhi⟩:=BM<|I4 a b;obtain⟨R,hR⟩:=BM<|Ll y (a,b);obtain⟨S,hS⟩:=BM<|IG y (a,b);rw[hR,hS];obtain⟨j,z⟩:=BM<|(y-lo.y)*(hi.x-lo.x);obtain⟨q,hq⟩:=BM<|QL j<|hi.y-lo.y;have hat:Tz y a b=q:=by unfold Tz;rw[hlo,hhi,z,hq]
 have HR:=V (show R=if y<lo.y\/hi.y<y then[]else if lo.y=hi.y then[⟨min lo.x hi.x,max lo.x hi.x+1⟩]else if q*(hi.y-lo.y)=j then[⟨lo.x+q,lo.x+q+1⟩]else[]by rw[<-hR];unfold Ll;simp only;rw[hat,hlo,hhi,z]);have HS:=V (show S=if lo.y<=y/\y<hi.y then[lo.x+q]else[]by rw[<-hS];unfold IG;simp only;rw[hat,hlo,hhi]);have Qa:=V z;have HQ:=V hq;clear hat z hq;have hll:b.y<a.y/\lo=b/\hi=a\/¬b.y<a.y/\lo=a/\hi=b:=by
  rw[<-hlo,<-hhi];unfold FQ I4;by_cases e:b.y<a.y;.exact .inl ⟨e,by rw[AZ e],by rw[AZ e]⟩
  exact .inr ⟨e,by rw[AX e],by rw[AX e]⟩
 have qX:MN lo:=by rcases hll with⟨-,e,-⟩|⟨-,e,-⟩<;>rw[e]<;>assumption
 have qY:MN hi:=by rcases hll with⟨-,-,e⟩|⟨-,-,e⟩<;>rw[e]<;>assumption
 have hlh:lo.y<=hi.y:=by rcases hll with⟨e0,e,e2⟩|⟨e0,e,e2⟩<;>rw[e,e2]<;>omega
 have HH:=V h;have X1:=h.row;have hg2:=h.tkn.box.lt;have c:=h.Lu.box.lt;have hg1:=X1.lt;unfold BD;clear hR hS hlo hhi h;go_enter func209,ntmps209;go_upto_region 1 with fail;obtain⟨W1,hW⟩:=BR<|(w.alloc<|.cells #[.int .i64 a.x,.int .i64 a.y] 50).alloc<|.cells #[.int .i64 b.x,.int .i64 b.y] 50;have X5:AO W1 w.heap.size 50 #[.int .i64 a.x,.int .i64 a.y]:=by rw[hW];exact(AO.made rfl _ _).alloc _
 have X6:AO W1 (w.heap.size+1) 50 #[.int .i64 b.x,.int .i64 b.y]:=by rw[hW];exact AO.made Ak _ _
 have hA:AU w W1:=by rw[hW];exact bA (bA (bR w) _) _
 have HA:=V hA;rw[<-hW];clear hW hA X1;obtain⟨g6,LQ⟩:=BM<|w.heap.size+1;obtain⟨g5,hg5⟩:=BM w.heap.size;have hl5:w.heap.size<=g5:=I;have aBd:w.heap.size<=g6:=I;have n1:g5≠g6:=I;have n2:g6≠g5:=I;rw[LQ]at X6⊢;rw[hg5]at X5⊢;clear hg5 LQ;have D5:=V X5;have Ic:=V X6;obtain⟨CJ,CO,CQ,OB,OQ⟩:=X5.BL;obtain⟨EW,EX,EY,Zl,Zm⟩:=X6.BL;rcases hll with⟨hsw,e1,e2⟩|⟨hsw,e1,e2⟩;subst e1 e2;go_upto_region 3 with fail;obtain⟨W2,hW⟩:=BR<|(((W1.setCell ⟨g5,0,none⟩<|.int .i64 lo.x).setCell ⟨g5,1,none⟩<|.int .i64 lo.y).setCell ⟨g6,0,none⟩<|.int .i64 hi.x).setCell ⟨g6,1,none⟩<|.int .i64 hi.y;have Y5:AO W2 g5 50 #[.int .i64 lo.x,.int .i64 lo.y]:=by rw[hW];exact((AO.O9 D5.1).far (p:=⟨g6,0,none⟩) n1 _).far (p:=⟨g6,1,none⟩) n1 _
 have Y6:AO W2 g6 50 #[.int .i64 hi.x,.int .i64 hi.y]:=by rw[hW];exact AO.O9<|(Ic.1.far (p:=⟨g5,0,none⟩) n2 _).far (p:=⟨g5,1,none⟩) n2 _
 have M:=V (show AU w W2 by rw[hW];exact bS (p:=⟨g6,1,none⟩) (bS (p:=⟨g6,0,none⟩) (bS (p:=⟨g5,1,none⟩) (bS (p:=⟨g5,0,none⟩) HA.1 hl5 _) hl5 _) aBd _) aBd _);rw[<-hW];clear hW HA D5 Ic X5 X6 CJ CO CQ OB OQ EW EX EY Zl Zm;rotate_left;subst e1 e2;go_upto_region 3 with fail;obtain⟨W2,hW⟩:=BR W1;have Y5:=X5;have Y6:=X6;rw[<-hW]at Y5 Y6 HA⊢;have M:=HA;clear hW HA D5 Ic X5 X6 CJ CO CQ OB OQ EW EX EY Zl Zm;all_goals
  have XH:=V<|HH.1.keep M.1;have X1:=XH.1.row;have Vu:=V Y5;have aBe:=V Y6;clear HH;obtain⟨Au,Aw,-⟩:=X1.G7;obtain⟨jT,jU,jV,-⟩:=Y5.BL;obtain⟨Y6l,Y6a,Y6b,-⟩:=Y6.BL;by_cases h1:y<lo.y;.have s:=HR.1;have hs:=HS.1;rw[AZ<|.inl h1]at s;rw[AX λe=>I]at hs;subst s hs;clear HR HS;go_wp2_with fail;refine bodyPost_ret (results_none rfl _ _ _) rfl ⟨rfl,⟨vt,vc,by simpa using XH.1⟩,Jm.of K M.1⟩
  by_cases h2:hi.y<y;.have s:=HR.1;have hs:=HS.1;rw[AZ<|.inr h2]at s;rw[AX λe=>I]at hs;subst s hs;clear HR HS;go_wp2_with fail;refine bodyPost_ret (results_none rfl _ _ _) rfl ⟨rfl,⟨vt,vc,by simpa using XH.1⟩,Jm.of K M.1⟩
  have s:=HR.1;rw[AX λe=>e.elim h1 h2]at s;have HR2:=V s;clear s HR;obtain⟨At,ct,hvt,-⟩:=XH.1.tkn.own.sl;obtain⟨Ac,cc,aCt,-⟩:=XH.1.Lu.own.sl;subst hvt aCt;have X2:=XH.1.tkn.box;have X3:=XH.1.Lu.box;have CW:=V X2;have FN:=V X3;by_cases hfl:lo.y=hi.y;.first
  |exfalso;omega
  | skip;have s:=HR2.1;have hs:=HS.1;rw[AZ hfl]at s;rw[AX λe=>I]at hs;subst s hs;clear HR2 HS;have kx:IntKind.i64.wrap (max lo.x hi.x+1)=max lo.x hi.x+1:=Gz _ (by have:=qX.1;have:=qY.1;omega);have hB2:B<=W2.heap.size:=Du K M.1.size;have U:(T++[(⟨min lo.x hi.x,max lo.x hi.x+1⟩:Rn)]).length=T.length+1:=by simp
    have DN:=V U;clear U;obtain⟨BX,Bf,UL⟩:=X2.G7;go_wp2_with(at_builtin;refine FV _ rfl (.tmp 33) (.tmp 46) _ rfl (base:=B) Y9 XG Y8 rfl (Own.alloc XH.1.tkn.own _) rfl (l2:=[(⟨min lo.x hi.x,max lo.x hi.x+1⟩:Rn)]) (Sl.lit (n:=1) (AO.made rfl _ _) rfl<|DC I) DY DY D8 ?_;intro v3 w3 o c Kr;obtain⟨A3,c3,hv3,-⟩:=o.sl;rw[DN.1]at hv3;subst hv3;have HF:=V<|XH.1.adY hB2 c o;have RN:=AO.grown (CW.1.alloc _) c λe=>Own.ET XH.1.tkn.own CW.1 BI e.symm;clear o c Kr X2 BX Bf UL;obtain⟨jq,jr,jv⟩:=RN.G7);refine bodyPost_ret (results_none rfl _ _ _) rfl ⟨rfl,⟨_,_,by first|exact HF.1.1|(rw[I9];exact HF.1.1)⟩,(Jm.of K M.1).trans HF.1.2⟩
  have hH:0<hi.y-lo.y:=I;have s:=HR2.1;rw[AX hfl]at s;have HR3:=V s;have hcb:=aw6 (t:=y-lo.y) (d:=hi.x-lo.x) (H:=hi.y-lo.y) (D:=2097152) hH I I (by have:=qX.1;have:=qY.1;omega);have hrb:=alL (u:=y-lo.y) (v:=hi.x-lo.x) (by have:=qX.2;have:=qY.2;omega) (by have:=qX.1;have:=qY.1;omega);have hqb:=alL (u:=q) (v:=hi.y-lo.y) (by rw[Qa.1,HQ.1]at hcb;omega) (by have:=qX.2;have:=qY.2;omega);rw[Qa.1]at hcb hrb;rw[HQ.1]at hcb;have b1:=qX.1;have b2:=qY.1;have b3:=qX.2;have b4:=qY.2;have hbd:JG j:=by unfold JG;omega
  have hce:=λW=>aBW.1 j (hi.y-lo.y) W hbd hH;rw[HQ.1]at hce;have kP:=V hce;have hB2:B<=W2.heap.size:=Du K M.1.size;have kf:=DR<|lo.x+q;have kg:=DR<|lo.x+q+1;have KF:=V kf;have KG:=V kg;have ke:=DR<|q*(hi.y-lo.y);have KE:=V ke;have ka:=DR<|y-lo.y;have kb:=DR<|hi.x-lo.x;have kd:=DR<|hi.y-lo.y;have kc:IntKind.i64.wrap ((y-lo.y)*(hi.x-lo.x))=j:=by rw[Qa.1];exact Gz _ I
  clear s hcb hrb hqb hce hbd kf kg ke aBW HR2;go_upto_region 6 with fail;refine CZ W2 (.run 17 0 0<|.done) λCG QR Ae Aj hS=>?_;iterate 17 refine Ah ?_
  refine CX ?_;clear hS Aj Ae;intro hB;skip;clear ka kb kc kd;have ke:=KE.1;have kf:=KF.1;have kg:=KG.1;go_wp2_with fail;refine(kP.1 _).mono ?_;rintro e w4⟨rfl,hw4⟩;obtain⟨aC,N7,qZ,qc⟩:=D9 (XH.1.keep hB) (J M.1 hB) (Vu.1.keep hB)<|aBe.1.keep hB;have hBn:B<=W2.drew.heap.size:=Du hB2 hB.size;rw[hw4]at*;clear X1 Au Aw Y5 jT jU jV Y6 Y6l Y6a Y6b X2 X3 CW FN XH Vu aBe hB2;have XR:=aC.1.row;have XT:=aC.1.tkn.box;have Z5:=qZ.1;have Z6:=qc.1;have wU:=V XT;obtain⟨aBf,aBg,-⟩:=XR.G7;obtain⟨XTl,XTa,alM⟩:=XT.G7;obtain⟨Z5l,Z5a,Z5b,-⟩:=Z5.BL;obtain⟨Z6l,Z6a,Z6b,-⟩:=Z6.BL;rcases Decidable.em<|q*(hi.y-lo.y)=j with h3|h3;have s:=HR3.1;rw[AZ h3]at s;subst s;have U:(T++[(⟨lo.x+q,lo.x+q+1⟩:Rn)]).length=T.length+1:=by simp
  have DN:=V U;have kr:IntKind.i64.wrap j=j:=by rw[<-h3];exact ke
  clear U HR3;go_upto_region 10 with
   (at_builtin;refine FV _ rfl (.tmp 74) (.tmp 85) _ rfl (base:=B) Y9 XG Y8 rfl (Own.alloc aC.1.tkn.own _) rfl (l2:=[(⟨lo.x+q,lo.x+q+1⟩:Rn)]) (Sl.lit (n:=1) (AO.made rfl _ _) rfl<|DC I) DY DY D8 ?_;intro v3 w3 o c Kr;obtain⟨A3,c3,hv3,-⟩:=o.sl;rw[DN.1]at hv3;subst hv3;have HF:=V<|aC.1.adY hBn c o;have RN:=AO.grown (wU.1.alloc _) c λe=>Own.ET aC.1.tkn.own wU.1 BI e.symm;have HW5:=V<|(AO.grown (qZ.1.alloc _) c<|λe=>Own.ET aC.1.tkn.own qZ.1 BI e.symm).far (p:=⟨g2,0,none⟩) (AO.Nh qZ.1 wU.1 BI)<|.slice A3 (T.length+1) c3;have HW6:=V<|(AO.grown (qc.1.alloc _) c<|λe=>Own.ET aC.1.tkn.own qc.1 BI e.symm).far (p:=⟨g2,0,none⟩) (AO.Nh qc.1 wU.1 BI)<|.slice A3 (T.length+1) c3;clear o c Kr XT XTl XTa alM;try clear jq jr
    try clear jv
    obtain⟨jq,jr,jv⟩:=RN.G7);obtain⟨W5,IW⟩:=BR<|w3.setCell ⟨g2,0,none⟩<|.slice A3 (T.length+1) c3;have HQ:=V HF.1.1;have Vw:=V<|(Jm.of K N7.1).trans HF.1.2;rw[<-IW]at HQ Vw HW5 HW6⊢;clear IW HF RN jq jr jv aC N7 qZ qc wU XR aBf aBg Z5 Z5l Z5a Z5b Z6 Z6l Z6a Z6b hBn;rotate_left;have s:=HR3.1;rw[AX h3]at s;subst s;clear HR3;go_upto_region 10 with fail;obtain⟨W5,IW⟩:=BR w4;have HQ:=V (show V3 _ _ _ _ _ _ (T++[]) _ _ _ by rw[I9];exact aC.1);have Vw:=V<|Jm.of (g2:=g2) (g3:=g3) K N7.1;have HW5:=qZ;have HW6:=qc;rw[<-IW]at HQ Vw HW5 HW6⊢;clear IW aC N7 qZ qc wU XR aBf aBg XT XTl XTa alM Z5 Z5l Z5a Z5b Z6 Z6l Z6a Z6b hBn;all_goals
   have XR:=HQ.1.row;have Z5:=HW5.1;have Z6:=HW6.1;have XC:=HQ.1.Lu.box;have HXC:=V XC;have hB5:B<=W5.heap.size:=Du K Vw.1.size;have kf:=KF.1;try clear aBf aBg
   obtain⟨aBf,aBg,-⟩:=XR.G7;try clear Z5l Z5a Z5b
   obtain⟨Z5l,Z5a,Z5b,-⟩:=Z5.BL;try clear Z6l Z6a Z6b
   obtain⟨Z6l,Z6a,Z6b,-⟩:=Z6.BL;obtain⟨XCl,XCa,aw8⟩:=XC.G7;by_cases h4:y<hi.y
   .have hs:=HS.1;rw[AZ ⟨I,h4⟩]at hs;subst hs;have U:(C++[lo.x+q]).length=C.length+1:=by simp
    have DN:=V U;clear U HS;go_wp2_with
     (at_builtin;refine FV _ rfl (.tmp 91) (.tmp 96) _ rfl (base:=B) J3 IV J4 rfl (Own.alloc HQ.1.Lu.own _) rfl (l2:=[lo.x+q]) (Sl.lit (n:=1) (AO.made rfl _ _) rfl<|DC I) DY DY D8 ?_;intro v3 w3 o c Kr;obtain⟨A3,c3,hv3,-⟩:=o.sl;rw[DN.1]at hv3;subst hv3;have RN:=AO.grown (HXC.1.alloc _) c λe=>Own.ET HQ.1.Lu.own HXC.1 BI e.symm;have HF:=V<|HQ.1.aw4 hB5 c o (λe=>by have:=(HQ.1.Lu.own.lt g1 e).1;omega)<|Own.ET o RN BI;clear o c Kr XC XCl XCa aw8;try clear jq jr
      try clear jv
      obtain⟨jq,jr,jv⟩:=RN.G7);exact bodyPost_end (v:=.tuple #[]) (results_none rfl _ _ _) rfl ⟨rfl,⟨_,_,by first|exact HF.1.1|(have hf:=HF.1.1;simp only[I9]at hf;exact hf)⟩,Vw.1.trans HF.1.2⟩
   .have hs:=HS.1;rw[AX λe=>h4 e.2]at hs;subst hs;clear HS;go_wp2_with fail;exact bodyPost_end (v:=.tuple #[]) (results_none rfl _ _ _) rfl ⟨rfl,⟨_,_,by first|exact HQ.1|(have hf:=HQ.1;simp only[I9]at hf;exact hf)⟩,Vw.1⟩
