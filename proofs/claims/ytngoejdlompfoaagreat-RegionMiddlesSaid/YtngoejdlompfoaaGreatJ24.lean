import Derived.Test.YtngoejdlompfoaaGreatJ23
import Derived.Test.YtngoejdlompfoaaGreatLaySortAd
set_option linter.unusedSimpArgs false
set_option linter.unusedVariables false
set_option maxRecDepth 100000
set_option maxHeartbeats 8000000
namespace Go.Proofs.YtngoejdlompfoaaGreat
open Go.RowKit Tryz
theorem alN(l:List Rn):(Qo l).length<=l.length:=by have h:=aeL (nK l) (nK l).length;unfold PU at h;rw[Gu]at h;unfold Qo U9;have e:(nK l).length=l.length:=(rP l).1.length_eq;omega
def sliceLen:Value->Nat|.slice _ n _=>n|_=>0
def aBh(A:Option Addr)(N:List Rn)(s:Value)(j:Nat):Prop:=∃A' c,s=.slice A' (N.length-j) c/\N.length-j<=c/\c<=9223372036854775807/\∀g,A=some ⟨g,0,none⟩->j<N.length->A'=some ⟨g,j*2,none⟩
theorem aBh.next{A:Option Addr}{N:List Rn}{s j c:Nat}(z:A=some ⟨s,0,none⟩)(K:j<N.length)(M:N.length-j<=c)(C:c<=9223372036854775807):aBh A N (.slice (if c=1 then some ⟨s,j*2,none⟩else some ⟨s,j*2+2,none⟩) (N.length-j-1)<|c-1)<|j+1:=by refine⟨_,c-1,by rw[Nat.sub_sub],I,I,λg o hlt=>?_⟩;rw[AX I];rw[z]at o;injection o with o;injection o with o _ _;subst o;rw[Nat.add_mul,Nat.one_mul]
theorem drop_step{N:List Rn}{j:Nat}{lo:Int}(c:j<N.length)(h:N[j].hi<=lo):OA lo (N.drop j)=OA lo (N.drop<|j+1):=by rw[Ql c];unfold OA;rw[lC,AZ<|by simpa using h]
theorem aw9{N:List Rn}{j:Nat}{lo:Int}(c:j<N.length)(h:¬N[j].hi<=lo):OA lo (N.drop j)=N.drop j:=by rw[Ql c];unfold OA;rw[lC,AX<|by simpa using h]
theorem awC{N:List Rn}{lo:Int}{j:Nat}(h:N.length<=j):OA lo (N.drop j)=N.drop j:=by rw[aFz h];rfl
theorem alO{N:List Rn}{j:Nat}{lo hi:Int}(c:j<N.length)(h:N[j].lo<hi):QK hi lo (N.drop j)=Jq lo N[j].lo++QK hi N[j].hi (N.drop<|j+1):=by rw[Ql c,QK,AZ h]
theorem akc{N:List Rn}{j:Nat}{lo hi:Int}(c:j<N.length)(h:¬N[j].lo<hi):QK hi lo (N.drop j)=Jq lo hi:=by rw[Ql c];unfold QK;rw[AX h]
theorem awD{N:List Rn}{lo hi:Int}{j:Nat}(h:N.length<=j):QK hi lo (N.drop j)=Jq lo hi:=by rw[aFz h];rfl
theorem akd{j z:World}{B C o Ba Bb:Nat}{L M N:List Rn}{v v2 K T:Value}{t:TypeId}{cs:Array Value}(U:ZQ j B C L v)(hk:Yu j z C v.ownBlock)(hat:NewAt j v v2)(h7:v.ownBlock≠some o)(X7:AO j o t cs)(hne:o≠C)(hm:Own j Ba 134 2 GZ K M)(hmk:∀q,K.ownBlock=some q->q<B)(hn:Own j Bb 134 2 GZ T N)(hnk:∀q,T.ownBlock=some q->q<B):AO z o t cs/\v2.ownBlock≠some o/\Own z Ba 134 2 GZ K M/\Own z Bb 134 2 GZ T N:=by
 have s:∀{c:Value},(∀q,c.ownBlock=some q->q<B)->∀k,c.ownBlock=some k->v.ownBlock≠some k:=λhV k e e2=>by have h1:=hV k e;have h2:=(U.own.lt k e2).1;omega
 refine⟨hk.keep X7 hne h7,λe=>?_,hk.own hm (Own.ET hm U.box BI)<|s hmk,hk.own hn (Own.ET hn U.box BI)<|s hnk⟩;rcases hat with h|⟨k,h,h2⟩;.exact h7<|h.symm.trans e
 rw[h]at e;injection e with e;have:=X7.lt;omega
theorem ake(lo hi:Int):(Jq lo hi).length<=1:=by unfold Jq;split<;>simp
theorem avc{M N:List Rn}{k j c:Nat}(hk:k<M.length)(h:OA M[k].lo (N.drop j)=N.drop c):Ot (M.drop k) (N.drop j)=QK M[k].hi M[k].lo (N.drop c)++Ot (M.drop<|k+1) (N.drop c):=by rw[Ql hk,Ot,h]
theorem avd:∀w,(isAgg 137).run prog w=.ok false w:=λ_=>by kernel_rfl
theorem ave(va vb:Value)(a b:List Rn)(w:World)(ha:aB w va a)(hb:aB w vb b)(hla:a.length<=50000)(hlb:b.length<=50000):Calls prog 211 #[va,vb] w<|aeK w<|Ot (Qo a)<|Qo b:=by
 obtain⟨Za,ah,NR⟩:=CB (λW(hW:AU w W)=>alB va a W (ha.mono hW) I) (λW(hW:AU w W)=>alB vb b W (hb.mono hW) I) @aw2;have hlm:=alN a;have hln:=alN b;obtain⟨M,hM⟩:=BM<|Qo a;obtain⟨N,hN⟩:=BM<|Qo b;rw[hM]at Za hlm⊢;rw[hN]at ah hln⊢;have hml:M.length<=50000:=I;have hnl:N.length<=50000:=I;clear ha hb hlm hln hM hN hla hlb;go_enter func211,ntmps211;go_upto_region 1 with fail;obtain⟨W1,hW⟩:=BR<|w.alloc<|.cells #[.slice none 0 0] 137;have X1:AO W1 w.heap.size 137 #[.slice none 0 0]:=by rw[hW];exact AO.made rfl _ _
 have HB1:=V (show AU w W1 by rw[hW];exact bA (bR w) _);rw[<-hW];clear hW;have DU:=V X1;go_wp2_with fail;refine(ah.1 _ HB1.1).mono ?_;rintro e w2⟨Ab,cb,rfl,hob,hb2⟩;obtain⟨CW,HB2,HOb⟩:=CB (DU.1.keep hb2) (J HB1.1 hb2) hob;clear hob hb2 DU X1 HB1 ah;go_wp2_with fail;refine(Za.1 _ HB2.1).mono ?_;rintro e w3⟨Aa,ca,rfl,hoa,hb3⟩;obtain⟨FN,HB3,HOa,adZ⟩:=D9 (CW.1.keep hb3) (J HB2.1 hb3) hoa<|HOb.1.keep hb3;obtain⟨g4,hg4⟩:=BM w.heap.size;have hx3:=FN.1.lt;clear hoa hb3 CW HB2 HOb Za;go_upto_block 0 with fail;go_wp2_with fail;have hg0:g4<w3.heap.size:=I;rw[hg4]at FN;have KI:=V λq hq=>(adZ.1.lt q hq).2;have YE:=V λq hq=>(HOa.1.lt q hq).2;go_loopw[1,16](λs i wr=>∃(k j:Nat)(L:List Rn)(v:Value),k<=M.length/\i=.int .i64 k/\j<=N.length/\aBh Ab N s j/\Ot M N=L++Ot (M.drop k) (N.drop j)/\L.length<=50002*k/\ZQ wr w3.heap.size g4 L v/\Own wr w2.heap.size 134 2 GZ (.slice Aa M.length ca) M/\Own wr W1.heap.size 134 2 GZ (.slice Ab N.length cb) N/\AU w wr/\w3.heap.size<=wr.heap.size)λ_ i _=>M.length-(intOf i).toNat;case atStart=>refine⟨0,0,[],.slice none 0 0,C9 _,rfl,C9 _,?_,rfl,C9 _,⟨FN.1,Own.nil _ _ _ _ _⟩,HOa.1,adZ.1,HB3.1,Dh _⟩;obtain⟨A',c',he,h1,h2,-⟩:=adZ.1.sl;injection he with q1 q2 q3;subst q1 q3;unfold maxLen at h2;exact⟨Ab,cb,rfl,I,I,λg hg _=>by rw[hg,yK]⟩
 obtain⟨k,j,L,v,hk,rfl,hj,⟨A1,c1,rfl,hc1,hc2,hA1⟩,hdf,hLl,hbx,Zg,hon,hb,hz⟩:=hrel;obtain⟨wo,rfl⟩:=BR wr;obtain⟨qB,KL,Tm,II,Hb,HA1⟩:=Lp hdf hbx Zg hon hb hA1;clear hdf hbx Zg hon hb hA1;by_cases hlt:k<M.length
 .obtain⟨ga,XI,-,avf,-,T⟩:=Own.qU Tm.1 I;subst XI;obtain⟨c0,d0⟩:=T k hlt;have uz:=V λo(h:OA M[k].lo (N.drop j)=N.drop o)=>avc hlt h;generalize M[k]=r at*;obtain⟨XJ,QB⟩:=r;simp only at c0 d0;have qL:(k:Int)<M.length:=I;have qM:0<=(k:Int):=I;clear T;go_upto_block 2 with fail;obtain⟨W5,hW⟩:∃W:World,W=wo.alloc (.cells #[.int .i64 XJ,.int .i64 QB] 134):=⟨_,rfl⟩;obtain⟨g7,GR⟩:=BM wo.heap.size;have X7:AO W5 g7 134 #[.int .i64 XJ,.int .i64 QB]:=by rw[hW];exact AO.made GR.symm _ _
  have hA:AU wo W5:=by rw[hW];exact bA (bR wo) _
  obtain⟨akf,akg,ada,Hb5,hv7,Jg⟩:=Lp (KL.1.keep hA) (Tm.1.keep hA) (II.1.keep hA) (J Hb.1 hA) (show v.ownBlock≠some g7 fromλe=>by have:=(KL.1.own.lt g7 e).2;omega) X7;have QU:wo.heap.size<=W5.heap.size:=hA.size;rw[<-hW];try rw[GR]
  clear hW hA c0 d0 avf KL Tm II Hb X7;go_wp2_with fail;go_loopw[1](λs wr=>∃o:Nat,o<=N.length/\aBh Ab N s o/\OA XJ (N.drop j)=OA XJ (N.drop o)/\AU W5 wr)λs _=>sliceLen s;case atStart=>exact⟨j,hj,⟨A1,c1,rfl,hc1,hc2,HA1.1⟩,rfl,bR W5⟩
  clear HA1 hj;obtain⟨o,hj',⟨A2,c2,rfl,hc3,hc4,hA2⟩,hdr,hb5⟩:=hrel;obtain⟨wm,rfl⟩:=BR wr;obtain⟨TQ,HA2,RI⟩:=CB hdr hA2 hb5;clear hdr hA2 hb5;rcases aCi o N.length with hjt|hjt;obtain⟨gb,Uz,-,akh,-,T⟩:=Own.qU (ada.1.keep RI.1) I;have hA3:=HA2.1 gb Uz hjt;subst hA3;obtain⟨c0,d0⟩:=T o hjt;have Ce:=V λh=>drop_step (lo:=XJ) hjt h;have Me:=V λh=>aw9 (lo:=XJ) hjt h;have hX:=Jg.1.keep RI.1;have hx7:=hX.lt;have aC5:0<N.length-o:=I;generalize N[o]=n at*;obtain⟨nlo,nhi⟩:=n;simp only at c0 d0;clear T;obtain⟨hXl,hXa,hXb,-⟩:=hX.BL;by_cases hle:nhi<=XJ
  .have HE:=V<|TQ.1.trans<|Ce.1 hle;have U6:=V<|aBh.next (A:=Ab) Uz hjt hc3 hc4;clear Ce Me TQ uz;go_upto_region 6 with fail;refine CZ wm (.run 12 0 0<|.done) λCG QR Ae Aj hS=>?_;iterate 4 refine Ah ?_
   iterate 7 refine DT ?_
   refine Ah ?_;refine CX ?_;clear hS Aj Ae;intro C;go_wp2;go_roundw;case rel=>exact⟨o+1,I,U6.1,HE.1,J RI.1 C⟩
   simp[sliceLen];omega
  have HE:=V<|TQ.1.trans<|Me.1 hle;clear Ce Me TQ Uz;go_upto_region 6 with fail;refine CZ wm (.run 12 0 0<|.done) λCG QR Ae Aj hS=>?_;iterate 4 refine Ah ?_
  iterate 7 refine DT ?_
  refine Ah ?_;refine CX ?_;clear hS Aj Ae;intro C;go_wp2_with fail;obtain⟨A2,hAg⟩:∃A2:Option Addr,(some ⟨gb,o*2,none⟩:Option Addr)=A2:=⟨_,rfl⟩;rw[hAg]at HA2⊢;clear hAg c0 d0 hX hXl hXa hXb;have wO:o<=N.length:=hj';rotate_left;have hX:=Jg.1.keep RI.1;have hx7:=hX.lt;have HE:=V<|show OA XJ (N.drop j)=N.drop o from TQ.1.trans<|awC hjt;have aC5:¬0<N.length-o:=I;have kk9:¬o<N.length:=I;clear TQ;try clear hXl hXa hXb
  obtain⟨hXl,hXa,hXb,-⟩:=hX.BL;go_upto_region 6 with fail;refine CZ wm (.run 12 0 0<|.done) λCG QR Ae Aj hS=>?_;iterate 4 refine Ah ?_
  iterate 7 refine Iu ?_
  refine Ah ?_;refine CX ?_;clear hS Aj Ae;intro C;go_wp2_with fail;clear hX hXl hXa hXb;have wO:o<=N.length:=hj';all_goals
   obtain⟨aki,akj,akk,Hb6,adb⟩:=G9 ((akf.1.keep RI.1).keep C) ((akg.1.keep RI.1).keep C) ((ada.1.keep RI.1).keep C) (J (J Hb5.1 RI.1) C)<|(Jg.1.keep RI.1).keep C;have oz:w3.heap.size<=wm.drew.heap.size:=by have h1:=C.size;have h2:=RI.1.size;omega
   have h76:=adb.1.lt;have HCu:=V<|uz.1 o HE.1;have akl:g7≠g4:=I;clear HE uz akf akg ada Hb5 Jg C RI aC5 hjt hx7;generalize wm.drew=wn at*;go_loopw[8,9](λz i wr=>∃(n:Nat)(lo:Int)(U:List Rn)(v2:Value),o+n<=N.length/\i=.int .i64 n/\z=.int .i64 lo/\QK QB XJ (N.drop o)=U++QK QB lo (N.drop<|o+n)/\U.length<=n/\ZQ wr w3.heap.size g4 (L++U) v2/\v2.ownBlock≠some g7/\AO wr g7 134 #[.int .i64 XJ,.int .i64 QB]/\Own wr w2.heap.size 134 2 GZ (.slice (some ⟨ga,0,none⟩) M.length ca) M/\Own wr W1.heap.size 134 2 GZ (.slice Ab N.length cb) N/\AU w wr/\wn.heap.size<=wr.heap.size)λ_ i _=>N.length+1-(intOf i).toNat;case atStart=>exact⟨0,XJ,[],v,wO,rfl,rfl,rfl,C9 _,by rw[I9];exact aki.1,hv7.1,adb.1,akj.1,akk.1,Hb6.1,Dh _⟩
   case round=>
    clear aki akj akk Hb6 adb hv7;obtain⟨n,lo,U,v2,hn,rfl,rfl,hcu,hal,hbx,h27,X7,Zg,hon,hb,hz⟩:=hrel;obtain⟨wp,rfl⟩:=BR wr;obtain⟨HCt,KL,H27,Jg,Tm,II,Hb⟩:=V9 hcu hbx h27 X7 Zg hon hb;have hzp:w3.heap.size<=wp.heap.size:=I;have hll:(L++U).length<=2600000000:=by rw[EK];have:50002*k<=50002*50000:=Nat.mul_le_mul_left _ I;omega
    clear hcu hbx h27 Zg hon hb;rcases show((∃K:o+n<N.length,N[o+n].lo<QB)\/∃K:o+n<N.length,¬N[o+n].lo<QB)\/N.length<=o+n from by
     by_cases h1:o+n<N.length
     .by_cases h2:N[o+n].lo<QB;.exact .inl<|.inl ⟨h1,h2⟩
      exact .inl<|.inr ⟨h1,h2⟩
     exact .inr I with(⟨K,hle⟩|⟨K,hle⟩)|K;.first
    |exfalso;omega
    | skip;obtain⟨gb,Uz,-,akh,-,T⟩:=Own.qU II.1 I;have hA3:=HA2.1 gb Uz I;subst hA3;have qg:=V Uz;clear Uz;obtain⟨c0,d0⟩:=T (o+n) K;have Ce:=V λh=>alO (lo:=lo) (hi:=QB) K h;have Me:=V λh=>akc (lo:=lo) (hi:=QB) K h;have ke:(o+n)*2=o*2+n*2:=I;rw[ke]at c0 d0;have kk5:(n:Int)<(N.length-o:Nat):=I;have kk6:n<N.length-o:=I;have kk7:0<=(n:Int):=I;obtain⟨m,hm⟩:=BM N[o+n];rw[hm]at c0 d0 Ce Me hle;have SS:=V hm;clear hm;obtain⟨nlo,nhi⟩:=m;simp only at c0 d0 hle;clear T ke;obtain⟨Ec,Ee,Fg,-⟩:=X7.BL;have HE:=V<|Ce.1 hle;clear Ce Me;go_upto_region 10 with fail;refine CZ wp (.run 14 0 0<|.done) λCG QR Ae Aj hS=>?_;iterate 5 refine Ah ?_
      iterate 8 refine DT ?_
      refine Ah ?_;refine CX ?_;clear hS Aj Ae;intro C;go_wp2_with fail;have hx6:=KL.1.keep C;have aBi:=Tm.1.keep C;have aBj:=II.1.keep C;have aBk:=Jg.1.keep C;have hb6:=J Hb.1 C;have avg:=C.size;refine(NR.1 lo nlo w3.heap.size g4 (L++U) v2 _ hx6 I I).mono ?_;rintro e w7⟨rfl,⟨v7,hx7,Tj⟩,pU,hb7⟩;obtain⟨q1,q2,q3,q4⟩:=akd hx6 pU Tj H27.1 aBk akl aBi YE.1 aBj KI.1;obtain⟨Hx7,avh,HV7,ade,aFD,Hb7⟩:=Lp hx7 q1 q2 q3 q4<|hb7 w hb6 I I;have hz7:=pU.size;clear hx6 aBi aBj aBk hb6 hx7 Tj pU hb7 q2 q3 q4 c0 d0 X7 Ec Ee Fg C KL Tm II Jg Hb;obtain⟨gb',wV,-,ayp,-,akm⟩:=Own.qU aFD.1 I;rw[qg.1]at wV;injection wV with wV;injection wV with wV _ _;subst wV;obtain⟨-,d1⟩:=akm (o+n) K;rw[SS.1,show(o+n)*2=o*2+n*2 by omega]at d1;simp only at d1;have HC7:=V (show QK QB XJ (N.drop o)=U++Jq lo nlo++QK QB nhi (N.drop<|o+(n+1))by rw[HCt.1,HE.1,Jv];rfl);have hl7:=ake lo nlo;clear akm HE HCt qg;go_wp2;go_roundw;case rel=>exact⟨n+1,nhi,U++Jq lo nlo,v7,I,BH,rfl,HC7.1,by rw[EK];omega,by rw[<-Jv];exact Hx7.1,HV7.1,avh.1,ade.1,aFD.1,Hb7.1,I⟩
      case measure=>exact BJ
    case' inl.inr=>first
    |exfalso;omega
    | skip;obtain⟨gb,Uz,-,akh,-,T⟩:=Own.qU II.1 I;have hA3:=HA2.1 gb Uz I;subst hA3;obtain⟨c0,d0⟩:=T (o+n) K;have Ce:=V λh=>alO (lo:=lo) (hi:=QB) K h;have Me:=V λh=>akc (lo:=lo) (hi:=QB) K h;have ke:(o+n)*2=o*2+n*2:=I;rw[ke]at c0 d0;have kk5:(n:Int)<(N.length-o:Nat):=I;have kk6:n<N.length-o:=I;have kk7:0<=(n:Int):=I;obtain⟨m,hm⟩:=BM N[o+n];rw[hm]at c0 d0 Ce Me hle;have SS:=V hm;clear hm;obtain⟨nlo,nhi⟩:=m;simp only at c0 d0 hle;clear T ke;try clear Ec Ee Fg
      obtain⟨Ec,Ee,Fg,-⟩:=X7.BL;have HE:=V<|HCt.1.trans (by rw[Me.1 hle]);clear Ce Me SS Uz;go_upto_region 10 with fail;refine CZ wp (.run 14 0 0<|.done) λCG QR Ae Aj hS=>?_;iterate 5 refine Ah ?_
      iterate 8 refine DT ?_
      refine Ah ?_;refine CX ?_;clear hS Aj Ae;intro C;go_wp2_with fail
    rotate_left;have HE:=V<|HCt.1.trans (by rw[awD (lo:=lo) (hi:=QB) K]);have kk6:¬n<N.length-o:=I;have kk8:¬(n:Int)<(N.length-o:Nat):=I;try clear Ec Ee Fg
    obtain⟨Ec,Ee,Fg,-⟩:=X7.BL;go_upto_region 10 with fail;refine CZ wp (.run 14 0 0<|.done) λCG QR Ae Aj hS=>?_;iterate 5 refine Ah ?_
    iterate 8 refine Iu ?_
    refine Ah ?_;refine CX ?_;clear hS Aj Ae;intro C;go_wp2_with fail;all_goals
     have hx6:=KL.1.keep C;have aBi:=Tm.1.keep C;have aBj:=II.1.keep C;have aBk:=Jg.1.keep C;have hb6:=J Hb.1 C;have avg:=C.size;refine(NR.1 lo QB w3.heap.size g4 (L++U) v2 _ hx6 I I).mono ?_;rintro e w7⟨rfl,⟨v7,hx7,Tj⟩,pU,hb7⟩;obtain⟨-,-,q3,q4⟩:=akd hx6 pU Tj H27.1 aBk akl aBi YE.1 aBj KI.1;obtain⟨Hx7,ade,aFD,Hb7⟩:=D9 hx7 q3 q4<|hb7 w hb6 I I;have hz7:=pU.size;have avi:=V (show Ot M N=L++U++Jq lo QB++Ot (M.drop<|k+1) (N.drop o)by
      have e1:=HCu.1;try simp only at e1
      rw[qB.1,e1,HE.1];simp only[Jv]);have hl7:=ake lo QB;clear hx6 aBi aBj aBk hb6 hx7 Tj pU hb7 q3 q4 X7 C KL Tm II Jg Hb qB HCu HE;go_wp2;go_roundw;case rel=>exact⟨k+1,o,L++U++Jq lo QB,v7,I,BH,wO,⟨_,c2,rfl,hc3,hc4,HA2.1⟩,avi.1,by rw[EK,EK];omega,Hx7.1,ade.1,aFD.1,Hb7.1,I⟩
     case measure=>exact BJ
 obtain rfl:k=M.length:=I;have hd:=qB.1;rw[aCf]at hd;have he:Ot M N=L:=by rw[hd];simp[Ot]
 clear hd;obtain⟨A,c,rfl,-⟩:=Own.sl KL.1.own;have X4:=KL.1.box;have HE:=V he;clear he;obtain⟨Bg,Bq,DX⟩:=X4.G7;go_wp2_with fail;refine ad5 (g:=g4) (v:=.slice A L.length c) rfl avd rfl rfl (AO.aDA X4) ?_;rw[HE.1];refine⟨A,c,rfl,?_,bS (p:=⟨g4,0,none⟩) Hb.1 (show w.heap.size<=g4 by omega) _⟩;have ho:=KL.1.own.far (p:=⟨g4,0,none⟩) (Own.ET KL.1.own KL.1.box BI)<|.slice A L.length c;exact ho.EN I
def QC(B g:Nat)(w0:World):World->Prop:=λw=>Below B w0 w/\w.heap[g]?=w0.heap[g]?
section
variable{B g:Nat}{W w w':World}
theorem akn(h:QC B g W w):(∀b o,b<B->w.cell? ⟨b,o,none⟩=W.cell? ⟨b,o,none⟩)/\∀o,w.cell? ⟨g,o,none⟩=W.cell? ⟨g,o,none⟩:=⟨(aaH h.1).1,λo=>by simp only[World.cell?,h.2]⟩
theorem kR(W:World):QC B g W W.drew:=⟨Below.drew<|Below.refl _ _,rfl⟩
theorem kA(h:QC B g W w)(c:B<=W.heap.size)(j:g<W.heap.size)(o:Obj):QC B g W<|w.alloc o:=⟨h.1.alloc (Du c h.1.size) o,by rw[Below.heap_alloc w o g<|IQ j h.1.size];exact h.2⟩
theorem kC(h:QC B g W w)(k:AU w w')(c:B<=W.heap.size)(j:g<W.heap.size):QC B g W w':=⟨h.1.trans<|k.mono<|Du c h.1.size,(k.block g<|IQ j h.1.size).trans h.2⟩
theorem kG(h:QC B g W w){row:Option Nat}(k:w.grownBy w' row)(c:∀q,row=some q->B<=q)(hn:some g≠row)(j:B<=W.heap.size)(o:g<W.heap.size):QC B g W w':=⟨h.1.grown k (Du j h.1.size) c,(k.block g (IQ o h.1.size) hn).trans h.2⟩
theorem kS(h:QC B g W w){p:Addr}(c:B<=p.block)(hn:g≠p.block)(u:Value):QC B g W<|w.setCell p u:=⟨h.1.setCell c u,(Below.heap_setCell w p u g hn).trans h.2⟩
end
section
variable{P:Program}{ops:Array Oper}{Q:Exit->Act->World->Prop}
theorem wW{l:List Oper}{i m:Nat}{oi:Oper}{r:JV}{a:Act}{w W:World}{B g:Nat}{v:Value}(H:PLift<|ops=l.toArray)(hi:l[i]?=some oi)(hS:QC B g W w)(s:oi.guard=none)(z:∀c:World,(∀b o,b<B->c.cell? ⟨b,o,none⟩=W.cell? ⟨b,o,none⟩)->(∀o,c.cell? ⟨g,o,none⟩=W.cell? ⟨g,o,none⟩)->(execOp a.eval oi).run P c=.ok (.value v) c)(h:JH P ops (NoPanic Q) (QC B g W) r (a.put oi.dst v) w):JH P ops (NoPanic Q) (QC B g W) (.take i m r) a w:=afP H hi hS s (λc j=>z c (akn j).1 (akn j).2) h
end
def avj(w:World)(l:List Nd)(e:Ending)(w':World):Prop:=∃A c,e=.returned (.slice A l.length c)/\AU w w'/\Own w' w.heap.size 56 3 UO (.slice A l.length c) l
theorem avk(v:Value)(l:List Nd)(w:World)(h:Xq w v l)(hl:l.length<=1048576):Calls prog 117 #[v] w<|avj w l:=by
 have H:=h;obtain⟨A,c,rfl,hn,hc,s⟩:=h;have K:=Lib.run_eql_slice_nil (P:=prog) (t:=22) (e:=56);rcases A with _|ad
 .have z:l=[]:=by
   rcases l with _|⟨a,l⟩;.rfl
   obtain⟨b,o,e,_⟩:=s (by simp[UO]);cases e
  subst z;clear s H;simp only[Nb]at hn⊢;have C:∀W:World,(binOp .eql 22 (.slice none 0 c)<|.slice none 0 0).run prog W=.ok (.bool true) W:=λW=>Lib.run_eql_slice_nil W _ 56 none _ c 0 0 Tryz.underlying22;clear K;go_enter func117,ntmps117;go_wp2;go_ret;exact⟨_,_,rfl,bR w,Own.nil _ _ _ _ _⟩
 have C:∀W:World,(binOp .eql 22 (.slice (some ad) l.length c)<|.slice none 0 0).run prog W=.ok (.bool false) W:=λW=>Lib.run_eql_slice_nil W _ 56 (some ad) _ c 0 0 Tryz.underlying22;clear K s;have M:=V H;clear H;go_enter func117,ntmps117;go_wp2_with(at_builtin;refine FV _ rfl (.tmp 5) (.tmp 6) _ rfl (base:=w.heap.size) afK aaN afL rfl (Own.lit _ _ _ _ UO [] _ 0 _ rfl rfl (Dh _) (DC I) rfl rfl) rfl (M.1.mono<|bA (bR w) _) aK aK Ak ?_;intro v1 w1 j T U);go_ret;obtain⟨A1,c1,rfl,-⟩:=Own.sl j;simp only[Rj]at j⊢;exact⟨A1,c1,rfl,bG (bA (bR w) _) T λk hk=>by have:w.heap.size=k:=Dn hk;omega,j⟩
def V4(a:Ar):Ar:=⟨a.id,a.fr,a.dst,a.via,0,0⟩
def Dz(p:Pl):Pl:=⟨p.nodes,p.AP.map V4,[]⟩
structure J7(w:World)(B:Nat)(vn va vf:Value)(p:Pl)(bl:List<|Ar×SV):Prop where
 SL:Own w B 56 3 UO vn p.nodes
 Iw:Own w B 31 6 bn va bl
 O6:∀x∈bl,Own w B 50 2 Ep (BO x.2) x.1.via
 eq:bl.map (·.1)=p.AP
 OY:Own w B 3 1 DF vf p.faces
theorem J7.keep{w w':World}{B:Nat}{c j o:Value}{p:Pl}{s:List<|Ar×SV}(h:J7 w B c j o p s)(hb:AU w w'):J7 w' B c j o p s:=⟨h.SL.keep hb,h.Iw.keep hb,λx z=>(h.O6 x z).keep hb,h.eq,h.OY.keep hb⟩
theorem J7.plv{w:World}{B:Nat}{c j o:Value}{p:Pl}{s:List<|Ar×SV}(h:J7 w B c j o p s):Cj w (.agg #[c,j,o]) p:=by
 refine⟨c,j,o,s.map aAZ,rfl,?_,h.SL.sl,⟨?_,λk hk=>?_⟩,h.OY.sl⟩;.rw[KP,<-h.eq];rfl
 .have:=h.Iw.sl;rw[D6,ahV];exact this
 have z:k<s.length:=by simpa using hk
 rw[Ib];exact(h.O6 _<|BG z).sl
def avl(w:World)(p:Pl)(e:Ending)(w':World):Prop:=∃An cn Aa ca bl,e=.returned (.agg #[.slice An p.nodes.length cn,.slice Aa p.AP.length ca,.slice none 0 0])/\AU w w'/\J7 w' w.heap.size (.slice An p.nodes.length cn) (.slice Aa p.AP.length ca) (.slice none 0 0) p bl
theorem J7.more{w w1:World}{B:Nat}{z C j K:Value}{p:Pl}{s:List<|Ar×SV}{x:Ar×SV}(h:J7 w B z C K p s)(ho:Own w1 B 31 6 bn j<|s++[x])(o:w.grownBy w1 C.ownBlock)(M:Own w B 50 2 Ep (BO x.2) x.1.via):J7 w1 B z j K ⟨p.nodes,p.AP++[x.1],p.faces⟩<|s++[x]:=⟨Own.grown h.SL o<|Own.apart h.SL h.Iw BI,ho,λy c=>by
  rcases F9.1 c with c|c;.exact Own.grown (h.O6 y c) o<|Own.apart (h.O6 y c) h.Iw BI
  rw[EJ]at c;subst c;exact Own.grown M o<|Own.apart M h.Iw BI,by rw[Gt,h.eq];rfl,Own.grown h.OY o<|Own.apart h.OY h.Iw BI⟩
theorem J7.far{w:World}{B:Nat}{c o s:Value}{p:Pl}{z:List<|Ar×SV}(h:J7 w B c o s p z){g:Nat}{t:TypeId}{cs:Array Value}(hb:AO w g t cs)(h1:56≠t)(h2:31≠t)(h3:50≠t)(K:3≠t)(j:Nat)(u:Value):J7 (w.setCell ⟨g,j,none⟩ u) B c o s p z:=⟨Own.far h.SL (Own.ET h.SL hb h1) u,Own.far h.Iw (Own.ET h.Iw hb h2) u,λx C=>Own.far (h.O6 x C) (Own.ET (h.O6 x C) hb h3) u,h.eq,Own.far h.OY (Own.ET h.OY hb K) u⟩
theorem Row.at6{w:World}{A:Option Addr}{l:List<|Ar×SV}(h:Row w A<|l.flatMap bn){k:Nat}(hk:k<l.length):∃b o,A=some ⟨b,o,none⟩/\b<w.heap.size/\w.cell? ⟨b,o+k*6,none⟩=some (.int .i64 l[k].1.id)/\w.cell? ⟨b,o+k*6+1,none⟩=some (.int .i64 l[k].1.fr)/\w.cell? ⟨b,o+k*6+2,none⟩=some (.int .i64 l[k].1.dst)/\w.cell? ⟨b,o+k*6+3,none⟩=some (.slice l[k].2.a l[k].2.n l[k].2.c)/\w.cell? ⟨b,o+k*6+4,none⟩=some (.int .i64 l[k].1.left)/\w.cell? ⟨b,o+k*6+5,none⟩=some (.int .i64 l[k].1.right):=by obtain⟨b,o,s,hb,j⟩:=h.at_ (n:=6) (λ_=>rfl) hk I;exact⟨b,o,s,hb,j 0 _ rfl,j 1 _ rfl,j 2 _ rfl,j 3 _ rfl,j 4 _ rfl,j 5 _ rfl⟩
theorem axF(v:Value)(p:Pl)(w:World)(h:Cj w v p)(hn:p.nodes.length<=100000)(ha:p.AP.length<=100000)(hvl:∀a∈p.AP,a.via.length<=100000):Calls prog 74 #[v] w<|avl w<|Dz p:=by
 obtain⟨_,_,_,al,rfl,hpa,hN,⟨⟨Aa,ca,rfl,ha1,ha2,G6⟩,hV⟩,⟨Af,cf,rfl,-⟩⟩:=h;obtain⟨C,rfl⟩:=hV.sv;have hres:p.AP=C.map (·.1):=by rw[hpa,KP];rfl
 have hbl:C.length<=100000:=by rw[hres,D6]at ha;exact ha
 rw[D6]at ha1;rw[ahV]at G6;have HVk:=V (show∀k(hk:k<C.length),EL w (.slice C[k].2.a C[k].2.n C[k].2.c) C[k].1.via fromλk hk=>by have:=hV k (by simpa using hk);simpa[aAZ]using this);obtain⟨HVl,IU,HCn,oG⟩:=D9 (show∀k(hk:k<C.length),C[k].1.via.length<=100000 fromλk hk=>hvl _<|by rw[hres];exact H6<|BG hk) (show Row w Aa<|C.flatMap bn from G6) (λW(hW:AU w W)=>avk _ p.nodes W (hN.mono hW) I) λu l W(hu:EL W u l)(hl:l.length<=1048576)=>afC u l W hu hl;obtain⟨An,cn,rfl,hn1,hn2,-⟩:=hN;have ako:=V hres;rw[D6]at*;unfold maxLen at ha2 hn2;clear hV G6 hpa hres hvl;generalize p.faces.length=nf at*;go_enter func74,ntmps74;go_upto_region 1 with fail;obtain⟨g2,hg2⟩:=BM<|w.heap.size+1;obtain⟨W1,hW⟩:∃W:World,W=(w.alloc<|.cells #[.slice An p.nodes.length cn,.slice Aa C.length ca,.slice Af nf cf] 26).alloc (.cells #[.slice none 0 0,.slice none 0 0,.slice none 0 0] 26):=⟨_,rfl⟩;have X1:AO W1 w.heap.size 26 #[.slice An p.nodes.length cn,.slice Aa C.length ca,.slice Af nf cf]:=by rw[hW];exact(AO.made rfl _ _).alloc _
 have X2:AO W1 g2 26 #[.slice none 0 0,.slice none 0 0,.slice none 0 0]:=by rw[hW];exact AO.made (by rw[<-hg2];simp) _ _
 have HB1:=V (show AU w W1 by rw[hW];exact bA (bA (bR w) _) _);rw[<-hW];try rw[hg2]
 have DU:=V X1;have CW:=V X2;have n12:¬g2=w.heap.size:=I;have hgw:w.heap.size<=g2:=I;clear hW hg2;obtain⟨Au,Aw,Az,BA,-⟩:=X1.BF;obtain⟨BX,Bf,Bh,CS,UL,WS,aF⟩:=X2.BF;go_wp2_with fail;refine(HCn.1 _ HB1.1).mono ?_;rintro e w2⟨NC,ND,rfl,hb2,hon⟩;obtain⟨HB2,FN,D7⟩:=CB (J HB1.1 hb2) (DU.1.keep hb2)<|CW.1.keep hb2;have aBM:=hon.EN (b':=w.heap.size) HB1.1.size;have Yj:=V<|show J7 w2 w.heap.size (.slice NC p.nodes.length ND) (.slice none 0 0) (.slice none 0 0) ⟨p.nodes,[],[]⟩ []from⟨aBM,Own.nil _ _ _ _ _,(λx hx=>by cases hx),rfl,Own.nil _ _ _ _ _⟩;clear hb2 hon aBM HCn X1 Au Aw Az BA X2 BX Bf Bh CS UL WS aF;have X3:=FN.1;have X4:=D7.1;obtain⟨E5,Em,Ew,MV,-⟩:=X3.BF;obtain⟨Bg,Bq,CP,Fe,DX,EU,JI⟩:=X4.BF;go_wp2_with fail;go_loopw[12](λi wr=>∃(k:Nat)(ol:List<|Ar×SV)(A:Option Addr)(c:Nat),k<=C.length/\i=.int .i64 k/\ol.length=k/\J7 wr w.heap.size (.slice NC p.nodes.length ND) (.slice A k c) (.slice none 0 0) ⟨p.nodes,(C.take k).map<|λx=>V4 x.1,[]⟩ ol/\AO wr g2 26 #[.slice NC p.nodes.length ND,.slice A k c,.slice none 0 0]/\AU w wr)λi _=>C.length-(intOf i).toNat;case atStart=>exact⟨0,[],none,0,C9 _,rfl,rfl,Yj.1.far D7.1 BI BI BI BI 0 _,by simpa using D7.1.EM 0<|.slice NC p.nodes.length ND,bS HB2.1 hgw _⟩
 clear Yj D7 HB2 X3 E5 Em Ew MV X4 Bg Bq CP Fe DX EU JI;obtain⟨k,ol,A,c,hk,rfl,hol,hpo,X4,hb⟩:=hrel;obtain⟨wo,rfl⟩:=BR wr;obtain⟨HP,D7,HB,Uj⟩:=D9 hpo X4 hb hol;have hl4:=X4.lt;clear hpo hb;by_cases hlt:k<C.length
 .obtain⟨b,o,Uz,hlb,c0,c1,c2,c3,c4,c5⟩:=(Row.mono IU.1 HB.1).at6 hlt;subst Uz;have hv:=HVk.1 k hlt;have hvl:=HVl.1 k hlt;have htk:C.take (k+1)=C.take k++[C[k]]:=Eu hlt;generalize C[k]=x at*;obtain⟨⟨id,fr,z,s,lf,rt⟩,⟨va,vn,vc⟩⟩:=x;simp only at c0 c1 c2 c3 c4 c5 hv hvl htk;have hv0:=hv;obtain⟨Av,cv,hev,-⟩:=hv;injection hev with y1 y2 y3;subst y1 y2 y3;have wZ:=V λW(hW:AU w W)=>oG.1 (.slice va s.length vc) s W (hv0.mono hW) I;clear hv0;have FI:=V htk;clear htk;go_upto_region 5 with fail;obtain⟨M,hW⟩:∃W:World,W=wo.alloc (.cells #[.int .i64 id,.int .i64 fr,.int .i64 z,.slice va s.length vc,.int .i64 lf,.int .i64 rt] 31):=⟨_,rfl⟩;have hA:AU wo M:=by rw[hW];exact bA (bR wo) _
  obtain⟨g4,hg4⟩:=BM wo.heap.size;have X6:AO M g4 31 #[.int .i64 id,.int .i64 fr,.int .i64 z,.slice va s.length vc,.int .i64 lf,.int .i64 rt]:=by rw[hW];exact AO.made hg4.symm _ _
  obtain⟨HB2,T,D5⟩:=CB (J HB.1 hA) (HP.1.keep hA)<|D7.1.keep hA;have n4:some g4≠(Value.slice A k c).ownBlock:=λe=>by have:=(HP.1.Iw.lt _ e.symm).2;omega
  have n42:¬g4=g2:=I;have hz2:=HB2.1.size;have ayq:=hA.size;rw[<-hW];try rw[hg4]
  clear hW hA c0 c1 c2 c3 c4 c5 hlb HP HB D7;have U:=D5.1;clear X4;have DN:=V (λ(y:Ar×SV)=>show(ol++[y]).length=k+1 from by rw[EK,Uj.1];rfl);have ayr:ol.length<=100000:=I;have adf:w.heap.size<=g2:=hgw;have HXt:=V (λ(A7:Option Addr)(c7:Nat)=>show(C.take<|k+1).map (λx=>V4 x.1)=(C.take k).map (λx=>V4 x.1)++[(⟨id,fr,z,s,0,0⟩:Ar)]from by rw[FI.1,Gt];rfl);obtain⟨EW,EX,EY,Ov,Ub,tK,tN,-⟩:=X6.J9;have hl5:=U.lt;have n5:=Own.ET T.1.Iw D5.1 BI;refine aDI (QC w.heap.size g4 M) (.take 0 1<|.run 8 2 1<|.two 1 1023 (.call 10 2047<|.take 11 4095<|.call 12 8191<|.call 13 16383<|.take 14 32767<|.call 15 65535<|.done) 10 2045<|.take 11 4093<|.two 1 4095 (.call 12 8191<|.call 13 16383<|.take 14 32767<|.call 15 65535<|.done) 12 8189<|.call 1 8191<|.call 13 16383<|.take 14 32767<|.call 15 65535<|.done) IK (kR _) IK IK (aDZ IK) ?_;intro CG QR Ae Aj hS;replace U:=U.drew;iterate 9
   apply wW;exact Ae;exact rfl;exact hS;exact rfl;.intro _ hqc aBl;go_simp;try rfl
   try simp only[pu]
  refine QJ (i:=1) (j:=10) (FD Ae rfl) (FD Ae rfl) (λK hK=>?_) λK hK=>?_
  .have AQ:=V hS;clear hS;refine Fp (Fb rfl) ?_;obtain⟨z1,z2,z3,z4,-⟩:=AO.BF U;go_simp;refine hK.out _ _ AQ.out λhS=>?_;clear hK K AQ;try simp only[pu]
   refine Wj (i:=10) (FD Ae rfl) λK hK=>?_;have AQ:=V hS;clear hS;refine Fp (Fb rfl) ?_;go_simp;refine(wZ.1 _<|J HB2.1<|bD<|bR M).mono ?_;rintro e Bv⟨A9,c9,rfl,Bj,LU⟩;have hS:QC w.heap.size g4 M Bv:=kC AQ.out Bj I I;clear AQ;try replace XL:=XL.keep Bj
   try replace U:=U.keep Bj
   refine hK.out _ _ hS λ_=>?_;clear hK K;try simp only[pu]
   apply wW;exact Ae;exact rfl;exact hS;exact rfl;.intro _ hqc aBl;go_simp;try rfl
   try simp only[pu]
   refine Wj (i:=12) (FD Ae rfl) λK hK=>?_;have AQ:=V hS;clear hS;refine Fp (Fb rfl) ?_;go_simp;have XLy:Below w.heap.size M Bv:=AQ.out.1;have aBm:w.heap.size<=(Bv).heap.size:=Du I (show Below w.heap.size M<|Bv from AQ.out.1).size;refine hK.out _ _ (kA AQ.out I I _) λhS=>?_;clear hK K AQ;try replace U:=U.alloc<|.cells #[.int .i64 id,.int .i64 fr,.int .i64 z,.slice A9 s.length c9,.int .i64 0,.int .i64 0] 31
   try replace XL:=XL.alloc<|.cells #[.int .i64 id,.int .i64 fr,.int .i64 z,.slice A9 s.length c9,.int .i64 0,.int .i64 0] 31
   have XL:=AO.new Bv 31 #[.int .i64 id,.int .i64 fr,.int .i64 z,.slice A9 s.length c9,.int .i64 0,.int .i64 0];try simp only[World.size_drew,World.size_alloc]at XL aBm
   try simp only[World.alloc_drew]at U
   try simp only[World.alloc_drew]at XL
   try simp only[pu]
   refine Wj (i:=13) (FD Ae rfl) λK hK=>?_;have AQ:=V hS;clear hS;refine Fp (Fb rfl) ?_;refine Ir (.tmp 17) (.tmp 28) _ rfl (base:=w.heap.size) aaM aAY adC rfl (((T.1.Iw.keep<|bD<|bR M).keep Bj).alloc _) rfl (l2:=[((⟨id,fr,z,s,0,0⟩:Ar),(⟨A9,s.length,c9⟩:SV))]) (Sl.lit (n:=1) (AO.made rfl _ _) rfl<|DC I) DY DY (by have:=Bj.size;simp at this;simp;omega) ?_;intro v7 w7 O1 GR Tj;obtain⟨A7,c7,hv7,-⟩:=Own.Il O1;rw[DN.1]at hv7;subst hv7;have V5:=AO.grown U GR λe=>n5 e.symm;obtain⟨q1,q2,q3,q4,q5,q6,q7⟩:=AO.BF V5;have hmr:=J7.more (((T.1.keep<|bD<|bR M).keep Bj).keep<|bA (bR _) _) O1 GR<|Own.alloc (LU.EN D8) _;obtain⟨eu,jw,Lm⟩:=CB (hmr.far V5 BI BI BI BI 1<|.slice A7 (k+1) c7) (V5.EM 1<|.slice A7 (k+1) c7)<|bS (p:=⟨g2,1,none⟩) (bG (bA (J (J HB2.1<|bD<|bR M) Bj) _) GR<|λq hq=>(T.1.Iw.lt q hq).1) adf<|.slice A7 (k+1) c7;have hS:QC w.heap.size g4 M w7:=kG AQ.out GR (λq hq=>(T.1.Iw.lt q hq).1) n4 I I;clear hmr V5 O1 GR Tj;clear AQ;refine hK.out _ _ hS λ_=>?_;clear hK K;try simp only[pu]
   apply wW;exact Ae;exact rfl;exact hS;exact rfl;.intro _ hqc aBl;go_simp;try rfl
   try simp only[pu]
   refine Wj (i:=15) (FD Ae rfl) λK hK=>?_;have AQ:=V hS;clear hS;refine Fp (Fb rfl) ?_;go_simp;refine hK.out _ _ (kS AQ.out PV PV _) λhS=>?_;clear hK K AQ;try simp only[pu]
   refine rM ?_;refine Aj.down _ _ ?_;have hBk:=hS.2;have hB:Below w.heap.size M _:=hS.1;clear hS Aj Ae;go_wp2;go_roundw;case rel=>exact⟨k+1,_,A7,c7,I,BH,DN.1 _,by rw[HXt.1 A7 c7];exact eu.1,by simpa using jw.1,Lm.1⟩
   exact BJ
  have AQ:=V hS;clear hS;refine Fp (Fb rfl) ?_;go_simp;refine(wZ.1 _<|J HB2.1<|bD<|bR M).mono ?_;rintro e Bv⟨A9,c9,rfl,Bj,LU⟩;have hS:QC w.heap.size g4 M Bv:=kC AQ.out Bj I I;clear AQ;try replace XL:=XL.keep Bj
  try replace U:=U.keep Bj
  refine hK.out _ _ hS λ_=>?_;clear hK K;try simp only[pu]
  apply wW;exact Ae;exact rfl;exact hS;exact rfl;.intro _ hqc aBl;go_simp;try rfl
  try simp only[pu]
  refine QJ (i:=1) (j:=12) (FD Ae rfl) (FD Ae rfl) (λK hK=>?_) λK hK=>?_
  .have AQ:=V hS;clear hS;refine Fp (Fb rfl) ?_;obtain⟨z1,z2,z3,z4,-⟩:=AO.BF U;go_simp;refine hK.out _ _ AQ.out λhS=>?_;clear hK K AQ;try simp only[pu]
   refine Wj (i:=12) (FD Ae rfl) λK hK=>?_;have AQ:=V hS;clear hS;refine Fp (Fb rfl) ?_;go_simp;have XLy:Below w.heap.size M Bv:=AQ.out.1;have aBm:w.heap.size<=(Bv).heap.size:=Du I (show Below w.heap.size M<|Bv from AQ.out.1).size;refine hK.out _ _ (kA AQ.out I I _) λhS=>?_;clear hK K AQ;try replace U:=U.alloc<|.cells #[.int .i64 id,.int .i64 fr,.int .i64 z,.slice A9 s.length c9,.int .i64 0,.int .i64 0] 31
   try replace XL:=XL.alloc<|.cells #[.int .i64 id,.int .i64 fr,.int .i64 z,.slice A9 s.length c9,.int .i64 0,.int .i64 0] 31
   have XL:=AO.new Bv 31 #[.int .i64 id,.int .i64 fr,.int .i64 z,.slice A9 s.length c9,.int .i64 0,.int .i64 0];try simp only[World.size_drew,World.size_alloc]at XL aBm
   try simp only[World.alloc_drew]at U
   try simp only[World.alloc_drew]at XL
   try simp only[pu]
   refine Wj (i:=13) (FD Ae rfl) λK hK=>?_;have AQ:=V hS;clear hS;refine Fp (Fb rfl) ?_;refine Ir (.tmp 17) (.tmp 28) _ rfl (base:=w.heap.size) aaM aAY adC rfl (((T.1.Iw.keep<|bD<|bR M).keep Bj).alloc _) rfl (l2:=[((⟨id,fr,z,s,0,0⟩:Ar),(⟨A9,s.length,c9⟩:SV))]) (Sl.lit (n:=1) (AO.made rfl _ _) rfl<|DC I) DY DY (by have:=Bj.size;simp at this;simp;omega) ?_;intro v7 w7 O1 GR Tj;obtain⟨A7,c7,hv7,-⟩:=Own.Il O1;rw[DN.1]at hv7;subst hv7;have V5:=AO.grown U GR λe=>n5 e.symm;obtain⟨q1,q2,q3,q4,q5,q6,q7⟩:=AO.BF V5;have hmr:=J7.more (((T.1.keep<|bD<|bR M).keep Bj).keep<|bA (bR _) _) O1 GR<|Own.alloc (LU.EN D8) _;obtain⟨eu,jw,Lm⟩:=CB (hmr.far V5 BI BI BI BI 1<|.slice A7 (k+1) c7) (V5.EM 1<|.slice A7 (k+1) c7)<|bS (p:=⟨g2,1,none⟩) (bG (bA (J (J HB2.1<|bD<|bR M) Bj) _) GR<|λq hq=>(T.1.Iw.lt q hq).1) adf<|.slice A7 (k+1) c7;have hS:QC w.heap.size g4 M w7:=kG AQ.out GR (λq hq=>(T.1.Iw.lt q hq).1) n4 I I;clear hmr V5 O1 GR Tj;clear AQ;refine hK.out _ _ hS λ_=>?_;clear hK K;try simp only[pu]
   apply wW;exact Ae;exact rfl;exact hS;exact rfl;.intro _ hqc aBl;go_simp;try rfl
   try simp only[pu]
   refine Wj (i:=15) (FD Ae rfl) λK hK=>?_;have AQ:=V hS;clear hS;refine Fp (Fb rfl) ?_;go_simp;refine hK.out _ _ (kS AQ.out PV PV _) λhS=>?_;clear hK K AQ;try simp only[pu]
   refine rM ?_;refine Aj.down _ _ ?_;have hBk:=hS.2;have hB:Below w.heap.size M _:=hS.1;clear hS Aj Ae;go_wp2;go_roundw;case rel=>exact⟨k+1,_,A7,c7,I,BH,DN.1 _,by rw[HXt.1 A7 c7];exact eu.1,by simpa using jw.1,Lm.1⟩
   exact BJ
  have AQ:=V hS;clear hS;refine Fp (Fb rfl) ?_;go_simp;have XLy:Below w.heap.size M Bv:=AQ.out.1;have aBm:w.heap.size<=(Bv).heap.size:=Du I (show Below w.heap.size M<|Bv from AQ.out.1).size;refine hK.out _ _ (kA AQ.out I I _) λhS=>?_;clear hK K AQ;try replace U:=U.alloc<|.cells #[.int .i64 id,.int .i64 fr,.int .i64 z,.slice A9 s.length c9,.int .i64 0,.int .i64 0] 31
  try replace XL:=XL.alloc<|.cells #[.int .i64 id,.int .i64 fr,.int .i64 z,.slice A9 s.length c9,.int .i64 0,.int .i64 0] 31
  have XL:=AO.new Bv 31 #[.int .i64 id,.int .i64 fr,.int .i64 z,.slice A9 s.length c9,.int .i64 0,.int .i64 0];try simp only[World.size_drew,World.size_alloc]at XL aBm
  try simp only[World.alloc_drew]at U
  try simp only[World.alloc_drew]at XL
  try simp only[pu]
  refine Wj (i:=1) (FD Ae rfl) λK hK=>?_;have AQ:=V hS;clear hS;refine Fp (Fb rfl) ?_;obtain⟨z1,z2,z3,z4,-⟩:=AO.BF U;go_simp;refine hK.out _ _ AQ.out λhS=>?_;clear hK K AQ;try simp only[pu]
  refine Wj (i:=13) (FD Ae rfl) λK hK=>?_;have AQ:=V hS;clear hS;refine Fp (Fb rfl) ?_;refine Ir (.tmp 17) (.tmp 28) _ rfl (base:=w.heap.size) aaM aAY adC rfl (((T.1.Iw.keep<|bD<|bR M).keep Bj).alloc _) rfl (l2:=[((⟨id,fr,z,s,0,0⟩:Ar),(⟨A9,s.length,c9⟩:SV))]) (Sl.lit (n:=1) (AO.made rfl _ _) rfl<|DC I) DY DY (by have:=Bj.size;simp at this;simp;omega) ?_;intro v7 w7 O1 GR Tj;obtain⟨A7,c7,hv7,-⟩:=Own.Il O1;rw[DN.1]at hv7;subst hv7;have V5:=AO.grown U GR λe=>n5 e.symm;obtain⟨q1,q2,q3,q4,q5,q6,q7⟩:=AO.BF V5;have hmr:=J7.more (((T.1.keep<|bD<|bR M).keep Bj).keep<|bA (bR _) _) O1 GR<|Own.alloc (LU.EN D8) _;obtain⟨eu,jw,Lm⟩:=CB (hmr.far V5 BI BI BI BI 1<|.slice A7 (k+1) c7) (V5.EM 1<|.slice A7 (k+1) c7)<|bS (p:=⟨g2,1,none⟩) (bG (bA (J (J HB2.1<|bD<|bR M) Bj) _) GR<|λq hq=>(T.1.Iw.lt q hq).1) adf<|.slice A7 (k+1) c7;have hS:QC w.heap.size g4 M w7:=kG AQ.out GR (λq hq=>(T.1.Iw.lt q hq).1) n4 I I;clear hmr V5 O1 GR Tj;clear AQ;refine hK.out _ _ hS λ_=>?_;clear hK K;try simp only[pu]
  apply wW;exact Ae;exact rfl;exact hS;exact rfl;.intro _ hqc aBl;go_simp;try rfl
  try simp only[pu]
  refine Wj (i:=15) (FD Ae rfl) λK hK=>?_;have AQ:=V hS;clear hS;refine Fp (Fb rfl) ?_;go_simp;refine hK.out _ _ (kS AQ.out PV PV _) λhS=>?_;clear hK K AQ;try simp only[pu]
  refine rM ?_;refine Aj.down _ _ ?_;have hBk:=hS.2;have hB:Below w.heap.size M _:=hS.1;clear hS Aj Ae;go_wp2;go_roundw;case rel=>exact⟨k+1,_,A7,c7,I,BH,DN.1 _,by rw[HXt.1 A7 c7];exact eu.1,by simpa using jw.1,Lm.1⟩
  exact BJ
 obtain rfl:k=C.length:=I;have hlen:p.AP.length=C.length:=by rw[ako.1,D6]
 have hpe:(⟨p.nodes,(C.take C.length).map λx=>V4 x.1,[]⟩:Pl)=Dz p:=by unfold Dz;rw[Gu,ako.1,KP];rfl
 have hpo:=HP.1;rw[hpe]at hpo;obtain⟨eu,Lm,HLn⟩:=CB (((hpo.far D7.1 BI BI BI BI 0<|.slice NC p.nodes.length ND).far (D7.1.EM 0 _) BI BI BI BI 1<|.slice A C.length c).far ((D7.1.EM 0 _).EM 1 _) BI BI BI BI 2<|.slice none 0 0) (bS (p:=⟨g2,2,none⟩) (bS (p:=⟨g2,1,none⟩) (bS (p:=⟨g2,0,none⟩) HB.1 hgw<|.slice NC p.nodes.length ND) hgw<|.slice A C.length c) hgw<|.slice none 0 0) hlen;clear hpo hpe hlen HP;try clear Bg Bq CP Fe
 try clear DX EU JI
 obtain⟨Bg,Bq,CP,Fe,DX,EU,JI⟩:=X4.BF;go_wp2_with fail;refine nG (g:=g2) (cs:=#[.slice NC p.nodes.length ND,.slice A C.length c,.slice none 0 0]) rfl aDC rfl rfl (AO.lM D7.1) ?_;have hl1:(Dz p).AP.length=C.length:=by unfold Dz;rw[D6];exact HLn.1
 refine⟨NC,ND,A,c,ol,by rw[hl1];rfl,Lm.1,?_⟩;rw[hl1];exact eu.1
open Go.RowKit Go.Sort
theorem axG:∀w,(isAgg 99).run prog w=.ok true w:=λ_=>by kernel_rfl
theorem axH:∀w,(Go.sizeOf 99).run prog w=.ok 4 w:=λ_=>by kernel_rfl
open Go.RowKit Go.Sort
theorem axI(w0:World)(base g c cap:Nat)(z:AD)(sl:List AD)(w:World)(hown:Own w base 99 4 EH (.slice (some ⟨g,0,none⟩) (sl.length+1) c)<|z::sl)(hpos:0<sl.length)(hb0:AU w0 w)(hbase:w0.heap.size<=base)(hok:∀s∈sl,OV w0 s)(hn:sl.length<=4294967296):Calls prog 78 #[.slice (some ⟨g,4,none⟩) sl.length cap,.func (.func 79) #[] #[]] w λe w'=>e=.returned (.tuple #[])/\∃sl':List AD,sl'.Perm sl/\sl'.Pairwise (λa b=>ltOf (λx y:AD=>cmpK (Dp x.out)<|Dp y.out) b a=false)/\Own w' base 99 4 EH (.slice (some ⟨g,0,none⟩) (sl.length+1) c) (z::sl')/\w.grownBy w' (some g):=by
 have hs0:sl[0]∈sl:=BG hpos;obtain⟨hlen,hown2⟩:=hown;rcases hown2 with⟨_,h0⟩|⟨g',cap',C,hv,hg,hh,hnc,hcm,hcs,hx⟩;.cases h0
 injection hv with M _ e3;injection M with M;injection M with M _ _;subst M e3;have hnl:(z::sl).length=sl.length+1:=rfl;rw[hnl]at hnc hx hlen;have hfl:(z::sl).flatMap EH=EH z++sl.flatMap EH:=rfl;have axJ:(sl.flatMap EH).length=sl.length*4:=flat_length EH 4 SQ sl;haveI hI:Inhabited {s:AD//OV w0 s}:=⟨⟨sl[0],hok _ hs0⟩⟩;have T:∃K:List {s:AD//OV w0 s},K.map (·.1)=sl:=⟨sl.attachWith (λs=>OV w0 s) hok,Ak⟩;obtain⟨K,T⟩:=T;have hdn:K.length=sl.length:=by rw[<-T];simp
 have hfm:K.flatMap (λx=>EH x.1)=sl.flatMap EH:=by rw[<-T,Qm]
 have hcur:∀j,j<sl.length*4->C[4+j]?=(sl.flatMap EH)[j]?:=λj U=>by
  have h9:((z::sl).flatMap EH)[4+j]?=(sl.flatMap EH)[j]?:=by rw[hfl,List.getElem?_append_right<|by rw[SQ];omega,SQ,Nat.add_sub_cancel_left]
  rw[<-h9,<-hx,List.getElem?_take,AZ I];simp
 have eg:∀args w,(callFunc 79 args).run prog w=.ok (.enter 79 args) w:=enters_of func79 IK rfl;have hkk:∀x:{s:AD//OV w0 s},(EH x.1).length=4:=λ_=>rfl;have hcmp:CmpLays prog 79 #[] (λx:{s:AD//OV w0 s}=>EH x.1) 4 (λx y=>(λx y:AD=>cmpK (Dp x.out)<|Dp y.out) x.1 y.1) g 4 K.toArray.size w:=λm os dk hdk x y=>by have hg':=iP (λx:{s:AD//OV w0 s}=>EH x.1) 4 w g 4 m dk os;have Pq:AU w0 _:=bG hb0 hg' (λq hq=>by have:=Dn hq;omega);exact(avM x.1 y.1 _ (x.2.mono Pq)<|y.2.mono Pq).mono λe w' h=>⟨h.1,zT h.2⟩
 have hsz:K.toArray.size*4=sl.length*4:=by simp[hdn]
 have hH:HoldsK (λx:{s:AD//OV w0 s}=>EH x.1) 4 w g 4 K.toArray:=λj U=>by
  rw[size_flatK,hsz]at U;refine⟨?_,AO.frozen (t:=99) (cs:=C) hh _⟩;rw[cell_of_row w g _ C 99 (0,0) hh,hcur j U,iQ _ 4 hkk _ j<|by rw[hsz];exact U];simp only[id];rw[hfm,List.getElem!_eq_getElem?_getD];have:j<(sl.flatMap EH).length:=by rw[axJ];exact U
  rw[DK this];rfl
 have hcon:=AnyQ.slices_SortFunc Tryz.sortAd 4 axG axH (λx:{s:AD//OV w0 s}=>EH x.1) hkk (λx=>aAj x.1) (λx y=>(λx y:AD=>cmpK (Dp x.out)<|Dp y.out) x.1 y.1) (avJ λx:{s:AD//OV w0 s}=>Dp x.1.out) 79 #[] g 4 cap K.toArray w eg hcmp hH (AO.lt hh) D8;have hns:K.toArray.size=sl.length:=by simp[hdn]
 rw[hns]at hcon;refine Calls.mono hcon ?_;rintro e w'⟨rfl,o,n,os,hp,hs,rfl⟩;obtain⟨p1,-,p3⟩:=hp;have hd':o.size=sl.length:=by rw[p1,hns]
 have hperm:o.toList.Perm K:=by
  have M:o.extract 0 sl.length=o:=by rw[<-hd'];simp
  have e2:K.toArray.extract 0 sl.length=K.toArray:=by rw[<-hns];simp
  rw[M,e2]at p3;simpa using p3
 have hg':=iP (λx:{s:AD//OV w0 s}=>EH x.1) 4 w g 4 n o os;refine⟨rfl,o.toList.map (·.1),by rw[<-T];exact hperm.map _,?_,?_,hg'⟩
 .rw[H9,FT];intro i j hi U hij;have hj':j<o.size:=by simpa using U
  have:=hs i j (C9 _) hij (by rw[<-hd'];exact hj');rw[getElem!_pos o j hj',getElem!_pos o i I]at this;exact this
 have hl':(o.toList.map (·.1)).length=sl.length:=by simp[hd']
 unfold Own;have hl2:(z::o.toList.map (·.1)).length=sl.length+1:=by rw[Gy,hl']
 rw[hl2];have hfd:(o.toList.map (·.1)).flatMap EH=o.toList.flatMap λx=>EH x.1:=by rw[Qm]
 have hln:((o.toList.map (·.1)).flatMap EH).length=sl.length*4:=by rw[flat_length EH 4 SQ,hl']
 have adg:(z::o.toList.map (·.1)).flatMap EH=EH z++(o.toList.map (·.1)).flatMap EH:=rfl;have akp:((z::o.toList.map (·.1)).flatMap EH).length=(sl.length+1)*4:=by rw[adg,EK,SQ,hln];omega
 refine⟨akp,.inr ⟨g,c,putCells id 4 (flatK (λx:{s:AD//OV w0 s}=>EH x.1) 4 o) C,rfl,hg,?_,hnc,hcm,xZ,?_⟩⟩;.have hgl:g<w.heap.size:=AO.lt hh;rw[sH,Array.getElem?_append_left<|by simpa using hgl,Array.getElem?_modify,AZ rfl,hh];rfl
 apply qw;intro j;rw[List.getElem?_take];by_cases U:j<(sl.length+1)*4
 .rw[AZ U,adg,hfd];have hjc:j<C.size:=by rw[hcs];have:=qx 4 hnc;omega
  by_cases h4:j<4
  .have M:(putCells id 4 (flatK (λx:{s:AD//OV w0 s}=>EH x.1) 4 o) C).toList[j]?=C.toList[j]?:=by simp[putCells,hjc,show¬4<=j by omega]
   rw[M,List.getElem?_append_left<|by rw[SQ];exact h4];have h9:((z::sl).flatMap EH)[j]?=(EH z)[j]?:=by rw[hfl,List.getElem?_append_left<|by rw[SQ];exact h4]
   rw[<-h9,<-hx,List.getElem?_take,AZ I]
  obtain⟨i,rfl⟩:∃i,j=4+i:=⟨j-4,I⟩;have hjd:i<o.size*4:=by rw[hd'];omega
  have M:(putCells id 4 (flatK (λx:{s:AD//OV w0 s}=>EH x.1) 4 o) C).toList[4+i]?=some (flatK (λx:{s:AD//OV w0 s}=>EH x.1) 4 o)[i]!:=by simp[putCells,hjc,hjd]
  rw[M,iQ _ 4 hkk _ i hjd,List.getElem!_eq_getElem?_getD,List.getElem?_append_right<|by rw[SQ];omega,SQ,Nat.add_sub_cancel_left];have:i<(o.toList.flatMap λx=>EH x.1).length:=by rw[<-hfd,hln];omega
  rw[DK this];rfl
 rw[AX U,aN<|by rw[akp];omega]
