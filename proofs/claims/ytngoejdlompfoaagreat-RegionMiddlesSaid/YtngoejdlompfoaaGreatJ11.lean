import Derived.Test.YtngoejdlompfoaaGreatJ10
import Derived.Test.YtngoejdlompfoaaGreatLaySortIn
set_option linter.unusedSimpArgs false
set_option linter.unusedVariables false
set_option maxRecDepth 100000
set_option maxHeartbeats 8000000
namespace Go.Proofs.YtngoejdlompfoaaGreat
open Go.RowKit Tryz
theorem Valid.short{p:Pl}(h:Valid p):Short p:=λa c=>by have:=h.Td c;omega
theorem Short.long{p:Pl}(h:Short p):ZU p:=λa c=>by have:=h a c;omega
theorem Valid.abL{p:Pl}(h:Valid p){d:Int}{a:Ar}(e:FP p d=some a):pathOf p (Et d)=some (AV p a):=by obtain⟨c,hi⟩:=zH e;rw[hi];exact h.sound.path c
theorem ar4(d:Int):max d (-d)=Et d:=by unfold Et;split<;>omega
theorem ar5{p:Pl}{l:List Int}{k:Nat}(hk:k<l.length){a:Ar}(e:FP p l[k]=some a):P5 p l (k+1)=P5 p l k+if 0<l[k]then SI<|AV p a else-SI (AV p a):=by
 have:l.getD k 0=l[k]:=by rw[G5,DK hk];rfl
 rw[P5,this];unfold Qv;rw[e]
theorem aiL{p:Pl}{l:List Int}{k:Nat}(hk:k<l.length)(e:FP p l[k]=none):WY p l=0:=by unfold WY;rw[AX];rintro⟨-,h⟩;have:=h _<|BG hk;rw[e]at this;cases this
theorem aiM{p:Pl}{l:List Int}(o:l.length<=512)(h:∀j(c:j<l.length),j<l.length->(FP p l[j]).isSome=true):WY p l=P5 p l l.length:=by unfold WY;rw[AZ];refine⟨o,λd hd=>?_⟩;obtain⟨j,c,rfl⟩:=Dy.1 hd;exact h j c c
theorem ar6(v u:Value)(p:Pl)(l:List Int)(w:World)(h:Cj w v p)(hu:Ints w u l)(hv:Valid p)(hw:∀d∈l,Eb d):Calls prog 133 #[v,u] w λe w'=>e=.returned (.int .i64<|WY p l)/\AU w w':=by
 have HA:=V λd(hd:Eb d)W(hW:AU w W)=>aiJ v p d W (h.mono hW) hv.short.long hd;have HP:=V λid W(hW:AU w W)=>aD1 v p id W (h.mono hW) hv.short;obtain⟨_,_,_,al,rfl,hpa,⟨An,cn,rfl,-⟩,⟨⟨Aa,ca,rfl,-⟩,-⟩,⟨Af,cf,rfl,-⟩⟩:=h;obtain⟨Al,cl,rfl,hl1,hl2,hR⟩:=hu;unfold maxLen at hl2;obtain⟨HR,HV,HW⟩:=CB hR hv hw;generalize al.length=na at*;generalize p.nodes.length=nn at*;generalize p.faces.length=nf at*;obtain⟨q,hq⟩:=BM<|WY p l;rw[hq];have Hq:=V hq;clear hpa hR hv hw hq;go_enter func133,ntmps133;by_cases hbig:512<l.length;case pos=>
  have hbig':512<(l.length:Int):=I;have hf:q=0:=by rw[<-Hq.1];unfold WY;rw[AX I]
  subst hf;go_wp2;go_ret;exact⟨rfl,bA (bR w) _⟩
 have hbig':¬512<(l.length:Int):=I;go_wp2_with fail;obtain⟨W0,hW⟩:=BR<|w.alloc<|.cells #[.slice An nn cn,.slice Aa na ca,.slice Af nf cf] 26;have K:=V (show AU w W0 by rw[hW];exact bA (bR w) _);have CW:=V (show AO W0 w.heap.size 26 #[.slice An nn cn,.slice Aa na ca,.slice Af nf cf]by rw[hW];exact AO.made rfl _ _);rw[<-hW];clear hW;go_loopw[4,18](λn i wr=>∃k:Nat,k<=l.length/\i=.int .i64 k/\n=.int .i64 (P5 p l k)/\AU W0 wr/\∀j(hj:j<l.length),j<k->(FP p l[j]).isSome=true)λ_ i _=>l.length-(intOf i).toNat;case atStart=>exact⟨0,C9 _,rfl,rfl,bR W0,λ_ _ h=>I⟩
 obtain⟨k,hk,rfl,rfl,hb,hno⟩:=hrel;have Hb:=V hb;have Hno:=V hno;have X2:=CW.1.keep hb;clear hb hno;obtain⟨BX,Bf,Bh,CS,-⟩:=X2.BF;by_cases hlt:k<l.length;case neg=>have hkk:k=l.length:=I;subst hkk;have hf:=aiM (p:=p) (l:=l) I Hno.1;rw[Hq.1]at hf;have HF:=V hf;clear hf;go_wp2;go_ret;exact⟨DZ HF.1.symm,J K.1 Hb.1⟩
 obtain⟨b,o,rfl,hlb,c0⟩:=(HR.1.mono<|J K.1 Hb.1).int hlt;have U:=HW.1 _<|BG hlt;have Jk:=V<|HA.1 l[k] U;cases c:FP p l[k]with|none=>rw[c]at Jk;have hf:=aiL hlt c;rw[Hq.1]at hf;subst hf;clear c U;go_wp2_with fail;refine(Jk.1 _<|J K.1 Hb.1).mono ?_;rintro e w1⟨A1,n1,c1,rfl,M⟩;have B1:=V<|J Hb.1 M;clear M;simp only[lI];go_wp2;go_ret;exact⟨rfl,J K.1<|bA B1.1 _⟩|some a=>
 rw[c]at Jk;have z:=ar5 hlt c;have hpo:=HV.1.abL c;have ha:=(zH c).1;have hpl:=En p a;have hvl:=HV.1.Td ha;have jM:=V λk hk=>HV.1.ah3 ha k hk;have hub:=HV.1.ah4 l k;have hne:l[k]≠-9223372036854775808/\l[k]≠0:=by
  constructor;.intro e;rw[e]at c;unfold FP at c;rw[AZ<|.inr rfl]at c;cases c
  intro e;rw[e]at c;unfold FP at c;rw[AZ<|.inl rfl]at c;cases c
 have hbd:=aAp U;have JC:=V<|HP.1<|max l[k]<|-l[k];have hpm:pathOf p (max l[k]<|-l[k])=some (AV p a):=by rw[ar4];exact hpo
 rw[hpm]at JC;unfold ng at JC;simp only[I7,Xh,if_true]at JC;have Ce:=V z;have Qx:=V (show(FP p l[k]).isSome=true by rw[c];rfl);have JK:=V<|all_succ (p:=λd=>(FP p d).isSome=true) Hno.1 hlt Qx.1;have hk1:=DR<|-l[k];obtain⟨Yh,U6,ZI,WC⟩:=D9 (λq(hq:q∈AV p a)=>HV.1.zI ha hq) (jM.1 ((AV p a).length-1) I) hne (show k+1<=512 by omega);clear z hpo c U hpm hne hbd;unfold SI at Ce;generalize P5 p l k=n at*;generalize hP:AV p a=P at*;generalize l[k]=d at*;generalize a.via.length=vl at*;go_wp2_with fail;refine(Jk.1 _<|J K.1 Hb.1).mono ?_;rintro e w1⟨A1,n1,c1,rfl,M⟩;replace X2:=X2.keep M;have B1:=V<|J Hb.1 M;clear M BX Bf Bh CS Jk c0 hlb;simp only[Xh,I7];try clear BX Bf Bh CS
 obtain⟨BX,Bf,Bh,CS,-⟩:=X2.BF;go_wp2_with fail;refine(JC.1 _<|J K.1<|bA B1.1 _).mono ?_;rintro e w2⟨A2,c2,rfl,hb2,ho2⟩;have B2:=V<|J (bA B1.1 _) hb2;obtain⟨Aq,cq,he,hq1,hq2,VW⟩:=ho2.sl;injection he with e1 e2 e3;subst e1 e3;clear e2;unfold maxLen at hq2;have jO:=V VW;clear hb2 ho2 VW JC X2 BX Bf Bh CS;obtain⟨N,hN⟩:∃N,P.length=N+1:=⟨P.length-1,I⟩;have HN:=V hN;have hNs:N<=65:=I;rw[hN]at U6 Ce;simp only[gI]at U6 Ce;have k2:=DR (N:Int);rw[hN]at hq1⊢;clear hN hpl hvl;go_wp2_with fail;obtain⟨W2,rfl⟩:=BR w2;go_loopw[11,44](λs i wx=>∃j:Nat,j<=N/\i=.int .i64 j/\s=.int .i64 (Kq P j)/\AU W2 wx)λ_ i _=>N-(intOf i).toNat;case atStart=>exact⟨0,C9 _,rfl,rfl,bR W2⟩
 case round=>
  obtain⟨j,hj,rfl,rfl,hbx⟩:=hrel;have GV:=V hbx;clear hbx;by_cases hjl:j<N;case pos=>
   have hP1:j<P.length:=by have:=HN.1;omega
   have hP2:j+1<P.length:=by have:=HN.1;omega
   obtain⟨b1,o1,hA1,aAq,c0,c1'⟩:=(jO.1.mono GV.1).pt hP1;subst hA1;obtain⟨b2,o2,hA2,-,d0,d1⟩:=(jO.1.mono GV.1).pt hP2;simp only[JU,Addr.mk.injEq,and_true]at hA2;obtain⟨rfl,rfl⟩:=hA2;have g1:=Yh.1 _<|BG hP1;have g2:=Yh.1 _<|BG hP2;have x1:=uh g1.1 g2.2;have x2:=uh g2.1 g1.2;have tb:=jM.1 j (by have:=HN.1;omega);have tb2:=jM.1 (j+1) (by have:=HN.1;omega);have C:Kq P (j+1)=Kq P j+(P[j].x*P[j+1].y-P[j+1].x*P[j].y):=by rw[Kq];unfold Qj;simp only[G5,DK hP1,DK hP2,I7]
   rw[C]at tb2;have abM:=V C;clear C g1 g2;generalize P[j]=p1 at*;generalize P[j+1]=p2 at*;generalize hT:Kq P j=T at*;have q1:0<=(j:Int):=I;have q2:(j:Int)<(N:Int)+1:=I;have q3:0<=(j:Int)+1:=I;have q4:(j:Int)+1<(N:Int)+1:=I;have q5:((j:Int)+1).toNat=j+1:=I;have m0:=DR<|(j:Int)+1;have m1:=DR<|p1.x*p2.y;have m2:=DR<|p2.x*p1.y;have m3:=DR<|p1.x*p2.y-p2.x*p1.y;have m4:=DR<|T+(p1.x*p2.y-p2.x*p1.y);clear x1 x2 tb tb2 hT hub;go_upto_region 16 with fail;refine CZ wr (.run 28 0 0<|.done) λCG QR Ae Aj hS=>?_;iterate 28 refine Ah ?_
   refine CX ?_;clear hS Aj Ae;intro hB;have Bx:=V<|J GV.1 hB;clear hB m0 m1 m2 m3 m4;go_wp2;go_roundw;case rel=>exact⟨j+1,I,BH,by rw[abM.1],Bx.1⟩
   exact BJ
  have hjj:j=N:=I;subst hjj;have htl:=U6.1;have hsz:=WC.1;have Bx:=V<|J B2.1 GV.1;generalize hT:Kq P j=T at*;clear hT;by_cases hneg:d<0
  .have z:=Ce.1;rw[AX I]at z;have abN:=V z;have m1:=DR<|-T;have m2:=DR<|n+-T;clear z htl hub hsz;go_wp2;go_roundw;case rel=>exact⟨k+1,I,BH,by rw[abN.1],Bx.1,JK.1⟩
   exact BJ
  have z:=Ce.1;rw[AZ<|by have:=ZI.1.2;omega]at z;have abN:=V z;have m2:=DR<|n+T;clear z htl hub hsz;go_wp2;go_roundw;case rel=>exact⟨k+1,I,BH,by rw[abN.1],Bx.1,JK.1⟩
  exact BJ
theorem aAr{p:Pl}(h:Valid p){d:Int}{a:Ar}(e:FP p d=some a):VU p d=if 0<d then AV p a else(AV p a).reverse:=by
 have c:=h.abL e;unfold Et at c;unfold VU;by_cases h1:0<d;.rw[AX I]at c;rw[AZ h1,AZ h1,c];rfl
 have j:d≠0:=by intro o;rw[o]at e;unfold FP at e;rw[AZ<|.inl rfl]at e;cases e
 rw[AZ I]at c;rw[AX h1,AX h1,c];rfl
theorem ar7{p:Pl}(h:Valid p){d:Int}{a:Ar}(e:FP p d=some a):Qv p d=SI (VU p d):=by
 rw[aAr h e];unfold Qv;rw[e];simp only[];have c:=En p a;split;.rfl
 rw[aqB _ I]
theorem abO(v u:Value)(p:Pl)(l:List Int)(w:World)(h:Cj w v p)(hu:Ints w u l)(hv:Valid p)(hw:∀d∈l,Eb d):Calls prog 145 #[v,u] w λe w'=>e=.returned (.int .i64<|WY p l)/\AU w w':=by
 have HO:=V λd W(hW:AU w W)=>ar1 v p d W<|h.mono hW;have HP:=V λd(hd:-9223372036854775808<d/\d<=9223372036854775807)W(hW:AU w W)=>aiK v p d W (h.mono hW) hv.short hd;obtain⟨_,_,_,al,rfl,hpa,⟨An,cn,rfl,-⟩,⟨⟨Aa,ca,rfl,-⟩,-⟩,⟨Af,cf,rfl,-⟩⟩:=h;obtain⟨Al,cl,rfl,hl1,hl2,hR⟩:=hu;unfold maxLen at hl2;obtain⟨HR,HV,HW⟩:=CB hR hv hw;generalize al.length=na at*;generalize p.nodes.length=nn at*;generalize p.faces.length=nf at*;obtain⟨q,hq⟩:=BM<|WY p l;rw[hq];have Hq:=V hq;clear hpa hR hv hw hq;go_enter func145,ntmps145;by_cases hbig:512<l.length;case pos=>
  have hbig':512<(l.length:Int):=I;have hf:q=0:=by rw[<-Hq.1];unfold WY;rw[AX I]
  subst hf;go_wp2;go_ret;exact⟨rfl,bA (bR w) _⟩
 have hbig':¬512<(l.length:Int):=I;go_wp2_with fail;obtain⟨W0,hW⟩:=BR<|w.alloc<|.cells #[.slice An nn cn,.slice Aa na ca,.slice Af nf cf] 26;have U:=V (show AU w W0 by rw[hW];exact bA (bR w) _);have CW:=V (show AO W0 w.heap.size 26 #[.slice An nn cn,.slice Aa na ca,.slice Af nf cf]by rw[hW];exact AO.made rfl _ _);rw[<-hW];clear hW;go_loopw[5,6](λn i wr=>∃k:Nat,k<=l.length/\i=.int .i64 k/\n=.int .i64 (P5 p l k)/\AU W0 wr/\∀j(hj:j<l.length),j<k->(FP p l[j]).isSome=true)λ_ i _=>l.length-(intOf i).toNat;case atStart=>exact⟨0,C9 _,rfl,rfl,bR W0,λ_ _ h=>I⟩
 obtain⟨k,hk,rfl,rfl,hb,hno⟩:=hrel;obtain⟨Hb,Hno,aiN⟩:=CB hb hno<|CW.1.keep hb;have X2:=aiN.1;clear hb hno;obtain⟨BX,Bf,Bh,CS,-⟩:=X2.BF;by_cases hlt:k<l.length;case neg=>have hkk:k=l.length:=I;subst hkk;have hf:=aiM (p:=p) (l:=l) I Hno.1;rw[Hq.1]at hf;have HF:=V hf;clear hf;go_wp2;go_ret;exact⟨DZ HF.1.symm,J U.1 Hb.1⟩
 have Ez:=V<|J U.1 Hb.1;obtain⟨b,o,rfl,hlb,c0⟩:=(HR.1.mono Ez.1).int hlt;have hwd:=HW.1 _<|BG hlt;have hok:=HV.1.aqE<|aAp hwd;have jP:=HO.1 l[k];unfold uw at jP;rw[hok]at jP;have q1:0<=(k:Int):=I;have q2:(k:Int)<l.length:=I;clear hok;cases c:FP p l[k]with
 |none=>
  rw[c]at jP;have jA:=V jP;have hf:=aiL hlt c;rw[Hq.1]at hf;subst hf;clear c hwd jP;go_upto_region 7 with fail;refine CZ wr (.run 5 0 0<|.call 5 63<|.take 6 127<|.done) λCG QR Ae Aj hS=>?_;iterate 5 refine Ah ?_
  refine FM (jA.1 _<|J Ez.1 hS) ?_;clear hS;intro Bv Bj hS;refine Ah ?_;refine CX ?_;clear hS Aj Ae;intro z;go_wp2;go_ret;exact⟨rfl,J Ez.1 z⟩|some a=>
 rw[c]at jP;have jA:=V jP;have hst:P5 p l (k+1)=P5 p l k+SI (VU p l[k]):=by
  have e0:l.getD k 0=l[k]:=by rw[G5,DK hlt];rfl
  rw[P5,e0,ar7 HV.1 c]
 have ha:=(zH c).1;have hpl:=En p a;have hvl:=HV.1.Td ha;have hub:=HV.1.ah4 l k;have hne:l[k]≠-9223372036854775808:=by intro e;rw[e]at c;unfold FP at c;rw[AZ<|.inr rfl]at c;cases c
 have hbd:=aAp hwd;have JC:=V<|HP.1 l[k] I;have Yh:=V (show∀q∈VU p l[k],MN q fromλq hq=>by
  rw[aAr HV.1 c]at hq;split at hq;.exact HV.1.zI ha hq
  exact HV.1.zI ha<|aCV.1 hq);have hPl:(VU p l[k]).length=a.via.length+2:=by
  rw[aAr HV.1 c];split;.exact hpl
  rw[Z9];exact hpl
 have JK:=V<|all_succ (p:=λd=>(FP p d).isSome=true) Hno.1 hlt (by rw[c];rfl);obtain⟨N,hN⟩:∃N,(VU p l[k]).length=N+1:=⟨(VU p l[k]).length-1,I⟩;have HN:=V hN;have hNs:N<=65:=I;clear hN hPl hvl;have Ce:=V hst;have WC:=V (show k+1<=512 by omega);clear hst c hwd hne hbd jP hpl;unfold SI at Ce;unfold Zj at JC;generalize P5 p l k=n at*;generalize hP:VU p l[k]=P at*;have hPd:=hP;clear hP;generalize hd:l[k]=d at*;have Hd:=V hd;clear hPd hd;go_upto_region 7 with fail;refine CZ wr (.run 5 0 0<|.call 5 63<|.take 6 127<|.done) λCG QR Ae Aj hS=>?_;iterate 5 refine Ah ?_
 refine FM (jA.1 _<|J Ez.1 hS) ?_;clear hS;intro Bv Bj hS;refine Ah ?_;refine CX ?_;clear hS Aj Ae;intro z;have B1:=V<|J Hb.1 z;have ar8:=V<|aiN.1.keep z;clear z X2 BX Bf Bh CS c0 hlb;obtain⟨w1,hw1⟩:=BR Bv;subst hw1;obtain⟨b',o',hA,hlb,c0⟩:=(HR.1.mono<|J U.1 B1.1).int hlt;simp only[JU,Addr.mk.injEq,and_true]at hA;obtain⟨rfl,rfl⟩:=hA;rw[Hd.1]at c0;have X2:=ar8.1;try clear BX Bf Bh CS
 obtain⟨BX,Bf,Bh,CS,-⟩:=X2.BF;go_upto_region 9 with fail;refine CZ w1 (.run 5 0 0<|.call 5 63<|.take 6 127<|.done) λCG QR Ae Aj hS=>?_;iterate 5 refine Ah ?_
 refine BP ?_;clear hS;intro K hK AQ;go_simp;refine(JC.1 _<|J (J U.1 B1.1) AQ.out).mono ?_;rintro e Bv⟨A2,c2,rfl,Bj,ho2⟩;have hS:Since w1 Bv:=J (w:=w1) AQ.out Bj;clear AQ;refine hK.out _ _ hS λ_=>?_;clear hK K;try simp only[pu]
 refine Ah ?_;refine CX ?_;clear hS Aj Ae;intro z;have B2:=V<|J B1.1 z;obtain⟨Aq,cq,he,hq1,hq2,VW⟩:=ho2.sl;injection he with e1 e2 e3;subst e1 e3;clear e2;unfold maxLen at hq2;have jO:=V VW;clear z ho2 VW JC X2 BX Bf Bh CS c0 hlb;obtain⟨W2,hw2⟩:=BR Bv;subst hw2;have C:=Ce.1;rw[HN.1,gI]at C;replace Ce:=V C;rw[HN.1]at hq1⊢;clear C;have jM:=V λj(hj:j+1<=P.length)=>ah1 Yh.1 j<|.inl hj;go_wp2_with fail;go_loopw[5,8](λs i wx=>∃j:Nat,j<=N/\i=.int .i64 ((j:Int)+1)/\s=.int .i64 (n+Kq P j)/\AU W2 wx)λ_ i _=>N+1-(intOf i).toNat;case atStart=>exact⟨0,C9 _,rfl,by simp[Kq],bR W2⟩
 case round=>
  obtain⟨j,hj,rfl,rfl,hbx⟩:=hrel;have GV:=V hbx;clear hbx;by_cases hjl:j<N;case pos=>
   have hP1:j<P.length:=by have:=HN.1;omega
   have hP2:j+1<P.length:=by have:=HN.1;omega
   obtain⟨b1,o1,hA1,aAq,c0,c1'⟩:=(jO.1.mono GV.1).pt hP1;subst hA1;obtain⟨b2,o2,hA2,-,d0,d1⟩:=(jO.1.mono GV.1).pt hP2;simp only[JU,Addr.mk.injEq,and_true]at hA2;obtain⟨rfl,rfl⟩:=hA2;have g1:=Yh.1 _<|BG hP1;have g2:=Yh.1 _<|BG hP2;have x1:=uh g1.1 g2.2;have x2:=uh g2.1 g1.2;have tb:=jM.1 j (by have:=HN.1;omega);have M:n+Kq P (j+1)=n+Kq P j+P[j].x*P[j+1].y-P[j+1].x*P[j].y:=by rw[Kq];unfold Qj;simp only[G5,DK hP1,DK hP2,I7];omega
   have abM:=V M;have hsz:=WC.1;clear M g1 g2;generalize P[j]=p1 at*;generalize P[j+1]=p2 at*;generalize hT:Kq P j=T at*;have q1:0<=(j:Int):=I;have q2:(j:Int)<(N:Int)+1:=I;have q3:0<=(j:Int)+1:=I;have q4:(j:Int)+1<(N:Int)+1:=I;have q5:((j:Int)+1).toNat=j+1:=I;have m0:=DR (j:Int);have m1:=DR<|p1.x*p2.y;have m2:=DR<|p2.x*p1.y;have m3:=DR<|n+T+p1.x*p2.y;have m4:=DR<|n+T+p1.x*p2.y-p2.x*p1.y;clear x1 x2 tb hT hub hsz;go_upto_region 13 with fail;refine CZ wr (.run 28 0 0<|.done) λCG QR Ae Aj hS=>?_;iterate 28 refine Ah ?_
   refine CX ?_;clear hS Aj Ae;intro z;have Bx:=V<|J GV.1 z;clear z m0 m1 m2 m3 m4;go_wp2;go_roundw;case rel=>exact⟨j+1,I,BH,by rw[abM.1],Bx.1⟩
   exact BJ
  have hjj:j=N:=I;subst hjj;have Bx:=V<|J B2.1 GV.1;clear hub;go_wp2;go_roundw;case rel=>exact⟨k+1,I,BH,by rw[Ce.1],Bx.1,JK.1⟩
  exact BJ
theorem aiO{w:World}{j n:Nat}{f:Int->SV}(h:OZ w j n f){g:Nat}{t:TypeId}{cs:Array Value}(o:AO w g t cs):g≠j:=by rintro rfl;obtain⟨D,h1,-⟩:=h;obtain⟨s,c,h2,-⟩:=h1;unfold AO at o;rw[o]at h2;cases h2
theorem aiP{w:World}{j n:Nat}{f:Int->SV}(h:OZ w j n f){base:Nat}{e:TypeId}{size:Nat}{α:Type}{o:α->List Value}{v:Value}{l:List α}(ho:Own w base e size o v l):v.ownBlock≠some j:=by
 rcases ho.2 with⟨rfl,_⟩|⟨g,s,c,rfl,_,z,_⟩;.simp[Value.ownBlock]
 intro e';exact aiO h (cs:=c) (g:=g) z xO
theorem ar9{w:World}{base:Nat}{e:TypeId}{size:Nat}{α:Type}{j:α->List Value}{x:SV}{l:List α}(ho:Own w base e size j (BO x) l):x.ok:=by
 obtain⟨a,n,c⟩:=x;rcases ho.2 with⟨h,_⟩|⟨g,o,s,h,_⟩;.unfold BO at h;injection h with h1;exact .inl h1
 unfold BO at h;injection h with h1;exact .inr ⟨g,0,h1⟩
structure Qk(w:World)(b:Nat)(p:Pl)(f:Int->SV):Prop where
 mp:∃n,OZ w b n f
 rd:∀a∈p.AP,EL w (BO<|f a.id)<|AV p a
theorem Qk.keep{w w':World}{b:Nat}{p:Pl}{f:Int->SV}(h:Qk w b p f)(hb:AU w w'):Qk w' b p f:=by obtain⟨⟨n,h1⟩,h2⟩:=h;exact⟨⟨n,h1.keep hb⟩,λa c=>(h2 a c).mono hb⟩
theorem Qk.lt{w:World}{b:Nat}{p:Pl}{f:Int->SV}(h:Qk w b p f):b<w.heap.size:=by obtain⟨⟨n,h1⟩,h2⟩:=h;exact h1.lt
def aqa(w:World)(p:Pl)(e:Ending)(w':World):Prop:=∃b f,e=.returned (.map<|some b)/\AU w w'/\w.heap.size<=b/\Qk w' b p f
theorem aiQ(v:Value)(p:Pl)(w:World)(h:Cj w v p)(hv:Valid p):Calls prog 77 #[v] w<|aqa w p:=by
 have JC:=V λid W(hW:AU w W)=>aD1 v p id W (h.mono hW) hv.short;obtain⟨_,_,_,al,rfl,K,⟨An,cn,rfl,-⟩,⟨⟨Aa,ca,rfl,hm1,hm2,G6⟩,TB⟩,⟨Af,cf,rfl,-⟩⟩:=h;unfold maxLen at hm2;have IU:=V G6;have ou:=V TB;have hall:al.length<=256:=by have hl:=hv.lim;unfold Jr at hl;simp only[Rl,IL]at hl;have h2:=hl.2;rw[K,D6]at h2;omega
 have Iy:=V (show∀k(hk:k<al.length),al[k].1∈p.AP fromλk hk=>by rw[K];exact H6<|BG hk);have Nv:=V (show∀a∈p.AP,∃k,∃hk:k<al.length,al[k].1=a fromλa ha=>by rw[K]at ha;obtain⟨x,hx,rfl⟩:=EP.1 ha;obtain⟨k,hk,rfl⟩:=Dy.1 hx;exact⟨k,hk,rfl⟩);have Yj:=V λk(hk:k<al.length)=>hv.sound.path<|Iy.1 k hk;have HIb:=V λk(hk:k<al.length)=>hv.IB<|Iy.1 k hk;have ZI:=V (show∀j k(s:j<al.length)(hk:k<al.length),j<k->al[j].1.id≠al[k].1.id fromλj k s hk c e=>by have h1:=hv.sound.AP;rw[K,KP,H9,FT]at h1;have:=h1 j k s hk c;simp only[Function.comp]at this;omega);generalize p.nodes.length=nn at*;generalize p.faces.length=nf at*;clear K G6 TB hv;have hmm:=@run_makeMap prog;go_enter func77,ntmps77;go_upto_region 2 with fail;obtain⟨gm,hgm⟩:=BR<|w.heap.size+1;obtain⟨W1,hW⟩:∃W:World,W=(w.alloc<|.cells #[.slice An nn cn,.slice Aa al.length ca,.slice Af nf cf] 26).alloc (.map #[] 0):=⟨_,rfl⟩;have U:AO W1 w.heap.size 26 #[.slice An nn cn,.slice Aa al.length ca,.slice Af nf cf]:=by rw[hW];exact(AO.made rfl _ _).alloc _
 have MO:=V (show OZ W1 gm 0<|λ_=>sv0 by have:=OZ.made<|w.alloc<|.cells #[.slice An nn cn,.slice Aa al.length ca,.slice Af nf cf] 26;rw[hW,hgm];simpa using this);have HB1:=V (show AU w W1 by rw[hW];exact bA (bA (bR w) _) _);have hgl:w.heap.size<gm:=I;rw[<-hW,<-hgm];clear hW hgm hmm;have DU:=V U;obtain⟨Au,Aw,Az,BA,-⟩:=U.BF;go_upto_block 0 with fail;clear U Au Aw Az BA;go_wp2_with fail;go_loopw[12](λi wr=>∃(k:Nat)(f:Int->SV),k<=al.length/\i=.int .i64 k/\OZ wr gm k f/\(∀j(s:j<al.length),j<k->Own wr w.heap.size 50 2 Ep (BO<|f al[j].1.id) (AV p al[j].1))/\AO wr w.heap.size 26 #[.slice An nn cn,.slice Aa al.length ca,.slice Af nf cf]/\AU w wr)λi _=>al.length-(intOf i).toNat;case atStart=>exact⟨0,λ_=>sv0,C9 _,rfl,MO.1,λj _ h=>I,DU.1,HB1.1⟩
 obtain⟨k,f,hk,rfl,mp,own,U,hb⟩:=hrel;obtain⟨wo,rfl⟩:=BR wr;obtain⟨HM,HO,HX,Hb⟩:=D9 mp own U hb;have hzo:=hb.size;have hgo:=mp.lt;clear mp own hb DU MO HB1;by_cases hlt:k<al.length
 .obtain⟨b,o,rfl,hlb,c0,c1,c2,c3,c4,c5⟩:=(IU.1.mono Hb.1).ar hlt;obtain⟨Av,cv,hvv,-⟩:=ou.1 k hlt;rw[hvv]at c3;have hpo:=Yj.1 k hlt;have hib:=HIb.1 k hlt;have hne:=λj s c=>ZI.1 j k s hlt c;have M:=JC.1 al[k].1.id;rw[hpo]at M;have HP:=V (show∀(f:Int->SV)W,(∀j(s:j<al.length),j<k->Own W w.heap.size 50 2 Ep (BO<|f al[j].1.id) (AV p al[j].1))->Own W w.heap.size 50 2 Ep (BO<|f al[k].1.id) (AV p al[k].1)->∀j(s:j<al.length),j<k+1->Own W w.heap.size 50 2 Ep (BO<|f al[j].1.id) (AV p al[j].1)fromλf W h1 h2 j s c=>by
   by_cases e:j=k;.subst e;exact h2
   exact h1 j s I);have KI:=V hne;clear hvv hpo hne;generalize al[k].1=a at*;generalize AV p a=P at*;obtain⟨z,afr,abP,aqb,abQ,C⟩:=a;simp only at c0 c1 c2 c3 c4 c5 hib M HP KI;generalize aqb.length=vn at*;have XP:=V M;clear M;go_upto_region 5 with fail;obtain⟨W5,hW⟩:∃W:World,W=wo.alloc (.cells #[.int .i64 z,.int .i64 afr,.int .i64 abP,.slice Av vn cv,.int .i64 abQ,.int .i64 C] 31):=⟨_,rfl⟩;have HA:=V (show AU wo W5 by rw[hW];exact bA (bR wo) _);have X5:AO W5 wo.heap.size 31 #[.int .i64 z,.int .i64 afr,.int .i64 abP,.slice Av vn cv,.int .i64 abQ,.int .i64 C]:=by rw[hW];exact AO.made rfl _ _
  rw[<-hW];clear hW c0 c1 c2 c3 c4 c5 hlb;replace U:=HX.1.keep HA.1;obtain⟨CJ,CO,CQ,Gi,Vo,tV,tX,-⟩:=X5.J9;try clear Au Aw Az BA
  obtain⟨Au,Aw,Az,BA,-⟩:=U.BF;go_wp2_with fail;refine(XP.1 _<|J Hb.1 HA.1).mono ?_;rintro e w6⟨A6,c6,rfl,T,XU⟩;simp only[I7,Xh,if_true]at XU⊢;obtain⟨EG,MP,D5⟩:=CB (J HA.1 T) XU<|show AO W5 wo.heap.size 31 #[.int .i64 z,.int .i64 afr,.int .i64 abP,.slice Av vn cv,.int .i64 abQ,.int .i64 C]from X5;have X6:=D5.1.keep T;have XV:=V<|HM.1.keep EG.1;have QU:=HA.1.size;have oz:=T.size;clear T XU X5 CJ CO CQ Gi Vo tV tX U Au Aw Az BA D5;obtain⟨w7,hr7,hm7,GR⟩:=XV.1.upd I z (L8 I I) ⟨A6,P.length,c6⟩<|ar9 (x:=⟨A6,P.length,c6⟩) MP.1;have HM7:=V hm7;have nX:=λ(h:gm=w.heap.size)=>(show False by omega);have Jg:=V<|AO.grow (HX.1.keep EG.1) GR<|λe=>aiO XV.1 (HX.1.keep EG.1)<|Dn e;have jQ:=V<|show Own w7 w.heap.size 50 2 Ep (BO ⟨A6,P.length,c6⟩) P from Own.grown (Own.EN MP.1 I) GR<|λg hg e=>aiP XV.1 MP.1<|hg.trans e;have VX:=V<|show∀j(s:j<al.length),j<k->Own w7 w.heap.size 50 2 Ep (BO<|f al[j].1.id) (AV p al[j].1)fromλj s c=>Own.grown ((HO.1 j s c).keep EG.1) GR<|λg hg e=>aiP XV.1 ((HO.1 j s c).keep EG.1)<|hg.trans e;have Gw:=V<|bG (J Hb.1 EG.1) GR (λg hg=>by have:=Dn hg;omega);unfold BO at hr7;clear hm7 GR nX;obtain⟨EW,EX,EY,Ov,Ub,tK,tN,-⟩:=X6.J9;go_wp2;go_roundw;case rel=>exact⟨k+1,λi=>if i=z then⟨A6,P.length,c6⟩else f i,I,BH,HM7.1,HP.1 (λi=>if i=z then⟨A6,P.length,c6⟩else f i) w7 (λj s c=>by show Own w7 _ _ _ _ (BO<|if _=z then _ else _) _;rw[AX<|KI.1 j s c];exact VX.1 j s c)<|by show Own w7 _ _ _ _ (BO<|if z=z then _ else _) _;rw[AZ rfl];exact jQ.1,Jg.1,Gw.1⟩
  exact BJ
 obtain rfl:k=al.length:=I;go_wp2;go_ret;exact⟨gm,f,rfl,Hb.1,I,⟨_,HM.1⟩,λa ha=>by obtain⟨j,s,rfl⟩:=Nv.1 a ha;exact(HO.1 j s s).sl⟩
theorem Gs{B:Nat}{W w:World}(c:B<=W.heap.size)(h:Below B W w)(o:Obj):Below B W<|w.alloc o:=h.alloc (Du c h.size) o
theorem Na{B b i:Nat}{W w:World}(h:Below B W w)(hb:B<=b)(u:Value):Below B W<|w.setCell ⟨b,i,none⟩ u:=h.setCell (p:=⟨b,i,none⟩) hb u
def lenV:Value->Nat|.slice _ n _=>n|_=>0
def VY(S:Int->Bool)(l:List Int)(x:Int):Bool:=S x||decide (x∈l)
theorem aqc(S:Int->Bool):VY S []=S:=by funext x;simp[VY]
theorem aqd(S:Int->Bool)(l:List Int)(y:Int):(λi=>if i=y then true else VY S l i)=VY S (l++[y]):=by
 funext x;unfold VY;by_cases e:x=y;.subst e;simp
 simp[e]
theorem aqe{f:Int->Int}{D:List Int}(hD:∀x∈D,f x∈D)(hi:∀x∈D,∀y∈D,f x=f y->x=y){x:Int}(o:x∈D){j:Nat}(s:j<MS f D x):pw f x j∉iter f x j/\pw f x j∈Jz f D x:=by
 obtain⟨-,-,-,-,c,-⟩:=Xt hD hi o;constructor;.intro hm;obtain⟨k,hk,e⟩:=Ws.1 hm;unfold Jz List.Nodup at c;rw[FT]at c;have:=c k j (by rw[Xj];omega) (by rw[Xj];omega) hk;rw[nP,nP]at this;exact this e
 exact Ws.2 ⟨j,s,rfl⟩
theorem aqf{f:Int->Int}{D:List Int}(hD:∀x∈D,f x∈D)(hi:∀x∈D,∀y∈D,f x=f y->x=y){x:Int}(c:x∈D):pw f x (MS f D x)∈Jz f D x:=by obtain⟨h1,-,h3,-⟩:=Xt hD hi c;rw[h3];exact Ws.2 ⟨0,h1,rfl⟩
def aqg(w:World)(gm n:Nat)(S:Int->Bool)(l:List Int)(e:Ending)(w':World):Prop:=∃A c,e=.returned (.slice A l.length c)/\Own w' w.heap.size 3 1 DF (.slice A l.length c) l/\NQ w' gm (n+l.length) (VY S l)/\w.grownBy w' (some gm)
theorem aAs{w:World}{j n:Nat}{f:Int->Bool}(h:NQ w j n f){g:Nat}{t:TypeId}{cs:Array Value}(o:AO w g t cs):g≠j:=by rintro rfl;obtain⟨D,h1,-⟩:=h;obtain⟨s,c,h2,-⟩:=h1;unfold AO at o;rw[o]at h2;cases h2
theorem uM{w:World}{j n:Nat}{f:Int->Bool}(h:NQ w j n f){base:Nat}{e:TypeId}{size:Nat}{α:Type}{o:α->List Value}{v:Value}{l:List α}(ho:Own w base e size o v l):v.ownBlock≠some j:=by
 rcases ho.2 with⟨rfl,_⟩|⟨g,s,c,rfl,_,z,_⟩;.simp[Value.ownBlock]
 intro e';exact aAs h (cs:=c) (g:=g) z xO
theorem Own.Il{α:Type}{w:World}{base:Nat}{e:TypeId}{size:Nat}{f:α->List Value}{v:Value}{l:List α}(h:Own w base e size f v l):∃A c,v=.slice A l.length c/\l.length<=c/\c<=maxLen:=by obtain⟨A,c,rfl,h1,h2,-⟩:=Own.sl h;exact⟨A,c,rfl,h1,h2⟩
theorem aqh(f:Int->Int)(D:List Int)(hD:∀x∈D,f x∈D)(hi:∀x∈D,∀y∈D,f x=f y->x=y)(o:Int->Int)(hF:∀x∈D,o x=f x)(hw:∀x∈D,Eb x)(hl:D.length<=100000)(S:Int->Bool)(d:Int)(hd:d∈D)(hS:∀x∈Jz f D d,S x=false)(gs gn U gk n m:Nat)(w:World)(hn:n<=1000000)(h1:AO w gs 83 #[.map<|some U])(h2:AO w gn 113 #[.map<|some gk])(hm:NQ w U n S)(hk:IC w gk m o)(hne:U≠gk):Calls prog 132 #[.int .i64 d,.pointer<|some ⟨gs,0,none⟩,.pointer<|some ⟨gn,0,none⟩] w<|aqg w U n S<|Jz f D d:=by
 obtain⟨o1,o2,o3,-,-,o6⟩:=Xt hD hi hd;obtain⟨q,hq⟩:=BM<|Jz f D d;have ahb:iter f d (MS f D d)=q:=hq;have ahc:=V λj(hj:j<MS f D d)=>aqe hD hi hd hj;have Rw:=V λj=>Zi (f:=f) hD hd j;have C:=aqf hD hi hd;rw[hq]at o6 hS C ahc⊢;obtain⟨HF,HW,HS,aEK,HIt,HLq⟩:=Lp hF hw hS C ahb o6;clear hF hw hS C ahb o6 o3 hD hi hq hd;generalize MS f D d=N at*;obtain⟨Hm0,Hk0,H1,H2⟩:=D9 hm hk h1 h2;have n1:=aAs hm h1;have n2:=aAs hm h2;have hlt1:=h1.lt;have hlt2:=h2.lt;have ayv:=hm.lt;have hltk:=hk.lt;clear hm hk h1 h2;go_enter func132,ntmps132;go_wp2_with fail;go_loopw[0,4](λx s wr=>∃j:Nat,j<=N/\x=.int .i64 (pw f d j)/\(∃A c,s=.slice A j c)/\Own wr w.heap.size 3 1 DF s (iter f d j)/\NQ wr U (n+j) (VY S<|iter f d j)/\w.grownBy wr (some U))λ_ s _=>N-lenV s;case atStart=>exact⟨0,C9 _,rfl,⟨none,0,rfl⟩,Own.nil _ _ _ _ _,by rw[show iter f d 0=[]from rfl,aqc];exact Hm0.1,gR w _⟩
 obtain⟨j,hj,rfl,⟨A,c,rfl⟩,own,mp,hg⟩:=hrel;obtain⟨HO,HM,HG⟩:=CB own mp hg;have X1:=H1.1.grow hg λe=>n1<|Dn e;have rX:w.heap.size<=wr.heap.size:=hg.size;clear own mp hg;obtain⟨y,hy⟩:=BM<|pw f d j;have hym:=Rw.1 j;have hy2:f y=pw f d (j+1):=by rw[<-hy];rfl
 have hFy:o y=pw f d (j+1):=by rw[<-hy2];exact HF.1 y<|hy▸hym
 have hwy:Eb y:=HW.1 y<|hy▸hym;have abR:=ahc.1 j;have hlk:=HM.1.look y hwy;rw[hy]at abR⊢;obtain⟨HY,HFy,HWy,HN⟩:=D9 hy hFy hwy abR;clear hym hy2 hFy hwy abR;by_cases hlt:j<N
 .have hsf:VY S (iter f d j) y=false:=by unfold VY;have h:=HN.1 hlt;rw[HS.1 y h.2];simpa using h.1
  rw[hsf]at hlk;obtain⟨w3,hr3,RS,K⟩:=HM.1.upd I y HWy.1 true;rw[aqd]at RS;have hsn:iter f d j++[y]=iter f d (j+1):=by rw[aaL,HY.1]
  rw[hsn]at RS;obtain⟨Qy,TG,Eo⟩:=CB RS (gT HG.1 K)<|Own.grown HO.1 K<|λg' hg' e=>uM HM.1 HO.1 (by rw[hg',e]);have hsz3:wr.heap.size<=w3.heap.size:=K.size;have pF:=V hsn;clear hsf RS K hsn hy;obtain⟨Au,Aw,-⟩:=X1.G7;go_upto_region 3 with fail;clear hlk hr3 X1 Au Aw;go_upto_region 4 with(at_builtin;refine FV _ rfl (.tmp 11) (.tmp 13) _ rfl (base:=w.heap.size) J3 IV J4 rfl (Own.alloc Eo.1 _) rfl (l2:=[y]) (Sl.lit (n:=1) (AO.made rfl _ _) rfl<|DC I) aDV aDV D8 ?_;intro v1 w1 M z Ui;rw[pF.1]at M;obtain⟨A1,c1,hv1,-⟩:=Own.Il M;rw[Xj]at hv1;subst hv1;have Ko:=V M;have T:=Eo.1.lt;have hG1:w.grownBy w1<|some U:=⟨by rw[z.os];exact TG.out.os,by rw[z.tape];exact TG.out.tape,by rw[z.output];exact TG.out.output,Du TG.out.size<|Du Ak z.size,λi hi hne=>by rw[z.block i (by simp;have:=TG.out.size;omega) λe=>by have:=(T i e.symm).1;omega,<-TG.out.block i hi hne];exact(bA (bR w3)<|.cells #[.int .i64 y] 3).block i<|by have:=TG.out.size;omega⟩;have aAt:=V hG1;have MO:=V<|(Qy.1.keep<|bA (bR w3)<|.cells #[.int .i64 y] 3).kept z<|λe=>uM Qy.1 Eo.1 e.symm;clear M z Ui hG1 T);have X2:=H2.1.grow aAt.1 λe=>n2<|Dn e;have hlk2:=(Hk0.1.kept aAt.1<|λe=>hne (Dn e).symm).look y HWy.1;rw[HFy.1]at hlk2;obtain⟨BX,Bf,-⟩:=X2.G7;go_wp2;go_roundw;case rel=>exact⟨j+1,I,rfl,⟨A1,c1,rfl⟩,Ko.1,MO.1,aAt.1⟩
  simp only[lenV];omega
 have hjN:j=N:=I;subst hjN;have hst:VY S (iter f d j) y=true:=by unfold VY;have h:=aEK.1;rw[HY.1,<-HIt.1]at h;simp[h]
 rw[hst]at hlk;clear hst;try clear Au Aw
 obtain⟨Au,Aw,-⟩:=X1.G7;go_wp2;go_ret;rw[HIt.1]at HO HM;have hL:=HLq.1;have ho:=HO.1;have hm:=HM.1;subst hL;exact⟨A,c,rfl,ho,hm,HG.1⟩
theorem aEL(l:List Int)(j:Nat):(l.flatMap DF)[j]?=l[j]?.map (.int .i64 ·):=by induction l generalizing j with|nil=>simp|cons a l c=>rw[LC];cases j with|zero=>rfl|succ j=>show(.int .i64 a::l.flatMap DF)[j+1]?=_;rw[List.getElem?_cons_succ,c,List.getElem?_cons_succ]
theorem aEM(l:List Int):(l.flatMap DF).length=l.length:=by have:=flat_length DF 1 IV l;omega
def ahd(w:World)(base:Nat)(v:Value)(sl:List Int)(e:Ending)(w':World):Prop:=e=.returned (.tuple #[])/\Own w' base 3 1 DF v sl/\w.grownBy w' v.ownBlock
open Go.RowKit Go.Sort
def jR(lt:Int->Int->Bool)(x y:Int):Int:=if lt x y then-1 else if lt y x then 1 else 0
section
variable{α:Type}[Inhabited α](enc:α->Value)(w:World)
theorem abS(blk off m:Nat)(c:Array α)(j:Array Obj):(sortWorld enc w blk off m c j).heap=w.heap.modify blk (onCells<|putCells enc off c)++j:=rfl
theorem ahe(blk off m:Nat)(o:Array α)(s:Array Obj):w.grownBy (sortWorld enc w blk off m o s)<|some blk:=by
 refine⟨rfl,rfl,rfl,?_,λi hi j=>?_⟩;.rw[abS];simp
 have c:blk≠i:=λe=>j Rf;rw[abS,Array.getElem?_append_left qj,Array.getElem?_modify,AX c]
end
def aAu(lt:Int->Int->Bool)(D:List Int)(x y:{x:Int//x∈D}):Int:=jR lt x.1 y.1
theorem aEN{lt:Int->Int->Bool}{D:List Int}(x y:{x:Int//x∈D}):ltOf (aAu lt D) x y=lt x.1 y.1:=by
 unfold ltOf aAu jR;cases h1:lt x.1 y.1;.cases h2:lt y.1 x.1<;>simp
 simp
theorem aqi{lt:Int->Int->Bool}{D:List Int}(ho:dw lt D):SWO<|ltOf<|aAu lt D where
 irrefl x:=by
  rw[aEN];cases h:lt x.1 x.1;.rfl
  have:=ho.asym _ x.2 _ x.2 h;rw[h]at this;cases this
 trans x y z h1 h2:=by
  rw[aEN]at*;cases h:lt x.1 z.1;.have h3:=ho.asym _ y.2 _ z.2 h2;have:=ho.ntr _ x.2 _ z.2 _ y.2 h h3;rw[h1]at this;cases this
  rfl
 ntrans x y z h1 h2:=by rw[aEN]at*;exact ho.ntr _ x.2 _ y.2 _ z.2 h1 h2
theorem as1(base:Nat)(v:Value)(sl:List Int)(lt:Int->Int->Bool)(fn:Nat)(cb:Array Value)(w:World)(C:Own w base 3 1 DF v sl)(ho:dw lt sl)(hn:sl.length<=4294967296)(eg:∀args w,(callFunc fn args).run prog w=.ok (.enter fn args) w)(hc:∀W,w.grownBy W v.ownBlock->∀x∈sl,∀y∈sl,Calls prog fn (#[.int .i64 x,.int .i64 y]++cb) W λe w'=>e=.returned (.int .i64<|jR lt x y)/\Nj W w'):Calls prog 183 #[v,.func (.func fn) #[] cb] w<|ahd w base v<|sortB lt sl:=by
 rcases sl with _|⟨s0,rest⟩
 .have hv:∃p s,v=.slice p 0 s:=by
   rcases C.2 with⟨h,_⟩|⟨g,s,z,h,_⟩;.exact⟨_,_,h⟩
   exact⟨_,_,h⟩
  obtain⟨p,s,rfl⟩:=hv;refine Calls.mono (AnyF.slices_SortFunc_none {Tryz.sortIn with} p s (.func (.func fn) #[] cb) w) ?_;rintro e w'⟨rfl,rfl⟩;exact⟨rfl,C,World.grownBy.refl _ _⟩
 generalize hsl:s0::rest=sl at*;have hs0:s0∈sl:=by rw[<-hsl];simp
 have hpos:0<sl.length:=by rw[<-hsl];simp
 obtain⟨hlen,hown2⟩:=C;rcases hown2 with⟨_,h0⟩|⟨g,s,z,rfl,hg,hh,hnc,hcm,hcs,hx⟩;.omega
 haveI hI:Inhabited {x:Int//x∈sl}:=⟨⟨s0,hs0⟩⟩;have K:∃c:List {x:Int//x∈sl},c.map (·.1)=sl:=⟨sl.attachWith (·∈sl) λ_ h=>h,Ak⟩;obtain⟨c,K⟩:=K;have hdn:c.length=sl.length:=by have:=congrArg List.length K;simpa using this
 have hcur:∀j,j<sl.length->z[j]?=sl[j]?.map (.int .i64 ·):=λj T=>by rw[<-aEL,<-hx,List.getElem?_take,AZ I];simp
 let enc:{x:Int//x∈sl}->Value:=λx=>.int .i64 x.1;have hcmp:CmpLays1 prog fn cb enc (aAu lt sl) g 0 c.toArray.size w:=λm os dk hdk x y=>by have hg':=ahe enc w g 0 m dk os;exact(hc _ hg' x.1 x.2 y.1 y.2).mono λe w' h=>⟨h.1,zT h.2⟩
 have hget:∀j,j<c.length->sl[j]?=some c.toArray[j]!.1:=λj T=>by
  have e1:c.toArray[j]! =c[j]:=by rw[getElem!_pos c.toArray j<|by simpa using T];simp
  rw[e1];have:sl[j]?=(c.map (·.1))[j]?:=by rw[K]
  rw[this,List.getElem?_map,DK T];rfl
 have hH:Holds enc w g 0 c.toArray:=λj T=>by
  have U:j<c.length:=by simpa using T
  refine⟨?_,AO.frozen (t:=3) (cs:=z) hh _⟩;rw[cell_of_row w g _ z 3 (0,0) hh,Rk,hcur j I,hget j U];rfl
 have hcon:=Any.slices_SortFunc Tryz.sortIn enc (λ_=>rfl) (aAu lt sl) (aqi ho) fn cb g 0 s c.toArray w eg hcmp hH (AO.lt hh) D8;have hns:c.toArray.size=sl.length:=by simp[hdn]
 rw[hns]at hcon;refine Calls.mono hcon ?_;rintro e w'⟨rfl,o,n,os,hp,hs,rfl⟩;obtain⟨p1,-,p3⟩:=hp;have hd':o.size=sl.length:=by rw[p1,hns]
 have hperm:o.toList.Perm c:=by
  have e1:o.extract 0 sl.length=o:=by rw[<-hd'];simp
  have e2:c.toArray.extract 0 sl.length=c.toArray:=by rw[<-hns];simp
  rw[e1,e2]at p3;simpa using p3
 have as2:(o.toList.map (·.1)).Perm sl:=by have h1:(o.toList.map (·.1)).Perm (c.map (·.1)):=hperm.map _;exact h1.trans<|List.Perm.of_eq K
 have M:(o.toList.map (·.1)).Pairwise λa b=>lt b a=false:=by
  rw[H9,FT];intro i j hi T hij;have U:j<o.size:=by simpa using T
  have:=hs i j (C9 _) hij (by rw[<-hd'];exact U);rw[aEN,getElem!_pos o j U,getElem!_pos o i I]at this;simpa using this
 have hd2:o.toList.map (·.1)=sortB lt sl:=aon ho as2 M;refine⟨rfl,?_,ahe enc w g 0 n o os⟩;rw[<-hd2];have hl':(o.toList.map (·.1)).length=sl.length:=by simp[hd']
 unfold Own;rw[hl'];refine⟨by rw[aEM,hl'];omega,.inr ⟨g,s,putCells enc 0 o z,rfl,hg,?_,hnc,hcm,xZ,?_⟩⟩;.have hgl:g<w.heap.size:=AO.lt hh;rw[abS,Array.getElem?_append_left<|by simpa using hgl,Array.getElem?_modify,AZ rfl,hh];rfl
 apply qw;intro j;rw[List.getElem?_take];by_cases T:j<sl.length*1
 .rw[AZ T];have hjc:j<z.size:=by rw[hcs];omega
  have hjd:j<o.size:=by rw[hd'];omega
  rw[aEL,List.getElem?_map];have e1:(putCells enc 0 o z).toList[j]?=some (enc o[j]!):=by simp[putCells,hjc,hjd]
  rw[e1,getElem!_pos o j hjd,Array.getElem?_toList,Array.getElem?_eq_getElem hjd];rfl
 rw[AX T,aN<|by rw[aEM,hl'];omega]
theorem as3(v:Value)(l:List Pt)(w:World)(h:EL w v l):Calls prog 92 #[v] w λe w'=>e=.returned (.bool<|ES l)/\Nj w w':=by
 obtain⟨A,c,rfl,hn,hc,T⟩:=h;unfold maxLen at hc;go_enter func92,ntmps92;go_wp2_with fail;go_loopw[7](λi wr=>∃k:Nat,k<=l.length/\i=.int .i64 k/\Nj w wr/\∀j(U:j<l.length),j<k->Bl l[j]=true)λi _=>l.length-(intOf i).toNat;case atStart=>exact⟨0,C9 _,rfl,⟨Below.refl _ _,dR w⟩,λj _ h=>I⟩
 obtain⟨k,hk,rfl,hb,s⟩:=hrel;obtain⟨K,M,z⟩:=CB hb.1 hb.2 s;have hs:=hb.1.size;clear hb s;by_cases hlt:k<l.length
 .obtain⟨b,o,rfl,hlb,c0,c1⟩:=(T.mono K.1).pt hlt;clear T;by_cases hnr:Bl l[k]=true
  .have Hn:=V hnr;obtain⟨n1,n2,n3,n4⟩:=(QO _).1 hnr;clear hnr;go_wp2;go_roundw;case rel=>exact⟨k+1,I,BH,⟨K.1.alloc hs _,dA M.1 _⟩,all_succ (p:=λx=>Bl x=true) z.1 hlt Hn.1⟩
   exact BJ
  have C:Bl l[k]=false:=by simpa using hnr
  have Hf:=V<|ab5 l k hlt C;clear C;have zA:=V hnr;clear hnr;go_wp2;all_goals first|(go_ret;exact⟨Cm Hf.1.symm,K.1.alloc hs _,dA M.1 _⟩)|(exfalso;exact zA.1<|(QO _).2 ⟨I,I,I,I⟩)
 go_wp2;go_ret;exact⟨Cm (ab6 l λj U=>z.1 j U I).symm,K.1,M.1⟩
theorem as4(a b c:Pt)(w:World)(j:lim a)(hb:lim b)(o:lim c):Calls prog 93 #[BD a,BD b,BD c] w λe w'=>e=.returned (.int .i64<|tw a b c)/\Nj w w':=by obtain⟨a1,M,T,U⟩:=j;obtain⟨b1,b2,b3,b4⟩:=hb;obtain⟨c1,c2,c3,c4⟩:=o;obtain⟨s,z⟩:=Rz (b.x-a.x) (c.y-a.y) 4194304 I I I I;obtain⟨C,K⟩:=Rz (b.y-a.y) (c.x-a.x) 4194304 I I I I;simp only[Int.reduceMul,Int.reduceNeg]at s z C K;unfold BD;go_enter func93,ntmps93;go_wp2;go_ret;exact⟨DZ rfl,(((Below.refl _ _).alloc (Dh _) _).alloc Ak _).alloc D8 _,dA (dA (dA (dR w) _) _) _⟩
theorem ahf(o p:Pt)(w:World):Calls prog 235 #[BD o,BD p] w λe w'=>e=.returned (.bool<|Xm o p)/\Nj w w':=by
 unfold BD Xm;by_cases h1:p.y<o.y;.go_enter func235,ntmps235;go_wp2;go_ret;exact⟨Cm<|by simp[h1],bA (bA (bR w) _) _,dA (dA (dR w) _) _⟩
 by_cases h2:p.y=o.y
 .have j:(p.y==o.y)=true:=by simpa using h2
  have c:=V h2;clear h2;by_cases h3:p.x<o.x;.go_enter func235,ntmps235;go_wp2;go_ret;exact⟨Cm<|by simp[h1,c.1,h3],bA (bA (bR w) _) _,dA (dA (dR w) _) _⟩
  go_enter func235,ntmps235;go_wp2;go_ret;exact⟨Cm<|by simp[h1,c.1,h3],bA (bA (bR w) _) _,dA (dA (dR w) _) _⟩
 have j:(p.y==o.y)=false:=by simpa using h2
 have c:=V h2;clear h2;go_enter func235,ntmps235;go_wp2;go_ret;exact⟨Cm<|by simp[h1,c.1],bA (bA (bR w) _) _,dA (dA (dR w) _) _⟩
theorem abT{p:Pt}(h:Bl p=true):lim p:=(QO p).1 h
theorem Yk{a b c:Pt}(h:ES [a,b,c]=true):lim a/\lim b/\lim c:=by simp only[ES,aCM,aDb,aCN,EC]at h;exact⟨abT h.1,abT h.2.1,abT h.2.2⟩
theorem ahg(o a b:Pt)(w:World):Calls prog 185 #[BD o,BD a,BD b] w λe w'=>e=.returned (.bool<|UW o a b)/\Nj w w':=by
 have TN:=λ(v:Value)W=>as3 v [o,a,b] W;have pG:=λW=>ahf o a W;have pI:=λW=>ahf o b W;have TT:=λ(h:ES [o,a,b]=true)W=>as4 o a b W (Yk h).1 (Yk h).2.1 (Yk h).2.2;have E1:=Vd a o;have E2:=Vd b o;obtain⟨r,c⟩:=BM<|UW o a b;rw[c];unfold UW at c;unfold BD at pG pI TT⊢;obtain⟨HN,H1,H2,HT⟩:=D9 TN pG pI TT;clear TN pG pI TT;generalize hz:ES [o,a,b]=z at*;generalize decide (a=o)=z1 at*;generalize decide (b=o)=z2 at*;generalize hl1:Xm o a=T at*;generalize M:Xm o b=l2 at*;generalize hq:decide (0<tw o a b)=q at*;obtain⟨Hr,Hq,Hz⟩:=CB c hq hz;clear c hq hz hl1 M;go_enter func185,ntmps185;go_wp2_with fail;have TI:FK<|EL ((((w.alloc<|.cells #[.int .i64 o.x,.int .i64 o.y] 50).alloc<|.cells #[.int .i64 a.x,.int .i64 a.y] 50).alloc<|.cells #[.int .i64 b.x,.int .i64 b.y] 50).alloc<|.cells #[.int .i64 o.x,.int .i64 o.y,.int .i64 a.x,.int .i64 a.y,.int .i64 b.x,.int .i64 b.y] 50) (.slice (some ⟨w.heap.size+1+1+1,0,none⟩) 3 3) [o,a,b]:=V<|EL.gV<|AO.made Ak _ _;refine(HN.1 _ _ TI.out).mono ?_;rintro e w1⟨rfl,j,U⟩;obtain⟨B1,D1,FN,D7,D5⟩:=G9 (J (bA (bA (bA (bA (bR w) _) _) _) _) j) (dT (dA (dA (dA (dA (dR w) _) _) _) _) U) (show AO w1 w.heap.size 50 #[.int .i64 o.x,.int .i64 o.y]from((((AO.made rfl _ _).alloc _).alloc _).alloc _).keep j) (show AO w1 (w.heap.size+1) 50 #[.int .i64 a.x,.int .i64 a.y]from(((AO.made Ak _ _).alloc _).alloc _).keep j)<|show AO w1 (w.heap.size+1+1) 50 #[.int .i64 b.x,.int .i64 b.y]from((AO.made Ak _ _).alloc _).keep j;clear j U TI HN;have X3:=FN.1;have X4:=D7.1;have X5:=D5.1;obtain⟨E5,Em,Ew,-⟩:=X3.BL;obtain⟨Bg,Bq,CP,-⟩:=X4.BL;obtain⟨CJ,CO,CQ,-⟩:=X5.BL;cases z;case false=>go_wp2;go_ret;exact⟨Cm aI,B1.1,D1.1⟩
 cases z1;case true=>go_wp2;go_ret;exact⟨Cm aI,B1.1,D1.1⟩
 cases z2;case true=>go_wp2;go_ret;exact⟨Cm aI,B1.1,D1.1⟩
 have c:=Hr.1;simp only[Z8,aDw]at c;have HT2:=V<|HT.1 rfl;clear HT Hr Hz;go_upto_region 3 with fail;refine CZ w1 (.take 0 1<|.take 1 3<|.take 3 11<|.take 4 27<|.call 2 31<|.call 5 63<|.take 6 127<|.done) λCG QR Ae Aj hS=>?_;iterate 4 refine Ah ?_
 refine BP ?_;clear hS;intro K hK AQ;go_simp;refine(H1.1 _).mono ?_;rintro e Bv⟨rfl,Bj,ahh⟩;have hS:Since w1 Bv:=J (w:=w1) AQ.out Bj;clear AQ;refine hK.out _ _ hS λ_=>?_;clear hK K;try simp only[pu]
 refine BP ?_;clear hS;intro K hK AQ;go_simp;refine(H2.1 _).mono ?_;rintro e wr2⟨rfl,F5,ahi⟩;have hS:Since w1 wr2:=J (w:=w1) AQ.out F5;clear AQ;refine hK.out _ _ hS λ_=>?_;clear hK K;try simp only[pu]
 refine Ah ?_;refine CX ?_;clear hS Aj Ae;intro hB;have B2:=V<|J B1.1 hB;have D2:=V<|dT (dT (dD D1.1) ahh) ahi;replace FN:=V<|FN.1.keep hB;replace D7:=V<|D7.1.keep hB;replace D5:=V<|D5.1.keep hB;clear hB ahh ahi X3 X4 X5 E5 Em Ew Bg Bq CP CJ CO CQ;have X3:=FN.1;have X4:=D7.1;have X5:=D5.1;try clear E5 Em Ew
 obtain⟨E5,Em,Ew,-⟩:=X3.BL;try clear Bg Bq CP
 obtain⟨Bg,Bq,CP,-⟩:=X4.BL;try clear CJ CO CQ
 obtain⟨CJ,CO,CQ,-⟩:=X5.BL;by_cases hl:T=l2;.subst hl;rw[AZ rfl]at c;have Hr:=V c;clear c;cases T;all_goals go_wp2_with fail;refine(HT2.1 _).mono ?_;rintro e w3⟨rfl,s,C⟩;have B3:=V<|J B2.1 s;have D3:=V<|dT D2.1 C;clear s C;go_wp2;go_ret;exact⟨Cm<|by rw[<-Hr.1,<-Hq.1],B3.1,D3.1⟩
 rw[AX hl]at c;have Hr:=V c;have M:l2=!T:=by cases T<;>cases l2<;>simp_all
 clear hl c;subst M;cases T;all_goals go_wp2_with fail;refine(H2.1 _).mono ?_;rintro e w3⟨rfl,s,C⟩;have B3:=V<|J B2.1 s;have D3:=V<|dT D2.1 C;clear s C;go_wp2;go_ret;exact⟨Cm Hr.1,B3.1,D3.1⟩
theorem ahj(o a:Pt)(w:World)(ho:lim o)(ha:lim a):Calls prog 292 #[BD o,BD a] w λe w'=>e=.returned (.int .i64<|dQ o a)/\AU w w':=by
 obtain⟨o1,o2,o3,o4⟩:=ho;obtain⟨a1,a2,a3,a4⟩:=ha;have k1:=DR<|a.x-o.x;have k2:=DR<|a.y-o.y;obtain⟨q,C⟩:=BM<|dQ o a;rw[C];have c:=V C;unfold BD;clear o1 o2 o3 o4 a1 a2 a3 a4 C;go_enter func292,ntmps292;go_upto_region 1 with fail;obtain⟨W,s⟩:=BR<|(w.alloc<|.cells #[.int .i64 o.x,.int .i64 o.y] 50).alloc<|.cells #[.int .i64 a.x,.int .i64 a.y] 50;have K:AU w W:=by rw[s];exact bA (bA (bR w) _) _
 have M:AO W w.heap.size 50 #[.int .i64 o.x,.int .i64 o.y]:=by rw[s];exact(AO.made rfl _ _).alloc _
 have T:AO W (w.heap.size+1) 50 #[.int .i64 a.x,.int .i64 a.y]:=by rw[s];exact AO.made Ak _ _
 rw[<-s];clear s;obtain⟨BX,Bf,Bh,-⟩:=M.BL;obtain⟨E5,Em,Ew,-⟩:=T.BL;refine CZ W (.run 12 0 0<|.done) λCG QR Ae Aj hS=>?_;iterate 12 refine Ah ?_
 refine CX ?_;clear hS Aj Ae;intro U;have z:=V<|J K U;clear U K M T BX Bf Bh E5 Em Ew;have j:=c.1;unfold dQ at j;generalize a.x-o.x=x at*;generalize a.y-o.y=y at*;replace c:=V j;clear j;by_cases h1:0<x
 .by_cases h2:0<=y;.go_wp2;go_ret;exact⟨DZ<|by rw[<-c.1,AZ I],z.1⟩
  have h3:¬x<=0:=I;have h4:¬x<0:=I;go_wp2;go_ret;exact⟨DZ<|by rw[<-c.1,AX I,AX I,AX I],z.1⟩
 have h3:x<=0:=I;by_cases h2:0<y;.go_wp2;go_ret;exact⟨DZ<|by rw[<-c.1,AX I,AZ I],z.1⟩
 by_cases h4:x<0;.go_wp2;go_ret;exact⟨DZ<|by rw[<-c.1,AX I,AX I,AZ I],z.1⟩
 go_wp2;go_ret;exact⟨DZ<|by rw[<-c.1,AX I,AX I,AX I],z.1⟩
theorem as5(o a b:Pt)(w:World):Calls prog 275 #[BD o,BD a,BD b] w λe w'=>e=.returned (.bool<|dS o a b)/\AU w w':=by
 have TN:=λ(v:Value)W=>zC v [o,a,b] W;have pG:=λ(h:ES [o,a,b]=true)W=>ahj o a W (Yk h).1 (Yk h).2.1;have pI:=λ(h:ES [o,a,b]=true)W=>ahj o b W (Yk h).1 (Yk h).2.2;have TT:=λ(h:ES [o,a,b]=true)W=>abE o a o b W (Yk h).1 (Yk h).2.1 (Yk h).1 (Yk h).2.2;have E1:=Vd a o;have E2:=Vd b o;obtain⟨r,c⟩:=BM<|dS o a b;rw[c];unfold dS at c;unfold BD at pG pI TT⊢;obtain⟨HN,H1,H2,HT⟩:=D9 TN pG pI TT;clear TN pG pI TT;generalize hz:ES [o,a,b]=z at*;generalize decide (a=o)=z1 at*;generalize decide (b=o)=z2 at*;generalize hl1:dQ o a=K at*;generalize hl2:dQ o b=l2 at*;generalize hq:BQ o a o b=q at*;have Hr:=V c;clear c hq hz hl1 hl2;go_enter func275,ntmps275;go_wp2_with fail;have TI:FK<|EL ((((w.alloc<|.cells #[.int .i64 o.x,.int .i64 o.y] 50).alloc<|.cells #[.int .i64 a.x,.int .i64 a.y] 50).alloc<|.cells #[.int .i64 b.x,.int .i64 b.y] 50).alloc<|.cells #[.int .i64 o.x,.int .i64 o.y,.int .i64 a.x,.int .i64 a.y,.int .i64 b.x,.int .i64 b.y] 50) (.slice (some ⟨w.heap.size+1+1+1,0,none⟩) 3 3) [o,a,b]:=V<|EL.gV<|AO.made Ak _ _;refine(HN.1 _ _ TI.out).mono ?_;rintro e w1⟨rfl,j⟩;obtain⟨M,T,U,D5⟩:=D9 (J (bA (bA (bA (bA (bR w) _) _) _) _) j) (show AO w1 w.heap.size 50 #[.int .i64 o.x,.int .i64 o.y]from((((AO.made rfl _ _).alloc _).alloc _).alloc _).keep j) (show AO w1 (w.heap.size+1) 50 #[.int .i64 a.x,.int .i64 a.y]from(((AO.made Ak _ _).alloc _).alloc _).keep j)<|show AO w1 (w.heap.size+1+1) 50 #[.int .i64 b.x,.int .i64 b.y]from((AO.made Ak _ _).alloc _).keep j;clear j TI HN;have X3:=T.1;have X4:=U.1;have X5:=D5.1;obtain⟨E5,Em,Ew,-⟩:=X3.BL;obtain⟨Bg,Bq,CP,-⟩:=X4.BL;obtain⟨CJ,CO,CQ,-⟩:=X5.BL;cases z;case false=>go_wp2;go_ret;exact⟨Cm aI,M.1⟩
 cases z1;case true=>go_wp2;go_ret;exact⟨Cm aI,M.1⟩
 cases z2;case true=>go_wp2;go_ret;exact⟨Cm aI,M.1⟩
 have c:=Hr.1;simp only[Z8,aDw]at c;obtain⟨HT2,jS,Oa⟩:=CB (HT.1 rfl) (H1.1 rfl)<|H2.1 rfl;clear HT Hr H1 H2;go_upto_region 3 with fail;refine CZ w1 (.take 0 1<|.take 1 3<|.take 3 11<|.take 4 27<|.call 2 31<|.call 5 63<|.take 6 127<|.take 7 255<|.done) λCG QR Ae Aj hS=>?_;iterate 4 refine Ah ?_
 refine FM (jS.1 _) ?_;clear hS;intro Bv Bj hS;refine FM (Oa.1 _) ?_;clear hS;intro wr2 F5 hS;iterate 2 refine Ah ?_
 refine CX ?_;clear hS Aj Ae;intro s;have B2:=V<|J M.1 s;replace T:=V<|T.1.keep s;replace U:=V<|U.1.keep s;replace D5:=V<|D5.1.keep s;clear s X3 X4 X5 E5 Em Ew Bg Bq CP CJ CO CQ;have X3:=T.1;have X4:=U.1;have X5:=D5.1;try clear E5 Em Ew
 obtain⟨E5,Em,Ew,-⟩:=X3.BL;try clear Bg Bq CP
 obtain⟨Bg,Bq,CP,-⟩:=X4.BL;try clear CJ CO CQ
 obtain⟨CJ,CO,CQ,-⟩:=X5.BL;by_cases hlt:K<l2;.rw[Ia hlt]at c;have Hr:=V c;clear c;go_wp2;go_ret;exact⟨Cm aI,B2.1⟩
 rw[GX hlt,Bool.false_or]at c;by_cases hl:K=l2
 .have hl':(K==l2)=true:=by simpa using hl
  rw[Ia hl,Z8]at c;have Hr:=V c;clear hl c;go_wp2_with fail;refine(HT2.1 _).mono ?_;rintro e w3⟨rfl,C⟩;have B3:=V<|J B2.1 C;clear C;go_wp2;go_ret;exact⟨Cm Hr.1,B3.1⟩
 have hl':(K==l2)=false:=by simpa using hl
 rw[GX hl,Bool.false_and]at c;have Hr:=V c;clear hl c;go_wp2;go_ret;exact⟨Cm Hr.1,B2.1⟩
open Go.RowKit Go.Sort
theorem Own.shape{α:Type}{w:World}{base:Nat}{e:TypeId}{size:Nat}{f:α->List Value}{v:Value}{l:List α}(h:Own w base e size f v l):∃A c,v=.slice A l.length c/\l.length<=c/\c<=maxLen:=by obtain⟨A,c,rfl,h1,h2,-⟩:=Own.sl h;exact⟨A,c,rfl,h1,h2⟩
structure pJ(w:World)(B g4 g7 gm n:Nat)(dl:List Int)(f:Int->Pt)(v:Value):Prop where
 x4:AO w g4 24 #[v]own:Own w B 3 1 DF v dl
 x7:AO w g7 193 #[.map<|some gm]mp:Jp w gm n f
 b4:B<=g4
 bm:B<=gm
theorem ad2{w:World}{j n:Nat}{f:Int->Pt}(h:Jp w j n f){g:Nat}{t:TypeId}{cs:Array Value}(o:AO w g t cs):g≠j:=by rintro rfl;obtain⟨D,h1,-⟩:=h;obtain⟨s,c,h2,-⟩:=h1;unfold AO at o;rw[o]at h2;cases h2
theorem ad3{w:World}{j n:Nat}{f:Int->Pt}(h:Jp w j n f){base:Nat}{e:TypeId}{size:Nat}{α:Type}{o:α->List Value}{v:Value}{l:List α}(ho:Own w base e size o v l):v.ownBlock≠some j:=by
 rcases ho.2 with⟨rfl,_⟩|⟨g,s,c,rfl,_,z,_⟩;.simp[Value.ownBlock]
 intro e';exact ad2 h (cs:=c) (g:=g) z xO
theorem as6(d:Int)(q:Pt)(B C g7 gm n:Nat)(K:List Int)(f:Int->Pt)(v:Value)(w:World)(h:pJ w B C g7 gm n K f v)(hB:B<=w.heap.size)(hn:n<4294967296)(hl:K.length<=1000000)(hd:Eb d):Calls prog 182 #[.int .i64 d,.agg #[.int .i64 q.x,.int .i64 q.y],.pointer<|some ⟨C,0,none⟩,.pointer<|some ⟨g7,0,none⟩] w λe w'=>e=.returned (.tuple #[])/\(∃v',pJ w' B C g7 gm (n+1) (K++[d]) (λi=>if i=d then q else f i) v')/\Below B w w'/\∀g t cs,AO w g t cs->g≠C->g≠gm->v.ownBlock≠some g->AO w' g t cs:=by
 obtain⟨x4,own,x7,mp,b4,bm⟩:=h;obtain⟨A,c,rfl,-⟩:=Own.shape own;obtain⟨D7,HO,Jg,HM⟩:=D9 x4 own x7 mp;have n47:C≠g7:=AO.Nh x4 x7 BI;have n4m:=ad2 mp x4;have n7m:=ad2 mp x7;have no4:=Own.ET own x4 BI;have no7:=Own.ET own x7 BI;have aAP:=ad3 mp own;clear own mp;have sK:=V hd;clear hd;have M:=x4;have T:=x7;clear x4 x7;obtain⟨U,Bq,DX⟩:=M.G7;obtain⟨Ec,Ee,-⟩:=T.G7;go_enter func182,ntmps182;go_upto_region 1 with fail;obtain⟨W0,hW⟩:∃W:World,W=w.alloc (.cells #[.int .i64 q.x,.int .i64 q.y] 50):=⟨_,rfl⟩;have o:AU w W0:=by rw[hW];exact bA (bR w) _
 have X5:AO W0 w.heap.size 50 #[.int .i64 q.x,.int .i64 q.y]:=by rw[hW];exact AO.made rfl _ _
 rw[<-hW];clear hW;replace M:=M.keep o;replace T:=T.keep o;obtain⟨aAQ,lu,aAR⟩:=CB (HO.1.keep o) (HM.1.keep o) o;have hlt4:C<w.heap.size:=D7.1.lt;have hz0:=o.size;clear o U Bq DX Ec Ee;try clear U Bq
 try clear DX
 obtain⟨U,Bq,DX⟩:=M.G7;obtain⟨CJ,CO,CQ,-⟩:=X5.BL;try clear Ec Ee
 obtain⟨Ec,Ee,-⟩:=T.G7;have n54:w.heap.size≠C:=I;have n57:w.heap.size≠g7:=by have:=Jg.1.lt;omega
 have ad4:=HM.1.lt;go_upto_region 2 with
  (at_builtin;refine FV _ rfl (.tmp 6) (.tmp 8) _ rfl (base:=B) J3 IV J4 rfl (Own.alloc aAQ.1 _) rfl (l2:=[d]) (Sl.lit (n:=1) (AO.made rfl _ _) rfl<|DC I) DY DY D8 ?_;intro v1 w1 ho1 s Ui;obtain⟨A1,c1,hv1,-⟩:=Own.shape ho1;rw[show(K++[d]).length=K.length+1 by simp]at hv1;subst hv1;have Ko:=V ho1;have hB1:Below B W0 w1:=Below.grown (Below.alloc (Below.refl _ _) I _) s D8 λg hg=>(aAQ.1.lt g hg).1;have HB1:=V hB1;have aAS:some w.heap.size≠(Value.slice A K.length c).ownBlock:=λe=>by have:=(HO.1.lt _ e.symm).2;omega
   replace M:=AO.grown (M.alloc _) s λe=>no4 e.symm;replace X5:=AO.grown (X5.alloc _) s aAS;replace T:=AO.grown (T.alloc _) s λe=>no7 e.symm;have MO:=V<|(lu.1.keep<|bA (bR W0) _).kept s<|λe=>aAP e.symm;have HK1:=V λg t cs(h:AO w g t cs)(hne:(Value.slice A K.length c).ownBlock≠some g)=>AO.grown ((h.keep aAR.1).alloc<|.cells #[.int .i64 d] 3) s λe=>hne e.symm;clear ho1 s Ui hB1 U Bq DX CJ CO CQ Ec Ee;try clear U Bq
   try clear DX
   obtain⟨U,Bq,DX⟩:=M.G7;try clear CJ CO CQ
   obtain⟨CJ,CO,CQ,-⟩:=X5.BL;try clear Ec Ee
   obtain⟨Ec,Ee,-⟩:=T.G7);obtain⟨W2,j⟩:∃W:World,W=w1.setCell ⟨C,0,none⟩ (.slice A1 (K.length+1) c1):=⟨_,rfl⟩;have as7:=Own.ET Ko.1 M BI;have Y4:AO W2 C 24 #[.slice A1 (K.length+1) c1]:=by rw[j];exact AO.aDA M
 have Y7:AO W2 g7 193 #[.map<|some gm]:=by rw[j];exact T.far (λe=>n47 e.symm) _
 have Y5:AO W2 w.heap.size 50 #[.int .i64 q.x,.int .i64 q.y]:=by rw[j];exact X5.far n54 _
 have YO:Own W2 B 3 1 DF (.slice A1 (K.length+1) c1)<|K++[d]:=by rw[j];exact Ko.1.far as7 _
 have YM:Jp W2 gm n f:=by rw[j];exact MO.1.kept (row:=some C) ⟨rfl,rfl,rfl,Ak,λi _ hne=>Below.heap_setCell w1 ⟨C,0,none⟩ _ i λe=>hne Rf⟩ λe=>n4m (Dn e).symm
 have YB:Below B w W2:=by rw[j];exact(Below.trans (aAR.1.mono hB) HB1.1).setCell b4 _
 rw[<-j];clear M X5 T U Bq DX CJ CO CQ Ec Ee;obtain⟨w3,hr3,RS,z⟩:=YM.upd hn d sK.1 q;obtain⟨Z4,Z7,ZO,ZM,ZB⟩:=G9 (AO.grown Y4 z<|λe=>n4m<|Dn e) (AO.grown Y7 z<|λe=>n7m<|Dn e) (Own.grown YO z<|λg' hg' e=>ad3 YM YO<|by rw[hg',e]) RS<|YB.grown z (by have:=YB.size;omega) (λg hg=>by have:=Dn hg;omega);have HK:=V (show∀g t cs,AO w g t cs->g≠C->g≠gm->(Value.slice A K.length c).ownBlock≠some g->AO w3 g t cs fromλg t cs h h4 hm' ho=>by refine AO.grown ?_ z<|λe=>hm'<|Dn e;rw[j];exact(HK1.1 g t cs h ho).far h4 _);unfold BD at hr3;clear RS z YO YM YB Y4 j;obtain⟨jT,jU,jV,-⟩:=Y5.BL;obtain⟨Y7l,Y7a,-⟩:=Y7.G7;go_wp2_with fail;exact bodyPost_end (v:=.tuple #[]) (results_none rfl _ _ _) rfl ⟨rfl,⟨_,Z4.1,ZO.1,Z7.1,ZM.1,b4,bm⟩,ZB.1,HK.1⟩
def as8(z1 z2:Bool):Int:=if z1 then-1 else if z2 then 1 else 0
theorem as9(nd:Nd)(x y:Int)(g5 g7 gm n:Nat)(f:Int->Pt)(w:World)(h5:AO w g5 56 #[.int .i64 nd.id,.int .i64 nd.pt.x,.int .i64 nd.pt.y])(h7:AO w g7 193 #[.map<|some gm])(hm:Jp w gm n f)(hx:Eb x)(hy:Eb y):Calls prog 184 #[.int .i64 x,.int .i64 y,.pointer<|some ⟨g5,0,none⟩,.pointer<|some ⟨g7,0,none⟩] w λe w'=>e=.returned (.int .i64<|jR (λa b=>UW nd.pt (f a)<|f b) x y)/\Nj w w':=by
 have T1:=λW=>ahg nd.pt (f x) (f y) W;have T2:=λW=>ahg nd.pt (f y) (f x) W;have j:=hm.look x hx;have o:=hm.look y hy;obtain⟨HM,H5,H7⟩:=CB hm h5 h7;unfold BD at T1 T2 j o;have HX:=V hx;have HY:=V hy;obtain⟨r,c⟩:=BM<|jR (λa b=>UW nd.pt (f a)<|f b) x y;rw[c];replace c:as8 (UW nd.pt (f x)<|f y) (UW nd.pt (f y)<|f x)=r:=c;obtain⟨z1,s⟩:=BM<|UW nd.pt (f x)<|f y;obtain⟨z2,z⟩:=BM<|UW nd.pt (f y)<|f x;rw[s]at T1 c;rw[z]at T2 c;obtain⟨Hr,H1,H2⟩:=CB c T1 T2;clear T1 T2 hm hx hy s z c;have C:=h5;have K:=h7;clear h5 h7;obtain⟨CJ,CO,CQ,Gi,-⟩:=C.BF;obtain⟨Ec,Ee,-⟩:=K.G7;go_enter func184,ntmps184;go_wp2_with fail;refine(H1.1 _).mono ?_;rintro e w1⟨rfl,M,T⟩;have U:=V M;have D1:=V T;clear M T C K CJ CO CQ Gi Ec Ee j o;cases z1;case true=>go_wp2;go_ret;exact⟨DZ aI,U.1,D1.1⟩
 have C:=H5.1.keep U.1;have K:=H7.1.keep U.1;have MO:=HM.1.keep U.1;have j:=MO.look x HX.1;have o:=MO.look y HY.1;unfold BD at j o;clear MO;try clear CJ CO CQ Gi
 obtain⟨CJ,CO,CQ,Gi,-⟩:=C.BF;try clear Ec Ee
 obtain⟨Ec,Ee,-⟩:=K.G7;go_wp2_with fail;refine(H2.1 _).mono ?_;rintro e w2⟨rfl,hb2,hd2⟩;have B2:=V<|J U.1 hb2;have D2:=V<|dT D1.1 hd2;clear hb2 hd2 C K CJ CO CQ Gi Ec Ee j o;cases z2;.go_wp2;go_ret;exact⟨DZ aI,B2.1,D2.1⟩
 go_wp2;go_ret;exact⟨DZ aI,B2.1,D2.1⟩
