import Derived.Test.YtngoejdlompfoaaGreatJ11
import Derived.Shelf.SortM.Plain
import Derived.Shelf.SortM.SortNone
import Derived.Test.YtngoejdlompfoaaGreatLaySortN
set_option linter.unusedSimpArgs false
set_option linter.unusedVariables false
set_option maxRecDepth 100000
set_option maxHeartbeats 8000000
namespace Go.Proofs.YtngoejdlompfoaaGreat
open Go.RowKit Go.Sort Tryz
theorem ad5{P:Program}{j:Func}{p:Tmp}{o t:TypeId}{R:Ending->World->Prop}{a:Act}{w:World}{g:Nat}{v:Value}(h:j.results=#[.cell p o])(hS:∀w,(isAgg o).run P w=.ok false w)(s:a.tmps.getD p undef=.pointer (some ⟨g,0,none⟩))(hd:a.defers=[])(hb:AO w g t #[v])(z:R (.returned v) w):bodyPost P j R .ret a w:=by
 refine bodyPost_ret ?_ hd z;have c:a.tmps[p]?.getD undef=.pointer (some ⟨g,0,none⟩):=by simpa using s
 have C:w.cell? ⟨g,0,none⟩=some v:=by rw[hb.cell];rfl
 simp only[results,h];simp[c,asAddr,loadVar,Sem.run_bind,Sem.run_pure,Result.andThen,hS,C]
theorem ahk:∀w,(isAgg 24).run prog w=.ok false w:=λ_=>by kernel_rfl
def aEO(w:World)(l:List Int)(e:Ending)(w':World):Prop:=∃A c,e=.returned (.slice A l.length c)/\AU w w'/\Own w' w.heap.size 3 1 DF (.slice A l.length c) l
theorem Valid.ahl{p:Pl}(h:Valid p){n d:Int}(hd:d∈Dl p.AP n):Eb d:=by
 obtain⟨a,c,e⟩:=TV.1 hd;have:=h.IB c;rcases e with⟨rfl,-⟩|⟨rfl,-⟩;.exact L8 I I
 exact L8 I I
theorem ahm(l:List Ar)(n:Int)(k:Nat)(hk:k<l.length):Dl (l.take<|k+1) n=Dl (l.take k) n++((if l[k].fr=n then[l[k].id]else[])++if l[k].dst=n then[-l[k].id]else[]):=by unfold Dl;rw[Eu hk,LY];simp
theorem aAT(l:List Ar)(n:Int):(Dl l n).length<=2*l.length:=by unfold Dl;induction l with|nil=>simp|cons a l c=>
  rw[LC,EK,EK,Gy];have h1:(if a.fr=n then[a.id]else[]).length<=1:=by split<;>simp
  have h2:(if a.dst=n then[-a.id]else[]).length<=1:=by split<;>simp
  omega
theorem Own.asA{α:Type}{w w':World}{base:Nat}{e:TypeId}{size:Nat}{f:α->List Value}{v:Value}{l:List α}(h:Own w base e size f v l)(hk:∀g t cs,base<=g->AO w g t cs->AO w' g t cs):Own w' base e size f v l:=by
 obtain⟨h1,h2⟩:=h;refine⟨h1,?_⟩;rcases h2 with h2|⟨g,j,c,hv,o,s,r⟩;.exact .inl h2
 subst hv;exact .inr ⟨g,j,c,rfl,o,hk g e c o s,r⟩
theorem aAU{p:Pl}{D:List Int}{f:Int->Pt}(h:∀d∈D,f d=E8 p d){x:Int}{q:Pt}(c:E8 p x=q):∀d∈D++[x],(λi=>if i=x then q else f i) d=E8 p d:=by
 intro d hd;by_cases e:d=x;.subst e;simp[c]
 simp only[F9,EJ,e,or_false]at hd;simp[e,h d hd]
theorem Own.ahn{w:World}{base:Nat}{A:Option Addr}{n c:Nat}{l:List Pt}(h:Own w base 50 2 Ep (.slice A n c) l):Row w A<|l.flatMap Ep:=by obtain⟨z,C,j,_,_,o⟩:=h.sl;injection j with s K M;subst s;exact o
theorem pJ.keep{w w':World}{B c j o n:Nat}{s:List Int}{f:Int->Pt}{v:Value}(h:pJ w B c j o n s f v)(hb:AU w w'):pJ w' B c j o n s f v:=⟨h.x4.keep hb,h.own.keep hb,h.x7.keep hb,h.mp.keep hb,h.b4,h.bm⟩
theorem asB(v:Value)(p:Pl)(n:Int)(w:World)(h:Cj w v p)(hv:Valid p):Calls prog 129 #[v,.int .i64 n] w<|aEO w<|DL p n:=by
 have kE:=V λW(hW:AU w W)=>aad v p n W<|h.mono hW;have asC:=V λid W(hW:AU w W)=>aD1 v p id W (h.mono hW) hv.short;obtain⟨_,_,_,al,rfl,hpa,⟨An,cn,rfl,-⟩,⟨⟨Aa,ca,rfl,hn1,hn2,hR⟩,TB⟩,⟨Af,cf,rfl,-⟩⟩:=h;unfold maxLen at hn2;obtain⟨HR,ou,HV,Iy⟩:=D9 hR TB hv hpa;generalize hnn:p.nodes.length=nn at*;generalize p.faces.length=nf at*;obtain⟨q,hq⟩:=BM<|DL p n;rw[hq];have Hq:=V hq;have hall:al.length<=256:=by have hl:=hv.lim;unfold Jr at hl;simp only[Rl,IL]at hl;have h2:=hl.2;rw[hpa,D6]at h2;omega
 clear hpa hR TB hv hq hnn;go_enter func129,ntmps129;go_wp2_with fail;refine(kE.1 _<|bA (bA (bR w) _) _).mono ?_;rintro e w1⟨rfl,M⟩;have X2:AO w1 w.heap.size 26 #[.slice An nn cn,.slice Aa al.length ca,.slice Af nf cf]:=((AO.made rfl _ _).alloc _).keep M;have X4:AO w1 (w.heap.size+1) 24 #[.slice none 0 0]:=(AO.made Ak _ _).keep M;have B1:=V<|J (bA (bA (bR w) _) _) M;clear M;unfold nV yX;cases hfn:JW p.nodes n with
 |none=>
  have hf:q=[]:=by rw[<-Hq.1];unfold DL;rw[hfn]
  subst hf;clear hfn;simp only[yF,lI];obtain⟨Bg,Bq,DX⟩:=X4.G7;go_wp2_with fail;refine ad5 (g:=w.heap.size+1) (v:=.slice none 0 0) rfl ahk rfl rfl ((AO.aDA X4).alloc _) ⟨none,0,rfl,?_,Own.nil _ _ _ _ _⟩;have Bw:=B1.1;exact ER|some nd=>
  have hnd:nd∈p.nodes/\nd.id=n:=⟨Vz hfn,by have:=List.find?_some hfn;simpa using this⟩;obtain⟨hnm,rfl⟩:=hnd;have hAr:=HV.1.aEk hnm;rw[Hq.1]at hAr;have Jk:=V hAr;have Ob:=V hnm;clear hfn hAr hnm Hq;simp only[I7,Xh];obtain⟨BX,Bf,Bh,CS,-⟩:=X2.BF;try clear Bg Bq
  try clear DX
  obtain⟨Bg,Bq,DX⟩:=X4.G7;have lu:=V<|Jp.made<|w1.alloc<|.cells #[.int .i64 nd.id,.int .i64 nd.pt.x,.int .i64 nd.pt.y] 56;have hmm:=@run_makeMap prog;go_upto_region 5 with fail;obtain⟨W5,hW⟩:∃W:World,W=((w1.alloc<|.cells #[.int .i64 nd.id,.int .i64 nd.pt.x,.int .i64 nd.pt.y] 56).alloc<|.map #[] 0).alloc (.cells #[.map<|some<|w1.heap.size+1] 193):=⟨_,rfl⟩;have hA:AU w1 W5:=by rw[hW];exact bA (bA (bA (bR w1) _) _) _
  have D5:=V (show AO W5 w1.heap.size 56 #[.int .i64 nd.id,.int .i64 nd.pt.x,.int .i64 nd.pt.y]by rw[hW];exact((AO.made rfl _ _).alloc _).alloc _);have Jg:=V (show AO W5 (w1.heap.size+1+1) 193 #[.map<|some<|w1.heap.size+1]by rw[hW];exact AO.made Ak _ _);have VZ:=V (show Jp W5 (w1.heap.size+1) 0<|λ_=>z0 by rw[hW];have h1:=lu.1;rw[show(w1.alloc<|.cells #[.int .i64 nd.id,.int .i64 nd.pt.x,.int .i64 nd.pt.y] 56).heap.size=w1.heap.size+1 by simp]at h1;exact h1.keep<|bA (bR _) _);obtain⟨CW,D7,B5⟩:=CB (X2.keep hA) (X4.keep hA)<|J B1.1 hA;have hz1:w.heap.size+2<=w1.heap.size:=by have:=X4.lt;omega
  rw[<-hW];clear hW hA X2 X4 BX Bf Bh CS Bg Bq DX lu hmm;obtain⟨C,hg5⟩:=BM w1.heap.size;rw[hg5]at D5 Jg VZ hz1⊢;clear hg5;have X2:=CW.1;try clear BX Bf Bh CS
  obtain⟨BX,Bf,Bh,CS,-⟩:=X2.BF;have NR:=V @as6;go_upto_block 0 with fail;go_wp2_with fail;go_loopw[26](λi wr=>∃(k:Nat)(f:Int->Pt)(vl:Value)(s:Nat),k<=al.length/\i=.int .i64 k/\s<=2*k/\pJ wr (w.heap.size+1) (w.heap.size+1) (C+1+1) (C+1) s (Dl (p.AP.take k) nd.id) f vl/\(∀d∈Dl (p.AP.take k) nd.id,f d=E8 p d)/\AU w wr/\AO wr w.heap.size 26 #[.slice An nn cn,.slice Aa al.length ca,.slice Af nf cf]/\AO wr C 56 #[.int .i64 nd.id,.int .i64 nd.pt.x,.int .i64 nd.pt.y])λi _=>al.length-(intOf i).toNat;case atStart=>exact⟨0,λ_=>z0,.slice none 0 0,0,C9 _,rfl,I,⟨D7.1,Own.nil _ _ _ _ _,Jg.1,VZ.1,I,I⟩,λd h=>by simp[Dl]at h,B5.1,CW.1,D5.1⟩
  case round=>
   obtain⟨k,f,vl,s,hk,rfl,hcnt,aho,hf,hb,X2,X5⟩:=hrel;obtain⟨Hb,XW,Hf,CW,D5⟩:=G9 hb aho hf X2 X5;clear hb aho hf;try clear BX Bf Bh CS
   obtain⟨BX,Bf,Bh,CS,-⟩:=X2.BF;have hzr:=Hb.1.size;have ayw:C+1+1<wr.heap.size:=XW.1.x7.lt;by_cases hlt:k<al.length;case neg=>
    have hkk:k=al.length:=I;have ht:p.AP.take k=p.AP:=Ip (by rw[Iy.1,D6];omega);rw[ht]at XW Hf;have HF:=Hf;clear ht;subst hkk;obtain⟨x4,own,x7,mp,b4,bm⟩:=XW.1;obtain⟨A,c,rfl,-⟩:=Own.shape own;have hlen:=aAT p.AP nd.id;rw[show p.AP.length=al.length by rw[Iy.1,D6]]at hlen;have HS:=V<|as1 (w.heap.size+1) _ (Dl p.AP nd.id) (ltD p nd.pt) 184 #[.pointer<|some ⟨C,0,none⟩,.pointer<|some ⟨C+1+1,0,none⟩] wr own (HV.1.aA0 Ob.1) I (enters_of func184 IK rfl)
     (λW hW x hx y hy=>by
      have h:=as9 nd x y C (C+1+1) (C+1) s f W (D5.1.grown hW<|λe=>Own.ET own D5.1 BI e.symm) (x7.grown hW<|λe=>Own.ET own x7 BI e.symm) (mp.kept hW<|λe=>ad3 mp own e.symm) (HV.1.ahl hx)<|HV.1.ahl hy;have he:jR (λa b=>UW nd.pt (f a)<|f b) x y=jR (ltD p nd.pt) x y:=by unfold jR ltD;simp only[HF.out x hx,HF.out y hy]
      rw[he]at h;exact h);have no4:=Own.ET own x4 BI;have hown:=Own.lt own;have Uj:=V hown;have X4:=x4;have Fz:=V no4;have hpm:(sortB (ltD p nd.pt)<|Dl p.AP nd.id).length=(Dl p.AP nd.id).length:=(mW<|HV.1.aA0 Ob.1).1.length_eq;rw[<-Jk.1]at hpm HS;have Jl:=V hpm;clear x4 own x7 mp b4 bm no4 hown hpm hlen HF Hf XW;generalize Dl p.AP nd.id=D at*;try clear Bg Bq
    try clear DX
    obtain⟨Bg,Bq,DX⟩:=X4.G7;go_wp2_with fail;refine HS.1.mono ?_;rintro e ws⟨rfl,hos,hgs⟩;have Y4:=AO.grown X4 hgs λe=>Fz.1 e.symm;have bU:=V hos;have uN:=V<|show Below (w.heap.size+1) wr ws from Below.grown (Below.refl _ _) hgs I<|λg hg=>(Uj.1 g hg).1;clear hos hgs X4 Bg Bq DX X2 BX Bf Bh CS;have X4:=Y4;clear Y4;try clear Bg Bq
    try clear DX
    obtain⟨Bg,Bq,DX⟩:=X4.G7;go_wp2_with fail;have ho:=bU.1;rw[<-Jl.1]at ho⊢;refine ad5 (g:=w.heap.size+1) (v:=.slice A q.length c) rfl ahk rfl rfl (AO.aDA X4) ⟨A,c,rfl,?_,(ho.far (p:=⟨w.heap.size+1,0,none⟩) (by rw[Jl.1];exact Fz.1) _).EN I⟩;exact(Below.trans Hb.1<|uN.1.mono I).setCell (by show w.heap.size<=w.heap.size+1;omega) _
   obtain⟨b,o,rfl,hlb,c0,c1,c2,c3,c4,c5⟩:=(HR.1.mono Hb.1).ar hlt;have ham:al[k].1∈p.AP:=by rw[Iy.1];exact H6<|BG hlt
   have hst:Dl (p.AP.take<|k+1) nd.id=Dl (p.AP.take k) nd.id++((if al[k].1.fr=nd.id then[al[k].1.id]else[])++if al[k].1.dst=nd.id then[-al[k].1.id]else[]):=by
    have h1:k<p.AP.length:=by rw[Iy.1,D6];exact hlt
    have h2:=ahm p.AP nd.id k h1;have h3:p.AP[k]=al[k].1:=by simp only[Iy.1,Ib]
    rw[h3]at h2;exact h2
   obtain⟨Av,cv,hv,-⟩:=ou.1 k hlt;rw[hv]at c3;have hpo:=HV.1.abL<|HV.1.sQ ham;have hid:=HV.1.IB ham;rw[show Et al[k].1.id=al[k].1.id by unfold Et;rw[AX I]]at hpo;have JC:=V<|asC.1 al[k].1.id;rw[hpo]at JC;unfold ng at JC;simp only[I7,Xh,if_true]at JC;have ahp:=HV.1.mQ ham;have ahq:=HV.1.gy ham;have hpl:=En p al[k].1;have hvl:=HV.1.Td ham;have hlen:=aAT (p.AP.take k) nd.id;have hlen2:(p.AP.take k).length<=k:=aDx _ _;obtain⟨Ce,asD,ahr,HLen⟩:=D9 hst ahp ahq (show(Dl (p.AP.take k) nd.id).length<=512 by omega);clear hst ahp ahq hpo hv ham hlen hlen2;obtain⟨D1,hD1⟩:=BM<|Dl (p.AP.take<|k+1) nd.id;rw[hD1]at Ce;have T:=V hD1;clear hD1;generalize Dl (p.AP.take k) nd.id=U at*;generalize hP:AV p al[k].1=P at*;generalize al[k].1.via.length=z at*;generalize al[k].1=a at*;have ahs:=V<|show Eb a.id from L8 I I;have aEP:=V<|show Eb<|-a.id from L8 I I;have hneg:=DR<|-a.id;clear hP;cases M:a.fr==nd.id;case false=>
    have hn1:(a.fr !=nd.id)=true:=by rw[bne,M];rfl
    cases hb2:a.dst==nd.id;case false=>
     have hn2:(a.dst !=nd.id)=true:=by rw[bne,hb2];rfl
     have hD:D1=U:=by rw[Ce.1,AX<|by simpa using M,AX l9];simp
     go_wp2;go_roundw;case rel=>exact⟨k+1,f,vl,s,I,BH,I,by rw[show Dl (List.take (k+1) p.AP) nd.id=U from T.1.trans hD];exact XW.1.keep<|bA (bR wr) _,by rw[show Dl (List.take (k+1) p.AP) nd.id=U from T.1.trans hD];exact Hf.1,bA Hb.1 _,CW.1.alloc _,D5.1.alloc _⟩
     exact BJ
    have hn2:(a.dst !=nd.id)=false:=by rw[bne,hb2];rfl
    have rC:=V hpl;clear hpl;go_wp2_with fail;refine(JC.1 _<|bA Hb.1 _).mono ?_;rintro e w2⟨A2,c2',rfl,hb2,ho2⟩;have HW2:=V<|show AU wr w2 from J (bA (bR wr) _) hb2;have EZ:=V ho2;have hz2:=hb2.size;simp only[World.size_alloc]at hz2;obtain⟨Aq,cq,he,hq1,hq2,VW⟩:=ho2.sl;injection he with e1 e2 e3;subst e1 e3;clear e2;unfold maxLen at hq2;have UM:=V<|show AO w2 wr.heap.size 31 #[.int .i64 a.id,.int .i64 a.fr,.int .i64 a.dst,.slice Av z cv,.int .i64 a.left,.int .i64 a.right]from(AO.made rfl _ _).keep hb2;have EF:=UM.1;rw[rC.1]at hq1⊢;clear hb2 ho2 JC BX Bf Bh CS X2 c0 c1 c2 c3 c4 c5 hlb;have hD:D1=U++[-a.id]:=by rw[Ce.1,AX<|by simpa using M,AZ l9];simp
    have HOW:=EZ;obtain⟨uO,uP,pK,Uc,pO⟩:=G9 (XW.1.keep HW2.1) (CW.1.keep HW2.1) (D5.1.keep HW2.1) (show AU w w2 from J Hb.1 HW2.1)<|Own.ET XW.1.own D5.1 BI;clear VW;obtain⟨Ie,Ig,Ih,UK,Ua,lY,lZ,-⟩:=EF.J9;have hP2:z<P.length:=by have:=rC.1;omega
    obtain⟨bp,op,KJ,hlp,e20,e21⟩:=Row.pt HOW.1.ahn hP2;have hp2:P.getD z AY=P[z]:=by simp only[G5,DK hP2,I7]
    have aAV:=V<|ahr.1.trans hp2;clear hp2;generalize P[z]=p2 at*;first|subst KJ|(simp only[JU,Addr.mk.injEq,and_true]at KJ;obtain⟨rfl,rfl⟩:=KJ)
    have k2:IntKind.i64.wrap ((z:Int)+2-2)=z:=by rw[show(z:Int)+2-2=z by omega];exact Gz _ I
    have k3:IntKind.i64.wrap (z:Int)=z:=Gz _ I;have k4:(z:Int)<(z:Int)+2:=I;have k5:0<=(z:Int):=I;have k6:(z:Int)+2-2=z:=I;go_upto_region 15 with fail;refine Pe (w.heap.size+1) w2 (.take 0 1<|.take 1 3<|.run 5 4 3<|.two 2 503 (.take 3 511<|.call 9 1023<|.call 10 2047<|.done) 9 1011<|.call 2 1015<|.take 3 1023<|.call 10 2047<|.done) λCG QR Ae Aj hS=>?_;iterate 7 refine Ah ?_
    refine QJ (i:=2) (j:=9) (FD Ae rfl) (FD Ae rfl) (λK hK=>?_) λK hK=>?_
    .have AQ:=V hS;clear hS;refine Fp (Fb rfl) ?_;go_simp;refine hK.out _ _ AQ.out λhS=>?_;clear hK K AQ;try simp only[pu]
     refine Ah ?_;refine BP ?_;clear hS;intro K hK AQ;go_simp;refine hK.out _ _ AQ.out λhS=>?_;clear hK K AQ;try simp only[pu]
     refine BP ?_;clear hS;intro K hK AQ;go_simp;refine(NR.1 (-a.id) p2 (w.heap.size+1) (w.heap.size+1) (C+1+1) (C+1) s U f vl _ (uO.1.keep<|bD<|bR w2) D8 I aDY aEP.1).mono ?_;rintro e w4⟨rfl,⟨v4,Ym⟩,hb4,hk4⟩;have hS:Fh (w.heap.size+1) w2 w4:=Below.trans AQ.out hb4;have pR:=V Ym;have oI:=V<|hk4 C _ _ (pK.1.keep<|bD<|bR w2) I I pO.1;clear hb4 hk4 Ym;clear AQ;refine hK.out _ _ hS λ_=>?_;clear hK K;try simp only[pu]
     refine L9 ?_;clear hS Aj Ae;intro hB;go_wp2;go_roundw;case rel=>exact⟨k+1,_,v4,s+1,I,BH,I,by rw[show Dl (List.take (k+1) p.AP) nd.id=U++[-a.id]from T.1.trans hD];exact pR.1,λd hd=>by rw[show Dl (List.take (k+1) p.AP) nd.id=U++[-a.id]from T.1.trans hD]at hd;exact aAU Hf.1 aAV.1 d hd,Below.trans Uc.1<|hB.mono I,uP.1.below hB I,oI.1⟩
     exact BJ
    have AQ:=V hS;clear hS;refine Fp (Fb rfl) ?_;go_simp;refine hK.out _ _ AQ.out λhS=>?_;clear hK K AQ;try simp only[pu]
    refine BP ?_;clear hS;intro K hK AQ;go_simp;refine hK.out _ _ AQ.out λhS=>?_;clear hK K AQ;try simp only[pu]
    refine Ah ?_;refine BP ?_;clear hS;intro K hK AQ;go_simp;refine(NR.1 (-a.id) p2 (w.heap.size+1) (w.heap.size+1) (C+1+1) (C+1) s U f vl _ (uO.1.keep<|bD<|bR w2) D8 I aDY aEP.1).mono ?_;rintro e w4⟨rfl,⟨v4,Ym⟩,hb4,hk4⟩;have hS:Fh (w.heap.size+1) w2 w4:=Below.trans AQ.out hb4;have pR:=V Ym;have oI:=V<|hk4 C _ _ (pK.1.keep<|bD<|bR w2) I I pO.1;clear hb4 hk4 Ym;clear AQ;refine hK.out _ _ hS λ_=>?_;clear hK K;try simp only[pu]
    refine L9 ?_;clear hS Aj Ae;intro hB;go_wp2;go_roundw;case rel=>exact⟨k+1,_,v4,s+1,I,BH,I,by rw[show Dl (List.take (k+1) p.AP) nd.id=U++[-a.id]from T.1.trans hD];exact pR.1,λd hd=>by rw[show Dl (List.take (k+1) p.AP) nd.id=U++[-a.id]from T.1.trans hD]at hd;exact aAU Hf.1 aAV.1 d hd,Below.trans Uc.1<|hB.mono I,uP.1.below hB I,oI.1⟩
    exact BJ
   have hn1:(a.fr !=nd.id)=false:=by rw[bne,M];rfl
   have HB1:=V M;clear M;have rC:=V hpl;clear hpl;go_wp2_with fail;refine(JC.1 _<|bA Hb.1 _).mono ?_;rintro e w2⟨A2,c2',rfl,hb2,ho2⟩;have HW2:=V<|show AU wr w2 from J (bA (bR wr) _) hb2;have EZ:=V ho2;have hz2:=hb2.size;simp only[World.size_alloc]at hz2;obtain⟨Aq,cq,he,hq1,hq2,VW⟩:=ho2.sl;injection he with e1 e2 e3;subst e1 e3;clear e2;unfold maxLen at hq2;have UM:=V<|show AO w2 wr.heap.size 31 #[.int .i64 a.id,.int .i64 a.fr,.int .i64 a.dst,.slice Av z cv,.int .i64 a.left,.int .i64 a.right]from(AO.made rfl _ _).keep hb2;have EF:=UM.1;rw[rC.1]at hq1⊢;clear hb2 ho2 JC BX Bf Bh CS X2 c0 c1 c2 c3 c4 c5 hlb;have hP1:1<P.length:=by have:=rC.1;omega
   obtain⟨bp,op,KJ,hlp,e10,e11⟩:=Row.pt VW hP1;have hp1:P.getD 1 AY=P[1]:=by simp only[G5,DK hP1,I7]
   have asE:=V<|asD.1.trans hp1;clear hp1;generalize P[1]=p1 at*;subst KJ;clear VW;simp only[Nat.one_mul]at e10 e11;have k1:(1:Int)<(z:Int)+2:=I;try clear Ie Ig Ih UK Ua lY lZ
   obtain⟨Ie,Ig,Ih,UK,Ua,lY,lZ,-⟩:=EF.J9;go_upto_if 52 with fail;go_cut[]λw3=>∃v3,pJ w3 (w.heap.size+1) (w.heap.size+1) (C+1+1) (C+1) (s+1) (U++[a.id]) (λi=>if i=a.id then p1 else f i) v3/\Below (w.heap.size+1) w2 w3/\∀g t cs,AO w2 g t cs->g≠w.heap.size+1->g≠C+1->vl.ownBlock≠some g->AO w3 g t cs;case first=>
    have M:=HB1.1;go_upto_region 13 with fail;refine Pe (w.heap.size+1) w2 (.take 0 1<|.take 1 3<|.take 3 11<|.take 4 27<|.two 2 31 (.call 5 63<|.call 6 127<|.done) 5 59<|.call 2 63<|.call 6 127<|.done) λCG QR Ae Aj hS=>?_;iterate 4 refine Ah ?_
    refine QJ (i:=2) (j:=5) (FD Ae rfl) (FD Ae rfl) (λK hK=>?_) λK hK=>?_
    .have AQ:=V hS;clear hS;refine Fp (Fb rfl) ?_;go_simp;refine hK.out _ _ AQ.out λhS=>?_;clear hK K AQ;try simp only[pu]
     refine BP ?_;clear hS;intro K hK AQ;go_simp;refine hK.out _ _ AQ.out λhS=>?_;clear hK K AQ;try simp only[pu]
     refine BP ?_;clear hS;intro K hK AQ;go_simp;refine(NR.1 a.id p1 (w.heap.size+1) (w.heap.size+1) (C+1+1) (C+1) s U f vl _ (XW.1.keep<|bD HW2.1) D8 I (by have:=HLen.1;omega) ahs.1).mono ?_;rintro e w3⟨rfl,⟨v3,bV⟩,hb3,hk3⟩;have hS:Fh (w.heap.size+1) w2 w3:=Below.trans AQ.out hb3;have ad6:=V bV;have HK3:=V<|show∀g t cs,AO w2 g t cs->g≠w.heap.size+1->g≠C+1->vl.ownBlock≠some g->AO w3 g t cs fromλg t cs h=>hk3 g t cs<|h.keep<|bD<|bR w2;clear hb3 hk3 bV;clear AQ;refine hK.out _ _ hS λ_=>?_;clear hK K;try simp only[pu]
     refine L9 ?_;clear hS Aj Ae;intro hB;go_wp2;go_meet;exact⟨v3,ad6.1,hB,HK3.1⟩
    have AQ:=V hS;clear hS;refine Fp (Fb rfl) ?_;go_simp;refine hK.out _ _ AQ.out λhS=>?_;clear hK K AQ;try simp only[pu]
    refine BP ?_;clear hS;intro K hK AQ;go_simp;refine hK.out _ _ AQ.out λhS=>?_;clear hK K AQ;try simp only[pu]
    refine BP ?_;clear hS;intro K hK AQ;go_simp;refine(NR.1 a.id p1 (w.heap.size+1) (w.heap.size+1) (C+1+1) (C+1) s U f vl _ (XW.1.keep<|bD HW2.1) D8 I (by have:=HLen.1;omega) ahs.1).mono ?_;rintro e w3⟨rfl,⟨v3,bV⟩,hb3,hk3⟩;have hS:Fh (w.heap.size+1) w2 w3:=Below.trans AQ.out hb3;have ad6:=V bV;have HK3:=V<|show∀g t cs,AO w2 g t cs->g≠w.heap.size+1->g≠C+1->vl.ownBlock≠some g->AO w3 g t cs fromλg t cs h=>hk3 g t cs<|h.keep<|bD<|bR w2;clear hb3 hk3 bV;clear AQ;refine hK.out _ _ hS λ_=>?_;clear hK K;try simp only[pu]
    refine L9 ?_;clear hS Aj Ae;intro hB;go_wp2;go_meet;exact⟨v3,ad6.1,hB,HK3.1⟩
   obtain⟨v3,bV,hB3,hk3⟩:=hcut;obtain⟨Uc,uP,pK⟩:=CB (show RowKit.Below w.heap.size w wc from Below.trans (J Hb.1 HW2.1)<|hB3.mono I) ((CW.1.keep HW2.1).below hB3 I)<|hk3 C _ _ (D5.1.keep HW2.1) I I<|Own.ET XW.1.own D5.1 BI;have aht:=hk3 wr.heap.size _ _ UM.1 I I (λe=>by have:=(XW.1.own.lt _ e).2;omega);obtain⟨HOW,uO,pO⟩:=CB (EZ.1.asA<|λg t cs hg hx=>hk3 g t cs hx (by simp only[World.size_alloc]at hg;omega) (by simp only[World.size_alloc]at hg;omega)<|λe=>by have:=(XW.1.own.lt _ e).2;simp only[World.size_alloc]at hg;omega) bV<|Own.ET bV.own pK.1 BI;have hf3:=aAU Hf.1 asE.1;have HF3:=V hf3;have hz3:=hB3.size;clear bV hB3 hk3 hf3 EF Ie Ig Ih UK Ua lY lZ e10 e11;have EF:=aht;clear aht;try clear Ie Ig Ih UK Ua lY lZ
   obtain⟨Ie,Ig,Ih,UK,Ua,lY,lZ,-⟩:=EF.J9;cases hb2:a.dst==nd.id;case false=>
    have hD:D1=U++[a.id]:=by rw[Ce.1,AZ<|by simpa using HB1.1,AX l9];simp
    go_wp2;go_roundw;case rel=>exact⟨k+1,_,v3,s+1,I,BH,I,by rw[show Dl (List.take (k+1) p.AP) nd.id=U++[a.id]from T.1.trans hD];exact uO.1,by rw[show Dl (List.take (k+1) p.AP) nd.id=U++[a.id]from T.1.trans hD];exact HF3.1,Uc.1,uP.1,pK.1⟩
    exact BJ
   have hD:D1=U++[a.id]++[-a.id]:=by rw[Ce.1,AZ<|by simpa using HB1.1,AZ l9];simp
   have hP2:z<P.length:=by have:=rC.1;omega
   obtain⟨bp,op,KJ,hlp,e20,e21⟩:=Row.pt HOW.1.ahn hP2;have hp2:P.getD z AY=P[z]:=by simp only[G5,DK hP2,I7]
   have aAV:=V<|ahr.1.trans hp2;clear hp2;generalize P[z]=p2 at*;first|subst KJ|(simp only[JU,Addr.mk.injEq,and_true]at KJ;obtain⟨rfl,rfl⟩:=KJ)
   have k2:IntKind.i64.wrap ((z:Int)+2-2)=z:=by rw[show(z:Int)+2-2=z by omega];exact Gz _ I
   have k3:IntKind.i64.wrap (z:Int)=z:=Gz _ I;have k4:(z:Int)<(z:Int)+2:=I;have k5:0<=(z:Int):=I;have k6:(z:Int)+2-2=z:=I;go_upto_region 15 with fail;refine Pe (w.heap.size+1) wc (.take 0 1<|.take 1 3<|.run 5 4 3<|.two 2 503 (.take 3 511<|.call 9 1023<|.call 10 2047<|.done) 9 1011<|.call 2 1015<|.take 3 1023<|.call 10 2047<|.done) λCG QR Ae Aj hS=>?_;iterate 7 refine Ah ?_
   refine QJ (i:=2) (j:=9) (FD Ae rfl) (FD Ae rfl) (λK hK=>?_) λK hK=>?_
   .have AQ:=V hS;clear hS;refine Fp (Fb rfl) ?_;go_simp;refine hK.out _ _ AQ.out λhS=>?_;clear hK K AQ;try simp only[pu]
    refine Ah ?_;refine BP ?_;clear hS;intro K hK AQ;go_simp;refine hK.out _ _ AQ.out λhS=>?_;clear hK K AQ;try simp only[pu]
    refine BP ?_;clear hS;intro K hK AQ;go_simp;refine(NR.1 (-a.id) p2 (w.heap.size+1) (w.heap.size+1) (C+1+1) (C+1) (s+1) (U++[a.id]) (λi=>if i=a.id then p1 else f i) v3 _ (uO.1.keep<|bD<|bR wc) D8 I aDY aEP.1).mono ?_;rintro e w4⟨rfl,⟨v4,Ym⟩,hb4,hk4⟩;have hS:Fh (w.heap.size+1) wc w4:=Below.trans AQ.out hb4;have pR:=V Ym;have oI:=V<|hk4 C _ _ (pK.1.keep<|bD<|bR wc) I I pO.1;clear hb4 hk4 Ym;clear AQ;refine hK.out _ _ hS λ_=>?_;clear hK K;try simp only[pu]
    refine L9 ?_;clear hS Aj Ae;intro hB;go_wp2;go_roundw;case rel=>exact⟨k+1,_,v4,s+1+1,I,BH,I,by rw[show Dl (List.take (k+1) p.AP) nd.id=U++[a.id]++[-a.id]from T.1.trans hD];exact pR.1,λd hd=>by rw[show Dl (List.take (k+1) p.AP) nd.id=U++[a.id]++[-a.id]from T.1.trans hD]at hd;exact aAU HF3.1 aAV.1 d hd,Below.trans Uc.1<|hB.mono I,uP.1.below hB I,oI.1⟩
    exact BJ
   have AQ:=V hS;clear hS;refine Fp (Fb rfl) ?_;go_simp;refine hK.out _ _ AQ.out λhS=>?_;clear hK K AQ;try simp only[pu]
   refine BP ?_;clear hS;intro K hK AQ;go_simp;refine hK.out _ _ AQ.out λhS=>?_;clear hK K AQ;try simp only[pu]
   refine Ah ?_;refine BP ?_;clear hS;intro K hK AQ;go_simp;refine(NR.1 (-a.id) p2 (w.heap.size+1) (w.heap.size+1) (C+1+1) (C+1) (s+1) (U++[a.id]) (λi=>if i=a.id then p1 else f i) v3 _ (uO.1.keep<|bD<|bR wc) D8 I aDY aEP.1).mono ?_;rintro e w4⟨rfl,⟨v4,Ym⟩,hb4,hk4⟩;have hS:Fh (w.heap.size+1) wc w4:=Below.trans AQ.out hb4;have pR:=V Ym;have oI:=V<|hk4 C _ _ (pK.1.keep<|bD<|bR wc) I I pO.1;clear hb4 hk4 Ym;clear AQ;refine hK.out _ _ hS λ_=>?_;clear hK K;try simp only[pu]
   refine L9 ?_;clear hS Aj Ae;intro hB;go_wp2;go_roundw;case rel=>exact⟨k+1,_,v4,s+1+1,I,BH,I,by rw[show Dl (List.take (k+1) p.AP) nd.id=U++[a.id]++[-a.id]from T.1.trans hD];exact pR.1,λd hd=>by rw[show Dl (List.take (k+1) p.AP) nd.id=U++[a.id]++[-a.id]from T.1.trans hD]at hd;exact aAU HF3.1 aAV.1 d hd,Below.trans Uc.1<|hB.mono I,uP.1.below hB I,oI.1⟩
   exact BJ
open Go.RowKit Go.Sort
def bW(l:List Int)(x:Int):Int:=match l.findIdx? λy=>y==x with|none=>-1|some k=>k
theorem asF{l:List Int}{x:Int}{k:Nat}(hk:k<l.length)(c:∀j(o:j<l.length),j<k->(l[j]==x)=false)(s:(l[k]==x)=true):l.findIdx? λy=>y==x=some k:=by rw[List.findIdx?_eq_some_iff_getElem];exact⟨hk,s,λj o=>by simpa using c j I o⟩
theorem asG{l:List Int}{x:Int}(c:∀j(o:j<l.length),(l[j]==x)=false):l.findIdx? λy=>y==x=none:=by rw[List.findIdx?_eq_none_iff];intro y s;obtain⟨j,o,rfl⟩:=Dy.1 s;exact c j o
theorem ahu(v:Value)(l:List Int)(x:Int)(w:World)(h:Ints w v l):Calls prog 94 #[v,.int .i64 x] w λe w'=>e=.returned (.int .i64<|bW l x)/\AU w w':=by
 obtain⟨A,c,rfl,hn,hc,U⟩:=h;unfold maxLen at hc;obtain⟨q,K⟩:=BM<|bW l x;rw[K];have Hq:=V K;clear K;go_enter func94,ntmps94;go_wp2_with fail;go_loopw[8](λi wr=>∃k:Nat,k<=l.length/\i=.int .i64 k/\AU w wr/\∀j(hj:j<l.length),j<k->(l[j]==x)=false)λi _=>l.length-(intOf i).toNat;case atStart=>exact⟨0,C9 _,rfl,bR w,λj _ h=>I⟩
 obtain⟨k,hk,rfl,hb,z⟩:=hrel;have C:=V hb;have s:=V z;clear hb z;by_cases hlt:k<l.length
 .obtain⟨b,o,rfl,hlb,c0⟩:=(U.mono C.1).int hlt;clear U;cases M:l[k]==x
  .go_wp2;go_roundw;case rel=>exact⟨k+1,I,BH,C.1,all_succ (p:=λy=>(y==x)=false) s.1 hlt M⟩
   exact BJ
  have T:=V<|asF hlt s.1 M;have he2:(x==l[k])=true:=by simpa using(beq_iff_eq.1 M).symm
  go_wp2;go_ret;exact⟨DZ<|by rw[<-Hq.1];unfold bW;rw[T.1],C.1⟩
 have T:=V<|asG<|λj hj=>s.1 j hj I;go_wp2;go_ret;exact⟨DZ<|by rw[<-Hq.1];unfold bW;rw[T.1],C.1⟩
theorem asH(v:Value)(l:List Int)(d:Int)(w:World)(h:Ints w v l)(hl:l.length<=1000000):Calls prog 130 #[v,.int .i64 d] w λe w'=>e=.returned (.int .i64<|precD l d)/\AU w w':=by have z:=V<|ahu v l d w h;obtain⟨A,c,rfl,hn,hc,U⟩:=h;unfold maxLen at hc;obtain⟨q,s⟩:=BM<|precD l d;rw[s];unfold bW at z;unfold precD at s;have HR:=V U;clear U;cases hi:l.findIdx? λy=>y==d with|none=>rw[hi]at z s;simp only at z s;subst s;clear hi;go_enter func130,ntmps130;go_wp2_with fail;refine z.1.mono ?_;rintro e w1⟨rfl,j⟩;have M:=V j;clear j;go_wp2;go_ret;exact⟨rfl,M.1⟩|some k=>
  rw[hi]at z s;simp only at z s;have hk:k<l.length:=(List.findIdx?_eq_some_iff_getElem.1 hi).1;clear hi;have hm:(k+l.length-1)%l.length<l.length:=V7 _ I;have K:l[(k+l.length-1)%l.length]=q:=by rw[<-s];simp only[G5,DK hm,I7]
  have htm:Int.tmod ((k:Int)+(l.length:Int)-1) (l.length:Int)=((k+l.length-1)%l.length:Nat):=by rw[aCO I,show(k:Int)+(l.length:Int)-1=((k+l.length-1:Nat):Int)by omega];exact(Int.natCast_emod _ _).symm
  clear s;generalize hM:(k+l.length-1)%l.length=m at*;have T:=V K;clear K hM;have h0:¬(k:Int)<0:=I;have g1:=DR<|(k:Int)+(l.length:Int);have g2:=DR<|(k:Int)+(l.length:Int)-1;have g3:¬(l.length:Int)=0:=I;have g4:IntKind.i64.wrap (m:Int)=m:=Gz _ I;have g5:(m:Int)<l.length:=I;have g6:0<=(m:Int):=I;have C:l.length≠0:=I;have hne':l≠[]:=by intro e;rw[e]at C;exact C rfl
  clear C;go_enter func130,ntmps130;go_wp2_with fail;refine z.1.mono ?_;rintro e w1⟨rfl,j⟩;have M:=V j;clear j;obtain⟨b,o,rfl,hlb,c0⟩:=(HR.1.mono M.1).int hm;rw[T.1]at c0;go_wp2;go_ret;exact⟨rfl,M.1⟩
theorem Valid.ad7{p:Pl}(h:Valid p)(n:Int):(DL p n).length<=512:=by cases c:JW p.nodes n with|none=>simp[DL,c]|some nd=>
  have hm:nd∈p.nodes:=Vz c;have hid:nd.id=n:=by have:=List.find?_some c;simpa using this
  subst hid;rw[(h.OI hm).length_eq];have h1:=aAT p.AP nd.id;have j:=h.lim;unfold Jr at j;simp only[Rl,IL]at j;omega
open Go.RowKit Go.Sort
def Qz(l:List Int):List Int:=l.mergeSort λx y=>decide<|x<=y
theorem ad8(l:List Int):(Qz l).Perm l:=List.mergeSort_perm _ _
theorem ahv(l:List Int):(Qz l).length=l.length:=(ad8 l).length_eq
theorem ahw(l:List Int):(Qz l).Pairwise (·<=·):=by have:=List.pairwise_mergeSort (le:=λ(x y:Int)=>decide<|x<=y) λa b c h1 h2=>by simp only[DI]at*;omega λa b=>by simp only[LW,DI];omega l;exact this.imp λh=>by simpa using h
theorem asI{l m:List Int}(c:l.Perm m)(j:m.Pairwise (·<·)):Qz l=m:=by
 refine nN (lt:=λa b=>decide<|a<b) ((ad8 l).trans c) ?_ ?_ (λa _ b _ h1 h2=>by simp only[IL]at*;omega);.exact(ahw l).imp λh=>by simpa using h
 exact j.imp λh=>by simp only[IL];omega
theorem ad9(w:World)(n:Nat)(blk off:Nat)(d:Array Int)(c:Array Obj):(grow (putRow (Value.int .i64) (Sort.ahead w n) blk off d) c).heap=w.heap.modify blk (onCells<|putCells (Value.int .i64) off d)++c:=rfl
theorem asJ(w:World)(n:Nat)(blk off:Nat)(d:Array Int)(o:Array Obj):w.grownBy (grow (putRow (Value.int .i64) (Sort.ahead w n) blk off d) o)<|some blk:=by
 refine⟨rfl,rfl,rfl,?_,λi hi j=>?_⟩;.rw[ad9];simp
 have c:blk≠i:=λe=>j Rf;rw[ad9,Array.getElem?_append_left qj,Array.getElem?_modify,AX c]
theorem ahx(base:Nat)(v:Value)(sl:List Int)(w:World)(s:Own w base 3 1 DF v sl)(hn:sl.length<=4294967296):Calls prog 131 #[v] w<|ahd w base v<|Qz sl:=by
 rcases sl with _|⟨s0,rest⟩
 .have hv:∃p c,v=.slice p 0 c:=by
   rcases s.2 with⟨h,_⟩|⟨g,c,o,h,_⟩;.exact⟨_,_,h⟩
   exact⟨_,_,h⟩
  obtain⟨p,c,rfl⟩:=hv;refine Calls.mono (AnyM.slices_Sort_int_none Tryz.sortN p c w) ?_;rintro e w'⟨rfl,rfl⟩;exact⟨rfl,by rw[show Qz []=[]by simp[Qz]];exact s,World.grownBy.refl _ _⟩
 generalize hsl:s0::rest=sl at*;have hpos:0<sl.length:=by rw[<-hsl];simp
 obtain⟨hlen,C⟩:=s;rcases C with⟨_,h0⟩|⟨g,c,o,rfl,hg,T,hnc,hcm,hcs,hx⟩;.omega
 have U:∀j,j<sl.length->o[j]?=sl[j]?.map (.int .i64 ·):=λj M=>by rw[<-aEL,<-hx,List.getElem?_take,AZ I];simp
 have hH:Holds (Value.int .i64) w g 0 sl.toArray:=λj M=>by
  have hj':j<sl.length:=by simpa using M
  refine⟨?_,AO.frozen (t:=3) (cs:=o) T _⟩;rw[cell_of_row w g _ o 3 (0,0) T,Rk,U j hj',getElem!_pos sl.toArray j M,DK hj'];simp
 refine Calls.mono (AnyM.slices_Sort_int Tryz.sortN g 0 c sl w hH (AO.lt T) I) ?_;rintro e w'⟨rfl,n,os,rfl⟩;have z:(Qz sl).length=sl.length:=ahv sl;refine⟨rfl,?_,asJ w n g 0 _ os⟩;unfold Own;rw[z];refine⟨by rw[aEM,z];omega,.inr ⟨g,c,putCells (Value.int .i64) 0 (Qz sl).toArray o,rfl,hg,?_,hnc,hcm,xZ,?_⟩⟩;.have hgl:g<w.heap.size:=AO.lt T;show(grow (putRow (Value.int .i64) (Sort.ahead w n) g 0 (Qz sl).toArray) os).heap[g]?=_;rw[ad9,Array.getElem?_append_left<|by simpa using hgl,Array.getElem?_modify,AZ rfl,T];rfl
 apply qw;intro j;rw[List.getElem?_take];by_cases M:j<sl.length*1
 .rw[AZ M];have hjc:j<o.size:=by rw[hcs];omega
  have K:j<(Qz sl).length:=by rw[z];omega
  rw[aEL,DK K];have e1:(putCells (Value.int .i64) 0 (Qz sl).toArray o).toList[j]?=some (.int .i64 (Qz sl).toArray[j]!):=by simp[putCells,hjc,K]
  rw[e1,getElem!_pos (Qz sl).toArray j<|by simpa using K];simp
 rw[AX M,aN<|by rw[aEM,z];omega]
def JL(x:List Int×SV):List Value:=[.slice x.2.a x.2.n x.2.c]
theorem ZV(x:List Int×SV):(JL x).length=1:=rfl
theorem bY(x:List Int×SV):∀u∈JL x,u.oneCell'=true:=by simp[JL,Value.oneCell']
theorem bZ:Elem prog 67 24 1 24:=Elem.QI (z:=.slice none 0 0) IK IK rfl I
def VD(w:World)(B:Nat)(v:Value)(L:List<|List Int×SV):Prop:=Own w B 24 1 JL v L/\∀x∈L,Own w B 3 1 DF (.slice x.2.a x.2.n x.2.c) x.1
theorem VD.keep{w w':World}{B:Nat}{v:Value}{L:List<|List Int×SV}(h:VD w B v L)(hb:AU w w'):VD w' B v L:=⟨h.1.keep hb,λx c=>(h.2 x c).keep hb⟩
def adA(w:World)(l:List<|List Int)(z:Int)(e:Ending)(w':World):Prop:=∃A c L,e=.returned (.tuple #[.slice A l.length c,.int .i64 z])/\AU w w'/\L.map (·.1)=l/\VD w' w.heap.size (.slice A l.length c) L
theorem aAW{w:World}{j n:Nat}{f:Int->Int}(h:IC w j n f){g:Nat}{t:TypeId}{cs:Array Value}(o:AO w g t cs):g≠j:=by rintro rfl;obtain⟨D,h1,-⟩:=h;obtain⟨s,c,h2,-⟩:=h1;unfold AO at o;rw[o]at h2;cases h2
theorem aAX{w:World}{j n:Nat}{f:Int->Int}(h:IC w j n f){base:Nat}{e:TypeId}{size:Nat}{α:Type}{o:α->List Value}{v:Value}{l:List α}(ho:Own w base e size o v l):v.ownBlock≠some j:=by
 rcases ho.2 with⟨rfl,_⟩|⟨g,s,c,rfl,_,z,_⟩;.simp[Value.ownBlock]
 intro e';exact aAW h (cs:=c) (g:=g) z xO
theorem Own.row_in{w:World}{base:Nat}{A:Option Addr}{n c:Nat}{l:List Int}(h:Own w base 3 1 DF (.slice A n c) l):Row w A<|l.flatMap DF:=by obtain⟨z,C,j,_,_,o⟩:=h.sl;injection j with s K M;subst s;exact o
def Md(p:Pl)(k:Nat):List Int:=(p.nodes.take k).flatMap λn=>DL p n.id
def uQ(p:Pl)(c:Int->Int)(L:List Int):Prop:=∀e∈L,c (-e)=FU p (-e)
theorem ahy(p:Pl)(k:Nat)(hk:k<p.nodes.length):Md p (k+1)=Md p k++DL p p.nodes[k].id:=by unfold Md;rw[Eu hk,LY];simp
theorem ahz{p:Pl}(h:Valid p)(k:Nat):(Md p k).length<=512*k:=by induction k with|zero=>simp[Md]|succ k c=>
  by_cases hk:k<p.nodes.length;.rw[ahy p k hk,EK];have:=h.ad7 p.nodes[k].id;omega
  .have:Md p (k+1)=Md p k:=by unfold Md;rw[Ip I,Ip I]
   rw[this];omega
theorem aEQ(p:Pl):Md p p.nodes.length=p.nodes.flatMap λn=>DL p n.id:=by unfold Md;rw[Gu]
theorem uQ.snoc{p:Pl}{c:Int->Int}{L:List Int}(h:uQ p c L){d x:Int}(s:FU p (-d)=x):uQ p (λi=>if i=-d then x else c i)<|L++[d]:=by
 intro e o;by_cases hd:e=d;.subst hd;simp[s]
 have j:-e≠-d:=I;simp only[F9,EJ,hd,or_false]at o;simp only[j,if_false];exact h e o
section
variable{p:Pl}(h:Valid p)
include h
theorem Valid.adB{n:Nd}(hn:n∈p.nodes){d:Int}(hd:d∈DL p n.id):FU p (-d)=precD (DL p n.id) d/\d∈BZ p:=by obtain⟨h1,h2⟩:=h.mY<|(h.OI hn).subset hd;obtain⟨o,j,e,hm,c⟩:=h.sW<|WW h1;rw[QF]at e hm c;exact⟨by rw[c,e,h2],h1⟩
theorem Valid.Rq{d:Int}(hd:d∈BZ p):-1073741824<=d/\d<=1073741824:=by obtain⟨a,c,e⟩:=Ij.1 hd;have:=h.IB c;omega
theorem Valid.asK:Qz (Md p p.nodes.length)=BZ p:=by rw[aEQ];exact asI h.aEn h.aEl
theorem Valid.asL{c:Int->Int}(j:uQ p c<|Md p p.nodes.length){d:Int}(hd:d∈BZ p):c d=FU p d:=by
 have h1:-d∈Md p p.nodes.length:=by rw[aEQ];exact h.aEn.symm.subset<|WW hd
 have:=j _ h1;rwa[QF]at this
theorem Valid.ai0:(BZ p).length<=512:=by have c:=h.lim;unfold Jr at c;simp only[Rl,IL]at c;unfold BZ;simp only[EK,Z9,D6];omega
theorem Valid.bg:p.nodes.length<=256:=by have c:=h.lim;unfold Jr at c;simp only[Rl,IL]at c;omega
theorem Valid.ahT(k:Nat):QN (FU p) (BZ p) ((BZ p).take k)<|((BZ p).take k).foldl (QM (FU p)<|BZ p) []:=by have:=ab4 (f:=FU p) (D:=BZ p) (λx c=>(h.SH c).1) (λx c y j=>h.Zy c j) ((BZ p).take k) [] [] (QN.nil _ _) (λx c=>aCg c) (by rw[Rj];exact h.aEl.sublist<|List.take_sublist _ _);rwa[Rj]at this
end
theorem ahU(f:Int->Int)(D:List Int)(k:Nat)(hk:k<D.length):(D.take<|k+1).foldl (QM f D) []=QM f D ((D.take k).foldl (QM f D) []) D[k]:=by rw[Eu hk,LG];rfl
