import Derived.Test.YtngoejdlompfoaaGreatJ21
import Derived.Test.YtngoejdlompfoaaGreatLaySortRn
import Derived.Laws.CopyRow
import Derived.Laws.IdiomCopy
set_option linter.unusedSimpArgs false
set_option linter.unusedVariables false
set_option maxRecDepth 100000
set_option maxHeartbeats 8000000
namespace Go.Proofs.YtngoejdlompfoaaGreat
open Go.RowKit Tryz
theorem Valid.al5{p:Pl}(h:Valid p){a:Ar}(c:a∈p.AP):Iz p a.id=AV p a:=by have hid:=(h.IB c).1;unfold Iz;rw[AZ I];unfold GL;rw[show Et a.id=a.id by unfold Et;split<;>omega,h.find c]
theorem aun{p:Pl}{v:Pt}{k:Nat}(hk:k<p.nodes.length)(h:(p.nodes.take k).find? (λn=>decide<|n.pt=v)=none)(c:p.nodes[k].pt=v):Qd p v=(1,p.nodes[k].id):=by unfold Qd;rw[aFp hk h<|by simpa using c]
theorem awE{p:Pl}{v:Pt}(hn:p.nodes.find? (λn=>decide<|n.pt=v)=none){k:Nat}(hk:k<p.AP.length)(h:(p.AP.take k).find? (RG p v)=none)(c:RG p v p.AP[k]=true):Qd p v=(2,p.AP[k].id):=by unfold Qd;rw[hn];simp only;rw[aFp hk h c]
theorem awF{p:Pl}{v:Pt}(hn:p.nodes.find? (λn=>decide<|n.pt=v)=none)(c:p.AP.find? (RG p v)=none):Qd p v=(0,JZ p<|F8 p v):=by unfold Qd;rw[hn];simp only;rw[c]
theorem awG(v vl:Value)(p:Pl)(CL:List<|List Int×SV)(O:List<|List Int)(at_:Pt)(w:World)(h:Cj w v p)(hv:Valid p)(hC:aY w vl CL)(hcl:CL.map (·.1)=O)(hO:O.Perm<|BN p)(nv:Bl at_=true):Calls prog 88 #[v,vl,BD at_] w λe w'=>e=.returned (.tuple #[.int .i64 (Qd p at_).1,.int .i64 (Qd p at_).2])/\AU w w':=by
 obtain⟨HV,HLn,aC2,aC3,Jk,JC,MK,II⟩:=aCe hv (λk(hl:k<p.nodes.length)hf s=>aun (v:=at_) hl hf s) (λhn k(hl:k<p.AP.length)hf s=>awE (v:=at_) hn hl hf s) (λhn ha=>awF (p:=p) (v:=at_) hn ha) (λW(hW:AU w W)=>aj1 v vl p CL O at_ W (h.mono hW) hv (hC.mono hW) hcl hO nv) (λk(hk:k<p.AP.length)W(hW:AU w W)=>show Calls prog 100 #[v,.int .i64 p.AP[k].id] W<|Zj W<|AV p p.AP[k]from hv.al5 (BG hk)▸aBQ v p p.AP[k].id W (h.mono hW) hv (Ij.2 ⟨_,BG hk,.inl rfl⟩)) (λd(hd:Eb d)W(hW:AU w W)=>aEJ v p d W (h.mono hW) (λa ha=>Du (hv.short a ha) I) hd) λa b W(hn:ES [a,b,at_]=true)=>ais a b at_ W hn;have Xx:=V (λ(k:Nat)(hk:k<p.AP.length)(m:Nat)(a b:Pt)(h1:(AV p p.AP[k])[m]?=some a)(h2:(AV p p.AP[k])[m+1]?=some b)=>show ES [a,b,at_]=true by have h1:=hv.Zu (BG hk)<|aCc h1;have h2:=hv.Zu (BG hk)<|aCc h2;simp[ES,h1,h2,nv]);have hol:O.length<=512:=by rw[hO.length_eq];exact Du (NH _ _) hv.SX
 have hll:CL.length=O.length:=by rw[<-hcl,D6]
 have aj:=V (λn(h1:0<n)(h2:n<=O.length)(hk:F8 p at_=NU O n)=>show∃(hx:n-1<CL.length)(d:Int)(t:List Int),CL[n-1].1=d::t/\JZ p (F8 p at_)=Ej p d/\Eb d from by have hx:n-1<CL.length:=I;have hxo:n-1<O.length:=I;have e1:=ak hcl hx hxo;have hm:=(Gl.1<|hO.subset<|BG hxo).1;rw[e1]at hm;have hne:=hv.VF hm;cases hX:CL[n-1].1 with|nil=>exact absurd hX hne|cons d t=>
   refine⟨hx,d,t,hX▸rfl,?_,?_⟩;.rw[hk];unfold NU;rw[AX I,DK hxo,e1,hX];rfl
   .rw[hX]at hm;have:=hv.Rq<|(hv.Fv hm).2 d ED;exact L8 I I);have aC4:p.nodes.length<=256:=hv.bg;have hqa:p.AP.length<=256:=by have hl:=hv.lim;unfold Jr at hl;simp at hl;omega
 obtain⟨⟨Ac,cc,rfl,hc1,hc2,J6⟩,hI⟩:=hC;unfold maxLen at hc2;obtain⟨_,_,_,al,rfl,hpa,⟨An,cn,rfl,hn1,hn2,jo⟩,⟨⟨Aa,ca,rfl,ha1,ha2,G6⟩,TB⟩,⟨Af,cf,rfl,-⟩⟩:=h;unfold maxLen at hn2 ha2;generalize p.faces.length=nf at*;have hal:al.length=p.AP.length:=by rw[hpa,D6]
 obtain⟨HRn,IU,Iy,Nv,Oc,HI,Jw⟩:=V9 jo G6 hpa hal J6 hI hll;have ak4:al.length<=256:=I;have auK:CL.length<=512:=I;unfold BD at II Jk⊢;clear hv jo G6 TB hpa nv hal J6 hI hcl hO hll;go_enter func88,ntmps88;go_upto_block 0 with fail;obtain⟨W1,hW⟩:=BR<|(w.alloc<|.cells #[.slice An p.nodes.length cn,.slice Aa al.length ca,.slice Af nf cf] 26).alloc<|.cells #[.int .i64 at_.x,.int .i64 at_.y] 50;obtain⟨DU,CW,HB1⟩:=CB (show AO W1 w.heap.size 26 #[.slice An p.nodes.length cn,.slice Aa al.length ca,.slice Af nf cf]by rw[hW];exact(AO.made rfl _ _).alloc _) (show AO W1 (w.heap.size+1) 50 #[.int .i64 at_.x,.int .i64 at_.y]by rw[hW];exact AO.made Ak _ _) (show AU w W1 by rw[hW];exact bA (bA (bR w) _) _);rw[<-hW];clear hW;go_wp2_with fail;go_loopw[8](λu wr=>∃k:Nat,k<=p.nodes.length/\u=.int .i64 k/\(p.nodes.take k).find? (λn=>decide<|n.pt=at_)=none/\AU W1 wr)λu _=>p.nodes.length-(intOf u).toNat;case atStart=>exact⟨0,C9 _,rfl,rfl,bR W1⟩
 obtain⟨k,hk,rfl,hno,hb⟩:=hrel;obtain⟨wo,rfl⟩:=BR wr;have Fz:=V hno;have Hb:=V hb;have z:=DU.1.keep hb;have C:=CW.1.keep hb;clear hno hb;by_cases hlt:k<p.nodes.length
 .obtain⟨b,o,hA',M,U,c1,c2⟩:=(HRn.1.mono<|J HB1.1 Hb.1).nd hlt;subst hA';have KI:=V λs=>HLn.1 k hlt Fz.1 s;have JK:=V λhne=>aFo hlt Fz.1 hne;generalize p.nodes[k]=x at*;obtain⟨id,x0,y0⟩:=x;simp only at U c1 c2;have qL:(k:Int)<p.nodes.length:=I;have qM:0<=(k:Int):=I;have aFB:=V z;obtain⟨Au,Aw,Az,BA,-⟩:=z.BF;obtain⟨BX,Bf,Bh,-⟩:=C.BL;by_cases s:(⟨x0,y0⟩:Pt)=at_
  .have hr:=V<|KI.1 s;have he1:x0=at_.x:=by rw[<-s]
   have he2:y0=at_.y:=by rw[<-s]
   subst he1 he2;clear s KI JK Fz;go_upto_region 4 with fail;refine CZ wo (.run 8 0 0<|.done) λCG QR Ae Aj hS=>?_;iterate 8 refine Ah ?_
   refine CX ?_;clear hS Aj Ae;intro c;obtain⟨W6,hW⟩:∃W:World,W=wo.drew:=⟨_,rfl⟩;rw[<-hW]at c⊢;have EG:=V<|J HB1.1<|J Hb.1 c;have X7:=aFB.1.keep c;have c0':=Dk c U;have Po:b<W6.heap.size:=IQ M c.size;clear hW c z Au Aw Az BA C BX Bf Bh U c1 c2 M;obtain⟨Ec,Ee,Fg,rW,-⟩:=X7.BF;go_upto_region 5 with fail;refine CZ W6 (.run 8 0 0<|.done) λCG QR Ae Aj hS=>?_;iterate 8 refine Ah ?_
   refine CX ?_;clear hS Aj Ae;intro c;go_wp2_with fail;exact bodyPost_ret (results_tmp2 rfl _ _ _) rfl ⟨by rw[hr.1];rfl,J EG.1 c⟩
  have hr:=V<|JK.1 (by simpa using s);have hnx:x0≠at_.x\/x0=at_.x/\y0≠at_.y:=by
   by_cases e:x0=at_.x;.exact .inr ⟨e,λe2=>s<|by rw[e,e2]⟩
   exact .inl e
  clear s KI JK Fz;rcases hnx with hx|⟨rfl,hy⟩
  .have hx2:¬x0=at_.x:=hx;clear hx;go_upto_region 4 with fail;refine CZ wo (.run 8 0 0<|.done) λCG QR Ae Aj hS=>?_;iterate 8 refine Ah ?_
   refine CX ?_;clear hS Aj Ae;intro c;have EG:=V<|J Hb.1 c;clear c z Au Aw Az BA C BX Bf Bh U c1 c2 M;go_wp2;go_roundw;case rel=>exact⟨k+1,I,BH,hr.1,EG.1⟩
   exact BJ
  have hy2:¬y0=at_.y:=hy;clear hy;go_upto_region 4 with fail;refine CZ wo (.run 8 0 0<|.done) λCG QR Ae Aj hS=>?_;iterate 8 refine Ah ?_
  refine CX ?_;clear hS Aj Ae;intro c;have EG:=V<|J Hb.1 c;clear c z Au Aw Az BA C BX Bf Bh U c1 c2 M;go_wp2;go_roundw;case rel=>exact⟨k+1,I,BH,hr.1,EG.1⟩
  exact BJ
 obtain rfl:k=p.nodes.length:=I;have hnn:=Fz.1;rw[Gu]at hnn;obtain⟨ZL,HB4,Tn,YF⟩:=D9 hnn (J HB1.1 Hb.1) z C;clear hnn Fz Hb HB1 DU CW HLn C;try clear Au Aw Az BA
 obtain⟨Au,Aw,Az,BA,-⟩:=z.BF;go_upto_block 2 with fail;clear z Au Aw Az BA;go_wp2_with fail;go_loopw[9](λu wr=>∃k:Nat,k<=al.length/\u=.int .i64 k/\(p.AP.take k).find? (RG p at_)=none/\AU wo wr)λu _=>al.length-(intOf u).toNat;case atStart=>exact⟨0,C9 _,rfl,rfl,bR wo⟩
 obtain⟨k,hk,rfl,hno,hb⟩:=hrel;obtain⟨wq,rfl⟩:=BR wr;have Fz:=V hno;have Hb:=V hb;have z:=Tn.1.keep hb;have C:=YF.1.keep hb;clear hno hb;by_cases hlt:k<al.length
 .have hkp:k<p.AP.length:=by rw[<-Nv.1];exact hlt
  have hax:p.AP[k]=al[k].1:=by
   have e:p.AP[k]?=some al[k].1:=by rw[Iy.1,List.getElem?_map,DK hlt];rfl
   rw[DK hkp]at e;exact Dn e
  have hlen:=En p p.AP[k];have Pv:=HV.1.Td<|BG hkp;obtain⟨b,o,hA',M,U,-⟩:=(IU.1.mono<|J HB4.1 Hb.1).ar hlt;subst hA';rw[<-hax]at U;obtain⟨aC9,N7,XP,KI⟩:=D9 (λs=>aC2.1 ZL.1 k hkp Fz.1 s) (λhne=>aFo hkp Fz.1 hne) (JC.1 k hkp)<|Xx.1 k hkp;unfold RG at aC9 N7;clear hax Fz;generalize AV p p.AP[k]=T at*;generalize p.AP[k].id=id at*;have eP:=V λW(hW:AU wq W)=>XP.1 W<|J (J HB4.1 Hb.1) hW;have ajX:2<=T.length:=I;have hpl2:T.length<=66:=I;clear hlen Pv XP;have qL:(k:Int)<al.length:=I;have qM:0<=(k:Int):=I;have aCA:=V z;have al6:=V C;try clear Au Aw Az BA
  obtain⟨Au,Aw,Az,BA,-⟩:=z.BF;go_upto_region 9 with fail;refine CZ wq (.run 7 0 0<|.call 7 255<|.take 8 511<|.done) λCG QR Ae Aj hS=>?_;iterate 7 refine Ah ?_
  refine BP ?_;clear hS;intro K hK AQ;go_simp;refine(eP.1 _ AQ.out).mono ?_;rintro e Bv⟨A1,c1,rfl,Bj,hown⟩;have hS:Since wq Bv:=J (w:=wq) AQ.out Bj;clear AQ;refine hK.out _ _ hS λ_=>?_;clear hK K;try simp only[pu]
  refine Ah ?_;refine CX ?_;clear hS Aj Ae;intro c;obtain⟨Gw,eG,awH,XF,TI,Hc0⟩:=Lp (J (J HB4.1 Hb.1) c) (J Hb.1 c) (aCA.1.keep c) (al6.1.keep c) (Own.sl hown)<|Dk c U;have awI:b<Bv.heap.size:=IQ M c.size;clear z Au Aw Az BA C U M c hown eP Hb aCA al6;go_upto_block 4 with fail;go_wp2_with fail;go_loopw[11](λu wr=>∃m:Nat,m+1<=T.length/\u=.int .i64 ((m:Int)+1)/\Uf T at_ m=false/\AU Bv wr)λu _=>T.length-(intOf u).toNat;case atStart=>exact⟨0,I,rfl,rfl,bR Bv⟩
  obtain⟨m,hm,rfl,hnm,hb⟩:=hrel;obtain⟨wm,rfl⟩:=BR wr;have Ob:=V hnm;have OX:=V hb;clear hnm hb;by_cases hmt:m+1<T.length
  .obtain⟨kK,cp',s,-,-,Og⟩:=TI.1.mono OX.1;injection s with y1 y2 y3;subst y1 y3;clear y2;obtain⟨bp,op,KJ,hlp,d0,d1⟩:=Og.pt (show m<T.length by omega);obtain⟨bp',op',JM,-,d2,d3⟩:=Og.pt hmt;rw[KJ]at JM;injection JM with JM;injection JM with q1 q2 _;subst q1 q2 KJ;have hoi:=aFl (v:=at_) hmt;have hnr:=KI.1 m _ _ (DK I)<|DK hmt;generalize T[m+1]=pb at*;generalize T[m]=pa at*;obtain⟨xa,ya⟩:=pa;obtain⟨xb,yb⟩:=pb;simp only at d0 d1 d2 d3;have HO:=V λW=>II.1 ⟨xa,ya⟩ ⟨xb,yb⟩ W hnr;have C:=XF.1.keep OX.1;have aC5:(m:Int)+1<T.length:=I;have wO:0<=(m:Int):=I;have kk5:(m:Int)<T.length:=I;have kw:IntKind.i64.wrap (m:Int)=m:=Gz _ I;try clear BX Bf Bh
   obtain⟨BX,Bf,Bh,-⟩:=C.BL;cases hon:Eh ⟨xa,ya⟩ ⟨xb,yb⟩ at_ with|true=>
    rw[hon]at HO;have aC6:Uf T at_ (T.length-1)=true:=ak2 (k:=m+1) I (by rw[aFm,hoi,hon,Bool.or_true]);have hr:=V<|aC9.1 aC6;clear hon hoi aC6 aC9 N7 hnr;go_upto_region 13 with fail;refine CZ wm (.run 10 0 0<|.call 10 2047<|.done) λCG QR Ae Aj hS=>?_;iterate 10 refine Ah ?_
    refine FM (HO.1 _) ?_;clear hS;intro Bv Bj hS;refine CX ?_;clear hS Aj Ae;intro c;have Js:=V<|J (J Gw.1 OX.1) c;have X8:=awH.1.keep<|J OX.1 c;have U:=Dk (J OX.1 c) Hc0.1;have aeJ:b<Bv.heap.size:=IQ awI (J OX.1 c).size;clear C BX Bf Bh d0 d1 d2 d3 hlp c HO;obtain⟨Ox,Oy,Oz,aA9,-⟩:=X8.BF;go_upto_region 14 with fail;refine CZ Bv (.run 8 0 0<|.done) λCG QR Ae Aj hS=>?_;iterate 8 refine Ah ?_
    refine CX ?_;clear hS Aj Ae;intro c;go_wp2_with fail;exact bodyPost_ret (results_tmp2 rfl _ _ _) rfl ⟨by rw[hr.1];rfl,J Js.1 c⟩|false=>
    rw[hon]at HO;have hr:=V (show Uf T at_ (m+1)=false by rw[aFm,hoi,hon,Ob.1];rfl);clear hon hoi aC9 N7 hnr;go_upto_region 13 with fail;refine CZ wm (.run 10 0 0<|.call 10 2047<|.done) λCG QR Ae Aj hS=>?_;iterate 10 refine Ah ?_
    refine FM (HO.1 _) ?_;clear hS;intro Bv Bj hS;refine CX ?_;clear hS Aj Ae;intro c;have RI:=V<|J OX.1 c;clear C BX Bf Bh d0 d1 d2 d3 hlp c HO;go_wp2;go_roundw;case rel=>exact⟨m+1,I,BH,hr.1,RI.1⟩
    case measure=>exact BJ
  obtain rfl:m=T.length-1:=I;have hr:=V<|N7.1 Ob.1;have qN:=V<|J eG.1 OX.1;clear aC9 N7 Ob II OX;go_wp2;go_roundw;case rel=>exact⟨k+1,I,BH,hr.1,qN.1⟩
  exact BJ
 obtain rfl:k=al.length:=I;have qO:=Fz.1;rw[Nv.1,Gu]at qO;have hr:=aC3.1 ZL.1 qO;obtain⟨eG,aCA,HFin⟩:=CB (J HB4.1 Hb.1) z hr;clear qO hr Fz ZL aC3 aC2 II HB4 Tn YF HRn IU JC Xx;try clear Au Aw Az BA
 obtain⟨Au,Aw,Az,BA,-⟩:=z.BF;try clear BX Bf Bh
 obtain⟨BX,Bf,Bh,-⟩:=C.BL;go_upto_region 16 with fail;go_wp2_with fail;refine(Jk.1 _ eG.1).mono ?_;rintro e w7⟨⟨n,rfl,hn,hke⟩,hb7⟩;have Gw:=V<|J eG.1 hb7;have X7:=aCA.1.keep hb7;clear hb7 z Au Aw Az BA C BX Bf Bh eG aCA Jk;rcases Xe n with h0|h0
 .subst h0;have hz:JZ p (F8 p at_)=0:=by rw[hke];rfl
  have HZ:=V hz;clear hz hke X7;go_wp2_with fail;exact bodyPost_ret (results_tmp2 rfl _ _ _) rfl ⟨by rw[HFin.1,HZ.1];rfl,Gw.1⟩
 obtain⟨hx,d,t,hX,hfx,hwd⟩:=aj.1 n h0 hn hke;have HS:=V<|MK.1 d hwd;obtain⟨bc,oc,hAc,hlc,U⟩:=(Oc.1.mono Gw.1).cy hx;subst hAc;have hin:=(HI.1 _<|BG hx).mono Gw.1;rw[hX]at hin;obtain⟨Ax,cx,s,hx1,hx2,qG⟩:=hin;rw[s]at U;obtain⟨bx,ox,hAx,hlx,d0⟩:=qG.int (k:=0) Ak;subst hAx;simp only[List.getElem_cons_zero,Gy,VA]at d0 U hx1;have qJ:=V hfx;have hnl:n<=CL.length:=by rw[Jw.1];exact hn
 obtain⟨j,rfl⟩:∃j,n=j+1:=⟨n-1,I⟩;simp only[gI]at U hx;have ej:((j+1:Nat):Int)-1=j:=I;rw[ej];have j1:(j:Int)<CL.length:=I;have j2:0<=(j:Int):=I;have j3:0<((t.length+1:Nat):Int):=I;clear hfx hX s qG hx2 ej hke hwd h0;try clear Ec Ee Fg rW
 obtain⟨Ec,Ee,Fg,rW,-⟩:=X7.BF;go_upto_region 18 with fail;refine CZ w7 (.run 7 0 0<|.call 7 255<|.take 8 511<|.take 9 1023<|.done) λCG QR Ae Aj hS=>?_;iterate 7 refine Ah ?_
 refine FM (HS.1 _<|J Gw.1 hS) ?_;clear hS;intro Bv Bj hS;iterate 2 refine Ah ?_
 refine CX ?_;clear hS Aj Ae;intro c;have Ja:=V<|J Gw.1 c;go_wp2_with fail;exact bodyPost_ret (results_tmp2 rfl _ _ _) rfl ⟨by rw[HFin.1,qJ.1];rfl,Ja.1⟩
section
variable{G:Nat->Prop}{w w0 w' W:World}
def Skip(G:Nat->Prop)(w w':World):Prop:=w.heap.size<=w'.heap.size/\∀k,k<w.heap.size->¬G k->w'.heap[k]?=w.heap[k]?
theorem Skip.refl:Skip G w w:=⟨Dh _,λ_ _ _=>rfl⟩
theorem Skip.trans(h:Skip G w w')(k:Skip G w' W):Skip G w W:=⟨Du h.1 k.1,λi hi c=>(k.2 i (IQ hi h.1) c).trans<|h.2 i hi c⟩
theorem Skip.of(h:AU w w'):Skip G w w':=⟨h.size,λk hk _=>h.block k hk⟩
theorem Skip.EM(h:Skip G w w'){p:Addr}(j:G p.block)(u:Value):Skip G w<|w'.setCell p u:=⟨by simpa using h.1,λk hk c=>(Below.heap_setCell _ _ _ _<|λe=>c<|by rw[e];exact j).trans<|h.2 k hk c⟩
def wP(G:Nat->Prop)(w:World)(v:Value)(p:Pl):Prop:=∃vn va vf al,v=.agg #[vn,va,vf]/\p.AP=al.map (·.1)/\∀W,Skip G w W->Xq W vn p.nodes/\yY W va al/\Ints W vf p.faces
theorem wP.plv{v:Value}{p:Pl}(h:wP G w v p):Cj w v p:=by obtain⟨c,j,o,al,h1,h2,h3⟩:=h;exact⟨c,j,o,al,h1,h2,h3 w Skip.refl⟩
theorem wP.skip{v:Value}{p:Pl}(h:wP G w v p)(c:Skip G w w'):wP G w' v p:=by obtain⟨j,o,s,al,h1,h2,h3⟩:=h;exact⟨j,o,s,al,h1,h2,λW z=>h3 W<|c.trans z⟩
theorem Cj.skip{v:Value}{p:Pl}(h:Cj w0 v p)(hb:AU w0 w)(j:∀g,G g->w0.heap.size<=g):wP G w v p:=by obtain⟨o,s,z,al,h1,h2,h3,C,K⟩:=h;refine⟨o,s,z,al,h1,h2,λW c=>?_⟩;have hk:Below w0.heap.size w0 {w0 with heap:=W.heap}:=⟨rfl,rfl,rfl,Du hb.size c.1,λk hk=>(c.2 k (IQ hk hb.size)<|λM=>by have:=j k M;omega).trans<|hb.block k hk⟩;have h:=And.intro (h3.mono hk)<|And.intro (C.mono hk)<|K.mono hk;exact h
theorem Own.skip{α:Type}{base:Nat}{e:TypeId}{size:Nat}{f:α->List Value}{v:Value}{l:List α}(h:Own w base e size f v l)(s:∀g,G g->g<base)(z:Skip G w W):Own W base e size f v l:=by
 obtain⟨h1,h2⟩:=h;refine⟨h1,?_⟩;rcases h2 with h2|⟨g,c,j,hv,C,o,r⟩;.exact .inl h2
 exact .inr ⟨g,c,j,hv,C,(z.2 g (AO.lt o)<|λk=>by have:=s g k;omega).trans o,r⟩
theorem Cj.form{v:Value}{p:Pl}(h:Cj w v p):∃c j o s z C,v=.agg #[.slice c p.nodes.length j,.slice o p.AP.length s,.slice z p.faces.length C]:=by obtain⟨_,_,_,al,rfl,K,⟨c,j,rfl,-⟩,⟨⟨o,s,rfl,-⟩,-⟩,⟨z,C,rfl,-⟩⟩:=h;exact⟨c,j,o,s,z,C,by rw[K,D6]⟩
end
theorem aFC:∀(b l:List Int),(b.foldl JO l).length<=l.length+b.length|[],l=>by simp|n::b,l=>by rw[V8,Gy];have:=aFC b<|JO l n;have:=acQ l n;omega
theorem al7(l:List Int):(O5 l).length<=l.length:=by have:=aFC l [];unfold O5;simpa using this
theorem awJ(a b:List Int):(XD a b).length<=a.length+b.length:=by have h1:=aFC b<|O5 a;have h2:=al7 a;unfold XD;omega
theorem awK(U vb:Value)(a b:List Int)(w:World)(ha:Ints w U a)(hb:Ints w vb b)(hla:a.length<=100000)(hlb:b.length<=100000):Calls prog 212 #[U,vb] w<|aB3 w<|XD a b:=by
 have HN:=V λW(hW:AU w W)=>akK U a W (Ints.mono ha hW) hla;have HW:=V λv l n W(h:Ints W v l)(hl:l.length<=1000000)=>acR v l n W h hl;have hnl:=al7 a;obtain⟨B,cb,rfl,o,hb2,C⟩:=hb;unfold maxLen at hb2;have HRb:=V C;obtain⟨N,hN⟩:=BM<|O5 a;rw[hN]at HN hnl;obtain⟨R,hR⟩:=BM<|XD a b;have j:=hR;unfold XD at j;rw[hN]at j;have HR:=V j;rw[hR];clear ha C hN hR j;go_enter func212,ntmps212;go_wp2_with fail;refine(HN.1 _<|bR w).mono ?_;rintro e w1⟨A1,c1,rfl,o,K⟩;have HB1:=V o;have HI1:=V K;clear o K HN;go_wp2_with fail;go_loopw[5,6](λs u wr=>∃(k:Nat)(A:Option Addr)(c:Nat),k<=b.length/\u=.int .i64 k/\s=.slice A ((b.take k).foldl JO N).length c/\Ints wr (.slice A ((b.take k).foldl JO N).length c) ((b.take k).foldl JO N)/\AU w wr)λ_ u _=>b.length-(intOf u).toNat;case atStart=>exact⟨0,A1,c1,C9 _,rfl,rfl,HI1.1,HB1.1⟩
 obtain⟨k,A,c,hk,rfl,rfl,hi,hb⟩:=hrel;have HI:=V hi;have Hb:=V hb;clear hi hb;have hfl:=aFC (b.take k) N;have htl:(b.take k).length<=100000:=by rw[JF];omega
 by_cases hlt:k<b.length
 .obtain⟨bb,oo,rfl,aBN,c0⟩:=(HRb.1.mono Hb.1).int hlt;have M:(b.take<|k+1).foldl JO N=JO ((b.take k).foldl JO N) b[k]:=by rw[Eu hlt,LG];rfl
  have Ce:=V M;have q1:(k:Int)<b.length:=I;have q2:0<=(k:Int):=I;generalize b[k]=n at*;generalize(b.take k).foldl JO N=L at*;clear M;go_wp2_with fail;refine(HW.1 _ L n _ HI.1 I).mono ?_;rintro e w2⟨A2,c2,rfl,hb2,T⟩;have z:=V T;have HB2:=V<|J Hb.1 hb2;clear hb2 T;go_wp2;go_roundw;case rel=>exact⟨k+1,A2,c2,I,BH,by rw[Ce.1],by rw[Ce.1];exact z.1,HB2.1⟩
  exact BJ
 obtain rfl:k=b.length:=I;have hi:=HI.1;rw[Gu,HR.1]at hi⊢;have z:=V hi;clear hi;go_wp2;go_ret;exact⟨A,c,rfl,Hb.1,z.1⟩
theorem al8(y:Int)(q:Pt×Pt):(KN y q).length<=2:=by
 unfold KN;split;.simp
 split<;>simp
theorem awL{P:List Pt}{m:Nat}(hm:m+1<P.length):(EO P).take (m+1)=(EO P).take m++[(P[m]'(by omega),P[m+1])]:=by
 have c:(EO P).length=P.length-1:=by unfold EO;rw[D6,Oo]
 have h:m<(EO P).length:=I;rw[Eu h];congr 2;simp only[EO,Ib,List.getElem_range,G5,DK hm,DK<|show m<P.length by omega,I7]
def qR(y:Int)(l:List Int)(q:Pt×Pt):List Int:=XD l<|KN y q
theorem awM(y:Int)(l:List Int)(q:Pt×Pt):(qR y l q).length<=l.length+2:=by have h1:=awJ l<|KN y q;have h2:=al8 y q;unfold qR;omega
theorem awN(v:Value)(p:Pl)(y:Int)(w:World)(h:Cj w v p)(hv:Valid p)(hy:-2097152<=y/\y<=2097152):Calls prog 155 #[v,.int .i64 y] w<|aB3 w<|Ls p y:=by
 obtain⟨HV,JC,qN,HUn,HWi,Xx⟩:=Lp hv (λk(hk:k<p.AP.length)W(hW:AU w W)=>show Calls prog 100 #[v,.int .i64 p.AP[k].id] W<|Zj W<|AV p p.AP[k]from hv.al5 (BG hk)▸aBQ v p p.AP[k].id W (h.mono hW) hv (Ij.2 ⟨_,BG hk,.inl rfl⟩)) (λa b W(ha:lim a)(hb:lim b)=>aum a b y W ha hb hy) (λva vb a b W(ha:Ints W va a)(hb:Ints W vb b)(hla:a.length<=100000)(hlb:b.length<=100000)=>awK va vb a b W ha hb hla hlb) (λv l n W(h:Ints W v l)(hl:l.length<=1000000)=>acR v l n W h hl) λ(k:Nat)(hk:k<p.AP.length)(m:Nat)(a:Pt)(h1:(AV p p.AP[k])[m]?=some a)=>show lim a from(QO _).1<|hv.Zu (BG hk)<|aCc h1;have aC4:p.nodes.length<=256:=hv.bg;have hqa:p.AP.length<=256:=by have hl:=hv.lim;unfold Jr at hl;simp at hl;omega
 obtain⟨_,_,_,al,rfl,hpa,⟨An,cn,rfl,hn1,hn2,jo⟩,⟨⟨Aa,ca,rfl,ha1,ha2,G6⟩,TB⟩,⟨Af,cf,rfl,-⟩⟩:=h;unfold maxLen at hn2 ha2;generalize p.faces.length=nf at*;have hal:al.length=p.AP.length:=by rw[hpa,D6]
 obtain⟨HRn,IU,Iy,Nv⟩:=D9 jo G6 hpa hal;have ak4:al.length<=256:=I;unfold BD at qN;obtain⟨R,hR⟩:=BM<|Ls p y;have HR:=V hR;rw[hR];clear hv jo G6 TB hpa hal hR;go_enter func155,ntmps155;go_upto_block 0 with fail;obtain⟨W1,hW⟩:=BR<|w.alloc<|.cells #[.slice An p.nodes.length cn,.slice Aa al.length ca,.slice Af nf cf] 26;have DU:=V (show AO W1 w.heap.size 26 #[.slice An p.nodes.length cn,.slice Aa al.length ca,.slice Af nf cf]by rw[hW];exact AO.made rfl _ _);have HB1:=V (show AU w W1 by rw[hW];exact bA (bR w) _);rw[<-hW];clear hW;go_wp2_with fail;go_loopw[5,6](λs u wr=>∃(k:Nat)(A:Option Addr)(c:Nat)(L:List Int),k<=al.length/\u=.int .i64 k/\s=.slice A L.length c/\L=((p.AP.take k).flatMap λa=>EO<|AV p a).foldl (qR y) []/\L.length<=200*k/\Ints wr (.slice A L.length c) L/\AU W1 wr)λ_ u _=>al.length-(intOf u).toNat;case atStart=>exact⟨0,none,0,[],C9 _,rfl,rfl,rfl,C9 _,Sl.nil _,bR W1⟩
 obtain⟨k,A,c,L,hk,rfl,rfl,hL,hll,hi,hb⟩:=hrel;obtain⟨wo,rfl⟩:=BR wr;obtain⟨HL,HI,Hb⟩:=CB hL hi hb;have X1:=DU.1.keep hb;clear hL hi hb;by_cases hlt:k<al.length
 .have U:k<p.AP.length:=by rw[<-Nv.1];exact hlt
  have hax:p.AP[k]=al[k].1:=by
   have e:p.AP[k]?=some al[k].1:=by rw[Iy.1,List.getElem?_map,DK hlt];rfl
   rw[DK U]at e;exact Dn e
  have hlen:=En p p.AP[k];have Pv:=HV.1.Td<|BG U;obtain⟨b,o,hA',hlb,c0,-⟩:=(IU.1.mono<|J HB1.1 Hb.1).ar hlt;subst hA';rw[<-hax]at c0;have htk:(p.AP.take<|k+1).flatMap (λa=>EO<|AV p a)=(p.AP.take k).flatMap (λa=>EO<|AV p a)++EO (AV p p.AP[k]):=by rw[Eu U,LY];simp
  obtain⟨XP,KI,FI⟩:=CB (JC.1 k U) (Xx.1 k U) htk;clear hax htk;generalize AV p p.AP[k]=C at*;generalize p.AP[k].id=id at*;have eP:=V λW(hW:AU wo W)=>XP.1 W<|J (J HB1.1 Hb.1) hW;have ajX:2<=C.length:=I;have hpl2:C.length<=66:=I;have hsl:(EO C).length=C.length-1:=by unfold EO;rw[D6,Oo]
  clear hlen Pv XP;have qL:(k:Int)<al.length:=I;have qM:0<=(k:Int):=I;obtain⟨Au,Aw,Az,BA,-⟩:=X1.BF;go_upto_region 5 with fail;refine CZ wo (.run 7 0 0<|.call 7 255<|.take 8 511<|.done) λCG QR Ae Aj hS=>?_;iterate 7 refine Ah ?_
  refine BP ?_;clear hS;intro K hK AQ;go_simp;refine(eP.1 _ AQ.out).mono ?_;rintro e Bv⟨A1,c1,rfl,Bj,hown⟩;have hS:Since wo Bv:=J (w:=wo) AQ.out Bj;clear AQ;refine hK.out _ _ hS λ_=>?_;clear hK K;try simp only[pu]
  refine Ah ?_;refine CX ?_;clear hS Aj Ae;intro hB;obtain⟨Gw,TI,HI7⟩:=CB (J Hb.1 hB) (Own.sl hown)<|Ints.mono HI.1 hB;clear X1 Au Aw Az BA c0 hlb hB hown eP Hb HI;go_upto_block 2 with fail;go_wp2_with fail;go_loopw[5,8](λs u wr=>∃(m:Nat)(A:Option Addr)(c:Nat)(M:List Int),m+1<=C.length/\u=.int .i64 ((m:Int)+1)/\s=.slice A M.length c/\M=((EO C).take m).foldl (qR y) L/\M.length<=200*k+2*m/\Ints wr (.slice A M.length c) M/\AU Bv wr)λ_ u _=>C.length-(intOf u).toNat;case atStart=>exact⟨0,A,c,L,I,rfl,rfl,rfl,I,HI7.1,bR Bv⟩
  obtain⟨m,A5,c5,M,hm,rfl,rfl,T,hml,hi,hb⟩:=hrel;obtain⟨wm,rfl⟩:=BR wr;obtain⟨HM,HIm,OX⟩:=CB T hi hb;clear T hi hb;by_cases hmt:m+1<C.length
  .obtain⟨kK,cp',he,-,-,Og⟩:=TI.1.mono OX.1;injection he with y1 y2 y3;subst y1 y3;clear y2;obtain⟨bp,op,KJ,hlp,d0,d1⟩:=Og.pt (show m<C.length by omega);obtain⟨bp',op',JM,-,d2,d3⟩:=Og.pt hmt;rw[KJ]at JM;injection JM with JM;injection JM with q1 q2 _;subst q1 q2 KJ;have hsg:=awL hmt;have hl1:=KI.1 m _<|DK I;have hl2:=KI.1 (m+1) _<|DK hmt;generalize C[m+1]=pb at*;generalize C[m]=pa at*;have z:((EO C).take<|m+1).foldl (qR y) L=qR y M (pa,pb):=by rw[hsg,LG,<-HM.1];rfl
   have hbl:=awM y M (pa,pb);have Ce:=V z;have RI:=V λW=>qN.1 pa pb W hl1 hl2;have hb2:=al8 y (pa,pb);obtain⟨xa,ya⟩:=pa;obtain⟨xb,yb⟩:=pb;simp only at d0 d1 d2 d3;have aC5:(m:Int)+1<C.length:=I;have wO:0<=(m:Int):=I;have kk5:(m:Int)<C.length:=I;have kw:IntKind.i64.wrap (m:Int)=m:=Gz _ I;clear hsg hl1 hl2 z Og;go_upto_region 9 with fail;refine CZ wm (.run 11 0 0<|.call 11 4095<|.call 12 8191<|.take 13 16383<|.done) λCG QR Ae Aj hS=>?_;iterate 11 refine Ah ?_
   refine BP ?_;clear hS;intro K hK AQ;go_simp;refine(RI.1 _).mono ?_;rintro e Bv⟨A2,c2,rfl,Bj,hi2⟩;have hS:Since wm Bv:=J (w:=wm) AQ.out Bj;clear AQ;refine hK.out _ _ hS λ_=>?_;clear hK K;try simp only[pu]
   refine BP ?_;clear hS;intro K hK AQ;go_simp;refine(HUn.1 _ _ M _ _ (Ints.mono HIm.1 AQ.out) hi2 I I).mono ?_;rintro e wr2⟨A3,c3,rfl,F5,hi3⟩;have hS:Since wm wr2:=J (w:=wm) AQ.out F5;clear AQ;refine hK.out _ _ hS λ_=>?_;clear hK K;try simp only[pu]
   refine Ah ?_;refine CX ?_;clear hS Aj Ae;intro hB;have aCB:=V<|J OX.1 hB;have Jy:=V hi3;clear d0 d1 d2 d3 hlp hB hi2 hi3;go_wp2;go_roundw;case rel=>exact⟨m+1,A3,c3,qR y M (⟨xa,ya⟩,⟨xb,yb⟩),I,BH,rfl,Ce.1.symm,I,Jy.1,aCB.1⟩
   exact BJ
  obtain rfl:m=C.length-1:=I;have awO:=V<|J Gw.1 OX.1;have T:=HM.1;rw[Ip I,HL.1,<-LG,<-FI.1]at T;have KH:=V T;clear T;go_wp2;go_roundw;case rel=>exact⟨k+1,A5,c5,M,I,BH,rfl,KH.1,I,HIm.1,awO.1⟩
  exact BJ
 obtain rfl:k=al.length:=I;have hL:=HL.1;rw[Ip<|by rw[Nv.1];exact Dh _]at hL;have HL0:=V<|show L=aFf y (jf p)from hL;have Tn:=V X1;clear hL HL DU JC qN HUn Xx IU;try clear Au Aw Az BA
 obtain⟨Au,Aw,Az,BA,-⟩:=X1.BF;go_upto_block 4 with fail;clear X1 Au Aw Az BA;go_wp2_with fail;go_loopw[5,9](λs u wr=>∃(j:Nat)(A:Option Addr)(c:Nat)(M:List Int),j<=p.nodes.length/\u=.int .i64 j/\s=.slice A M.length c/\M=(p.nodes.take j).foldl (Xz y) L/\M.length<=200*al.length+j/\Ints wr (.slice A M.length c) M/\AU wo wr)λ_ u _=>p.nodes.length-(intOf u).toNat;case atStart=>exact⟨0,A,c,L,C9 _,rfl,rfl,rfl,I,HI.1,bR wo⟩
 obtain⟨j,A5,c5,M,hj,rfl,rfl,T,hml,hi,hb⟩:=hrel;obtain⟨wj,rfl⟩:=BR wr;obtain⟨HM,HIj,Hbj⟩:=CB T hi hb;have X1:=Tn.1.keep hb;clear T hi hb;by_cases hlt:j<p.nodes.length
 .obtain⟨b,o,hA',hlb,c0,c1,c2⟩:=(HRn.1.mono<|J (J HB1.1 Hb.1) Hbj.1).nd hlt;subst hA';have z:(p.nodes.take<|j+1).foldl (Xz y) L=Xz y M p.nodes[j]:=by rw[Eu hlt,LG,<-HM.1];rfl
  generalize p.nodes[j]=x at*;obtain⟨id,x0,y0⟩:=x;simp only at c0 c1 c2;have hwl:=acQ M x0;have qL:(j:Int)<p.nodes.length:=I;have qM:0<=(j:Int):=I;try clear Au Aw Az BA
  obtain⟨Au,Aw,Az,BA,-⟩:=X1.BF;by_cases he:y0=y
  .have hbn:Xz y M ⟨id,⟨x0,y0⟩⟩=JO M x0:=AZ he;rw[hbn]at z;have Ce:=V z;have b1:(y0==y)=true:=by simpa using he
   clear z hbn he;go_wp2_with fail;refine(HWi.1 _ M x0 _ HIj.1 I).mono ?_;rintro e w8⟨A8,c8,rfl,hb8,hi8⟩;have HI8:=V hi8;have Js:=V<|J Hbj.1 hb8;clear hb8 hi8 X1 Au Aw Az BA c0 c1 c2 hlb;go_wp2;go_roundw;case rel=>exact⟨j+1,A8,c8,JO M x0,I,BH,rfl,Ce.1.symm,I,HI8.1,Js.1⟩
   exact BJ
  have hbn:Xz y M ⟨id,⟨x0,y0⟩⟩=M:=AX he;rw[hbn]at z;have Ce:=V z;have b1:(y0==y)=false:=by simpa using he
  clear z hbn he;go_wp2;go_roundw;case rel=>exact⟨j+1,A5,c5,M,I,BH,rfl,Ce.1.symm,I,HIj.1,Hbj.1⟩
  exact BJ
 obtain rfl:j=p.nodes.length:=I;have T:=HM.1;rw[Gu,HL0.1]at T;have HMr:=V<|show M=R from T.trans HR.1;have Lm:=V<|J (J HB1.1 Hb.1) Hbj.1;clear T;try clear Au Aw Az BA
 obtain⟨Au,Aw,Az,BA,-⟩:=X1.BF;go_wp2;go_ret;exact⟨A5,c5,by rw[<-HMr.1];rfl,Lm.1,by rw[<-HMr.1];exact HIj.1⟩
theorem awP(x y:Int)(w:World)(h:JG x)(C:0<y):Calls prog 210 #[.int .i64 x,.int .i64 y] w λe w'=>e=.returned (.tuple #[.int .i64<|QL x y,.int .i64 0])/\w=w':=by
 have s:=V λw=>anG x y w h I;have z:=af6 (b:=y) h I;obtain⟨⟨K,M⟩,T,U⟩:=z;have k1:=DR<|x.tdiv y;have k2:=DR<|x.tmod y;have k3:¬y=0:=I;have k4:=DR<|x.tdiv y+1;have j:decide (y<0)=false:=by simp;omega
 obtain⟨r,o⟩:=BM<|QL x y;rw[o];rw[ani C]at o;have Hr:=V o;clear o C h K M T U;by_cases h0:x.tmod y=0
 .have e0:(x.tmod y !=0)=false:=by simp[h0]
  have c:=Hr.1;rw[AX λe=>e.1 h0]at c;have HF:=V c;clear c h0 j;go_enter func210,ntmps210;go_wp2_with fail;refine(s.1 _).mono ?_;rintro e w1⟨rfl,rfl⟩;go_wp2_with fail;go_ret2;exact⟨by rw[<-HF.1];rfl,rfl⟩
 have e0:(x.tmod y !=0)=true:=by simp[h0]
 by_cases h1:x.tmod y<0
 .have c:=Hr.1;rw[AX λe=>e.2 h1]at c;have HF:=V c;have e1:(decide (x.tmod y<0)==decide (y<0))=false:=by rw[j,Ia h1];rfl
  clear c h0 h1 j;go_enter func210,ntmps210;go_wp2_with fail;refine(s.1 _).mono ?_;rintro e w1⟨rfl,rfl⟩;go_wp2_with fail;go_ret2;exact⟨by rw[<-HF.1];rfl,rfl⟩
 have c:=Hr.1;rw[AZ ⟨h0,h1⟩]at c;have HF:=V c;have e1:(decide (x.tmod y<0)==decide (y<0))=true:=by rw[j,GX h1];rfl
 clear c h0 h1 j;go_enter func210,ntmps210;go_wp2_with fail;refine(s.1 _).mono ?_;rintro e w1⟨rfl,rfl⟩;go_wp2_with fail;go_ret2;exact⟨by rw[<-HF.1];rfl,rfl⟩
def GZ(r:Rn):List Value:=[.int .i64 r.lo,.int .i64 r.hi]
theorem XG(r:Rn):(GZ r).length=2:=rfl
theorem Y8(r:Rn):∀u∈GZ r,u.oneCell'=true:=by simp[GZ,Value.oneCell']
theorem Y9:Elem prog 137 134 2 16:=Elem.QI (z:=.agg #[.int .i64 0,.int .i64 0]) IK IK rfl I
theorem awQ:StructOf prog 134 2:=.QI Tryz.underlying134 IK
theorem awR(s t:Rn)(w:World):Calls prog 277 #[.agg #[.int .i64 s.lo,.int .i64 s.hi],.agg #[.int .i64 t.lo,.int .i64 t.hi]] w λe w'=>e=.returned (.int .i64<|Lj s.lo t.lo)/\Nj w w':=by go_enter func277,ntmps277;go_wp2_with fail;refine(aAO s.lo t.lo _).mono ?_;rintro e w1⟨rfl,c,j⟩;have o:=V<|J (bA (bA (bR w) _) _) c;have z:=V<|dT (dA (dA (dR w) _) _) j;clear c j;go_wp2;go_ret;exact⟨rfl,o.1,z.1⟩
structure ZQ(w:World)(B g:Nat)(l:List Rn)(v:Value):Prop where box:AO w g 137 #[v]own:Own w B 134 2 GZ v l
theorem ZQ.keep{w w':World}{B g:Nat}{l:List Rn}{v:Value}(h:ZQ w B g l v)(hb:AU w w'):ZQ w' B g l v:=⟨h.box.keep hb,h.own.keep hb⟩
open Go.RowKit Go.Sort
theorem awS:∀w,(isAgg 134).run prog w=.ok true w:=λ_=>by kernel_rfl
theorem awT:∀w,(Go.sizeOf 134).run prog w=.ok 2 w:=λ_=>by kernel_rfl
def awU(w:World)(base:Nat)(v:Value)(sl:List Rn)(e:Ending)(w':World):Prop:=e=.returned (.tuple #[])/\∃sl':List Rn,sl'.Perm sl/\sl'.Pairwise (λa b=>ltOf (λx y:Rn=>Lj x.lo y.lo) b a=false)/\Own w' base 134 2 GZ v sl'/\w.grownBy w' v.ownBlock
theorem awV(base:Nat)(v:Value)(sl:List Rn)(w:World)(M:Own w base 134 2 GZ v sl)(hn:sl.length<=4294967296):Calls prog 276 #[v,.func (.func 277) #[] #[]] w<|awU w base v sl:=by
 rcases sl with _|⟨s0,rest⟩
 .have hv:∃p o,v=.slice p 0 o:=by
   rcases M.2 with⟨h,_⟩|⟨g,o,z,h,_⟩;.exact⟨_,_,h⟩
   exact⟨_,_,h⟩
  obtain⟨p,o,rfl⟩:=hv;refine Calls.mono (AnyF.slices_SortFunc_none Tryz.sortRn p o (.func (.func 277) #[] #[]) w) ?_;rintro e w'⟨rfl,rfl⟩;exact⟨rfl,[],List.Perm.refl _,List.Pairwise.nil,M,World.grownBy.refl _ _⟩
 generalize hsl:s0::rest=sl at*;have hs0:s0∈sl:=by rw[<-hsl];simp
 have hpos:0<sl.length:=by rw[<-hsl];simp
 obtain⟨hlen,hown2⟩:=M;rcases hown2 with⟨_,h0⟩|⟨g,o,z,rfl,hg,hh,hnc,hcm,hcs,hx⟩;.omega
 haveI hI:Inhabited {s:Rn//s=s}:=⟨⟨s0,rfl⟩⟩;have T:∃K:List {s:Rn//s=s},K.map (·.1)=sl:=⟨sl.attachWith (λs=>s=s) λ_ _=>rfl,Ak⟩;obtain⟨K,T⟩:=T;have hdn:K.length=sl.length:=by rw[<-T];simp
 have hfm:K.flatMap (λx=>GZ x.1)=sl.flatMap GZ:=by rw[<-T,Qm]
 have hcur:∀j,j<sl.length*2->z[j]?=(sl.flatMap GZ)[j]?:=λj C=>by rw[<-hx,List.getElem?_take,AZ C];simp
 have eg:∀args w,(callFunc 277 args).run prog w=.ok (.enter 277 args) w:=enters_of func277 IK rfl;have hkk:∀x:{s:Rn//s=s},(GZ x.1).length=2:=λ_=>rfl;have hcmp:CmpLays prog 277 #[] (λx:{s:Rn//s=s}=>GZ x.1) 2 (λx y=>(λx y:Rn=>Lj x.lo y.lo) x.1 y.1) g 0 K.toArray.size w:=λm os dk hdk x y=>by have hg':=iP (λx:{s:Rn//s=s}=>GZ x.1) 2 w g 0 m dk os;exact(awR x.1 y.1 _).mono λe w' h=>⟨h.1,zT h.2⟩
 have hsz:K.toArray.size*2=sl.length*2:=by simp[hdn]
 have hH:HoldsK (λx:{s:Rn//s=s}=>GZ x.1) 2 w g 0 K.toArray:=λj C=>by
  rw[size_flatK,hsz]at C;refine⟨?_,AO.frozen (t:=134) (cs:=z) hh _⟩;rw[cell_of_row w g _ z 134 (0,0) hh,Rk,hcur j C,iQ _ 2 hkk _ j<|by rw[hsz];exact C];simp only[id];rw[hfm,List.getElem!_eq_getElem?_getD];have:j<(sl.flatMap GZ).length:=by rw[hlen];exact C
  rw[DK this];rfl
 have hcon:=AnyQ.slices_SortFunc Tryz.sortRn 2 awS awT (λx:{s:Rn//s=s}=>GZ x.1) hkk (λx=>Y8 x.1) (λx y=>(λx y:Rn=>Lj x.lo y.lo) x.1 y.1) (aaX λx:{s:Rn//s=s}=>x.1.lo) 277 #[] g 0 o K.toArray w eg hcmp hH (AO.lt hh) D8;have hns:K.toArray.size=sl.length:=by simp[hdn]
 rw[hns]at hcon;refine Calls.mono hcon ?_;rintro e w'⟨rfl,c,n,os,hp,hs,rfl⟩;obtain⟨p1,-,p3⟩:=hp;have U:c.size=sl.length:=by rw[p1,hns]
 have hperm:c.toList.Perm K:=by
  have e1:c.extract 0 sl.length=c:=by rw[<-U];simp
  have e2:K.toArray.extract 0 sl.length=K.toArray:=by rw[<-hns];simp
  rw[e1,e2]at p3;simpa using p3
 have hg':=iP (λx:{s:Rn//s=s}=>GZ x.1) 2 w g 0 n c os;refine⟨rfl,c.toList.map (·.1),by rw[<-T];exact hperm.map _,?_,?_,hg'⟩
 .rw[H9,FT];intro i j hi C hij;have hj':j<c.size:=by simpa using C
  have:=hs i j (C9 _) hij (by rw[<-U];exact hj');rw[getElem!_pos c j hj',getElem!_pos c i I]at this;exact this
 have hl':(c.toList.map (·.1)).length=sl.length:=by simp[U]
 unfold Own;rw[hl'];have hfd:(c.toList.map (·.1)).flatMap GZ=c.toList.flatMap λx=>GZ x.1:=by rw[Qm]
 have hln:((c.toList.map (·.1)).flatMap GZ).length=sl.length*2:=by rw[flat_length GZ 2 XG,hl']
 refine⟨hln,.inr ⟨g,o,putCells id 0 (flatK (λx:{s:Rn//s=s}=>GZ x.1) 2 c) z,rfl,hg,?_,hnc,hcm,xZ,?_⟩⟩;.have hgl:g<w.heap.size:=AO.lt hh;rw[sH,Array.getElem?_append_left<|by simpa using hgl,Array.getElem?_modify,AZ rfl,hh];rfl
 apply qw;intro j;rw[List.getElem?_take];by_cases C:j<sl.length*2
 .rw[AZ C,hfd];have hjc:j<z.size:=by rw[hcs];have:=qx 2 hnc;omega
  have hjd:j<c.size*2:=by rw[U];exact C
  have e1:(putCells id 0 (flatK (λx:{s:Rn//s=s}=>GZ x.1) 2 c) z).toList[j]?=some (flatK (λx:{s:Rn//s=s}=>GZ x.1) 2 c)[j]!:=by simp[putCells,hjc,hjd]
  rw[e1,iQ _ 2 hkk _ j hjd,List.getElem!_eq_getElem?_getD];have:j<(c.toList.flatMap λx=>GZ x.1).length:=by rw[<-hfd,hln];exact C
  rw[DK this];rfl
 rw[AX C,aN<|by rw[hln];omega]
theorem awW{P:Program}(w:World)(base:Nat)(t ty e:TypeId)(i:TypeInfo)(size:Nat)(ht:P.underlying t=some (.slice e))(hi:P.info? e=some i)(T:i.size=size)(hsz:0<size)(v:Value)(n:Nat)(xs:List Value)(z:w.ownsRow base e size v n xs)(src:Value)(s:List Value)(hs:Sl w src n s)(U:s.length=n*size)(h1:∀u∈s,u.oneCell'=true):∃w',(Builtin.copy_ #[t,t] ty #[v,src]).run P w=.ok (goInt n) w'/\w'.ownsRow base e size v n s/\w.grownBy w' v.ownBlock:=by
 obtain⟨A,c,rfl,-,-,hr⟩:=hs;have hlz:∀(x:Addr),(loadCells x 0).run P w=.ok #[] w:=λx=>by simpa using run_loadCells_list (P:=P) w x [] Ak
 have zero:n=0->∀d K,v=.slice d 0 K->∃w',(Builtin.copy_ #[t,t] ty #[v,.slice A n c]).run P w=.ok (goInt n) w'/\w'.ownsRow base e size v n s/\w.grownBy w' v.ownBlock:=by intro hn d K hv;subst hn;have hnews:s=[]:=qh (by simpa using U);subst hnews;have hxs:xs=[]:=qh (by have:=z.1;simpa using this);subst hxs;refine⟨w,?_,z,World.grownBy.refl _ _⟩;rw[hv];cases d<;>cases A<;>simp[Builtin.copy_,run_underlying ht,Builtin.lenOf,Builtin.firstCells,sizeOf,typeInfo,hi,storeCells,hlz]
 rcases z.2 with⟨rfl,h0⟩|⟨g,K,C,rfl,hg,hh,hnc,hcm,hcs,hx⟩;.exact zero h0 none 0 rfl
 rcases Xe n with h0|h0;.subst h0;exact zero rfl _ _ rfl
 have M:s≠[]:=λe0=>by rw[e0]at U;have:=Nat.mul_pos h0 hsz;simp at U;omega
 obtain⟨b,o,rfl,-,hc⟩:=hr M;have hsrc:∀j u,s[j]?=some u->w.cell? ((⟨b,o,none⟩:Addr).add j)=some u:=λj u hu=>Row.at0 (xs:=s) (λ_=>⟨b,o,rfl,by obtain⟨b',o',e',hb',-⟩:=hr M;injection e' with e';injection e' with e1 _ _;subst e1;exact hb',hc⟩) j u hu;have hfit:0+s.length<=C.size:=by rw[U,hcs,Rk];exact qx _ hnc
 have hld:=run_loadCells_list (P:=P) w ⟨b,o,none⟩ s hsrc;have hst:=run_storeCells_at P g 0 e s 0 C w hh (by simpa using hfit) h1;refine⟨w.setRow g (C.toList.take 0++s++C.toList.drop (0+s.length)).toArray,?_,?_,?_⟩
 .have hmul:n*i.size=s.length:=by rw[U,T]
  simp[Builtin.copy_,run_underlying ht,Builtin.lenOf,Builtin.firstCells,sizeOf,typeInfo,hi,hmul,hld,hst]
 .refine⟨U,.inr ⟨g,K,_,rfl,hg,setRow_heap w g C _ e _ hh,hnc,hcm,?_,?_⟩⟩;.simp;omega
  simp[<-U]
 exact⟨rfl,rfl,rfl,by simp[World.setRow],λk hk M=>setRow_other w g k _ λe=>M aO⟩
theorem awX{P:Program}(w:World){ops:Array Oper}{rest:List Oper}{o:Oper}{a:Act}{Q:Exit->Act->World->Prop}(U:o.guard=none)(s x:Operand)(t:TypeId)(ho:o.op=.call {callee:=.builtin .copy,args:=#[s,x],argTypes:=#[t,t]}){α:Type}{f:α->List Value}{base:Nat}{e:TypeId}{size bytes:Nat}(hE:Elem P t e size bytes)(hf:∀a,(f a).length=size)(C:∀a,∀u∈f a,u.oneCell'=true){v:Value}{n:Nat}{xs:List Value}(hs:a.eval s=v)(M:w.ownsRow base e size v n xs){c:Value}{l:List α}(hn:n=l.length)(hx:a.eval x=c)(hr:Sl w c l.length<|l.flatMap f)(h:∀w',Own w' base e size f v l->w.grownBy w' v.ownBlock->wpList P ops Q rest (a.put o.dst<|goInt l.length) w'):wpList P ops Q (o::rest) a w:=by subst hn;obtain⟨ht,i,z,hi,hz,j,hby,hzs,hsz⟩:=hE;refine wpList_plain U λK hK=>?_;obtain⟨w',T,h2,h3⟩:=awW (P:=P) w base t o.type e i size ht hi j hsz v l.length xs M c (l.flatMap f) hr (flat_length f size hf l) (λu hu=>by obtain⟨a,_,hu⟩:=Fj.1 hu;exact C a u hu);unfold Oper.wp execOp;simp only[ho,resolve,invoke,builtin,Sem.run_bind,Sem.run_pure,Result.andThen_ok,List.map_toArray,FB,Ri,hs,hx,T];exact hK _ _<|h w' h2 h3
open Go.RowKit Go.Sort
def aB(w:World)(v:Value)(l:List Rn):Prop:=Sl w v l.length<|l.flatMap GZ
theorem aB.mono{w w':World}{v:Value}{l:List Rn}(h:aB w v l)(hb:AU w w'):aB w' v l:=Sl.mono h hb
theorem Row.rn{w:World}{A:Option Addr}{l:List Rn}(h:Row w A<|l.flatMap GZ){k:Nat}(hk:k<l.length):∃b o,A=some ⟨b,o,none⟩/\b<w.heap.size/\w.cell? ⟨b,o+k*2,none⟩=some (.int .i64 l[k].lo)/\w.cell? ⟨b,o+k*2+1,none⟩=some (.int .i64 l[k].hi):=by obtain⟨b,o,j,hb,c⟩:=h.at_ (n:=2) (λ_=>rfl) hk I;exact⟨b,o,j,hb,c 0 _ rfl,c 1 _ rfl⟩
theorem Own.al9{α:Type}{f:α->List Value}{w:World}{base:Nat}{e:TypeId}{size:Nat}{A:Option Addr}{n c:Nat}{l:List α}(h:Own w base e size f (.slice A n c) l):Row w A<|l.flatMap f:=by obtain⟨z,C,j,-,-,o⟩:=h.sl;injection j with s K M;subst s;exact o
theorem Own.qU{w:World}{B:Nat}{A:Option Addr}{n c:Nat}{L:List Rn}(h:Own w B 134 2 GZ (.slice A n c) L)(hl:0<L.length):∃g,A=some ⟨g,0,none⟩/\B<=g/\g<w.heap.size/\(∀j,w.frozen? ⟨g,j,none⟩=false)/\∀k(hk:k<L.length),w.cell? ⟨g,k*2,none⟩=some (.int .i64 L[k].lo)/\w.cell? ⟨g,k*2+1,none⟩=some (.int .i64 L[k].hi):=by
 have K:=h.al9;rcases h.2 with⟨_,h0⟩|⟨g,M,T,hv,U,z,-⟩;.omega
 injection hv with e1 e2 e3;subst e1;refine⟨g,rfl,U,AO.lt z,λj=>AO.frozen z j,λk hk=>?_⟩;obtain⟨b,o,s,-,C,c1⟩:=Row.rn K hk;injection s with s;injection s with y1 y2 _;subst y1 y2;rw[Rk]at C c1;exact⟨C,c1⟩
def aeK(w:World)(l:List Rn)(e:Ending)(w':World):Prop:=∃A c,e=.returned (.slice A l.length c)/\Own w' w.heap.size 134 2 GZ (.slice A l.length c) l/\AU w w'
theorem awY(c:List Rn)(r:Rn):(U8 c r).length<=c.length+1:=by
 unfold U8;split;.omega
 split;.rw[U5];omega
 simp
def PU(l:List Rn)(k:Nat):List Rn:=(l.take k).foldl U8 []
theorem alA{l:List Rn}{k:Nat}(hk:k<l.length):PU l (k+1)=U8 (PU l k) l[k]:=by unfold PU;rw[Eu hk,LG];rfl
theorem aeL(l:List Rn):∀k,(PU l k).length<=k
 |0=>by simp[PU]|k+1=>by
  have c:=aeL l k;by_cases hk:k<l.length;.rw[alA hk];have:=awY (PU l k) l[k];omega
  have:PU l (k+1)=PU l k:=by unfold PU;rw[Ip I,Ip I]
  rw[this];omega
theorem alB(v:Value)(l:List Rn)(w:World)(h:aB w v l)(hl:l.length<=100000):Calls prog 254 #[v] w<|aeK w<|Qo l:=by
 have Qx:=V @awV;have aeM:=V λm(hp:m.Perm l)hs=>anh (l:=l) (m:=m) hp hs;obtain⟨A,c,rfl,hn1,hn2,hR⟩:=h;unfold maxLen at hn2;have HR:=V<|show aB w (.slice A l.length c) l from⟨A,c,rfl,hn1,xY,hR⟩;obtain⟨R,hRr⟩:=BM<|Qo l;rw[hRr]at aeM⊢;clear hR hRr;go_enter func254,ntmps254;go_upto_region 2 with(at_make;obtain⟨ht_,i_,z_,hi_,hz_,alC,alD,awZ,awc⟩:=Y9;refine wpList_make_full _ rfl (.tmp 8) (.tmp 8) _ rfl w.heap.size _ i_ z_ 2 ht_ hi_ hz_ alC .i64 .i64 _ _ l.length rfl rfl rfl rfl (by rw[alD];omega) (DC I) (Dh _) ?_;intro w1 ho1 hg1;have Ko:=V ho1;have HB1:=V<|bG (bR w) hg1 (λk hk=>by cases hk);clear ho1 hg1 ht_ hi_ hz_ alC alD awZ awc);generalize(madeCells z_.cells<|l.length*2).toList=zs at*;go_upto_region 3 with(refine awX _ rfl (.tmp 10) (.tmp 11) _ rfl Y9 XG Y8 rfl Ko.1 (l:=l) rfl rfl (HR.1.mono HB1.1) ?_;intro w2 ho2 hg2;have EZ:=V ho2;have M:=V<|bG HB1.1 hg2<|λk hk=>(Ko.1.lt k hk).1;clear ho2 hg2);go_wp2_with fail;refine(Qx.1 w.heap.size _ l _ EZ.1 I).mono ?_;rintro e w3⟨rfl,m,hp,hs,ho3,hg3⟩;have hm:=aeM.1 m hp<|hs.imp (λ{a b}g=>by rw[sJ<|λx:Rn=>x.lo,IL]at g;omega);have hml:m.length=l.length:=hp.length_eq;have HM:=V hm;have HB3:=V<|bG M.1 hg3<|λk hk=>(EZ.1.lt k hk).1;have hsl:=ho3.sl;rw[hml]at hsl;have RD:=V hsl;have ayk:m.length<=100000:=I;have HLm:=V hml;have hz3:=HB3.1.size;clear aeM Qx HR Ko HB1 EZ M hp hs ho3 hg3 hm hsl hml;go_upto_block 0 with fail;go_wp2_with fail;go_loopw[2,17](λs i wr=>∃k:Nat,k<=l.length/\i=.int .i64 k/\(∃A c,s=.slice A (PU m k).length c)/\Own wr w3.heap.size 134 2 GZ s (PU m k)/\AU w3 wr)λ_ i _=>l.length-(intOf i).toNat;case atStart=>exact⟨0,C9 _,rfl,⟨none,0,rfl⟩,Own.nil _ _ _ _ _,bR w3⟩
 obtain⟨k,hk,rfl,⟨A',c',rfl⟩,ho,hb⟩:=hrel;obtain⟨wo,rfl⟩:=BR wr;have HO:=V ho;have HB:=V hb;have hzo:=hb.size;clear ho hb;by_cases hlt:k<l.length
 .have hkm:k<m.length:=by have:=HLm.1;omega
  have C:=alA hkm;have TP:=aeL m k;obtain⟨A3,c3,he3,-,-,hR3⟩:=RD.1.mono HB.1;injection he3 with y1 y2 y3;subst y1;clear y2 y3;obtain⟨b,o,F6,hlb,c0,c1⟩:=Row.rn hR3 hkm;injection F6 with F6;injection F6 with y1 y2 _;subst y1 y2;simp only[Rk]at c0 c1;generalize m[k]=r at*;obtain⟨Q,hQ⟩:=BM<|PU m k;rw[hQ]at HO C TP⊢;have QV:=V C;have k1:(k:Int)<l.length:=I;have k2:0<=(k:Int):=I;clear C hQ hR3;by_cases e1:r.hi<=r.lo
  .have hq:PU m (k+1)=Q:=by rw[QV.1];unfold U8;rw[AZ e1]
   obtain⟨Oa,aCC,HOa⟩:=CB hq (bA HB.1<|.cells #[.int .i64 r.lo,.int .i64 r.hi] 134)<|Own.alloc HO.1<|.cells #[.int .i64 r.lo,.int .i64 r.hi] 134;clear hq;go_wp2;go_roundw;case rel=>exact⟨k+1,I,BH,⟨A',c',by rw[Oa.1]⟩,by rw[Oa.1];exact HOa.1,aCC.1⟩
   exact BJ
  have hn1:=DR<|(Q.length:Int)-1;go_upto_region 10 with fail;obtain⟨W2,hW2⟩:∃W:World,W=wo.alloc (.cells #[.int .i64 r.lo,.int .i64 r.hi] 134):=⟨_,rfl⟩;have hA1:AU wo W2:=by rw[hW2];exact bA (bR wo) _
  obtain⟨g5,hg5⟩:=BM wo.heap.size;have X5:AO W2 g5 134 #[.int .i64 r.lo,.int .i64 r.hi]:=by rw[hW2];exact AO.made hg5.symm _ _
  obtain⟨EZ,M,D5⟩:=CB (HO.1.keep hA1) (J HB.1 hA1) X5;have hgl:=λq hq=>(HO.1.lt q hq).2;rw[<-hW2];try rw[hg5]
  clear hW2 hA1 c0 c1 hlb HO HB;obtain⟨CJ,CO,CQ,-⟩:=X5.BL;rcases Xe Q.length with h0|h0
  .have hq:PU m (k+1)=Q++[r]:=by rw[QV.1,qh h0];unfold U8;rw[AX e1,AX Ak]
   have Oa:=V hq;have kq:¬(1:Int)<=(Q.length:Int):=I;clear h0 hq hn1;refine CZ W2 (.run 13 0 0<|.done) λCG QR Ae Aj hS=>?_;iterate 3 refine Ah ?_
   iterate 8 refine Iu ?_
   iterate 2 refine Ah ?_
   refine CX ?_;clear hS Aj Ae;intro T;obtain⟨W3,U⟩:∃W:World,W=W2.drew:=⟨_,rfl⟩;rw[<-U]at T⊢;obtain⟨Eo,qV,Ic⟩:=CB (EZ.1.keep T) (J M.1 T)<|D5.1.keep T;clear T U X5 CJ CO CQ D5 EZ M;have hsh:(Q++[r]).length=Q.length+1:=by simp
   have DN:=V hsh;have X5:=Ic.1;clear hsh;try clear CJ CO CQ
   obtain⟨CJ,CO,CQ,-⟩:=X5.BL;go_wp2_with(at_builtin;refine FV _ rfl (.tmp 24) (.tmp 26) _ rfl (base:=w3.heap.size) Y9 XG Y8 rfl (Own.alloc Eo.1 _) rfl (l2:=[r]) (Sl.lit (n:=1) (AO.made rfl _ _) rfl<|DC I) DY DY (by have:=qV.1.size;simp;omega) ?_;intro v4 w4 KY hg4 iT;obtain⟨A4,c4,hv4,-⟩:=KY.sl;rw[DN.1]at hv4;subst hv4;have Jt:=V KY;have HB4:=V<|bG (bA qV.1 _) hg4<|λg hg=>(Eo.1.lt g hg).1;clear KY hg4 iT);go_roundw;case rel=>exact⟨k+1,I,BH,⟨A4,c4,by rw[Oa.1,DN.1]⟩,by rw[Oa.1];exact Jt.1,HB4.1⟩
   exact BJ
  obtain⟨n,hn⟩:∃n,Q.length=n+1:=⟨Q.length-1,I⟩;have hnl:n<Q.length:=I;have hq1:(Q.length:Int)-1=(n:Int):=I;have hgd:Q.getD (Q.length-1) Pg=Q[n]:=by rw[hn,G5,show n+1-1=n by omega,DK hnl];rfl
  have aeN:Q.length-1=n:=I;have C:=QV.1;unfold U8 at C;rw[AX e1,hgd,aeN]at C;rw[hq1];obtain⟨gQ,hgA,hgQ,ayl,hfz,hce⟩:=Own.qU EZ.1 h0;subst hgA;obtain⟨d0,d1⟩:=hce n hnl;have hf1:=hfz<|n*2+1;have kq:(0:Int)<=(n:Int):=I;have kn:(n:Int)<(Q.length:Int):=I;have hq5:¬gQ=g5:=by have:=hgl gQ rfl;omega
  obtain⟨z,hz⟩:=BM Q[n];rw[hz]at d0 d1 C;by_cases e2:r.lo<=z.hi
  .rw[AZ ⟨h0,e2⟩]at C;have Oa:=V C;have HZ:=V hz;clear C hgd aeN hn hce hfz hz h0 hn1;refine CZ W2 (.run 13 0 0<|.done) λCG QR Ae Aj hS=>?_;iterate 3 refine Ah ?_
   iterate 8 refine DT ?_
   iterate 2 refine Ah ?_
   refine CX ?_;clear hS Aj Ae;intro T;obtain⟨W3,U⟩:∃W:World,W=W2.drew:=⟨_,rfl⟩;rw[<-U]at T⊢;obtain⟨Eo,qV,Ic⟩:=CB (EZ.1.keep T) (J M.1 T)<|D5.1.keep T;clear T U X5 CJ CO CQ D5 EZ M d0 d1 hf1;obtain⟨g',hgA,-,aym,alE,alF⟩:=Own.qU Eo.1 I;injection hgA with hgA;injection hgA with hgA _ _;subst hgA;obtain⟨-,d1⟩:=alF n hnl;rw[HZ.1]at d1;have hf1:=alE<|n*2+1;obtain⟨mx,hmx⟩:=BR<|max z.hi r.hi;have hset:=Own.oJ XG Eo.1 hnl (j:=1) I ⟨z.lo,mx⟩ (.int .i64 mx) (by rw[HZ.1];rfl);have Zh:=V<|show Own (W3.setCell ⟨gQ,n*2+1,none⟩<|.int .i64 mx).drew w3.heap.size 134 2 GZ (.slice (some ⟨gQ,0,none⟩) Q.length c')<|Q.set n ⟨z.lo,mx⟩from hset;have uN:=V<|bD<|bS (p:=⟨gQ,n*2+1,none⟩) qV.1 hgQ<|.int .i64 mx;have hq:=Oa.1;rw[<-hmx]at hq;have vZ:=V hq;have Hmx:=V hmx;have X5:=Ic.1;clear hset hmx hq alF alE Oa;try clear CJ CO CQ
   obtain⟨CJ,CO,CQ,-⟩:=X5.BL;have nq5:¬some g5=some gQ:=λe=>hq5 (Dn e).symm;go_upto_region 11 with fail;refine Wn W3 (some gQ) (.run 6 0 0<|.take 7 191<|.take 8 447<|.call 6 511<|.run 3 9 511<|.call 12 8191<|.done) λCG QR Ae Aj hS=>?_;iterate 8 refine Ah ?_
   refine BP ?_;clear hS;intro K hK AQ;go_simp;refine hK.out _ _ AQ.out λhS=>?_;clear hK K AQ;try simp only[pu]
   iterate 3 refine Ah ?_
   refine BP ?_;clear hS;intro K hK AQ;go_simp;refine hK.out _ _ QG λhS=>?_;clear hK K AQ;try simp only[pu]
   refine U7 ?_;clear hS Aj Ae;intro T;rw[<-Hmx.1];go_wp2;go_roundw;case rel=>exact⟨k+1,I,BH,⟨some ⟨gQ,0,none⟩,c',by rw[vZ.1,U5]⟩,by rw[vZ.1];exact Zh.1,uN.1⟩
   exact BJ
  rw[AX λg=>e2 g.2]at C;have Oa:=V C;clear C hgd aeN hn hce hfz hz h0 hn1;refine CZ W2 (.run 13 0 0<|.done) λCG QR Ae Aj hS=>?_;iterate 3 refine Ah ?_
  iterate 8 refine DT ?_
  iterate 2 refine Ah ?_
  refine CX ?_;clear hS Aj Ae;intro T;obtain⟨W3,U⟩:∃W:World,W=W2.drew:=⟨_,rfl⟩;rw[<-U]at T⊢;obtain⟨Eo,qV,Ic⟩:=CB (EZ.1.keep T) (J M.1 T)<|D5.1.keep T;clear T U X5 CJ CO CQ D5 EZ M;have hsh:(Q++[r]).length=Q.length+1:=by simp
  have DN:=V hsh;have X5:=Ic.1;clear hsh;try clear CJ CO CQ
  obtain⟨CJ,CO,CQ,-⟩:=X5.BL;go_wp2_with(at_builtin;refine FV _ rfl (.tmp 24) (.tmp 26) _ rfl (base:=w3.heap.size) Y9 XG Y8 rfl (Own.alloc Eo.1 _) rfl (l2:=[r]) (Sl.lit (n:=1) (AO.made rfl _ _) rfl<|DC I) DY DY (by have:=qV.1.size;simp;omega) ?_;intro v4 w4 KY hg4 iT;obtain⟨A4,c4,hv4,-⟩:=KY.sl;rw[DN.1]at hv4;subst hv4;have Jt:=V KY;have HB4:=V<|bG (bA qV.1 _) hg4<|λg hg=>(Eo.1.lt g hg).1;clear KY hg4 iT);go_roundw;case rel=>exact⟨k+1,I,BH,⟨A4,c4,by rw[Oa.1,DN.1]⟩,by rw[Oa.1];exact Jt.1,HB4.1⟩
  exact BJ
 have hkk:PU m k=R:=by have:=HLm.1;rw[<-HM.1];unfold PU U9;rw[Ip I]
 have U2:=V<|show Own wo w.heap.size 134 2 GZ (.slice A' (PU m k).length c')<|PU m k from HO.1.EN hz3;rw[hkk]at U2;generalize PU m k=Q at*;subst hkk;clear HO;go_wp2;go_ret;exact⟨A',c',rfl,U2.1,J HB3.1 HB.1⟩
def N9(r:Rn):Prop:=-1073741824<=r.lo/\r.lo<=1073741824/\-1073741824<=r.hi/\r.hi<=1073741824
theorem alG{s:Rn×Rn×Bool}{r:Rn}(h1:N9 s.1)(h2:N9 s.2.1)(h3:N9 r):N9 (PN s r).1/\N9 (PN s r).2.1:=by
 have hn:N9<|Vp s r:=by
  unfold Vp;split;.unfold N9 at*;simp only;omega
  exact h3
 unfold PN Q8;refine⟨?_,hn⟩;simp only;split;.exact hn
 exact h1
theorem awd(v:Value)(l:List Rn)(w:World)(h:aB w v l)(hb:∀r∈l,N9 r):Calls prog 102 #[v] w λe w'=>e=.returned (.tuple #[.agg #[.int .i64 (Jb l).1.lo,.int .i64 (Jb l).1.hi],.bool<|decide<|(Jb l).1.lo<(Jb l).1.hi])/\AU w w':=by
 obtain⟨A,c,rfl,h1,h2,hR⟩:=h;unfold maxLen at h2;have HR:=V hR;have KZ:=V hb;obtain⟨j,hF⟩:=BM (Jb l).1;have HF:=V hF;rw[hF];clear hR hb hF;go_enter func102,ntmps102;go_upto_block 0 with fail;obtain⟨g2,hg2⟩:∃g,w.heap.size=g:=⟨_,rfl⟩;obtain⟨W1,C⟩:∃W:World,W=((w.alloc<|.cells #[.int .i64 0,.int .i64 0] 134).alloc<|.cells #[.int .i64 0,.int .i64 0] 134).alloc (.cells #[.int .i64 0,.int .i64 0] 134):=⟨_,rfl⟩;obtain⟨CW,D7,D5,HB1⟩:=D9 (show AO W1 g2 134 #[.int .i64 0,.int .i64 0]by rw[C,<-hg2];exact((AO.made rfl _ _).alloc _).alloc _) (show AO W1 (g2+1) 134 #[.int .i64 0,.int .i64 0]by rw[C,<-hg2];exact(AO.made Ak _ _).alloc _) (show AO W1 (g2+1+1) 134 #[.int .i64 0,.int .i64 0]by rw[C,<-hg2];exact AO.made Ak _ _) (show AU w W1 by rw[C];exact bA (bA (bA (bR w) _) _) _);have hgw:w.heap.size<=g2:=I;rw[<-C];try rw[hg2]
 clear C hg2;go_wp2_with fail;go_loopw[6](λu wr=>∃(k:Nat)(b n:Rn),k<=l.length/\u=.int .i64 k/\Jb (l.take k)=(b,n,decide<|0<k)/\N9 b/\N9 n/\AO wr g2 134 #[.int .i64 0,.int .i64 0]/\AO wr (g2+1) 134 #[.int .i64 b.lo,.int .i64 b.hi]/\AO wr (g2+1+1) 134 #[.int .i64 n.lo,.int .i64 n.hi]/\AU w wr)λu _=>l.length-(intOf u).toNat;case atStart=>exact⟨0,Pg,Pg,C9 _,rfl,rfl,by unfold N9 Pg;simp only;omega,by unfold N9 Pg;simp only;omega,CW.1,D7.1,D5.1,HB1.1⟩
 clear CW D7 D5 HB1;obtain⟨k,b,n,hk,rfl,hrf,hbb,hnb,X2,X4,U,hb⟩:=hrel;obtain⟨wo,rfl⟩:=BR wr;obtain⟨CW,D7,D5,HB⟩:=D9 X2 X4 U hb;clear X2 hb;by_cases hlt:k<l.length
 .obtain⟨bb,oo,rfl,hlb,c0,c1⟩:=(HR.1.mono HB.1).rn hlt;have hst:Jb (l.take<|k+1)=PN (b,n,decide<|0<k) l[k]:=by rw[Eu hlt,ajJ,hrf]
  have hrb:=KZ.1 _<|BG hlt;have o:=alG (s:=(b,n,decide<|0<k)) hbb hnb hrb;generalize l[k]=r at*;obtain⟨b0,b1⟩:=b;obtain⟨n0,n1⟩:=n;obtain⟨M,z⟩:=r;have JK:=V o;unfold N9 at hbb hnb hrb;simp only at hbb hnb hrb c0 c1 X4 U D7 D5;have q1:(k:Int)<l.length:=I;have q2:0<=(k:Int):=I;have Ce:=V hst;have n25:¬g2=g2+1+1:=I;have n24:¬g2=g2+1:=I;clear hst o hrf;obtain⟨Bg,Bq,CP,-⟩:=X4.BL;obtain⟨CJ,CO,CQ,-⟩:=U.BL;by_cases hk0:k=0
  .have k0:¬0<k:=I;clear hk0;go_upto_region 5 with fail;refine CZ wo (.run 12 0 0<|.done) λCG QR Ae Aj hS=>?_;iterate 3 refine Ah ?_
   iterate 8 refine Iu ?_
   refine Ah ?_;refine CX ?_;clear hS Aj Ae;intro T;obtain⟨W6,C⟩:∃W:World,W=wo.drew:=⟨_,rfl⟩;rw[<-C]at T⊢;obtain⟨EG,YA,Yr,U4⟩:=D9 (J HB.1 T) (CW.1.keep T) (D7.1.keep T)<|D5.1.keep T;have c0':=Dk T c0;have c1':=Dk T c1;have Po:bb<W6.heap.size:=IQ hlb T.size;clear C T X4 Bg Bq CP U CJ CO CQ c0 c1 hlb CW D7 D5 HB;have U:=U4.1;try clear CJ CO CQ
   obtain⟨CJ,CO,CQ,OB,OQ⟩:=U.BL;go_upto_region 8 with fail;obtain⟨W7,C⟩:∃W:World,W=(W6.setCell ⟨g2+1+1,0,none⟩<|.int .i64 M).setCell ⟨g2+1+1,1,none⟩ (.int .i64 z):=⟨_,rfl⟩;obtain⟨Yt,Vt,XF,Gw⟩:=D9 (show AO W7 (g2+1+1) 134 #[.int .i64 M,.int .i64 z]by rw[C];have h:=(U4.1.EM 0<|.int .i64 M).EM 1<|.int .i64 z;simpa using h) (show AO W7 (g2+1) 134 #[.int .i64 b0,.int .i64 b1]by rw[C];exact(Yr.1.far (p:=⟨g2+1+1,0,none⟩) Ak _).far (p:=⟨g2+1+1,1,none⟩) Ak _) (show AO W7 g2 134 #[.int .i64 0,.int .i64 0]by rw[C];exact(YA.1.far (p:=⟨g2+1+1,0,none⟩) n25 _).far (p:=⟨g2+1+1,1,none⟩) n25 _) (show AU w W7 by rw[C];exact bS (p:=⟨g2+1+1,1,none⟩) (bS (p:=⟨g2+1+1,0,none⟩) EG.1 aCK _) aCK _);have hnw:Vp (⟨b0,b1⟩,⟨n0,n1⟩,decide<|0<k) ⟨M,z⟩=⟨M,z⟩:=by unfold Vp;rw[AX D8]
   have SC:=V hnw;rw[<-C];clear C U CJ CO CQ OB OQ EG YA Yr U4 c0' c1' Po hnw;have X4:=Vt.1;have U:=Yt.1;have w1:=DR<|z-M;have w2:=DR<|b1-b0;try clear Bg Bq CP
   obtain⟨Bg,Bq,CP,DX,EU⟩:=X4.BL;try clear CJ CO CQ
   try clear OB OQ
   obtain⟨CJ,CO,CQ,-⟩:=U.BL;by_cases hw:b1-b0<z-M
   .have hs:Jb (l.take<|k+1)=(⟨M,z⟩,⟨M,z⟩,true):=by rw[Ce.1];unfold PN;simp only[SC.1,Q8];rw[AZ hw]
    have HS:=V hs;have o:=JK.1;unfold PN at o;simp only[SC.1,Q8,AZ hw]at o;have RJ:=V o;clear hs o;go_wp2;go_roundw;case rel=>exact⟨k+1,⟨M,z⟩,⟨M,z⟩,I,BH,by rw[HS.1];simp,RJ.1.1,RJ.1.2,(XF.1.far (p:=⟨g2+1,0,none⟩) n24 _).far (p:=⟨g2+1,1,none⟩) n24 _,by have h:=(Vt.1.EM 0<|.int .i64 M).EM 1<|.int .i64 z;simpa using h,(Yt.1.far (p:=⟨g2+1,0,none⟩) Ak _).far (p:=⟨g2+1,1,none⟩) Ak _,bS (p:=⟨g2+1,1,none⟩) (bS (p:=⟨g2+1,0,none⟩) Gw.1 xP _) xP _⟩
    exact BJ
   have hs:Jb (l.take<|k+1)=(⟨b0,b1⟩,⟨M,z⟩,true):=by rw[Ce.1];unfold PN;simp only[SC.1,Q8];rw[AX hw]
   have HS:=V hs;have o:=JK.1;unfold PN at o;simp only[SC.1,Q8,AX hw]at o;have RJ:=V o;clear hs o;go_wp2;go_roundw;case rel=>exact⟨k+1,⟨b0,b1⟩,⟨M,z⟩,I,BH,by rw[HS.1];simp,RJ.1.1,RJ.1.2,XF.1,Vt.1,Yt.1,Gw.1⟩
   exact BJ
  by_cases e:n1=M
  .have k0:0<k:=I;have e1:(n1==M)=true:=by simpa using e
   go_upto_region 5 with fail;refine CZ wo (.run 12 0 0<|.done) λCG QR Ae Aj hS=>?_;iterate 3 refine Ah ?_
   iterate 8 refine DT ?_
   refine Ah ?_;refine CX ?_;clear hS Aj Ae;intro T;obtain⟨W6,C⟩:∃W:World,W=wo.drew:=⟨_,rfl⟩;rw[<-C]at T⊢;obtain⟨EG,YA,Yr,U4⟩:=D9 (J HB.1 T) (CW.1.keep T) (D7.1.keep T)<|D5.1.keep T;have c0':=Dk T c0;have c1':=Dk T c1;have Po:bb<W6.heap.size:=IQ hlb T.size;clear C T X4 Bg Bq CP U CJ CO CQ c0 c1 hlb CW D7 D5 HB;have U:=U4.1;try clear CJ CO CQ
   try clear OB OQ
   obtain⟨CJ,CO,CQ,OB,OQ⟩:=U.BL;go_upto_region 8 with fail;obtain⟨W7,C⟩:∃W:World,W=W6.setCell ⟨g2+1+1,1,none⟩ (.int .i64 z):=⟨_,rfl⟩;obtain⟨Yt,Vt,XF,Gw⟩:=D9 (show AO W7 (g2+1+1) 134 #[.int .i64 n0,.int .i64 z]by rw[C];have h:=U4.1.EM 1<|.int .i64 z;simpa using h) (show AO W7 (g2+1) 134 #[.int .i64 b0,.int .i64 b1]by rw[C];exact Yr.1.far (p:=⟨g2+1+1,1,none⟩) Ak _) (show AO W7 g2 134 #[.int .i64 0,.int .i64 0]by rw[C];exact YA.1.far (p:=⟨g2+1+1,1,none⟩) n25 _) (show AU w W7 by rw[C];exact bS (p:=⟨g2+1+1,1,none⟩) EG.1 aCK _);have hnw:Vp (⟨b0,b1⟩,⟨n0,n1⟩,decide<|0<k) ⟨M,z⟩=⟨n0,z⟩:=by unfold Vp;rw[AZ D8]
   have SC:=V hnw;rw[<-C];clear C U CJ CO CQ OB OQ EG YA Yr U4 c0' c1' Po hnw;have X4:=Vt.1;have U:=Yt.1;have w1:=DR<|z-n0;have w2:=DR<|b1-b0;try clear Bg Bq CP
   try clear DX EU
   obtain⟨Bg,Bq,CP,DX,EU⟩:=X4.BL;try clear CJ CO CQ
   try clear OB OQ
   obtain⟨CJ,CO,CQ,-⟩:=U.BL;by_cases hw:b1-b0<z-n0
   .have hs:Jb (l.take<|k+1)=(⟨n0,z⟩,⟨n0,z⟩,true):=by rw[Ce.1];unfold PN;simp only[SC.1,Q8];rw[AZ hw]
    have HS:=V hs;have o:=JK.1;unfold PN at o;simp only[SC.1,Q8,AZ hw]at o;have RJ:=V o;clear hs o;go_wp2;go_roundw;case rel=>exact⟨k+1,⟨n0,z⟩,⟨n0,z⟩,I,BH,by rw[HS.1];simp,RJ.1.1,RJ.1.2,(XF.1.far (p:=⟨g2+1,0,none⟩) n24 _).far (p:=⟨g2+1,1,none⟩) n24 _,by have h:=(Vt.1.EM 0<|.int .i64 n0).EM 1<|.int .i64 z;simpa using h,(Yt.1.far (p:=⟨g2+1,0,none⟩) Ak _).far (p:=⟨g2+1,1,none⟩) Ak _,bS (p:=⟨g2+1,1,none⟩) (bS (p:=⟨g2+1,0,none⟩) Gw.1 xP _) xP _⟩
    exact BJ
   have hs:Jb (l.take<|k+1)=(⟨b0,b1⟩,⟨n0,z⟩,true):=by rw[Ce.1];unfold PN;simp only[SC.1,Q8];rw[AX hw]
   have HS:=V hs;have o:=JK.1;unfold PN at o;simp only[SC.1,Q8,AX hw]at o;have RJ:=V o;clear hs o;go_wp2;go_roundw;case rel=>exact⟨k+1,⟨b0,b1⟩,⟨n0,z⟩,I,BH,by rw[HS.1];simp,RJ.1.1,RJ.1.2,XF.1,Vt.1,Yt.1,Gw.1⟩
   exact BJ
  have k0:0<k:=I;have e1:(n1==M)=false:=by simpa using e
  go_upto_region 5 with fail;refine CZ wo (.run 12 0 0<|.done) λCG QR Ae Aj hS=>?_;iterate 3 refine Ah ?_
  iterate 8 refine DT ?_
  refine Ah ?_;refine CX ?_;clear hS Aj Ae;intro T;obtain⟨W6,C⟩:∃W:World,W=wo.drew:=⟨_,rfl⟩;rw[<-C]at T⊢;obtain⟨EG,YA,Yr,U4⟩:=D9 (J HB.1 T) (CW.1.keep T) (D7.1.keep T)<|D5.1.keep T;have c0':=Dk T c0;have c1':=Dk T c1;have Po:bb<W6.heap.size:=IQ hlb T.size;clear C T X4 Bg Bq CP U CJ CO CQ c0 c1 hlb CW D7 D5 HB;have U:=U4.1;try clear CJ CO CQ
  try clear OB OQ
  obtain⟨CJ,CO,CQ,OB,OQ⟩:=U.BL;go_upto_region 8 with fail;obtain⟨W7,C⟩:∃W:World,W=(W6.setCell ⟨g2+1+1,0,none⟩<|.int .i64 M).setCell ⟨g2+1+1,1,none⟩ (.int .i64 z):=⟨_,rfl⟩;obtain⟨Yt,Vt,XF,Gw⟩:=D9 (show AO W7 (g2+1+1) 134 #[.int .i64 M,.int .i64 z]by rw[C];have h:=(U4.1.EM 0<|.int .i64 M).EM 1<|.int .i64 z;simpa using h) (show AO W7 (g2+1) 134 #[.int .i64 b0,.int .i64 b1]by rw[C];exact(Yr.1.far (p:=⟨g2+1+1,0,none⟩) Ak _).far (p:=⟨g2+1+1,1,none⟩) Ak _) (show AO W7 g2 134 #[.int .i64 0,.int .i64 0]by rw[C];exact(YA.1.far (p:=⟨g2+1+1,0,none⟩) n25 _).far (p:=⟨g2+1+1,1,none⟩) n25 _) (show AU w W7 by rw[C];exact bS (p:=⟨g2+1+1,1,none⟩) (bS (p:=⟨g2+1+1,0,none⟩) EG.1 aCK _) aCK _);have hnw:Vp (⟨b0,b1⟩,⟨n0,n1⟩,decide<|0<k) ⟨M,z⟩=⟨M,z⟩:=by unfold Vp;rw[AX D8]
  have SC:=V hnw;rw[<-C];clear C U CJ CO CQ OB OQ EG YA Yr U4 c0' c1' Po hnw;have X4:=Vt.1;have U:=Yt.1;have w1:=DR<|z-M;have w2:=DR<|b1-b0;try clear Bg Bq CP
  try clear DX EU
  obtain⟨Bg,Bq,CP,DX,EU⟩:=X4.BL;try clear CJ CO CQ
  try clear OB OQ
  obtain⟨CJ,CO,CQ,-⟩:=U.BL;by_cases hw:b1-b0<z-M
  .have hs:Jb (l.take<|k+1)=(⟨M,z⟩,⟨M,z⟩,true):=by rw[Ce.1];unfold PN;simp only[SC.1,Q8];rw[AZ hw]
   have HS:=V hs;have o:=JK.1;unfold PN at o;simp only[SC.1,Q8,AZ hw]at o;have RJ:=V o;clear hs o;go_wp2;go_roundw;case rel=>exact⟨k+1,⟨M,z⟩,⟨M,z⟩,I,BH,by rw[HS.1];simp,RJ.1.1,RJ.1.2,(XF.1.far (p:=⟨g2+1,0,none⟩) n24 _).far (p:=⟨g2+1,1,none⟩) n24 _,by have h:=(Vt.1.EM 0<|.int .i64 M).EM 1<|.int .i64 z;simpa using h,(Yt.1.far (p:=⟨g2+1,0,none⟩) Ak _).far (p:=⟨g2+1,1,none⟩) Ak _,bS (p:=⟨g2+1,1,none⟩) (bS (p:=⟨g2+1,0,none⟩) Gw.1 xP _) xP _⟩
   exact BJ
  have hs:Jb (l.take<|k+1)=(⟨b0,b1⟩,⟨M,z⟩,true):=by rw[Ce.1];unfold PN;simp only[SC.1,Q8];rw[AX hw]
  have HS:=V hs;have o:=JK.1;unfold PN at o;simp only[SC.1,Q8,AX hw]at o;have RJ:=V o;clear hs o;go_wp2;go_roundw;case rel=>exact⟨k+1,⟨b0,b1⟩,⟨M,z⟩,I,BH,by rw[HS.1];simp,RJ.1.1,RJ.1.2,XF.1,Vt.1,Yt.1,Gw.1⟩
  exact BJ
 obtain rfl:k=l.length:=I;rw[Gu]at hrf;have he:b=j:=by rw[<-HF.1,hrf]
 have HE:=V he;clear he hrf;obtain⟨b0,b1⟩:=b;simp only at X4;have X2:=CW.1;have n42:¬g2+1=g2:=I;obtain⟨BX,Bf,Bh,UL,WS⟩:=X2.BL;try clear Bg Bq CP
 try clear DX EU
 obtain⟨Bg,Bq,CP,-⟩:=X4.BL;go_upto_region 10 with fail;refine Wn wo (some g2) (.run 6 0 0<|.call 6 127<|.take 7 255<|.done) λCG QR Ae Aj hS=>?_;iterate 6 refine Ah ?_
 refine BP ?_;clear hS;intro K hK AQ;go_simp;refine hK.out _ _ QG λhS=>?_;clear hK K AQ;try simp only[pu]
 refine Ah ?_;refine U7 ?_;clear hS Aj Ae;intro T;skip;go_wp2_with fail;exact L6 (g:=g2) (cs:=#[.int .i64 b0,.int .i64 b1]) rfl awQ rfl rfl (AO.O9 CW.1).drew ⟨by rw[<-HE.1];rfl,bD<|bS (p:=⟨g2,1,none⟩) (bS (p:=⟨g2,0,none⟩) HB.1 hgw _) hgw _⟩
