import Derived.Test.YtngoejdlompfoaaGreatJ19
set_option linter.unusedSimpArgs false
set_option linter.unusedVariables false
set_option maxRecDepth 100000
set_option maxHeartbeats 8000000
namespace Go.Proofs.YtngoejdlompfoaaGreat
open Go.RowKit Tryz
theorem N8.EN{w:World}{B B':Nat}{v:Value}{L:List AD}(h:N8 w B v L)(hb:B'<=B):N8 w B' v L:=⟨h.own.EN hb,λx j=>(h.out x j).EN hb,λx j=>(h.inn x j).EN hb,λx j c o=>(h.Ik x j c o).EN hb,λx j=>(h.Ci x j).EN hb⟩
theorem Own.aB7{e:TypeId}{w:World}{B g n c:Nat}{L:List AD}(h:Own w B e 4 EH (.slice (some ⟨g,0,none⟩) n c) L){k:Nat}(hk:k<L.length):g<w.heap.size/\(∀j,w.frozen? ⟨g,j,none⟩=false)/\w.cell? ⟨g,k*4,none⟩=some (.int .i64 L[k].tw)/\w.cell? ⟨g,k*4+1,none⟩=some (BO L[k].ov)/\w.cell? ⟨g,k*4+2,none⟩=some (BO L[k].iv)/\w.cell? ⟨g,k*4+3,none⟩=some (BO L[k].av):=by obtain⟨g',o,-,h1,h2,h3⟩:=Own.QZ h I;injection o with o;injection o with o _ _;subst o;exact⟨h1,h2,h3 k hk⟩
theorem N8.face{w:World}{B g n c:Nat}{L:List AD}(h:N8 w B (.slice (some ⟨g,0,none⟩) n c) L){i:Nat}(hi:i<L.length)(f:Int):N8 (w.setCell ⟨g,i*4,none⟩<|.int .i64 f) B (.slice (some ⟨g,0,none⟩) n c)<|L.set i {L[i]with tw:=f}:=by
 have hm:=BG hi;refine⟨?_,λx o=>?_,λx o=>?_,λx o=>?_,λx o=>?_⟩;.have:=Own.oJ SQ h.own hi (j:=0) I {L[i]with tw:=f} (.int .i64 f) rfl;simpa using this
 .rcases Sj o with⟨rfl,_⟩|⟨j,s,_,rfl⟩;.exact Own.fM (h.out L[i] hm) h.own BI _ _
  exact Own.fM (h.out _<|BG s) h.own BI _ _
 .rcases Sj o with⟨rfl,_⟩|⟨j,s,_,rfl⟩;.exact Own.fM (h.inn L[i] hm) h.own BI _ _
  exact Own.fM (h.inn _<|BG s) h.own BI _ _
 .rcases Sj o with⟨rfl,_⟩|⟨j,s,_,rfl⟩;.exactλc z=>Own.fM (h.Ik L[i] hm c z) h.own BI _ _
  exactλc z=>Own.fM (h.Ik _ (BG s) c z) h.own BI _ _
 rcases Sj o with⟨rfl,_⟩|⟨j,s,_,rfl⟩;.exact Own.fM (h.Ci L[i] hm) h.own BI _ _
 exact Own.fM (h.Ci _<|BG s) h.own BI _ _
structure aB8(n:Nat)(v:Value)(L:List AD):Prop where
 own:∀q,v.ownBlock=some q->q<n
 out:∀x∈L,∀q,(BO x.ov).ownBlock=some q->q<n
 inn:∀x∈L,∀q,(BO x.iv).ownBlock=some q->q<n
 Ik:∀x∈L,∀c∈x.inn,∀q,(BO c.2).ownBlock=some q->q<n
 Ci:∀x∈L,∀q,(BO x.av).ownBlock=some q->q<n
theorem N8.low{w:World}{B:Nat}{v:Value}{L:List AD}(h:N8 w B v L):aB8 w.heap.size v L:=⟨λq j=>(h.own.lt q j).2,λx o q j=>((h.out x o).lt q j).2,λx o q j=>((h.inn x o).lt q j).2,λx o c s q j=>((h.Ik x o c s).lt q j).2,λx o q j=>((h.Ci x o).lt q j).2⟩
theorem aB8.face{n:Nat}{v:Value}{L s:List AD}(h:aB8 n v L)(o:∀x∈s,∃y∈L,∃t,x={y with tw:=t}):aB8 n v s:=⟨h.own,λx c=>by obtain⟨y,j,t,rfl⟩:=o x c;exact h.out y j,λx c=>by obtain⟨y,j,t,rfl⟩:=o x c;exact h.inn y j,λx c=>by obtain⟨y,j,t,rfl⟩:=o x c;exact h.Ik y j,λx c=>by obtain⟨y,j,t,rfl⟩:=o x c;exact h.Ci y j⟩
theorem N8.grown{w w':World}{B n:Nat}{v:Value}{L:List AD}{row:Option Nat}(h:N8 w B v L)(s:aB8 n v L)(j:w.grownBy w' row)(K:∀q,row=some q->n<=q):N8 w' B v L:=by
 have z:∀g,g<n->some g≠row:=λg M e=>by have:=K g e.symm;omega
 exact⟨Own.grown h.own j λg j=>z g<|s.own g j,λx o=>Own.grown (h.out x o) j λg j=>z g<|s.out x o g j,λx o=>Own.grown (h.inn x o) j λg j=>z g<|s.inn x o g j,λx o c C=>Own.grown (h.Ik x o c C) j λg j=>z g<|s.Ik x o c C g j,λx o=>Own.grown (h.Ci x o) j λg j=>z g<|s.Ci x o g j⟩
def Ky(p:Pl)(O:List<|List Int)(L:List AD)(k:Nat):List AD:=(List.range L.length).map λi=>{L.getD i ad0 with tw:=if i<k then IJ p O i else 0}
theorem OW(p:Pl)(O:List<|List Int)(L:List AD)(k:Nat):(Ky p O L k).length=L.length:=by unfold Ky;simp
theorem SK{p:Pl}{O:List<|List Int}{L:List AD}{k i:Nat}(hi:i<(Ky p O L k).length)(c:i<L.length):(Ky p O L k)[i]={L[i]with tw:=if i<k then IJ p O i else 0}:=by simp only[Ky,Ib,List.getElem_range,G5,DK c,I7]
theorem ajq{p:Pl}{O:List<|List Int}{L:List AD}{k:Nat}{x:AD}(j:x∈Ky p O L k):∃y∈L,∃t,x={y with tw:=t}:=by
 obtain⟨i,hi,rfl⟩:=Dy.1 j;have c:i<L.length:=by rw[OW]at hi;exact hi
 exact⟨L[i],BG c,_,SK hi c⟩
theorem avS{p:Pl}{O:List<|List Int}{L:List AD}(h:∀x∈L,x.tw=0):Ky p O L 0=L:=by apply Xf<|OW _ _ _ _;intro i h1 h2;rw[SK h1 h2,AX I,<-h _<|BG h2]
theorem avT{p:Pl}{O:List<|List Int}{L:List AD}:Ky p O L 1=Ky p O L 0:=by
 apply Xf (by rw[OW,OW]);intro i h1 h2;have h3:i<L.length:=by rw[OW]at h1;exact h1
 rw[SK h1 h3,SK h2 h3];by_cases e:i=0;.subst e;rfl
 rw[AX I,AX I]
theorem avU{p:Pl}{O:List<|List Int}{L:List AD}{k:Nat}(hk:k<L.length):(Ky p O L k).set k {(Ky p O L k)[k]'(by rw[OW];exact hk)with tw:=IJ p O k}=Ky p O L (k+1):=by
 apply Xf (by rw[U5,OW,OW]);intro i h1 h2;have h3:i<L.length:=by rw[OW]at h2;exact h2
 rw[RZ,SK h2 h3];by_cases e:k=i;.subst e;rw[AZ rfl,AZ I,SK _ hk]
 rw[AX e,SK _ h3];by_cases e2:i<k;.rw[AZ e2,AZ I]
 rw[AX e2,AX I]
theorem QY.nodup{p:Pl}{O:List<|List Int}{k:Nat}(h:QY p O k):(Gp p O k).Nodup:=by unfold Gp List.Nodup;rw[H9,FT];intro i j hi c o;simp only[Oo]at hi c;simp only[List.getElem_range];exact h.differ (i+1) (j+1) I I I
theorem Valid.avV{p:Pl}(h:Valid p){O:List<|List Int}{k:Nat}(j:QY p O k):∀x∈Gp p O k,x∈p.faces:=by
 intro x o;obtain⟨i,h1,h2,rfl⟩:=adL.1 o;have h0:=j.some i h1 h2;unfold IJ JZ at h0⊢;split at h0;.exact absurd rfl h0
 rename_i X e;rcases h.aEW<|X.headD 0 with c|c;.exact absurd c h0
 exact c
theorem avW{p:Pl}(h:Valid p){O:List<|List Int}(j:O.Perm<|BN p)(c:QY p O<|O.length+1):decide (O5 (Gp p O<|O.length+1)=p.faces)=PD p:=by rw[KQ,DI,adM j,ate c.nodup h.adK<|h.avV c,aEY];exact⟨λe=>⟨c,I⟩,λe=>by have:=e.2;omega⟩
def avX(w:World)(p:Pl)(e:Ending)(w':World):Prop:=∃A n c,e=.returned (.tuple #[.slice A n c,.bool<|PD p])/\AU w w'/\(PD p=true->∃L,n=L.length/\N8 w' w.heap.size (.slice A n c) L/\Gn p L (sortK<|BN p) (Gj p) p.nodes/\∀i(hi:i<L.length),L[i].tw=IJ p (sortK<|BN p) i)
theorem ajr{p:Pl}{O:List<|List Int}{L:List AD}{R:List<|List Int}{N:List Nd}(h:Gn p L O R N)(k:Nat):Gn p (Ky p O L k) O R N:=by
 refine⟨?_,λi hi=>?_,λi hi=>?_⟩
 .rw[<-h.out];apply Xf (by simp[OW]);intro i h1 h2;have h3:i<L.length:=by simpa using h2
  rw[Ib,Ib,SK _ h3]
 .have h3:i<L.length:=by rw[OW]at hi;exact hi
  rw[SK hi h3];exact h.inn i h3
 have h3:i<L.length:=by rw[OW]at hi;exact hi
 rw[SK hi h3];exact h.Ci i h3
theorem avY(v:Value)(p:Pl)(w:World)(h:Cj w v p)(hv:Valid p):Calls prog 72 #[v] w<|avX w p:=by
 obtain⟨ji,Xk,ajs,HV⟩:=D9 (λW(hW:AU w W)=>ato v p W (h.mono hW) hv) (λd(hd:d∈BZ p)W(hW:AU w W)=>aEJ v p d W (h.mono hW) hv.short.long<|L8 xX xX) (λvc X M W(hW:AU w W)hX hd hl=>atf v vc p X M W (h.mono hW) hv hX hd hl) hv;obtain⟨O,hO⟩:=BM<|sortK<|BN p;have wI:O.Perm<|BN p:=by rw[<-hO];exact(Wi<|BN p).1
 have YK:=V hO;have hol:O.length<=512:=by rw[wI.length_eq];exact Du (NH _ _) hv.SX
 obtain⟨Fz,Ob,aB4,Tm,Oq⟩:=G9 (λk(hk:k<=O.length)=>akN wI (k:=k) hk) (λhf=>avW hv wI hf) (λi c(hc:c∈Nw p O i)d(hd:d∈c)=>hv.ae2 (λX hX=>wI.subset hX) hc hd) (λX(hX:X∈O)=>(Gl.1<|wI.subset hX).1) λX(hX:X∈CV p)=>show X.length<=512 from Du (Wq (hv.Fv hX).1 (hv.Fv hX).2) hv.uY;obtain⟨_,_,_,al,rfl,hpa,⟨An,cn,rfl,-⟩,⟨⟨Aa,ca,rfl,-⟩,-⟩,hF⟩:=h;have HF:=V hF;obtain⟨Af,cf,rfl,-⟩:=hF;clear hpa hv hO wI;generalize p.nodes.length=nn at*;generalize al.length=na at*;generalize hnf:p.faces.length=nf at*;clear hnf;go_enter func72,ntmps72;go_wp2_with fail;refine(ji.1 _<|bA (bR w) _).mono ?_;rintro e w1⟨A,c,L,rfl,hb1,haw,hdv,hz⟩;rw[YK.1]at hdv;have hll:L.length=O.length+1:=hdv.len;have azA:0<L.length/\L.length<=513:=I;have U:AO w1 w.heap.size 26 #[.slice An nn cn,.slice Aa na ca,.slice Af nf cf]:=(AO.made rfl _ _).keep hb1;obtain⟨HB1,HA1,HD,HZ,Jw,DU,avZ⟩:=V9 (J (bA (bR w) _) hb1) (haw.EN (B':=w.heap.size+1) Ak) hdv hz hll U haw.low;have ava:w.heap.size<=w1.heap.size:=by have:=hb1.size;simp at this;omega
 obtain⟨T,hgA,atp,-⟩:=Own.QZ HA1.1.own I;subst hgA;have aB5:=V (λi(hi:i<L.length)=>show(Nz L[i]).map (·.1)=Nw p O i from by
  unfold Nz Nw GN Mc;rw[FB,hdv.inn i hi];congr 1;by_cases e:i=0;.subst e;exact hdv.ajF hi
  show L[i].out=_;rw[hdv.kN hi I,YC I I];rfl);clear hb1 haw hdv hz U ji hll;go_wp2_with fail;go_loopw[5,6](λs i wr=>∃k:Nat,k<=L.length/\i=.int .i64 k/\(∃A5 c5,s=.slice A5 (k-1) c5)/\Own wr w1.heap.size 3 1 DF s (Gp p O k)/\N8 wr (w.heap.size+1) (.slice (some ⟨T,0,none⟩) L.length c) (Ky p O L k)/\QY p O k/\AO wr w.heap.size 26 #[.slice An nn cn,.slice Aa na ca,.slice Af nf cf]/\AU w wr/\w1.heap.size<=wr.heap.size)λ_ i _=>L.length-(intOf i).toNat;case atStart=>exact⟨0,C9 _,rfl,⟨none,0,rfl⟩,Own.nil _ _ _ _ _,by rw[avS HZ.1];exact HA1.1,QY.zero p O,DU.1,HB1.1,Dh _⟩
 clear HA1 DU HB1;obtain⟨k,hk,rfl,⟨A5,c5,rfl⟩,Dq,haw,hu,U,hb,hsz⟩:=hrel;obtain⟨wo,rfl⟩:=BR wr;obtain⟨Gf,HA,HU,HX,HB⟩:=G9 Dq haw hu U hb;clear Dq haw hu hb;by_cases hlt:k<L.length
 .have hko:k<=O.length:=by have:=Jw.1;omega
  have wJ:k<(Ky p O L k).length:=by rw[OW];exact hlt
  have hset:=avU (p:=p) (O:=O) hlt;have hcy:=aB5.1 k hlt;have hfc:1<=k->L[k].out≠[]/\IJ p O k=Ej p (L[k].out.headD 0):=λh1=>by have e1:=HD.1.kN hlt h1;have hX:O[k-1]'(by omega)∈O:=BG _;rw[e1];exact⟨HV.1.VF<|Tm.1 _ hX,aW h1 hko⟩
  have hDk:∀d∈L[k].out,d∈BZ p:=λd hd=>aB4.1 k L[k].out (by rw[<-hcy];exact ED) d hd;have acK:L[k].out.length<=512:=by
   rcases HD.1.aEU<|BG hlt with e|e;.rw[e];exact C9 _
   exact Oq.1 _<|Tm.1 _ e
  have hcm:(Ky p O L k)[k]∈Ky p O L k:=BG wJ;have hat:=SK (p:=p) (O:=O) (k:=k) wJ hlt;obtain⟨y,hy⟩:=BM L[k];rw[hy]at hcy hfc hDk acK hat;have HY:=V hy;obtain⟨tw,X,sv,C,iv,Ci,av⟩:=y;simp only at hcy hfc hDk acK hat;obtain⟨M,fQ⟩:=BM<|IJ p O k;rw[fQ]at hfc hset;have Ur:=V fQ;have hf0:k=0->M=0:=λe=>by rw[<-Ur.1,e];rfl
  have vM:=V λh=>ajH p O (k:=k) h;rw[fQ]at vM;obtain⟨Ce,Kw,Zb,HAt,KI⟩:=G9 hset hcy hDk hat<|Fz.1 k hko;rw[fQ]at KI;have hfl:=aEY p O k;have ajt:T≠w.heap.size:=I;clear hset hcy hDk hat fQ hcm hy;go_upto_if 17 with fail;go_cut[5]λs wx=>(∃A5 c5,s=.slice A5 (k+1-1) c5)/\Own wx w1.heap.size 3 1 DF s (Gp p O<|k+1)/\N8 wx (w.heap.size+1) (.slice (some ⟨T,0,none⟩) L.length c) (Ky p O L<|k+1)/\AO wx w.heap.size 26 #[.slice An nn cn,.slice Aa na ca,.slice Af nf cf]/\AU w wx/\w1.heap.size<=wx.heap.size/\(1<=k->M≠0/\M∉Gp p O k);case first=>
   rcases Xe k with h0|h0
   .have hk0:¬(0:Int)<(k:Int):=I;have e1:Ky p O L (k+1)=Ky p O L k:=by rw[h0];exact avT
    have e2:Gp p O (k+1)=Gp p O k:=by rw[h0];rfl
    have HE1:=V e1;have HE2:=V e2;have hk9:k-1=k+1-1:=I;have HK9:=V hk9;have HZ0:=V h0;clear e1 e2 hf0 U hk9 h0;go_wp2;go_meet;exact⟨⟨A5,c5,by rw[HK9.1]⟩,by rw[HE2.1];exact Gf.1,by rw[HE1.1];exact HA.1,HX.1,HB.1,hsz,λh=>by have:=HZ0.1;omega⟩
   have hk0:(0:Int)<(k:Int):=I;obtain⟨hne,hfe⟩:=hfc h0;have hkl:0<X.length:=ZG.2 hne;have hhd:X.headD 0=X[0]:=by cases X with|nil=>exact absurd rfl hne|cons d l'=>rfl
   rw[hhd]at hfe;obtain⟨g',Gx,-,hgl,-,hce⟩:=Own.QZ HA.1.own (by rw[OW];omega);injection Gx with Gx;injection Gx with Gx _ _;subst Gx;obtain⟨-,e1,-⟩:=hce k wJ;have o:=HA.1.out _<|BG wJ;rw[HAt.1]at e1 o;obtain⟨sa,sn,sc⟩:=sv;unfold BO at e1 o;replace o:Own wo (w.heap.size+1) 3 1 DF (.slice sa sn sc) X:=o;simp only at e1;have hnb:=Own.apart o HA.1.own BI;obtain⟨Ao,co,hel,-,-,hRo⟩:=o.sl;injection hel with y1 y2 y3;subst y1 y2 y3;have hr2:=o.row_of;obtain⟨bl,ol,oC,oD,d0⟩:=(show Row wo sa<|X.flatMap DF from hr2).int hkl;subst oC;simp only[VA]at d0;have azB:bl≠T:=λe=>hnb bl rfl aO;have kz:(0:Int)<X.length:=I;have kn:¬X=[]:=hne;have hmem:X[0]∈BZ p:=Zb.1 _<|BG hkl;have MK:=V λW(hW:AU w W)=>Xk.1 X[0] hmem W hW;generalize X[0]=dd at*;rw[<-hfe]at MK;have hkL:(k:Int)<L.length:=I;have hk2:0<=(k:Int):=I;obtain⟨Y3,HE1,aAR⟩:=CB o e1<|HA.1.keep<|bD<|bR wo;clear hnb hRo hr2 hmem hhd hfe hf0 hce;have n1:¬w.heap.size=T:=λe=>ajt e.symm;obtain⟨Au,Aw,Az,BA,-⟩:=U.BF;go_upto_region 7 with fail;refine Wn wo (some T) (.run 7 0 0<|.call 7 255<|.take 8 511<|.take 9 1023<|.call 10 2047<|.take 11 4095<|.take 12 8191<|.call 13 16383<|.done) λCG QR Ae Aj hS=>?_;iterate 7 refine Ah ?_
   refine BP ?_;clear hS;intro K hK AQ;go_simp;refine hK.out _ _ AQ.out λhS=>?_;clear hK K AQ;try simp only[pu]
   iterate 2 refine Ah ?_
   refine BP ?_;clear hS;intro K hK AQ;go_simp;refine(MK.1 _<|J HB.1<|bD<|bR _).mono ?_;rintro e Bv⟨rfl,Bj⟩;have hS:aV wo (some T) Bv:=gB (w0:=wo) AQ.out Bj;clear AQ;refine hK.out _ _ hS λ_=>?_;clear hK K;try simp only[pu]
   iterate 2 refine Ah ?_
   refine BP ?_;clear hS;intro K hK AQ;have HAx:=aAR.1.keep Bj;obtain⟨azC,aju,f0,-⟩:=Own.aB7 HAx.own wJ;have hf0:=aju<|k*4;clear aju;obtain⟨wK,TK,MJ,Ja⟩:=D9 (HAx.face wJ M) (Own.fM ((Gf.1.keep<|bD<|bR wo).keep Bj) HAx.own BI (k*4)<|.int .i64 M) (AO.far (p:=⟨T,k*4,none⟩) ((HX.1.drew).keep Bj) (λe=>ajt e.symm)<|.int .i64 M)<|bS (p:=⟨T,k*4,none⟩) (J (bD HB.1) Bj) D8<|.int .i64 M;have ajv:=Bj.size;go_simp;refine hK.out _ _ QG λhS=>?_;clear hK K AQ;try simp only[pu]
   refine U7 ?_;clear hS Aj Ae;intro hB;skip;obtain⟨W5,IW⟩:∃W:World,W=Bv.setCell ⟨T,k*4,none⟩ (.int .i64 M):=⟨_,rfl⟩;rw[<-IW]at wK TK MJ Ja⊢;have hzW:Bv.heap.size=W5.heap.size:=by rw[IW];simp
   have QU:w1.heap.size<=W5.heap.size:=by simp only[World.size_drew]at ajv;omega
   have Qc:=wK.1;rw[Ce.1]at Qc;have Io:=V Qc;have eF:k<(Ky p O L<|k+1).length:=by rw[OW];exact hlt
   have Vq:=SK (p:=p) (O:=O) (k:=k+1) eF hlt;rw[AZ<|aaC k,Ur.1]at Vq;obtain⟨Sm,-,e50,-⟩:=Own.aB7 Io.1.own eF;rw[Vq]at e50;simp only at e50;have kW:=V λW(hW:AU W5 W)=>acL (.slice A5 (k-1) c5) (Gp p O k) M W<|Sl.mono TK.1.sl hW;clear hB Bj IW Qc Vq hzW ajv wK Ce aAR Gf HX HB hgl oD d0 U Au Aw Az BA e1 HE1 Y3 kz kn hne;by_cases z:M=0
   .have z1:(M==0)=true:=by simpa using z
    have hf:=KI.1<|.inl ⟨h0,z⟩;have HF:=V hf;clear z hf;go_wp2_with fail;go_ret2;exact⟨none,0,0,Yx,Ja.1,λe=>by rw[HF.1]at e;cases e⟩
   have z1:(M==0)=false:=by simpa using z
   obtain⟨zq,hh2⟩:∃q,(Gp p O k).any (λy=>decide<|y=M)=q:=⟨_,rfl⟩;rw[hh2]at kW;have HZq:=V (show zq=true↔M∈Gp p O k by rw[<-hh2,PW];exact⟨λ⟨y,hy,e⟩=>by simp only[DI]at e;rw[<-e];exact hy,λh=>⟨M,h,Ak⟩⟩);have HZf:=V z;clear hh2 z;go_wp2_with fail;refine(kW.1 _<|bR _).mono ?_;rintro e w6⟨rfl,hb6⟩;obtain⟨MP,Xb,Ic,EG⟩:=D9 (TK.1.keep hb6) (Io.1.keep hb6) (MJ.1.keep hb6)<|J Ja.1 hb6;have oz:w1.heap.size<=w6.heap.size:=Du QU hb6.size;have e61:=Dk hb6 e50;clear hb6 kW TK Io MJ Ja e50 Sm;cases zq;case true=>have hf:=KI.1<|.inr<|.inl ⟨h0,HZq.1.1 rfl⟩;have HF:=V hf;clear hf;go_wp2_with fail;go_ret2;exact⟨none,0,0,Yx,EG.1,λe=>by rw[HF.1]at e;cases e⟩
   have azD:T<w6.heap.size:=(Own.aB7 Xb.1.own eF).1;have hsu:=vM.1 h0;have hsh:(Gp p O k++[M]).length=k+1-1:=by rw[EK,hfl];simp only[qo];omega
   have QV:=V hsu;have DN:=V hsh;have azE:(Gp p O k).length<=513:=I;clear hsu hsh;have hnz:M≠0/\M∉Gp p O k:=⟨HZf.1,λh=>by have:=HZq.1.2 h;cases this⟩;have HNz:=V hnz;clear hnz;go_wp2_with(at_builtin;refine FV _ rfl (.tmp 46) (.tmp 52) _ rfl (base:=w1.heap.size) J3 IV J4 rfl (Own.alloc MP.1 _) rfl (l2:=[M]) (Sl.lit (n:=1) (AO.made rfl _ _) rfl<|DC I) DY DY D8 ?_;intro v7 w7 O1 GR Tj;obtain⟨A7,c7,hv7,-⟩:=Own.Il O1;rw[DN.1]at hv7;subst hv7;obtain⟨jQ,Jg,aB9,Gw⟩:=D9 O1 (AO.grown (Ic.1.alloc _) GR<|λe=>Own.ET MP.1 Ic.1 BI e.symm) (N8.grown (Xb.1.keep<|bA (bR w6) _) (avZ.1.face λx hx=>ajq hx) GR<|λq hq=>(MP.1.lt q hq).1)<|bG (bA EG.1 _) GR<|λg hg=>Du ava (MP.1.lt g hg).1;have hz7:=GR.size;simp only[World.size_alloc]at hz7;clear O1 GR Tj);go_meet;exact⟨⟨A7,c7,rfl⟩,by rw[QV.1];exact jQ.1,aB9.1,Jg.1,Gw.1,I,λ_=>HNz.1⟩
  obtain⟨⟨A7,c7,rfl⟩,ho3,ha3,U,hb3,hz3,hzz⟩:=hcut;obtain⟨wv,rfl⟩:=BR wc;obtain⟨Eo,JD,FN,HB3,HZz⟩:=G9 ho3 ha3 U hb3 hzz;clear ho3 ha3 hb3 hzz Gf HA HX HB Ce HAt hfc hf0;have eF:k<(Ky p O L<|k+1).length:=by rw[OW];exact hlt
  have Vq:=SK (p:=p) (O:=O) (k:=k+1) eF hlt;rw[AZ<|aaC k,Ur.1,HY.1]at Vq;have ajw:=V Vq;clear Vq;obtain⟨sa,sn,sc⟩:=sv;obtain⟨ia,IX,ic⟩:=iv;have HEl:=V (λW(hW:AU wv W)=>show T<W.heap.size/\W.cell? ⟨T,k*4,none⟩=some (.int .i64 M)/\W.cell? ⟨T,k*4+1,none⟩=some (.slice sa sn sc)/\W.cell? ⟨T,k*4+2,none⟩=some (.slice ia IX ic)from by obtain⟨h1,-,h2,h3,h4,-⟩:=Own.aB7 (JD.1.keep hW).own eF;rw[ajw.1]at h2 h3 h4;exact⟨h1,h2,h3,h4⟩);have o:=JD.1.out _<|BG eF;have Jo:=JD.1.inn _<|BG eF;have Qb:=JD.1.Ik _<|BG eF;rw[ajw.1]at o Jo Qb;replace o:Own wv (w.heap.size+1) 3 1 DF (.slice sa sn sc) X:=o;replace Jo:Own wv (w.heap.size+1) 24 1 JL (.slice ia IX ic) C:=Jo;replace Qb:∀c∈C,Own wv (w.heap.size+1) 3 1 DF (BO c.2) c.1:=Qb;obtain⟨Ai,ci,hel,-⟩:=Jo.sl;injection hel with y1 y2 y3;subst y1 y2 y3;obtain⟨kV,Gh,HMx,OU,TR⟩:=G9 Qb Jo (show X∈Nw p O k from by rw[<-Kw.1];exact ED) (λc(hc:c∈C)=>show c.1∈Nw p O k from by rw[<-Kw.1];exact FW _<|H6 hc) λW(hW:AU wv W)=>ajs.1 (.slice sa sn sc) X M W (J HB3.1 hW) (Sl.mono o.sl hW) Zb.1 I;obtain⟨q1,hq1⟩:∃q,X.all λd=>Ej p d==M=q:=⟨_,rfl⟩;rw[hq1]at TR;have jS:=V hq1;have hinl:C.length<=512:=by have h9:=congrArg List.length<|HD.1.inn k hlt;rw[D6,HY.1]at h9;simp only at h9;rw[h9];refine Du (NH _ _) ?_;exact Du (NH _ _) HV.1.SX
  have hkL:(k:Int)<L.length:=I;have hk2:0<=(k:Int):=I;obtain⟨hgl,e30,e31,-⟩:=HEl.1 wv<|bR wv;clear o Jo Qb hq1;try clear Au Aw Az BA
  obtain⟨Au,Aw,Az,BA,-⟩:=U.BF;go_upto_region 11 with fail;refine CZ wv (.run 11 0 0<|.call 11 4095<|.take 12 8191<|.done) λCG QR Ae Aj hS=>?_;iterate 11 refine Ah ?_
  refine FM (TR.1 _ hS) ?_;clear hS;intro Bv Bj hS;refine Ah ?_;refine CX ?_;clear hS Aj Ae;intro hB;obtain⟨W6,aBA⟩:∃W:World,W=Bv:=⟨_,rfl⟩;rw[<-aBA]at hB⊢;have EG:=V hB;have Ez:=V<|J HB3.1 hB;clear hB Bj aBA U Au Aw Az BA e30 e31 hgl TR;cases q1;case false=>have hf:=KI.1<|.inr<|.inr (by have h9:=jS.1;rw[aT]at h9;obtain⟨d,hd,hne⟩:=h9;exact⟨X,HMx.1,d,hd,λe=>hne<|by rw[e];exact beq_self_eq_true _⟩);have HF:=V hf;clear hf;go_wp2_with fail;go_ret2;exact⟨none,0,0,Yx,Ez.1,λe=>by rw[HF.1]at e;cases e⟩
  go_upto_block 2 with fail;go_wp2_with fail;go_loopw[7](λi wr=>∃j:Nat,j<=C.length/\i=.int .i64 j/\(∀q(hq:q<C.length),q<j->C[q].1.all λd=>Ej p d==M=true)/\AU W6 wr)λi _=>C.length-(intOf i).toNat;case atStart=>exact⟨0,C9 _,rfl,λq _ h=>I,bR W6⟩
  obtain⟨j,hj,rfl,hall,hb7⟩:=hrel;obtain⟨wq,rfl⟩:=BR wr;obtain⟨Nv,Gw,Kz⟩:=CB hall hb7<|J EG.1 hb7;clear hall hb7;obtain⟨hgl,e30,-,e32⟩:=HEl.1 wq Kz.1;by_cases hlj:j<C.length
  .obtain⟨bi,oi,rfl,avb,f0⟩:=(Gh.1.keep Kz.1).row_of.cy hlj;have hci:=kV.1 C[j]<|BG hlj;have Q5:=OU.1 C[j]<|BG hlj;have hdk:=λd(hd:d∈C[j].1)=>aB4.1 k C[j].1 Q5 d hd;have hcl:C[j].1.length<=1000:=by have h9:=HD.1.inn k hlt;rw[HY.1]at h9;simp only at h9;have h8:C[j].1∈C.map (·.1):=H6<|BG hlj;rw[h9]at h8;have h7:=Oq.1 _ (VT.1 (Nc.1 h8).1).1;omega
   have JK:=V λ(h:C[j].1.all λd=>Ej p d==M=true)=>all_succ (p:=λy:List Int×SV=>y.1.all λd=>Ej p d==M=true) Nv.1 hlj h;generalize C[j]=x at*;obtain⟨Xi,xa,xn,xc⟩:=x;unfold BO at hci;simp only at hci f0 Q5 hdk hcl JK;have HS2:=V λW(hW:AU wq W)=>ajs.1 (.slice xa xn xc) Xi M W (J HB3.1<|J Kz.1 hW) (Sl.mono hci.sl<|J Kz.1 hW) hdk hcl;obtain⟨q2,hq2⟩:∃q,Xi.all λd=>Ej p d==M=q:=⟨_,rfl⟩;rw[hq2]at HS2 JK;have Oa:=V hq2;have auo:=V Q5;have j1:(j:Int)<C.length:=I;have j2:0<=(j:Int):=I;have U:=FN.1.keep Kz.1;clear hci Q5 hdk hq2;try clear Au Aw Az BA
   obtain⟨Au,Aw,Az,BA,-⟩:=U.BF;go_upto_region 16 with fail;refine CZ wq (.run 14 0 0<|.call 14 32767<|.take 15 65535<|.done) λCG QR Ae Aj hS=>?_;iterate 14 refine Ah ?_
   refine FM (HS2.1 _ hS) ?_;clear hS;intro Bv Bj hS;refine Ah ?_;refine CX ?_;clear hS Aj Ae;intro hB;have Js:=V<|J Gw.1 hB;have qI:=V<|J HB3.1<|J Kz.1 hB;clear hB Bj U Au Aw Az BA e30 e32 hgl f0 avb HS2;cases q2;case false=>have hf:=KI.1<|.inr<|.inr (by have h9:=Oa.1;rw[aT]at h9;obtain⟨d,hd,hne⟩:=h9;exact⟨Xi,auo.1,d,hd,λe=>hne<|by rw[e];exact beq_self_eq_true _⟩);have HF:=V hf;clear hf;go_wp2_with fail;go_ret2;exact⟨none,0,0,Yx,qI.1,λe=>by rw[HF.1]at e;cases e⟩
   have HN9:=V<|JK.1 rfl;clear JK;go_wp2;go_roundw;case rel=>exact⟨j+1,I,BH,HN9.1,Js.1⟩
   exact BJ
  have HU2:=V<|show QY p O<|k+1 from HU.1.succ (λh1=>by rw[Ur.1];exact(HZz.1 h1).1) (λh1=>by rw[Ur.1];exact(HZz.1 h1).2) (by
   rw[Ur.1,<-Kw.1];intro c hc d hd;rcases Dv.1 hc with e|hc;.subst e;exact eq_of_beq<|KO.1 jS.1 d hd
   obtain⟨y,hy,rfl⟩:=EP.1 hc;obtain⟨q,hq,rfl⟩:=Dy.1 hy;have hq':q<C.length:=hq;exact eq_of_beq<|KO.1 (Nv.1 q hq' I) d hd);obtain⟨TK,HA9,MJ,Ja⟩:=D9 (Eo.1.keep Kz.1) (JD.1.keep Kz.1) (FN.1.keep Kz.1)<|J HB3.1 Kz.1;have hz9:=Kz.1.size;go_wp2;go_roundw;case rel=>exact⟨k+1,I,BH,⟨A7,c7,rfl⟩,TK.1,HA9.1,HU2.1,MJ.1,Ja.1,I⟩
  exact BJ
 have hkk:k=O.length+1:=by have:=Jw.1;omega
 have hkL:k=L.length:=I;have hu:=HU.1;rw[hkk]at hu;have hnm:=Ob.1 hu;obtain⟨R,hR⟩:=BM<|PD p;have vN:=V hR;rw[hR]at hnm;have ZI:=V hnm;have hsl:(Gp p O k).length=k-1:=aEY p O k;have hsk:Gp p O k=Gp p O (O.length+1):=by rw[hkk]
 have hints:Ints wo (.slice A5 (k-1) c5)<|Gp p O k:=Gf.1.sl;have Xx:=V λW(hW:AU wo W)=>akK (.slice A5 (k-1) c5) (Gp p O k) W (hints.mono hW) I;have HSm:=V λA9 c9 W(hW:AU wo W)(h9:Ints W (.slice A9 (O5<|Gp p O k).length c9)<|O5<|Gp p O k)=>akL _ (.slice Af nf cf) (O5<|Gp p O k) p.faces W h9<|HF.1.mono<|J HB.1 hW;obtain⟨nl,hnl⟩:=BM<|O5<|Gp p O k;rw[hnl]at Xx HSm;rw[<-hsk,hnl]at hnm;rw[hnm]at HSm;have HFin:=V (show R=true->∃L',L.length=L'.length/\N8 wo w.heap.size (.slice (some ⟨T,0,none⟩) L.length c) L'/\Gn p L' O (Gj p) p.nodes/\∀i(hi:i<L'.length),L'[i].tw=IJ p O i fromλ_=>by
  refine⟨Ky p O L k,(OW _ _ _ _).symm,HA.1.EN I,ajr HD.1 k,λi hi=>?_⟩;have hil:i<L.length:=by rw[OW]at hi;exact hi
  rw[SK hi hil,AZ I]);have U:=HX.1;clear hnm hnl hsk hints hu hR ZI hkk hkL hsl;try clear Au Aw Az BA
 obtain⟨Au,Aw,Az,BA,-⟩:=U.BF;go_upto_region 18 with fail;refine CZ wo (.take 0 1<|.take 1 3<|.take 3 11<|.take 4 27<|.call 2 31<|.call 5 63<|.take 6 127<|.take 7 255<|.done) λCG QR Ae Aj hS=>?_;iterate 4 refine Ah ?_
 refine BP ?_;clear hS;intro K hK AQ;go_simp;refine(Xx.1 _ AQ.out).mono ?_;rintro e Bv⟨A9,c9,rfl,Bj,hi9⟩;have hS:Since wo Bv:=J (w:=wo) AQ.out Bj;clear AQ;refine hK.out _ _ hS λ_=>?_;clear hK K;try simp only[pu]
 refine FM (HSm.1 A9 c9 _ hS hi9) ?_;clear hS;intro wr2 F5 hS;iterate 2 refine Ah ?_
 refine CX ?_;clear hS Aj Ae;intro hB;have Ja:=V<|J HB.1 hB;have HF9:=V (show R=true->∃L',L.length=L'.length/\N8 wr2 w.heap.size (.slice (some ⟨T,0,none⟩) L.length c) L'/\Gn p L' O (Gj p) p.nodes/\∀i(hi:i<L'.length),L'[i].tw=IJ p O i fromλe=>by obtain⟨L',h1,h2,h3,h4⟩:=HFin.1 e;exact⟨L',h1,h2.keep hB,h3,h4⟩);clear hB Bj F5 hi9 U Au Aw Az BA;go_wp2_with fail;go_ret2;refine⟨some ⟨T,0,none⟩,L.length,c,by rw[vN.1];rfl,Ja.1,λe=>?_⟩;rw[vN.1]at e;rw[YK.1];exact HF9.1 e
