import Derived.Test.YtngoejdlompfoaaGreatJ13
set_option linter.unusedSimpArgs false
set_option linter.unusedVariables false
set_option maxRecDepth 100000
set_option maxHeartbeats 8000000
namespace Go.Proofs.YtngoejdlompfoaaGreat
open Go.RowKit Tryz
def oU(w:World)(v:Value)(L:List AD):Prop:=Sl w v L.length (L.flatMap EH)/\∀x∈L,Ints w (BO x.ov) x.out
theorem oU.mono{w w':World}{v:Value}{L:List AD}(h:oU w v L)(hb:AU w w'):oU w' v L:=⟨h.1.mono hb,λx c=>(h.2 x c).mono hb⟩
theorem Row.ad{w:World}{A:Option Addr}{l:List AD}(h:Row w A<|l.flatMap EH){k:Nat}(hk:k<l.length):∃b o,A=some ⟨b,o,none⟩/\b<w.heap.size/\w.cell? ⟨b,o+k*4,none⟩=some (.int .i64 l[k].tw)/\w.cell? ⟨b,o+k*4+1,none⟩=some (BO l[k].ov)/\w.cell? ⟨b,o+k*4+2,none⟩=some (BO l[k].iv)/\w.cell? ⟨b,o+k*4+3,none⟩=some (BO l[k].av):=by obtain⟨b,o,j,hb,c⟩:=h.at_ (n:=4) (λ_=>rfl) hk I;exact⟨b,o,j,hb,c 0 _ rfl,c 1 _ rfl,c 2 _ rfl,c 3 _ rfl⟩
def dG(p:Pl)(v:Pt)(L:List AD)(k b:Nat):Prop:=(b=0/\Hy (λx:AD=>encS p x.out v) (·.tw) (L.tail.take k)=none)\/∃hb:b<L.length,1<=b/\b<=k/\Hy (λx:AD=>encS p x.out v) (·.tw) (L.tail.take k)=some L[b]
theorem adI{L:List AD}{k:Nat}(hk:k+1<L.length):L.tail.take (k+1)=L.tail.take k++[L[k+1]]:=by cases L with|nil=>cases hk|cons a L=>simp only[List.tail_cons,List.getElem_cons_succ];exact Eu<|by simpa using hk
theorem atQ(p:Pl)(v:Pt)(L:List AD):dG p v L 0 0:=.inl ⟨rfl,by rw[PZ];rfl⟩
theorem ajC{p:Pl}{v:Pt}{L:List AD}{k b:Nat}(h:dG p v L k b)(hk:k+1<L.length)(c:encS p L[k+1].out v=true)(hlt:b=0\/∃hb:b<L.length,L[k+1].tw<L[b].tw):dG p v L (k+1)<|k+1:=by
 refine .inr ⟨hk,I,Dh _,?_⟩;rw[adI hk,bP];unfold Ti;rcases h with⟨rfl,e⟩|⟨hb,h1,h2,e⟩;.rw[e];simp[c]
 rw[e];rcases hlt with g|⟨_,g⟩;.omega
 simp[c,g]
theorem adJ{p:Pl}{v:Pt}{L:List AD}{k b:Nat}(h:dG p v L k b)(hk:k+1<L.length)(c:encS p L[k+1].out v=false\/b≠0/\∃hb:b<L.length,¬L[k+1].tw<L[b].tw):dG p v L (k+1) b:=by
 rcases h with⟨rfl,e⟩|⟨hb,h1,h2,e⟩
 .refine .inl ⟨rfl,?_⟩;rw[adI hk,bP,e];rcases c with g|⟨g,-⟩;.unfold Ti;simp[g]
  exact absurd rfl g
 refine .inr ⟨hb,h1,I,?_⟩;rw[adI hk,bP,e];unfold Ti;rcases c with g|⟨-,_,g⟩;.simp[g]
 simp[g]
theorem ajD(w:World)(gm:Nat)(p:Pl)(f:Int->SV)(U:Qk w gm p f)(hv:Valid p)(vl:Value)(L:List AD)(hL:oU w vl L)(hd:∀x∈L,∀d∈x.out,d∈BZ p)(hl:L.length<=1000)(v:Pt)(nv:Bl v=true):Calls prog 87 #[.map<|some gm,vl,BD v] w λe w'=>(∃b:Nat,e=.returned (.int .i64 b)/\dG p v L (L.length-1) b)/\AU w w':=by
 have HEn:=V λk(hk:k<L.length)W(hW:AU w W)=>atP W gm p f (U.keep hW) hv _ L[k].out ((hL.2 _<|BG hk).mono hW) (hd _<|BG hk) v nv;obtain⟨⟨Al,cl,rfl,hc1,hc2,hR⟩,-⟩:=hL;unfold maxLen at hc2;have HR:=V hR;unfold BD at HEn⊢;clear hR U hv hd nv;go_enter func87,ntmps87;go_upto_block 0 with fail;obtain⟨W1,hW⟩:=BR<|w.alloc<|.cells #[.int .i64 v.x,.int .i64 v.y] 50;have HB1:=V (show AU w W1 by rw[hW];exact bA (bR w) _);have DU:=V (show AO W1 w.heap.size 50 #[.int .i64 v.x,.int .i64 v.y]by rw[hW];exact AO.made rfl _ _);rw[<-hW];clear hW;go_wp2_with fail;go_loopw[7,8](λs i wr=>∃k b:Nat,(k+1<=L.length\/k=0)/\i=.int .i64 ((k:Int)+1)/\s=.int .i64 b/\dG p v L k b/\AU W1 wr)λ_ i _=>L.length-(intOf i).toNat;case atStart=>exact⟨0,0,.inr rfl,rfl,rfl,atQ p v L,bR W1⟩
 obtain⟨k,b,hk,rfl,rfl,hbx,hb⟩:=hrel;obtain⟨z,Hb,Ez⟩:=CB hbx (J HB1.1 hb) hb;have T:=DU.1.keep hb;clear hb;by_cases hlt:k+1<L.length
 .obtain⟨bq,oq,rfl,hlb,c0,c1,-⟩:=(HR.1.mono Hb.1).ad hlt;have HE:=V<|HEn.1 (k+1) hlt;obtain⟨E,hE⟩:=BM<|encS p L[k+1].out v;rw[hE]at HE;have uV:=V hE;clear hE;have k1:=DR<|(k:Int)+1;have k2:(k:Int)+1<L.length:=I;have k3:0<=(k:Int)+1:=I;have VE:=V<|show∀t,L[k+1].tw=t->∀b':Nat,b=b'->True fromλ_ _ _ _=>trivial;clear VE;rcases z.1 with⟨hb0,-⟩|⟨C,hb1,hb2,-⟩
  .subst hb0;have c:=V λh=>ajC z.1 hlt (uV.1.trans h)<|.inl rfl;have j:=V λh=>adJ z.1 hlt<|.inl<|uV.1.trans h;generalize L[k+1].tw=t at*;generalize L[k+1].ov=sv at*;obtain⟨sa,sn,sc⟩:=sv;unfold BO at c1 HE;obtain⟨CJ,CO,CQ,-⟩:=T.BL;go_upto_region 5 with fail;refine CZ wr (.run 23 0 0<|.call 23 16777215<|.take 24 33554431<|.done) λCG QR Ae Aj hS=>?_;iterate 3 refine Ah ?_
   iterate 11 refine Iu ?_
   iterate 2 refine Ah ?_
   iterate 7 refine DT ?_
   refine FM (HE.1 _<|J Hb.1 hS) ?_;clear hS;intro Bv Bj hS;refine Ah ?_;refine CX ?_;clear hS Aj Ae;intro o;have K:=V<|J Ez.1 o;clear o c0 c1 T CJ CO CQ;cases E
   .go_wp2;go_roundw;case rel=>exact⟨k+1,0,.inl I,BH,rfl,j.1 rfl,K.1⟩
    exact BJ
   go_wp2;go_roundw;case rel=>exact⟨k+1,k+1,.inl I,BH,BH,c.1 rfl,K.1⟩
   exact BJ
  obtain⟨bq',oM,M,-,e0,-⟩:=(HR.1.mono Hb.1).ad C;injection M with M;injection M with y1 y2 _;subst y1 y2;have k4:IntKind.i64.wrap (b:Int)=b:=Gz _ I;have k5:(b:Int)<L.length:=I;have k6:0<=(b:Int):=I;have kb:((b:Int)==0)=false:=by simp;omega
  obtain⟨c,j,uX⟩:=CB (λh g=>ajC z.1 hlt (uV.1.trans h)<|.inr ⟨C,g⟩) (λh=>adJ z.1 hlt<|.inl<|uV.1.trans h) λg=>adJ z.1 hlt<|.inr ⟨I,C,g⟩;generalize L[b].tw=tb at*;generalize L[k+1].tw=t at*;generalize L[k+1].ov=sv at*;obtain⟨sa,sn,sc⟩:=sv;unfold BO at c1 HE;try clear CJ CO CQ
  obtain⟨CJ,CO,CQ,-⟩:=T.BL;by_cases hlt2:t<tb
  .go_upto_region 5 with fail;refine CZ wr (.run 23 0 0<|.call 23 16777215<|.take 24 33554431<|.done) λCG QR Ae Aj hS=>?_;iterate 3 refine Ah ?_
   iterate 11 refine DT ?_
   iterate 2 refine Ah ?_
   iterate 7 refine DT ?_
   refine FM (HE.1 _<|J Hb.1 hS) ?_;clear hS;intro Bv Bj hS;refine Ah ?_;refine CX ?_;clear hS Aj Ae;intro o;have K:=V<|J Ez.1 o;clear o c0 c1 e0 T CJ CO CQ;cases E
   .go_wp2;go_roundw;case rel=>exact⟨k+1,b,.inl I,BH,rfl,j.1 rfl,K.1⟩
    exact BJ
   go_wp2;go_roundw;case rel=>exact⟨k+1,k+1,.inl I,BH,BH,c.1 rfl hlt2,K.1⟩
   exact BJ
  go_upto_region 5 with fail;refine CZ wr (.run 25 0 0<|.done) λCG QR Ae Aj hS=>?_;iterate 3 refine Ah ?_
  iterate 11 refine DT ?_
  iterate 2 refine Ah ?_
  iterate 8 refine Iu ?_
  refine Ah ?_;refine CX ?_;clear hS Aj Ae;intro o;have K:=V<|J Ez.1 o;clear o c0 c1 e0 T CJ CO CQ;go_wp2;go_roundw;case rel=>exact⟨k+1,b,.inl I,BH,rfl,uX.1 hlt2,K.1⟩
  exact BJ
 have hkl:L.length-1=k:=I;have HF:=V hkl;clear hkl T;go_wp2;go_ret;exact⟨⟨b,rfl,by rw[HF.1];exact z.1⟩,Hb.1⟩
set_option linter.unusedSectionVars false
section
variable{p:Pl}(h:Valid p)
include h
theorem Valid.uY:(BZ p).length<=512:=by have c:=h.lim;unfold Jr at c;simp only[Rl,IL]at c;have h2:=c.2;unfold BZ;rw[EK,Z9,D6,D6];omega
theorem Valid.aES{X:List Int}(c:X∈CV p):WY p X=EI p X:=by obtain⟨h1,h2⟩:=h.Fv c;have j:=Wq h1 h2;have h3:=h.uY;unfold WY;rw[AZ ⟨I,λd hd=>h.ahR<|h2 d hd⟩,apu p X X.length<|Dh _,Gu];rfl
end
set_option linter.unusedSectionVars false
theorem atS{α β:Type}(f:α->β)(E:β->Bool)(t:β->Int)(l:List α):Hy E t (l.map f)=(Hy (λx=>E<|f x) (λx=>t<|f x) l).map f:=by induction l using abp with|h0=>rfl|h1 l x c=>rw[Gt,FB,Ri,bP,bP,c];unfold Ti;cases Hy (λx=>E<|f x) (λx=>t<|f x) l<;>simp only[Option.map]<;>split<;>rfl
theorem aET{α:Type}{E c:α->Bool}{t j:α->Int}{l:List α}(h:∀x∈l,E x=c x/\t x=j x):Hy E t l=Hy c j l:=by induction l using abp with|h0=>rfl|h1 l x o=>have o:=o λy s=>h y<|O8 _ s;rw[bP,bP,o];obtain⟨z,C⟩:=h x<|aQ _ ED;unfold Ti;cases hb:Hy c j l with|none=>simp only[z]|some y=>have s:=(ZT c j hb).1;have K:=(h y<|O8 _ s).2;simp only[z,C,K]
def NU(O:List<|List Int)(i:Nat):Option<|List Int:=if i=0 then none else O[i-1]?
theorem ajE{O:List<|List Int}(hn:O.Nodup){i j:Nat}(hi:i<=O.length)(c:j<=O.length)(e:NU O i=NU O j):i=j:=by
 unfold NU at e;by_cases h1:i=0
 .by_cases h2:j=0;.omega
  rw[AZ h1,AX h2,DK I]at e;cases e
 by_cases h2:j=0;.rw[AX h1,AZ h2,DK I]at e;cases e
 rw[AX h1,AX h2,DK I,DK I]at e;injection e with e;unfold List.Nodup at hn;rw[FT]at hn;rcases Om i j with g|g|g;.exact absurd e<|hn (i-1) (j-1) I I I
 .exact g
 exact absurd e.symm<|hn (j-1) (i-1) I I I
theorem YC{O:List<|List Int}{i:Nat}(h0:1<=i)(hi:i<=O.length):NU O i=some (O[i-1]'(by omega)):=by unfold NU;rw[AX I,DK I]
def Tv(p:Pl)(L:List AD):Prop:=∀i(hi:i<L.length),1<=i->L[i].tw=EI p L[i].out
theorem Tv.set{p:Pl}{L:List AD}(h:Tv p L){b:Nat}{y:AD}(hb:b<L.length)(h1:y.tw=L[b].tw)(h2:y.out=L[b].out):Tv p<|L.set b y:=by
 intro i hi c;simp only[U5]at hi;rw[RZ];split;.rename_i e;subst e;rw[h1,h2];exact h b hb c
 exact h i hi c
theorem Tv.more{p:Pl}{L:List AD}(h:Tv p L){x:AD}(h1:x.tw=EI p x.out):Tv p<|L++[x]:=by
 intro i hi c;by_cases e:i<L.length;.rw[List.getElem_append_left e];exact h i e c
 have:i=L.length:=by simp at hi;omega
 subst this;simpa using h1
theorem Tv.one(p:Pl)(x:AD):Tv p [x]:=λi hi c=>by simp at hi;omega
structure Gn(p:Pl)(L:List AD)(O R:List<|List Int)(N:List Nd):Prop where
 out:L.map (·.out)=[]::O
 inn:∀i(hi:i<L.length),L[i].inn.map (·.1)=R.filter λc=>decide (F8 p (MZ p c)=NU O i)Ci:∀i(hi:i<L.length),L[i].Ci=(N.filter<|λn=>decide<|JJ p.AP n.id=0/\F8 p n.pt=NU O i).map (·.id)
section
variable{p:Pl}{L:List AD}{O R:List<|List Int}{N:List Nd}(h:Gn p L O R N)
include h
theorem Gn.len:L.length=O.length+1:=by have:=congrArg List.length h.out;simpa using this
theorem Gn.kN{i:Nat}(hi:i<L.length)(h1:1<=i):L[i].out=O[i-1]'(by have:=h.len;omega):=by
 have e:(L.map (·.out))[i]'(by simpa using hi)=L[i].out:=by rw[Ib]
 rw[<-e];have h2:=h.out;obtain⟨j,rfl⟩:∃j,i=j+1:=⟨i-1,I⟩;simp only[h2,List.getElem_cons_succ,gI]
theorem Gn.ajF(h0:0<L.length):L[0].out=[]:=by
 have e:(L.map (·.out))[0]'(by simpa using h0)=L[0].out:=by rw[Ib]
 rw[<-e];have h2:=h.out;simp only[h2,List.getElem_cons_zero]
theorem Gn.aEU{x:AD}(c:x∈L):x.out=[]\/x.out∈O:=by
 have:x.out∈L.map (·.out):=H6 c;rw[h.out]at this;rcases Dv.1 this with e|e;.exact .inl e
 exact .inr e
theorem Gn.more(c:R=[])(j:N=[])(x:AD)(h2:x.inn=[])(h3:x.Ci=[]):Gn p (L++[x]) (O++[x.out]) R N:=by
 subst c j;have o:=h.len;refine⟨by rw[Gt,h.out];rfl,λi hi=>?_,λi hi=>?_⟩
 .by_cases e:i<L.length;.rw[List.getElem_append_left e,h.inn i e];rfl
  have:i=L.length:=by simp at hi;omega
  subst this;simp[h2]
 by_cases e:i<L.length;.rw[List.getElem_append_left e,h.Ci i e];rfl
 have:i=L.length:=by simp at hi;omega
 subst this;simp[h3]
theorem Gn.inner(hn:O.Nodup){b:Nat}(hb:b<L.length)(c:List Int)(sv QX:SV)(j:F8 p (MZ p c)=NU O b):Gn p (L.set b {L[b]with inn:=L[b].inn++[(c,sv)],iv:=QX}) O (R++[c]) N:=by
 have o:=h.len;refine⟨?_,λi hi=>?_,λi hi=>?_⟩
 .rw[<-h.out];apply Xf Ak;intro i h1 h2;rw[Ib,Ib,RZ];split;.rename_i e;subst e;rfl
  rfl
 .simp only[U5]at hi;rw[RZ,yC];split;.rename_i e;subst e;rw[Gt,h.inn b hb,ZA,AZ<|by simpa using j];rfl
  rename_i e;rw[h.inn i hi,ZA,AX<|by rw[DI,j];exactλg=>e<|ajE hn I I g,aDy,I9]
 simp only[U5]at hi;rw[RZ];split;.rename_i e;subst e;exact h.Ci b hb
 exact h.Ci i hi
theorem Gn.lone(hn:O.Nodup){b:Nat}(hb:b<L.length)(n:Nd)(QD:SV)(h0:JJ p.AP n.id=0)(c:F8 p n.pt=NU O b):Gn p (L.set b {L[b]with Ci:=L[b].Ci++[n.id],av:=QD}) O R<|N++[n]:=by
 have j:=h.len;refine⟨?_,λi hi=>?_,λi hi=>?_⟩
 .rw[<-h.out];apply Xf Ak;intro i h1 h2;rw[Ib,Ib,RZ];split;.rename_i e;subst e;rfl
  rfl
 .simp only[U5]at hi;rw[RZ];split;.rename_i e;subst e;exact h.inn b hb
  exact h.inn i hi
 simp only[U5]at hi;rw[RZ,yC];split;.rename_i e;subst e;rw[Gt,h.Ci b hb,ZA,AZ<|by rw[DI];exact⟨h0,c⟩];rfl
 rename_i e;rw[h.Ci i hi,ZA,AX<|by rw[DI,c];exactλg=>e<|ajE hn I I g.2,aDy,I9]
theorem Gn.pass(n:Nd)(h0:JJ p.AP n.id≠0):Gn p L O R<|N++[n]:=⟨h.out,h.inn,λi hi=>by rw[h.Ci i hi,yC,ZA,AX<|by rw[DI];exactλg=>h0 g.1,aDy,I9]⟩
theorem Gn.home(o:O=BN p)(s:Tv p L){v:Pt}{b:Nat}(hb:dG p v L (L.length-1) b):b<L.length/\F8 p v=NU O b:=by
 have K:=h.len;have z:L.tail.take (L.length-1)=L.tail:=Ip Ak;have hm:L.tail.map (·.out)=O:=by rw[List.map_tail,h.out];rfl
 have j:F8 p v=(Hy (λx:AD=>encS p x.out v) (λx:AD=>x.tw) L.tail).map (·.out):=by unfold F8;rw[<-o,<-hm,atS];congr 1;refine aET λx C=>⟨rfl,?_⟩;obtain⟨i,hi,rfl⟩:=Dy.1 C;rw[List.getElem_tail];simp only[List.length_tail]at hi;exact(s (i+1) I I).symm
 unfold dG at hb;rw[z]at hb;rcases hb with⟨rfl,e⟩|⟨c,h1,h2,e⟩;.rw[e]at j;exact⟨I,by rw[j];rfl⟩
 rw[e]at j;refine⟨c,?_⟩;rw[j,YC h1 I];show some L[b].out=_;rw[h.kN c h1]
end
theorem Gn.start(p:Pl)(x:AD)(h1:x.out=[])(h2:x.inn=[])(h3:x.Ci=[]):Gn p [x] [] [] []:=by
 refine⟨by simp[h1],λi hi=>?_,λi hi=>?_⟩
 .have:i=0:=by simp at hi;omega
  subst this;simp[h2]
 have:i=0:=by simp at hi;omega
 subst this;simp[h3]
section
variable{p:Pl}(h:Valid p)
include h
theorem Valid.VF{X:List Int}(j:X∈CV p):X≠[]:=λe=>by obtain⟨x,-,-,-,c⟩:=h.Tc j;rw[e]at c;cases c
theorem Valid.aEV:(CV p).Nodup:=by
 have o:=h.ac8.nodup_iff.2 h.aEm;have hd:(CV p).Pairwise λa b=>∀x∈a,∀y∈b,x≠y:=by have h2:=List.pairwise_flatten.1 o;exact h2.2
 unfold List.Nodup;refine aa1 (λ{a b}s hb c e=>?_) hd;subst e;have j:=h.VF s;cases a with|nil=>exact j rfl|cons x a=>exact c x ED x ED rfl
theorem Valid.SX:(CV p).length<=512:=by
 have:∀L:List<|List Int,(∀X∈L,X≠[])->L.length<=L.flatten.length:=by intro L;induction L with|nil=>intro _;exact Dh _|cons X L j=>intro c;have h1:=j λY F=>c Y<|FW _ F;have h2:=ZG.2<|c X ED;rw[List.flatten_cons,EK,Gy];omega
 have h1:=this (CV p) λX o=>h.VF o;have h2:=h.ac8.length_eq;have h3:=h.uY;omega
theorem Valid.adK:p.faces.Pairwise (·<·):=by have ho:=h.ord;unfold SB at ho;rw[EC,EC]at ho;exact zQ _ ho.2
theorem Valid.ajG{f:Int}(j:f∈p.faces):1<=f/\f<=1073741824:=by have c:=h.rng;unfold Ou at c;rw[EC]at c;have h1:=c.1;rw[Rh,Xg]at h1;have:=h1 f<|aQ _ j;unfold LJ at this;simp only[LW,DI,not_or]at this;omega
theorem Valid.aEW(d:Int):Ej p d=0\/Ej p d∈p.faces:=by
 have c:=h.sides;unfold Vm at c;rw[KO]at c;have j:∀n,FX p.faces n=true->n=0\/n∈p.faces:=λn hn=>by
  unfold FX at hn;rw[LW,PW]at hn;rcases hn with⟨x,o,e⟩|e;.have:=eq_of_beq e;subst this;exact .inr o
  exact .inl<|eq_of_beq e
 unfold Ej;split;.exact .inl rfl
 rename_i a e;have s:a∈p.AP:=by
  unfold FP at e;split at e;.cases e
  exact Vz e
 have:=c a s;rw[EC]at this;split;.exact j _ this.1
 exact j _ this.2
theorem Valid.atT(d:Int):0<=Ej p d/\Ej p d<=1073741824:=by
 rcases h.aEW d with e|e;.omega
 have:=h.ajG e;omega
theorem Valid.aEX:(BN p).Nodup:=h.aEV.filter _
end
def IJ(p:Pl)(O:List<|List Int)(i:Nat):Int:=JZ p<|NU O i
def Nw(p:Pl)(O:List<|List Int)(i:Nat):List<|List Int:=GN p<|NU O i
structure QY(p:Pl)(O:List<|List Int)(k:Nat):Prop where
 some:∀i,1<=i->i<k->IJ p O i≠0
 differ:∀i j,1<=i->i<j->j<k->IJ p O i≠IJ p O j
 sides:∀i,i<k->∀c∈Nw p O i,∀d∈c,Ej p d=IJ p O i
theorem QY.zero(p:Pl)(O:List<|List Int):QY p O 0:=⟨λi _ h=>I,λi j _ _ h=>I,λi h=>I⟩
def Gp(p:Pl)(O:List<|List Int)(k:Nat):List Int:=(List.range<|k-1).map λi=>IJ p O<|i+1
theorem ajH(p:Pl)(O:List<|List Int){k:Nat}(h:1<=k):Gp p O (k+1)=Gp p O k++[IJ p O k]:=by unfold Gp;rw[show k+1-1=k-1+1 by omega,aU,Gt];simp only[FB,Ri];rw[show k-1+1=k by omega]
theorem adL{p:Pl}{O:List<|List Int}{k:Nat}{x:Int}:x∈Gp p O k↔∃i,1<=i/\i<k/\IJ p O i=x:=by
 unfold Gp;rw[EP];constructor;.rintro⟨i,hi,rfl⟩;rw[FC]at hi;exact⟨i+1,I,I,rfl⟩
 rintro⟨i,h1,h2,rfl⟩;exact⟨i-1,by rw[FC];omega,by rw[show i-1+1=i by omega]⟩
theorem aEY(p:Pl)(O:List<|List Int)(k:Nat):(Gp p O k).length=k-1:=by unfold Gp;simp
theorem QY.succ{p:Pl}{O:List<|List Int}{k:Nat}(h:QY p O k)(h1:1<=k->IJ p O k≠0)(h2:1<=k->IJ p O k∉Gp p O k)(h3:∀c∈Nw p O k,∀d∈c,Ej p d=IJ p O k):QY p O<|k+1:=by
 refine⟨λi hi hk=>?_,λi j hi o hk=>?_,λi hi=>?_⟩
 .by_cases e:i=k;.subst e;exact h1 hi
  exact h.some i hi I
 .by_cases e:j=k;.subst e;exactλg=>h2 I<|adL.2 ⟨i,hi,o,g⟩
  exact h.differ i j hi o I
 by_cases e:i=k;.subst e;exact h3
 exact h.sides i I
theorem aW{p:Pl}{O:List<|List Int}{i:Nat}(h1:1<=i)(hi:i<=O.length):IJ p O i=Ej p ((O[i-1]'(by omega)).headD 0):=by unfold IJ;rw[YC h1 hi];rfl
theorem QY.iff{p:Pl}{O:List<|List Int}(c:O.Perm<|BN p):Ru p↔QY p O (O.length+1)/\O.length=p.faces.length:=by
 constructor
 .intro h;refine⟨⟨λi h1 h2=>?_,λi j h1 h2 h3=>?_,λi hi=>?_⟩,by rw[c.length_eq];exact h.all⟩;.rw[aW h1 I];exact h.some _<|c.subset<|BG _
  .rw[aW h1 I,aW I I];intro e;have hd:=(c.map<|λX=>Ej p<|X.headD 0).nodup_iff.2 h.differ;unfold List.Nodup at hd;rw[H9,FT]at hd;exact hd (i-1) (j-1) I I I e
  refine h.sides _ ?_;by_cases e:i=0;.subst e;exact .inl rfl
  rw[YC I I];exact .inr ⟨_,c.subset<|BG _,rfl⟩
 rintro⟨h,s⟩;refine⟨λX o=>?_,?_,λb hb=>?_,by rw[<-c.length_eq];exact s⟩;.obtain⟨i,hi,rfl⟩:=Dy.1<|c.symm.subset o;have:=h.some (i+1) I I;rw[aW I I]at this;exact this
 .refine(c.map<|λX=>Ej p<|X.headD 0).nodup_iff.1 ?_;unfold List.Nodup;rw[H9,FT];intro i j hi C z;have:=h.differ (i+1) (j+1) I I I;rw[aW I I,aW I I]at this;exact this
 rcases hb with rfl|⟨X,o,rfl⟩;.exact h.sides 0 I
 obtain⟨i,hi,rfl⟩:=Dy.1<|c.symm.subset o;have:=h.sides (i+1) I;unfold Nw IJ at this;rw[YC I I]at this;exact this
def Ku(p:Pl):List<|Option<|List Int:=none::(BN p).map some
def PD(p:Pl):Bool:=(BN p).all (λX=>Ej p (X.headD 0)!=0)&&decide ((BN p).map<|λX=>Ej p<|X.headD 0).Nodup&&(Ku p).all (λb=>(GN p b).all λc=>c.all λd=>Ej p d==JZ p b)&&decide ((BN p).length=p.faces.length)
theorem uZ{p:Pl}:PD p=true↔Ru p:=by
 unfold PD Ku;simp only[EC,DI,KO,Dv,EP,bne_iff_ne,beq_iff_eq];constructor
 .rintro⟨⟨⟨h1,h2⟩,h3⟩,c⟩;refine⟨h1,h2,λb hb=>h3 b ?_,c⟩;rcases hb with h|⟨X,j,h⟩;.exact .inl h
  exact .inr ⟨X,j,h.symm⟩
 rintro⟨h1,h2,h3,c⟩;refine⟨⟨⟨h1,h2⟩,λb hb=>h3 b ?_⟩,c⟩;rcases hb with h|⟨X,j,h⟩;.exact .inl h
 exact .inr ⟨X,j,h.symm⟩
theorem adM{p:Pl}{O:List<|List Int}(c:O.Perm<|BN p):PD p=true↔QY p O (O.length+1)/\O.length=p.faces.length:=uZ.trans<|QY.iff c
def FQ(a b:Pt):Pt:=if b.y<a.y then b else a
def I4(a b:Pt):Pt:=if b.y<a.y then a else b
def Tz(y:Int)(a b:Pt):Int:=QL ((y-(FQ a b).y)*((I4 a b).x-(FQ a b).x))<|(I4 a b).y-(FQ a b).y
def IG(y:Int)(q:Pt×Pt):List Int:=if(FQ q.1 q.2).y<=y/\y<(I4 q.1 q.2).y then[(FQ q.1 q.2).x+Tz y q.1 q.2]else[]
def Ll(y:Int)(q:Pt×Pt):List Rn:=if y<(FQ q.1 q.2).y\/(I4 q.1 q.2).y<y then[]else if(FQ q.1 q.2).y=(I4 q.1 q.2).y then[⟨min (FQ q.1 q.2).x (I4 q.1 q.2).x,max (FQ q.1 q.2).x (I4 q.1 q.2).x+1⟩]else if Tz y q.1 q.2*((I4 q.1 q.2).y-(FQ q.1 q.2).y)=(y-(FQ q.1 q.2).y)*((I4 q.1 q.2).x-(FQ q.1 q.2).x)then[⟨(FQ q.1 q.2).x+Tz y q.1 q.2,(FQ q.1 q.2).x+Tz y q.1 q.2+1⟩]else[]
def Ju:List Int->List Rn|a::b::l=>Jq a b++Ju l|_=>[]
def Q7(ns:List Nd)(y id:Int):List Rn:=match JW ns id with|some n=>if n.pt.y=y then[⟨n.pt.x,n.pt.x+1⟩]else[]|none=>[]
def oV(a:Int):List Int->List Int|[]=>[a]|b::l=>if a<=b then a::b::l else b::oV a l
def ZY(l:List Int):List Int:=l.foldr oV []
theorem adN(a:Int):∀l,(oV a l).Perm<|a::l
 |[]=>List.Perm.refl _|b::l=>by
  unfold oV;split;.exact List.Perm.refl _
  exact((adN a l).cons b).trans<|List.Perm.swap _ _ _
theorem ajI(a:Int):∀l,l.Pairwise (·<=·)->(oV a l).Pairwise (·<=·)
 |[],_=>by unfold oV;simp|b::l,h=>by
  have j:=I8.1 h;unfold oV;split
  .rename_i e;rw[I8];refine⟨λy c=>?_,h⟩;rcases Dv.1 c with rfl|c;.exact e
   have:=j.1 y c;omega
  rename_i e;rw[I8];refine⟨λy c=>?_,ajI a l j.2⟩;rcases Dv.1<|(adN a l).subset c with rfl|c;.omega
  exact j.1 y c
theorem aBF:∀l,(ZY l).Perm l/\(ZY l).Pairwise (·<=·)|[]=>⟨List.Perm.refl _,List.Pairwise.nil⟩|a::l=>by obtain⟨h1,h2⟩:=aBF l;exact⟨(adN a _).trans<|h1.cons a,ajI a _ h2⟩
theorem atU{l m:List Int}(c:m.Perm l)(j:m.Pairwise (·<=·)):m=ZY l:=by refine nN (lt:=λa b=>decide<|a<b) (c.trans (aBF l).1.symm) (j.imp<|λh=>by simp;omega) ((aBF l).2.imp<|λh=>by simp;omega) λa _ b _ h1 h2=>?_;simp only[IL]at h1 h2;omega
theorem atV(l:List Int):Qz l=ZY l:=atU (ad8 l)<|ahw l
def atW(S:List<|Pt×Pt)(T:List Rn)(y:Int):List Rn:=Ot (Qo<|Ju<|ZY<|S.flatMap<|IG y)<|Qo<|S.flatMap (Ll y)++T
def FZ(p:Pl)(b:Option<|List Int):List<|Pt×Pt:=(GN p b).flatMap<|DV p
def VG(p:Pl)(b:Option<|List Int)(y:Int):List Rn:=(Sr p b).flatMap<|Q7 p.nodes y
def Lr(p:Pl)(b:Option<|List Int)(y:Int):List Rn:=atW (FZ p b) (VG p b y) y
def aBG(s:Int×Option Int)(x:Rn):Int×Option Int:=if s.1<x.hi-x.lo then(x.hi-x.lo,some<|(x.lo+x.hi-1)/2)else s
def Um(l:List Rn):Int×Option Int:=l.foldl aBG (0,none)
def midRow(p:Pl)(b:Option<|List Int)(y0 y1 y:Int):Option Pt:=if y<y0\/y1<y then none else(Um<|Lr p b y).2.map λx=>⟨x,y⟩
def midD(p:Pl)(b:Option<|List Int)(y0 y1 m:Int)(d:Nat):Option Pt:=(midRow p b y0 y1<|m+d).or<|midRow p b y0 y1<|m-d
def uf(p:Pl)(b:Option<|List Int)(y0 y1:Int):Option Pt:=(List.range (y1-y0+2).toNat).findSome?<|midD p b y0 y1<|(y0+y1)/2
def SY(p:Pl)(f:Int):Option<|List Int:=(BN p).find? λX=>JZ p (some X)==f
def Kv(S:List<|Pt×Pt):List Pt:=S.flatMap λq=>[q.1,q.2]
def VH(p:Pl)(f:Int):Option Pt:=match SY p f with|none=>none|some X=>uf p (some X) (NI<|Kv<|DV p X).y0 (NI<|Kv<|DV p X).y1
def Q8(b r:Rn):Rn:=if b.hi-b.lo<r.hi-r.lo then r else b
def Oh(l:List Rn):Rn:=l.foldl Q8 Pg
def Vp(s:Rn×Rn×Bool)(r:Rn):Rn:=if s.2.2=true/\s.2.1.hi=r.lo then⟨s.2.1.lo,r.hi⟩else r
def PN(s:Rn×Rn×Bool)(r:Rn):Rn×Rn×Bool:=(Q8 s.1<|Vp s r,Vp s r,true)
def Jb(l:List Rn):Rn×Rn×Bool:=l.foldl PN (Pg,Pg,false)
theorem ajJ(l:List Rn)(r:Rn):Jb (l++[r])=PN (Jb l) r:=by unfold Jb;rw[LG];rfl
theorem aBH(l:List Rn)(r:Rn):Oh (l++[r])=Q8 (Oh l) r:=by unfold Oh;rw[LG];rfl
theorem atX(l:List Rn)(r:Rn):U9 (l++[r])=U8 (U9 l) r:=by unfold U9;rw[LG];rfl
theorem atY(l:List Rn)(r:Rn):Um (l++[r])=aBG (Um l) r:=by unfold Um;rw[LG];rfl
theorem adO{P:List Rn->Prop}(h0:P [])(h1:∀l x,P l->P (l++[x])):∀l:List Rn,P l:=λl=>by
 have e:∀m:List Rn,P m.reverse:=λm=>by induction m with|nil=>exact h0|cons a m c=>rw[aa7];exact h1 _ _ c
 have:=e l.reverse;rwa[List.reverse_reverse]at this
theorem atZ:∀l:List Rn,yw l->l=[]/\U9 l=[]/\Jb l=(Pg,Pg,false)\/l≠[]/\∃m z y,U9 l=m++[z]/\Jb l=(Oh<|m++[z],z,true)/\l.getLast?=some y/\y.hi=z.hi/\z.lo<z.hi:=by
 refine adO (λ_=>.inl ⟨rfl,rfl,rfl⟩) λl r K h=>?_;have s:=QE.1 h.2;have C:=h.1 r Ak;refine .inr ⟨Ak,?_⟩;rw[atX,ajJ];unfold U8 PN;rw[AX I];rcases K ⟨λx M=>h.1 x<|O8 _ M,s.1⟩with⟨-,j,o⟩|⟨-,m,z,y,j,o,T,e5,e6⟩;.rw[j,o,AX Ak];refine⟨[],r,r,rfl,?_,Ak,rfl,C⟩;have:Vp (Pg,Pg,false) r=r:=AX Ak;rw[this];rfl
 rw[j,o,afT,aem];have hy:y.hi<=r.lo:=s.2.2 y (List.mem_of_getLast? T) r Ak;by_cases c:z.hi=r.lo
 .rw[AZ ⟨Ak,I⟩];have U:max z.hi r.hi=r.hi:=I;rw[U];have:Vp (Oh<|m++[z],z,true) r=⟨z.lo,r.hi⟩:=AZ ⟨rfl,c⟩;rw[this];refine⟨m,⟨z.lo,r.hi⟩,r,rfl,?_,Ak,rfl,by show z.lo<r.hi;omega⟩;rw[aBH,aBH];congr 1;unfold Q8;simp only;repeat' split
  all_goals first|rfl|omega
 rw[AX λe=>I];have:Vp (Oh<|m++[z],z,true) r=r:=AX λe=>c e.2;rw[this];refine⟨m++[z],r,r,rfl,?_,Ak,rfl,C⟩;rw[aBH<|m++[z]]
theorem ata{l:List Rn}(h:yw l):(Jb l).1=Oh (U9 l):=by
 rcases atZ l h with⟨-,c,j⟩|⟨-,m,z,y,c,j,-⟩;.rw[c,j];rfl
 rw[c,j]
theorem ajK:∀l:List Rn,(Um l).1=(Oh l).hi-(Oh l).lo/\0<=(Um l).1/\(Um l).2=if(Oh l).lo<(Oh l).hi then some<|((Oh l).lo+(Oh l).hi-1)/2 else none:=by
 refine adO ⟨rfl,J8 _,rfl⟩ λl r j=>?_;obtain⟨h1,h0,h2⟩:=j;rw[atY,aBH];unfold aBG Q8;by_cases c:(Oh l).hi-(Oh l).lo<r.hi-r.lo;.rw[AZ I,AZ c,AZ I];exact⟨rfl,by show 0<=r.hi-r.lo;omega,rfl⟩
 rw[AX I,AX c];exact⟨h1,h0,h2⟩
theorem atb:∀l:List Rn,(Oh l).lo<(Oh l).hi->Oh l∈l:=by
 refine adO (λh=>by cases h) λl r c h=>?_;rw[aBH]at h⊢;unfold Q8 at h⊢;split;.simp
 rename_i e;rw[AX e]at h;exact O8 _<|c h
theorem atc{l:List Rn}(h:yw l):MQ (U9 l)/\∀n,Dt (U9 l) n↔Dt l n:=by refine aDL<|aa1 (λ{a b}c hb j=>?_) h.2;have:=h.1 a c;omega
theorem atd{l:List Rn}(h:yw l){m:List Rn}(hm:MQ m)(c:∀n,Dt l n↔Dt m n):(Jb l).1=Oh m:=by obtain⟨h1,h2⟩:=atc h;rw[ata h,aaI h1 hm λn=>(h2 n).trans<|c n]
section
variable{p:Pl}(h:Valid p)
include h
theorem Valid.aEZ{a:Ar}(c:a∈p.AP){k:Nat}(hk:k<(AV p a).length):MN<|(AV p a).getD k AY:=by rw[G5,DK hk];exact h.zI c<|BG hk
theorem Valid.ajL{n:Nd}(hn:n∈p.nodes):MN n.pt:=by have c:=h.rng;unfold Ou at c;simp only[EC,KO]at c;exact ah2<|c.2 _<|O8 _<|H6 hn
end
set_option linter.unusedSectionVars false
theorem ajM{α:Type}(t:α->Int)(q:α->Bool):∀(l:List α),(∃x∈l,q x=true)->∃x∈l,q x=true/\∀y∈l,q y=true->t y<=t x
 |[],h=>by obtain⟨x,j,_⟩:=h;cases j|a::l,h=>by
  by_cases hl:∃x∈l,q x=true
  .obtain⟨x,j,h1,h2⟩:=ajM t q l hl;by_cases ha:q a=true/\t x<t a
   .refine⟨a,ED,ha.1,λy c o=>?_⟩;rcases Dv.1 c with rfl|c;.exact J8 _
    have:=h2 y c o;omega
   refine⟨x,FW _ j,h1,λy c o=>?_⟩;rcases Dv.1 c with rfl|c;.have:¬t x<t y:=λg=>ha ⟨o,g⟩;omega
   exact h2 y c o
  obtain⟨x,j,h1⟩:=h;rcases Dv.1 j with rfl|j
  .refine⟨x,ED,h1,λy c o=>?_⟩;rcases Dv.1 c with rfl|c;.exact J8 _
   exact absurd ⟨y,c,o⟩ hl
  exact absurd ⟨x,j,h1⟩ hl
theorem aBI{α:Type}{q:α->Bool}:∀{l:List α},l.Nodup->∀{x:α},x∈l->q x=true->(∀y∈l,q y=true->y=x)->(l.filter q).length=1
 |[],_,x,hx,_,_=>by cases hx|a::l,hn,x,hx,hq,hu=>by
  obtain⟨z,o⟩:=lD.1 hn;rw[ZA];by_cases c:q a=true;.have e:=hu a ED c;subst e;rw[AZ c,aa2.2 λy j s=>z<|by rw[<-hu y (FW _ j) s];exact j];rfl
  rw[AX c];rcases Dv.1 hx with rfl|hx;.exact absurd hq c
  exact aBI o hx hq λy j=>hu y<|FW _ j
theorem aEa{α:Type}{q:α->Bool}{l:List α}(h:∀y∈l,q y=true->False):(l.filter q).length=0:=by rw[aa2.2 λy c j=>h y c j];rfl
section
variable{α:Type}{O:List α}(hn:O.Nodup){E:α->Bool}{ar:α->Int}{A:α->α->Bool}(h1:∀Y∈O,∀Z∈O,E Y=true->E Z=true->Y≠Z->A Z Y=true\/A Y Z=true)(h2:∀Y∈O,∀Z∈O,A Z Y=true->ar Y<ar Z)(h3:∀Y∈O,∀Z∈O,A Z Y=true->E Y=true->E Z=true)
include hn h1 h2 h3
theorem asa[DecidableEq α]{X:α}(j:X∈O):((O.filter<|λY=>E Y&&decide (Hy (λZ=>A Z Y) ar O=some X)).length:Int)=(if E X=true then 1 else 0)-if Hy E ar O=some X then 1 else 0:=by
 by_cases eX:E X=true
 .rw[AZ eX];by_cases eb:Hy E ar O=some X
  .rw[AZ eb,aEa];.rfl
   intro Y F s;rw[EC,DI]at s;obtain⟨-,K,-⟩:=ZT _ _ s.2;obtain⟨-,-,M⟩:=ZT _ _ eb;have:=M Y F s.1;have:=h2 Y F X j K;omega
  rw[AX eb];obtain⟨z,c,C,U⟩:=ajM ar (λY=>E Y&&decide (ar Y<ar X)) O (by have:=aEH E ar O;cases e:Hy E ar O with|none=>rw[e]at this;have:=this X j;rw[eX]at this;cases this|some W=>
    rw[e]at this;obtain⟨w1,w2,T⟩:=this;have o:W≠X:=λg=>eb (by rw[e,g]);refine⟨W,w1,?_⟩;rw[EC,DI];refine⟨w2,?_⟩;have:=T X j eX;rcases h1 W w1 X j w2 eX o with g|g;.exact h2 W w1 X j g
    .have:=h2 X j W w1 g;omega);rw[EC,DI]at C;have aX:A X z=true:=by
   rcases h1 z c X j C.1 eX λg=>by rw[g]at C;omega with g|g;.exact g
   have:=h2 X j z c g;omega
  rw[aBI hn c];.rfl
  .rw[EC,DI];refine⟨C.1,?_⟩;have:=aEH (λZ=>A Z z) ar O;cases e:Hy (λZ=>A Z z) ar O with|none=>rw[e]at this;have:=this X j;rw[aX]at this;cases this|some W=>
    rw[e]at this;obtain⟨w1,w2,T⟩:=this;have g1:=T X j aX;have eW:=h3 z c W w1 w2 C.1;have g2:=h2 z c W w1 w2;by_cases o:W=X;.rw[o]
    .have g3:ar W<ar X:=by
      rcases h1 W w1 X j eW eX o with g|g;.exact h2 W w1 X j g
      have:=h2 X j W w1 g;omega
     have:=U W w1 (by rw[EC,DI];exact⟨eW,g3⟩);omega
  intro Y F s;rw[EC,DI]at s;obtain⟨-,K,M⟩:=ZT _ _ s.2;have g1:=h2 Y F X j K;have g2:=U Y F (by rw[EC,DI];exact⟨s.1,g1⟩);by_cases o:Y=z;.exact o
  exfalso;rcases h1 Y F z c s.1 C.1 o with g|g;.have:=M z c g;omega
  have:=h2 z c Y F g;omega
 rw[AX eX,AX λg=>eX (ZT _ _ g).2.1,aEa];.rfl
 intro Y F s;rw[EC,DI]at s;obtain⟨-,K,-⟩:=ZT _ _ s.2;exact eX<|h3 Y F X j K s.1
end
set_option linter.unusedSectionVars false
def Oi(p:Pl)(Z Y:List Int):Bool:=decide (BU p p.AP.length (Z.headD 0)≠BU p p.AP.length (Y.headD 0))&&decide (Hz p (BK Z) (Y.headD 0)=1)
def HW(p:Pl)(z:Int->Int):Prop:=∀a∈p.AP,z a.id≠0->Hz p z (-a.id)=0/\Hz p z a.id=1\/Hz p z (-a.id)=1/\Hz p z a.id=0
section
variable{p:Pl}(h:Valid p)
include h
theorem Valid.aEb{X Y:List Int}(U:X∈BN p)(Ea:Y∈BN p)(ZR:X≠Y):HW p (λi=>BK X i+BK Y i)/\Oi p X Y=false/\Oi p Y X=false\/HW p (λi=>BK X i+-BK Y i)/\EI p Y<EI p X/\Oi p X Y=true/\Oi p Y X=false\/HW p (λi=>BK Y i+-BK X i)/\EI p X<EI p Y/\Oi p Y X=true/\Oi p X Y=false:=by
 obtain⟨U,WZ⟩:=Gl.1 U;obtain⟨Ea,Wh⟩:=Gl.1 Ea;obtain⟨x,hxd,-,ex,hx⟩:=h.Tc U;obtain⟨y,um,-,ey,hy⟩:=h.Tc Ea;unfold Oi;rw[ex,ey];have zX:=h.Px U;have zY:=h.Px Ea;have both:∀d,¬(d∈X/\d∈Y):=λd hd=>ZR<|h.lQ U Ea hd.1 hd.2;have C:∀a∈p.AP,a.id∈BZ p/\-a.id∈BZ p:=λa o=>⟨Ij.2 ⟨a,o,.inl rfl⟩,Ij.2 ⟨a,o,.inr rfl⟩⟩;have sup:∀a∈p.AP,BK X a.id≠0\/BK Y a.id≠0->BU p p.AP.length a.id=BU p p.AP.length x/\BU p p.AP.length (-a.id)=BU p p.AP.length x\/BU p p.AP.length a.id=BU p p.AP.length y/\BU p p.AP.length (-a.id)=BU p p.AP.length y:=by
  intro a o s;by_cases c:BK X a.id=0;.exact .inr<|h.bJ Ea hy o<|s.resolve_left<|λg=>g c
  exact .inl<|h.bJ U hx o c
 have M:∀a∈p.AP,Hz p (BK X) a.id-Hz p (BK X) (-a.id)=BK X a.id/\Hz p (BK Y) a.id-Hz p (BK Y) (-a.id)=BK Y a.id:=λa o=>⟨h.VO zX o,h.VO zY o⟩;have K:∀(P:Prop)[Decidable P],(if P then(1:Int)else 0)=0\/(if P then(1:Int)else 0)=1:=λP _=>by split<;>simp
 by_cases hc:BU p p.AP.length x=BU p p.AP.length y
 .refine .inl ⟨λa o s=>?_,by simp[hc],by simp[hc]⟩;rw[h.OM,h.OM];have T:BK X a.id+BK Y a.id≠0:=s;have hs:BU p p.AP.length a.id=BU p p.AP.length x/\BU p p.AP.length (-a.id)=BU p p.AP.length x:=by
   rcases sup a o I with g|g;.exact g
   rw[hc];exact g
  have j:=M a o;have a1:=h.Qw U WZ hx (C a o).1 hs.1;have a2:=h.Qw U WZ hx (C a o).2 hs.2;have a3:=h.Qw Ea Wh hy (C a o).1<|hs.1.trans hc;have a4:=h.Qw Ea Wh hy (C a o).2<|hs.2.trans hc;have b1:=both a.id;have b2:=both<|-a.id;have t1:Hz p (BK X) a.id+Hz p (BK Y) a.id=0\/Hz p (BK X) a.id+Hz p (BK Y) a.id=1:=by rw[a1,a3];by_cases c1:a.id∈X<;>by_cases c2:a.id∈Y<;>simp only[c1,c2,if_true,if_false]at b1⊢<;>simp at b1⊢
  have t2:Hz p (BK X) (-a.id)+Hz p (BK Y) (-a.id)=0\/Hz p (BK X) (-a.id)+Hz p (BK Y) (-a.id)=1:=by rw[a2,a4];by_cases c1:-a.id∈X<;>by_cases c2:-a.id∈Y<;>simp only[c1,c2,if_true,if_false]at b2⊢<;>simp at b2⊢
  omega
 obtain⟨α01,αc⟩:=h.lU U WZ hx um λe=>hc e.symm;obtain⟨β01,βc⟩:=h.lU Ea Wh hy hxd hc;have OO:∀d∈BZ p,BU p p.AP.length d=BU p p.AP.length x->Hz p (BK X) d=(if d∈X then 1 else 0)/\Hz p (BK Y) d=Hz p (BK Y) x:=λd hd hs=>⟨h.Qw U WZ hx hd hs,βc d hd hs⟩;have Py:∀d∈BZ p,BU p p.AP.length d=BU p p.AP.length y->Hz p (BK Y) d=(if d∈Y then 1 else 0)/\Hz p (BK X) d=Hz p (BK X) y:=λd hd hs=>⟨h.Qw Ea Wh hy hd hs,αc d hd hs⟩;have r1:decide (BU p p.AP.length x≠BU p p.AP.length y)=true:=by simpa using hc
 have r2:decide (BU p p.AP.length y≠BU p p.AP.length x)=true:=by simpa usingλe=>hc<|Eq.symm e
 rw[r1,r2,Z8,Z8];generalize Hz p (BK X) y=α at*;generalize Hz p (BK Y) x=β at*;rcases α01 with α0|α1<;>rcases β01 with β0|β1
 .refine .inl ⟨λa o s=>?_,by simp[α0],by simp[β0]⟩;rw[h.OM,h.OM];have T:BK X a.id+BK Y a.id≠0:=s;have j:=M a o;rcases sup a o I with g|g;.obtain⟨e1,e2⟩:=OO _ (C a o).1 g.1;obtain⟨e3,e4⟩:=OO _ (C a o).2 g.2;have i1:=K<|a.id∈X;have i2:=K<|-a.id∈X;omega
  obtain⟨e1,e2⟩:=Py _ (C a o).1 g.1;obtain⟨e3,e4⟩:=Py _ (C a o).2 g.2;have i1:=K<|a.id∈Y;have i2:=K<|-a.id∈Y;omega
 .have hw:HW p λi=>BK Y i+-BK X i:=λa o s=>by
   rw[h.OM,h.OM,h.bK,h.bK];have T:BK Y a.id+-BK X a.id≠0:=s;have j:=M a o;rcases sup a o I with g|g;.obtain⟨e1,e2⟩:=OO _ (C a o).1 g.1;obtain⟨e3,e4⟩:=OO _ (C a o).2 g.2;have i1:=K<|a.id∈X;have i2:=K<|-a.id∈X;omega
   obtain⟨e1,e2⟩:=Py _ (C a o).1 g.1;obtain⟨e3,e4⟩:=Py _ (C a o).2 g.2;have i1:=K<|a.id∈Y;have i2:=K<|-a.id∈Y;omega
  refine .inr<|.inr ⟨hw,?_,by simp[β1],by simp[α0]⟩;have hp:=(h.zL (zY.add zX.neg) hw).2 (Iq λhno=>by have:=h.aAm (z:=λi=>BK Y i+-BK X i) (λa o=>Iq λe=>hno ⟨a,o,e⟩) y;obtain⟨e1,e2⟩:=Py y um rfl;rw[h.OM,h.bK,e1,e2,AZ hy]at this;omega);rw[jG,jF,<-h.lT U,<-h.lT Ea]at hp;omega
 .have hw:HW p λi=>BK X i+-BK Y i:=λa o s=>by
   rw[h.OM,h.OM,h.bK,h.bK];have T:BK X a.id+-BK Y a.id≠0:=s;have j:=M a o;rcases sup a o I with g|g;.obtain⟨e1,e2⟩:=OO _ (C a o).1 g.1;obtain⟨e3,e4⟩:=OO _ (C a o).2 g.2;have i1:=K<|a.id∈X;have i2:=K<|-a.id∈X;omega
   obtain⟨e1,e2⟩:=Py _ (C a o).1 g.1;obtain⟨e3,e4⟩:=Py _ (C a o).2 g.2;have i1:=K<|a.id∈Y;have i2:=K<|-a.id∈Y;omega
  refine .inr<|.inl ⟨hw,?_,by simp[α1],by simp[β0]⟩;have hp:=(h.zL (zX.add zY.neg) hw).2 (Iq λhno=>by have:=h.aAm (z:=λi=>BK X i+-BK Y i) (λa o=>Iq λe=>hno ⟨a,o,e⟩) x;obtain⟨e1,e2⟩:=OO x hxd rfl;rw[h.OM,h.bK,e1,e2,AZ hx]at this;omega);rw[jG,jF,<-h.lT U,<-h.lT Ea]at hp;omega
 exfalso;obtain⟨a,o,s,hor⟩:=h.agd (zX.add zY) (Iq λhno=>by have:=h.aAm (z:=λi=>BK X i+BK Y i) (λa o=>Iq λe=>hno ⟨a,o,e⟩) x;rw[h.OM]at this;obtain⟨e1,e2⟩:=OO x hxd rfl;have i1:=K<|x∈X;omega);have T:BK X a.id+BK Y a.id≠0:=s;rw[h.OM,h.OM]at hor;rcases sup a o I with g|g;.obtain⟨e1,e2⟩:=OO _ (C a o).1 g.1;obtain⟨e3,e4⟩:=OO _ (C a o).2 g.2;have i1:=K<|a.id∈X;have i2:=K<|-a.id∈X;omega
 obtain⟨e1,e2⟩:=Py _ (C a o).1 g.1;obtain⟨e3,e4⟩:=Py _ (C a o).2 g.2;have i1:=K<|a.id∈Y;have i2:=K<|-a.id∈Y;omega
theorem Valid.asb{X Y:List Int}(j:X∈BN p)(o:Y∈BN p)(c:Oi p X Y=true):EI p Y<EI p X:=by
 by_cases ZR:X=Y;.subst ZR;unfold Oi at c;simp at c
 rcases h.aEb j o ZR with⟨-,g,-⟩|⟨-,g,-⟩|⟨-,-,-,g⟩;.rw[g]at c;cases c
 .exact g
 rw[g]at c;cases c
end
structure Place(p:Pl)(φ:(Int->Int)->Int)(off:(Int->Int)->Prop):Prop where
 add:∀z u,φ (λi=>z i+u i)=φ z+φ u
 neg:∀z,φ (λi=>-z i)=-φ z
 adP:∀z u,(∀a∈p.AP,z a.id=u a.id)->φ z=φ u
 aE2:∀z u,off z->off u->off (λi=>z i+u i)acS:∀z,off z->off (λi=>-z i)aBJ:∀z,G8 p z->HW p z->off z->φ z=0\/φ z=1
section
variable{p:Pl}(h:Valid p){φ:(Int->Int)->Int}{off:(Int->Int)->Prop}(hφ:Place p φ off)(ho:∀X∈BN p,off<|BK X)
include h hφ ho
theorem Place.ajN{X:List Int}(c:X∈BN p):φ (BK X)=0\/φ (BK X)=1:=by obtain⟨h1,h2⟩:=Gl.1 c;exact hφ.aBJ _ (h.Px h1) (h.abn h1 h2)<|ho X c
theorem Place.two{X Y:List Int}(c:X∈BN p)(j:Y∈BN p)(o:X≠Y)(s:φ (BK X)=1)(z:φ (BK Y)=1):Oi p Y X=true\/Oi p X Y=true:=by
 rcases h.aEb c j o with⟨g,-⟩|⟨-,-,g,-⟩|⟨-,-,g,-⟩;.have:=hφ.aBJ _ ((h.Px (Gl.1 c).1).add<|h.Px (Gl.1 j).1) g<|hφ.aE2 _ _ (ho X c)<|ho Y j;rw[hφ.add,s,z]at this;omega
 .exact .inr g
 exact .inl g
theorem Place.up{X Y:List Int}(o:X∈BN p)(j:Y∈BN p)(c:Oi p Y X=true)(s:φ (BK X)=1):φ (BK Y)=1:=by
 have z:X≠Y:=by rintro rfl;unfold Oi at c;simp at c
 have C:=Place.ajN h hφ ho j;rcases h.aEb o j z with⟨-,-,g⟩|⟨-,-,-,g⟩|⟨g,-⟩;.rw[g]at c;cases c
 .rw[g]at c;cases c
 have:=hφ.aBJ _ ((h.Px (Gl.1 j).1).add (h.Px (Gl.1 o).1).neg) g<|hφ.aE2 _ _ (ho Y j)<|hφ.acS _<|ho X o;rw[hφ.add,hφ.neg,s]at this;omega
end
set_option linter.unusedSectionVars false
def Ny(L:List<|List Int)(i:Int):Int:=(L.map λc=>BK c i).sum
theorem Place.zero{p:Pl}{φ:(Int->Int)->Int}{off:(Int->Int)->Prop}(hφ:Place p φ off){z:Int->Int}(h:∀a∈p.AP,z a.id=0):φ z=0:=by have e:=hφ.add z z;have j:=hφ.adP (λi=>z i+z i) z (λa c=>by rw[h a c];rfl);omega
theorem Place.sum{p:Pl}{φ:(Int->Int)->Int}{off:(Int->Int)->Prop}(hφ:Place p φ off):∀L:List<|List Int,φ (Ny L)=(L.map λc=>φ<|BK c).sum|[]=>hφ.zero λa _=>rfl|c::L=>by rw[FB,H8,<-Place.sum hφ L,<-hφ.add];rfl
theorem aE3(l:List<|List Int)(q:List Int->Bool)(j:List Int->Int):((l.filter q).map j).sum=(l.map λc=>if q c=true then j c else 0).sum:=by induction l with|nil=>rfl|cons c l o=>
  rw[ZA,FB,H8];by_cases e:q c=true;.rw[AZ e,AZ e,FB,H8,o]
  .rw[AX e,AX e,o];omega
theorem acT(l:List<|List Int)(q:List Int->Bool):(l.map λc=>if q c=true then(1:Int)else 0).sum=((l.filter q).length:Int):=by induction l with|nil=>rfl|cons c l j=>
  rw[ZA,FB,H8,j];by_cases e:q c=true;.rw[AZ e,AZ e,Gy];omega
  .rw[AX e,AX e];omega
def Gq(p:Pl)(c:List Int):Int:=BU p p.AP.length<|c.headD 0
section
variable{p:Pl}(h:Valid p)
include h
theorem Valid.U0{X:List Int}(c:X∈CV p):X.headD 0∈X:=by obtain⟨x,-,-,ex,j⟩:=h.Tc c;rw[ex];exact j
theorem Valid.acU{X:List Int}(c:X∈CV p){d:Int}(hd:d∈X):Gq p X=BU p p.AP.length d:=h.VR c (h.U0 c) hd
theorem Valid.asc(s:Int){a:Ar}(M:a∈p.AP):Ny ((CV p).filter λc=>decide<|Gq p c=s) a.id=0:=by
 have one:∀d∈BZ p,(((CV p).filter λc=>decide<|Gq p c=s).map λc=>if d∈c then(1:Int)else 0).sum=if BU p p.AP.length d=s then 1 else 0:=by
  intro d hd;obtain⟨c,K,j,-⟩:=h.tH hd;have e:(((CV p).filter λc=>decide<|Gq p c=s).map λc=>if d∈c then(1:Int)else 0)=((CV p).filter λc=>decide<|Gq p c=s).map λc=>if decide (d∈c)=true then(1:Int)else 0:=by congr 1;funext c;simp
  rw[e,acT];by_cases g:BU p p.AP.length d=s
  .rw[AZ g,aBI (h.aEV.filter _) (x:=c)];.rfl
   .rw[Nc,DI,h.acU K j];exact⟨K,g⟩
   .simpa using j
   intro y C o;exact h.lQ (Nc.1 C).1 K (by simpa using o) j
  rw[AX g,aEa];.rfl
  intro y C o;rw[Nc,DI]at C;rw[h.acU C.1<|by simpa using o]at C;exact g C.2
 have z:a.id∈BZ p:=Ij.2 ⟨a,M,.inl rfl⟩;have e:Ny ((CV p).filter λc=>decide<|Gq p c=s) a.id=(((CV p).filter λc=>decide<|Gq p c=s).map λc=>if a.id∈c then(1:Int)else 0).sum-(((CV p).filter λc=>decide<|Gq p c=s).map λc=>if-a.id∈c then(1:Int)else 0).sum:=by unfold Ny BK;have:=RV ((CV p).filter λc=>decide<|Gq p c=s) (λc=>if a.id∈c then(1:Int)else 0) λc=>-if-a.id∈c then(1:Int)else 0;rw[TY]at this;simp only[<-aCY]at this;exact this
 rw[e,one _ z,one _<|WW z,h.VP z];omega
theorem Valid.ajO{r:Int}(U:r∈BZ p):∃c∈Gj p,Gq p c=BU p p.AP.length r/\∀X∈CV p,Gq p X=BU p p.AP.length r->X≠c->X∈BN p:=by
 obtain⟨d0,M,g2,g3⟩:=h.agW U;obtain⟨c,K,j,-⟩:=h.tH M;have C:∀X∈CV p,Gq p X=BU p p.AP.length r->(0<EI p X↔d0∉X):=λX s e=>by have hh:=h.U0 s;have e':BU p p.AP.length (X.headD 0)=BU p p.AP.length r:=e;exact h.agX s hh M (by rw[g2,e']) λz hz hs=>g3 z hz λa ha o=>by rw[hs a ha o,e']
 have T:Gq p c=BU p p.AP.length r:=by rw[h.acU K j,g2]
 refine⟨c,VT.2 ⟨K,λhp=>((C c K T).1 hp) j⟩,T,λX s e o=>Gl.2 ⟨s,(C X s e).2 λhd=>o<|h.lQ s K hd j⟩⟩
theorem Valid.acV{X:List Int}(s:X∈CV p):∃a∈p.AP,(X.headD 0=a.id\/X.headD 0=-a.id)/\MZ p X=(AV p a).getD 0 AY/\BU p p.AP.length a.id=Gq p X:=by
 have hd:=(h.Fv s).2 _<|h.U0 s;obtain⟨a,z,c,j⟩:=h.Ug hd;refine⟨a,z,c,by unfold MZ;rw[j],?_⟩;have o:a.id∈BZ p:=Ij.2 ⟨a,z,.inl rfl⟩;unfold Gq;rcases c with e|e;.rw[e]
 rw[e,h.VP o]
theorem Valid.ajP{X Y:List Int}(c:X∈CV p)(j:Y∈CV p)(e:Gq p X=Gq p Y):F8 p (MZ p X)=F8 p (MZ p Y):=by obtain⟨a,o,-,s,z⟩:=h.acV c;obtain⟨b,hb,-,C,K⟩:=h.acV j;rw[s,C];have M:=En p a;have T:=En p b;exact h.aiA o hb (by rw[z,K,e]) I I
theorem Valid.ase{Z Y:List Int}(z:Z∈BN p)(T:Y∈CV p):encS p Z (MZ p Y)=Oi p Z Y:=by
 obtain⟨a,o,s,U,C⟩:=h.acV T;have j:=Gl.1 z;have la:=En p a;have hk:0<(AV p a).length:=I;have K:=h.U0 j.1;rw[U];unfold Oi;by_cases c:BU p p.AP.length (Z.headD 0)=BU p p.AP.length (Y.headD 0);.rw[h.abt z K o (by rw[C,c];rfl) hk];rw[GX<|by simpa using c];rfl
 have hs:BU p p.AP.length a.id≠BU p p.AP.length (Z.headD 0):=λg=>c (by rw[<-g,C];rfl);have M:=h.abr j.1 K o hs hk;obtain⟨w1,w2⟩:=h.uq (h.Px j.1) o hk<|h.uo (h.DW o hk) M;rw[KQ,h.lV j.1 j.2<|h.DW o hk,w1];have e3:Hz p (BK Z) a.id=Hz p (BK Z) (Y.headD 0):=by
  rcases s with e|e;.rw[e]
  rw[e,w2]
 rw[e3,Ia<|show BU p p.AP.length (Z.headD 0)≠BU p p.AP.length (Y.headD 0)from c,Z8,DI];exact⟨λg=>g.2,λg=>⟨M,g⟩⟩
theorem Valid.ajQ{Y:List Int}(c:Y∈CV p):F8 p (MZ p Y)=Hy (λZ=>Oi p Z Y) (EI p) (BN p):=aET λZ j=>⟨h.ase j c,rfl⟩
end
section
variable{p:Pl}(h:Valid p){φ:(Int->Int)->Int}{off:(Int->Int)->Prop}(hφ:Place p φ off)(ho:∀X∈BN p,off<|BK X)
include h hφ
theorem Place.inner{c:List Int}(C:c∈Gj p):φ (BK c)=-((BN p).map λY=>if Gq p Y=Gq p c then φ<|BK Y else 0).sum:=by
 obtain⟨j,o⟩:=VT.1 C;have s:=(h.Fv j).2 _<|h.U0 j;obtain⟨U,hc0,e0,K⟩:=h.ajO s;have z:c=U:=Iq λg=>o (Gl.1<|K c j rfl g).2;subst z;have M:=hφ.sum<|(CV p).filter λX=>decide<|Gq p X=Gq p c;rw[hφ.zero λa ha=>h.asc (Gq p c) ha,aE3]at M;have e:((CV p).map λX=>if decide (Gq p X=Gq p c)=true then φ<|BK X else 0).sum=((BN p).map λX=>if Gq p X=Gq p c then φ<|BK X else 0).sum+((Gj p).map λX=>if Gq p X=Gq p c then φ<|BK X else 0).sum:=by unfold BN Gj;rw[aE3,aE3,<-RV];refine GK _ _ _ λX T=>?_;by_cases g:0<EI p X<;>simp[g]
 have e2:((Gj p).map λX=>if Gq p X=Gq p c then φ<|BK X else 0).sum=φ (BK c):=by
  have:∀X∈Gj p,(if Gq p X=Gq p c then φ<|BK X else 0)=if decide (X=c)=true then φ<|BK c else 0:=λX T=>by
   by_cases g:X=c;.subst g;simp
   have h1:=VT.1 T;have n1:¬Gq p X=Gq p c:=λe=>h1.2 (Gl.1<|K X h1.1 e g).2;rw[AX n1,AX<|by simpa using g]
  rw[GK _ _ _ this,<-aE3];have hf:((Gj p).filter λX=>decide<|X=c).length=1:=aBI (h.aEV.filter _) C Ak (λy _ hy=>by simpa using hy);match hm:(Gj p).filter λX=>decide<|X=c,hf with|[Z],_=>simp
 rw[e,e2]at M;omega
theorem Place.region(b:Option<|List Int):φ (Ny<|Mc p b)=-((BN p).map λY=>if F8 p (MZ p Y)=b then φ<|BK Y else 0).sum:=by
 rw[hφ.sum];have M:((Mc p b).map λc=>φ<|BK c)=(Mc p b).map λc=>-((BN p).map λY=>if Gq p Y=Gq p c then φ<|BK Y else 0).sum:=by refine yD λc j=>?_;exact Place.inner h hφ (Nc.1 j).1
 rw[M,TY,ac9];congr 1;refine GK _ _ _ λY F=>?_;have C:=Gl.1 F;obtain⟨T,o,K,U⟩:=h.ajO<|(h.Fv C.1).2 _<|h.U0 C.1;have s:=VT.1 o;have hh:=h.ajP s.1 C.1 K;have e2:((Mc p b).map λc=>if Gq p Y=Gq p c then φ<|BK Y else 0)=(Mc p b).map λc=>φ (BK Y)*if decide (Gq p Y=Gq p c)=true then 1 else 0:=by refine yD λc _=>?_;by_cases g:Gq p Y=Gq p c<;>simp[g]
 rw[e2,Zz,acT];by_cases g:F8 p (MZ p Y)=b
 .rw[AZ g,aBI (l:=Mc p b) ((h.aEV.filter _).filter _) (x:=T)];.simp
  .unfold Mc;rw[Nc,DI];exact⟨o,by rw[hh];exact g⟩
  .rw[DI];exact K.symm
  intro c j z;rw[DI]at z;have h1:=VT.1 (Nc.1 j).1;exact Iq λg=>h1.2 (Gl.1<|U c h1.1 z.symm g).2
 rw[AX g,aEa];.simp
 intro c j z;rw[DI]at z;unfold Mc at j;rw[Nc,DI]at j;have h1:=VT.1 j.1;exact g<|by rw[<-j.2];exact h.ajP C.1 h1.1 z
include ho
theorem Place.home{X:List Int}(M:X∈BN p):φ (Ny<|GN p<|some X)=if Hy (λY=>decide<|φ (BK Y)=1) (EI p) (BN p)=some X then 1 else 0:=by
 have hn:(BN p).Nodup:=h.aEX;have s:φ (Ny<|GN p<|some X)=φ (BK X)+φ (Ny<|Mc p<|some X):=by rw[<-hφ.add];rfl
 have j:=λY F=>Place.ajN h hφ ho (X:=Y) F;have cs:=asa hn (E:=λY=>decide<|φ (BK Y)=1) (ar:=EI p) (A:=Oi p)
  λY F Z o s z C=>by
   rcases Place.two h hφ ho F o C (by simpa using s)<|by simpa using z with g|g;.exact .inl g
   exact .inr g
  (λY F Z o g=>h.asb o F g)
  (λY F Z o g e=>by have:=Place.up h hφ ho F o g (by simpa using e);simpa using this) M;rw[s,Place.region h hφ];have z:((BN p).map λY=>if F8 p (MZ p Y)=some X then φ<|BK Y else 0).sum=(((BN p).filter λY=>decide (φ (BK Y)=1)&&decide (Hy (λZ=>Oi p Z Y) (EI p) (BN p)=some X)).length:Int):=by
  rw[<-acT];refine GK _ _ _ λY F=>?_;rw[h.ajQ (Gl.1 F).1];by_cases g:Hy (λZ=>Oi p Z Y) (EI p) (BN p)=some X
  .rw[AZ g,Ia g,aCN];rcases j Y F with e|e;.rw[e];rfl
   rw[e];rfl
  rw[AX g,GX g,Bool.and_false];rfl
 rw[z,cs];have K:∀c b:Int,c=0\/c=1->c+-((if decide (c=1)=true then 1 else 0)-b)=b:=by intro c b T;rcases T with rfl|rfl<;>simp<;>omega
 exact K _ _<|j X M
end
set_option linter.unusedSectionVars false
theorem ajR{p:Pl}{z u:Int->Int}(f:Pt->Pt->Int)(h:∀a∈p.AP,z a.id=u a.id):Dj p z f=Dj p u f:=by unfold Dj;exact GK _ _ _ λa c=>by rw[h a c]
section
variable{p:Pl}(h:Valid p)
include h
theorem Valid.asf{v:Pt}(C:Bl v=true):Place p (λz=>Nu p z v) λz=>Tf p z v where
 add z u:=jG p z u _
 neg z:=jF p z _
 adP z u e:=ajR _ e
 aE2 z u hz hu:=λa s j k hk=>by
  have o:z a.id+u a.id≠0:=j;by_cases c:z a.id=0;.exact hu a s I k hk
  exact hz a s c k hk
 acS z hz:=λa s j k hk=>by have o:-z a.id≠0:=j;exact hz a s I k hk
 aBJ z hz hw ho:=h.abm hz hw C ho
theorem Valid.asg{d:Int}(hd:d∈BZ p):Place p (λz=>Hz p z d) λ_=>True where
 add z u:=jG p z u _
 neg z:=jF p z _
 adP z u e:=ajR _ e
 aE2 _ _ _ _:=trivial
 acS _ _:=trivial
 aBJ z hz hw _:=h.agc hz hw hd
theorem Valid.ajS{v:Pt}(o:Bl v=true)(c:∀a∈p.AP,∀k,k+1<(AV p a).length->¬Hw ((AV p a).getD k AY) ((AV p a).getD (k+1) AY) v){X:List Int}(z:X∈BN p):Nu p (Ny<|GN p<|some X) v=if F8 p v=some X then 1 else 0:=by
 have t:=Place.home h (h.asf o) (λY F a j _ k hk=>c a j k hk) z;have e:Hy (λY=>decide<|Nu p (BK Y) v=1) (EI p) (BN p)=F8 p v:=by unfold F8;refine aET λY F=>⟨?_,rfl⟩;have s:=Gl.1 F;rw[KQ,DI,h.lV s.1 s.2 o];refine⟨λg=>⟨λq C=>?_,g⟩,λg=>g.2⟩;obtain⟨a,j,-,k,hk,rfl⟩:=h.aAn (h.Fv s.1).2 C;rw[<-Je,bM (h.DW j I) (h.DW j hk) o];exact c a j k hk
 rw[e]at t;exact t
theorem Valid.ash{X:List Int}(hX:X∈BN p){d:Int}(hd:d∈BZ p)(T:∀c∈GN p<|some X,d∉c):Hz p (Ny<|GN p<|some X) d=0:=by
 have hφ:=h.asg hd;have t:=Place.home h hφ (λY F=>trivial) hX;rw[AX]at t;.exact t
 intro hb;obtain⟨-,eX,o⟩:=ZT _ _ hb;simp only[DI]at eX o;obtain⟨W,j,M,-⟩:=h.tH hd;have s:=Gl.1 hX;by_cases uK:W∈BN p
 .have U:=Gl.1 uK;by_cases hXW:X=W;.subst hXW;exact T X (by unfold GN;exact ED) M
  have z:BU p p.AP.length d=BU p p.AP.length (W.headD 0):=h.VR j M<|h.U0 j;have eW:Hz p (BK W) d=1:=by rw[h.Qw U.1 U.2 (h.U0 j) hd z,AZ M]
  have hle:=o W uK eW;rcases h.aEb uK hX λe=>hXW e.symm with⟨-,C,g2⟩|⟨-,-,C,g2⟩|⟨-,C,-⟩
  .rcases Place.two h hφ (λY F=>trivial) uK hX (λe=>hXW e.symm) eW eX with g|g;.rw[g2]at g;cases g
   rw[C]at g;cases g
  .unfold Oi at C g2;rw[EC,DI]at C;have hs:BU p p.AP.length d≠BU p p.AP.length (X.headD 0):=by rw[z];exact C.1
   have:=(h.lU s.1 s.2 (h.U0 s.1) hd hs).2 (W.headD 0) ((h.Fv j).2 _<|h.U0 j) z.symm;rw[eX]at this;rw[yE]at g2;rcases g2 with g2|g2;.rw[IL]at g2;exact g2 λe=>C.1 e.symm
   rw[IL]at g2;exact g2 this
  omega
 have hWr:W∈Gj p:=VT.2 ⟨j,λg=>uK<|Gl.2 ⟨j,g⟩⟩;have z:BU p p.AP.length d=BU p p.AP.length (W.headD 0):=h.VR j M<|h.U0 j;have e:Hy (λY=>decide<|Hz p (BK Y) d=1) (EI p) (BN p)=F8 p (MZ p W):=by
  rw[h.ajQ j];refine aET λY F=>⟨?_,rfl⟩;have K:=Gl.1 F;unfold Oi;by_cases c:BU p p.AP.length (Y.headD 0)=BU p p.AP.length (W.headD 0);.have hdY:d∉Y:=λg=>uK (by rw[h.lQ j K.1 M g];exact F);rw[h.Qw K.1 K.2 (h.U0 K.1) hd<|by rw[z,c],AX hdY,GX<|show¬BU p p.AP.length (Y.headD 0)≠BU p p.AP.length (W.headD 0)fromλg=>g c];rfl
  have:=(h.lU K.1 K.2 (h.U0 K.1) hd<|by rw[z];exactλe=>c e.symm).2 (W.headD 0) ((h.Fv j).2 _<|h.U0 j) z.symm;rw[this,Ia<|show BU p p.AP.length (Y.headD 0)≠BU p p.AP.length (W.headD 0)from c,Z8]
 have hb':Hy (λY=>decide<|Hz p (BK Y) d=1) (EI p) (BN p)=some X:=hb;rw[e]at hb';exact T W (by unfold GN Mc;exact FW _<|Nc.2 ⟨hWr,by simpa using hb'⟩) M
theorem Valid.asi{z:Int->Int}(C:G8 p z){a:Ar}(o:a∈p.AP){k:Nat}(hk:k+1<(AV p a).length){v:Pt}(K:Bl v=true)(s:Hw ((AV p a).getD k AY) ((AV p a).getD (k+1) AY) v)(j:Tf p z v):Nu p z v=Hz p z a.id:=by
 have hza:z a.id=0:=Iq λe=>j a o e k hk s;have hp:=h.VO C o;have U:=h.DW o (k:=k) I;have nb:=h.DW o hk;by_cases e1:(AV p a).getD k AY=v;.have:=(h.uq C o (k:=k) I<|by rw[e1];exact j).1;rwa[e1]at this
 by_cases e2:(AV p a).getD (k+1) AY=v;.have:=(h.uq C o hk<|by rw[e2];exact j).1;rwa[e2]at this
 obtain⟨D,hD,hd⟩:=h.aAl;have M:=(h.distinct o hk).1;have n1:F ((AV p a).getD k AY)≠F v:=λe=>e1<|ML U K e;have n2:F ((AV p a).getD (k+1) AY)≠F v:=λe=>e2<|ML nb K e;have n3:F ((AV p a).getD k AY)≠F ((AV p a).getD (k+1) AY):=λe=>M<|ML U nb e;have hs:2*F ((AV p a).getD k AY)<2*F v/\2*F v<2*F ((AV p a).getD (k+1) AY)\/2*F ((AV p a).getD (k+1) AY)<2*F v/\2*F v<2*F ((AV p a).getD k AY):=by
  by_cases c:F ((AV p a).getD k AY)<F ((AV p a).getD (k+1) AY);.have:=lX c s;omega
  have:=lX (show F ((AV p a).getD (k+1) AY)<F ((AV p a).getD k AY)by omega)<|jI s;omega
 have b:=(h.aEC C hD hd (h.aga K j) o hk hs).1;have hx:=agY ((AV p a).getD k AY) ((AV p a).getD (k+1) AY) v;rw[s.1,LD]at hx;have T:=hd a o k hk;have ex:xE D ((AV p a).getD k AY) ((AV p a).getD (k+1) AY) (2*F v)=2*D*v.x:=by unfold xE;rw[show xN ((AV p a).getD k AY) ((AV p a).getD (k+1) AY) (2*F v)=2*v.x*(F ((AV p a).getD (k+1) AY)-F ((AV p a).getD k AY))by omega,qp,Int.mul_ediv_cancel' T];grind
 rw[ex,<-h.abl C hD hd K j]at b;rw[b];split<;>omega
theorem Valid.asj{X:List Int}(o:X∈CV p)(f:Pt×Pt->Int)(g:Pt->Pt->Int)(c:∀a b,f (a,b)%2=g a b%2):((DV p X).map f).sum%2=Dj p (BK X) g%2:=by
 obtain⟨-,h2⟩:=h.Fv o;have z:((DV p X).map f).sum=(X.map λd=>Ji (λa b=>f (a,b))<|GL p d).sum:=by unfold DV;rw[aCb,abb];refine GK _ _ _ λd _=>?_;unfold EO Ji;rw[KP];rfl
 rw[z,h.aED o];unfold Dj;refine aEF _ _ _ λa j=>?_;have hid:=(h.IB j).1;have C:GL p a.id=AV p a:=by unfold GL;rw[show Et a.id=a.id by unfold Et;split<;>omega,h.find j]
 have K:GL p (-a.id)=AV p a:=by unfold GL;rw[show Et (-a.id)=a.id by unfold Et;split<;>omega,h.find j]
 rw[C,K];have e:Ji (λa b=>f (a,b)) (AV p a)%2=Ji g (AV p a)%2:=by unfold Ji;exact aEF _ _ _ λk _=>c _ _
 generalize Ji (λa b=>f (a,b)) (AV p a)=s at*;generalize Ji g (AV p a)=t at*;unfold BK;by_cases c1:a.id∈X<;>by_cases c2:-a.id∈X<;>simp only[c1,c2,if_true,if_false]<;>omega
theorem Valid.ajT{L:List<|List Int}(o:∀X∈L,X∈CV p\/X=[])(f:Pt×Pt->Int)(g:Pt->Pt->Int)(c:∀a b,f (a,b)%2=g a b%2):((L.flatMap<|DV p).map f).sum%2=Dj p (Ny L) g%2:=by induction L with
 |nil=>have:Dj p (Ny []) g=0:=zM λa z=>.inl rfl;rw[this];rfl|cons X L s=>
  rw[LC,Gt,PX];have e:Dj p (Ny<|X::L) g=Dj p (BK X) g+Dj p (Ny L) g:=by rw[<-jG];rfl
  have s:=s λY F=>o Y<|FW _ F;rw[e];rcases o X ED with j|j;.have:=h.asj j f g c;omega
  .subst j;have:Dj p (BK []) g=0:=zM λa z=>.inl rfl;rw[this];have C:((DV p []).map f).sum=0:=rfl;omega
end
