import Derived.Test.YtngoejdlompfoaaGreatJ24
set_option linter.unusedSimpArgs false
set_option linter.unusedVariables false
set_option maxRecDepth 100000
set_option maxHeartbeats 8000000
namespace Go.Proofs.YtngoejdlompfoaaGreat
open Go.RowKit Go.Sort Tryz
def Vx(p:Pl)(O:List<|List Int):Nat->Int->Int|0,_=>0|n+1,d=>if(Nw p O<|n+1).any (λc=>decide<|d∈c)=true then(n:Int)+1 else Vx p O n d
def adh(p:Pl)(O:List<|List Int)(a:Ar):Ar:=⟨a.id,a.fr,a.dst,a.via,Vx p O O.length a.id,Vx p O O.length<|-a.id⟩
def aFE(p:Pl):Pl:=⟨p.nodes,(Dz p).AP.map<|adh (Dz p)<|sortK<|BN<|Dz p,(List.range (BN<|Dz p).length).map λi:Nat=>(i:Int)+1⟩
def axK:Value:=.agg #[.slice none 0 0,.slice none 0 0,.slice none 0 0]
def akq(w:World)(p:Pl)(e:Ending)(w':World):Prop:=∃An cn Aa ca Af cf bl,e=.returned (.tuple #[.agg #[.slice An p.nodes.length cn,.slice Aa p.AP.length ca,.slice Af p.faces.length cf],.int .i64 0])/\AU w w'/\J7 w' w.heap.size (.slice An p.nodes.length cn) (.slice Aa p.AP.length ca) (.slice Af p.faces.length cf) p bl
structure Mod(p:Pl):Prop where
 nodes:p.nodes.length<=100000
 AP:p.AP.length<=100000
 O6:∀a∈p.AP,a.via.length<=100000
theorem Gn.perm{p:Pl}{z:AD}{sl j:List AD}{O s R:List<|List Int}{N:List Nd}(h:Gn p (z::sl) O R N)(M:j.Perm sl)(ho:j.map (·.out)=s):Gn p (z::j) s R N:=by
 have C:∀x∈sl,x.inn.map (·.1)=R.filter (λc=>decide<|F8 p (MZ p c)=some x.out)/\x.Ci=(N.filter<|λn=>decide<|JJ p.AP n.id=0/\F8 p n.pt=some x.out).map (·.id):=by
  intro x U;obtain⟨i,hi,rfl⟩:=Dy.1 U;have h1:i+1<(z::sl).length:=by simpa using hi
  have hl:=h.len;have e:NU O (i+1)=some sl[i].out:=by rw[YC I<|by simp only[Gy]at hl;omega];have:=h.kN h1 I;simp only[List.getElem_cons_succ,gI]at this⊢;rw[this]
  have a:=h.inn (i+1) h1;have b:=h.Ci (i+1) h1;rw[e]at a b;exact⟨a,b⟩
 have K:(z::j).map (·.out)=[]::s:=by have h0:=h.out;rw[FB]at h0⊢;injection h0 with h0 _;rw[h0,ho]
 have T:j.length=s.length:=by rw[<-ho,D6]
 have hk:∀i(hi:i<j.length),NU s (i+1)=some j[i].out:=λi hi=>by rw[YC I I];subst ho;simp
 refine⟨K,λi hi=>?_,λi hi=>?_⟩;.match i,hi with
  |0,_=>exact h.inn 0 Ak|i+1,hi=>
   have o:i<j.length:=by simpa using hi
   rw[hk i o];exact(C _<|M.subset<|BG o).1
 match i,hi with
|0,_=>exact h.Ci 0 Ak|i+1,hi=>
 have o:i<j.length:=by simpa using hi
 rw[hk i o];exact(C _<|M.subset<|BG o).2
theorem J7.axL{w w':World}{B B':Nat}{j o s v:Value}{p:Pl}{z:List<|Ar×SV}{L:List AD}(h:J7 w B j o s p z)(ho:Own w B' 99 4 EH v L)(c:w.grownBy w' v.ownBlock):J7 w' B j o s p z:=⟨Own.grown h.SL c<|Own.apart h.SL ho BI,Own.grown h.Iw c<|Own.apart h.Iw ho BI,λx C=>Own.grown (h.O6 x C) c<|Own.apart (h.O6 x C) ho BI,h.eq,Own.grown h.OY c<|Own.apart h.OY ho BI⟩
theorem J7.axM{w w':World}{B j n:Nat}{f:Int->Int}{z C K:Value}{p:Pl}{M:List<|Ar×SV}(h:J7 w B z C K p M)(hm:IC w j n f)(c:w.grownBy w'<|some j):J7 w' B z C K p M:=by
 have o:∀{α:Type}{e:TypeId}{size:Nat}{U:α->List Value}{v:Value}{l:List α},Own w B e size U v l->∀g,v.ownBlock=some g->some g≠some j:=λho g c e=>by
  rcases ho.2 with⟨rfl,_⟩|⟨g',cap,s,rfl,_,hh,_⟩;.simp[Value.ownBlock]at c
  have:g'=j:=by
   have h1:g'=g:=by simpa[Value.ownBlock]using c
   have h2:=Dn e;omega
  exact aAW hm (cs:=s) (g:=g') hh this
 exact⟨Own.grown h.SL c<|o h.SL,Own.grown h.Iw c<|o h.Iw,λx T=>Own.grown (h.O6 x T) c<|o<|h.O6 x T,h.eq,Own.grown h.OY c<|o h.OY⟩
theorem Ints.akr{w w':World}{v:Value}{l:List Int}(h:Ints w v l){g:Nat}{t:TypeId}{cs:Array Value}(hb:AO w g t cs)(T:∀(j:Nat)(n:Int),cs[j]?≠some (.int .i64 n))(M:w.grownBy w'<|some g):Ints w' v l:=by
 obtain⟨A,c,rfl,h1,h2,h3⟩:=h;refine⟨A,c,rfl,h1,h2,λz=>?_⟩;obtain⟨b,o,rfl,hlt,s⟩:=h3 z;have U:0<l.length:=by cases l with|nil=>exact absurd rfl z|cons a l=>simp
 have h0:(l.flatMap DF)[0]?=some (.int .i64 l[0]):=by cases l with|nil=>cases U|cons a l=>rfl
 have C:=s 0 _ h0;have K:b≠g:=λe=>by subst e;rw[hb.cell]at C;exact T _ _ C
 exact⟨b,o,rfl,IQ hlt M.size,λj u hu=>by have:=M.block b hlt λe=>K<|Dn e;rw[<-s j u hu];simp only[World.cell?,this]⟩
structure AdQ(w:World)(B:Nat)(v:Value)(L:List AD):Prop where
 own:Own w B 99 4 EH v L
 out:∀x∈L,Ints w (BO x.ov) x.out
 inn:∀x∈L,Own w B 24 1 JL (BO x.iv) x.inn
 Ik:∀x∈L,∀c∈x.inn,Ints w (BO c.2) c.1
theorem aks(a b c:SV)(j:Nat)(n:Int):(#[BO a,BO b,BO c]:Array Value)[j]?≠some (.int .i64 n):=by match j with|0=>intro e;cases e|1=>intro e;cases e|2=>intro e;cases e|j+3=>intro e;simp at e
theorem AdQ.grown{w w':World}{B:Nat}{v:Value}{L:List AD}(h:AdQ w B v L){g:Nat}{a b c:SV}(hb:AO w g 26 #[BO a,BO b,BO c])(o:w.grownBy w'<|some g):AdQ w' B v L:=by
 have z:∀{α:Type}{e:TypeId}{size:Nat}{C:α->List Value}{v:Value}{l:List α},Own w B e size C v l->e≠26->∀q,v.ownBlock=some q->some q≠some g:=λho s q K e=>by have:=Own.ET ho hb s;exact this<|by rw[K,e]
 exact⟨Own.grown h.own o<|z h.own BI,λx j=>(h.out x j).akr hb (aks a b c) o,λx j=>Own.grown (h.inn x j) o<|z (h.inn x j) BI,λx j d hd=>(h.Ik x j d hd).akr hb (aks a b c) o⟩
def XK(n:Nat):List Int:=(List.range n).map λi:Nat=>(i:Int)+1
theorem akt(n:Nat):(XK n).length=n:=by unfold XK;simp
theorem axN(n:Nat):XK (n+1)=XK n++[(n:Int)+1]:=by unfold XK;rw[aU,Gt];rfl
theorem adi{w:World}{j n:Nat}{f:Int->Int}{base:Nat}{e:TypeId}{size:Nat}{α:Type}{o:α->List Value}{v:Value}{l:List α}(ho:Own w base e size o v l)(h:IC w j n f):v.ownBlock≠some j:=by
 rcases ho.2 with⟨rfl,_⟩|⟨g,s,c,rfl,_,z,_⟩;.simp[Value.ownBlock]
 intro e';exact aAW h (cs:=c) (g:=g) z xO
theorem IC.setCell{w:World}{c n:Nat}{f:Int->Int}(h:IC w c n f){p:Addr}(o:¬c=p.block)(u:Value):IC (w.setCell p u) c n f:=h.kept (row:=some p.block) ⟨rfl,rfl,rfl,Ak,λi hi j=>Below.heap_setCell w p u i λe=>j Rf⟩ λe=>o<|Dn e
theorem IC.obj{w:World}{o n:Nat}{f:Int->Int}(h:IC w o n f)(j:Nat):w.cell? ⟨o,j,none⟩=none:=by obtain⟨D,h1,-⟩:=h;obtain⟨s,c,h2,-⟩:=h1;simp only[World.cell?,h2]
theorem Ints.aku{w w':World}{v:Value}{l:List Int}(h:Ints w v l){K n:Nat}{f:Int->Int}(hm:IC w K n f)(T:w.grownBy w'<|some K):Ints w' v l:=by
 obtain⟨A,c,rfl,h1,h2,h3⟩:=h;refine⟨A,c,rfl,h1,h2,λz=>?_⟩;obtain⟨b,o,rfl,hlt,s⟩:=h3 z;have U:0<l.length:=by cases l with|nil=>exact absurd rfl z|cons a l=>simp
 have h0:(l.flatMap DF)[0]?=some (.int .i64 l[0]):=by cases l with|nil=>cases U|cons a l=>rfl
 have C:=s 0 _ h0;have M:b≠K:=λe=>by subst e;rw[hm.obj]at C;cases C
 exact⟨b,o,rfl,IQ hlt T.size,λj u hu=>by have:=T.block b hlt λe=>M<|Dn e;rw[<-s j u hu];simp only[World.cell?,this]⟩
theorem axO{n i j m:Nat}(h:n<=300000*i+513*j+m)(hm:m<=512):n<=300000*i+513*(j+1):=I
theorem axP{n i c:Nat}(h:n<=300000*i+513*c)(j:c<=513):n<=300000*(i+1):=I
theorem axQ{n i j m:Nat}(h:n<=300000*i+513*j+m)(hi:i<=64)(c:j<=513)(hm:m<=512):n<4294967296:=I
def fA(f:Int->Int)(a:Ar):Ar:=⟨a.id,a.fr,a.dst,a.via,f a.id,f<|-a.id⟩
def NY(f:Int->Int)(bl:List<|Ar×SV)(k:Nat):List<|Ar×SV:=(bl.take k).map (λx=>(fA f x.1,x.2))++bl.drop k
theorem axR(f:Int->Int)(c:List<|Ar×SV)(k:Nat):(NY f c k).length=c.length:=by unfold NY;simp;omega
theorem akv(f:Int->Int)(c:List<|Ar×SV):NY f c 0=c:=by unfold NY;simp
theorem axS(f:Int->Int)(c:List<|Ar×SV):NY f c c.length=c.map λx=>(fA f x.1,x.2):=by unfold NY;simp
theorem axT{f:Int->Int}{c:List<|Ar×SV}{k:Nat}(hk:k<c.length)(h:k<(NY f c k).length):(NY f c k)[k]=c[k]:=by
 have e:(NY f c k)[k]?=c[k]?:=by unfold NY;rw[List.getElem?_append_right<|by rw[D6,JF];omega,List.getElem?_drop];simp only[D6,JF];congr 1;omega
 rw[DK h,DK hk]at e;exact Dn e
theorem axU{f:Int->Int}{c:List<|Ar×SV}{k:Nat}(hk:k<c.length):(NY f c k).set k (fA f c[k].1,c[k].2)=NY f c (k+1):=by
 unfold NY;have j:((c.take k).map<|λx=>(fA f x.1,x.2)).length=k:=by rw[D6,JF];omega
 rw[aDf _ _ I,j,aDg,Eu hk,Gt,Jv,Ql hk,aaA];rfl
theorem Own.akw{w:World}{B n c:Nat}{A:Option Addr}{L:List<|Ar×SV}(h:Own w B 31 6 bn (.slice A n c) L){k:Nat}(hk:k<L.length):∃g,A=some ⟨g,0,none⟩/\B<=g/\g<w.heap.size/\(∀j,w.frozen? ⟨g,j,none⟩=false)/\w.cell? ⟨g,k*6,none⟩=some (.int .i64 L[k].1.id)/\w.cell? ⟨g,k*6+1,none⟩=some (.int .i64 L[k].1.fr)/\w.cell? ⟨g,k*6+2,none⟩=some (.int .i64 L[k].1.dst)/\w.cell? ⟨g,k*6+3,none⟩=some (.slice L[k].2.a L[k].2.n L[k].2.c)/\w.cell? ⟨g,k*6+4,none⟩=some (.int .i64 L[k].1.left)/\w.cell? ⟨g,k*6+5,none⟩=some (.int .i64 L[k].1.right):=by
 have U:=h.row_of;rcases h.2 with⟨hv,h0⟩|⟨g,cap,cur,hv,hg,z,-⟩;.omega
 injection hv with e1 e2 e3;subst e1;obtain⟨b,o,s,-,C,c1,c2,K,M,T⟩:=Row.at6 U hk;injection s with s;injection s with y1 y2 _;subst y1 y2;rw[Rk]at C c1 c2 K M T;exact⟨g,rfl,hg,AO.lt z,λj=>AO.frozen z j,C,c1,c2,K,M,T⟩
theorem J7.axV{w:World}{B g n c:Nat}{K M:Value}{p:Pl}{o:List<|Ar×SV}(h:J7 w B K (.slice (some ⟨g,0,none⟩) n c) M p o){i:Nat}(hi:i<o.length)(l r:Int):J7 ((w.setCell ⟨g,i*6+4,none⟩<|.int .i64 l).setCell ⟨g,i*6+5,none⟩<|.int .i64 r) B K (.slice (some ⟨g,0,none⟩) n c) M ⟨p.nodes,p.AP.set i ⟨o[i].1.id,o[i].1.fr,o[i].1.dst,o[i].1.via,l,r⟩,p.faces⟩<|o.set i (⟨o[i].1.id,o[i].1.fr,o[i].1.dst,o[i].1.via,l,r⟩,o[i].2):=by
 have far:∀{α:Type}{e:TypeId}{size:Nat}{T:α->List Value}{v:Value}{m:List α},Own w B e size T v m->e≠31->Own ((w.setCell ⟨g,i*6+4,none⟩<|.int .i64 l).setCell ⟨g,i*6+5,none⟩<|.int .i64 r) B e size T v m:=λho s=>by have hn:∀q,_->some q≠_:=Own.apart ho h.Iw s;exact Own.far (Own.far ho (λz=>hn g z rfl) _) (λz=>hn g z rfl) _
 have h1:=Own.oJ aAY h.Iw hi (j:=4) I (⟨o[i].1.id,o[i].1.fr,o[i].1.dst,o[i].1.via,l,o[i].1.right⟩,o[i].2) (.int .i64 l) rfl;have C:i<(o.set i ((⟨o[i].1.id,o[i].1.fr,o[i].1.dst,o[i].1.via,l,o[i].1.right⟩:Ar),o[i].2)).length:=by rw[U5];exact hi
 have h2:=Own.oJ aAY h1 C (j:=5) I (⟨o[i].1.id,o[i].1.fr,o[i].1.dst,o[i].1.via,l,r⟩,o[i].2) (.int .i64 r) (by rw[List.getElem_set_self];rfl);rw[List.set_set]at h2;refine⟨far h.SL BI,h2,λx U=>?_,?_,far h.OY BI⟩
 .rcases Sj U with⟨rfl,_⟩|⟨j,hj,_,rfl⟩;.exact far (show Own w B 50 2 Ep (BO o[i].2) o[i].1.via from h.O6 _<|BG hi) BI
  exact far (h.O6 _<|BG hj) BI
 rw[List.map_set,h.eq]
theorem J7.face{w w1:World}{B:Nat}{o s z c:Value}{p:Pl}{C:List<|Ar×SV}{n:Int}(h:J7 w B o s z p C)(ho:Own w1 B 3 1 DF c<|p.faces++[n])(j:w.grownBy w1 z.ownBlock):J7 w1 B o s c ⟨p.nodes,p.AP,p.faces++[n]⟩ C:=⟨Own.grown h.SL j<|Own.apart h.SL h.OY BI,Own.grown h.Iw j<|Own.apart h.Iw h.OY BI,λy K=>Own.grown (h.O6 y K) j<|Own.apart (h.O6 y K) h.OY BI,h.eq,ho⟩
def aG(f:Int->Int)(v:Int)(cs:List<|List Int)(d:Int):Int:=if cs.any (λc=>decide<|d∈c)=true then v else f d
theorem axW(f:Int->Int)(v:Int):aG f v []=f:=by funext d;rfl
theorem axX(f:Int->Int)(v:Int)(cs:List<|List Int):aG f v (cs++[[]])=aG f v cs:=by funext d;unfold aG;simp
theorem axY(f:Int->Int)(v:Int)(cs:List<|List Int)(c:List Int){m:Nat}(hm:m<c.length):aG f v (cs++[c.take<|m+1])=λi=>if i=c[m]then v else aG f v (cs++[c.take m]) i:=by
 funext d;unfold aG;rw[Eu hm];simp only[aDl,aDk,List.any_nil,Bool.or_false,F9,EJ,LW,DI];by_cases e:d=c[m];.rw[AZ e,AZ<|.inr<|.inr e]
 rw[AX e];by_cases e2:(cs.any λc=>decide<|d∈c)=true\/d∈c.take m;.rw[AZ<|by rcases e2 with g|g;exact .inl g;exact .inr<|.inl g,AZ e2]
 rw[AX<|by rintro(g|g|g);exact e2<|.inl g;exact e2<|.inr g;exact e g,AX e2]
theorem axZ(p:Pl)(O:List<|List Int)(n:Nat):Vx p O (n+1)=aG (Vx p O n) ((n:Int)+1) (Nw p O<|n+1):=rfl
theorem axa(v:Value)(p:Pl)(w:World)(h:Cj w v p)(hm:Mod p)(hz:LM (Dz p)=0):Calls prog 33 #[v] w λe w'=>64<(BN<|Dz p).length/\e=.returned (.tuple #[axK,.int .i64 3])/\AU w w'\/¬64<(BN<|Dz p).length/\akq w (aFE p) e w':=by
 have hv:=(mO _).1 hz;obtain⟨aCC,JE,Yj⟩:=CB (λW(hW:AU w W)=>axF v p W (h.mono hW) hm.nodes hm.AP hm.O6) (λu W(hu:Cj W u<|Dz p)=>aj3 u (Dz p) W hu hv) λu W(hu:Cj W u<|Dz p)=>aiQ u (Dz p) W hu hv;have SN:=V λu vc CL gm f W(hu:Cj W u<|Dz p)hc hcl hpm=>(aiz u vc (Dz p) CL gm f W hu hv hc hcl hpm).mono (R':=λe w'=>∃gL cL z sl,e=.returned (.slice (some ⟨gL,0,none⟩) (sl.length+1) cL)/\(1:Int)<=(sl.length:Int)+1/\W.heap.size<=gL/\AU W w'/\Gm 99 W w' W.heap.size (.slice (some ⟨gL,0,none⟩) (sl.length+1) cL) (z::sl)/\Gn (Dz p) (z::sl) (BN<|Dz p) (Gj<|Dz p) (Dz p).nodes/\sl.length+1<=cL) (by rintro e w'⟨A,c,L,rfl,hb,had,hdv,-⟩;have hl:=hdv.len;obtain⟨g,hg,hg0,-⟩:=Own.QZ had.own I;subst hg;cases L with|nil=>simp at hl|cons z sl=>obtain⟨A',c',he',h1,-⟩:=had.own.sl;injection he' with y1 y2 y3;subst y3;exact⟨g,c,z,sl,rfl,I,hg0,hb,had,hdv,h1⟩);have HV:=V hv;have Qx:=V @axI;have hmm:=@run_makeMap prog;obtain⟨_,_,_,al,rfl,hpa,⟨An,cn,rfl,-⟩,⟨⟨Aa,ca,rfl,-⟩,-⟩,⟨Af,cf,rfl,-⟩⟩:=h;obtain⟨q,hq⟩:=BM<|Dz p;obtain⟨r,hr⟩:=BM<|aFE p;have hr2:=hr;unfold aFE at hr2;rw[hq]at hr2;have vN:=V hr2;rw[hr];rw[hq]at aCC JE Yj SN HV⊢;have aC4:p.nodes=q.nodes:=by rw[<-hq];rfl
 have pV:=V aC4;have hqf:q.faces=[]:=by rw[<-hq];rfl
 clear hm hz hpa hv hr hr2 hq aC4 hqf;generalize p.nodes.length=nn at*;generalize al.length=na at*;generalize p.faces.length=nf at*;go_enter func33,ntmps33;go_upto_region 1 with fail;obtain⟨g2,hg2⟩:=BM<|w.heap.size+1;obtain⟨W1,hW⟩:∃W:World,W=(w.alloc<|.cells #[.slice An nn cn,.slice Aa na ca,.slice Af nf cf] 26).alloc (.cells #[.slice none 0 0,.slice none 0 0,.slice none 0 0] 26):=⟨_,rfl⟩;have X1:AO W1 w.heap.size 26 #[.slice An nn cn,.slice Aa na ca,.slice Af nf cf]:=by rw[hW];exact(AO.made rfl _ _).alloc _
 have X2:AO W1 g2 26 #[.slice none 0 0,.slice none 0 0,.slice none 0 0]:=by rw[hW];exact AO.made (by rw[<-hg2];simp) _ _
 have HB1:=V (show AU w W1 by rw[hW];exact bA (bA (bR w) _) _);rw[<-hW];try rw[hg2]
 have CW:=V X2;have hgw:w.heap.size<=g2:=I;clear hW hg2;obtain⟨Au,Aw,Az,BA,-⟩:=X1.BF;go_wp2_with fail;refine(aCC.1 _ HB1.1).mono ?_;rintro e w2⟨NC,ND,Tq,M,bl,rfl,hb2,U⟩;have HB2:=V<|J HB1.1 hb2;have FN:=V<|CW.1.keep hb2;have hz1:=HB1.1.size;have HP:=V<|show J7 w2 w.heap.size (.slice NC q.nodes.length ND) (.slice Tq q.AP.length M) (.slice none 0 0) q bl from⟨U.SL.EN hz1,U.Iw.EN hz1,λx hx=>(U.O6 x hx).EN hz1,U.eq,U.OY.EN hz1⟩;clear hb2 U aCC X1 Au Aw Az BA X2 CW HB1 hz1;go_upto_region 2 with fail;obtain⟨W3,hW⟩:∃W:World,W=w2.alloc (.cells #[.slice NC q.nodes.length ND,.slice Tq q.AP.length M,.slice none 0 0] 26):=⟨_,rfl⟩;have hA:AU w2 W3:=by rw[hW];exact bA (bR w2) _
 obtain⟨g4,hg4⟩:=BM w2.heap.size;have X4:AO W3 g4 26 #[.slice NC q.nodes.length ND,.slice Tq q.AP.length M,.slice none 0 0]:=by rw[hW];exact AO.made hg4.symm _ _
 obtain⟨HB3,D7,aAJ,aBn⟩:=D9 (J HB2.1 hA) (FN.1.keep hA) (HP.1.keep hA) X4;have azW:w.heap.size<=g4:=by have:=HB2.1.size;omega
 have axb:¬g2=g4:=by have:=FN.1.lt;omega
 rw[<-hW];try rw[hg4]
 clear hW hA hg4 HB2 FN HP;obtain⟨Bg,Bq,CP,Fe,-⟩:=X4.BF;go_wp2_with fail;refine(JE.1 _ _ aAJ.1.plv).mono ?_;rintro e w5⟨Ac,cc,CL,rfl,hb5,hcl,hco⟩;obtain⟨Cb,D5,YG,ZN⟩:=D9 (J HB3.1 hb5) (D7.1.keep hb5) (aBn.1.keep hb5)<|aAJ.1.keep hb5;have hle:(CV q).length=CL.length:=by rw[<-hcl,D6]
 have hcr:=hco.read;rw[hle]at hcr⊢;have Oq:=V hcl;have Uo:=V hcr;have X5:=YG.1;clear hb5 JE X4 Bg Bq CP Fe HB3 D7 aAJ hcl hcr hco hle aBn;obtain⟨CJ,CO,CQ,Gi,-⟩:=X5.BF;go_upto_region 5 with fail;refine CZ w5 (.run 3 0 0<|.call 3 15<|.call 4 31<|.take 5 63<|.take 6 127<|.done) λCG QR Ae Aj hS=>?_;iterate 3 refine Ah ?_
 refine BP ?_;clear hS;intro K hK AQ;go_simp;refine(Yj.1 _ _<|(ZN.1.keep AQ.out).plv).mono ?_;rintro e Bv⟨gm,f,rfl,Bj,hgm,hpm⟩;have hS:Since w5 Bv:=J (w:=w5) AQ.out Bj;clear AQ;refine hK.out _ _ hS λ_=>?_;clear hK K;try simp only[pu]
 refine BP ?_;clear hS;intro K hK AQ;go_simp;refine(SN.1 _ _ CL gm f _ (ZN.1.keep AQ.out).plv (Uo.1.mono AQ.out) Oq.1 hpm).mono ?_;rintro e wr2⟨gL,cL,z,sl,rfl,kL1,hgL,F5,had,hdv,azX⟩;have hS:Since w5 wr2:=J (w:=w5) AQ.out F5;clear AQ;refine hK.out _ _ hS λ_=>?_;clear hK K;try simp only[pu]
 iterate 2 refine Ah ?_
 refine CX ?_;clear hS Aj Ae;intro hB;skip;obtain⟨W6,aBA⟩:∃W:World,W=wr2:=⟨_,rfl⟩;rw[<-aBA]at had hB F5⊢;obtain⟨EG,Ic,adk,HP6⟩:=D9 (J Cb.1 hB) (D5.1.keep hB) (YG.1.keep hB)<|ZN.1.keep hB;have hsl:sl.length=(BN q).length:=by have:=hdv.len;simp only[Gy]at this;omega
 obtain⟨NR,ji,RD,axc,adl⟩:=G9 had hdv hsl Bj F5;obtain⟨PA,aBo⟩:=BM<|if cL=1 then some (⟨gL,0,none⟩:Addr)else some ⟨gL,4,none⟩;try rw[aBo]
 have HPA:=V (show 0<sl.length->PA=some ⟨gL,4,none⟩fromλh=>by rw[<-aBo,AX I]);have azY:w.heap.size<=gL:=by have:=Cb.1.size;have:=Bj.size;simp at this;omega
 have oz:w.heap.size<=W6.heap.size:=EG.1.size;clear hB Bj F5 aBA had hdv hsl aBo hpm hgm D5 YG ZN X5 CJ CO CQ Gi Yj SN kL1;by_cases h64:64<sl.length;.have H64:=V (show 64<(BN q).length by rw[<-RD.1];exact h64);have axd:(64:Int)<(sl.length:Int):=I;have X6:=Ic.1;clear h64;obtain⟨EW,EX,EY,Ov,Zl,Zm,axe⟩:=X6.BF;go_wp2_with fail;refine L6 (g:=g2) (cs:=#[.slice none 0 0,.slice none 0 0,.slice none 0 0]) rfl aDC rfl rfl (AO.lM Ic.1)<|.inl ⟨H64.1,rfl,?_⟩;exact bS (p:=⟨g2,2,none⟩) (bS (p:=⟨g2,1,none⟩) (bS (p:=⟨g2,0,none⟩) EG.1 hgw _) hgw _) hgw _
 have H64:=V (show¬64<(BN q).length by rw[<-RD.1];exact h64);have axd:¬(64:Int)<(sl.length:Int):=I;have azZ:sl.length<=64:=I;clear h64;have oL:=V (show∀s∈sl,OV Bv s fromλs hs=>by
  have hm:s∈z::sl:=FW _ hs;obtain⟨i,hi,hie⟩:=Dy.1 hs;have h1:i+1<(z::sl).length:=by simpa using hi
  have ho:=ji.1.kN h1 I;have hl:=ji.1.len;simp only[List.getElem_cons_succ]at ho;rw[hie]at ho;have hX:s.out∈BN q:=by rw[ho];exact BG _
  have hc:=(Gl.1 hX).1;exact⟨NR.1.out s hm,ZG.2<|HV.1.VF hc,λd hd=>HV.1.Rq<|(HV.1.Fv hc).2 d hd⟩);have akx:=V (show Calls prog 78 #[.slice PA sl.length<|cL-1,.func (.func 79) #[] #[]] W6 λe w'=>e=.returned (.tuple #[])/\∃o:List AD,o.Perm sl/\o.Pairwise (λa b=>ltOf (λx y:AD=>cmpK (Dp x.out)<|Dp y.out) b a=false)/\Own w' Bv.heap.size 99 4 EH (.slice (some ⟨gL,0,none⟩) (sl.length+1) cL) (z::o)/\W6.grownBy w' (some gL)from by
  rcases Xe sl.length with h0|h0;.have hs0:sl=[]:=qh h0;rw[h0];refine Calls.mono (AnyF.slices_SortFunc_none Tryz.sortAd PA (cL-1) (.func (.func 79) #[] #[]) W6) ?_;rintro e w'⟨rfl,rfl⟩;have ho:=NR.1.own;rw[hs0]at ho;exact⟨rfl,[],by rw[hs0],List.Pairwise.nil,ho,World.grownBy.refl _ _⟩
  rw[HPA.1 h0];exact Qx.1 Bv Bv.heap.size gL cL (cL-1) z sl W6 NR.1.own h0 adl.1 (Dh _) oL.1 I);go_wp2_with fail;refine akx.1.mono ?_;rintro e w7⟨rfl,o,hp,hs,O1,GR⟩;have hb7:=bG adl.1 GR (λk hk=>by have:=Dn hk;have:=(NR.1.own.lt gL rfl).1;omega);have Gw:=V<|bG EG.1 GR (λk hk=>by have:=Dn hk;omega);have hll:=hp.length_eq;obtain⟨HP7,Jg,aFF⟩:=CB (HP6.1.axL NR.1.own GR) (AO.grown Ic.1 GR<|λe=>Own.ET NR.1.own Ic.1 BI e.symm)<|AO.grown adk.1 GR<|λe=>Own.ET NR.1.own adk.1 BI e.symm;have hord:o.map (·.out)=sortK (BN q):=by
  refine HV.1.aiF ?_ ?_;.have h1:=hp.map (·.out);refine h1.trans ?_;have h2:=ji.1.out;rw[FB]at h2;injection h2 with _ h2;rw[h2]
  rw[H9];refine hs.imp λ{a b}g=>?_;have g':ltOf (λx y:AD=>cmpK (Dp x.out)<|Dp y.out) b a=false:=g;rw[aFi λx:AD=>Dp x.out]at g';exact g'
 obtain⟨O,hO⟩:=BM<|sortK<|BN q;rw[hO]at hord;have hdp:=ji.1.perm hp hord;have HD:=V hdp;have T:∀x∈z::o,x∈z::sl:=λx hx=>by
  rcases Dv.1 hx with rfl|hx;.exact ED
  exact FW _<|hp.subset hx
 obtain⟨aB9,YK,Jw⟩:=CB (show AdQ w7 Bv.heap.size (.slice (some ⟨gL,0,none⟩) (sl.length+1) cL)<|z::o from⟨O1,λx hx=>(NR.1.out x<|T x hx).mono hb7,λx hx=>Own.grown (NR.1.inn x<|T x hx) GR<|λg hg=>Own.apart (NR.1.inn x<|T x hx) NR.1.own BI g hg,λx hx c hc=>(NR.1.Ik x (T x hx) c hc).mono hb7⟩) hO hll;have hol:O.length=sl.length:=by rw[<-hord,D6,hll]
 have Uj:=V hol;clear hp hs O1 GR hb7 hll hord hO hdp T hol akx Qx oL EG Ic adk HP6 NR ji axc adl;go_upto_region 10 with fail;obtain⟨gs,hgs⟩:=BM w7.heap.size;obtain⟨W8,hW⟩:∃W:World,W=w7.alloc (.map #[] 0):=⟨_,rfl⟩;have hA:AU w7 W8:=by rw[hW];exact bA (bR w7) _
 have HM8:=V (show IC W8 gs 0<|Vx q O 0 by have:=IC.made w7;rw[hW,<-hgs];exact this);obtain⟨aBp,WU,aky,HG8⟩:=D9 (HP7.1.keep hA) (Jg.1.keep hA) (aFF.1.keep hA)<|show w7.grownBy W8<|some g4 from gOf hA;rw[<-hW];try rw[hgs]
 have aza:w7.heap.size<=gs:=I;have akz:¬gs=g4:=by have:=aFF.1.lt;omega
 have awo:¬gs=g2:=by have:=Jg.1.lt;omega
 clear hW hA hgs hmm HP7;go_upto_block 0 with fail;go_wp2_with fail;go_loopw[42](λu wr=>∃i:Nat,i<=sl.length/\u=.int .i64 i/\(∃Af c,J7 wr w.heap.size (.slice NC q.nodes.length ND) (.slice Tq q.AP.length M) (.slice Af i c) ⟨q.nodes,q.AP,XK i⟩ bl/\AO wr g4 26 #[.slice NC q.nodes.length ND,.slice Tq q.AP.length M,.slice Af i c]/\∀k,(Value.slice Af i c).ownBlock=some k->w7.heap.size<=k)/\(∃n,n<=300000*i/\IC wr gs n (Vx q O i))/\AO wr g2 26 #[.slice none 0 0,.slice none 0 0,.slice none 0 0]/\w7.grownBy wr (some g4))λu _=>sl.length-(intOf u).toNat;case atStart=>exact⟨0,C9 _,rfl,⟨none,0,⟨aBp.1.SL,aBp.1.Iw,aBp.1.O6,aBp.1.eq,Own.nil _ _ _ _ _⟩,aky.1,λk hk=>by cases hk⟩,⟨0,I,HM8.1⟩,WU.1,HG8.1⟩
 clear aBp WU aky HG8 HM8;obtain⟨i,hi,rfl,⟨Af,cf,U,X4,hfg⟩,⟨nm,hnm,hmp⟩,X2,hg⟩:=hrel;have HFg:=V hfg;obtain⟨wo,rfl⟩:=BR wr;obtain⟨HP,D7,HM,CW,HG,HAq,HB⟩:=V9 U X4 hmp X2 hg (aB9.1.grown (a:=⟨NC,q.nodes.length,ND⟩) (b:=⟨Tq,q.AP.length,M⟩) (c:=⟨none,0,0⟩) aFF.1 hg)<|bG Gw.1 hg (λk hk=>by have:=Dn hk;omega);have hzo:=hg.size;have hl4:=X4.lt;have ad4:=hmp.lt;clear U hmp hg hfg;by_cases hlt:i<sl.length
 .have hi1:i+1<(z::o).length:=by have:=Jw.1;simp only[Gy];omega
  have aBo:=HPA.1 I;obtain⟨hgl,-,e0,e1,e2,e3⟩:=Own.aB7 HAq.1.own hi1;have al0:=HD.1.aFe hi1;have hxm:(z::o)[i+1]∈z::o:=BG hi1;have hxf:∀W,w7.grownBy W (some g4)->Ints W (BO (z::o)[i+1].ov) (z::o)[i+1].out/\Own W Bv.heap.size 24 1 JL (BO (z::o)[i+1].iv) (z::o)[i+1].inn/\∀c∈(z::o)[i+1].inn,Ints W (BO c.2) c.1:=λW hg=>by have h:=aB9.1.grown (a:=⟨NC,q.nodes.length,ND⟩) (b:=⟨Tq,q.AP.length,M⟩) (c:=⟨none,0,0⟩) aFF.1 hg;exact⟨h.out _ hxm,h.inn _ hxm,h.Ik _ hxm⟩
  have hinl:(z::o)[i+1].inn.length<=512:=by have h9:=congrArg List.length<|HD.1.inn (i+1) hi1;rw[D6]at h9;rw[h9];refine Du (NH _ _) ?_;exact Du (NH _ _) HV.1.SX
  generalize(z::o)[i+1]=x at*;obtain⟨tw,X,⟨oa,on,oc⟩,In,⟨ia,IX,ic⟩,al',⟨aa,an,ac⟩⟩:=x;unfold BO at e1 e2 e3;simp only at e0 e1 e2 e3 hinl;rw[show(i+1)*4=4+i*4 by omega]at e0 e1 e2 e3;have Kw:=V al0;have jw:=V hxf;have ki1:(i:Int)<sl.length:=I;have ki2:0<=(i:Int):=I;have hfl:=akt i;have vw:=V<|axN i;have hsh:(XK i++[(i:Int)+1]).length=i+1:=by rw[EK,hfl];rfl
  have DN:=V hsh;have adg:(XK i).length<=64:=I;have n4:=Own.ET HP.1.OY D7.1 BI;clear al0 hxf hxm hfl hsh X2;go_upto_region 13 with fail;obtain⟨W9,hW⟩:∃W:World,W=wo.alloc (.cells #[.int .i64 tw,.slice oa on oc,.slice ia IX ic,.slice aa an ac] 99):=⟨_,rfl⟩;have hA:AU wo W9:=by rw[hW];exact bA (bR wo) _
  obtain⟨g9,MF⟩:=BM wo.heap.size;have X9:AO W9 g9 99 #[.int .i64 tw,.slice oa on oc,.slice ia IX ic,.slice aa an ac]:=by rw[hW];exact AO.made MF.symm _ _
  obtain⟨wu,adn,HM9,ado,HG9,adp⟩:=Lp (HP.1.keep hA) (D7.1.keep hA) (HM.1.keep hA) (CW.1.keep hA) (gB HG.1 hA) X9;have n94:¬g9=g4:=I;rw[<-hW];try rw[MF]
  clear hW hA e0 e1 e2 e3 hgl X4 HP D7 HM CW HG HB;have X4:=adn.1;try clear Bg Bq CP Fe
  obtain⟨Bg,Bq,CP,Fe,DX,EU,JI⟩:=X4.BF;go_upto_region 14 with
   (at_builtin;refine FV _ rfl (.tmp 48) (.tmp 51) _ rfl (base:=w.heap.size) J3 IV J4 rfl (Own.alloc wu.1.OY _) rfl (l2:=[(i:Int)+1]) (Sl.lit (n:=1) (AO.made rfl _ _) rfl<|DC I) DY DY (by have:=HG9.1.size;have:=Gw.1.size;simp;omega) ?_;intro v10 w10 adq gX al1;obtain⟨aH,c10,akR,-⟩:=Own.Il adq;rw[DN.1]at akR;subst akR;have adr:=AO.grown (adn.1.alloc _) gX λe=>n4 e.symm;have akS:=(wu.1.keep<|bA (bR W9) _).face adq gX;have x9:=V<|akS.far adr BI BI BI BI 2<|.slice aH (i+1) c10;have ads:=V<|adr.EM 2<|.slice aH (i+1) c10;have akT:IC w10 gs nm<|Vx q O i:=(HM9.1.keep<|bA (bR W9) _).kept gX (λe=>by have:=adi wu.1.OY HM9.1;exact this e.symm);obtain⟨adt,adu,adv,aFG,awp⟩:=G9 (akT.setCell (p:=⟨g4,2,none⟩) akz<|.slice aH (i+1) c10) (AO.far (p:=⟨g4,2,none⟩) (AO.grown (ado.1.alloc _) gX<|λe=>Own.ET wu.1.OY ado.1 BI e.symm) axb<|.slice aH (i+1) c10) (AO.far (p:=⟨g4,2,none⟩) (AO.grown (adp.1.alloc _) gX<|λe=>Own.ET wu.1.OY adp.1 BI e.symm) n94<|.slice aH (i+1) c10) (gS (qE (gA HG9.1 _) gX<|λk hk=>HFg.1 k hk) 2<|.slice aH (i+1) c10)<|show∀k,(Value.slice aH (i+1) c10).ownBlock=some k->w7.heap.size<=k from vF al1 HFg.1 (by have:=HG9.1.size;simp;omega);clear adq al1 gX akT akS X4 Bg Bq CP Fe DX EU JI;have X4:=adr;try clear Bg Bq CP Fe
    try clear DX EU JI
    obtain⟨Bg,Bq,CP,Fe,DX,EU,JI⟩:=X4.BF);obtain⟨VB,akU⟩:∃W:World,W=w10.setCell ⟨g4,2,none⟩ (.slice aH (i+1) c10):=⟨_,rfl⟩;rw[<-akU]at x9 ads adt adu adv aFG⊢;have Tn:=V (show AO VB g4 26 #[.slice NC q.nodes.length ND,.slice Tq q.AP.length M,.slice aH (i+1) c10]by simpa using ads.1);obtain⟨hx1,hx2,hx3⟩:=jw.1 VB aFG.1;have Ud:=ace ⟨tw,X,⟨oa,on,oc⟩,In,⟨ia,IX,ic⟩,al',⟨aa,an,ac⟩⟩ VB hx2.sl (by show In.length<=100000;omega);have aBU:(Nz ⟨tw,X,⟨oa,on,oc⟩,In,⟨ia,IX,ic⟩,al',⟨aa,an,ac⟩⟩).length<=513:=by show In.length+1<=513;omega
  have hcr:∀y∈Nz ⟨tw,X,⟨oa,on,oc⟩,In,⟨ia,IX,ic⟩,al',⟨aa,an,ac⟩⟩,Ints VB (BO y.2) y.1:=λy hy=>by
   rcases Dv.1 hy with rfl|hy;.exact hx1
   exact hx3 y hy
  have hck:=Kw.1;unfold BO at Ud;simp only at Ud;generalize Nz ⟨tw,X,⟨oa,on,oc⟩,In,⟨ia,IX,ic⟩,al',⟨aa,an,ac⟩⟩=CY at*;obtain⟨iR,Uo,JE⟩:=CB Ud hcr hck;have X9:=adv.1;clear akU hx1 hx2 hx3 Ud hcr hck Kw X4 Bg Bq CP Fe DX EU JI ads wu adn HM9 ado HG9 adp jw;obtain⟨Hg,Hu,Jf,aAL,X9d,-⟩:=X9.MC;go_wp2_with fail;refine iR.1.mono ?_;rintro e WA⟨⟨A2,c2,rfl,ho2⟩,VJ⟩;obtain⟨awq,akV,aFH,awr,awt,EZ,awu⟩:=V9 (x9.1.keep VJ) (Tn.1.keep VJ) (adt.1.keep VJ) (adu.1.keep VJ) (gB aFG.1 VJ) ho2<|show∀y∈CY,Ints WA (BO y.2) y.1 fromλy hy=>(Uo.1 y hy).mono VJ;have azb:=akV.1.lt;clear VJ ho2 X9 Hg Hu Jf aAL X9d iR x9 Tn adt adu adv aFG Uo;go_upto_block 2 with fail;go_wp2_with fail;go_loopw[57](λu wr=>∃j:Nat,j<=CY.length/\u=.int .i64 j/\(∃n,n<=300000*i+513*j/\IC wr gs n (aG (Vx q O i) ((i:Int)+1) ((CY.take j).map (·.1))))/\WA.grownBy wr (some gs))λu _=>CY.length-(intOf u).toNat;case atStart=>exact⟨0,C9 _,rfl,⟨nm,Du hnm<|Nat.le_add_right _ _,by rw[PZ,Ri,axW];exact aFH.1⟩,gR WA _⟩
  obtain⟨j,hj,rfl,⟨n1,hn1,hmp⟩,hgj⟩:=hrel;obtain⟨wq,rfl⟩:=BR wr;have HM:=V hmp;have pW:=V hgj;have hzq:=hgj.size;clear hmp hgj;by_cases hlj:j<CY.length
  .obtain⟨b2,o2,rfl,aBN,c0⟩:=(Own.grown EZ.1 pW.1<|λg hg e=>adi EZ.1 aFH.1<|by rw[hg,e]).row_of.cy hlj;have hin:=(awu.1 CY[j]<|BG hlj).aku aFH.1 pW.1;have hcy:CY[j].1∈Nw q O (i+1):=by rw[<-JE.1];exact H6<|BG hlj
   have hdd:∀d∈CY[j].1,Eb d:=λd hd=>by have:=HV.1.Rq<|HV.1.ae2 (λX hX=>(Wi<|BN q).1.subset<|by rw[YK.1];exact hX) hcy hd;exact L8 I I
   have hcl:CY[j].1.length<=512:=by
    have hc2:CY[j].1=[]\/CY[j].1∈CV q:=by
     unfold Nw GN at hcy;rcases Dv.1 hcy with e|hc
     .rw[e];unfold NU;split;.exact .inl rfl
      cases e9:O[i+1-1]? with|none=>exact .inl rfl|some Y=>exact .inr (Gl.1<|(Wi<|BN q).1.subset<|by rw[YK.1];exact aCc e9).1
     exact .inr (VT.1 (Nc.1 hc).1).1
    rcases hc2 with e|hc;.rw[e];simp
    exact Du (Wq (HV.1.Fv hc).1 (HV.1.Fv hc).2) HV.1.uY
   have htk:(CY.take<|j+1).map (·.1)=(CY.take j).map (·.1)++[CY[j].1]:=by rw[Eu hlj,Gt];rfl
   generalize CY[j]=x at*;obtain⟨C,xa,xn,xc⟩:=x;unfold BO at hin;simp only at hin c0 hdd hcl htk;have hin0:=hin;obtain⟨Ax,cx,he,hx1,hx2,qG⟩:=hin;injection he with y1 y2 y3;subst y1 y2 y3;unfold maxLen at hx2;obtain⟨Jy,Yn,FI⟩:=CB hin0 hdd htk;clear hin0 hdd htk hcy qG;have HMe:=V (axX (Vx q O i) ((i:Int)+1) ((CY.take j).map (·.1)));go_upto_block 4 with fail;clear c0 aBN;go_wp2_with fail;go_loopw[63](λu wr=>∃m:Nat,m<=C.length/\u=.int .i64 m/\(∃n,n<=300000*i+513*j+m/\IC wr gs n (aG (Vx q O i) ((i:Int)+1) ((CY.take j).map (·.1)++[C.take m])))/\wq.grownBy wr (some gs))λu _=>C.length-(intOf u).toNat;case atStart=>exact⟨0,C9 _,rfl,⟨n1,hn1,by rw[PZ,HMe.1];exact HM.1⟩,gR wq _⟩
   obtain⟨m,hm,rfl,⟨n2,hn2,akW⟩,hgm⟩:=hrel;have KH:=V akW;have HGm:=V hgm;clear akW hgm;by_cases hlm:m<C.length
   .obtain⟨Ax',cx',he',-,-,akX⟩:=Jy.1.aku HM.1 HGm.1;injection he' with y1 y2 y3;subst y1;clear y2 y3;obtain⟨b3,o3,rfl,vC,d0⟩:=(show Row _ _<|C.flatMap DF from akX).int hlm;have hwf:=Yn.1 C[m]<|BG hlm;have hst:=axY (Vx q O i) ((i:Int)+1) ((CY.take j).map (·.1)) C hlm;generalize C[m]=d at*;obtain⟨w6,vg,Zd,LQ⟩:=KH.1.upd (axQ hn2 I I I) d hwf<|(i:Int)+1;rw[<-hst]at Zd;have XV:=V Zd;have YN:=V<|gT HGm.1 LQ;have ki8:=DR<|(i:Int)+1;clear Zd LQ hst akX;go_wp2;go_roundw;case rel=>exact⟨m+1,I,BH,⟨n2+1,Nat.succ_le_succ hn2,XV.1⟩,YN.1⟩
    exact BJ
   obtain rfl:m=C.length:=I;have hmf:=KH.1;rw[Gu,<-FI.1]at hmf;have xA:=V hmf;clear hmf;go_wp2;go_roundw;case rel=>exact⟨j+1,I,BH,⟨n2,axO hn2 hcl,xA.1⟩,gT pW.1 HGm.1⟩
   exact BJ
  obtain rfl:j=CY.length:=I;have hmf:=HM.1;rw[Gu,JE.1,<-axZ]at hmf;obtain⟨xA,eu,pX,aFI,aCE⟩:=G9 hmf (awq.1.axM aFH.1 pW.1) (AO.grown akV.1 pW.1<|λe=>akz (Dn e).symm) (AO.grown awr.1 pW.1<|λe=>awo (Dn e).symm)<|qE awt.1 pW.1 (λk hk=>by have:=Dn hk;omega);clear hmf;go_wp2_with fail;rw[<-aBo];go_roundw;case rel=>exact⟨i+1,I,BH,⟨aH,c10,by rw[vw.1];exact eu.1,pX.1,awp.1⟩,⟨n1,axP hn1 aBU,xA.1⟩,aFI.1,aCE.1⟩
  exact BJ
 obtain rfl:i=sl.length:=I;have hbl:bl.length=q.AP.length:=by rw[<-HP.1.eq,D6]
 obtain⟨f,hf⟩:=BM<|Vx q O sl.length;have qJ:=V hf;rw[hf]at HM;have fB:=V hbl;have YI:=V HP.1.eq;have heq:(NY f bl 0).map (·.1)=q.AP:=by rw[akv];exact HP.1.eq
 have xB:=V (show J7 wo w.heap.size (.slice NC q.nodes.length ND) (.slice Tq q.AP.length M) (.slice Af sl.length cf) ⟨q.nodes,(NY f bl 0).map (·.1),XK sl.length⟩<|NY f bl 0 from by rw[heq,akv];exact HP.1);have KZ:=V λa(ha:a∈q.AP)=>HV.1.IB ha;clear hf hbl heq HP X2 HAq HG aB9;try clear Bg Bq CP Fe
 try clear DX EU JI
 obtain⟨Bg,Bq,CP,Fe,-⟩:=X4.BF;go_upto_block 6 with fail;clear X4 Bg Bq CP Fe;go_wp2_with fail;go_loopw[77](λu wr=>∃k:Nat,k<=q.AP.length/\u=.int .i64 k/\J7 wr w.heap.size (.slice NC q.nodes.length ND) (.slice Tq q.AP.length M) (.slice Af sl.length cf) ⟨q.nodes,(NY f bl k).map (·.1),XK sl.length⟩ (NY f bl k)/\IC wr gs nm f/\AO wr g4 26 #[.slice NC q.nodes.length ND,.slice Tq q.AP.length M,.slice Af sl.length cf]/\AO wr g2 26 #[.slice none 0 0,.slice none 0 0,.slice none 0 0]/\AU w wr)λu _=>q.AP.length-(intOf u).toNat;case atStart=>exact⟨0,C9 _,rfl,xB.1,HM.1,D7.1,CW.1,HB.1⟩
 clear xB HM D7 CW HB;obtain⟨k,hk,rfl,U,hmp,X4,X2,hb⟩:=hrel;obtain⟨wq,rfl⟩:=BR wr;obtain⟨HP,HM,D7,CW,HB⟩:=G9 U hmp X4 X2 hb;have ad4:=hmp.lt;have hl4:=X4.lt;have hqa:q.AP.length<=256:=by have hl:=HV.1.lim;unfold Jr at hl;simp at hl;omega
 clear U hmp hb;by_cases hlt:k<q.AP.length
 .have hkb:k<bl.length:=by rw[fB.1];exact hlt
  have hkl:k<(NY f bl k).length:=by rw[axR];exact hkb
  have hat:=axT (f:=f) hkb hkl;have hset:=axU (f:=f) hkb;obtain⟨gA,XI,hgA,azc,hfz,c0,c1,c2,c3,c4,c5⟩:=HP.1.Iw.akw hkl;have T:bl[k].1∈q.AP:=by
   have:=HP.1.eq;have h9:(NY f bl k)[k].1.id=bl[k].1.id:=by rw[hat]
   have h8:=YI.1;rw[<-h8];exact H6<|BG hkb
  have hid:=KZ.1 _ T;rw[hat]at c0 c1 c2 c3 c4 c5;generalize bl[k]=x at*;obtain⟨⟨id,fr,dst,via,lf,rt⟩,⟨va,vn,vc⟩⟩:=x;simp only at c0 c1 c2 c3 c4 c5 hid hset;have HAt:=V hat;have Zh:=V hset;have aFJ:¬gA=g4:=λe=>Own.ET HP.1.Iw D7.1 BI (by rw[XI,<-e];rfl);have akY:¬gA=g2:=λe=>Own.ET HP.1.Iw CW.1 BI (by rw[XI,<-e];rfl);have akZ:¬gA=gs:=λe=>adi HP.1.Iw HM.1 (by rw[XI,<-e];rfl);clear hat hset T X2 hfz;go_upto_region 27 with fail;obtain⟨W5,hW⟩:∃W:World,W=wq.alloc (.cells #[.int .i64 id,.int .i64 fr,.int .i64 dst,.slice va vn vc,.int .i64 lf,.int .i64 rt] 31):=⟨_,rfl⟩;have hA:AU wq W5:=by rw[hW];exact bA (bR wq) _
  obtain⟨g15,akb⟩:=BM wq.heap.size;have YZ:AO W5 g15 31 #[.int .i64 id,.int .i64 fr,.int .i64 dst,.slice va vn vc,.int .i64 lf,.int .i64 rt]:=by rw[hW];exact AO.made akb.symm _ _
  obtain⟨ZN,VZ,YG,adH,Cb⟩:=G9 (HP.1.keep hA) (HM.1.keep hA) (D7.1.keep hA) (CW.1.keep hA)<|J HB.1 hA;have QU:=hA.size;have n15:¬g15=gA:=I;rw[<-hW];try rw[akb]
  clear hW hA c0 c1 c2 c3 c4 c5 X4 HP HM D7 CW HB;have X4:=YG.1;have awv:Eb id:=L8 I I;have aww:Eb<|-id:=L8 I I;have azd:=(VZ.1.keep<|bD<|bR W5).look id awv;have hlk2:=(VZ.1.keep<|bD<|bR W5).look (-id) aww;have kng:=DR<|-id;obtain⟨gA',pY,-,awx,I5,-,-,-,-,d4,d5⟩:=ZN.1.Iw.akw hkl;rw[XI]at pY;injection pY with pY;injection pY with pY _ _;rw[<-pY]at awx I5 d4 d5;have hf4:=I5<|k*6+4;have hf5:=I5<|k*6+5;have hp5:=ZN.1;rw[XI]at hp5;have hlr:=hp5.axV hkl (f id)<|f<|-id;rw[HAt.1]at hlr;have HLr:=V (show J7 ((W5.setCell ⟨gA,k*6+4,none⟩<|.int .i64<|f id).setCell ⟨gA,k*6+5,none⟩<|.int .i64<|f<|-id).drew w.heap.size (.slice NC q.nodes.length ND) (.slice Tq q.AP.length M) (.slice Af sl.length cf) ⟨q.nodes,(NY f bl<|k+1).map (·.1),XK sl.length⟩<|NY f bl<|k+1 from by rw[XI];have h9:=Zh.1;unfold fA at h9;simp only at h9;have xC:=hlr;simp only at xC;rw[h9]at xC;refine⟨xC.SL,xC.Iw,xC.O6,rfl,xC.OY⟩);obtain⟨xA,pX,aFI,Lm⟩:=D9 (show IC ((W5.setCell ⟨gA,k*6+4,none⟩<|.int .i64<|f id).setCell ⟨gA,k*6+5,none⟩<|.int .i64<|f<|-id).drew gs nm f from((VZ.1.setCell (p:=⟨gA,k*6+4,none⟩) (λe=>akZ e.symm) _).setCell (p:=⟨gA,k*6+5,none⟩) (λe=>akZ e.symm) _).keep<|bD<|bR _) ((YG.1.far (p:=⟨gA,k*6+4,none⟩) (λe=>aFJ e.symm)<|.int .i64<|f id).far (p:=⟨gA,k*6+5,none⟩) (λe=>aFJ e.symm)<|.int .i64<|f<|-id).drew ((adH.1.far (p:=⟨gA,k*6+4,none⟩) (λe=>akY e.symm)<|.int .i64<|f id).far (p:=⟨gA,k*6+5,none⟩) (λe=>akY e.symm)<|.int .i64<|f<|-id).drew<|bD<|bS (p:=⟨gA,k*6+5,none⟩) (bS (p:=⟨gA,k*6+4,none⟩) Cb.1 hgA<|.int .i64<|f id) hgA<|.int .i64<|f<|-id;have m3:¬g4=gA:=λe=>aFJ e.symm;have m1:¬some g4=some gA:=λe=>aFJ (Dn e).symm;have m2:¬some g15=some gA:=λe=>n15<|Dn e;have qL:(k:Int)<q.AP.length:=I;have qM:0<=(k:Int):=I;clear hlr hp5 I5 ZN VZ pY;try clear Bg Bq CP Fe
  try clear DX EU JI
  obtain⟨Bg,Bq,CP,Fe,-⟩:=X4.BF;obtain⟨zV,zW,zZ,aFK,aze,azf,azg,-⟩:=YZ.J9;refine Wn W5 (some gA) (.run 9 0 0<|.run 4 10 511<|.two 9 16383 (.call 14 32767<|.take 15 65535<|.take 16 131071<|.call 17 262143<|.take 18 524287<|.take 19 1048575<|.call 20 2097151<|.done) 14 32255<|.call 9 32767<|.take 15 65535<|.take 16 131071<|.call 17 262143<|.take 18 524287<|.take 19 1048575<|.call 20 2097151<|.done) λCG QR Ae Aj hS=>?_;iterate 13 refine Ah ?_
  refine QJ (i:=9) (j:=14) (FD Ae rfl) (FD Ae rfl) (λK hK=>?_) λK hK=>?_
  .have AQ:=V hS;clear hS;refine Fp (Fb rfl) ?_;go_simp;refine hK.out _ _ AQ.out λhS=>?_;clear hK K AQ;try simp only[pu]
   refine BP ?_;clear hS;intro K hK AQ;go_simp;refine hK.out _ _ AQ.out λhS=>?_;clear hK K AQ;try simp only[pu]
   iterate 2 refine Ah ?_
   refine BP ?_;clear hS;intro K hK AQ;go_simp;refine hK.out _ _ QG λhS=>?_;clear hK K AQ;try simp only[pu]
   iterate 2 refine Ah ?_
   refine BP ?_;clear hS;intro K hK AQ;go_simp;refine hK.out _ _ QG λhS=>?_;clear hK K AQ;try simp only[pu]
   refine U7 ?_;clear hS Aj Ae;intro hB;go_wp2_with fail;rw[<-XI];go_roundw;case rel=>exact⟨_,_,_,⟨k+1,I,BH,HLr.1,xA.1,pX.1,aFI.1,Lm.1⟩,rfl,rfl,rfl⟩
   exact BJ
  have AQ:=V hS;clear hS;refine Fp (Fb rfl) ?_;go_simp;refine hK.out _ _ AQ.out λhS=>?_;clear hK K AQ;try simp only[pu]
  refine BP ?_;clear hS;intro K hK AQ;go_simp;refine hK.out _ _ AQ.out λhS=>?_;clear hK K AQ;try simp only[pu]
  iterate 2 refine Ah ?_
  refine BP ?_;clear hS;intro K hK AQ;go_simp;refine hK.out _ _ QG λhS=>?_;clear hK K AQ;try simp only[pu]
  iterate 2 refine Ah ?_
  refine BP ?_;clear hS;intro K hK AQ;go_simp;refine hK.out _ _ QG λhS=>?_;clear hK K AQ;try simp only[pu]
  refine U7 ?_;clear hS Aj Ae;intro hB;go_wp2_with fail;rw[<-XI];go_roundw;case rel=>exact⟨_,_,_,⟨k+1,I,BH,HLr.1,xA.1,pX.1,aFI.1,Lm.1⟩,rfl,rfl,rfl⟩
  exact BJ
 obtain rfl:k=q.AP.length:=I;try clear Bg Bq CP Fe
 try clear DX EU JI
 obtain⟨Bg,Bq,CP,Fe,-⟩:=X4.BF;obtain⟨BX,Bf,Bh,CS,UL,WS,aF⟩:=X2.BF;go_wp2_with fail;have hab:NY f bl q.AP.length=bl.map λx=>(fA f x.1,x.2):=by rw[<-fB.1];exact axS f bl
 have hP:=HP.1;rw[hab]at hP;have hre:r=⟨q.nodes,(bl.map<|λx=>(fA f x.1,x.2)).map (·.1),XK sl.length⟩:=by
  rw[<-vN.1];have e1:(BN q).length=sl.length:=RD.1.symm;have e2:(bl.map<|λx=>(fA f x.1,x.2)).map (·.1)=q.AP.map (adh q O):=by rw[<-YI.1,KP,KP];refine yD λx _=>?_;unfold adh;rw[Uj.1,qJ.1];rfl
  rw[e1,e2,<-YK.1,<-pV.1];rfl
 have hrn:r.nodes.length=q.nodes.length:=by rw[hre]
 have hra:r.AP.length=q.AP.length:=by rw[hre];simp[fB.1]
 have hrf:r.faces.length=sl.length:=by rw[hre];exact akt _
 have hgw:w.heap.size<=g2:=I;refine L6 (g:=g2) (cs:=#[.slice NC q.nodes.length ND,.slice Tq q.AP.length M,.slice Af sl.length cf]) rfl aDC rfl rfl (AO.lM CW.1)<|.inr ⟨H64.1,NC,ND,Tq,M,Af,cf,bl.map<|λx=>(fA f x.1,x.2),?_,?_,?_⟩;.rw[hrn,hra,hrf];rfl
 .exact bS (p:=⟨g2,2,none⟩) (bS (p:=⟨g2,1,none⟩) (bS (p:=⟨g2,0,none⟩) HB.1 hgw _) hgw _) hgw _
 rw[hrn,hra,hrf,hre];have z0:=AO.EM CW.1 0<|.slice NC q.nodes.length ND;have z1:=AO.EM z0 1<|.slice Tq q.AP.length M;exact((hP.far CW.1 BI BI BI BI 0 _).far z0 BI BI BI BI 1 _).far z1 BI BI BI BI 2 _
set_option linter.unusedSectionVars false
section
variable(p:Pl)
theorem adw(i:Int):findAr (Dz p).AP i=(findAr p.AP i).map V4:=by unfold findAr Dz;rw[List.find?_map];rfl
theorem adx(d:Int):FP (Dz p) d=(FP p d).map V4:=by
 unfold FP;split;.rfl
 exact adw p _
theorem awy(d:Int):Jh (Dz p) d=Jh p d:=by unfold Jh;rw[adx];cases FP p d<;>rfl
theorem awz(d:Int):Qv (Dz p) d=Qv p d:=by unfold Qv;rw[adx];cases FP p d<;>rfl
theorem am2(d:Int):E8 (Dz p) d=E8 p d:=by unfold E8;rw[adw];cases findAr p.AP<|Et d<;>rfl
theorem am3(d:Int):GL (Dz p) d=GL p d:=by unfold GL;rw[adw];cases findAr p.AP<|Et d<;>rfl
theorem ax0(n:Int):Dl (Dz p).AP n=Dl p.AP n:=by unfold Dl Dz;rw[Qm];rfl
theorem ady:BZ (Dz p)=BZ p:=by unfold BZ Dz;simp only[KP];rfl
theorem ax1(n:Int):DL (Dz p) n=DL p n:=by
 unfold DL;rw[ax0];have e:∀o,ltD (Dz p) o=ltD p o:=λo=>by funext d e;unfold ltD;rw[am2,am2]
 show(match JW p.nodes n with|none=>_|some x=>_)=_;cases JW p.nodes n with|none=>rfl|some x=>simp only[e]
theorem ax2:FU (Dz p)=FU p:=by funext d;unfold FU;rw[adx,awy,ax1,Option.isSome_map]
theorem aFL:CV (Dz p)=CV p:=by unfold CV;rw[ax2,ady]
theorem aBq:EI (Dz p)=EI p:=by funext X;unfold EI;have e:Qv (Dz p)=Qv p:=funext<|awz p;rw[e]
theorem ax3:DV (Dz p)=DV p:=by funext X;unfold DV;have e:GL (Dz p)=GL p:=funext<|am3 p;rw[e]
theorem ax4:encS (Dz p)=encS p:=by funext X v;unfold encS;rw[ax3]
theorem adz:BN (Dz p)=BN p:=by unfold BN;rw[aFL,aBq]
theorem ae0:Gj (Dz p)=Gj p:=by unfold Gj;rw[aFL,aBq]
theorem aFM:F8 (Dz p)=F8 p:=by funext v;unfold F8;rw[adz,aBq,ax4]
theorem ax5:MZ (Dz p)=MZ p:=by funext c;unfold MZ;rw[am3]
theorem adQ:Mc (Dz p)=Mc p:=by funext b;unfold Mc;rw[ae0,aFM,ax5]
theorem ax6(i:Int):JJ (Dz p).AP i=JJ p.AP i:=by unfold JJ Dz;rw[KP];rfl
theorem am4:Sr (Dz p)=Sr p:=by funext b;unfold Sr;rw[aFM];simp only[ax6];rfl
theorem am5:GN (Dz p)=GN p:=by funext b;unfold GN;rw[adQ]
theorem am6(a:Ar):aEo (Dz p) (V4 a)↔aEo p a:=Iff.rfl
end
def RP(p q:Pl):Prop:=Dz p=Dz q
theorem RP.nodes{p q:Pl}(h:RP p q):p.nodes=q.nodes:=by have e:Dz p=Dz q:=h;exact show(Dz p).nodes=(Dz q).nodes by rw[e]
theorem RP.AP{p q:Pl}(h:RP p q):p.AP.map V4=q.AP.map V4:=by have e:Dz p=Dz q:=h;exact show(Dz p).AP=(Dz q).AP by rw[e]
theorem RP.map{p q:Pl}(h:RP p q){α:Type}(f:Ar->α)(c:∀a,f (V4 a)=f a):p.AP.map f=q.AP.map f:=by have:=congrArg (List.map f) h.AP;rw[KP,KP]at this;have e:f∘V4=f:=funext c;rwa[e]at this
section
variable{p q:Pl}(h:RP p q)
include h
theorem RP.BZ:BZ p=BZ q:=by rw[<-ady p,<-ady q,h]
theorem RP.CV:CV p=CV q:=by rw[<-aFL p,<-aFL q,h]
theorem RP.EI:EI p=EI q:=by rw[<-aBq p,<-aBq q,h]
theorem RP.BN:BN p=BN q:=by rw[<-adz p,<-adz q,h]
theorem RP.Gj:Gj p=Gj q:=by rw[<-ae0 p,<-ae0 q,h]
theorem RP.F8:F8 p=F8 q:=by rw[<-aFM p,<-aFM q,h]
theorem RP.GN:GN p=GN q:=by rw[<-am5 p,<-am5 q,h]
theorem RP.Mc:Mc p=Mc q:=by rw[<-adQ p,<-adQ q,h]
theorem RP.Sr:Sr p=Sr q:=by rw[<-am4 p,<-am4 q,h]
theorem RP.valid(hv:Valid p)(h1:q.faces.length<=64)(h2:QS q.faces=true)(h3:∀f∈q.faces,LJ f=false)(U:Vm q=true):Valid q where
 lim:=by
  have s:=hv.lim;unfold Jr at s⊢;simp only[Rl,IL]at s⊢;obtain⟨a1,⟨a2,a3⟩,-⟩:=s;rw[<-h.nodes];have e1:q.AP.any (λa=>decide<|64<a.via.length)=p.AP.any λa=>decide<|64<a.via.length:=by rw[any_map' q.AP,any_map' p.AP,h.map (λa=>decide<|64<a.via.length) λa=>rfl]
  have e2:p.AP.length=q.AP.length:=by simpa using congrArg List.length h.AP
  rw[e1,<-e2];exact⟨a1,⟨a2,a3⟩,I⟩
 ord:=by have ho:=hv.ord;unfold SB at ho⊢;rw[EC,EC]at ho⊢;rw[<-h.nodes,<-h.map (·.id) λa=>rfl];exact⟨ho.1,h2⟩
 rng:=by
  have c:=hv.rng;unfold Ou at c⊢;rw[EC]at c⊢;have ep:Vg q=Vg p:=by unfold Vg;rw[<-h.nodes,List.flatMap_def,List.flatMap_def,h.map (·.via) λa=>rfl]
  rw[ep];refine⟨?_,c.2⟩;have h0:=c.1;rw[Rh,Xg]at h0⊢;rw[<-h.nodes,<-h.map (·.id) λa=>rfl];intro x j;rcases F9.1 j with j|j;.exact h0 x<|O8 _ j
  rw[h3 x j];simp
 dup:=by have:=hv.dup;rwa[h.nodes]at this
 ends:=by
  have:=hv.ends;rw[all_map']at this⊢;rw[<-this];congr 1;have e:KD q=KD p:=by funext a;unfold KD;rw[h.nodes]
  rw[e];exact(h.map (KD p)<|λa=>rfl).symm
 sides:=U
 abw:=by
  have M:(p.AP.map (·.id)).Pairwise (·<·):=hv.sound.AP;have z:(q.AP.map (·.id)).Pairwise (·<·):=by rw[<-h.map (·.id) λa=>rfl];exact M
  have hb:(Dz p).AP.map (·.id)=p.AP.map (·.id):=by unfold Dz;simp only[KP];rfl
  have hb':(Dz q).AP.map (·.id)=q.AP.map (·.id):=by unfold Dz;simp only[KP];rfl
  have o:∀r:Pl,(r.AP.map (·.id)).Pairwise (·<·)->(Nr (Dz r)=true↔Nr r=true):=λr c=>by
   have C:(Dz r).AP.map (·.id)=r.AP.map (·.id):=by unfold Dz;simp only[KP];rfl
   rw[agi r c,agi (Dz r)<|by rw[C];exact c];refine and_congr ?_ ?_
   .show(∀a∈r.AP.map V4,aEo (Dz r) a)↔_;constructor;.exactλg a K=>(am6 r a).1<|g _<|H6 K
    rintro g a K;obtain⟨b,hb,rfl⟩:=EP.1 K;exact(am6 r b).2<|g b hb
   show List.Pairwise (aA3<|Dz r) (r.AP.map V4)↔_;rw[H9];exact Iff.rfl
  have T:=(o p M).2 hv.abw;have h6:Dz p=Dz q:=h;rw[h6]at T;exact(o q z).1 T
end
set_option linter.unusedSectionVars false
theorem am7{α β:Type}[DecidableEq β](g:α->β)(O:List α):∀{c:List β},c.Nodup->(c.flatMap λf=>O.filter<|λX=>decide<|g X=f).Perm (O.filter<|λX=>decide<|g X∈c)
 |[],_=>by simp|f::c,h=>by
  obtain⟨j,hn⟩:=lD.1 h;rw[LC];refine((am7 g O hn).append_left _).trans ?_;have o:O.filter (λX=>decide<|g X=f)=(O.filter<|λX=>decide<|g X∈f::c).filter λX=>decide<|g X=f:=by rw[aDu];congr 1;funext X;by_cases e:g X=f<;>simp[e]
  have s:O.filter (λX=>decide<|g X∈c)=(O.filter<|λX=>decide<|g X∈f::c).filter λX=>!decide (g X=f):=by
   rw[aDu];congr 1;funext X;by_cases e:g X=f;.simp[e,j]
   simp[e]
  rw[o,s];exact aa5 _ _
theorem ax7{α β:Type}[DecidableEq β](g:α->β)(O:List α){c:List β}(hn:c.Nodup)(j:∀x∈O,g x∈c):(c.flatMap λf=>O.filter<|λX=>decide<|g X=f).Perm O:=by
 refine(am7 g O hn).trans ?_;have:O.filter (λX=>decide<|g X∈c)=O:=by rw[List.filter_eq_self];intro x o;rw[DI];exact j x o
 rw[this]
theorem am8{α β:Type}(f g:α->List β):∀l:List α,(l.flatMap λa=>f a++g a).Perm<|l.flatMap f++l.flatMap g|[]=>by simp|a::l=>by simp only[LC];refine((am8 f g l).append_left _).trans ?_;rw[Jv,Jv];refine List.Perm.append_left _ ?_;rw[<-Jv,<-Jv];exact List.Perm.append_right _ aaB
def aBr(r:Rg):List Int:=r.out++r.inn.flatten
section
variable{p:Pl}(h:Valid p)
include h
theorem Valid.ax8:(Ku p).Nodup:=by
 unfold Ku;refine lD.2 ⟨λhm=>?_,?_⟩;.obtain⟨X,-,e⟩:=EP.1 hm;cases e
 have hn:=h.aEX;unfold List.Nodup at hn⊢;rw[H9];exact hn.imp λc e=>c<|by injection e
omit h in theorem ax9(v:Pt):F8 p v∈Ku p:=by unfold Ku;cases e:F8 p v with|none=>exact ED|some X=>exact FW _<|H6<|ajd e
theorem Valid.axA:(((Ku p).map<|Ut p).flatMap aBr).Perm<|BZ p:=by
 rw[Qm];have j:((Ku p).flatMap λb=>aBr<|Ut p b).Perm<|(Ku p).flatMap (λb=>b.getD [])++(Ku p).flatMap λb=>(Mc p b).flatten:=am8 _ _ _;refine j.trans ?_;have o:(Ku p).flatMap (λb=>b.getD [])=(BN p).flatten:=by unfold Ku;rw[LC,Qm,aDv];rfl
 have s:((Ku p).flatMap λb=>(Mc p b).flatten).Perm (Gj p).flatten:=by
  have g:=ax7 (λc=>F8 p<|MZ p c) (Gj p) h.ax8 λc _=>ax9 _;have z:((Ku p).flatMap λb=>(Mc p b).flatten)=((Ku p).flatMap λf=>(Gj p).filter<|λX=>decide<|F8 p (MZ p X)=f).flatten:=by rw[aDv (L:=(Ku p).flatMap _),aa6];congr 1;funext b;rw[aDv];rfl
  rw[z];exact g.flatten
 rw[o];refine(s.append_left _).trans ?_;rw[<-aE1];refine List.Perm.trans ?_ h.ac8;refine List.Perm.flatten ?_;unfold BN Gj;exact aa5 _ _
end
set_option linter.unusedSectionVars false
theorem am9{α β:Type}(f:α->List β){l:List α}{a:α}(h:a∈l):(f a).length<=(l.flatMap f).length:=by obtain⟨s,t,rfl⟩:=List.append_of_mem h;simp only[LY,LC,EK];omega
theorem pq{α β:Type}(f:α->List β)(h:∀a,(f a).length<=1)(l:List α):(l.flatMap f).length<=l.length:=by have:=aD0 l f 1 λa _=>h a;omega
theorem adR(y:Int)(q:Pt×Pt):(Ll y q).length<=1:=by
 unfold Ll;repeat' split
 all_goals simp
theorem amA(y:Int)(q:Pt×Pt):(IG y q).length<=1:=by unfold IG;split<;>simp
theorem amB(c:List Nd)(y:Int)(i:Int):(Q7 c y i).length<=1:=by
 unfold Q7;split;.split<;>simp
 simp
section
variable{p:Pl}(h:Valid p)
include h
theorem Valid.axB{b:Option<|List Int}(hb:b∈Ku p):(GN p b).flatten.length<=512:=by
 have c:=h.axA.length_eq;have h1:=am9 aBr<|H6 (f:=Ut p) hb;have h2:aBr (Ut p b)=(GN p b).flatten:=by unfold aBr GN;rw[List.flatten_cons];rfl
 rw[h2]at h1;have h3:(BZ p).length=2*p.AP.length:=by unfold BZ;simp;omega
 have j:=(aAI h.lim).2.2.1;omega
theorem Valid.axC{X:List Int}(c:∀d∈X,d∈BZ p):(DV p X).length<=X.length*65:=by unfold DV;refine aD0 X _ 65 λd hd=>?_;obtain⟨a,j,-,e⟩:=h.Ug<|c d hd;have h1:=En p a;have h2:=h.Td j;rw[e];unfold EO;rw[D6,Oo];omega
omit h in theorem axD(b:Option<|List Int):FZ p b=DV p (GN p b).flatten:=by unfold FZ DV;rw[aDv,aa6];rfl
theorem Valid.amC{b:Option<|List Int}(hb:b∈Ku p){c:List Int}(j:c∈GN p b):∀d∈c,d∈BZ p:=λd hd=>by
 unfold GN at j;rcases Dv.1 j with e|j
 .unfold Ku at hb;rcases Dv.1 hb with rfl|hb;.rw[e]at hd;cases hd
  obtain⟨X,o,rfl⟩:=EP.1 hb;have e':c=X:=e;subst e';exact(h.Fv (Gl.1 o).1).2 d hd
 exact(h.Fv (VT.1 (Nc.1 j).1).1).2 d hd
theorem Valid.amD{b:Option<|List Int}(hb:b∈Ku p):(FZ p b).length<=33280:=by rw[axD];have h1:=h.axB hb;have h2:=h.axC (X:=(GN p b).flatten) (λd hd=>by obtain⟨c,j,hd⟩:=aCU.1 hd;exact h.amC hb j d hd);omega
theorem Valid.axE(b:Option<|List Int):(Sr p b).length<=256:=by unfold Sr;rw[D6];have:=NH (λn=>decide<|JJ p.AP n.id=0/\F8 p n.pt=b) p.nodes;have:=h.bg;omega
end
def Yv(p:Pl)(C:List<|List Int)(k:Nat):List<|Pt×Pt:=(C.take k).flatMap<|DV p
theorem awe(p:Pl){C:List<|List Int}{k:Nat}(hk:k<C.length):Yv p C (k+1)=Yv p C k++DV p C[k]:=by unfold Yv;rw[Eu hk,LY];simp
theorem awf(p:Pl)(C:List<|List Int)(k:Nat):(Yv p C k).length<=(C.flatMap<|DV p).length:=by
 have e:C.flatMap (DV p)=Yv p C k++(C.drop k).flatMap (DV p):=by unfold Yv;rw[<-LY,gK]
 rw[e,EK];omega
theorem foldl_snoc{α:Type}:∀(l s:List α),l.foldl (λs q=>s++[q]) s=s++l|[],s=>(I9 s).symm|q::l,s=>by rw[V8,foldl_snoc l];simp
theorem amE:∀(m:Nat)(l:List Int)(h:2*m+1<l.length),Ju (l.take<|2*(m+1))=Ju (l.take<|2*m)++Jq (l[2*m]'(by omega)) l[2*m+1]
 |0,a::b::l,_=>by show Ju [a,b]=Ju []++Jq a b;unfold Ju Ju;simp|m+1,a::b::l,h=>by
  simp only[Gy]at h;have c:=amE m l I;have j:(a::b::l).take (2*(m+1+1))=a::b::l.take (2*(m+1)):=by rw[show 2*(m+1+1)=2*(m+1)+1+1 by omega];rfl
  have o:(a::b::l).take (2*(m+1))=a::b::l.take (2*m):=by rw[show 2*(m+1)=2*m+1+1 by omega];rfl
  rw[j,o,Ju,Ju,c,Jv];rfl
theorem amF:∀(m:Nat)(l:List Int),2*m<=l.length->l.length<=2*m+1->Ju (l.take<|2*m)=Ju l
 |0,l,_,h=>by match l,h with|[],_=>rfl|[a],_=>rfl
 |m+1,[],h,_=>by simp at h|m+1,[a],h,_=>by simp at h;omega|m+1,a::b::l,h1,h2=>by
  simp only[Gy]at h1 h2;have c:(a::b::l).take (2*(m+1))=a::b::l.take (2*m):=by rw[show 2*(m+1)=2*m+1+1 by omega];rfl
  rw[c,Ju,Ju,amF m l I I]
theorem amG:∀(n:Nat)(l:List Int),l.length<=n->(Ju l).length<=l.length
 |_,[],_=>by unfold Ju;simp|_,[a],_=>by unfold Ju;simp|n+1,a::b::l,h=>by
  simp only[Gy]at h;have c:=amG n l I;rw[Ju,EK];have:(Jq a b).length<=1:=by unfold Jq;split<;>simp
  simp only[Gy];omega|0,a::b::l,h=>by simp at h
theorem awg(c:List Rn):Ot (Qo []) c=[]:=rfl
theorem awh{l:List Rn}{k:Nat}(hk:k<l.length):Um (l.take<|k+1)=aBG (Um<|l.take k) l[k]:=by unfold Um;rw[Eu hk,LG];rfl
theorem awi{α:Type}{g:Nat->Option α}{N D:Nat}{v:α}(h:∀i,i<D->g i=none)(hv:g D=some v)(hD:D<N):(List.range N).findSome? g=some v:=by
 have e:List.range N=List.range D++D::(List.range N).drop (D+1):=by
  have h1:D<(List.range N).length:=by rw[Oo];exact hD
  have h2:(List.range N).take D=List.range D:=by rw[List.take_range];congr 1;omega
  have h3:(List.range N)[D]=D:=List.getElem_range _;have:=(gK D<|List.range N).symm;rw[Ql h1,h2,h3]at this;exact this
 rw[e,List.findSome?_append,List.findSome?_cons,hv];have:(List.range D).findSome? g=none:=List.findSome?_eq_none_iff.2 λi hi=>h i<|FC.1 hi;rw[this];rfl
theorem awj{α:Type}{g:Nat->Option α}{N:Nat}(h:∀i,i<N->g i=none):(List.range N).findSome? g=none:=List.findSome?_eq_none_iff.2 λi hi=>h i<|FC.1 hi
theorem aBs(p:Pl)(b:Option<|List Int){c j y:Int}(h:y<c\/j<y):midRow p b c j y=none:=by unfold midRow;rw[AZ h]
theorem awk(p:Pl)(b:Option<|List Int){c j y:Int}(h:¬(y<c\/j<y)):midRow p b c j y=(Um<|Lr p b y).2.map λx=>⟨x,y⟩:=by unfold midRow;rw[AX h]
theorem awl(p:Pl)(b:Option<|List Int){j o:Int}{D:Nat}(h:∀i,i<D->midD p b j o ((j+o)/2) i=none)(h1:o<(j+o)/2+D)(h2:(j+o)/2-D<j):uf p b j o=none:=by
 refine awj λi hi=>?_;by_cases c:i<D;.exact h i c
 unfold midD;rw[aBs p b<|.inr I,aBs p b<|.inl I];rfl
theorem awm(p:Pl)(b:Option<|List Int){j o:Int}{D:Nat}{v:Pt}(h:∀i,i<D->midD p b j o ((j+o)/2) i=none)(hv:midD p b j o ((j+o)/2) D=some v):uf p b j o=some v:=by
 refine awi h hv ?_;have:¬(o<(j+o)/2+D/\(j+o)/2-D<j):=λc=>by unfold midD at hv;rw[aBs p b<|.inr c.1,aBs p b<|.inl c.2]at hv;cases hv
 omega
