import Derived.Test.YtngoejdlompfoaaGreatJ14
set_option linter.unusedSimpArgs false
set_option linter.unusedVariables false
set_option maxRecDepth 100000
set_option maxHeartbeats 8000000
namespace Go.Proofs.YtngoejdlompfoaaGreat
open Go.RowKit Tryz
set_option linter.unusedSectionVars false
theorem asl(a b v:Pt):tw (FQ a b) (I4 a b) v=if b.y<a.y then-tw a b v else tw a b v:=by
 unfold FQ I4;split;.unfold tw;grind
 rfl
theorem asn{y:Int}{q:Pt×Pt}{x:Int}:((IG y q).countP λc=>decide<|c<=x:Int)+(if Jj ⟨x,y⟩ q.1 q.2=true then 1 else 0)=(IG y q).length:=by
 obtain⟨a,b⟩:=q;have j:Jj ⟨x,y⟩ a b=decide ((FQ a b).y<=y/\y<(I4 a b).y/\0<tw (FQ a b) (I4 a b) ⟨x,y⟩):=by rw[asl];unfold Jj FQ I4;rw[decide_eq_decide];show a.y<=y/\y<b.y/\0<tw a b ⟨x,y⟩\/b.y<=y/\y<a.y/\tw a b ⟨x,y⟩<0↔_;split<;>omega
 rw[j];unfold IG;by_cases g:(FQ a b).y<=y/\y<(I4 a b).y
 .rw[AZ g];have o:0<(I4 a b).y-(FQ a b).y:=I;have e:(FQ a b).x+Tz y a b<=x↔¬0<tw (FQ a b) (I4 a b) ⟨x,y⟩:=by unfold Tz;have:=nM (r:=(y-(FQ a b).y)*((I4 a b).x-(FQ a b).x)) (t:=x-(FQ a b).x) o;unfold tw;simp only;rw[KT<|(I4 a b).x-(FQ a b).x,KT<|(I4 a b).y-(FQ a b).y];omega
  by_cases c:0<tw (FQ a b) (I4 a b) ⟨x,y⟩;.have e':¬(FQ a b).x+Tz y a b<=x:=λg=>e.1 g c;simp[g,c,e']
  have e':=e.2 c;simp[c,e']
 rw[AX g];have:¬((FQ a b).y<=y/\y<(I4 a b).y/\0<tw (FQ a b) (I4 a b) ⟨x,y⟩):=λc=>g ⟨c.1,c.2.1⟩;simp[this]
theorem aso(y:Int)(a b:Pt):((IG y (a,b)).length:Int)%2=((if y<b.y then 1 else 0)-if y<a.y then 1 else 0)%2:=by
 unfold IG FQ I4;by_cases c:b.y<a.y
 .simp only[c,if_true];by_cases c1:b.y<=y/\y<a.y;.rw[AZ c1,AX I,AZ c1.2];rfl
  rw[AX c1];by_cases c2:y<b.y;.rw[AZ c2,AZ I];rfl
  rw[AX c2,AX I];rfl
 simp only[c,if_false];by_cases c1:a.y<=y/\y<b.y;.rw[AZ c1,AZ c1.2,AX I];rfl
 rw[AX c1];by_cases c2:y<a.y;.rw[AZ c2,AZ I];rfl
 rw[AX c2,AX I];rfl
theorem ajU{y x:Int}{a b:Pt}(U:a≠b):Dt (Ll y (a,b)) x↔Hw a b ⟨x,y⟩:=by
 have z:Hw a b ⟨x,y⟩↔Hw (FQ a b) (I4 a b) ⟨x,y⟩:=by
  unfold FQ I4;split;.exact⟨jI,jI⟩
  exact Iff.rfl
 have hly:(FQ a b).y<=(I4 a b).y:=by unfold FQ I4;split<;>omega
 rw[z];unfold Ll Hw Tz;simp only;generalize FQ a b=s at*;generalize I4 a b=t at*;have one:∀{l h n:Int},Dt [⟨l,h⟩] n↔l<=n/\n<h:=λ{l h n}=>by rw[MR];exact⟨λg=>g.resolve_right<|Nk n,.inl⟩
 have C:tw s t ⟨x,y⟩=(y-s.y)*(t.x-s.x)-(x-s.x)*(t.y-s.y):=by unfold tw;grind
 by_cases g:y<s.y\/t.y<y;.rw[AZ g];exact⟨λg2=>absurd g2<|Nk _,λg2=>I⟩
 rw[AX g];by_cases g2:s.y=t.y;.rw[AZ g2,one];have e1:y-s.y=0:=I;have K:t.y-s.y=0:=I;rw[C,e1,K,JQ,LD];omega
 rw[AX g2];have j:0<t.y-s.y:=I;have rZ:(x-s.x)*(t.y-s.y)=(y-s.y)*(t.x-s.x)->min s.x t.x<=x/\x<=max s.x t.x:=by
  intro e;by_cases c:s.x<=t.x
  .have h1:0<=(y-s.y)*(t.x-s.x):=LX I I;have h2:(y-s.y)*(t.x-s.x)<=(t.y-s.y)*(t.x-s.x):=aDz I I;have h3:0*(t.y-s.y)<=(x-s.x)*(t.y-s.y):=by rw[e,JQ];exact h1
   have M:(x-s.x)*(t.y-s.y)<=(t.x-s.x)*(t.y-s.y):=by rw[e,KT<|t.x-s.x];exact h2
   have:=aE0 h3 j;have:=aE0 M j;omega
  have h1:(y-s.y)*(t.x-s.x)<=0:=xk I I;have h2:(t.y-s.y)*(t.x-s.x)<=(y-s.y)*(t.x-s.x):=aeb I I;have h3:(x-s.x)*(t.y-s.y)<=0*(t.y-s.y):=by rw[e,JQ];exact h1
  have M:(t.x-s.x)*(t.y-s.y)<=(x-s.x)*(t.y-s.y):=by rw[e,KT<|t.x-s.x];exact h2
  have:=aE0 h3 j;have:=aE0 M j;omega
 have T:∀k:Int,k*(t.y-s.y)=(y-s.y)*(t.x-s.x)->QL ((y-s.y)*(t.x-s.x)) (t.y-s.y)=k:=by
  intro k e;have h1:=(nM (r:=(y-s.y)*(t.x-s.x)) (t:=k) j).2 I;have h2:¬QL ((y-s.y)*(t.x-s.x)) (t.y-s.y)<=k-1:=λg3=>by
   have h9:=(nM j).1 g3;have K:(k-1)*(t.y-s.y)=k*(t.y-s.y)-(t.y-s.y):=by rw[aCT,aDc]
   rw[K,e]at h9;omega
  omega
 by_cases g3:QL ((y-s.y)*(t.x-s.x)) (t.y-s.y)*(t.y-s.y)=(y-s.y)*(t.x-s.x)
 .rw[AZ g3,one];constructor;.intro o;have e:x-s.x=QL ((y-s.y)*(t.x-s.x)) (t.y-s.y):=I;rw[<-e]at g3;have:=rZ g3;omega
  rintro⟨o,-⟩;have:=T (x-s.x) I;omega
 rw[AX g3];refine⟨λo=>absurd o<|Nk _,λo=>?_⟩;exfalso;have:=T (x-s.x) I;rw[this]at g3;omega
theorem acW(x:Int):∀(n:Nat)(l:List Int),l.length=n->l.Pairwise (·<=·)->l.length%2=0->(Dt (Ju l) x↔(l.countP<|λc=>decide<|c<=x)%2=1)
 |_,[],_,_,_=>by unfold Ju;exact⟨λg=>absurd g<|Nk _,λg=>by simp at g⟩|_,[a],_,_,h=>by simp at h|0,a::b::l,hn,_,_=>by simp at hn|1,a::b::l,hn,_,_=>by simp at hn|n+2,a::b::l,hn,hs,h=>by
  have h1:=I8.1 hs;have h2:=I8.1 h1.2;have o:=acW x n l (by simpa using hn) h2.2 (by simp only[Gy]at h;omega);have s:=h1.1 b ED;unfold Ju;rw[Ry,aDM,o];by_cases c1:a<=x
  .by_cases c2:b<=x;.rw[aa9<|by simpa using c1,aa9<|by simpa using c2];omega
   have:l.countP (λc=>decide<|c<=x)=0:=by rw[aCh];intro c j;have:=h2.1 c j;simp;omega
   rw[aa9<|by simpa using c1,List.countP_cons_of_neg<|by simpa using c2,this];omega
  have:(a::b::l).countP (λc=>decide<|c<=x)=0:=by
   rw[aCh];intro c j;rcases Dv.1 j with rfl|j;.simpa using c1
   have:=h1.1 c j;simp;omega
  have h3:l.countP (λc=>decide<|c<=x)=0:=by rw[aCh]at this⊢;exactλc j=>this c<|FW _<|FW _ j
  rw[this,h3];omega
theorem ajV(y x:Int):∀S:List<|Pt×Pt,((S.flatMap<|IG y).countP λc=>decide<|c<=x:Int)+(S.map λq=>if Jj ⟨x,y⟩ q.1 q.2=true then(1:Int)else 0).sum=(S.flatMap<|IG y).length|[]=>rfl|q::S=>by have e:=asn (y:=y) (q:=q) (x:=x);have j:=ajV y x S;rw[LC,aa8,EK,FB,H8];omega
theorem aib(y:Int):∀S:List<|Pt×Pt,(((S.flatMap<|IG y).length:Nat):Int)=(S.map λq=>((IG y q).length:Int)).sum|[]=>rfl|q::S=>by have c:=aib y S;rw[LC,EK,FB,H8];omega
theorem acX{α:Type}{f:α->List Rn}{n:Int}:∀{l:List α},Dt (l.flatMap f) n↔∃a∈l,Dt (f a) n
 |[]=>⟨λg=>absurd g<|Nk _,λ⟨a,ha,_⟩=>by cases ha⟩|a::l=>by
  rw[LC,Ry,acX];constructor
  .rintro(g|⟨b,hb,g⟩);.exact⟨a,ED,g⟩
   exact⟨b,FW _ hb,g⟩
  rintro⟨b,hb,g⟩;rcases Dv.1 hb with rfl|hb;.exact .inl g
  exact .inr ⟨b,hb,g⟩
section
variable{p:Pl}(h:Valid p)
include h
theorem Valid.aE4{X:List Int}(o:X∈BN p){c:List Int}(j:c∈GN p (some X)):c∈CV p:=by
 unfold GN at j;rcases Dv.1 j with rfl|j;.exact(Gl.1 o).1
 exact(VT.1 (Nc.1 j).1).1
theorem Valid.aic{L:List<|List Int}(j:∀c∈L,c∈CV p):G8 p<|Ny L:=by induction L with|nil=>exactλn _=>Uu _ _ λa _=>by show(0:Int)*_=0;rw[JQ]|cons c L o=>exact(h.Px<|j c ED).add<|o λd hd=>j d<|FW _ hd
theorem Valid.acY{X:List Int}(o:X∈BN p)(x y:Int):((FZ p<|some X).flatMap<|IG y).length%2=0/\(((FZ p<|some X).flatMap<|IG y).countP (λc=>decide<|c<=x)%2=1↔Nu p (Ny<|GN p<|some X) ⟨x,y⟩%2=1):=by
 have s:∀c∈GN p<|some X,c∈CV p\/c=[]:=λc j=>.inl<|h.aE4 o j;have z:=h.ajT s (λq=>((IG y q).length:Int)) (λa b=>(if y<b.y then 1 else 0)-if y<a.y then 1 else 0) λa b=>aso y a b;rw[h.su (h.aic λc j=>h.aE4 o j) λu=>if y<u.y then 1 else 0]at z;have C:=aib y<|FZ p<|some X;have K:=ajV y x<|FZ p<|some X;have M:=h.ajT s (λq=>if Jj ⟨x,y⟩ q.1 q.2=true then(1:Int)else 0) (Ux ⟨x,y⟩) (λa b=>by
  show(if Jj ⟨x,y⟩ a b=true then(1:Int)else 0)%2=_;rw[ai2];unfold Ux;split;.rfl
  split<;>rfl);unfold Nu;unfold FZ at C K⊢;omega
theorem Valid.aE5{X:List Int}(z:X∈BN p){q:Pt×Pt}(j:q∈FZ p (some X)):∃a∈p.AP,(∃c∈GN p<|some X,a.id∈c\/-a.id∈c)/\∃k,k+1<(AV p a).length/\q=((AV p a).getD k AY,(AV p a).getD (k+1) AY):=by obtain⟨c,s,j⟩:=Fj.1 j;obtain⟨a,C,o,k,hk,e⟩:=h.aAn (h.Fv<|h.aE4 z s).2 j;exact⟨a,C,⟨c,s,o⟩,k,hk,e⟩
theorem Valid.aE6{X:List Int}(s:X∈BN p){a:Ar}(j:a∈p.AP){c:List Int}(o:c∈GN p (some X))(hm:a.id∈c\/-a.id∈c){k:Nat}(hk:k+1<(AV p a).length):((AV p a).getD k AY,(AV p a).getD (k+1) AY)∈FZ p (some X):=Fj.2 ⟨c,o,h.aEG j hm hk⟩
omit h in theorem asq{L:List<|List Int}{i:Int}(h1:∀c∈L,i∉c)(h2:∀c∈L,-i∉c):Ny L i=0:=by unfold Ny;refine Uu _ _ λc hc=>?_;unfold BK;rw[AX<|h1 c hc,AX<|h2 c hc];rfl
theorem Valid.aie{b:Option<|List Int}{x y:Int}:Dt (VG p b y) x↔∃n∈p.nodes,JJ p.AP n.id=0/\F8 p n.pt=b/\n.pt=⟨x,y⟩:=by
 unfold VG;rw[acX];have c:∀n∈p.nodes,JW p.nodes n.id=some n:=λn hn=>zS (λx:Nd=>x.id) p.nodes h.sound.nodes n hn;have one:∀{l h n:Int},Dt [⟨l,h⟩] n↔l<=n/\n<h:=λ{l h n}=>by rw[MR];exact⟨λg=>g.resolve_right<|Nk n,.inl⟩
 constructor
 .rintro⟨id,hid,g⟩;unfold Sr at hid;obtain⟨n,hn,rfl⟩:=EP.1 hid;rw[Nc,DI]at hn;unfold Q7 at g;rw[c n hn.1]at g;simp only at g;split at g;.rename_i e;rw[one]at g;exact⟨n,hn.1,hn.2.1,hn.2.2,by rw[Pt.ext_iff'];exact⟨by simp only;omega,e⟩⟩
  exact absurd g<|Nk _
 rintro⟨n,hn,h1,h2,h3⟩;refine⟨n.id,H6<|Nc.2 ⟨hn,by rw[DI];exact⟨h1,h2⟩⟩,?_⟩;unfold Q7;rw[c n hn];simp only[h3,if_true];rw[one];omega
end
set_option linter.unusedSectionVars false
def aBL(p:Pl)(v:Pt):Prop:=∃a∈p.AP,∃k,k+1<(AV p a).length/\Hw ((AV p a).getD k AY) ((AV p a).getD (k+1) AY) v
def vO(p:Pl)(b:Option<|List Int)(v:Pt):Prop:=(∀n∈p.nodes,n.pt≠v)/\¬aBL p v/\F8 p v=b
section
variable{p:Pl}(h:Valid p)
include h
theorem Valid.asr{n:Nd}(hn:n∈p.nodes)(hd:JJ p.AP n.id≠0):aBL p n.pt:=by
 have o:∃a∈p.AP,a.fr=n.id\/a.dst=n.id:=Iq λC=>hd (by unfold JJ;refine Uu _ _ λa c=>?_;rw[AX<|λe=>C ⟨a,c,.inl e⟩,AX<|λe=>C ⟨a,c,.inr e⟩];rfl);obtain⟨a,c,s⟩:=o;have K:=En p a;have j:nodeAt p n.id=n.pt:=h.sound.RQ hn;rcases s with e|e
 .have z:(AV p a).getD 0 AY=n.pt:=by rw[WV,e,j]
  refine⟨a,c,0,I,?_⟩;rw[z];exact⟨Zv _ _,I⟩
 have z:(AV p a).getD ((AV p a).length-1) AY=n.pt:=by rw[WX,e,j]
 refine⟨a,c,(AV p a).length-2,I,?_⟩;rw[show(AV p a).length-2+1=(AV p a).length-1 by omega,z];exact⟨Zw _ _,I⟩
theorem Valid.aii{X:List Int}(z:X∈BN p){x y:Int}(nv:Bl ⟨x,y⟩=true):Dt (Lr p (some X) y) x↔vO p (some X) ⟨x,y⟩:=by
 obtain⟨o1,o2⟩:=h.acY z x y;have hs:=aBF<|(FZ p<|some X).flatMap<|IG y;have U:Dt (Ju<|ZY<|(FZ p<|some X).flatMap<|IG y) x↔Nu p (Ny<|GN p<|some X) ⟨x,y⟩%2=1:=by rw[<-o2,<-hs.1.countP_eq];exact acW x _ _ rfl hs.2<|by rw[hs.1.length_eq];exact o1
 have hm:=(yu _ _ (Wp<|Ju<|ZY<|(FZ p<|some X).flatMap<|IG y).1 (Wp<|(FZ p<|some X).flatMap (Ll y)++VG p (some X) y).1).2.2 x;have hr:Dt (Lr p (some X) y) x↔Nu p (Ny<|GN p<|some X) ⟨x,y⟩%2=1/\¬Dt ((FZ p<|some X).flatMap<|Ll y) x/\¬Dt (VG p (some X) y) x:=by show Dt (Ot _ _) x↔_;rw[hm,(Wp _).2,(Wp _).2,U,Ry,not_or]
 have htk:Dt ((FZ p<|some X).flatMap<|Ll y) x↔∃q∈FZ p<|some X,Hw q.1 q.2 ⟨x,y⟩:=by
  rw[acX];constructor;.rintro⟨q,K,g⟩;obtain⟨a,s,-,k,hk,rfl⟩:=h.aE5 z K;exact⟨_,K,(ajU (h.distinct s hk).1).1 g⟩
  rintro⟨q,K,g⟩;obtain⟨a,s,-,k,hk,rfl⟩:=h.aE5 z K;exact⟨_,K,(ajU (h.distinct s hk).1).2 g⟩
 rw[hr,htk,h.aie];have hcl:G8 p<|Ny<|GN p<|some X:=h.aic λc C=>h.aE4 z C;constructor
 .rintro⟨T,g2,g3⟩;have M:¬aBL p ⟨x,y⟩:=by rintro⟨a,s,k,hk,o⟩;have hn1:∀c∈GN p<|some X,a.id∉c:=λc C hm=>g2 ⟨_,h.aE6 z s C (.inl hm) hk,o⟩;have hn2:∀c∈GN p<|some X,-a.id∉c:=λc C hm=>g2 ⟨_,h.aE6 z s C (.inr hm) hk,o⟩;have hoff:Tf p (Ny<|GN p<|some X) ⟨x,y⟩:=λb hb hne j hj aBM=>hne (by
    refine asq (λc C hm=>?_)<|λc C hm=>?_;.exact g2 ⟨_,h.aE6 z hb C (.inl hm) hj,aBM⟩
    exact g2 ⟨_,h.aE6 z hb C (.inr hm) hj,aBM⟩);have w:=h.asi hcl s hk nv o hoff;rw[h.ash z (Ij.2 ⟨a,s,.inl rfl⟩) hn1]at w;rw[w]at T;cases T
  have w:=h.ajS nv (λa s k hk o=>M ⟨a,s,k,hk,o⟩) z;have hh:F8 p ⟨x,y⟩=some X:=Iq λc=>by rw[w,AX c]at T;cases T
  refine⟨λn hn e=>?_,M,hh⟩;by_cases hd:JJ p.AP n.id=0;.exact g3 ⟨n,hn,hd,by rw[e];exact hh,e⟩
  have:=h.asr hn hd;rw[e]at this;exact M this
 rintro⟨T,g2,g3⟩;have w:=h.ajS nv (λa s k hk o=>g2 ⟨a,s,k,hk,o⟩) z;rw[AZ g3]at w;refine⟨by rw[w];rfl,?_,?_⟩;.rintro⟨q,K,g⟩;obtain⟨a,s,-,k,hk,rfl⟩:=h.aE5 z K;exact g2 ⟨a,s,k,hk,g⟩
 rintro⟨n,hn,-,-,e⟩;exact T n hn e
end
set_option linter.unusedSectionVars false
theorem aE7(P:List Pt):(EO P).length=P.length-1:=by unfold EO;simp
theorem aij{P:List Pt}{k:Nat}(hk:k<(EO P).length):(EO P)[k]=(P.getD k AY,P.getD (k+1) AY):=by unfold EO;simp
theorem acd{P:List Pt}{k:Nat}(hk:k<P.length):P.reverse.getD k AY=P.getD (P.length-1-k) AY:=by rw[G5,G5,List.getElem?_reverse hk]
theorem asu(P:List Pt):EO P.reverse=((EO P).map λq=>(q.2,q.1)).reverse:=by apply Xf (by simp[aE7]);intro k h1 h2;simp only[aE7,Z9]at h1;rw[aij,List.getElem_reverse,Ib,aij];simp only[D6,aE7];rw[acd I,acd I];rw[show P.length-1-1-k+1=P.length-1-k by omega,show P.length-1-(k+1)=P.length-1-1-k by omega]
theorem asv(a b v:Pt):Eh a b v=Eh b a v:=by
 unfold Eh;have c:ES [a,b,v]=ES [b,a,v]:=by unfold ES;simp only[aCM,aDb];cases Bl a<;>cases Bl b<;>rfl
 have t:tw b a v=-tw a b v:=by unfold tw;grind
 rw[c,t,y8 b.x a.x,y9 b.x a.x,y8 b.y a.y,y9 b.y a.y];congr 1;by_cases h:tw a b v=0;.rw[h];rfl
 simp[h]
theorem aik(v a b:Pt):Jj v a b=Jj v b a:=by
 have t:tw b a v=-tw a b v:=by unfold tw;grind
 unfold Jj;rw[t,decide_eq_decide];omega
def Iz(p:Pl)(d:Int):List Pt:=if 0<d then GL p d else(GL p d).reverse
def Si(p:Pl)(X:List Int):List<|Pt×Pt:=X.flatMap λd=>EO<|Iz p d
def aE8(p:Pl)(X:List Int)(v:Pt):Bool:=(Uy v<|Si p X).2&&!(Uy v<|Si p X).1
theorem ail(p:Pl)(d:Int)(v:Pt):((EO<|Iz p d).any λq=>Eh q.1 q.2 v)=((EO<|GL p d).any λq=>Eh q.1 q.2 v)/\((EO<|Iz p d).map λq=>if Jj v q.1 q.2 then(1:Int)else 0).sum=((EO<|GL p d).map λq=>if Jj v q.1 q.2 then(1:Int)else 0).sum:=by
 unfold Iz;split;.exact⟨rfl,rfl⟩
 rw[asu];refine⟨?_,?_⟩;.rw[List.any_reverse,lH];congr 1;funext q;exact asv _ _ _
 rw[List.map_reverse,List.sum_reverse,KP];congr 2;funext q;simp only[Function.comp];rw[aik]
theorem ain(p:Pl)(X:List Int)(v:Pt):aE8 p X v=encS p X v:=by
 unfold aE8 encS;rw[aEE,aEE];have h1:((Si p X).any λq=>Eh q.1 q.2 v)=(DV p X).any λq=>Eh q.1 q.2 v:=by unfold Si DV;rw[List.any_flatMap,List.any_flatMap];congr 1;funext d;exact(ail p d v).1
 have h2:((Si p X).map λq=>if Jj v q.1 q.2 then(1:Int)else 0).sum=((DV p X).map λq=>if Jj v q.1 q.2 then(1:Int)else 0).sum:=by unfold Si DV;clear h1;induction X with|nil=>rfl|cons d X c=>rw[LC,LC,Gt,Gt,PX,PX,c,(ail p d v).2]
 rw[h1,h2]
def aY(w:World)(v:Value)(L:List<|List Int×SV):Prop:=Sl w v L.length (L.flatMap JL)/\∀x∈L,Ints w (.slice x.2.a x.2.n x.2.c) x.1
theorem aY.mono{w w':World}{v:Value}{L:List<|List Int×SV}(h:aY w v L)(hb:AU w w'):aY w' v L:=⟨Sl.mono h.1 hb,λx c=>(h.2 x c).mono hb⟩
theorem VD.read{w:World}{B:Nat}{v:Value}{L:List<|List Int×SV}(h:VD w B v L):aY w v L:=⟨h.1.sl,λx c=>(h.2 x c).sl⟩
theorem Row.cy{w:World}{A:Option Addr}{l:List<|List Int×SV}(h:Row w A<|l.flatMap JL){k:Nat}(hk:k<l.length):∃b o,A=some ⟨b,o,none⟩/\b<w.heap.size/\w.cell? ⟨b,o+k,none⟩=some (.slice l[k].2.a l[k].2.n l[k].2.c):=by obtain⟨b,o,j,hb,s⟩:=h.at_ (n:=1) (λ_=>rfl) hk I;exact⟨b,o,j,hb,by simpa using s 0 _ rfl⟩
def Nz(x:AD):List<|List Int×SV:=(x.out,x.ov)::x.inn
theorem ace(x:AD)(w:World)(U:Sl w (BO x.iv) x.inn.length<|x.inn.flatMap JL)(hl:x.inn.length<=100000):Calls prog 82 #[.agg #[.int .i64 x.tw,BO x.ov,BO x.iv,BO x.av]] w λe w'=>(∃A c,e=.returned (.slice A (Nz x).length c)/\Own w' w.heap.size 24 1 JL (.slice A (Nz x).length c) (Nz x))/\AU w w':=by obtain⟨tw,o,⟨z,on,C⟩,j,⟨ia,IX,ic⟩,Ci,⟨aa,an,ac⟩⟩:=x;unfold BO Nz at*;simp only at U hl⊢;have HS:=V U;obtain⟨Ai,ci,he,-⟩:=U;injection he with e1 e2 e3;subst e2;have HO:=V<|Own.lit (w.alloc<|.cells #[.int .i64 tw,.slice z on C,.slice ia j.length ic,.slice aa an ac] 99) w.heap.size 24 1 JL [((o,⟨z,on,C⟩):List Int×SV)] #[.slice z on C] 1 (w.heap.size+1) Ak rfl Ak (DC I) rfl rfl;have K:((o,⟨z,on,C⟩)::j:List<|List Int×SV).length=j.length+1:=rfl;rw[K];clear e1 e3 K;go_enter func82,ntmps82;go_wp2_with(at_builtin;refine FV _ rfl (.tmp 5) (.tmp 7) _ rfl (base:=w.heap.size) bZ ZV bY rfl HO.1 rfl (l2:=j) (HS.1.mono<|bA (bA (bR w) _) _) DY DY (by simp only[World.size_alloc];omega) ?_;intro v2 w2 s M Vq;obtain⟨A2,c2,T,-⟩:=Own.Il s;rw[show([((o,⟨z,on,C⟩):List Int×SV)]++j).length=j.length+1 by rw[EK,qo];omega]at T;subst T;have EZ:=V s;have HB2:=V<|bG (bA (bA (bR w) _) _) M<|λg hg=>(HO.1.lt g hg).1;clear s M Vq);go_ret;exact⟨⟨A2,c2,rfl,EZ.1⟩,HB2.1⟩
theorem aio{k d:Int}(h:max d (-d)<max k (-k)\/d=-k/\0<d):Sv k d=d:=by unfold Sv;rw[AZ];rw[jJ];unfold Et;split<;>split<;>omega
theorem aip{k d:Int}(h:¬max d (-d)<max k (-k))(h2:¬(d=-k/\0<d)):Sv k d=k:=by unfold Sv;rw[AX];rw[jJ];unfold Et;split<;>split<;>omega
theorem aiq(v:Value)(c:List Int)(w:World)(h:Ints w v c)(j:0<c.length)(hb:∀d∈c,-1073741824<=d/\d<=1073741824):Calls prog 81 #[v] w λe w'=>e=.returned (.int .i64<|Dp c)/\w=w':=by
 obtain⟨A,cp,rfl,hn1,hn2,hR⟩:=h;unfold maxLen at hn2;have HR:=V hR;obtain⟨R,z⟩:=BM<|Dp c;rw[z];have C:=aiE c;rw[z]at C;have Oe:=V C;have HUp:=V λn(hn:n<c.length)=>aiD (c:=c) hn;have vP:=V (show∀n,-1073741824<=Pz c n/\Pz c n<=1073741824 fromλn=>by
  have h1:c.headD 0∈c:=by cases c with|nil=>cases j|cons a c=>exact ED
  rcases aEI (c.take n)<|c.headD 0 with e|e;.unfold Pz;rw[e];exact hb _ h1
  exact hb _<|aCg e);have aAc:=V λn(hn:n<c.length)=>hb _<|BG hn;have hh:c.headD 0=c[0]:=by cases c with|nil=>cases j|cons a c=>rfl
 have h0:Pz c 0=c[0]:=by unfold Pz;rw[PZ];exact hh
 obtain⟨b0,o0,rfl,hlb0,c0⟩:=HR.1.int j;rw[<-h0]at c0;simp only[VA]at c0;have kz:(0:Int)<c.length:=I;have kn:¬c=[]:=λe=>by have:=congrArg List.length e;simp only[Nb]at this;omega
 clear hb hR z C h0 hh;go_enter func81,ntmps81;go_wp2_with fail;go_loopw[3,11](λs i wr=>∃k:Nat,k<=c.length/\i=.int .i64 k/\s=.int .i64 (Pz c k)/\wr=w)λ_ i _=>c.length-(intOf i).toNat;case atStart=>exact⟨0,C9 _,rfl,rfl,rfl⟩
 obtain⟨k,hk,rfl,rfl,hw⟩:=hrel;obtain rfl:=hw.symm;have hkb:=vP.1 k;by_cases hlt:k<c.length
 .obtain⟨b,o,hA,hlb,c1⟩:=HR.1.int hlt;injection hA with hA;injection hA with y1 y2 _;subst y1 y2;have hdb:=aAc.1 k hlt;have M:=HUp.1 k hlt;generalize c[k]=d at*;generalize Pz c k=q at*;have U:=V M;clear M c0;have k1:=DR<|-d;have k2:=DR<|-q;have m1:max d (-d)=if d<0 then-d else d:=by split<;>omega
  by_cases h1:max d (-d)<max q (-q)
  .have K:=V<|aio<|.inl h1;clear m1;go_wp2;go_roundw;case rel=>exact⟨k+1,I,BH,by rw[U.1,K.1],trivial⟩
   exact BJ
  clear m1;by_cases h2:d=-q
  .by_cases h3:0<d
   .have K:=V<|aio<|.inr ⟨h2,h3⟩;have T:(d==-q)=true:=by simpa using h2
    clear h2;go_wp2;go_roundw;case rel=>exact⟨k+1,I,BH,by rw[U.1,K.1],trivial⟩
    exact BJ
   have K:=V<|aip h1<|λe=>h3 e.2;have T:(d==-q)=true:=by simpa using h2
   clear h2;go_wp2;go_roundw;case rel=>exact⟨k+1,I,BH,by rw[U.1,K.1],trivial⟩
   exact BJ
  have K:=V<|aip h1<|λe=>h2 e.1;have T:(d==-q)=false:=by simpa using h2
  clear h2;go_wp2;go_roundw;case rel=>exact⟨k+1,I,BH,by rw[U.1,K.1],trivial⟩
  exact BJ
 obtain rfl:k=c.length:=I;have hf:=Oe.1;rw[hf];go_wp2;go_ret;exact⟨rfl,rfl⟩
def aZ(a b c:Pt):Int:=if 0<tw a b c then 1 else if tw a b c<0 then-1 else 0
theorem air(a b c:Pt)(w:World)(o:lim a)(hb:lim b)(s:lim c):Calls prog 208 #[BD a,BD b,BD c] w λe w'=>e=.returned (.int .i64<|aZ a b c)/\AU w w':=by
 obtain⟨a1,T,U,a4⟩:=o;obtain⟨b1,b2,b3,b4⟩:=hb;obtain⟨c1,c2,c3,c4⟩:=s;obtain⟨z,C⟩:=Rz (b.x-a.x) (c.y-a.y) 4194304 I I I I;obtain⟨K,M⟩:=Rz (c.x-a.x) (b.y-a.y) 4194304 I I I I;simp only[Int.reduceMul,Int.reduceNeg]at z C K M;have j:tw a b c=(b.x-a.x)*(c.y-a.y)-(c.x-a.x)*(b.y-a.y):=by unfold tw;rw[KT<|b.y-a.y]
 unfold BD aZ;rw[j];clear j;go_enter func208,ntmps208;go_wp2_with fail;all_goals go_ret;refine⟨DZ rfl,?_⟩;exact ER
theorem asw{a b c:Pt}:0<aZ a b c↔0<tw a b c:=by unfold aZ;split<;>(try split)<;>omega
theorem asx{a b c:Pt}:aZ a b c=0↔tw a b c=0:=by unfold aZ;split<;>(try split)<;>omega
theorem ais(a b p:Pt)(w:World)(hn:ES [a,b,p]=true):Calls prog 149 #[BD a,BD b,BD p] w λe w'=>e=.returned (.bool<|Eh a b p)/\AU w w':=by
 obtain⟨j,hb,o⟩:=aDR hn;have T:∀W,Calls prog 208 #[BD a,BD b,BD p] W _:=λW=>air a b p W j hb o;unfold BD at T⊢;have hS:Eh a b p=(decide (aZ a b p=0)&&decide (min a.x b.x<=p.x)&&decide (p.x<=max a.x b.x)&&decide (min a.y b.y<=p.y)&&decide (p.y<=max a.y b.y)):=by simp[Eh,hn,asx]
 rw[hS];generalize aZ a b p=t at*;have s:=V T;clear T j hb o hS hn;go_enter func149,ntmps149;go_wp2_with fail;refine(s.1 _).mono ?_;rintro e w2⟨rfl,hb2⟩;obtain⟨z,C⟩:=dH hb2;have c:=hb2.size;try simp only[World.size_alloc,World.size_setCell,World.size_drew]at c
 have K:w.heap.size<w2.heap.size:=I;have M:w.heap.size+1<w2.heap.size:=I;have U:w.heap.size+1+1<w2.heap.size:=I;by_cases ht:t=0;.subst ht;go_wp2_with fail;all_goals go_ret;refine⟨Cm<|by first|rfl|(rw[KQ];simp only[EC,DI,O7,false_iff,true_iff];try omega),?_⟩;exact ER
 have ht':(t==0)=false:=by simpa using ht
 go_wp2;go_ret;refine⟨Cm<|by simp[ht],?_⟩;exact ER
theorem asy{d:Int}:max d (-d)=Et d:=by
 unfold Et;split;.omega
 omega
theorem acf(d:Int)(w:World)(h:-4611686018427387904<=d/\d<=4611686018427387904):Calls prog 154 #[.int .i64 d] w λe w'=>e=.returned (.int .i64<|Et d)/\AU w w':=by have c:=DR<|-d;rw[<-asy];go_enter func154,ntmps154;go_wp2;go_ret;exact⟨rfl,bR w⟩
theorem ait(a b:Int)(w:World)(C:-4611686018427387904<=a/\a<=4611686018427387904)(hb:-4611686018427387904<=b/\b<=4611686018427387904):Calls prog 150 #[.int .i64 a,.int .i64 b] w λe w'=>e=.returned (.bool<|Gv a b)/\AU w w':=by
 have K:=V λW=>acf a W C;have M:=V λW=>acf b W hb;have T:Gv a b=(decide (Et a<Et b)||decide (Et a=Et b)&&decide (b<a)):=rfl;rw[T];clear T C hb;generalize Et a=x at*;generalize Et b=y at*;go_enter func150,ntmps150;go_wp2_with fail;refine(K.1 _).mono ?_;rintro e w1⟨rfl,c⟩;go_wp2_with fail;refine(M.1 _).mono ?_;rintro e w2⟨rfl,hb2⟩;have U:=V<|J c hb2;clear c hb2;by_cases h1:x<y;.go_wp2;go_ret;exact⟨Cm<|by simp[h1],U.1⟩
 go_wp2_with fail;refine(K.1 _).mono ?_;rintro e w3⟨rfl,j⟩;go_wp2_with fail;refine(M.1 _).mono ?_;rintro e w4⟨rfl,o⟩;have s:=V<|J U.1<|J j o;clear j o;by_cases h2:x=y
 .have z:(x==y)=true:=by simpa using h2
  by_cases h3:b<a;.have HF:=V (show(decide (x<y)||decide (x=y)&&decide (b<a))=true by simp[h2,h3]);clear h2;go_wp2;go_ret;exact⟨Cm<|by rw[HF.1];try simp[h1,h3],s.1⟩
  have HF:=V (show(decide (x<y)||decide (x=y)&&decide (b<a))=false by simp[h1,h3]);clear h2;go_wp2;go_ret;exact⟨Cm<|by rw[HF.1];try simp[h1,h3],s.1⟩
 have z:(x==y)=false:=by simpa using h2
 have HF:=V (show(decide (x<y)||decide (x=y)&&decide (b<a))=false by simp[h1,h2]);clear h2;go_wp2;go_ret;exact⟨Cm<|by rw[HF.1];try simp[h1],s.1⟩
theorem asz(v:Value)(c:List Int)(w:World)(h:Ints w v c)(j:0<c.length)(hb:∀d∈c,-1073741824<=d/\d<=1073741824):Calls prog 151 #[v] w λe w'=>e=.returned (.int .i64<|Dp c)/\AU w w':=by
 obtain⟨A,cc,rfl,h1,h2,hR⟩:=h;unfold maxLen at h2;obtain⟨HR,U,acg⟩:=CB hR (λn(hn:n<c.length)=>aiD (c:=c) hn)<|aiE c;have vP:=V (show∀n,-1073741824<=Pz c n/\Pz c n<=1073741824 fromλn=>by
  have h1:c.headD 0∈c:=by cases c with|nil=>cases j|cons a c=>exact ED
  rcases aEI (c.take n)<|c.headD 0 with e|e;.unfold Pz;rw[e];exact hb _ h1
  exact hb _<|aCg e);have aAc:=V λn(hn:n<c.length)=>hb _<|BG hn;have hh:c.headD 0=c[0]:=by cases c with|nil=>cases j|cons a c=>rfl
 have h0:Pz c 0=c[0]:=by unfold Pz;rw[PZ];exact hh
 obtain⟨b0,o0,rfl,C,c0⟩:=HR.1.int j;rw[<-h0]at c0;simp only[VA]at c0;have kz:(0:Int)<c.length:=I;have kn:¬c=[]:=λe=>by have:=congrArg List.length e;simp only[Nb]at this;omega
 clear hb hR h0 hh;go_enter func151,ntmps151;go_wp2_with fail;clear c0 C;go_loopw[3,4](λs i wr=>∃k:Nat,k<=c.length/\i=.int .i64 k/\s=.int .i64 (Pz c k)/\AU w wr)λ_ i _=>c.length-(intOf i).toNat;case atStart=>exact⟨0,C9 _,rfl,rfl,bR w⟩
 obtain⟨k,hk,rfl,rfl,K⟩:=hrel;have Ez:=V K;have hkb:=vP.1 k;clear K;by_cases hlt:k<c.length
 .obtain⟨b,o,hA,M,c1⟩:=(HR.1.mono Ez.1).int hlt;injection hA with hA;injection hA with y1 y2 _;subst y1 y2;have hdb:=aAc.1 k hlt;have HU:=V<|U.1 k hlt;generalize c[k]=d at*;generalize Pz c k=q at*;have vU:=V λW=>ait d q W I I;obtain⟨z,hz⟩:=BM<|Gv d q;rw[hz]at vU;have HZ:=V hz;have kP:=V c1;have Po:=M;clear hz;go_wp2_with fail;refine(vU.1 _).mono ?_;rintro e w2⟨rfl,hb2⟩;have T:=V<|J Ez.1 hb2;have c2:=Dk hb2 kP.1;have aBN:b0<w2.heap.size:=by have:=hb2.size;omega
  clear hb2 c1 M Po kP;cases z
  .have hs:=V (show Sv q d=q by unfold Sv;rw[HZ.1];rfl);go_wp2;go_roundw;case rel=>exact⟨k+1,I,BH,by rw[HU.1,hs.1],T.1⟩
   exact BJ
  have hs:=V (show Sv q d=d by unfold Sv;rw[HZ.1];rfl);go_wp2;go_roundw;case rel=>exact⟨k+1,I,BH,by rw[HU.1,hs.1],T.1⟩
  exact BJ
 obtain rfl:k=c.length:=I;have hf:=acg.1;rw[hf];go_wp2;go_ret;exact⟨rfl,Ez.1⟩
theorem J5.symm{u v:Value}(h:J5 u v):J5 v u:=λg c e=>h g e c
theorem vV{α:Type}{R:α->α->Prop}(s:∀a b,R a b->R b a){l:List α}(h:l.Pairwise R){i j:Nat}(hi:i<l.length)(o:j<l.length)(z:i≠j):R l[i] l[j]:=by
 rw[FT]at h;by_cases c:i<j;.exact h i j hi o c
 exact s _ _<|h j i o hi I
theorem Sj{α:Type}{l:List α}{i:Nat}{y x:α}(h:x∈l.set i y):x=y/\i<l.length\/∃j,∃o:j<l.length,j≠i/\x=l[j]:=by
 obtain⟨j,o,rfl⟩:=Dy.1 h;have c:j<l.length:=by simpa using o
 rw[RZ];by_cases e:i=j;.subst e;rw[AZ rfl];exact .inl ⟨rfl,c⟩
 rw[AX e];exact .inr ⟨j,c,λh=>e h.symm,rfl⟩
theorem Gm.read{e:TypeId}{w0 w:World}{B:Nat}{v:Value}{L:List AD}(h:Gm e w0 w B v L)(hb:AU w0 w):oU w v L:=⟨h.own.sl,λx c=>(h.out x c).mono hb⟩
theorem Own.row_of{α:Type}{f:α->List Value}{w:World}{base:Nat}{e:TypeId}{size:Nat}{A:Option Addr}{n c:Nat}{l:List α}(h:Own w base e size f (.slice A n c) l):Row w A<|l.flatMap f:=by obtain⟨z,C,j,-,-,o⟩:=h.sl;injection j with s K M;subst s;exact o
theorem Own.QZ{e:TypeId}{w:World}{B:Nat}{A:Option Addr}{n c:Nat}{L:List AD}(h:Own w B e 4 EH (.slice A n c) L)(hl:0<L.length):∃g,A=some ⟨g,0,none⟩/\B<=g/\g<w.heap.size/\(∀j,w.frozen? ⟨g,j,none⟩=false)/\∀k(hk:k<L.length),w.cell? ⟨g,k*4,none⟩=some (.int .i64 L[k].tw)/\w.cell? ⟨g,k*4+1,none⟩=some (BO L[k].ov)/\w.cell? ⟨g,k*4+2,none⟩=some (BO L[k].iv)/\w.cell? ⟨g,k*4+3,none⟩=some (BO L[k].av):=by
 have M:=h.row_of;rcases h.2 with⟨_,h0⟩|⟨g,T,U,hv,hg,z,-⟩;.omega
 injection hv with e1 e2 e3;subst e1;refine⟨g,rfl,hg,AO.lt z,λj=>AO.frozen z j,λk hk=>?_⟩;obtain⟨b,o,s,-,C,c1,c2,K⟩:=M.ad hk;injection s with s;injection s with y1 y2 _;subst y1 y2;simp only[Rk]at C c1 c2 K;exact⟨C,c1,c2,K⟩
structure U1(w:World)(v:Value)(L:List AD):Prop where
 sl:Sl w v L.length (L.flatMap EH)out:∀x∈L,Ints w (BO x.ov) x.out
 inn:∀x∈L,Sl w (BO x.iv) x.inn.length (x.inn.flatMap JL)Ik:∀x∈L,∀c∈x.inn,Ints w (BO c.2) c.1
 Ci:∀x∈L,Ints w (BO x.av) x.Ci
theorem U1.mono{w w':World}{v:Value}{L:List AD}(h:U1 w v L)(hb:AU w w'):U1 w' v L:=⟨h.sl.mono hb,λx j=>(h.out x j).mono hb,λx j=>(h.inn x j).mono hb,λx j c o=>(h.Ik x j c o).mono hb,λx j=>(h.Ci x j).mono hb⟩
theorem U1.read{w:World}{v:Value}{L:List AD}(h:U1 w v L):oU w v L:=⟨h.sl,h.out⟩
theorem Gm.full{e:TypeId}{w0 w:World}{B:Nat}{v:Value}{L:List AD}(h:Gm e w0 w B v L)(hb:AU w0 w):U1 w v L:=⟨h.own.sl,λx j=>(h.out x j).mono hb,λx j=>(h.inn x j).sl,λx j c o=>(h.Ik x j c o).mono hb,λx j=>(h.Ci x j).sl⟩
theorem Gm.more{e:TypeId}(s:e≠24/\e≠3){w0 w w1:World}{B:Nat}{v v':Value}{L:List AD}(h:Gm e w0 w B v L){x:AD}(ho:Own w1 B e 4 EH v'<|L++[x])(z:w.grownBy w1 v.ownBlock)(M:Ints w0 (BO x.ov) x.out)(h1:x.inn=[])(h2:x.iv=sv0)(h3:x.Ci=[])(C:x.av=sv0):Gm e w0 w1 B v'<|L++[x]:=by
 have K:∀u,J5 u<|BO sv0:=λu g _ e=>by cases e
 refine⟨ho,λy j=>?_,λy j=>?_,λy j=>?_,λy j=>?_,?_,?_⟩
 .rcases F9.1 j with j|j;.exact h.out y j
  rw[EJ]at j;subst j;exact M
 .rcases F9.1 j with j|j;.exact Own.grown (h.inn y j) z λg o=>Own.apart (h.inn y j) h.own s.1.symm g o
  rw[EJ]at j;subst j;rw[h1,h2];exact Own.nil _ _ _ _ _
 .rcases F9.1 j with j|j;.exact h.Ik y j
  rw[EJ]at j;subst j;rw[h1];intro c T;cases T
 .rcases F9.1 j with j|j;.exact Own.grown (h.Ci y j) z λg o=>Own.apart (h.Ci y j) h.own s.2.symm g o
  rw[EJ]at j;subst j;rw[h3,C];exact Own.nil _ _ _ _ _
 .rw[QE];refine⟨h.kH,yJ _ _,λa _ b hb=>?_⟩;rw[EJ]at hb;subst hb;rw[h2];exact K _
 rw[QE];refine⟨h.kJ,yJ _ _,λa _ b hb=>?_⟩;rw[EJ]at hb;subst hb;rw[C];exact K _
theorem Gm.at1{e:TypeId}(z:e≠24/\e≠3){w0 w w1:World}{B B':Nat}{v u:Value}{L:List AD}{R:List<|List Int×SV}(h:Gm e w0 w B v L)(o:w.grownBy w1 u.ownBlock)(s:Own w B' 24 1 JL u R)(C:∀x∈L,x.iv=sv0):Gm e w0 w1 B v L:=by refine⟨Own.grown h.own o λg c=>Own.apart h.own s z.1 g c,h.out,λx j=>?_,h.Ik,λx j=>Own.grown (h.Ci x j) o λg c=>Own.apart (h.Ci x j) s BI g c,h.kH,h.kJ⟩;refine Own.grown (h.inn x j) o λg c=>?_;rw[C x j]at c;cases c
theorem Gm.aE9{e:TypeId}(he:e≠24/\e≠3){w0 w w1:World}{B g n cc:Nat}{L:List AD}(h:Gm e w0 w B (.slice (some ⟨g,0,none⟩) n cc) L){i:Nat}(hi:i<L.length){QX:SV}{c:List Int×SV}(ho:Own w1 B 24 1 JL (BO QX)<|L[i].inn++[c])(hg:w.grownBy w1 (BO L[i].iv).ownBlock)(hat:(BO QX).ownBlock=(BO L[i].iv).ownBlock\/(BO QX).ownBlock=some w.heap.size)(hc:Ints w0 (BO c.2) c.1):Gm e w0 (w1.setCell ⟨g,i*4+2,none⟩<|BO QX) B (.slice (some ⟨g,0,none⟩) n cc)<|L.set i {L[i]with inn:=L[i].inn++[c],iv:=QX}:=by
 have hgv:(Value.slice (some ⟨g,0,none⟩) n cc).ownBlock=some g:=rfl;have hm:=BG hi;have U:Own w1 B e 4 EH (.slice (some ⟨g,0,none⟩) n cc) L:=Own.grown h.own hg λg' o=>Own.apart h.own (h.inn _ hm) he.1 g' o;have oZ:∀{b:Nat}{e9:TypeId}{s:Nat}{α:Type}{f:α->List Value}{v:Value}{l:List α},Own w1 b e9 s f v l->e9≠e->Own (w1.setCell ⟨g,i*4+2,none⟩<|BO QX) b e9 s f v l:=λT hne=>Own.far T (λe8=>Own.apart T U hne g e8 hgv.symm) _;have C:∀j(z:j<L.length),j≠i->J5 (BO L[j].iv) (BO QX):=λj z K g' o e=>by
  rcases hat with T|T;.rw[T]at e;exact vV (λa b=>J5.symm) h.kH z hi K g' o e
  rw[T]at e;have:=((h.inn _<|BG z).lt g' o).2;have:=Dn e;omega
 refine⟨Own.oJ SQ U hi I _ _ rfl,λx M=>?_,λx M=>?_,λx M=>?_,λx M=>?_,?_,?_⟩
 .rcases Sj M with⟨rfl,_⟩|⟨j,z,_,rfl⟩;.exact h.out L[i] hm
  exact h.out _<|BG z
 .rcases Sj M with⟨rfl,_⟩|⟨j,z,K,rfl⟩;.exact oZ ho he.1.symm
  exact oZ (Own.grown (h.inn _<|BG z) hg<|λg' o e=>vV (λa b=>J5.symm) h.kH z hi K g' o e.symm) he.1.symm
 .rcases Sj M with⟨rfl,_⟩|⟨j,z,_,rfl⟩
  .intro d hd;rcases F9.1 hd with hd|hd;.exact h.Ik L[i] hm d hd
   rw[EJ]at hd;subst hd;exact hc
  exact h.Ik _<|BG z
 .have:∀y∈L,Own (w1.setCell ⟨g,i*4+2,none⟩<|BO QX) B 3 1 DF (BO y.av) y.Ci:=λy hy=>oZ (Own.grown (h.Ci y hy) hg<|λg' o=>Own.apart (h.Ci y hy) (h.inn _ hm) BI g' o) he.2.symm;rcases Sj M with⟨rfl,_⟩|⟨j,z,_,rfl⟩;.exact this L[i] hm
  exact this _<|BG z
 .rw[FT];intro a b ha hb hab;simp only[U5]at ha hb;rw[RZ,RZ];by_cases e1:i=a;.subst e1;rw[AZ rfl,AX I];exact(C b hb I).symm
  rw[AX e1];by_cases e2:i=b;.subst e2;rw[AZ rfl];exact C a ha I
  rw[AX e2];exact vV (λa b=>J5.symm) h.kH ha hb I
 have e:(L.set i {L[i]with inn:=L[i].inn++[c],iv:=QX}).map (·.av)=L.map (·.av):=by
  apply Xf Ak;intro j h1 h2;rw[Ib,Ib,RZ];split;.rename_i e;subst e;rfl
  rfl
 have hp:(L.map (·.av)).Pairwise λx y=>J5 (BO x)<|BO y:=H9.2 h.kJ;rw[<-e]at hp;exact H9 (f:=λx:AD=>x.av) (R:=λx y=>J5 (BO x)<|BO y).1 hp
theorem Gm.aBP{e:TypeId}(he:e≠24/\e≠3){w0 w w1:World}{B g n cc:Nat}{L:List AD}(h:Gm e w0 w B (.slice (some ⟨g,0,none⟩) n cc) L){i:Nat}(hi:i<L.length){QD:SV}{c:Int}(ho:Own w1 B 3 1 DF (BO QD)<|L[i].Ci++[c])(hg:w.grownBy w1 (BO L[i].av).ownBlock)(hat:(BO QD).ownBlock=(BO L[i].av).ownBlock\/(BO QD).ownBlock=some w.heap.size):Gm e w0 (w1.setCell ⟨g,i*4+3,none⟩<|BO QD) B (.slice (some ⟨g,0,none⟩) n cc)<|L.set i {L[i]with Ci:=L[i].Ci++[c],av:=QD}:=by
 have hgv:(Value.slice (some ⟨g,0,none⟩) n cc).ownBlock=some g:=rfl;have hm:=BG hi;have U:Own w1 B e 4 EH (.slice (some ⟨g,0,none⟩) n cc) L:=Own.grown h.own hg λg' o=>Own.apart h.own (h.Ci _ hm) he.2 g' o;have oZ:∀{b:Nat}{e9:TypeId}{s:Nat}{α:Type}{f:α->List Value}{v:Value}{l:List α},Own w1 b e9 s f v l->e9≠e->Own (w1.setCell ⟨g,i*4+3,none⟩<|BO QD) b e9 s f v l:=λT hne=>Own.far T (λe8=>Own.apart T U hne g e8 hgv.symm) _;have K:∀j(z:j<L.length),j≠i->J5 (BO L[j].av) (BO QD):=λj z C g' o e=>by
  rcases hat with T|T;.rw[T]at e;exact vV (λa b=>J5.symm) h.kJ z hi C g' o e
  rw[T]at e;have:=((h.Ci _<|BG z).lt g' o).2;have:=Dn e;omega
 refine⟨Own.oJ SQ U hi I _ _ rfl,λx M=>?_,λx M=>?_,λx M=>?_,λx M=>?_,?_,?_⟩
 .rcases Sj M with⟨rfl,_⟩|⟨j,z,_,rfl⟩;.exact h.out L[i] hm
  exact h.out _<|BG z
 .have:∀y∈L,Own (w1.setCell ⟨g,i*4+3,none⟩<|BO QD) B 24 1 JL (BO y.iv) y.inn:=λy hy=>oZ (Own.grown (h.inn y hy) hg<|λg' o=>Own.apart (h.inn y hy) (h.Ci _ hm) BI g' o) he.1.symm;rcases Sj M with⟨rfl,_⟩|⟨j,z,C,rfl⟩;.exact this L[i] hm
  exact this _<|BG z
 .rcases Sj M with⟨rfl,_⟩|⟨j,z,_,rfl⟩;.exact h.Ik L[i] hm
  exact h.Ik _<|BG z
 .rcases Sj M with⟨rfl,_⟩|⟨j,z,C,rfl⟩;.exact oZ ho he.2.symm
  exact oZ (Own.grown (h.Ci _<|BG z) hg<|λg' o e=>vV (λa b=>J5.symm) h.kJ z hi C g' o e.symm) he.2.symm
 .have e:(L.set i {L[i]with Ci:=L[i].Ci++[c],av:=QD}).map (·.iv)=L.map (·.iv):=by
   apply Xf Ak;intro j h1 h2;rw[Ib,Ib,RZ];split;.rename_i e;subst e;rfl
   rfl
  have hp:(L.map (·.iv)).Pairwise λx y=>J5 (BO x)<|BO y:=H9.2 h.kH;rw[<-e]at hp;exact H9 (f:=λx:AD=>x.iv) (R:=λx y=>J5 (BO x)<|BO y).1 hp
 rw[FT];intro a b ha hb hab;simp only[U5]at ha hb;rw[RZ,RZ];by_cases e1:i=a;.subst e1;rw[AZ rfl,AX I];exact(K b hb I).symm
 rw[AX e1];by_cases e2:i=b;.subst e2;rw[AZ rfl];exact K a ha I
 rw[AX e2];exact vV (λa b=>J5.symm) h.kJ ha hb I
theorem at7{P:List Pt}{k:Nat}(hk:k<P.length):P.reverse.take (k+1)=P.reverse.take k++[P[P.length-1-k]'(by omega)]:=by rw[Eu<|by simpa using hk,List.getElem_reverse]
theorem aBQ(v:Value)(p:Pl)(d:Int)(w:World)(h:Cj w v p)(hv:Valid p)(hd:d∈BZ p):Calls prog 100 #[v,.int .i64 d] w<|Zj w<|Iz p d:=by
 have hbd:=hv.Rq hd;obtain⟨a,ha,hor,hpt⟩:=hv.Ug hd;have hid:=hv.IB ha;have M:Et d=a.id:=by unfold Et;rcases hor with rfl|rfl<;>split<;>omega
 have hpo:=hv.sound.path ha;have WC:=V λW=>acf d W I;have JC:=V λW(hW:AU w W)=>agA v p (Et d) W (h.mono hW) hv.short;rw[M,hpo]at JC;rw[M]at WC;unfold ng at JC;simp only[I7,Xh,if_true]at JC;have hq:Iz p d=if 0<d then AV p a else(AV p a).reverse:=by unfold Iz;rw[hpt]
 rw[hq];have Pv:=hv.Td ha;have hpl:2<=(AV p a).length/\(AV p a).length<=66:=by have:=En p a;omega
 obtain⟨_,_,_,al,rfl,hpa,⟨An,cn,rfl,-⟩,⟨⟨Aa,ca,rfl,-⟩,-⟩,⟨Af,cf,rfl,-⟩⟩:=h;clear hpa hv hor hpt hpo M hq Pv ha hd;generalize p.nodes.length=nn at*;generalize al.length=na at*;generalize p.faces.length=nf at*;generalize a.id=ai at*;generalize AV p a=P at*;go_enter func100,ntmps100;go_upto_region 1 with fail;obtain⟨U,hW⟩:∃W:World,W=w.alloc (.cells #[.slice An nn cn,.slice Aa na ca,.slice Af nf cf] 26):=⟨_,rfl⟩;have X1:AO U w.heap.size 26 #[.slice An nn cn,.slice Aa na ca,.slice Af nf cf]:=by rw[hW];exact AO.made rfl _ _
 have j:=V (show AU w U by rw[hW];exact bA (bR w) _);rw[<-hW];clear hW;have hz1:=j.1.size;obtain⟨Au,Aw,Az,BA,-⟩:=X1.BF;refine CZ U (.take 0 1<|.take 1 3<|.call 2 7<|.call 3 15<|.run 5 4 15<|.done) λCG QR Ae Aj hS=>?_;iterate 2 refine Ah ?_
 refine FM (WC.1 _) ?_;clear hS;intro Bv Bj hS;refine BP ?_;clear hS;intro K hK AQ;go_simp;refine(JC.1 _<|J j.1 AQ.out).mono ?_;rintro e z⟨A,c,rfl,F5,ho⟩;have hS:Since U z:=J (w:=U) AQ.out F5;clear AQ;refine hK.out _ _ hS λ_=>?_;clear hK K;try simp only[pu]
 iterate 5 refine Ah ?_
 refine CX ?_;clear hS Aj Ae;intro hB;have T:=V<|J j.1 hB;have hz3:w.heap.size<=Bv.heap.size:=by have h1:=(bD<|bR U).size;have h2:=Bj.size;have:=j.1.size;omega
 have HO:=V<|ho.EN hz3;clear hB Bj F5 ho X1 Au Aw Az BA j JC WC hz3;by_cases h0:0<d;.rw[AZ h0];go_wp2;go_ret;exact⟨A,c,rfl,T.1,HO.1⟩
 rw[AX h0];have QV:=V λk(hk:k<P.length)=>at7 hk;go_upto_block 0 with fail;go_wp2_with fail;go_loopw[7,8](λs i wr=>∃k:Nat,k<=P.length/\i=.int .i64 ((P.length:Int)-1-k)/\(∃A c,s=.slice A k c)/\Own wr z.heap.size 50 2 Ep s (P.reverse.take k)/\AU z wr)λ_ i _=>(intOf i+1).toNat;case atStart=>exact⟨0,C9 _,Ak,⟨none,0,rfl⟩,Own.nil _ _ _ _ _,bR z⟩
 obtain⟨k,hk,rfl,⟨A3,c3,rfl⟩,ho3,hb3⟩:=hrel;have Eo:=V ho3;have C:=V hb3;clear ho3 hb3;by_cases hlt:k<P.length
 .have hsu:=QV.1 k hlt;obtain⟨b,o,rfl,hlb,c0,c1⟩:=((HO.1.keep C.1).row_of).pt (k:=P.length-1-k) I;have ek:((P.length-1-k:Nat):Int)=(P.length:Int)-1-k:=I;have hi1:((P.length:Int)-1-k).toNat=P.length-1-k:=I;generalize P[P.length-1-k]'_=pt at*;obtain⟨atA,HT,HT1⟩:=CB hsu (show(P.reverse.take k).length=k by rw[JF,Z9];omega) (show(P.reverse.take<|k+1).length=k+1 by rw[JF,Z9];omega);clear hsu;obtain⟨m,hm⟩:=BR<|P.length-1-k;have Q5:(P.length:Int)-1-k=m:=I;rw[<-hm]at c0 c1;rw[Q5];have Hmi:=V Q5;have ad4:m<P.length:=I;clear ek hi1 hm Q5;have k1:(m:Int)<P.length:=I;have k2:0<=(m:Int):=I;go_upto_region 7 with(at_builtin;refine FV _ rfl (.tmp 26) (.tmp 31) _ rfl (base:=z.heap.size) LZ LK La rfl (Own.alloc Eo.1 _) rfl (l2:=[pt]) (Sl.lit (n:=1) (AO.made rfl _ _) rfl<|DC I) (by have:=HT.1;simp only[Gy,Nb];omega) (by have:=HT.1;simp only[Gy,Nb];omega) (by have:=C.1.size;simp;omega) ?_;intro v4 w4 KY hg4 iT;rw[<-atA.1]at KY;obtain⟨A4,c4,hv4,-⟩:=Own.Il KY;rw[HT1.1]at hv4;subst hv4;have Jt:=V KY;have HB4:=V<|bG (bA C.1 _) hg4<|λg hg=>(Eo.1.lt g hg).1;clear KY hg4 iT);clear c0 c1 hlb;go_wp2;go_roundw;case rel=>exact⟨k+1,I,by rw[show(P.length:Int)-1-((k+1:Nat):Int)=(m:Int)-1 by have:=Hmi.1;omega];try go_num,⟨A4,c4,rfl⟩,Jt.1,HB4.1⟩
  have:=Hmi.1;simp[intOf];try omega
 have hkk:k=P.length:=I;have ho:=Eo.1;rw[show P.reverse.take k=P.reverse by rw[Ip D8]]at ho;have U2:=V<|ho.EN T.1.size;have h1:(P.length:Int)-1-k=-1:=I;rw[h1];clear ho h1;go_wp2;go_ret;exact⟨A3,c3,by rw[Z9,<-hkk];rfl,J T.1 C.1,by rw[Z9,<-hkk];exact U2.1⟩
theorem atB(v:Pt)(l m:List<|Pt×Pt):Uy v (l++m)=m.foldl (Rt v) (Uy v l):=by unfold Uy;rw[LG]
theorem atC(p:Pl){X:List Int}{k:Nat}(hk:k<X.length):Si p (X.take<|k+1)=Si p (X.take k)++EO (Iz p X[k]):=by unfold Si;rw[Eu hk,LY];simp
theorem atD{p:Pl}{X:List Int}{v:Pt}{q:Pt×Pt}(c:q∈Si p X)(h:Eh q.1 q.2 v=true):encS p X v=false:=by rw[<-ain];unfold aE8;rw[aEE];have:((Si p X).any λq=>Eh q.1 q.2 v)=true:=PW.2 ⟨q,c,h⟩;rw[this];rfl
theorem asP{p:Pl}{X:List Int}{v:Pt}{o:Bool}(h:Uy v (Si p X)=(false,o)):encS p X v=o:=by rw[<-ain];unfold aE8;rw[h];simp
theorem asQ{v:Pt}{o:Bool}{q:Pt×Pt}(h:Eh q.1 q.2 v=false):Rt v (false,o) q=(false,if Jj v q.1 q.2=true then !o else o):=by unfold Rt;rw[AX<|by rw[h];decide];split<;>rfl
theorem asR{v a b lo hi:Pt}(h:b.y<a.y/\lo=b/\hi=a\/¬b.y<a.y/\lo=a/\hi=b):Jj v a b=decide (lo.y<=v.y/\v.y<hi.y/\0<tw lo hi v):=by
 rcases h with⟨c,rfl,rfl⟩|⟨c,rfl,rfl⟩;.rw[aik];unfold Jj;rw[decide_eq_decide];omega
 unfold Jj;rw[decide_eq_decide];omega
section
variable{p:Pl}(h:Valid p)
include h
theorem Valid.aiu{d:Int}(hd:d∈BZ p){q:Pt}(c:q∈Iz p d):Bl q=true:=by
 obtain⟨a,o,-,j⟩:=h.Ug hd;refine h.Zu o ?_;unfold Iz at c;rw[j]at c;split at c;.exact c
 exact aCV.1 c
theorem Valid.aBR{d:Int}(hd:d∈BZ p):2<=(Iz p d).length/\(Iz p d).length<=66:=by
 obtain⟨a,j,-,c⟩:=h.Ug hd;have h1:=h.Td j;have h2:=En p a;unfold Iz;rw[c];split;.omega
 rw[Z9];omega
end
theorem asT(v vc:Value)(p:Pl)(X:List Int)(at_:Pt)(w:World)(h:Cj w v p)(hv:Valid p)(hX:Ints w vc X)(hd:∀d∈X,d∈BZ p)(hl:X.length<=1000)(nv:Bl at_=true):Calls prog 206 #[v,vc,BD at_] w λe w'=>e=.returned (.bool<|encS p X at_)/\AU w w':=by
 obtain⟨Iy,Yn,HV,YD,QV,II,Rw,aEK⟩:=aCe (λd(hd:d∈BZ p)W(hW:AU w W)=>aBQ v p d W (h.mono hW) hv hd) hd hv nv (λk(hk:k<X.length)=>atC p hk) (λq(hq:q∈Si p X)hon=>atD (p:=p) (X:=X) (v:=at_) (q:=q) hq hon) (λk(hk:k<X.length)q(hq:q∈EO (Iz p X[k]))=>show q∈Si p X from Fj.2 ⟨_,BG hk,hq⟩) λo h=>asP (p:=p) (X:=X) (v:=at_) (o:=o) h;obtain⟨R,hR⟩:=BM<|encS p X at_;rw[hR]at II aEK⊢;obtain⟨Ac,cc,rfl,hc1,hc2,J6⟩:=hX;unfold maxLen at hc2;obtain⟨_,_,_,al,rfl,hpa,⟨An,cn,rfl,-⟩,⟨⟨Aa,ca,rfl,-⟩,-⟩,⟨Af,cf,rfl,-⟩⟩:=h;have Oc:=V J6;clear hpa hv hd J6 hR nv;generalize p.nodes.length=nn at*;generalize al.length=na at*;generalize p.faces.length=nf at*;unfold BD;go_enter func206,ntmps206;go_upto_block 0 with fail;obtain⟨W1,hW⟩:∃W:World,W=(w.alloc<|.cells #[.slice An nn cn,.slice Aa na ca,.slice Af nf cf] 26).alloc (.cells #[.int .i64 at_.x,.int .i64 at_.y] 50):=⟨_,rfl⟩;obtain⟨DU,CW,HB1⟩:=CB (show AO W1 w.heap.size 26 #[.slice An nn cn,.slice Aa na ca,.slice Af nf cf]by rw[hW];exact(AO.made rfl _ _).alloc _) (show AO W1 (w.heap.size+1) 50 #[.int .i64 at_.x,.int .i64 at_.y]by rw[hW];exact AO.made Ak _ _) (show AU w W1 by rw[hW];exact bA (bA (bR w) _) _);rw[<-hW];clear hW;go_wp2_with fail;go_loopw[7,8](λs i wr=>∃(k:Nat)(o:Bool),k<=X.length/\i=.int .i64 k/\s=.bool o/\Uy at_ (Si p<|X.take k)=(false,o)/\AU W1 wr)λ_ i _=>X.length-(intOf i).toNat;case atStart=>exact⟨0,false,C9 _,rfl,rfl,rfl,bR W1⟩
 obtain⟨k,o,hk,rfl,rfl,he,hb⟩:=hrel;obtain⟨wo,rfl⟩:=BR wr;have HE:=V he;have HB:=V hb;clear he hb;by_cases hlt:k<X.length
 .obtain⟨b,ofs,rfl,hlb,c0⟩:=(Oc.1.mono<|J HB1.1 HB.1).int hlt;have hdm:=Yn.1 _<|BG hlt;have hsu:=QV.1 k hlt;have hmem:=Rw.1 k hlt;generalize X[k]=d at*;have bC:=λq(hq:q∈Iz p d)=>HV.1.aiu hdm hq;have hlen:=HV.1.aBR hdm;have Ue:=V<|Iy.1 d hdm;obtain⟨P,hP⟩:=BM<|Iz p d;rw[hP]at hsu hmem bC hlen Ue;obtain⟨HSk,YE,Xx⟩:=CB hsu hmem bC;have X1:=DU.1.keep HB.1;have k1:(k:Int)<X.length:=I;have k2:0<=(k:Int):=I;clear hdm hsu hmem bC hP;obtain⟨Au,Aw,Az,BA,-⟩:=X1.BF;go_upto_region 5 with fail;refine CZ wo (.run 5 0 0<|.call 5 63<|.take 6 127<|.done) λCG QR Ae Aj hS=>?_;iterate 5 refine Ah ?_
  refine BP ?_;clear hS;intro K hK AQ;go_simp;refine(Ue.1 _<|J (J HB1.1 HB.1) AQ.out).mono ?_;rintro e Bv⟨A,c,rfl,Bj,ho⟩;have hS:Since wo Bv:=J (w:=wo) AQ.out Bj;clear AQ;refine hK.out _ _ hS λ_=>?_;clear hK K;try simp only[pu]
  refine Ah ?_;refine CX ?_;clear hS Aj Ae;intro hB;obtain⟨W3,hW3⟩:∃W:World,W=Bv:=⟨_,rfl⟩;rw[<-hW3]at hB ho Bj⊢;have ach:=V hB;have Yo:=V ho.row_of;have hz3:=ach.1.size;clear hB ho Bj hW3 X1 Au Aw Az BA c0 hlb Ue;go_upto_block 2 with fail;go_wp2_with fail;go_loopw[7,10](λs i wr=>∃(j:Nat)(M:Bool),1<=j/\j<=P.length/\i=.int .i64 j/\s=.bool M/\((EO P).take<|j-1).foldl (Rt at_) (false,o)=(false,M)/\AU W3 wr)λ_ i _=>P.length-(intOf i).toNat;case atStart=>exact⟨1,o,Dh _,I,rfl,rfl,rfl,bR W3⟩
  obtain⟨j,M,hj1,hj2,rfl,rfl,he2,hb2⟩:=hrel;obtain⟨wp,rfl⟩:=BR wr;have HE2:=V he2;have U:=V hb2;clear he2 hb2;by_cases hlj:j<P.length
  .obtain⟨m,rfl⟩:∃m,j=m+1:=⟨j-1,I⟩;have hmp:m<P.length:=I;have hq:=YE.1 (P.getD m AY,P.getD (m+1) AY)<|EP.2 ⟨m,FC.2 I,rfl⟩;have htk:=aER hlj;have z:=HE2.1;rw[show m+1-1=m by omega]at z;have ea:P.getD m AY=P[m]:=by simp only[G5,DK hmp,I7]
   have eb:P.getD (m+1) AY=P[m+1]:=by simp only[G5,DK hlj,I7]
   rw[ea,eb]at hq htk;have na:=Xx.1 _<|BG hmp;have nb:=Xx.1 _<|BG hlj;obtain⟨bp,op,rfl,hlp,e10,e11⟩:=(Yo.1.mono U.1).pt hmp;obtain⟨bp',op',JM,-,e20,e21⟩:=(Yo.1.mono U.1).pt hlj;injection JM with JM;injection JM with y1 y2 _;subst y1 y2;generalize P[m]=a at*;generalize P[m+1]=T at*;obtain⟨FI,HQ,uV,HGo,Za,ah⟩:=Lp htk hq z λW=>ais a T at_ W<|by simp[ES,na,nb,YD.1] na nb;clear htk hq z ea eb na nb HE2;unfold BD at HGo;have kw:IntKind.i64.wrap ((m:Int)+1-1)=(m:Int):=by rw[Gz _ I];omega
   have kw2:=DR (m:Int);have k3:(m:Int)<P.length:=I;have k4:0<=(m:Int):=I;have k5:(m:Int)+1<P.length:=I;have k6:0<=(m:Int)+1:=I;have k7:=DR<|(m:Int)+1;go_upto_region 9 with fail;go_cut[11,12]λu v wx=>∃ga gb,u=.pointer (some ⟨ga,0,none⟩)/\v=.pointer (some ⟨gb,0,none⟩)/\AO wx ga 50 #[.int .i64 a.x,.int .i64 a.y]/\AO wx gb 50 #[.int .i64 T.x,.int .i64 T.y]/\ga≠gb/\wp.heap.size<=ga/\wp.heap.size<=gb/\AU wp wx;case first=>
    refine Pe wp.heap.size wp (.run 9 0 0<|.two 9 1023 (.call 10 2047<|.call 11 4095<|.call 12 8191<|.done) 10 1535<|.call 9 2047<|.call 11 4095<|.call 12 8191<|.done) λCG QR Ae Aj hS=>?_;iterate 9 refine Ah ?_
    refine QJ (i:=9) (j:=10) (FD Ae rfl) (FD Ae rfl) (λK hK=>?_) λK hK=>?_
    .have AQ:=V hS;clear hS;refine Fp (Fb rfl) ?_;go_simp;refine hK.out _ _ (Gs I AQ.out _) λhS=>?_;clear hK K AQ;try simp only[pu]
     refine BP ?_;clear hS;intro K hK AQ;go_simp;refine hK.out _ _ (Gs I AQ.out _) λhS=>?_;clear hK K AQ;try simp only[pu]
     refine BP ?_;clear hS;intro K hK AQ;go_simp;refine hK.out _ _ (by unfold Fh;have h:Below _ _ _:=AQ.out;repeat(first|with_reducible assumption|with_reducible exact Below.refl _ _|with_reducible refine Na ?_ PV _|with_reducible refine Below.drew ?_|with_reducible refine Gs I ?_ _|exact h)) ?_;intro hS;clear hK K AQ;try simp only[pu]
     refine BP ?_;clear hS;intro K hK AQ;go_simp;refine hK.out _ _ (by unfold Fh;have h:Below _ _ _:=AQ.out;repeat(first|with_reducible assumption|with_reducible exact Below.refl _ _|with_reducible refine Na ?_ PV _|with_reducible refine Below.drew ?_|with_reducible refine Gs I ?_ _|exact h)) ?_;intro hS;clear hK K AQ;try simp only[pu]
     refine L9 ?_;clear hS Aj Ae;intro hB;go_wp2;go_meet;first|exact⟨_,_,rfl,rfl,((AO.made rfl _ _).alloc _).drew,(AO.made Ak _ _).drew,I,I,I,hB⟩|exact⟨_,_,rfl,rfl,(AO.made Ak _ _).drew,((AO.made rfl _ _).alloc _).drew,I,I,I,hB⟩
    have AQ:=V hS;clear hS;refine Fp (Fb rfl) ?_;go_simp;refine hK.out _ _ (Gs I AQ.out _) λhS=>?_;clear hK K AQ;try simp only[pu]
    refine BP ?_;clear hS;intro K hK AQ;go_simp;refine hK.out _ _ (Gs I AQ.out _) λhS=>?_;clear hK K AQ;try simp only[pu]
    refine BP ?_;clear hS;intro K hK AQ;go_simp;refine hK.out _ _ (by unfold Fh;have h:Below _ _ _:=AQ.out;repeat(first|with_reducible assumption|with_reducible exact Below.refl _ _|with_reducible refine Na ?_ PV _|with_reducible refine Below.drew ?_|with_reducible refine Gs I ?_ _|exact h)) ?_;intro hS;clear hK K AQ;try simp only[pu]
    refine BP ?_;clear hS;intro K hK AQ;go_simp;refine hK.out _ _ (by unfold Fh;have h:Below _ _ _:=AQ.out;repeat(first|with_reducible assumption|with_reducible exact Below.refl _ _|with_reducible refine Na ?_ PV _|with_reducible refine Below.drew ?_|with_reducible refine Gs I ?_ _|exact h)) ?_;intro hS;clear hK K AQ;try simp only[pu]
    refine L9 ?_;clear hS Aj Ae;intro hB;go_wp2;go_meet;first|exact⟨_,_,rfl,rfl,((AO.made rfl _ _).alloc _).drew,(AO.made Ak _ _).drew,I,I,I,hB⟩|exact⟨_,_,rfl,rfl,(AO.made Ak _ _).drew,((AO.made rfl _ _).alloc _).drew,I,I,I,hB⟩
   obtain⟨ga,gb,rfl,rfl,xa,xb,aEA,hga,hgb,hb4⟩:=hcut;obtain⟨HXa,HXb,HB4,FH⟩:=D9 xa xb (J U.1 hb4)<|J HB.1<|J ach.1<|J U.1 hb4;have X2:=CW.1.keep FH.1;have YF:=V X2;have oh:=hb4.size;clear hb4 e10 e11 e20 e21 hlp kw kw2 k3 k4 k5 k6;obtain⟨BX,Bf,Bh,-⟩:=X2.BL;obtain⟨xal,xaa,xab,-⟩:=xa.BL;obtain⟨xbl,xba,xbb,-⟩:=xb.BL;go_wp2_with fail;refine(HGo.1 _).mono ?_;rintro e w5⟨rfl,C⟩;obtain⟨on,hon⟩:=BM<|Eh a T at_;rw[hon];obtain⟨VX,Cb,asU,aci,acj,vW⟩:=Lp hon (J HB4.1 C) (J FH.1 C) (HXa.1.keep C) (HXb.1.keep C)<|YF.1.keep C;have QU:=C.size;clear C xa xal xaa xab xb xbl xba xbb X2 BX Bf Bh HXa HXb YF HGo hon HB4 FH;cases on;case true=>have HF:=V<|II.1 (a,T) HQ.1 VX.1;go_wp2;go_ret;exact⟨Cm HF.1.symm,J HB1.1 asU.1⟩
   have hst:=asQ (v:=at_) (o:=M) (q:=(a,T)) VX.1;obtain⟨lo,hi,hlh⟩:∃lo hi:Pt,T.y<a.y/\lo=T/\hi=a\/¬T.y<a.y/\lo=a/\hi=T:=by
    by_cases c:T.y<a.y;.exact⟨T,a,.inl ⟨c,rfl,rfl⟩⟩
    exact⟨a,T,.inr ⟨c,rfl,rfl⟩⟩
   rw[asR hlh]at hst;have hlm:lim lo/\lim hi:=by
    rcases hlh with⟨-,rfl,rfl⟩|⟨-,rfl,rfl⟩;.exact⟨Wu ah.1,Wu Za.1⟩
    exact⟨Wu Za.1,Wu ah.1⟩
   have Ce:=V hst;have acn:=λW=>air lo hi at_ W hlm.1 hlm.2<|Wu YD.1;unfold BD at acn;have HGs:=V acn;clear acn hst hlm;have X2:=vW.1;have xa:=aci.1;have xb:=acj.1;try clear BX Bf Bh
   obtain⟨BX,Bf,Bh,-⟩:=X2.BL;try clear xal xaa xab
   obtain⟨xal,xaa,xab,asV,asW⟩:=xa.BL;try clear xbl xba xbb
   obtain⟨xbl,xba,xbb,asX,asY⟩:=xb.BL;go_upto_if 48 with fail;go_cut[]λwx=>AO wx ga 50 #[.int .i64 lo.x,.int .i64 lo.y]/\AO wx gb 50 #[.int .i64 hi.x,.int .i64 hi.y]/\AO wx (w.heap.size+1) 50 #[.int .i64 at_.x,.int .i64 at_.y]/\AU W3 wx;case first=>
    have az1:w.heap.size+1<W1.heap.size:=CW.1.lt;have hzw:=HB.1.size;have aAe:=U.1.size;have n1:w.heap.size+1≠ga:=I;have n2:w.heap.size+1≠gb:=I;rcases hlh with⟨c,rfl,rfl⟩|⟨c,rfl,rfl⟩
    .go_wp2;go_meet;refine⟨?_,?_,?_,?_⟩;.have h:=(((xa.EM 0<|.int .i64 lo.x).EM 1<|.int .i64 lo.y).far (p:=⟨gb,0,none⟩) aEA<|.int .i64 hi.x).far (p:=⟨gb,1,none⟩) aEA<|.int .i64 hi.y;simpa using h
     .have h:=((xb.far (p:=⟨ga,0,none⟩) (λe=>aEA e.symm)<|.int .i64 lo.x).far (p:=⟨ga,1,none⟩) (λe=>aEA e.symm)<|.int .i64 lo.y).EM 0<|.int .i64 hi.x;have h:=h.EM 1<|.int .i64 hi.y;simpa using h
     .exact(((X2.far (p:=⟨ga,0,none⟩) n1<|.int .i64 lo.x).far (p:=⟨ga,1,none⟩) n1<|.int .i64 lo.y).far (p:=⟨gb,0,none⟩) n2<|.int .i64 hi.x).far (p:=⟨gb,1,none⟩) n2<|.int .i64 hi.y
     exact bS (bS (bS (bS Cb.1 (p:=⟨ga,0,none⟩) D8 _) (p:=⟨ga,1,none⟩) D8 _) (p:=⟨gb,0,none⟩) D8 _) (p:=⟨gb,1,none⟩) D8 _
    go_wp2;go_meet;exact⟨aci.1,acj.1,vW.1,Cb.1⟩
   obtain⟨ya,yb,y2,hb6⟩:=hcut;have EG:=V hb6;have JK:=V (λ(o3:Bool)(h3:(if decide (lo.y<=at_.y/\at_.y<hi.y/\0<tw lo hi at_)=true then !M else M)=o3)=>show((EO P).take<|m+1).foldl (Rt at_) (false,o)=(false,o3)by rw[FI.1,LG,uV.1];show Rt at_ (false,M) (a,T)=_;rw[Ce.1,h3]);clear hb6 X2 BX Bf Bh xa xal xaa xab asV asW xb xbl xba xbb asX asY aci acj vW Cb Ce hlh;obtain⟨yal,yaa,yab,-⟩:=ya.BL;obtain⟨ybl,yba,ybb,-⟩:=yb.BL;obtain⟨y2l,y2a,y2b,-⟩:=y2.BL;by_cases c1:lo.y<=at_.y
   .by_cases c2:at_.y<hi.y
    .go_wp2_with fail;refine(HGs.1 _).mono ?_;rintro e w7⟨rfl,hb7⟩;have Gw:=V<|J EG.1 hb7;have hp:=asw (a:=lo) (b:=hi) (c:=at_);clear hb7 ya yal yaa yab yb ybl yba ybb y2 y2l y2a y2b HGs;generalize aZ lo hi at_=gs at*;by_cases c3:0<gs;.have aj:=V<|JK.1 (!M) (by rw[AZ<|by simp only[DI];exact⟨c1,c2,hp.1 c3⟩]);clear hp;cases M;all_goals
       go_wp2;go_roundw;case rel=>exact⟨m+1+1,_,I,I,BH,rfl,aj.1,Gw.1⟩
       case measure=>exact BJ
     have aj:=V<|JK.1 M (by rw[AX<|by simp only[DI];exactλh=>c3<|hp.2 h.2.2]);clear hp;go_wp2;go_roundw;case rel=>exact⟨m+1+1,_,I,I,BH,rfl,aj.1,Gw.1⟩
     exact BJ
    have aj:=V<|JK.1 M (by rw[AX<|by simp only[DI];exactλh=>c2 h.2.1]);go_wp2;go_roundw;case rel=>exact⟨m+1+1,_,I,I,BH,rfl,aj.1,EG.1⟩
    exact BJ
   have aj:=V<|JK.1 M (by rw[AX<|by simp only[DI];exactλh=>c1 h.1]);go_wp2;go_roundw;case rel=>exact⟨m+1+1,_,I,I,BH,rfl,aj.1,EG.1⟩
   exact BJ
  have hjj:j=P.length:=I;have z:=HE2.1;rw[Ip<|by rw[aE7];omega]at z;have HF:=V (show Uy at_ (Si p<|X.take<|k+1)=(false,M)by rw[HSk.1,atB,HE.1];exact z);clear z hjj;go_wp2;go_roundw;case rel=>exact⟨k+1,M,I,BH,rfl,HF.1,J HB.1<|J ach.1 U.1⟩
  exact BJ
 have hkk:k=X.length:=I;have z:=HE.1;rw[hkk,Gu]at z;have hf:=aEK.1 o z;rw[<-hf];clear z hkk;go_wp2;go_ret;exact⟨rfl,J HB1.1 HB.1⟩
