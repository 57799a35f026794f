import Derived.Test.YtngoejdlompfoaaGreatJ08
set_option linter.unusedSimpArgs false
set_option linter.unusedVariables false
namespace Go.Proofs.YtngoejdlompfoaaGreat
open Go.RowKit
theorem abZ{α:Type}(l:List α)(f:α->Int)(h:∀x∈l,0<=f x):0<=(l.map f).sum:=by induction l with|nil=>exact J8 _|cons a l c=>rw[FB,H8];have:=h a ED;have:=c λx j=>h x<|FW _ j;omega
theorem ah5{α:Type}(l:List α)(f:α->Int)(h:∀x∈l,0<=f x)(h1:∃x∈l,0<f x):0<(l.map f).sum:=by induction l with|nil=>obtain⟨x,c,-⟩:=h1;cases c|cons a l j=>
  rw[FB,H8];have h0:=h a ED;have h2:=abZ l f λx c=>h x<|FW _ c;obtain⟨x,c,o⟩:=h1;rcases Dv.1 c with rfl|c;.omega
  .have:=j (λx c=>h x<|FW _ c) ⟨x,c,o⟩;omega
theorem abb{α:Type}(l:List α)(f:α->List Int):(l.flatMap f).sum=(l.map λx=>(f x).sum).sum:=by induction l with|nil=>rfl|cons a l c=>rw[LC,PX,c,FB,H8]
def NP(L:List<|Int×Int)(t:Int):Int:=(L.map λv=>if t<v.1 then v.2 else 0).sum
def aA(L:List<|Int×Int)(t:Int):Int:=(L.map λv=>if t<=v.1 then v.2 else 0).sum
theorem abd{L:List<|Int×Int}(h2:∀u∈L,u.2≠0->NP L u.1=0/\aA L u.1=1\/NP L u.1=1/\aA L u.1=0):∀(n:Nat)(t:Int),(∀v∈L,v.2≠0->v.1<=t+n)->NP L t=0\/NP L t=1
 |0,t,h=>by
  left;refine Uu _ _ λv hv=>?_;by_cases h0:v.2=0;.rw[h0];split<;>rfl
  have:=h v hv h0;rw[AX I]|n+1,t,h=>by
  by_cases hx:∃v∈L,v.2≠0/\v.1=t+1
  .obtain⟨u,j,h0,e⟩:=hx;have:NP L t=aA L u.1:=by
    refine GK _ _ _ λv _=>?_;rw[e];by_cases c:t<v.1;.rw[AZ c,AZ I]
    rw[AX c,AX I]
   have:=h2 u j h0;omega
  have e:NP L t=NP L (t+1):=by
   refine GK _ _ _ λv hv=>?_;by_cases h0:v.2=0;.rw[h0];split<;>split<;>rfl
   have:v.1≠t+1:=λe=>hx ⟨v,hv,h0,e⟩;by_cases c:t<v.1;.rw[AZ c,AZ I]
   rw[AX c,AX I]
  rw[e];refine abd h2 n (t+1) λv hv h0=>?_;have:=h v hv h0;omega
theorem abe:∀(L:List<|Int×Int),∃B:Nat,∀v∈L,-(B:Int)<v.1/\v.1<B
 |[]=>⟨0,λ_ h=>by cases h⟩|a::L=>by
  obtain⟨B,c⟩:=abe L;refine⟨B+a.1.natAbs+1,λv hv=>?_⟩;rcases Dv.1 hv with rfl|hv;.omega
  have:=c v hv;omega
theorem cnt_lt(n m:Nat)(h:m<=n):((List.range n).map λk:Nat=>if(k:Int)<m then(1:Int)else 0).sum=m:=by induction n generalizing m with|zero=>have:m=0:=I;subst this;rfl|succ n c=>
  rw[aU,Gt,PX];simp only[FB,Ri,H8,aP];by_cases h1:m<=n;.rw[c m h1,AX I];omega
  .have hm:m=n+1:=I;subst hm;rw[AZ I];have:=c n<|Dh _;rw[GK _ _ (λk:Nat=>if(k:Int)<n then(1:Int)else 0) λk hk=>by have:=FC.1 hk;rw[AZ I,AZ I],this];omega
theorem aqF{L:List<|Int×Int}(h2:∀u∈L,u.2≠0->NP L u.1=0/\aA L u.1=1\/NP L u.1=1/\aA L u.1=0)(h3:(L.map (·.2)).sum=0):0<=(L.map λu=>u.1*u.2).sum/\((∃u∈L,u.2≠0)->0<(L.map λu=>u.1*u.2).sum):=by
 obtain⟨B,o⟩:=abe L;have e:(L.map λu=>u.1*u.2).sum=((List.range<|2*B).map λk:Nat=>NP L<|(k:Int)-B).sum:=by
  have s:(L.map λu=>u.1*u.2).sum=(L.map λu=>u.1*u.2+(B:Int)*u.2).sum:=by rw[RV L (λu=>u.1*u.2) λu=>(B:Int)*u.2,Zz L (B:Int) λu=>u.2,h3,LD,lG]
  rw[s];unfold NP;rw[ac9];refine GK _ _ _ λu j=>?_;have hb:=o u j;have c:=cnt_lt (2*B) (u.1+B).toNat I;rw[GK _ _ (λk:Nat=>u.2*if(k:Int)<(u.1+B).toNat then(1:Int)else 0) λk hk=>by
   by_cases g:(k:Int)-B<u.1;.rw[AZ g,AZ I,Int.mul_one]
   rw[AX g,AX I,LD],Zz,c,show(((u.1+B).toNat:Nat):Int)=u.1+B by omega];rw[<-aCS,KT]
 have W:∀t,NP L t=0\/NP L t=1:=λt=>abd h2 (B+t.natAbs) t λv hv _=>by have:=o v hv;omega
 rw[e];refine⟨abZ _ _ λk _=>?_,λ⟨u,j,h0⟩=>ah5 _ _ (λk _=>?_) ?_⟩;.have:=W<|(k:Int)-B;omega
 .have:=W<|(k:Int)-B;omega
 have hb:=o u j;rcases h2 u j h0 with⟨-,g⟩|⟨g,-⟩
 .refine⟨(u.1-1+B).toNat,FC.2 I,?_⟩;rw[show(((u.1-1+B).toNat:Nat):Int)-B=u.1-1 by omega];have:NP L (u.1-1)=aA L u.1:=by
   refine GK _ _ _ λv _=>?_;by_cases c:u.1<=v.1;.rw[AZ c,AZ I]
   rw[AX c,AX I]
  omega
 refine⟨(u.1+B).toNat,FC.2 I,?_⟩;rw[show(((u.1+B).toNat:Nat):Int)-B=u.1 by omega];omega
theorem ah6(T:Nat)(u v:Int)(m:Nat):∀n:Nat,((List.range n).map λj:Nat=>if 2*(j:Int)+1-2*T<2*((m:Int)-T)then u+v*(2*(j:Int)+1-2*T)else 0).sum=u*(min n m:Nat)+v*((min n m:Nat)*(min n m:Nat)-2*T*(min n m:Nat))
 |0=>by simp|n+1=>by
  rw[aU,Gt,PX,ah6 T u v m n];simp only[FB,Ri,H8,aP,lG];by_cases h:n<m;.rw[AZ I,Nat.min_eq_left I,Nat.min_eq_left I];rw[show((n+1:Nat):Int)=(n:Int)+1 by omega];grind
  rw[AX I,aa0 I,aa0 I,lG]
def LP(T j:Nat):Int:=2*(j:Int)+1-2*T
theorem aqG{T:Nat}{a b:Pt}(o:-(T:Int)<=F a/\F a<=T)(hb:-(T:Int)<=F b/\F b<=T):((List.range<|2*T).map λj=>Ey (LP T j) a b*xN a b (LP T j)).sum=(F b-F a)*(F b-F a)*(a.x+b.x):=by
 have f:∀c:Pt,-(T:Int)<=F c/\F c<=T->((List.range<|2*T).map λj=>if LP T j<2*F c then xN a b<|LP T j else 0).sum=2*(a.x*F b-b.x*F a)*(F c+T)+(b.x-a.x)*((F c+T)*(F c+T)-2*T*(F c+T)):=by
  intro c s;have:=ah6 T (2*(a.x*F b-b.x*F a)) (b.x-a.x) (F c+T).toNat<|2*T;rw[aa0 I,show(((F c+T).toNat:Nat):Int)=F c+T by omega]at this;rw[<-this];refine GK _ _ _ λj _=>?_;have e:xN a b (LP T j)=2*(a.x*F b-b.x*F a)+(b.x-a.x)*LP T j:=by unfold xN;grind
  rw[e,show F c+(T:Int)-T=F c by omega];rfl
 have e:((List.range<|2*T).map λj=>Ey (LP T j) a b*xN a b (LP T j)).sum=((List.range<|2*T).map λj=>(if LP T j<2*F b then xN a b<|LP T j else 0)+-if LP T j<2*F a then xN a b<|LP T j else 0).sum:=by refine GK _ _ _ λj _=>?_;unfold Ey;split<;>split<;>omega
 rw[e,RV,TY,f b hb,f a o];generalize F a=A;generalize F b=B;grind
theorem abf(p:Pl)(z:Int->Int)(c:Int)(f:Pt->Pt->Int):Dj p z (λa b=>c*f a b)=c*Dj p z f:=by unfold Dj Ji;rw[<-Zz];refine GK _ _ _ λa _=>?_;rw[Zz,<-qp,KT<|z a.id,qp]
theorem aqH(p:Pl)(z:Int->Int):Dj p z (λ_ _=>0)=0:=by have:=abf p z 0 λ_ _=>0;rw[JQ]at this;simpa using this
theorem agU{β:Type}(p:Pl)(z:Int->Int)(f:β->Pt->Pt->Int):∀l:List β,Dj p z (λa b=>(l.map λj=>f j a b).sum)=(l.map λj=>Dj p z<|f j).sum|[]=>aqH p z|j::l=>by simp only[FB,H8];rw[mZ p z (f j) λa b=>(l.map λj=>f j a b).sum,agU p z f l]
def xE(D:Int)(a b:Pt)(τ:Int):Int:=xN a b τ*(D/(F b-F a))
theorem jE(D:Int)(a b:Pt)(τ:Int):xE D b a τ=xE D a b τ:=by unfold xE;rw[aq0,show F a-F b=-(F b-F a)by omega,Int.ediv_neg,Int.neg_mul_neg]
theorem zJ{D:Int}(hD:0<D){a b s t:Pt}{τ:Int}(z:F a<F b)(C:F s<F t)(K:F b-F a∣D)(M:F t-F s∣D):(xE D s t τ<xE D a b τ↔0<dX a b s t τ)/\(xE D s t τ=xE D a b τ↔dX a b s t τ=0):=by
 obtain⟨q,j⟩:=K;obtain⟨r,o⟩:=M;unfold xE;have T:D/(F b-F a)=q:=by rw[j];exact xu _ I
 have U:D/(F t-F s)=r:=by rw[o];exact xu _ I
 rw[T,U];unfold dX;generalize xN a b τ=X at*;generalize xN s t τ=Y at*;have hn:0<F b-F a:=I;have hm:0<F t-F s:=I;generalize F b-F a=n at*;generalize F t-F s=m at*;have k:(X*q-Y*r)*(n*m)=D*(X*m-Y*n):=by
  have h1:(X*q-Y*r)*(n*m)=n*q*(X*m)-m*r*(Y*n):=by grind
  rw[h1,<-j,<-o,lF]
 have c:=KR hn hm;generalize n*m=w at*;generalize X*m-Y*n=x at*;have a1:0<X*q-Y*r->0<(X*q-Y*r)*w:=λh=>KR h c;have a2:X*q-Y*r<0->(X*q-Y*r)*w<0:=λh=>Xd h c;have a3:X*q-Y*r=0->(X*q-Y*r)*w=0:=λh=>by rw[h,JQ]
 have b1:0<x->0<D*x:=λh=>KR hD h;have b2:x<0->D*x<0:=λh=>Yy hD h;have b3:x=0->D*x=0:=λh=>by rw[h,LD]
 rw[k]at a1 a2 a3;generalize D*x=Dx at*;generalize X*q=g1 at*;generalize Y*r=g2 at*;constructor<;>constructor<;>intro<;>omega
theorem abg:∀l:List Int,(∀x∈l,x≠0)->∃D,0<D/\∀x∈l,x∣D
 |[],_=>⟨1,I,λ_ h=>by cases h⟩|a::l,h=>by
  obtain⟨D,h1,h2⟩:=abg l λx c=>h x<|FW _ c;have j:=h a ED;refine⟨(a.natAbs:Int)*D,KR I h1,λx c=>?_⟩;rcases Dv.1 c with rfl|c;.exact Int.dvd_trans Int.dvd_natAbs_self<|Int.dvd_mul_right _ _
  exact Int.dvd_trans (h2 x c)<|Int.dvd_mul_left _ _
def OJ(p:Pl)(z:Int->Int)(D τ:Int):List<|Int×Int:=p.AP.flatMap λa=>(List.range<|(AV p a).length-1).map λk=>(xE D ((AV p a).getD k AY) ((AV p a).getD (k+1) AY) τ,z a.id*Ey τ ((AV p a).getD k AY) ((AV p a).getD (k+1) AY))
theorem uj(p:Pl)(z:Int->Int)(D τ:Int)(G:Int->Int->Int)(j:∀x c s,G x (c*s)=c*G x s):((OJ p z D τ).map λu=>G u.1 u.2).sum=Dj p z λa b=>G (xE D a b τ)<|Ey τ a b:=by unfold OJ Dj Ji;rw[aCb,abb];refine GK _ _ _ λa _=>?_;rw[KP,<-Zz];refine GK _ _ _ λk _=>?_;exact j _ _ _
section
variable{p:Pl}(h:Valid p)
include h
theorem Valid.zK{z:Int->Int}(j:G8 p z){a:Ar}(c:a∈p.AP){m:Nat}(hm:m+1<(AV p a).length):MX p z ((AV p a).getD m AY) ((AV p a).getD (m+1) AY)=Hz p z (-a.id)/\MX p z ((AV p a).getD (m+1) AY) ((AV p a).getD m AY)=Hz p z a.id:=by
 have o:=En p a;have hid:=(h.IB c).1;have K:=h.acG j c hm;have M:=h.aEs j c m hm;have T:=h.aEs j c a.via.length I;have U:=h.VO j c;have h2:(AV p a).getD (a.via.length+1) AY=nodeAt p a.dst:=by have:=WX p a;rwa[o,show a.via.length+2-1=a.via.length+1 by omega]at this
 have hn:Hz p z (-a.id)=Qi p z ((AV p a).getD (a.via.length+1) AY) ((AV p a).getD a.via.length AY):=by unfold Hz;rw[h.zk c,h.gy c,h2]
 have j2:Qi p z ((AV p a).getD (m+1) AY) ((AV p a).getD m AY)-MX p z ((AV p a).getD (m+1) AY) ((AV p a).getD m AY)=-z a.id:=by
  by_cases h0:m+1=(AV p a).length-1;.obtain⟨n,hn,s,C⟩:=h.sound.Zt c;have:=h.tC j hn (d:=-a.id)<|TV.2 ⟨a,c,.inr ⟨rfl,s.symm⟩⟩;rw[h.gy c,show a.via.length=m by omega]at this;rw[h0,WX,C,this];unfold zD;rw[AX I,QF]
  exact h.agn z c I
 omega
theorem Valid.apn{z:Int->Int}{a:Ar}(j:a∈p.AP){m:Nat}(hm:m+1<(AV p a).length){f:Pt->Pt->Int}(h0:∀c∈p.AP,z c.id≠0->∀k,k+1<(AV p c).length->¬(c=a/\k=m)->f ((AV p c).getD k AY) ((AV p c).getD (k+1) AY)=0):Dj p z f=z a.id*f ((AV p a).getD m AY) ((AV p a).getD (m+1) AY):=by
 unfold Dj Ji;have:=sZ p.AP (·.id) h.sound.AP (λ_=>z a.id*f ((AV p a).getD m AY) ((AV p a).getD (m+1) AY)) a.id ⟨a,j,rfl⟩;rw[<-this];refine GK _ _ _ λc s=>?_;by_cases hz0:z c.id=0
 .rw[hz0,JQ];by_cases e:a.id=c.id;.rw[AZ e,e,hz0,JQ]
  rw[AX e]
 by_cases e:a.id=c.id;.have:=h.ac0 j s e;subst this;rw[AZ rfl,aA1 _ m (λk=>f ((AV p a).getD k AY)<|(AV p a).getD (k+1) AY) λk hk o=>h0 a j hz0 k I λe=>o e.2,AZ I]
 rw[AX e,Uu _ _ λk hk=>h0 c s hz0 k aCJ λC=>e<|by rw[C.1],LD]
def VQ(p:Pl)(z:Int->Int)(τ:Int):Prop:=∀a∈p.AP,z a.id≠0->∀k,k<(AV p a).length->2*F ((AV p a).getD k AY)≠τ
omit h in theorem VQ.odd(z:Int->Int){τ:Int}(hτ:τ%2=1):VQ p z τ:=λa _ _ k _=>I
omit h in theorem aEy{z:Int->Int}{f g:Pt->Pt->Int}(h:∀a∈p.AP,z a.id≠0->∀k,k+1<(AV p a).length->f ((AV p a).getD k AY) ((AV p a).getD (k+1) AY)=g ((AV p a).getD k AY) ((AV p a).getD (k+1) AY)):Dj p z f=Dj p z g:=by
 unfold Dj Ji;refine GK _ _ _ λa ha=>?_;by_cases h0:z a.id=0;.rw[h0,JQ,JQ]
 rw[GK _ _ (λk=>g ((AV p a).getD k AY)<|(AV p a).getD (k+1) AY) λk hk=>h a ha h0 k aCJ]
theorem Valid.beyond{z:Int->Int}(hz:G8 p z){D:Int}(hD:0<D)(hd:∀a∈p.AP,∀k,k+1<(AV p a).length->F ((AV p a).getD (k+1) AY)-F ((AV p a).getD k AY)∣D){τ:Int}(C:VQ p z τ){c:Ar}(hc:c∈p.AP){m:Nat}(hm:m+1<(AV p c).length){s t:Pt}(he:s=(AV p c).getD m AY/\t=(AV p c).getD (m+1) AY\/t=(AV p c).getD m AY/\s=(AV p c).getD (m+1) AY)(h1:2*F s<τ)(h2:τ<2*F t):Dj p z (λa b=>if xE D s t τ<xE D a b τ then Ey τ a b else 0)=MX p z s t:=by
 have ht:=h.su hz λv=>-wR s t τ v;have e:Dj p z (λa b=>if xE D s t τ<xE D a b τ then Ey τ a b else 0)=Dj p z λa b=>RX s t a b+(-wR s t τ b- -wR s t τ a):=by
  refine aEy λa j K k hk=>?_;have M:=h.DW j (k:=k) I;have T:=h.DW j (k:=k+1) hk;have n1:=h.DW hc (k:=m) I;have n2:=h.DW hc (k:=m+1) hm;have hne:=(h.distinct j hk).1;have NM:=λh1 h2 h3 o=>h.acA j hc hk hm h1 h2 h3 o;have da:=hd a j k hk;have fx:=C a j K k I;have fy:=C a j K (k+1) hk;have dc:=hd c hc m hm;generalize(AV p a).getD k AY=x at*;generalize(AV p a).getD (k+1) AY=y at*;generalize(AV p c).getD m AY=e at*;generalize(AV p c).getD (m+1) AY=f at*;have ns:Bl s=true:=by rcases he with⟨rfl,-⟩|⟨-,rfl⟩<;>assumption
  have nt:Bl t=true:=by rcases he with⟨-,rfl⟩|⟨rfl,-⟩<;>assumption
  have dst:F t-F s∣D:=by
   rcases he with⟨rfl,rfl⟩|⟨rfl,rfl⟩;.exact dc
   rw[show F t-F s=-(F s-F t)by omega];exact y7.2 dc
  have zG:x≠s->x≠t->y≠s->y≠t->Ns x y s t:=λh1 h2 h3 o=>by
   rcases he with⟨rfl,rfl⟩|⟨rfl,rfl⟩;.exact NM h1 h2 h3 o
   exact(NM h2 h1 o h3).comm.flip.comm
  have U:F s<F t:=I;have up:∀{a b:Pt},2*F a≠τ->2*F b≠τ->Bl a=true->Bl b=true->F a<F b->F b-F a∣D->(a≠s->a≠t->b≠s->b≠t->Ns a b s t)->(if xE D s t τ<xE D a b τ then Ey τ a b else 0)=RX s t a b+(-wR s t τ b- -wR s t τ a):=by
   intro a b fa fb M T hab da NM;have e:=aq5 M T ns nt hab U NM fa fb h1 h2;have k:=(zJ (τ:=τ) hD hab U da dst).1;have e2:RX s t a b+(-wR s t τ b- -wR s t τ a)=RX s t a b+(wR s t τ a-wR s t τ b):=I;rw[e2,<-e];unfold Ey;by_cases g:0<dX a b s t τ
   .rw[AZ<|k.2 g];by_cases g1:2*F a<τ<;>by_cases g2:τ<2*F b;.rw[AZ g2,AX I,AZ ⟨g1,g2,g⟩];rfl
    .rw[AX g2,AX I,AX λe=>g2 e.2.1];rfl
    .rw[AZ g2,AZ I,AX λe=>g1 e.1];rfl
    omega
   rw[AX λe=>g<|k.1 e,AX λe=>g e.2.2]
  rcases JR (F x)<|F y with c1|c1|c1;.exact up fx fy M T c1 da zG
  .exact absurd (ML M T c1) hne
  have:=up fy fx T M c1 (by rw[show F x-F y=-(F y-F x)by omega];exact y7.2 da) λh1 h2 h3 o=>(zG h3 o h1 h2).flip;rw[jE D x y τ,agj s t x y]at this;have e3:Ey τ y x=-Ey τ x y:=by unfold Ey;omega
  rw[e3]at this;split at this<;>split<;>first|omega|contradiction
 rw[e,mZ p z (RX s t) λa b=>-wR s t τ b- -wR s t τ a,ht,lG];rfl
end
theorem aEz{τ:Int}{x y:Pt}(c:2*F x≠τ)(j:2*F y≠τ)(h0:Ey τ x y≠0):2*F x<τ/\τ<2*F y/\Ey τ x y=1\/2*F y<τ/\τ<2*F x/\Ey τ x y=-1:=by
 unfold Ey at*;by_cases c1:τ<2*F y<;>by_cases c2:τ<2*F x;.exact absurd (by rw[AZ c1,AZ c2];rfl) h0
 .exact .inl ⟨I,c1,by rw[AZ c1,AX c2];rfl⟩
 .exact .inr ⟨I,c2,by rw[AX c1,AZ c2];rfl⟩
 exact absurd (by rw[AX c1,AX c2];rfl) h0
section
variable{p:Pl}(h:Valid p)
include h
theorem Valid.apo{D:Int}(hD:0<D)(hd:∀a∈p.AP,∀k,k+1<(AV p a).length->F ((AV p a).getD (k+1) AY)-F ((AV p a).getD k AY)∣D){τ:Int}{z:Int->Int}(j:VQ p z τ){c d:Ar}(hc:c∈p.AP)(C:z c.id≠0)(o:d∈p.AP)(K:z d.id≠0){k m:Nat}(hk:k+1<(AV p c).length)(hm:m+1<(AV p d).length)(hne:¬(c=d/\k=m))(h1:Ey τ ((AV p c).getD k AY) ((AV p c).getD (k+1) AY)≠0)(h2:Ey τ ((AV p d).getD m AY) ((AV p d).getD (m+1) AY)≠0):xE D ((AV p d).getD m AY) ((AV p d).getD (m+1) AY) τ≠xE D ((AV p c).getD k AY) ((AV p c).getD (k+1) AY) τ:=by
 have dc:=hd c hc k hk;have dd:=hd d o m hm;have N:=λa b s t=>h.aq9 (a:=a) (b:=b) (s:=s) (t:=t) hc o hk hm hne;have s1:=aEz (j c hc C k I) (j c hc C (k+1) hk) h1;have s2:=aEz (j d o K m I) (j d o K (m+1) hm) h2;generalize(AV p c).getD k AY=u at*;generalize(AV p c).getD (k+1) AY=v at*;generalize(AV p d).getD m AY=x at*;generalize(AV p d).getD (m+1) AY=y at*;have M:F u-F v∣D:=by rw[show F u-F v=-(F v-F u)by omega];exact y7.2 dc
 have T:F x-F y∣D:=by rw[show F x-F y=-(F y-F x)by omega];exact y7.2 dd
 intro e;rcases s1 with⟨a1,U,-⟩|⟨a1,U,-⟩<;>rcases s2 with⟨b1,b2,-⟩|⟨b1,b2,-⟩;.exact N u v x y (.inl ⟨rfl,rfl⟩) (.inl ⟨rfl,rfl⟩) b1 b2 a1 U<|(zJ hD I I dc dd).2.1 e
 .exact N u v y x (.inl ⟨rfl,rfl⟩) (.inr ⟨rfl,rfl⟩) b1 b2 a1 U<|(zJ hD I I dc T).2.1<|by rw[jE];exact e
 .exact N v u x y (.inr ⟨rfl,rfl⟩) (.inl ⟨rfl,rfl⟩) b1 b2 a1 U<|(zJ hD I I M dd).2.1<|by rw[jE D u v];exact e
 exact N v u y x (.inr ⟨rfl,rfl⟩) (.inr ⟨rfl,rfl⟩) b1 b2 a1 U<|(zJ hD I I M T).2.1<|by rw[jE,jE D u v];exact e
theorem Valid.aEC{z:Int->Int}(U:G8 p z){D:Int}(hD:0<D)(hd:∀a∈p.AP,∀k,k+1<(AV p a).length->F ((AV p a).getD (k+1) AY)-F ((AV p a).getD k AY)∣D){τ:Int}(C:VQ p z τ){a:Ar}(T:a∈p.AP){k:Nat}(hk:k+1<(AV p a).length)(hs:2*F ((AV p a).getD k AY)<τ/\τ<2*F ((AV p a).getD (k+1) AY)\/2*F ((AV p a).getD (k+1) AY)<τ/\τ<2*F ((AV p a).getD k AY)):NP (OJ p z D τ) (xE D ((AV p a).getD k AY) ((AV p a).getD (k+1) AY) τ)=(if F ((AV p a).getD k AY)<F ((AV p a).getD (k+1) AY)then Hz p z<|-a.id else Hz p z a.id)/\(z a.id≠0->aA (OJ p z D τ) (xE D ((AV p a).getD k AY) ((AV p a).getD (k+1) AY) τ)=if F ((AV p a).getD k AY)<F ((AV p a).getD (k+1) AY)then Hz p z a.id else Hz p z<|-a.id):=by
 have hp:=h.VO U T;obtain⟨r1,r2⟩:=h.zK U T hk;have own:=λ(hz0:z a.id≠0)(hs0:Ey τ ((AV p a).getD k AY) ((AV p a).getD (k+1) AY)≠0)=>h.apn (z:=z) T hk (f:=λx y=>if xE D ((AV p a).getD k AY) ((AV p a).getD (k+1) AY) τ=xE D x y τ then Ey τ x y else 0) (λc hc hzc m hm hne=>by
  by_cases g:Ey τ ((AV p c).getD m AY) ((AV p c).getD (m+1) AY)=0;.rw[g];split<;>rfl
  exact AX<|h.apo hD hd C hc hzc T hz0 hm hk hne g hs0);rw[AZ rfl]at own;have K:=h.beyond U hD hd C T hk (s:=(AV p a).getD k AY) (t:=(AV p a).getD (k+1) AY)<|.inl ⟨rfl,rfl⟩;have j:=h.beyond U hD hd C T hk (t:=(AV p a).getD k AY) (s:=(AV p a).getD (k+1) AY)<|.inr ⟨rfl,rfl⟩;rw[jE D<|(AV p a).getD k AY]at j;rw[r1]at K;rw[r2]at j;have sg:Ey τ ((AV p a).getD k AY) ((AV p a).getD (k+1) AY)=if F ((AV p a).getD k AY)<F ((AV p a).getD (k+1) AY)then 1 else-1:=by
  unfold Ey;rcases hs with⟨M,g2⟩|⟨M,g2⟩;.rw[AZ g2,AX I,AZ I];rfl
  rw[AX I,AZ g2,AX I];rfl
 generalize xE D ((AV p a).getD k AY) ((AV p a).getD (k+1) AY) τ=X at*;have bS:NP (OJ p z D τ) X=Dj p z λa b=>if X<xE D a b τ then Ey τ a b else 0:=uj p z D τ (λx s=>if X<x then s else 0) (λx c s=>by split<;>simp);have bE:aA (OJ p z D τ) X=Dj p z (λa b=>if X<xE D a b τ then Ey τ a b else 0)+Dj p z λa b=>if X=xE D a b τ then Ey τ a b else 0:=by
  rw[<-mZ];have:=uj p z D τ (λx s=>if X<=x then s else 0) (λx c s=>by split<;>simp);refine this.trans<|aA2 λc _ m _=>?_;rcases JR X<|xE D ((AV p c).getD m AY) ((AV p c).getD (m+1) AY) τ with g|g|g;.rw[AZ I,AZ g,AX I];omega
  .rw[AZ I,AX I,AZ g];omega
  rw[AX I,AX I,AX I];rfl
 rw[bS];have o:=λhz0=>own hz0 (by rw[sg];split<;>omega);rcases hs with⟨M,g2⟩|⟨M,g2⟩;.rw[AZ I]at sg⊢;rw[AZ I];refine⟨K M g2,λhz0=>?_⟩;rw[bE,o hz0,K M g2,sg];omega
 rw[AX I]at sg⊢;rw[AX I];refine⟨j M g2,λhz0=>?_⟩;rw[bE,o hz0,j M g2,sg];omega
theorem Valid.apq{z:Int->Int}(c:G8 p z)(D τ:Int):((OJ p z D τ).map (·.2)).sum=0:=by rw[uj p z D τ (λ_ s=>s) λ_ _ _=>rfl];exact h.su c λv=>if τ<2*F v then 1 else 0
theorem Valid.agV{z:Int->Int}(U:G8 p z)(hw:∀a∈p.AP,z a.id≠0->Hz p z (-a.id)=0/\Hz p z a.id=1\/Hz p z (-a.id)=1/\Hz p z a.id=0){D:Int}(hD:0<D)(hd:∀a∈p.AP,∀k,k+1<(AV p a).length->F ((AV p a).getD (k+1) AY)-F ((AV p a).getD k AY)∣D){τ:Int}(j:VQ p z τ):∀u∈OJ p z D τ,u.2≠0->NP (OJ p z D τ) u.1=0/\aA (OJ p z D τ) u.1=1\/NP (OJ p z D τ) u.1=1/\aA (OJ p z D τ) u.1=0:=by
 intro u C o;obtain⟨a,s,C⟩:=Fj.1 C;obtain⟨k,hk,rfl⟩:=EP.1 C;have hk:=FC.1 hk;have hk:k+1<(AV p a).length:=I;simp only at o⊢;have c:z a.id≠0:=λe=>o (by rw[e,JQ]);have K:Ey τ ((AV p a).getD k AY) ((AV p a).getD (k+1) AY)≠0:=λe=>o (by rw[e,LD]);have hW:=hw a s c;have M:=aEz (j a s c k I) (j a s c (k+1) hk) K;obtain⟨b1,b2⟩:=h.aEC U hD hd j s hk (by
  rcases M with⟨T,g2,-⟩|⟨T,g2,-⟩;.exact .inl ⟨T,g2⟩
  exact .inr ⟨T,g2⟩);rw[b1,b2 c];split<;>omega
theorem Valid.apr{z:Int->Int}(o:G8 p z)(C:∀a∈p.AP,z a.id≠0->Hz p z (-a.id)=0/\Hz p z a.id=1\/Hz p z (-a.id)=1/\Hz p z a.id=0){D:Int}(hD:0<D)(hd:∀a∈p.AP,∀k,k+1<(AV p a).length->F ((AV p a).getD (k+1) AY)-F ((AV p a).getD k AY)∣D){τ:Int}(j:τ%2=1):0<=Dj p z (λa b=>xE D a b τ*Ey τ a b)/\((∃a∈p.AP,∃k,k+1<(AV p a).length/\z a.id≠0/\Ey τ ((AV p a).getD k AY) ((AV p a).getD (k+1) AY)≠0)->0<Dj p z (λa b=>xE D a b τ*Ey τ a b)):=by
 have K:=uj p z D τ (λx s=>x*s) (λx c s=>by grind);have:=aqF (h.agV o C hD hd<|VQ.odd z j)<|h.apq o D τ;rw[K]at this;refine⟨this.1,λ⟨a,ha,k,hk,h4,h5⟩=>this.2 ⟨(xE D ((AV p a).getD k AY) ((AV p a).getD (k+1) AY) τ,z a.id*Ey τ ((AV p a).getD k AY) ((AV p a).getD (k+1) AY)),?_,λe=>?_⟩⟩;.exact Fj.2 ⟨a,ha,EP.2 ⟨k,FC.2 I,rfl⟩⟩
 rcases Yz.1 e with e|e;.exact h4 e
 exact h5 e
theorem Valid.aps{z:Int->Int}(U:G8 p z){T:Nat}(s:∀q,Bl q=true->-(T:Int)<=F q/\F q<=T){D:Int}(hd:∀a∈p.AP,∀k,k+1<(AV p a).length->F ((AV p a).getD (k+1) AY)-F ((AV p a).getD k AY)∣D):D*(8388608*Dj p z Qj)=((List.range<|2*T).map λj=>Dj p z<|λa b=>xE D a b (LP T j)*Ey (LP T j) a b).sum:=by
 rw[<-agU p z λj a b=>xE D a b (LP T j)*Ey (LP T j) a b,<-abf,<-abf];have t:=h.su U λv=>D*(v.x*F v);have e:Dj p z (λa b=>((List.range<|2*T).map λj=>xE D a b (LP T j)*Ey (LP T j) a b).sum)=Dj p z λa b=>D*(8388608*Qj a b)+(D*(b.x*F b)-D*(a.x*F a)):=by
  refine aA2 λa c k hk=>?_;have C:=h.DW c (k:=k) I;have K:=h.DW c (k:=k+1) hk;have o:=(h.distinct c hk).1;have da:=hd a c k hk;generalize(AV p a).getD k AY=x at*;generalize(AV p a).getD (k+1) AY=y at*;have hn:F y-F x≠0:=λe=>o<|ML C K I;have es:=aqG (s x C)<|s y K;obtain⟨q,M⟩:=da;have eq:D/(F y-F x)=q:=by rw[M];exact xu _ hn
  unfold xE;rw[eq,GK _ _ (λj=>q*(Ey (LP T j) x y*xN x y (LP T j))) λj _=>by grind,Zz,es];have hc:8388608*Qj x y=x.x*F y-y.x*F x:=by unfold Qj F;grind
  rw[hc,M];generalize F x=A;generalize F y=B;grind
 rw[e,mZ p z (λa b=>D*(8388608*Qj a b)) λa b=>D*(b.x*F b)-D*(a.x*F a),t,lG]
theorem Valid.zL{z:Int->Int}(M:G8 p z)(U:∀a∈p.AP,z a.id≠0->Hz p z (-a.id)=0/\Hz p z a.id=1\/Hz p z (-a.id)=1/\Hz p z a.id=0):0<=Dj p z Qj/\((∃a∈p.AP,z a.id≠0)->0<Dj p z Qj):=by
 obtain⟨T,C⟩:∃T:Nat,∀q,Bl q=true->-(T:Int)<=F q/\F q<=T:=⟨17592188141568,λq hq=>by rw[QO]at hq;unfold F;omega⟩;have s:∀a∈p.AP,∀k,k+1<(AV p a).length->F ((AV p a).getD (k+1) AY)-F ((AV p a).getD k AY)≠0:=λa o k hk e=>(h.distinct o hk).1<|ML (h.DW o I) (h.DW o hk) I;obtain⟨D,hD,hd⟩:∃D:Int,0<D/\∀a∈p.AP,∀k,k+1<(AV p a).length->F ((AV p a).getD (k+1) AY)-F ((AV p a).getD k AY)∣D:=by obtain⟨D,h1,h2⟩:=abg (p.AP.flatMap λa=>(List.range<|(AV p a).length-1).map λk=>F ((AV p a).getD (k+1) AY)-F ((AV p a).getD k AY)) (λx K=>by obtain⟨a,o,K⟩:=Fj.1 K;obtain⟨k,hk,rfl⟩:=EP.1 K;exact s a o k aCJ);exact⟨D,h1,λa o k hk=>h2 _<|Fj.2 ⟨a,o,EP.2 ⟨k,FC.2 I,rfl⟩⟩⟩
 have e:=h.aps M C hd;have odd:∀j,LP T j%2=1:=λj=>by unfold LP;omega
 have S:=λj=>h.apr M U hD hd<|odd j;refine⟨?_,λ⟨a,o,hza⟩=>?_⟩;.have h0:=abZ (List.range<|2*T) (λj=>Dj p z<|λa b=>xE D a b (LP T j)*Ey (LP T j) a b) λj _=>(S j).1;rw[<-e]at h0;apply Iq;intro hn;have:=Yy hD (show 8388608*Dj p z Qj<0 by omega);omega
 have hl:=En p a;have hk:0+1<(AV p a).length:=I;have hs:=s a o 0 hk;have t0:=C _<|h.DW o (k:=0) I;have t1:=C _<|h.DW o (k:=0+1) hk;have h0:=ah5 (List.range<|2*T) (λj=>Dj p z<|λa b=>xE D a b (LP T j)*Ey (LP T j) a b) (λj _=>(S j).1) (by
  refine⟨(min (F<|(AV p a).getD 0 AY) (F<|(AV p a).getD (0+1) AY)+T).toNat,FC.2 I,?_⟩;refine(S _).2 ⟨a,o,0,hk,hza,?_⟩;unfold Ey LP;generalize F ((AV p a).getD 0 AY)=A at*;generalize F ((AV p a).getD (0+1) AY)=B at*;have hj:(((min A B+T).toNat:Nat):Int)=min A B+T:=I;rw[hj];by_cases c:A<B;.rw[AZ I,AX I];omega
  rw[AX I,AZ I];omega);rw[<-e]at h0;apply Iq;intro hn;have:=xk (show 0<=D by omega) (show 8388608*Dj p z Qj<=0 by omega);omega
end
set_option linter.unusedSectionVars false
def BK(X:List Int)(i:Int):Int:=(if i∈X then 1 else 0)-if-i∈X then 1 else 0
def EI(p:Pl)(X:List Int):Int:=(X.map<|Qv p).sum
theorem apt(P:List Pt):Ji Qj P=SI P:=by unfold Ji SI;generalize P.length-1=n;induction n with|zero=>rfl|succ n c=>rw[aU,Gt,PX,c,Kq];simp
theorem jF(p:Pl)(z:Int->Int)(f:Pt->Pt->Int):Dj p (λi=>-z i) f=-Dj p z f:=by unfold Dj;rw[<-TY];exact GK _ _ _ λa _=>by rw[PY]
theorem zM{p:Pl}{z:Int->Int}{f:Pt->Pt->Int}(h0:∀a∈p.AP,z a.id=0\/∀k,k+1<(AV p a).length->f ((AV p a).getD k AY) ((AV p a).getD (k+1) AY)=0):Dj p z f=0:=by
 unfold Dj Ji;refine Uu _ _ λa c=>?_;rcases h0 a c with e|e;.rw[e,JQ]
 rw[Uu _ _ λk hk=>e k aCJ,LD]
theorem abh{α:Type}(f:α->Int):∀l:List α,l≠[]->∃x∈l,∀y∈l,f y<=f x
 |[],h=>absurd rfl h|[a],_=>⟨a,Ak,λy j=>by rw[EJ]at j;subst j;exact J8 _⟩|a::b::l,_=>by
  obtain⟨x,o,hm⟩:=abh f (b::l) Ak;by_cases c:f a<=f x
  .refine⟨x,FW _ o,λy j=>?_⟩;rcases Dv.1 j with rfl|j;.exact c
   exact hm y j
  refine⟨a,ED,λy j=>?_⟩;rcases Dv.1 j with rfl|j;.exact J8 _
  have:=hm y j;omega
theorem apu(p:Pl)(l:List Int)(k:Nat)(hk:k<=l.length):P5 p l k=((l.take k).map<|Qv p).sum:=by induction k with|zero=>simp[P5]|succ k c=>rw[P5,c I,Eu<|show k<l.length by omega,Gt,PX,G5,DK<|show k<l.length by omega];simp
section
variable{p:Pl}(h:Valid p)
include h
theorem Valid.apv(c:Int->Int):((BZ p).map c).sum=(p.AP.map λa=>c a.id+c (-a.id)).sum:=by unfold BZ;rw[Gt,PX,aEw<|(List.reverse_perm _).map c,KP,KP,RV];show(p.AP.map λa=>c<|-a.id).sum+(p.AP.map λa=>c a.id).sum=_;omega
theorem Valid.Fv{X:List Int}(j:X∈CV p):X.Nodup/\∀d∈X,d∈BZ p:=by obtain⟨x,c,e,-⟩:=h.Tc j;have hD:∀x∈BZ p,FU p x∈BZ p:=λx c=>(h.SH c).1;have o:=Xt hD (λx c y s=>h.Zy c s) c;rw[e];exact⟨o.2.2.2.2.1,λd hd=>yx hD c hd⟩
theorem Valid.abj{X:List Int}(j:X∈CV p){d:Int}(hd:d∈BZ p):FU p d∈X↔d∈X:=by obtain⟨x,c,e,-⟩:=h.Tc j;rw[e];exact ab3 (λx c=>(h.SH c).1) (λx c y o=>h.Zy c o) c hd
theorem Valid.aED{X:List Int}(s:X∈CV p)(j:Int->Int):(X.map j).sum=(p.AP.map λa=>(if a.id∈X then j a.id else 0)+if-a.id∈X then j<|-a.id else 0).sum:=by
 obtain⟨h1,h2⟩:=h.Fv s;rw[<-h.apv λd=>if d∈X then j d else 0];have z:((BZ p).filter<|λd=>decide<|d∈X).Perm X:=by refine(xq (h.aEm.filter _) h1).2 λd=>?_;rw[Nc,DI];exact⟨λh=>h.2,λh=>⟨h2 d h,h⟩⟩
 rw[<-aEw<|z.map j];generalize BZ p=D;induction D with|nil=>rfl|cons d D o=>
  rw[FB,H8,ZA];by_cases c:d∈X;.rw[AZ<|by simpa using c,AZ c,FB,H8,o]
  .rw[AX<|by simpa using c,AX c,o];omega
theorem Valid.arA{X:List Int}(o:X∈CV p):(X.map<|FU p).Perm X:=by
 obtain⟨h1,h2⟩:=h.Fv o;have hn:(X.map<|FU p).Nodup:=by rw[aDn,H9];rw[aDn]at h1;refine aa1 (λ{a b}C hb s e=>s<|h.Zy (h2 a C) (h2 b hb) e) h1
 refine(xq hn h1).2 λy=>?_;rw[EP];constructor;.rintro⟨x,c,rfl⟩;exact(h.abj o<|h2 x c).2 c
 intro j;obtain⟨x,c,e,-⟩:=h.Tc o;have z:=Xt (λx c=>(h.SH c).1) (λx c y j=>h.Zy c j) c;rw[e]at j⊢;unfold Jz at j⊢;obtain⟨k,hk,rfl⟩:=Ws.1 j;cases k with
 |zero=>
  refine⟨pw (FU p) x<|MS (FU p) (BZ p) x-1,Ws.2 ⟨_,I,rfl⟩,?_⟩;have:pw (FU p) x (MS (FU p) (BZ p) x-1+1)=x:=by rw[aDh z.1];exact z.2.2.1
  rw[pw]at this;exact this|succ k=>exact⟨pw (FU p) x k,Ws.2 ⟨k,I,rfl⟩,rfl⟩
theorem Valid.Px{X:List Int}(c:X∈CV p):G8 p<|BK X:=by
 intro n _;obtain⟨h1,h2⟩:=h.Fv c;have j:=h.aED c λd=>(if Jh p (-d)=n.id then 1 else 0)-if Jh p d=n.id then 1 else 0;have s:(X.map λd=>((if Jh p (-d)=n.id then 1 else 0)-if Jh p d=n.id then 1 else 0:Int)).sum=0:=by have z:=aEw<|(h.arA c).map λd=>if Jh p d=n.id then(1:Int)else 0;rw[KP]at z;rw[GK _ _ (λd=>(if Jh p (FU p d)=n.id then(1:Int)else 0)+-if Jh p d=n.id then 1 else 0) λd hd=>by rw[(h.SH<|h2 d hd).2];omega,RV,TY];have C:(X.map λd=>if Jh p (FU p d)=n.id then(1:Int)else 0).sum=(X.map<|(λd=>if Jh p d=n.id then(1:Int)else 0)∘FU p).sum:=rfl;omega
 rw[s]at j;refine Eq.trans ?_ j.symm;refine GK _ _ _ λa o=>?_;simp only[QF];rw[h.aEj o,h.zk o];unfold BK;generalize(if a.dst=n.id then(1:Int)else 0)=u;generalize(if a.fr=n.id then(1:Int)else 0)=v;by_cases c1:a.id∈X<;>by_cases c2:-a.id∈X<;>simp only[c1,c2,if_true,if_false]<;>omega
theorem Valid.arB{a:Ar}(c:a∈p.AP):Qv p a.id=SI (AV p a)/\Qv p (-a.id)=-SI (AV p a):=by have hid:=(h.IB c).1;unfold Qv;rw[h.sQ c,h.zi c];simp only;rw[AZ I,AX I];exact⟨rfl,rfl⟩
theorem Valid.lT{X:List Int}(c:X∈CV p):EI p X=Dj p (BK X) Qj:=by unfold EI Dj;rw[h.aED c];refine GK _ _ _ λa j=>?_;obtain⟨o,s⟩:=h.arB j;rw[apt,o,s];unfold BK;by_cases c1:a.id∈X<;>by_cases c2:-a.id∈X<;>simp only[c1,c2,if_true,if_false]<;>omega
theorem Valid.abk{X:List Int}(o:X∈CV p){d e:Int}(hd:d∈BZ p)(C:e∈BZ p)(K:BU p p.AP.length d=BU p p.AP.length e):Hz p (BK X) d-(if d∈X then 1 else 0)=Hz p (BK X) e-if e∈X then 1 else 0:=by
 have s:=h.Px o;have z:=h.aqZ (λd=>Hz p (BK X) d-if d∈X then 1 else 0) λd hd=>by
  show Hz p (BK X) (FU p d)-(if FU p d∈X then 1 else 0)=_;rw[h.aqR s hd];by_cases c:d∈X;.rw[AZ c,AZ<|(h.abj o hd).2 c]
  rw[AX c,AX λe=>c<|(h.abj o hd).1 e] p.AP.length (Dh _) (λj M _ _=>by have:=h.VO s<|BG M;unfold BK at this⊢;show Hz p _ p.AP[j].id-_=Hz p _ (-p.AP[j].id)-_;omega);have h1:_=_:=z d hd;have h2:_=_:=z e C;rw[<-h1,<-h2,K]
theorem Valid.agW{r:Int}(hr:r∈BZ p):∃d∈BZ p,BU p p.AP.length d=BU p p.AP.length r/\∀z,G8 p z->(∀a∈p.AP,z a.id≠0->BU p p.AP.length a.id=BU p p.AP.length r)->Hz p z d=0:=by
 obtain⟨q,hq,T⟩:=abh (λq:Ar×Nat=>F<|(AV p q.1).getD q.2 AY) (p.AP.flatMap λa=>if BU p p.AP.length a.id=BU p p.AP.length r then(List.range (AV p a).length).map λk=>(a,k)else[]) (by
  obtain⟨a,o,e⟩:=Ij.1 hr;have hm:a.id∈BZ p:=Ij.2 ⟨a,o,.inl rfl⟩;have hs:BU p p.AP.length a.id=BU p p.AP.length r:=by
   rcases e with rfl|rfl;.rfl
   exact(h.VP hm).symm
  have hl:=En p a;intro e;have:(a,0)∈p.AP.flatMap λa=>if BU p p.AP.length a.id=BU p p.AP.length r then(List.range (AV p a).length).map λk=>(a,k)else[]:=Fj.2 ⟨a,o,by rw[AZ hs];exact EP.2 ⟨0,FC.2 I,rfl⟩⟩;rw[e]at this;cases this);obtain⟨a,o,hq⟩:=Fj.1 hq;split at hq;case isFalse=>cases hq
 rename_i C;obtain⟨k,hk,rfl⟩:=EP.1 hq;have hk:=FC.1 hk;simp only at T;have hl:=En p a;have top:∀c∈p.AP,BU p p.AP.length c.id=BU p p.AP.length r->∀m,m<(AV p c).length->F ((AV p c).getD m AY)<=F ((AV p a).getD k AY):=by intro c hc hs m hm;exact T (c,m)<|Fj.2 ⟨c,hc,by rw[AZ hs];exact EP.2 ⟨m,FC.2 hm,rfl⟩⟩
 have K:∀z,(∀a∈p.AP,z a.id≠0->BU p p.AP.length a.id=BU p p.AP.length r)->∀u,MX p z ((AV p a).getD k AY) u=Dj p z (VN (λx=>ind<|Es ((AV p a).getD k AY) x u)<|(AV p a).getD k AY):=by
  intro z M u;generalize(AV p a).getD k AY=v at*;have e:MX p z v u=Dj p z λa b=>OG a b v+VN (λx=>ind<|Es v x u) v a b:=by unfold MX;refine aA2 λc _ m _=>?_;generalize(AV p c).getD m AY=x;generalize(AV p c).getD (m+1) AY=y;unfold RX VN ind;by_cases h1:x=v<;>by_cases h2:y=v<;>simp only[h1,h2,true_and,false_and,if_true,if_false]<;>omega
  rw[e,mZ p z λa b=>OG a b v,zM (f:=λa b=>OG a b v) λc hc=>?_,Int.zero_add];by_cases h0:z c.id=0;.exact .inl h0
  right;intro m hm;have t1:=top c hc (M c hc h0) m I;have t2:=top c hc (M c hc h0) (m+1) hm;unfold OG;rw[AX I,AX I]
 have hma:a.id∈BZ p:=Ij.2 ⟨a,o,.inl rfl⟩;have arC:-a.id∈BZ p:=Ij.2 ⟨a,o,.inr rfl⟩;have U:∀n∈p.nodes,(AV p a).getD k AY=n.pt->a.id∈DL p n.id\/-a.id∈DL p n.id->∃d∈BZ p,BU p p.AP.length d=BU p p.AP.length r/\∀z,G8 p z->(∀a∈p.AP,z a.id≠0->BU p p.AP.length a.id=BU p p.AP.length r)->Hz p z d=0:=by
  intro n hn ev hor;rw[ev]at K;have hpos:0<(DL p n.id).length:=by rcases hor with e|e<;>exact List.length_pos_of_mem e
  have h0m:(DL p n.id)[0]∈DL p n.id:=BG hpos;have h0d:=(h.OI hn).subset h0m;obtain⟨hdd,hst⟩:=h.mY h0d;refine⟨-(DL p n.id)[0],WW hdd,?_,λz M s=>?_⟩
  .rw[h.VP hdd];rcases hor with e|e;.rw[h.abW hn h0m e];exact C
   rw[h.abW hn h0m e,h.VP hma];exact C
  have hr0:MX p z n.pt (E8 p (DL p n.id)[0])=0:=by
   rw[K z s,h.acD z _ hn];refine Uu _ _ λx hx=>?_;obtain⟨j,hj,rfl⟩:=Dy.1<|(h.OI hn).symm.subset hx;have:ind (Es n.pt (E8 p (DL p n.id)[j])<|E8 p (DL p n.id)[0])=0:=by
    by_cases hj0:j=0;.subst hj0;exact bF _ _
    exact AX<|mg<|h.agp hn (i:=0) (j:=j) I hj
   rw[this,LD]
  have j:=h.tC M hn h0d;have j2:=h.agq M hdd;have e:Hz p z (DL p n.id)[0]=Qi p z n.pt (E8 p (DL p n.id)[0]):=by unfold Hz;rw[hst,h.sound.RQ hn]
  omega
 by_cases h0:k=0;.subst h0;obtain⟨n,hn,e1,e2⟩:=h.sound.Yi o;exact U n hn (by rw[WV,e2])<|.inl<|(h.OI hn).symm.subset<|TV.2 ⟨a,o,.inl ⟨rfl,e1.symm⟩⟩
 by_cases h1:k=(AV p a).length-1;.obtain⟨n,hn,e1,e2⟩:=h.sound.Zt o;exact U n hn (by rw[h1,WX,e2])<|.inr<|(h.OI hn).symm.subset<|TV.2 ⟨a,o,.inr ⟨rfl,e1.symm⟩⟩
 obtain⟨m,rfl⟩:∃m,k=m+1:=⟨k-1,I⟩;have hin:m+2<(AV p a).length:=I;have at_:=λz φ=>h.aEq z φ o (j:=m+1) I hin;rcases h.acF o hin with c|c;.refine⟨a.id,hma,C,λz M s=>?_⟩;rw[<-(h.zK M o (m:=m) I).2,K z s,at_ z,show m+1-1=m by omega,show m+1+1=m+2 by omega,bF];rw[show ind (Es ((AV p a).getD (m+1) AY) ((AV p a).getD (m+2) AY)<|(AV p a).getD m AY)=0 from AX<|mg c,aCZ,LD]
 refine⟨-a.id,arC,by rw[h.VP hma];exact C,λz M s=>?_⟩;rw[<-(h.zK M o (m:=m+1) I).1,K z s,at_ z,show m+1-1=m by omega,show m+1+1=m+2 by omega,bF];rw[show ind (Es ((AV p a).getD (m+1) AY) ((AV p a).getD m AY)<|(AV p a).getD (m+2) AY)=0 from AX<|mg c,aCZ,LD]
theorem Valid.VR{X:List Int}(c:X∈CV p){d e:Int}(hd:d∈X)(j:e∈X):BU p p.AP.length d=BU p p.AP.length e:=by have h2:=(h.Fv c).2;refine h.abV (k:=0) (C9 _) (Dh _) ?_;show bI (CV p) d=bI (CV p) e;rw[h.head_eq c (h2 d hd) hd,h.head_eq c (h2 e j) j]
theorem Valid.agX{X:List Int}(T:X∈CV p){r K:Int}(hr:r∈X)(hd:K∈BZ p)(hs:BU p p.AP.length K=BU p p.AP.length r)(h0:∀z,G8 p z->(∀a∈p.AP,z a.id≠0->BU p p.AP.length a.id=BU p p.AP.length r)->Hz p z K=0):0<EI p X↔K∉X:=by
 have hz:=h.Px T;have h2:=(h.Fv T).2;have M:∀a∈p.AP,BK X a.id≠0->BU p p.AP.length a.id=BU p p.AP.length r:=by
  intro a o j;have s:a.id∈BZ p:=Ij.2 ⟨a,o,.inl rfl⟩;by_cases c1:a.id∈X;.exact h.VR T c1 hr
  by_cases c2:-a.id∈X;.rw[<-h.VP s];exact h.VR T c2 hr
  exact absurd aCH j
 have hH:=h0 _ hz M;have cl:∀d∈BZ p,BU p p.AP.length d=BU p p.AP.length r->Hz p (BK X) d=(if d∈X then 1 else 0)-if K∈X then 1 else 0:=by intro d hd' hsd;have:=h.abk T hd' hd (by rw[hsd,hs]);omega
 have two:∀a∈p.AP,BK X a.id≠0->Hz p (BK X) a.id=(if a.id∈X then 1 else 0)-(if K∈X then 1 else 0)/\Hz p (BK X) (-a.id)=(if-a.id∈X then 1 else 0)-if K∈X then 1 else 0:=by intro a o j;have s:a.id∈BZ p:=Ij.2 ⟨a,o,.inl rfl⟩;exact⟨cl _ s<|M a o j,cl _ (WW s)<|by rw[h.VP s];exact M a o j⟩
 rw[h.lT T];by_cases c:K∈X
 .refine⟨λhp=>?_,λhn=>absurd c hn⟩;exfalso;have U:G8 p λi=>-BK X i:=λn hn=>by have:=hz n hn;show(p.AP.map λa=>-BK X a.id*((if a.dst=n.id then 1 else 0)-if a.fr=n.id then 1 else 0)).sum=0;refine(GK _ _ (λa:Ar=>-(BK X a.id*((if a.dst=n.id then(1:Int)else 0)-if a.fr=n.id then 1 else 0)))<|λa _=>PY _ _).trans ?_;rw[TY,this];rfl
  have hN:∀d,Hz p (λi=>-BK X i) d=-Hz p (BK X) d:=λd=>jF _ _ _;have:=(h.zL U<|λa o j=>by have C:BK X a.id≠0:=λe=>j (by show-_=(0:Int);rw[e];rfl);obtain⟨t1,t2⟩:=two a o C;rw[hN,hN,t1,t2,AZ c];unfold BK at C;by_cases c1:a.id∈X<;>by_cases c2:-a.id∈X<;>simp only[c1,c2,if_true,if_false]at C⊢<;>omega).1;rw[jF]at this;omega
 refine⟨λ_=>c,λ_=>?_⟩;refine(h.zL hz<|λa o j=>by obtain⟨t1,t2⟩:=two a o j;rw[t1,t2,AX c];unfold BK at j;by_cases c1:a.id∈X<;>by_cases c2:-a.id∈X<;>simp only[c1,c2,if_true,if_false]at j⊢<;>omega).2 ?_;apply Iq;intro hno;have h1:=cl r (h2 r hr) rfl;rw[AZ hr,AX c]at h1;have:Hz p (BK X) r=0:=zM λa o=>.inl<|Iq λe=>hno ⟨a,o,e⟩;omega
end
set_option linter.unusedSectionVars false
def Ux(v a b:Pt):Int:=if a.y<=v.y/\v.y<b.y/\0<tw a b v then 1 else if b.y<=v.y/\v.y<a.y/\0<tw b a v then-1 else 0
def Nu(p:Pl)(z:Int->Int)(v:Pt):Int:=Dj p z<|Ux v
def Hw(a b v:Pt):Prop:=tw a b v=0/\min a.x b.x<=v.x/\v.x<=max a.x b.x/\min a.y b.y<=v.y/\v.y<=max a.y b.y
instance(a b v:Pt):Decidable<|Hw a b v:=by unfold Hw;infer_instance
def Tf(p:Pl)(z:Int->Int)(v:Pt):Prop:=∀a∈p.AP,z a.id≠0->∀k,k+1<(AV p a).length->¬Hw ((AV p a).getD k AY) ((AV p a).getD (k+1) AY) v
theorem agY(a b v:Pt):xN a b (2*F v)-2*v.x*(F b-F a)=16777216*tw a b v:=by unfold xN tw F;grind
theorem agZ{D:Int}(hD:0<D){a b v:Pt}(o:F a<F b)(hd:F b-F a∣D):2*D*v.x<xE D a b (2*F v)↔0<tw a b v:=by
 obtain⟨q,c⟩:=hd;unfold xE;have s:D/(F b-F a)=q:=by rw[c];exact xu _ I
 have z:=agY a b v;have hn:0<F b-F a:=I;rw[s];generalize F b-F a=n at*;generalize xN a b (2*F v)=X at*;have j:0<q:=by
  rcases JR q 0 with g|g|g;.have:=Yy hn g;omega
  .subst g;rw[LD]at c;omega
  exact g
 have k:X*q-2*D*v.x=(X-2*v.x*n)*q:=by rw[c];grind
 rw[z]at k;have C:0<tw a b v->0<16777216*tw a b v*q:=λh=>KR I j;have K:tw a b v<=0->16777216*tw a b v*q<=0:=λh=>aCQ I I;generalize tw a b v=t at*;constructor<;>intro<;>omega
theorem jG(p:Pl)(z u:Int->Int)(f:Pt->Pt->Int):Dj p (λi=>z i+u i) f=Dj p z f+Dj p u f:=by unfold Dj;rw[<-RV];exact GK _ _ _ λa _=>by rw[aCS]
theorem G8.add{p:Pl}{z u:Int->Int}(h1:G8 p z)(h2:G8 p u):G8 p λi=>z i+u i:=λn hn=>by have c:=h1 n hn;have j:=h2 n hn;refine(GK _ _ (λa:Ar=>z a.id*((if a.dst=n.id then(1:Int)else 0)-if a.fr=n.id then 1 else 0)+u a.id*((if a.dst=n.id then(1:Int)else 0)-if a.fr=n.id then 1 else 0))<|λa _=>aCS _ _ _).trans ?_;rw[RV,c,j];rfl
theorem G8.neg{p:Pl}{z:Int->Int}(h1:G8 p z):G8 p λi=>-z i:=λn hn=>by have c:=h1 n hn;refine(GK _ _ (λa:Ar=>-(z a.id*((if a.dst=n.id then(1:Int)else 0)-if a.fr=n.id then 1 else 0)))<|λa _=>PY _ _).trans ?_;rw[TY,c];rfl
theorem arD{D:Int}(hD:0<D){a b v:Pt}(z:Bl a=true)(C:Bl b=true)(nv:Bl v=true)(U:a≠b)(hd:F b-F a∣D)(o:a≠v)(s:b≠v)(j:¬Hw a b v):Ux v a b=(if 2*D*v.x<xE D a b (2*F v)then Ey (2*F v) a b else 0)+((if a.y=v.y/\v.x<a.x then 1 else 0)-if b.y=v.y/\v.x<b.x then 1 else 0):=by
 have K:∀{a b:Pt},Bl a=true->Bl b=true->F a<F b->F b-F a∣D->a≠v->b≠v->¬Hw a b v->Ux v a b=(if 2*D*v.x<xE D a b (2*F v)then Ey (2*F v) a b else 0)+((if a.y=v.y/\v.x<a.x then 1 else 0)-if b.y=v.y/\v.x<b.x then 1 else 0):=by
  intro a b z C hab hd o s j;have hx:=agZ hD (v:=v) hab hd;simp only[hx];rw[QO]at z C nv;have ha:¬(a.x=v.x/\a.y=v.y):=λe=>o<|Pt.ext_iff'.2 e;have hb:¬(b.x=v.x/\b.y=v.y):=λe=>s<|Pt.ext_iff'.2 e;have tba:tw b a v=-tw a b v:=by unfold tw;grind
  unfold Ux Ey Hw at*;rw[tba];unfold F at*;have s1:a.y=v.y->tw a b v=(b.y-a.y)*(a.x-v.x):=λe=>by unfold tw;rw[e];grind
  have s2:b.y=v.y->tw a b v=(b.y-a.y)*(b.x-v.x):=λe=>by unfold tw;rw[e];grind
  have p1:∀{x y:Int},0<x->0<y->0<x*y:=λh1 h2=>KR h1 h2;have p2:∀{x y:Int},0<x->y<0->x*y<0:=λh1 h2=>Yy h1 h2;generalize tw a b v=t at*;by_cases hy:a.y=b.y
  .have hx2:a.x<b.x:=I;have T:¬(a.y<=v.y/\v.y<b.y/\0<t):=I;have M:¬(b.y<=v.y/\v.y<a.y/\0< -t):=I;rw[AX T,AX M];by_cases hv:a.y=v.y
   .have t0:t=0:=by rw[s1 hv,hy,aCZ,JQ]
    rw[AX<|show¬0<t by omega];by_cases c:v.x<a.x;.rw[AZ ⟨hv,c⟩,AZ I];rfl
    have:¬v.x<b.x:=λc2=>j ⟨t0,I⟩;rw[AX I,AX I];rfl
   rw[AX<|show¬(a.y=v.y/\v.x<a.x)by omega,AX<|show¬(b.y=v.y/\v.x<b.x)by omega];split
   .by_cases c:v.y<a.y;.rw[AZ I,AZ I];rfl
    rw[AX I,AX I];rfl
   rfl
  have hy:a.y<b.y:=I;rw[AX<|show¬(b.y<=v.y/\v.y<a.y/\0< -t)by omega];by_cases c1:a.y=v.y
  .have e:=s1 c1;rw[AX<|show¬(b.y=v.y/\v.x<b.x)by omega];by_cases c2:v.x<a.x;.have:=p1 (show 0<b.y-a.y by omega) (show 0<a.x-v.x by omega);rw[AZ<|show a.y<=v.y/\v.y<b.y/\0<t by omega,AZ<|show 0<t by omega,AZ I,AZ I,AZ ⟨c1,c2⟩];rfl
   have:=p2 (show 0<b.y-a.y by omega) (show a.x-v.x<0 by omega);rw[AX<|show¬(a.y<=v.y/\v.y<b.y/\0<t)by omega,AX<|show¬0<t by omega,AX I];rfl
  rw[AX<|show¬(a.y=v.y/\v.x<a.x)by omega];by_cases c2:b.y=v.y
  .have e:=s2 c2;rw[AX<|show¬(a.y<=v.y/\v.y<b.y/\0<t)by omega];by_cases c3:v.x<b.x;.have:=p1 (show 0<b.y-a.y by omega) (show 0<b.x-v.x by omega);rw[AZ<|show 0<t by omega,AZ I,AX I,AZ ⟨c2,c3⟩];rfl
   have:=p2 (show 0<b.y-a.y by omega) (show b.x-v.x<0 by omega);rw[AX<|show¬0<t by omega,AX I];rfl
  rw[AX<|show¬(b.y=v.y/\v.x<b.x)by omega];by_cases c3:0<t
  .rw[AZ c3];by_cases c4:a.y<v.y/\v.y<b.y;.rw[AZ I,AZ I,AX I];rfl
   rw[AX I];by_cases c5:v.y<a.y;.rw[AZ I,AZ I];rfl
   rw[AX I,AX I];rfl
  rw[AX I,AX c3];rfl
 rcases JR (F a)<|F b with c|c|c;.exact K z C c hd o s j
 .exact absurd (ML z C c) U
 have arE:¬Hw b a v:=λe=>j (by
  obtain⟨T,M⟩:=e;refine⟨?_,by rw[y8,y9 a.x,y8 a.y,y9 a.y];exact M⟩;have:tw b a v=-tw a b v:=by unfold tw;grind
  omega);have e:=K C z c (by rw[show F a-F b=-(F b-F a)by omega];exact y7.2 hd) s o arE;have T:Ux v b a=-Ux v a b:=by
  unfold Ux;by_cases c1:b.y<=v.y/\v.y<a.y/\0<tw b a v;.rw[AZ c1,AX I,AZ c1];rfl
  by_cases c2:a.y<=v.y/\v.y<b.y/\0<tw a b v;.rw[AX c1,AZ c2,AZ c2]
  rw[AX c1,AX c2,AX c2,AX c1];rfl
 have M:Ey (2*F v) b a=-Ey (2*F v) a b:=by unfold Ey;omega
 rw[T,jE,M]at e;split at e<;>rename_i c<;>first|rw[AZ c];omega|rw[AX c];omega
section
variable{p:Pl}(h:Valid p)
include h
theorem Valid.aAl:∃D:Int,0<D/\∀a∈p.AP,∀k,k+1<(AV p a).length->F ((AV p a).getD (k+1) AY)-F ((AV p a).getD k AY)∣D:=by obtain⟨D,h1,h2⟩:=abg (p.AP.flatMap λa=>(List.range<|(AV p a).length-1).map λk=>F ((AV p a).getD (k+1) AY)-F ((AV p a).getD k AY)) (λx j=>by obtain⟨a,c,j⟩:=Fj.1 j;obtain⟨k,hk,rfl⟩:=EP.1 j;have hk:=FC.1 hk;intro e;exact(h.distinct c (k:=k) I).1<|ML (h.DW c I) (h.DW c I) I);exact⟨D,h1,λa c k hk=>h2 _<|Fj.2 ⟨a,c,EP.2 ⟨k,FC.2 I,rfl⟩⟩⟩
theorem Valid.jH{z:Int->Int}{v:Pt}(c:Tf p z v){a:Ar}(o:a∈p.AP)(j:z a.id≠0){k:Nat}(hk:k<(AV p a).length):(AV p a).getD k AY≠v:=by
 have s:=En p a;intro e;by_cases h1:k+1<(AV p a).length;.refine c a o j k h1 ?_;rw[e];exact⟨Zv _ _,I⟩
 obtain⟨m,rfl⟩:∃m,k=m+1:=⟨k-1,I⟩;refine c a o j m I ?_;rw[e];exact⟨Zw _ _,I⟩
theorem Valid.aga{z:Int->Int}{v:Pt}(s:Bl v=true)(c:Tf p z v):VQ p z<|2*F v:=λa o j k hk e=>h.jH c o j hk<|ML (h.DW o hk) s I
theorem Valid.abl{z:Int->Int}(K:G8 p z){D:Int}(hD:0<D)(hd:∀a∈p.AP,∀k,k+1<(AV p a).length->F ((AV p a).getD (k+1) AY)-F ((AV p a).getD k AY)∣D){v:Pt}(M:Bl v=true)(j:Tf p z v):Nu p z v=NP (OJ p z D<|2*F v) (2*D*v.x):=by
 have t:=h.su K λu=>-if u.y=v.y/\v.x<u.x then 1 else 0;have bS:NP (OJ p z D<|2*F v) (2*D*v.x)=Dj p z λa b=>if 2*D*v.x<xE D a b (2*F v)then Ey (2*F v) a b else 0:=uj p z D (2*F v) (λx s=>if 2*D*v.x<x then s else 0) (λx c s=>by split<;>simp);rw[bS];have e:Nu p z v=Dj p z λa b=>(if 2*D*v.x<xE D a b (2*F v)then Ey (2*F v) a b else 0)+(-(if b.y=v.y/\v.x<b.x then 1 else 0)- -if a.y=v.y/\v.x<a.x then 1 else 0):=by refine aEy λa o C k hk=>?_;have:=arD hD (h.DW o (k:=k) I) (h.DW o hk) M (h.distinct o hk).1 (hd a o k hk) (h.jH j o C (k:=k) I) (h.jH j o C hk)<|j a o C k hk;omega
 rw[e,mZ p z (λa b=>if 2*D*v.x<xE D a b (2*F v)then Ey (2*F v) a b else 0) λa b=>-(if b.y=v.y/\v.x<b.x then 1 else 0)- -if a.y=v.y/\v.x<a.x then 1 else 0,t,lG]
theorem Valid.agb{z:Int->Int}(j:G8 p z)(o:∀a∈p.AP,z a.id≠0->Hz p z (-a.id)=0/\Hz p z a.id=1\/Hz p z (-a.id)=1/\Hz p z a.id=0){D:Int}(hD:0<D)(hd:∀a∈p.AP,∀k,k+1<(AV p a).length->F ((AV p a).getD (k+1) AY)-F ((AV p a).getD k AY)∣D){τ:Int}(c:VQ p z τ)(t:Int):NP (OJ p z D τ) t=0\/NP (OJ p z D τ) t=1:=by obtain⟨B,s⟩:=abe<|OJ p z D τ;exact abd (h.agV j o hD hd c) (B+t.natAbs) t λv hv _=>by have:=s v hv;omega
theorem Valid.abm{z:Int->Int}(j:G8 p z)(s:∀a∈p.AP,z a.id≠0->Hz p z (-a.id)=0/\Hz p z a.id=1\/Hz p z (-a.id)=1/\Hz p z a.id=0){v:Pt}(o:Bl v=true)(c:Tf p z v):Nu p z v=0\/Nu p z v=1:=by obtain⟨D,hD,hd⟩:=h.aAl;rw[h.abl j hD hd o c];exact h.agb j s hD hd (h.aga o c) _
theorem Valid.agc{z:Int->Int}(s:G8 p z)(C:∀a∈p.AP,z a.id≠0->Hz p z (-a.id)=0/\Hz p z a.id=1\/Hz p z (-a.id)=1/\Hz p z a.id=0){e:Int}(K:e∈BZ p):Hz p z e=0\/Hz p z e=1:=by
 obtain⟨a,j,o⟩:=Ij.1 K;by_cases h0:z a.id=0;.obtain⟨D,hD,hd⟩:=h.aAl;have T:=En p a;have U:=h.VO s j;have hk:0+1<(AV p a).length:=I;have M:F ((AV p a).getD 0 AY)≠F ((AV p a).getD (0+1) AY):=λe=>(h.distinct j hk).1<|ML (h.DW j I) (h.DW j hk) e;have b:=(h.aEC s hD hd (VQ.odd z (τ:=2*min (F<|(AV p a).getD 0 AY) (F<|(AV p a).getD (0+1) AY)+1) I) j hk I).1;have c:=h.agb s C hD hd (VQ.odd z (τ:=2*min (F<|(AV p a).getD 0 AY) (F<|(AV p a).getD (0+1) AY)+1) I)<|xE D ((AV p a).getD 0 AY) ((AV p a).getD (0+1) AY)<|2*min (F<|(AV p a).getD 0 AY) (F<|(AV p a).getD (0+1) AY)+1;rw[b]at c;rcases o with rfl|rfl<;>split at c<;>omega
 have:=C a j h0;rcases o with rfl|rfl<;>omega
theorem Valid.Qw{X:List Int}(c:X∈CV p)(K:0<EI p X){r d:Int}(j:r∈X)(hd:d∈BZ p)(M:BU p p.AP.length d=BU p p.AP.length r):Hz p (BK X) d=if d∈X then 1 else 0:=by
 have h2:=(h.Fv c).2;obtain⟨d0,C,g2,g3⟩:=h.agW<|h2 r j;have T:=h.Px c;have hn:=(h.agX c j C g2 g3).1 K;have o:∀a∈p.AP,BK X a.id≠0->BU p p.AP.length a.id=BU p p.AP.length r:=by
  intro a U s;have z:a.id∈BZ p:=Ij.2 ⟨a,U,.inl rfl⟩;by_cases c1:a.id∈X;.exact h.VR c c1 j
  by_cases c2:-a.id∈X;.rw[<-h.VP z];exact h.VR c c2 j
  exact absurd aCH s
 have h0:=g3 _ T o;have:=h.abk c hd C (by rw[M,g2]);rw[h0,AX hn]at this;omega
theorem Valid.bJ{X:List Int}(o:X∈CV p){r:Int}(s:r∈X){a:Ar}(z:a∈p.AP)(c:BK X a.id≠0):BU p p.AP.length a.id=BU p p.AP.length r/\BU p p.AP.length (-a.id)=BU p p.AP.length r:=by
 have j:a.id∈BZ p:=Ij.2 ⟨a,z,.inl rfl⟩;have e:=h.VP j;by_cases c1:a.id∈X;.have:=h.VR o c1 s;exact⟨this,by rw[e];exact this⟩
 by_cases c2:-a.id∈X;.have:=h.VR o c2 s;exact⟨by rw[<-e];exact this,this⟩
 exact absurd aCH c
theorem Valid.abn{X:List Int}(o:X∈CV p)(z:0<EI p X):∀a∈p.AP,BK X a.id≠0->Hz p (BK X) (-a.id)=0/\Hz p (BK X) a.id=1\/Hz p (BK X) (-a.id)=1/\Hz p (BK X) a.id=0:=by intro a C c;obtain⟨r,-,-,-,s⟩:=h.Tc o;have j:a.id∈BZ p:=Ij.2 ⟨a,C,.inl rfl⟩;obtain⟨K,M⟩:=h.bJ o s C c;rw[h.Qw o z s j K,h.Qw o z s (WW j) M];unfold BK at c;by_cases c1:a.id∈X<;>by_cases c2:-a.id∈X<;>simp[c1,c2]at c⊢
theorem Valid.lU{X:List Int}(j:X∈CV p)(K:0<EI p X){r e:Int}(s:r∈X)(z:e∈BZ p)(C:BU p p.AP.length e≠BU p p.AP.length r):(Hz p (BK X) e=0\/Hz p (BK X) e=1)/\∀d∈BZ p,BU p p.AP.length d=BU p p.AP.length e->Hz p (BK X) d=Hz p (BK X) e:=by refine⟨h.agc (h.Px j) (h.abn j K) z,λd hd o=>?_⟩;have:=h.abk j hd z o;have M:e∉X:=λc=>C<|h.VR j c s;have T:d∉X:=λc=>C (by rw[<-o];exact h.VR j c s);rw[AX M,AX T]at this;omega
theorem Valid.OM(z u:Int->Int)(d:Int):Hz p (λi=>z i+u i) d=Hz p z d+Hz p u d:=jG p z u _
theorem Valid.bK(z:Int->Int)(d:Int):Hz p (λi=>-z i) d=-Hz p z d:=jF p z _
theorem Valid.aAm{z:Int->Int}(h0:∀a∈p.AP,z a.id=0)(d:Int):Hz p z d=0:=zM λa c=>.inl<|h0 a c
theorem Valid.agd{z:Int->Int}(hz:G8 p z)(hne:∃a∈p.AP,z a.id≠0):∃a∈p.AP,z a.id≠0/\(Hz p z a.id=0\/Hz p z (-a.id)=0):=by
 obtain⟨a,ha,hza⟩:=hne;obtain⟨D,hD,hd⟩:=h.aAl;have hl:=En p a;have hk:0+1<(AV p a).length:=I;have hnq:F ((AV p a).getD 0 AY)≠F ((AV p a).getD (0+1) AY):=λe=>(h.distinct ha hk).1<|ML (h.DW ha I) (h.DW ha hk) e;obtain⟨τ,hτ⟩:=BR<|2*min (F<|(AV p a).getD 0 AY) (F<|(AV p a).getD (0+1) AY)+1;have j:VQ p z τ:=VQ.odd z I;have hs0:Ey τ ((AV p a).getD 0 AY) ((AV p a).getD (0+1) AY)≠0:=by
  unfold Ey;by_cases c:F ((AV p a).getD 0 AY)<F ((AV p a).getD (0+1) AY);.rw[AZ I,AX I];omega
  rw[AX I,AZ I];omega
 have K:(xE D ((AV p a).getD 0 AY) ((AV p a).getD (0+1) AY) τ,z a.id*Ey τ ((AV p a).getD 0 AY) ((AV p a).getD (0+1) AY))∈OJ p z D τ:=Fj.2 ⟨a,ha,EP.2 ⟨0,FC.2 I,rfl⟩⟩;obtain⟨u,C,M⟩:=abh (λu:Int×Int=>u.1) ((OJ p z D τ).filter<|λu=>decide<|u.2≠0) (by
  intro e;have:(xE D ((AV p a).getD 0 AY) ((AV p a).getD (0+1) AY) τ,z a.id*Ey τ ((AV p a).getD 0 AY) ((AV p a).getD (0+1) AY))∈(OJ p z D τ).filter (λu=>decide<|u.2≠0):=Nc.2 ⟨K,by
    rw[DI];intro e;rcases Yz.1 e with e|e;.exact hza e
    exact hs0 e⟩;rw[e]at this;cases this);rw[Nc,DI]at C;obtain⟨C,o⟩:=C;have T:NP (OJ p z D τ) u.1=0:=by
  refine Uu _ _ λv hv=>?_;by_cases c:v.2=0;.rw[c];split<;>rfl
  have:=M v<|Nc.2 ⟨hv,by rw[DI];exact c⟩;rw[AX I]
 obtain⟨c,hc,C⟩:=Fj.1 C;obtain⟨k,U,rfl⟩:=EP.1 C;have U:=FC.1 U;simp only at o T;have s:z c.id≠0:=λe=>o (by rw[e,JQ]);have hs1:Ey τ ((AV p c).getD k AY) ((AV p c).getD (k+1) AY)≠0:=λe=>o (by rw[e,LD]);have hsp:=aEz (j c hc s k I) (j c hc s (k+1) I) hs1;have b:=(h.aEC hz hD hd j hc (k:=k) I<|by
  rcases hsp with⟨g1,g2,-⟩|⟨g1,g2,-⟩;.exact .inl ⟨g1,g2⟩
  exact .inr ⟨g1,g2⟩).1;rw[T]at b;refine⟨c,hc,s,?_⟩;split at b;.exact .inr b.symm
 exact .inl b.symm
theorem Valid.arF{X Y:List Int}(M:X∈CV p)(T:Y∈CV p)(WZ:0<EI p X)(Wh:0<EI p Y)(ZR:X≠Y){v:Pt}(nv:Bl v=true)(oX:Tf p (BK X) v)(oY:Tf p (BK Y) v)(wX:Nu p (BK X) v=1)(wY:Nu p (BK Y) v=1):EI p X≠EI p Y:=by
 obtain⟨x,hxd,-,-,hx⟩:=h.Tc M;obtain⟨y,um,-,-,hy⟩:=h.Tc T;have zX:=h.Px M;have zY:=h.Px T;have both:∀d,¬(d∈X/\d∈Y):=λd hd=>ZR<|h.lQ M T hd.1 hd.2;have C:∀a∈p.AP,a.id∈BZ p/\-a.id∈BZ p:=λa o=>⟨Ij.2 ⟨a,o,.inl rfl⟩,Ij.2 ⟨a,o,.inr rfl⟩⟩;have sup:∀a∈p.AP,BK X a.id+BK Y a.id≠0->BU p p.AP.length a.id=BU p p.AP.length x/\BU p p.AP.length (-a.id)=BU p p.AP.length x\/BU p p.AP.length a.id=BU p p.AP.length y/\BU p p.AP.length (-a.id)=BU p p.AP.length y:=by
  intro a o s;by_cases c:BK X a.id=0;.exact .inr<|h.bJ T hy o I
  exact .inl<|h.bJ M hx o c
 have afE:Tf p (λi=>BK X i+BK Y i) v:=λa o s k hk=>by
  have s:BK X a.id+BK Y a.id≠0:=s;by_cases c:BK X a.id=0;.exact oY a o I k hk
  exact oX a o c k hk
 have wS:Nu p (λi=>BK X i+BK Y i) v=2:=by unfold Nu at*;rw[jG,wX,wY];rfl
 have ai1:¬∀a∈p.AP,BK X a.id+BK Y a.id≠0->Hz p (BK X) (-a.id)+Hz p (BK Y) (-a.id)=0/\Hz p (BK X) a.id+Hz p (BK Y) a.id=1\/Hz p (BK X) (-a.id)+Hz p (BK Y) (-a.id)=1/\Hz p (BK X) a.id+Hz p (BK Y) a.id=0:=by intro hw;have:=h.abm (zX.add zY) (λa o s=>by rw[h.OM,h.OM];exact hw a o s) nv afE;omega
 have jump:∀a∈p.AP,Hz p (BK X) a.id-Hz p (BK X) (-a.id)=BK X a.id/\Hz p (BK Y) a.id-Hz p (BK Y) (-a.id)=BK Y a.id:=λa o=>⟨h.VO zX o,h.VO zY o⟩;by_cases hc:BU p p.AP.length x=BU p p.AP.length y
 .exfalso;refine ai1 λa o s=>?_;have U:BU p p.AP.length a.id=BU p p.AP.length x/\BU p p.AP.length (-a.id)=BU p p.AP.length x:=by
   rcases sup a o s with g|g;.exact g
   rw[hc];exact g
  have j:=jump a o;have a1:=h.Qw M WZ hx (C a o).1 U.1;have a2:=h.Qw M WZ hx (C a o).2 U.2;have a3:=h.Qw T Wh hy (C a o).1<|U.1.trans hc;have a4:=h.Qw T Wh hy (C a o).2<|U.2.trans hc;have b1:=both a.id;have b2:=both<|-a.id;have t1:Hz p (BK X) a.id+Hz p (BK Y) a.id=0\/Hz p (BK X) a.id+Hz p (BK Y) a.id=1:=by rw[a1,a3];by_cases c1:a.id∈X<;>by_cases c2:a.id∈Y<;>simp only[c1,c2,if_true,if_false]at b1⊢<;>simp at b1⊢
  have t2:Hz p (BK X) (-a.id)+Hz p (BK Y) (-a.id)=0\/Hz p (BK X) (-a.id)+Hz p (BK Y) (-a.id)=1:=by rw[a2,a4];by_cases c1:-a.id∈X<;>by_cases c2:-a.id∈Y<;>simp only[c1,c2,if_true,if_false]at b2⊢<;>simp at b2⊢
  omega
 obtain⟨α01,αc⟩:=h.lU M WZ hx um λe=>hc e.symm;obtain⟨β01,βc⟩:=h.lU T Wh hy hxd hc;have OO:∀d∈BZ p,BU p p.AP.length d=BU p p.AP.length x->Hz p (BK X) d=(if d∈X then 1 else 0)/\Hz p (BK Y) d=Hz p (BK Y) x:=λd hd U=>⟨h.Qw M WZ hx hd U,βc d hd U⟩;have Py:∀d∈BZ p,BU p p.AP.length d=BU p p.AP.length y->Hz p (BK Y) d=(if d∈Y then 1 else 0)/\Hz p (BK X) d=Hz p (BK X) y:=λd hd U=>⟨h.Qw T Wh hy hd U,αc d hd U⟩;generalize Hz p (BK X) y=α at*;generalize Hz p (BK Y) x=β at*;have K:∀(P:Prop)[Decidable P],(if P then(1:Int)else 0)=0\/(if P then(1:Int)else 0)=1:=λP _=>by split<;>simp
 have diff:∀{X Y:List Int}{x:Int},X∈CV p->Y∈CV p->G8 p (BK X)->G8 p (BK Y)->x∈X->x∈BZ p->(∀a∈p.AP,BK X a.id+-BK Y a.id≠0->(Hz p (BK X) (-a.id)-Hz p (BK Y) (-a.id)=0\/Hz p (BK X) (-a.id)-Hz p (BK Y) (-a.id)=1)/\(Hz p (BK X) a.id-Hz p (BK Y) a.id=0\/Hz p (BK X) a.id-Hz p (BK Y) a.id=1))->Hz p (BK X) x-Hz p (BK Y) x=1->EI p Y<EI p X:=by intro X Y x M T zX zY hx hxd hw h1;have hp:=(h.zL (zX.add zY.neg)<|λa o s=>by have j1:=h.VO zX o;have j2:=h.VO zY o;have hw:=hw a o s;have s:BK X a.id+-BK Y a.id≠0:=s;rw[h.OM,h.OM,h.bK,h.bK];omega).2 (Iq λhno=>by have:=h.aAm (z:=λi=>BK X i+-BK Y i) (λa o=>Iq λe=>hno ⟨a,o,e⟩) x;rw[h.OM,h.bK]at this;omega);rw[jG,jF,<-h.lT M,<-h.lT T]at hp;omega
 have ayu:∀{z:Int},True->True:=λh=>h;rcases α01 with α0|α1<;>rcases β01 with β0|β1
 .exfalso;refine ai1 λa o s=>?_;have j:=jump a o;rcases sup a o s with g|g;.obtain⟨e1,e2⟩:=OO _ (C a o).1 g.1;obtain⟨e3,e4⟩:=OO _ (C a o).2 g.2;have i1:=K<|a.id∈X;have i2:=K<|-a.id∈X;omega
  obtain⟨e1,e2⟩:=Py _ (C a o).1 g.1;obtain⟨e3,e4⟩:=Py _ (C a o).2 g.2;have i1:=K<|a.id∈Y;have i2:=K<|-a.id∈Y;omega
 .have:=diff T M zY zX hy um λa o s=>by
   have U:BU p p.AP.length a.id=BU p p.AP.length x/\BU p p.AP.length (-a.id)=BU p p.AP.length x\/BU p p.AP.length a.id=BU p p.AP.length y/\BU p p.AP.length (-a.id)=BU p p.AP.length y:=by
    by_cases c:BK X a.id=0;.exact .inr<|h.bJ T hy o I
    exact .inl<|h.bJ M hx o c
   rcases U with g|g;.obtain⟨e1,e2⟩:=OO _ (C a o).1 g.1;obtain⟨e3,e4⟩:=OO _ (C a o).2 g.2;have i1:=K<|a.id∈X;have i2:=K<|-a.id∈X;omega
   obtain⟨e1,e2⟩:=Py _ (C a o).1 g.1;obtain⟨e3,e4⟩:=Py _ (C a o).2 g.2;have i1:=K<|a.id∈Y;have i2:=K<|-a.id∈Y;omega (by obtain⟨e1,e2⟩:=Py y um rfl;rw[e1,e2,AZ hy];omega);omega
 .have:=diff M T zX zY hx hxd λa o s=>by
   have U:BU p p.AP.length a.id=BU p p.AP.length x/\BU p p.AP.length (-a.id)=BU p p.AP.length x\/BU p p.AP.length a.id=BU p p.AP.length y/\BU p p.AP.length (-a.id)=BU p p.AP.length y:=by
    by_cases c:BK X a.id=0;.exact .inr<|h.bJ T hy o I
    exact .inl<|h.bJ M hx o c
   rcases U with g|g;.obtain⟨e1,e2⟩:=OO _ (C a o).1 g.1;obtain⟨e3,e4⟩:=OO _ (C a o).2 g.2;have i1:=K<|a.id∈X;have i2:=K<|-a.id∈X;omega
   obtain⟨e1,e2⟩:=Py _ (C a o).1 g.1;obtain⟨e3,e4⟩:=Py _ (C a o).2 g.2;have i1:=K<|a.id∈Y;have i2:=K<|-a.id∈Y;omega (by obtain⟨e1,e2⟩:=OO x hxd rfl;rw[e1,e2,AZ hx];omega);omega
 exfalso;obtain⟨a,o,s,hor⟩:=h.agd (zX.add zY) (Iq λhno=>by have:=h.aAm (z:=λi=>BK X i+BK Y i) (λa o=>Iq λe=>hno ⟨a,o,e⟩) x;rw[h.OM]at this;obtain⟨e1,e2⟩:=OO x hxd rfl;rw[e1,e2,AZ hx]at this;omega);rw[h.OM,h.OM]at hor;rcases sup a o s with g|g;.obtain⟨e1,e2⟩:=OO _ (C a o).1 g.1;obtain⟨e3,e4⟩:=OO _ (C a o).2 g.2;have i1:=K<|a.id∈X;have i2:=K<|-a.id∈X;omega
 obtain⟨e1,e2⟩:=Py _ (C a o).1 g.1;obtain⟨e3,e4⟩:=Py _ (C a o).2 g.2;have i1:=K<|a.id∈Y;have i2:=K<|-a.id∈Y;omega
end
