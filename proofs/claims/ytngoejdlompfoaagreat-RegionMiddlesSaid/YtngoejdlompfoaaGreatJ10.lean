import Derived.Test.YtngoejdlompfoaaGreatJ09
set_option linter.unusedSimpArgs false
set_option linter.unusedVariables false
set_option maxRecDepth 100000
set_option maxHeartbeats 4000000
namespace Go.Proofs.YtngoejdlompfoaaGreat
open Go.RowKit Tryz
def GL(p:Pl)(d:Int):List Pt:=match findAr p.AP<|Et d with|some a=>AV p a|none=>[]
def EO(P:List Pt):List<|Pt×Pt:=(List.range<|P.length-1).map λk=>(P.getD k AY,P.getD (k+1) AY)
def DV(p:Pl)(X:List Int):List<|Pt×Pt:=X.flatMap λd=>EO<|GL p d
def Jj(v a b:Pt):Bool:=decide<|a.y<=v.y/\v.y<b.y/\0<tw a b v\/b.y<=v.y/\v.y<a.y/\tw a b v<0
def Rt(v:Pt)(s:Bool×Bool)(q:Pt×Pt):Bool×Bool:=if Eh q.1 q.2 v then(true,s.2)else if Jj v q.1 q.2 then(s.1,!s.2)else s
def Uy(v:Pt)(l:List<|Pt×Pt):Bool×Bool:=l.foldl (Rt v) (false,false)
def encS(p:Pl)(X:List Int)(v:Pt):Bool:=(Uy v<|DV p X).2&&!(Uy v<|DV p X).1
theorem ai2(v a b:Pt):Jj v a b=decide (Ux v a b≠0):=by
 have t:tw b a v=-tw a b v:=by unfold tw;grind
 unfold Jj Ux;rw[t];by_cases c1:a.y<=v.y/\v.y<b.y/\0<tw a b v;.rw[AZ c1,Ia<|.inl c1];rfl
 rw[AX c1];by_cases c2:b.y<=v.y/\v.y<a.y/\tw a b v<0;.rw[AZ ⟨c2.1,c2.2.1,I⟩,Ia<|.inr c2];rfl
 rw[AX I,GX<|by rintro(h|h);exact c1 h;exact c2 h];rfl
theorem ai3(v:Pt):∀(l:List<|Pt×Pt)(s:Bool×Bool),(l.foldl (Rt v) s).1=(s.1||l.any λq=>Eh q.1 q.2 v)
 |[],s=>by simp|q::l,s=>by
  rw[V8,ai3 v l,aDk];unfold Rt;by_cases h:Eh q.1 q.2 v=true;.rw[AZ h,h];simp
  rw[AX h];split<;>simp[h]
theorem ai4(v:Pt):∀(l:List<|Pt×Pt)(s:Bool×Bool),(l.any λq=>Eh q.1 q.2 v)=false->(l.foldl (Rt v) s).2=(s.2 !=decide ((l.map λq=>if Jj v q.1 q.2 then(1:Int)else 0).sum%2=1))
 |[],s,_=>by simp|q::l,s,h=>by
  rw[aDk,Rl]at h;rw[V8,ai4 v l _ h.2,FB,H8];unfold Rt;rw[AX<|by rw[h.1];decide];generalize(l.map λq=>if Jj v q.1 q.2 then(1:Int)else 0).sum=n;cases c:Jj v q.1 q.2;.rw[AX BI,AX BI,Int.zero_add]
  rw[AZ rfl,AZ rfl];by_cases hn:n%2=1;.rw[Ia hn,GX I];cases s.2<;>rfl
  rw[GX hn,Ia I];cases s.2<;>rfl
theorem aEE(v:Pt)(l:List<|Pt×Pt):((Uy v l).2&&!(Uy v l).1)=(!(l.any λq=>Eh q.1 q.2 v)&&decide ((l.map λq=>if Jj v q.1 q.2 then(1:Int)else 0).sum%2=1)):=by
 unfold Uy;rw[ai3];cases h:l.any λq=>Eh q.1 q.2 v;.rw[ai4 v l _ h];simp
 simp
theorem aEF{α:Type}(l:List α)(f g:α->Int)(h:∀x∈l,f x%2=g x%2):(l.map f).sum%2=(l.map g).sum%2:=by induction l with|nil=>rfl|cons a l c=>rw[FB,H8,FB,H8];have h1:=h a ED;have h2:=c λx j=>h x<|FW _ j;omega
theorem bM{a b v:Pt}(c:Bl a=true)(j:Bl b=true)(o:Bl v=true):Eh a b v=true↔Hw a b v:=by
 unfold Eh Hw;have:ES [a,b,v]=true:=by simp[ES,c,j,o]
 rw[this];simp[and_assoc]
section
variable{p:Pl}(h:Valid p)
include h
theorem Valid.Ug{d:Int}(hd:d∈BZ p):∃a∈p.AP,(d=a.id\/d=-a.id)/\GL p d=AV p a:=by
 obtain⟨a,c,e⟩:=Ij.1 hd;have hid:=(h.IB c).1;refine⟨a,c,e,?_⟩;unfold GL;have:Et d=a.id:=by unfold Et;rcases e with rfl|rfl<;>split<;>omega
 rw[this,h.find c]
theorem Valid.aAn{X:List Int}(j:∀d∈X,d∈BZ p){q:Pt×Pt}(c:q∈DV p X):∃a∈p.AP,(a.id∈X\/-a.id∈X)/\∃k,k+1<(AV p a).length/\q=((AV p a).getD k AY,(AV p a).getD (k+1) AY):=by
 obtain⟨d,hd,c⟩:=Fj.1 c;obtain⟨a,o,e,s⟩:=h.Ug<|j d hd;rw[s]at c;obtain⟨k,hk,rfl⟩:=EP.1 c;have hk:=FC.1 hk;refine⟨a,o,?_,k,I,rfl⟩;rcases e with rfl|rfl;.exact .inl hd
 exact .inr hd
theorem Valid.aEG{X:List Int}{a:Ar}(c:a∈p.AP)(hm:a.id∈X\/-a.id∈X){k:Nat}(hk:k+1<(AV p a).length):((AV p a).getD k AY,(AV p a).getD (k+1) AY)∈DV p X:=by
 have hid:=(h.IB c).1;have e:∀d,d=a.id\/d=-a.id->GL p d=AV p a:=λd e=>by
  unfold GL;have:Et d=a.id:=by unfold Et;rcases e with rfl|rfl<;>split<;>omega
  rw[this,h.find c]
 rcases hm with hm|hm;.exact Fj.2 ⟨_,hm,by rw[e _<|.inl rfl];exact EP.2 ⟨k,FC.2 I,rfl⟩⟩
 exact Fj.2 ⟨_,hm,by rw[e _<|.inr rfl];exact EP.2 ⟨k,FC.2 I,rfl⟩⟩
theorem Valid.arG{X:List Int}(j:X∈CV p)(v:Pt):((DV p X).map λq=>if Jj v q.1 q.2 then(1:Int)else 0).sum%2=Nu p (BK X) v%2:=by
 obtain⟨-,h2⟩:=h.Fv j;have o:((DV p X).map λq=>if Jj v q.1 q.2 then(1:Int)else 0).sum=(X.map λd=>Ji (λa b=>if Jj v a b then(1:Int)else 0)<|GL p d).sum:=by unfold DV;rw[aCb,abb];refine GK _ _ _ λd _=>?_;unfold EO Ji;rw[KP];rfl
 rw[o,h.aED j];unfold Nu Dj;refine aEF _ _ _ λa c=>?_;have hid:=(h.IB c).1;have z:GL p a.id=AV p a:=by unfold GL;rw[show Et a.id=a.id by unfold Et;split<;>omega,h.find c]
 have C:GL p (-a.id)=AV p a:=by unfold GL;rw[show Et (-a.id)=a.id by unfold Et;split<;>omega,h.find c]
 rw[z,C];have e:Ji (λa b=>if Jj v a b then(1:Int)else 0) (AV p a)%2=Ji (Ux v) (AV p a)%2:=by
  unfold Ji;refine aEF _ _ _ λk _=>?_;show(if Jj v ((AV p a).getD k AY) ((AV p a).getD (k+1) AY)=true then(1:Int)else 0)%2=_;rw[ai2];unfold Ux;split;.rfl
  split<;>rfl
 generalize Ji (λa b=>if Jj v a b then(1:Int)else 0) (AV p a)=s at*;generalize Ji (Ux v) (AV p a)=t at*;unfold BK;by_cases c1:a.id∈X<;>by_cases c2:-a.id∈X<;>simp only[c1,c2,if_true,if_false]<;>omega
theorem Valid.lV{X:List Int}(o:X∈CV p)(U:0<EI p X){v:Pt}(T:Bl v=true):encS p X v=true↔(∀q∈DV p X,Eh q.1 q.2 v=false)/\Nu p (BK X) v=1:=by
 obtain⟨-,h2⟩:=h.Fv o;unfold encS;rw[aEE,EC,DI,h.arG o,Rh,Xg];constructor
 .rintro⟨s,g2⟩;have c:∀q∈DV p X,Eh q.1 q.2 v=false:=λq z=>by simpa using s q z
  have j:Tf p (BK X) v:=λa C K k hk M=>by
   have hm:a.id∈X\/-a.id∈X:=by
    by_cases c1:a.id∈X;.exact .inl c1
    by_cases c2:-a.id∈X;.exact .inr c2
    exact absurd aCH K
   have:=c _<|h.aEG C hm hk;rw[(bM (h.DW C I) (h.DW C hk) T).2 M]at this;cases this
  have:=h.abm (h.Px o) (h.abn o U) T j;exact⟨c,I⟩
 rintro⟨s,g2⟩;exact⟨λq z=>by rw[s q z];decide,by rw[g2];rfl⟩
theorem Valid.uo{X:List Int}{v:Pt}(s:Bl v=true)(g:∀q∈DV p X,Eh q.1 q.2 v=false):Tf p (BK X) v:=λa c j k hk o=>by
 have hm:a.id∈X\/-a.id∈X:=by
  by_cases c1:a.id∈X;.exact .inl c1
  by_cases c2:-a.id∈X;.exact .inr c2
  exact absurd aCH j
 have:=g _<|h.aEG c hm hk;rw[(bM (h.DW c I) (h.DW c hk) s).2 o]at this;cases this
theorem Valid.arH{X Y:List Int}(o:X∈CV p)(s:Y∈CV p)(z:0<EI p X)(C:0<EI p Y){v:Pt}(c:Bl v=true)(K:encS p X v=true)(M:encS p Y v=true)(e:EI p X=EI p Y):X=Y:=by obtain⟨T,g2⟩:=(h.lV o z c).1 K;obtain⟨g3,U⟩:=(h.lV s C c).1 M;exact Iq λj=>h.arF o s z C j c (h.uo c T) (h.uo c g3) g2 U e
end
section
variable{α:Type}(E:α->Bool)(t:α->Int)
def Ti(b:Option α)(x:α):Option α:=if(E x&&match b with|none=>true|some y=>decide<|t x<t y)=true then some x else b
def Hy(l:List α):Option α:=l.foldl (Ti E t) none
theorem bP(l:List α)(x:α):Hy E t (l++[x])=Ti E t (Hy E t l) x:=by unfold Hy;rw[LG];rfl
theorem abo{l:List α}{k:Nat}(hk:k<l.length):Hy E t (l.take<|k+1)=Ti E t (Hy E t<|l.take k) l[k]:=by rw[Eu hk,bP]
theorem abp{P:List α->Prop}(h0:P [])(h1:∀l x,P l->P (l++[x]))(l:List α):P l:=by
 have:∀k,k<=l.length->P (l.take k):=by intro k;induction k with|zero=>intro _;exact h0|succ k c=>intro hk;rw[Eu<|show k<l.length by omega];exact h1 _ _<|c I
 have:=this l.length<|Dh _;rwa[Gu]at this
theorem aEH(l:List α):match Hy E t l with|none=>∀x∈l,E x=false|some x=>x∈l/\E x=true/\∀y∈l,E y=true->t x<=t y:=by induction l using abp with|h0=>exactλx s=>by cases s|h1 l x j=>rw[bP];unfold Ti;cases hb:Hy E t l with
  |none=>
   rw[hb]at j;simp only[aCN];by_cases hE:E x=true
   .rw[AZ hE];refine⟨Ak,hE,λy c o=>?_⟩;rcases F9.1 c with c|c;.rw[j y c]at o;cases o
    rw[EJ]at c;subst c;exact J8 _
   .rw[AX hE];intro y c;rcases F9.1 c with c|c;.exact j y c
    rw[EJ]at c;subst c;simpa using hE|some z=>
   rw[hb]at j;simp only[EC,DI];by_cases hE:E x=true/\t x<t z
   .rw[AZ hE];refine⟨Ak,hE.1,λy c o=>?_⟩;rcases F9.1 c with c|c;.have:=j.2.2 y c o;omega
    rw[EJ]at c;subst c;exact J8 _
   .rw[AX hE];refine⟨O8 _ j.1,j.2.1,λy c o=>?_⟩;rcases F9.1 c with c|c;.exact j.2.2 y c o
    rw[EJ]at c;subst c;have:¬t y<t z:=λh=>hE ⟨o,h⟩;omega
theorem abq{l:List α}:Hy E t l=none↔∀x∈l,E x=false:=by have:=aEH E t l;cases h:Hy E t l with|none=>rw[h]at this;exact⟨λ_=>this,λ_=>rfl⟩|some x=>rw[h]at this;refine⟨λh=>(by cases h),λh0=>?_⟩;have h1:=h0 x this.1;rw[this.2.1]at h1;cases h1
theorem ZT{l:List α}{x:α}(h:Hy E t l=some x):x∈l/\E x=true/\∀y∈l,E y=true->t x<=t y:=by have:=aEH E t l;rw[h]at this;exact this
theorem arI{l m:List α}(c:l.Perm m)(z:∀x∈l,∀y∈l,E x=true->E y=true->t x=t y->x=y):Hy E t l=Hy E t m:=by cases h1:Hy E t l with|none=>have:=(abq E t).1 h1;exact((abq E t).2 λx C=>this x<|c.symm.subset C).symm|some x=>obtain⟨a1,j,K⟩:=ZT E t h1;cases h2:Hy E t m with|none=>have:=(abq E t).1 h2 x<|c.subset a1;rw[j]at this;cases this|some y=>obtain⟨o,s,M⟩:=ZT E t h2;have:=K y (c.symm.subset o) s;have:=M x (c.subset a1) j;rw[z x a1 y (c.symm.subset o) j s I]
end
set_option linter.unusedSectionVars false
theorem lX{a b u:Pt}(T:F a<F b)(h:Hw a b u):F a<=F u/\F u<=F b:=by
 obtain⟨h0,x1,x2,y1,y2⟩:=h;have C:(F u-F a)*(b.y-a.y)=(u.y-a.y)*(F b-F a):=by unfold tw at h0;unfold F;grind
 have K:(F u-F a)*(b.x-a.x)=(u.x-a.x)*(F b-F a):=by unfold tw at h0;unfold F;grind
 have hN:0<F b-F a:=I;have hd:F b-F a=8388608*(b.y-a.y)+(b.x-a.x):=by unfold F;omega
 have hu:F u-F a=8388608*(u.y-a.y)+(u.x-a.x):=by unfold F;omega
 have hv:F b-F u=8388608*(b.y-u.y)+(b.x-u.x):=by unfold F;omega
 generalize F b-F a=N at*;have s:∀{x y:Int},0<x->0<y->0<x*y:=λh1 h2=>KR h1 h2;have U:∀{x y:Int},x<0->0<y->x*y<0:=λh1 h2=>Xd h1 h2;have s3:∀{x y:Int},0<x->y<0->x*y<0:=λh1 h2=>Yy h1 h2;have s4:∀{x y:Int},x<0->y<0->0<x*y:=λh1 h2=>xg h1 h2;have nn:∀{x y:Int},0<=x->0<=y->0<=x*y:=λh1 h2=>LX h1 h2;have np:∀{x y:Int},x<=0->0<=y->x*y<=0:=λh1 h2=>aCQ h1 h2;have j:(F b-F u)*(b.y-a.y)=(b.y-u.y)*N:=by
  have:F b-F u+(F u-F a)=N:=I;have e:(F b-F u)*(b.y-a.y)=N*(b.y-a.y)-(F u-F a)*(b.y-a.y):=by rw[<-this];grind
  rw[e,C];grind
 have o:(F b-F u)*(b.x-a.x)=(b.x-u.x)*N:=by
  have:F b-F u+(F u-F a)=N:=I;have e:(F b-F u)*(b.x-a.x)=N*(b.x-a.x)-(F u-F a)*(b.x-a.x):=by rw[<-this];grind
  rw[e,K];grind
 have c:∀{m d q:Int},m*d=q*N->(0<d->0<=q)->(d<0->q<=0)->d≠0->0<=m:=by
  intro m d q e h1 h2 z;apply Iq;intro hm;rcases aFx z with g|g;.have:=s4 (show m<0 by omega) g;have:=np (h2 g) (show 0<=N by omega);omega
  have:=U (show m<0 by omega) g;have:=nn (h1 g) (show 0<=N by omega);omega
 by_cases hy:b.y-a.y=0;.have M:b.x-a.x≠0:=I;have m1:=c K I I M;have m2:=c o I I M;omega
 have m1:=c C I I hy;have m2:=c j I I hy;omega
theorem ai5{u v a b s:Pt}(c:u≠v)(j:tw u v a=0)(hb:tw u v b=0)(o:tw u v s=0):tw a b s=0:=by have h0:=Pt.aCs c;unfold tw at*;exact parallel h0 (by grind)<|by grind
theorem ai6{a b:Pt}(j:Bl a=true)(o:Bl b=true)(z:a≠b):∃s t,(a=s/\b=t\/a=t/\b=s)/\F s<F t/\Bl s=true/\Bl t=true:=by
 rcases JR (F a)<|F b with c|c|c;.exact⟨a,b,.inl ⟨rfl,rfl⟩,c,j,o⟩
 .exact absurd (ML j o c) z
 exact⟨b,a,.inr ⟨rfl,rfl⟩,c,o,j⟩
theorem jI{a b v:Pt}(h:Hw a b v):Hw b a v:=by
 obtain⟨h0,h1⟩:=h;refine⟨?_,by rw[y8,y9 b.x,y8 b.y,y9 b.y];exact h1⟩;have:tw b a v=-tw a b v:=by unfold tw;grind
 omega
theorem ai7{a b c d u v:Pt}(na:Bl a=true)(nb:Bl b=true)(nc:Bl c=true)(nd:Bl d=true)(nu:Bl u=true)(nv:Bl v=true)(T:a≠b)(U:c≠d)(j:u≠v)(h1:Hw a b u)(h2:Hw a b v)(h3:Hw c d u)(h4:Hw c d v):OT a b c d=2:=by
 obtain⟨s,t,e1,M,-⟩:=ai6 na nb T;obtain⟨x,y,e2,l2,-⟩:=ai6 nc nd U;have hh:F u≠F v:=λe=>j<|ML nu nv e;have o:Hw s t u:=by rcases e1 with⟨rfl,rfl⟩|⟨rfl,rfl⟩;exact h1;exact jI h1
 have z:Hw s t v:=by rcases e1 with⟨rfl,rfl⟩|⟨rfl,rfl⟩;exact h2;exact jI h2
 have C:Hw x y u:=by rcases e2 with⟨rfl,rfl⟩|⟨rfl,rfl⟩;exact h3;exact jI h3
 have K:Hw x y v:=by rcases e2 with⟨rfl,rfl⟩|⟨rfl,rfl⟩;exact h4;exact jI h4
 have q1:=lX M o;have q2:=lX M z;have q3:=lX l2 C;have q4:=lX l2 K;have hst:s≠t:=λe=>by rw[e]at M;omega
 have hxy:x≠y:=λe=>by rw[e]at l2;omega
 obtain⟨p1,p2⟩:=tJ hst o.1 z.1;obtain⟨p3,p4⟩:=tJ hxy C.1 K.1;exact abY e1 e2 M l2 (ai5 j p1 p2 p3) (ai5 j p1 p2 p4) I I
theorem arJ{a b c d v:Pt}(na:Bl a=true)(nb:Bl b=true)(M:Bl c=true)(nd:Bl d=true)(nv:Bl v=true)(j:a≠b)(o:c≠d)(h1:Hw a b v)(h2:Hw c d v):OT a b c d≠0:=by
 intro h0;have z:∀{a b c d:Pt},Bl c=true->Bl d=true->c≠d->tw a b v=0->Hw c d v->tw a b c<=0/\0<=tw a b d\/0<=tw a b c/\tw a b d<=0:=by
  intro a b c d M nd o e ho;have go:∀{c d:Pt},F c<F d->Hw c d v->tw a b c<=0/\0<=tw a b d\/0<=tw a b c/\tw a b d<=0:=by
   intro c d hlt ho;have hb:=lX hlt ho;have k:tw a b c*(F d-F v)+tw a b d*(F v-F c)=0:=by
    have:=ho.1;have k0:tw a b c*(F d-F v)+tw a b d*(F v-F c)=tw a b v*(F d-F c)-(F b-F a)*tw c d v:=by unfold tw F;grind
    rw[k0,e,this];simp
   have U:∀{x y:Int},0<x->0<=y->0<=x*y:=λh1 h2=>LX I h2;have p2:∀{x y:Int},x<0->0<=y->x*y<=0:=λh1 h2=>aCQ I h2;have p3:∀{x y:Int},0<x->0<y->0<x*y:=λh1 h2=>KR h1 h2;have p4:∀{x y:Int},x<0->0<y->x*y<0:=λh1 h2=>Xd h1 h2;generalize tw a b c=u1 at*;generalize tw a b d=u2 at*;have hA:0<=F d-F v:=I;have hB:0<=F v-F c:=I;have C:0<F d-F v\/0<F v-F c:=I;generalize F d-F v=A at*;generalize F v-F c=B at*;clear hb ho e hlt;rcases JR u1 0 with s|s|s
   .rcases JR u2 0 with g2|g2|g2
    .exfalso;have:=p2 s hA;have:=p2 g2 hB;rcases C with q|q;.have:=p4 s q;omega
     have:=p4 g2 q;omega
    .omega
    omega
   .omega
   rcases JR u2 0 with g2|g2|g2;.omega
   .omega
   exfalso;have:=U s hA;have:=U g2 hB;rcases C with q|q;.have:=p3 s q;omega
   have:=p3 g2 q;omega
  rcases JR (F c)<|F d with g|g|g;.exact go g ho
  .exact absurd (ML M nd g) o
  have:=go g<|jI ho;omega
 have l1:=z (a:=a) (b:=b) M nd o h1.1 h2;have l2:=z (a:=c) (b:=d) na nb j h2.1 h1;have e:=zy a b c d;by_cases hp:tw a b d-tw a b c=0
 .have K:tw a b c=0/\tw a b d=0:=I;obtain⟨z3,z4⟩:=tJ j K.1 K.2;unfold OT at h0;rw[AX λe=>j e.1,AZ<|by rw[ac4];omega,AZ ⟨K.1,K.2,z3,z4⟩,Xl]at h0;have b1:=(aam a b v j h1.1).1 ⟨h1.2.1,h1.2.2.1,h1.2.2.2.1,h1.2.2.2.2⟩;have b2:=(aam c d v o h2.1).1 ⟨h2.2.1,h2.2.2.1,h2.2.2.2.1,h2.2.2.2.2⟩;have s:CU v (hi (lo a b)<|lo c d)=false:=ah9 b1.1 b2.1;have g2:CU (lo (hi a b)<|hi c d) v=false:=ahA b1.2 b2.2;split at h0;.cases h0
  rename_i T;split at h0;.cases h0
  rename_i hb;rw[Je]at hb;apply T;rw[<-Je,Np]at s g2 hb;rw[Pt.ext_iff'];omega
 have NM:=ahM j h0 hp;omega
theorem arK{D:Int}(hD:0<D){a b v:Pt}(M:Bl a=true)(T:Bl b=true)(U:Bl v=true)(o:a≠b)(hd:F b-F a∣D)(s:a≠v)(z:b≠v)(hoff:¬Hw a b v):(if 2*D*v.x<xE D a b (2*F v)then Ey (2*F v) a b else 0)=OG a b v:=by
 have j:∀{a b:Pt},F a<F b->F b-F a∣D->F a≠F v->F b≠F v->(if 2*D*v.x<xE D a b (2*F v)then Ey (2*F v) a b else 0)=OG a b v:=by
  intro a b C hd K hb;have hx:=agZ hD (v:=v) C hd;simp only[hx];unfold OG Ey;rw[AX<|show¬(F b<F v/\F v<F a/\0<tw b a v)by omega];by_cases c:0<tw a b v
  .rw[AZ c];by_cases c1:F a<F v
   .by_cases c2:F v<F b;.rw[AZ I,AX I,AZ ⟨c1,c2,c⟩];rfl
    rw[AX I,AX I,AX λe=>c2 e.2.1];rfl
   rw[AZ I,AZ I,AX λe=>c1 e.1];rfl
  rw[AX c,AX λe=>c e.2.2]
 have K:F a≠F v:=λe=>s<|ML M U e;have hb:F b≠F v:=λe=>z<|ML T U e;rcases JR (F a)<|F b with c|c|c;.exact j c hd K hb
 .exact absurd (ML M T c) o
 have:=j c (by rw[show F a-F b=-(F b-F a)by omega];exact y7.2 hd) hb K;rw[jE,ac3]at this;have e2:Ey (2*F v) b a=-Ey (2*F v) a b:=by unfold Ey;omega
 rw[e2]at this;split at this<;>rename_i g<;>first|(rw[AZ g];omega)|(rw[AX g];omega)
section
variable{p:Pl}(h:Valid p)
include h
theorem Valid.arL{z:Int->Int}(M:G8 p z){v:Pt}(K:Bl v=true)(j:Tf p z v):Nu p z v=Dj p z λa b=>OG a b v:=by obtain⟨D,hD,hd⟩:=h.aAl;rw[h.abl M hD hd K j];refine(uj p z D (2*F v) (λx s=>if 2*D*v.x<x then s else 0)<|λx c s=>by split<;>simp).trans ?_;exact aEy λa o C k hk=>arK hD (h.DW o (k:=k) I) (h.DW o hk) K (h.distinct o hk).1 (hd a o k hk) (h.jH j o C (k:=k) I) (h.jH j o C hk)<|j a o C k hk
theorem Valid.ai8{z:Int->Int}(s:G8 p z){v:Pt}(C:Bl v=true)(c:Tf p z v)(u:Pt):MX p z v u=Nu p z v:=by rw[h.arL s C c];unfold MX;refine aEy λa o j k hk=>?_;have K:=h.jH c o j (k:=k) I;have M:=h.jH c o j hk;unfold RX;rw[AX λe=>K e.1,AX λe=>M e.1];omega
theorem Valid.uq{z:Int->Int}(j:G8 p z){a:Ar}(o:a∈p.AP){k:Nat}(hk:k<(AV p a).length)(c:Tf p z<|(AV p a).getD k AY):Nu p z ((AV p a).getD k AY)=Hz p z a.id/\Hz p z (-a.id)=Hz p z a.id:=by
 have M:=En p a;have C:=h.DW o hk;have K:=h.VO j o;have h0:z a.id=0:=Iq λs=>h.jH c o s hk rfl;rw[h0]at K;refine⟨?_,I⟩;by_cases h1:k+1<(AV p a).length;.have:=(h.zK j o h1).1;rw[h.ai8 j C c]at this;omega
 obtain⟨m,rfl⟩:∃m,k=m+1:=⟨k-1,I⟩;have:=(h.zK j o (m:=m) hk).2;rw[h.ai8 j C c]at this;omega
theorem Valid.arM{a c:Ar}(C:a∈p.AP)(K:c∈p.AP)(o:a≠c){k m:Nat}(hk:k+1<(AV p a).length)(hm:m+1<(AV p c).length){v:Pt}(nv:Bl v=true)(h1:Hw ((AV p a).getD k AY) ((AV p a).getD (k+1) AY) v)(h2:Hw ((AV p c).getD m AY) ((AV p c).getD (m+1) AY) v):∃n∈p.nodes,n.pt=v/\(a.fr=n.id\/a.dst=n.id)/\(c.fr=n.id\/c.dst=n.id):=by
 have go:∀{a c:Ar}{k m:Nat},a∈p.AP->c∈p.AP->a≠c->k+1<(AV p a).length->m+1<(AV p c).length->Hw ((AV p a).getD k AY) ((AV p a).getD (k+1) AY) v->Hw ((AV p c).getD m AY) ((AV p c).getD (m+1) AY) v->OD p (Df p a k) (Df p c m)=true->∃n∈p.nodes,n.pt=v/\(a.fr=n.id\/a.dst=n.id)/\(c.fr=n.id\/c.dst=n.id):=by
  intro a c k m C K o hk hm h1 h2 z;have n1:=h.DW C (k:=k) I;have n2:=h.DW C hk;have n3:=h.DW K (k:=m) I;have n4:=h.DW K hm;have d1:=(h.distinct C hk).1;have d2:=(h.distinct K hm).1;have hm0:=arJ n1 n2 n3 n4 nv d1 d2 h1 h2;unfold OD at z;split at z
  .obtain⟨x,hx,T⟩:=PW.1 z;unfold OC Df at T;simp only[EC]at T;obtain⟨⟨⟨e1,e2⟩,o1⟩,o2⟩:=T;have nx:=h.zh hx;rw[<-aak]at o1 o2;have o1:=(bM n1 n2 nx).1 o1;have o2:=(bM n3 n4 nx).1 o2;have M:∀{b:Ar},Vj b x.id=true->b.fr=x.id\/b.dst=x.id:=λhe=>by unfold Vj at he;simpa using he
   refine⟨x,hx,?_,M e1,M e2⟩;apply Iq;intro hxv;have r1:=ai7 n1 n2 n3 n4 nx nv d1 d2 hxv o1 h1 o2 h2;have r2:=ai7 n3 n4 n1 n2 nx nv d2 d1 hxv o2 h2 o1 h1;exact h.ah0 C K hk hm (λe=>o e.1) ⟨r1,r2⟩
  rw[beq_iff_eq]at z;unfold GU Df at z;rw[AZ<|dh n1 n2 n3 n4]at z;exact absurd z hm0
 have U:=h.UN.2.2;obtain⟨i,hi,rfl⟩:=Dy.1 C;obtain⟨j,z,rfl⟩:=Dy.1 K;rw[FT]at U;rcases Om i j with s|s|s;.exact go C K o hk hm h1 h2<|U i j hi z s k hk m hm
 .subst s;exact absurd rfl o
 obtain⟨n,h1,h2,h3,h4⟩:=go K C (λe=>o e.symm) hm hk h2 h1<|U j i z hi s m hm k hk;exact⟨n,h1,h2,h4,h3⟩
theorem Valid.abr{X:List Int}(C:X∈CV p){r:Int}(hr:r∈X){a:Ar}(o:a∈p.AP)(hs:BU p p.AP.length a.id≠BU p p.AP.length r){k:Nat}(hk:k<(AV p a).length):∀q∈DV p X,Eh q.1 q.2 ((AV p a).getD k AY)=false:=by
 intro q hq;obtain⟨c,s,K,m,hm,rfl⟩:=h.aAn (h.Fv C).2 hq;rw[<-Je];intro ho;have hl:=En p a;have hcs:BU p p.AP.length c.id=BU p p.AP.length r:=by
  have M:c.id∈BZ p:=Ij.2 ⟨c,s,.inl rfl⟩;rcases K with g|g;.exact h.VR C g hr
  rw[<-h.VP M];exact h.VR C g hr
 have T:a≠c:=by rintro rfl;exact hs hcs
 obtain⟨j,hj,U⟩:∃j,j+1<(AV p a).length/\Hw ((AV p a).getD j AY) ((AV p a).getD (j+1) AY) ((AV p a).getD k AY):=by
  by_cases h1:k+1<(AV p a).length;.exact⟨k,h1,Zv _ _,I⟩
  obtain⟨j,rfl⟩:∃j,k=j+1:=⟨k-1,I⟩;exact⟨j,hk,Zw _ _,I⟩
 obtain⟨n,hn,-,ea,ec⟩:=h.arM o s T hj hm (h.DW o hk) U<|(bM (h.DW s I) (h.DW s hm)<|h.DW o hk).1 ho;have z:∀{a:Ar},a∈p.AP->a.fr=n.id\/a.dst=n.id->∃d∈DL p n.id,BU p p.AP.length d=BU p p.AP.length a.id:=by
  intro a o hor;have hma:a.id∈BZ p:=Ij.2 ⟨a,o,.inl rfl⟩;rcases hor with e|e;.exact⟨a.id,(h.OI hn).symm.subset<|TV.2 ⟨a,o,.inl ⟨rfl,e⟩⟩,rfl⟩
  exact⟨-a.id,(h.OI hn).symm.subset<|TV.2 ⟨a,o,.inr ⟨rfl,e⟩⟩,h.VP hma⟩
 obtain⟨d1,m1,q1⟩:=z o ea;obtain⟨d2,m2,q2⟩:=z s ec;exact hs<|by rw[<-q1,h.abW hn m1 m2,q2,hcs]
end
set_option linter.unusedSectionVars false
def BN(p:Pl):List<|List Int:=(CV p).filter λX=>decide<|0<EI p X
def Gj(p:Pl):List<|List Int:=(CV p).filter λX=>!decide (0<EI p X)
def F8(p:Pl)(v:Pt):Option<|List Int:=Hy (λX=>encS p X v) (EI p)<|BN p
theorem Gl{p:Pl}{X:List Int}:X∈BN p↔X∈CV p/\0<EI p X:=by unfold BN;rw[Nc,DI]
theorem VT{p:Pl}{X:List Int}:X∈Gj p↔X∈CV p/\¬0<EI p X:=by unfold Gj;rw[Nc];simp
section
variable{p:Pl}(h:Valid p)
include h
theorem Valid.arN{l:List<|List Int}(j:(BN p).Perm l){v:Pt}(o:Bl v=true):Hy (λX=>encS p X v) (EI p) l=F8 p v:=by refine(arI _ _ j λX c Y F s z e=>?_).symm;rw[Gl]at c F;exact h.arH c.1 F.1 c.2 F.2 o s z e
theorem Valid.abt{X:List Int}(o:X∈BN p){r:Int}(hr:r∈X){a:Ar}(s:a∈p.AP)(hs:BU p p.AP.length a.id=BU p p.AP.length r){k:Nat}(hk:k<(AV p a).length):encS p X ((AV p a).getD k AY)=false:=by
 rw[Gl]at o;have C:=h.DW s hk;have K:a.id∈BZ p:=Ij.2 ⟨a,s,.inl rfl⟩;have hl:=En p a;rw[<-Je];intro he;obtain⟨U,g2⟩:=(h.lV o.1 o.2 C).1 he;have z:=h.uo C U;obtain⟨w1,w2⟩:=h.uq (h.Px o.1) s hk z;rw[h.Qw o.1 o.2 hr K hs]at w1;rw[w1]at g2;have M:a.id∈X:=Iq λc=>by rw[AX c]at g2;cases g2
 obtain⟨j,hj,T⟩:∃j,j+1<(AV p a).length/\Hw ((AV p a).getD j AY) ((AV p a).getD (j+1) AY) ((AV p a).getD k AY):=by
  by_cases h1:k+1<(AV p a).length;.exact⟨k,h1,Zv _ _,I⟩
  obtain⟨j,rfl⟩:∃j,k=j+1:=⟨k-1,I⟩;exact⟨j,hk,Zw _ _,I⟩
 have:=U _<|h.aEG s (.inl M) hj;rw[(bM (h.DW s I) (h.DW s hj) C).2 T]at this;cases this
theorem Valid.arO{X:List Int}(s:X∈BN p){a b:Ar}(j:a∈p.AP)(hb:b∈p.AP)(z:BU p p.AP.length a.id=BU p p.AP.length b.id){k m:Nat}(hk:k<(AV p a).length)(hm:m<(AV p b).length):encS p X ((AV p a).getD k AY)=encS p X ((AV p b).getD m AY):=by
 have c:=Gl.1 s;obtain⟨r,-,-,-,o⟩:=h.Tc c.1;by_cases hc:BU p p.AP.length a.id=BU p p.AP.length r;.rw[h.abt s o j hc hk,h.abt s o hb (by rw[<-z];exact hc) hm]
 have C:a.id∈BZ p:=Ij.2 ⟨a,j,.inl rfl⟩;have K:b.id∈BZ p:=Ij.2 ⟨b,hb,.inl rfl⟩;have M:=h.abr c.1 o j hc hk;have T:=h.abr c.1 o hb (by rw[<-z];exact hc) hm;have w1:=(h.uq (h.Px c.1) j hk<|h.uo (h.DW j hk) M).1;have w2:=(h.uq (h.Px c.1) hb hm<|h.uo (h.DW hb hm) T).1;have e:=(h.lU c.1 c.2 o C hc).2 _ K z.symm;rw[KQ,h.lV c.1 c.2<|h.DW j hk,h.lV c.1 c.2<|h.DW hb hm,w1,w2,e];exact⟨λg=>⟨T,g.2⟩,λg=>⟨M,g.2⟩⟩
theorem Valid.aiA{a b:Ar}(j:a∈p.AP)(hb:b∈p.AP)(s:BU p p.AP.length a.id=BU p p.AP.length b.id){k m:Nat}(hk:k<(AV p a).length)(hm:m<(AV p b).length):F8 p ((AV p a).getD k AY)=F8 p ((AV p b).getD m AY):=by
 unfold F8 Hy;have:∀(l:List<|List Int)(o:Option<|List Int),(∀X∈l,X∈BN p)->l.foldl (Ti (λX=>encS p X<|(AV p a).getD k AY)<|EI p) o=l.foldl (Ti (λX=>encS p X<|(AV p b).getD m AY)<|EI p) o:=by intro l;induction l with|nil=>intro o _;rfl|cons X l z=>intro o c;rw[V8,V8,z _ λY F=>c Y<|FW _ F];congr 1;have e:=h.arO (c X ED) j hb s hk hm;simp only[Ti,e]
 exact this _ _ λX C=>C
end
def MZ(p:Pl)(c:List Int):Pt:=(GL p<|c.headD 0).getD 0 AY
def Mc(p:Pl)(b:Option<|List Int):List<|List Int:=(Gj p).filter λc=>decide<|F8 p (MZ p c)=b
def Sr(p:Pl)(b:Option<|List Int):List Int:=(p.nodes.filter<|λn=>decide<|JJ p.AP n.id=0/\F8 p n.pt=b).map (·.id)
def JZ(p:Pl)(b:Option<|List Int):Int:=match b with|none=>0|some X=>Ej p<|X.headD 0
def GN(p:Pl)(b:Option<|List Int):List<|List Int:=b.getD []::Mc p b
structure Ru(p:Pl):Prop where
 some:∀X∈BN p,Ej p (X.headD 0)≠0
 differ:((BN p).map<|λX=>Ej p<|X.headD 0).Nodup
 sides:∀b,(b=none\/∃X∈BN p,b=Option.some X)->∀c∈GN p b,∀d∈c,Ej p d=JZ p b
 all:(BN p).length=p.faces.length
set_option linter.unusedSectionVars false
def Gv(a b:Int):Bool:=decide (Et a<Et b)||decide (Et a=Et b)&&decide (b<a)
theorem jJ{a b:Int}:Gv a b=true↔Et a<Et b\/Et a=Et b/\b<a:=by unfold Gv;simp
theorem arP(a:Int):Gv a a=false:=by rw[<-Je,jJ];omega
theorem aiB{a b:Int}(h1:Gv a b=false)(h2:Gv b a=false):a=b:=by rw[<-Je,jJ]at h1 h2;unfold Et at*;split at h1<;>split at h1<;>simp_all<;>omega
theorem abu{a b c:Int}(h1:Gv a b=true)(h2:Gv b c=true):Gv a c=true:=by rw[jJ]at*;omega
theorem aiC{a b:Int}(h1:Gv a b=true):Gv b a=false:=by rw[<-Je];intro h2;rw[jJ]at h1 h2;omega
def Sv(k d:Int):Int:=if Gv d k then d else k
def Pz(c:List Int)(n:Nat):Int:=(c.take n).foldl Sv<|c.headD 0
def Dp(c:List Int):Int:=c.foldl Sv<|c.headD 0
theorem aiD{c:List Int}{n:Nat}(hn:n<c.length):Pz c (n+1)=Sv (Pz c n) c[n]:=by unfold Pz;rw[Eu hn,LG];rfl
theorem aiE(c:List Int):Pz c c.length=Dp c:=by unfold Pz Dp;rw[Gu]
theorem aEI:∀(l:List Int)(k:Int),l.foldl Sv k=k\/l.foldl Sv k∈l
 |[],k=>.inl rfl|d::l,k=>by
  rw[V8];rcases aEI l<|Sv k d with h|h
  .rw[h];unfold Sv;split;.exact .inr ED
   exact .inl rfl
  exact .inr<|FW _ h
theorem aAo{c:List Int}(h:c≠[]):Dp c∈c:=by
 rcases aEI c<|c.headD 0 with e|e;.unfold Dp;rw[e];cases c with|nil=>exact absurd rfl h|cons a c=>exact ED
 exact e
def jK(X:List Int)(l:List<|List Int):List<|List Int:=l.takeWhile (λY=>!Gv (Dp X) (Dp Y))++X::l.dropWhile λY=>!Gv (Dp X) (Dp Y)
def sortK(l:List<|List Int):List<|List Int:=l.foldl (λacc X=>jK X acc) []
def Sz(X Y:List Int):Bool:=Gv (Dp X)<|Dp Y
theorem arQ(X:List Int)(l:List<|List Int):(jK X l).Perm<|X::l:=by unfold jK;refine List.perm_middle.trans ?_;rw[aCW]
theorem arR{X:List Int}{l:List<|List Int}(h:l.Pairwise λa b=>Sz b a=false):(jK X l).Pairwise λa b=>Sz b a=false:=by
 unfold jK;have c:l.takeWhile (λY=>!Gv (Dp X) (Dp Y))++l.dropWhile (λY=>!Gv (Dp X) (Dp Y))=l:=aCW;have h1:∀Y∈l.takeWhile λY=>!Gv (Dp X) (Dp Y),Gv (Dp X) (Dp Y)=false:=λY F=>by have:=KO.1 (List.all_takeWhile (p:=λY=>!Gv (Dp X) (Dp Y)) (l:=l)) Y F;simpa using this
 have h2:∀Y∈l.dropWhile λY=>!Gv (Dp X) (Dp Y),Gv (Dp Y) (Dp X)=false:=by intro Y F;cases hd:l.dropWhile λY=>!Gv (Dp X) (Dp Y)with|nil=>rw[hd]at F;cases F|cons Z m=>
   have o:Gv (Dp X) (Dp Z)=true:=by have:=List.head_dropWhile_not (λY=>!Gv (Dp X) (Dp Y)) (l:=l) (by rw[hd];simp);simp only[hd,List.head_cons]at this;simpa using this
   rw[hd]at F;rcases Dv.1 F with rfl|F;.exact aiC o
   .have j:(Z::m).Pairwise λa b=>Sz b a=false:=by have:=h;rw[<-c,QE]at this;rw[<-hd];exact this.2.1
    have:=(I8.1 j).1 Y F;rw[<-Je];intro z;have h3:=abu z o;unfold Sz at this;rw[h3]at this;cases this
 have j:=h;rw[<-c,QE]at j;rw[QE,I8];refine⟨j.1,⟨h2,j.2.1⟩,λa s b hb=>?_⟩;rcases Dv.1 hb with rfl|hb;.exact h1 a s
 exact j.2.2 a s b hb
theorem Wi(l:List<|List Int):(sortK l).Perm l/\(sortK l).Pairwise λa b=>Sz b a=false:=by
 have:∀(l c:List<|List Int),c.Pairwise (λa b=>Sz b a=false)->(l.foldl (λc X=>jK X c) c).Perm (c++l)/\(l.foldl (λc X=>jK X c) c).Pairwise λa b=>Sz b a=false:=by intro l;induction l with|nil=>intro c h;exact⟨by rw[I9];exact List.Perm.refl _,h⟩|cons X l j=>intro c h;rw[V8];obtain⟨h1,h2⟩:=j (jK X c)<|arR h;refine⟨h1.trans ?_,h2⟩;exact((arQ X c).append_right l).trans (List.perm_middle (l₁:=c) (l₂:=l) (a:=X)).symm
 have h:=this l [] List.Pairwise.nil;rw[Rj]at h;exact h
section
variable{p:Pl}(h:Valid p)
include h
theorem Valid.arS{X Y:List Int}(c:X∈CV p)(F:Y∈CV p)(h1:Sz X Y=false)(h2:Sz Y X=false):X=Y:=by obtain⟨x,-,-,-,j⟩:=h.Tc c;obtain⟨y,-,-,-,o⟩:=h.Tc F;have e:Dp X=Dp Y:=aiB h1 h2;refine h.lQ c F (aAo<|λe=>by rw[e]at j;cases j) ?_;rw[e];exact aAo λe=>by rw[e]at o;cases o
theorem Valid.aiF{l:List<|List Int}(c:l.Perm<|BN p)(j:l.Pairwise λa b=>Sz b a=false):l=sortK (BN p):=by obtain⟨h1,h2⟩:=Wi<|BN p;refine nN (lt:=Sz) (c.trans h1.symm) j h2 λa o b hb s g2=>?_;have z:=(Gl.1<|c.subset o).1;have C:=(Gl.1<|c.subset hb).1;exact h.arS z C s g2
end
def jL(n:Int):DataW Unit:=.lit<|.int .i64 n
def iiR:Value->Option (DataW Unit×List MemPlace)|.int .i64 n=>some (jL n,[])|_=>none
theorem aqj{v:Value}{n:Int}{ps:List MemPlace}(h:iiR v=some (jL n,ps)):v=.int .i64 n:=by
 unfold iiR at h;split at h;.simp only[jL,JU,Prod.mk.injEq,DataW.lit.injEq,Lit.int.injEq,true_and]at h;rw[h.1]
 cases h
def IC(w:World)(b n:Nat)(f:Int->Int):Prop:=∃D:DataW Unit,w.ownsMap prog 3 iiR b n D/\Maps.IsMap D/\∀id,D.atKey (.int .i64 id) (jL 0)=jL (f id)
theorem IC.kept{w w':World}{b n:Nat}{f:Int->Int}(h:IC w b n f){row:Option Nat}(c:w.grownBy w' row)(j:some b≠row):IC w' b n f:=by obtain⟨D,h1,h2⟩:=h;exact⟨D,h1.kept c j,h2⟩
theorem IC.keep{w w':World}{b n:Nat}{f:Int->Int}(h:IC w b n f)(hb:AU w w'):IC w' b n f:=h.kept (row:=none) ⟨hb.os,hb.tape,hb.output,hb.size,λi hi _=>hb.block i hi⟩ Ak
theorem IC.lt{w:World}{b n:Nat}{f:Int->Int}(h:IC w b n f):b<w.heap.size:=by obtain⟨D,h1,h2⟩:=h;exact h1.lt
theorem IC.made(w:World):IC (w.alloc<|.map #[] 0) w.heap.size 0 λ_=>0:=⟨.map [],World.ownsMap_made _ _ _ _,⟨_,rfl⟩,λ_=>rfl⟩
theorem aqk(w:World):(zeroValue 3).run prog w=.ok (.int .i64 0) w:=by kernel_rfl
theorem IC.look{w:World}{b n:Nat}{f:Int->Int}(h:IC w b n f)(id:Int)(hid:Eb id):(Instr.lookup 113 (.map<|some b) (.int .i64 id) false).run prog w=.ok (.int .i64<|f id) w:=by obtain⟨D,h1,-,h2⟩:=h;obtain⟨v,ps,c,hv⟩:=h1.lookup Xr Tryz.underlying113 (aqk w) (zd:=jL 0) (zp:=[]) rfl<|Maps.keyOf_int_mk Tryz.underlying3 hid;rw[h2]at hv;rw[c,aqj hv]
theorem IC.upd{w:World}{b n:Nat}{f:Int->Int}(h:IC w b n f)(hn:n<4294967296)(id:Int)(hid:Eb id)(x:Int):∃w',(Instr.mapUpdate 113 (.map<|some b) (.int .i64 id)<|.int .i64 x).run prog w=.ok () w'/\IC w' b (n+1) (λi=>if i=id then x else f i)/\w.grownBy w' (some b):=by
 obtain⟨D,h1,hm,h2⟩:=h;obtain⟨w',c,ho,j⟩:=h1.update Xr Tryz.underlying113 xY (Maps.keyOf_int_mk Tryz.underlying3 hid) (val:=.int .i64 x) (d:=jL x) (ps:=[]) rfl;refine⟨w',c,⟨_,ho,?_,λi=>?_⟩,j⟩;.obtain⟨o,rfl⟩:=hm;exact⟨_,rfl⟩
 show _=jL (if i=id then x else f i);by_cases e:i=id;.subst e;rw[AZ rfl];exact Maps.atKey_put_same hm (by trivial) _ _
 rw[AX e,Maps.atKey_put_other λh=>e<|by injection h,h2]
def WB(b:Bool):DataW Unit:=.lit<|.bool b
def ibR:Value->Option (DataW Unit×List MemPlace)|.bool b=>some (WB b,[])|_=>none
theorem aiG{v:Value}{b:Bool}{ps:List MemPlace}(h:ibR v=some (WB b,ps)):v=.bool b:=by
 unfold ibR at h;split at h;.simp only[WB,JU,Prod.mk.injEq,DataW.lit.injEq,Lit.bool.injEq]at h;rw[h.1]
 cases h
def NQ(w:World)(b n:Nat)(f:Int->Bool):Prop:=∃D:DataW Unit,w.ownsMap prog 3 ibR b n D/\Maps.IsMap D/\∀id,D.atKey (.int .i64 id) (WB false)=WB (f id)
theorem NQ.kept{w w':World}{b n:Nat}{f:Int->Bool}(h:NQ w b n f){row:Option Nat}(c:w.grownBy w' row)(j:some b≠row):NQ w' b n f:=by obtain⟨D,h1,h2⟩:=h;exact⟨D,h1.kept c j,h2⟩
theorem NQ.keep{w w':World}{b n:Nat}{f:Int->Bool}(h:NQ w b n f)(hb:AU w w'):NQ w' b n f:=h.kept (row:=none) ⟨hb.os,hb.tape,hb.output,hb.size,λi hi _=>hb.block i hi⟩ Ak
theorem NQ.lt{w:World}{b n:Nat}{f:Int->Bool}(h:NQ w b n f):b<w.heap.size:=by obtain⟨D,h1,h2⟩:=h;exact h1.lt
theorem NQ.made(w:World):NQ (w.alloc<|.map #[] 0) w.heap.size 0 λ_=>false:=⟨.map [],World.ownsMap_made _ _ _ _,⟨_,rfl⟩,λ_=>rfl⟩
theorem aiH(w:World):(zeroValue 4).run prog w=.ok (.bool false) w:=by kernel_rfl
theorem NQ.look{w:World}{b n:Nat}{f:Int->Bool}(h:NQ w b n f)(id:Int)(hid:Eb id):(Instr.lookup 83 (.map<|some b) (.int .i64 id) false).run prog w=.ok (.bool<|f id) w:=by obtain⟨D,h1,-,h2⟩:=h;obtain⟨v,ps,c,hv⟩:=h1.lookup Xr Tryz.underlying83 (aiH w) (zd:=WB false) (zp:=[]) rfl<|Maps.keyOf_int_mk Tryz.underlying3 hid;rw[h2]at hv;rw[c,aiG hv]
theorem NQ.upd{w:World}{b n:Nat}{f:Int->Bool}(h:NQ w b n f)(hn:n<4294967296)(id:Int)(hid:Eb id)(x:Bool):∃w',(Instr.mapUpdate 83 (.map<|some b) (.int .i64 id)<|.bool x).run prog w=.ok () w'/\NQ w' b (n+1) (λi=>if i=id then x else f i)/\w.grownBy w' (some b):=by
 obtain⟨D,h1,hm,h2⟩:=h;obtain⟨w',c,ho,j⟩:=h1.update Xr Tryz.underlying83 xY (Maps.keyOf_int_mk Tryz.underlying3 hid) (val:=.bool x) (d:=WB x) (ps:=[]) rfl;refine⟨w',c,⟨_,ho,?_,λi=>?_⟩,j⟩;.obtain⟨o,rfl⟩:=hm;exact⟨_,rfl⟩
 show _=WB (if i=id then x else f i);by_cases e:i=id;.subst e;rw[AZ rfl];exact Maps.atKey_put_same hm (by trivial) _ _
 rw[AX e,Maps.atKey_put_other λh=>e<|by injection h,h2]
def BO(x:SV):Value:=.slice x.a x.n x.c
def Uh(n:Nat):DataW Unit:=.lit<|.int .i64 (n:Int)
def bQ(x:SV):DataW Unit:=match x.a with|none=>.agg [Uh x.n,Uh x.c]|some ⟨b,o,none⟩=>.agg [Uh b,Uh o,Uh x.n,Uh x.c]|some ⟨_,_,some _⟩=>.agg []
def svR:Value->Option (DataW Unit×List MemPlace)|.slice none n c=>some (.agg [Uh n,Uh c],[])|.slice (some ⟨b,o,none⟩) n c=>some (.agg [Uh b,Uh o,Uh n,Uh c],[])|_=>none
theorem aql{v:Value}{x:SV}{ps:List MemPlace}(h:svR v=some (bQ x,ps)):v=BO x:=by
 obtain⟨a,n,c⟩:=x;unfold svR at h;split at h
 .rename_i j s;unfold bQ at h;rcases a with _|⟨b,o,_|q⟩;.simp only[JU,Prod.mk.injEq,DataW.agg.injEq,List.cons.injEq,Uh,DataW.lit.injEq,Lit.int.injEq,and_true,true_and]at h;have h1:j=n:=I;have h2:s=c:=I;subst h1 h2;rfl
  .simp at h
  simp at h
 .rename_i b' z j s;unfold bQ at h;rcases a with _|⟨b,o,_|q⟩;.simp at h
  .simp only[JU,Prod.mk.injEq,DataW.agg.injEq,List.cons.injEq,Uh,DataW.lit.injEq,Lit.int.injEq,and_true,true_and]at h;have h1:b'=b:=I;have h2:z=o:=I;have h3:j=n:=I;have C:s=c:=I;subst h1 h2 h3 C;rfl
  simp at h
 cases h
def SV.ok(x:SV):Prop:=x.a=none\/∃b o,x.a=some ⟨b,o,none⟩
theorem aqm{x:SV}(h:x.ok):svR (BO x)=some (bQ x,[]):=by
 obtain⟨a,n,c⟩:=x;rcases h with h|⟨b,o,h⟩;.simp only at h;subst h;rfl
 simp only at h;subst h;rfl
def sv0:SV:=⟨none,0,0⟩
def OZ(w:World)(b n:Nat)(f:Int->SV):Prop:=∃D:DataW Unit,w.ownsMap prog 3 svR b n D/\Maps.IsMap D/\∀id,D.atKey (.int .i64 id) (bQ sv0)=bQ (f id)
theorem OZ.kept{w w':World}{b n:Nat}{f:Int->SV}(h:OZ w b n f){row:Option Nat}(c:w.grownBy w' row)(j:some b≠row):OZ w' b n f:=by obtain⟨D,h1,h2⟩:=h;exact⟨D,h1.kept c j,h2⟩
theorem OZ.keep{w w':World}{b n:Nat}{f:Int->SV}(h:OZ w b n f)(hb:AU w w'):OZ w' b n f:=h.kept (row:=none) ⟨hb.os,hb.tape,hb.output,hb.size,λi hi _=>hb.block i hi⟩ Ak
theorem OZ.lt{w:World}{b n:Nat}{f:Int->SV}(h:OZ w b n f):b<w.heap.size:=by obtain⟨D,h1,h2⟩:=h;exact h1.lt
theorem OZ.made(w:World):OZ (w.alloc<|.map #[] 0) w.heap.size 0 λ_=>sv0:=⟨.map [],World.ownsMap_made _ _ _ _,⟨_,rfl⟩,λ_=>rfl⟩
theorem aqn(w:World):(zeroValue 29).run prog w=.ok (.slice none 0 0) w:=by kernel_rfl
theorem OZ.look{w:World}{b n:Nat}{f:Int->SV}(h:OZ w b n f)(id:Int)(hid:Eb id):(Instr.lookup 90 (.map<|some b) (.int .i64 id) false).run prog w=.ok (BO<|f id) w:=by obtain⟨D,h1,-,h2⟩:=h;obtain⟨v,ps,c,hv⟩:=h1.lookup Xr Tryz.underlying90 (aqn w) (zd:=bQ sv0) (zp:=[]) rfl<|Maps.keyOf_int_mk Tryz.underlying3 hid;rw[h2]at hv;rw[c,aql hv]
theorem OZ.upd{w:World}{b n:Nat}{f:Int->SV}(h:OZ w b n f)(hn:n<4294967296)(id:Int)(hid:Eb id)(x:SV)(c:x.ok):∃w',(Instr.mapUpdate 90 (.map<|some b) (.int .i64 id)<|BO x).run prog w=.ok () w'/\OZ w' b (n+1) (λi=>if i=id then x else f i)/\w.grownBy w' (some b):=by
 obtain⟨D,h1,hm,h2⟩:=h;obtain⟨w',j,ho,o⟩:=h1.update Xr Tryz.underlying90 xY (Maps.keyOf_int_mk Tryz.underlying3 hid) (val:=BO x) (d:=bQ x) (ps:=[])<|aqm c;refine⟨w',j,⟨_,ho,?_,λi=>?_⟩,o⟩;.obtain⟨s,rfl⟩:=hm;exact⟨_,rfl⟩
 show _=bQ (if i=id then x else f i);by_cases e:i=id;.subst e;rw[AZ rfl];exact Maps.atKey_put_same hm (by trivial) _ _
 rw[AX e,Maps.atKey_put_other λh=>e<|by injection h,h2]
theorem aqo{n:Nat}(h:n<=8796093022208):n<=maxLen:=by have:maxLen=9223372036854775807:=rfl;omega
def ZU(p:Pl):Prop:=∀a∈p.AP,a.via.length<=8796093022208
theorem aiI{P:Program}(w:World){ops:Array Oper}{rest:List Oper}{o:Oper}{a:Act}{Q:Exit->Act->World->Prop}(U:o.guard=none)(s x:Operand)(t:TypeId)(ho:o.op=.call {callee:=.builtin .append,args:=#[s,x],argTypes:=#[t,t]}){α:Type}{f:α->List Value}{base:Nat}{e:TypeId}{size bytes:Nat}(hE:Elem P t e size bytes)(hf:∀a,(f a).length=size)(M:∀a,∀u∈f a,u.oneCell'=true){v:Value}{l:List α}(hs:a.eval s=v)(T:Own w base e size f v l){j:Value}{l2:List α}(hx:a.eval x=j)(hr:Sl w j l2.length<|l2.flatMap f)(c:(l.length+l2.length)*bytes<=140737488355328)(h32:l.length+l2.length<=8796093022208)(C:base<=w.heap.size)(h:∀v' w',Own w' base e size f v' (l++l2)->w.grownBy w' v.ownBlock->v'.ownBlock=v.ownBlock\/v'.ownBlock=some w.heap.size->wpList P ops Q rest (a.put o.dst v') w'):wpList P ops Q (o::rest) a w:=by
 obtain⟨ht,i,z,hi,hz,K,hby,hzs,hsz⟩:=hE;refine afJ w U s x t ho base e i z size bytes ht hi hz K hby hzs hsz v l.length (l.flatMap f) hs T j l2.length (l2.flatMap f) hx hr (flat_length f size hf l2)
  (λu hu=>?_) (aqo h32) c C λv' w' h1 h2 h3=>h v' w' ?_ h2 h3;.obtain⟨a,_,hu⟩:=Fj.1 hu;exact M a u hu
 unfold Own;rw[EK,LY];exact h1
theorem aqp(v:Value)(l:List Pt)(w:World)(h:EL w v l)(hl:l.length<=8796093022208):Calls prog 108 #[v] w<|Zj w l:=by
 have H:=h;obtain⟨A,c,rfl,hn,hc,s⟩:=h;have K:=Lib.run_eql_slice_nil (P:=prog) (t:=29) (e:=50);rcases A with _|ad
 .have z:l=[]:=by
   rcases l with _|⟨a,l⟩;.rfl
   obtain⟨b,o,e,_⟩:=s (by simp[Ep]);cases e
  subst z;clear s H;simp only[Nb]at hn⊢;have C:∀W:World,(binOp .eql 29 (.slice none 0 c)<|.slice none 0 0).run prog W=.ok (.bool true) W:=λW=>Lib.run_eql_slice_nil W _ 50 none _ c 0 0 Tryz.underlying29;clear K;go_enter func108,ntmps108;go_wp2;go_ret;exact⟨_,_,rfl,bR w,Own.nil _ _ _ _ _⟩
 have C:∀W:World,(binOp .eql 29 (.slice (some ad) l.length c)<|.slice none 0 0).run prog W=.ok (.bool false) W:=λW=>Lib.run_eql_slice_nil W _ 50 (some ad) _ c 0 0 Tryz.underlying29;clear K s;have M:=V H;clear H;go_enter func108,ntmps108;go_wp2_with(at_builtin;refine aiI _ rfl (.tmp 5) (.tmp 6) _ rfl (base:=w.heap.size) LZ LK La rfl (Own.lit _ _ _ _ Ep [] _ 0 _ rfl rfl (Dh _) (DC I) rfl rfl) rfl (M.1.mono<|bA (bR w) _) aK aK Ak ?_;intro v1 w1 j T U);go_ret;obtain⟨A1,c1,rfl,-⟩:=Own.sl j;simp only[Rj]at j⊢;exact⟨A1,c1,rfl,bG (bA (bR w) _) T λk hk=>by have:w.heap.size=k:=Dn hk;omega,j⟩
theorem aqr(v:Value)(p:Pl)(id:Int)(w:World)(h:Cj w v p)(C:ZU p):Calls prog 49 #[v,.int .i64 id] w<|rV w<|findAr p.AP id:=by
 obtain⟨vn,_,vf,al,rfl,hpa,-,⟨⟨An,cn,rfl,hn1,hn2,hR⟩,hV⟩,-⟩:=h;unfold maxLen at hn2;unfold ZU at C;rw[hpa]at C⊢;clear hpa;have M:∀k(hk:k<al.length),al[k].1.via.length<=8796093022208:=λk hk=>C _<|H6<|BG hk;have HV:=V hV;clear hV C;have DN:=V M;clear M;go_enter func49,ntmps49;go_wp2_with fail;go_loopw[11](λi wr=>∃k:Nat,k<=al.length/\i=.int .i64 k/\AU w wr/\AO wr (w.heap.size+1) 31 #[.int .i64 0,.int .i64 0,.int .i64 0,.slice none 0 0,.int .i64 0,.int .i64 0]/\∀j(hj:j<al.length),j<k->(al[j].1.id==id)=false)λi _=>al.length-(intOf i).toNat;case atStart=>exact⟨0,C9 _,rfl,bA (bA (bR w) _) _,AO.made Ak _ _,λj _ h=>I⟩
 obtain⟨k,hk,rfl,hb,T,hno⟩:=hrel;have Hb:=V hb;have U:=V hno;clear hb hno;obtain⟨Bg,Bq,CP,Fe,KW,Le,Lh,DX,EU,JI,Pm,Qq,Qr⟩:=T.J9;by_cases hlt:k<al.length
 .obtain⟨b,o,rfl,hlb,c0,c1,c2,c3,c4,c5⟩:=(hR.mono Hb.1).ar hlt;clear hR;have c:=HV.1 k hlt;obtain⟨Av,cv,hv,-⟩:=c;have c:=HV.1 k hlt;rw[hv]at c3 c;generalize hvl:al[k].1.via.length=vl at*;have UD:=V c;clear c hv hvl;cases he:al[k].1.id==id
  .go_wp2;go_roundw;case rel=>exact⟨k+1,I,BH,bA Hb.1 _,T.alloc _,all_succ (p:=λx=>(x.1.id==id)=false) U.1 hlt he⟩
   exact BJ
  have hf:=aCp al id k hlt U.1 he;have Hf:=V hf;clear hf;go_wp2_with fail;refine(aqp _ _ _ (UD.1.mono<|bA Hb.1 _)<|DN.1 k hlt).mono ?_;rintro e w1⟨A1,KX,rfl,K,s⟩;have Bw:AU w w1:=J (bA Hb.1 _) K;have X7:AO w1 wr.heap.size 31 #[.int .i64 al[k].1.id,.int .i64 al[k].1.fr,.int .i64 al[k].1.dst,.slice Av vl cv,.int .i64 al[k].1.left,.int .i64 al[k].1.right]:=(AO.made rfl _ _).keep K;have hw8:w.heap.size+1<wr.heap.size:=I;have hw7:w.heap.size+1≠wr.heap.size:=I;replace T:=(T.alloc _).keep K;have z:=s.EN (b':=wr.heap.size+1) Ak;have hP:=Own.sl s;have F7:=V z;clear K c0 c1 c2 c3 c4 c5 hlb s z hP;try clear Bg Bq CP Fe KW Le Lh
  try clear DX EU JI Pm Qq Qr
  obtain⟨Bg,Bq,CP,Fe,KW,Le,Lh,DX,EU,JI,Pm,Qq,Qr⟩:=T.J9;obtain⟨Ec,Ee,Fg,rW,X7d,X7e,X7f,dN,dO,aae,aaf,aag,aah⟩:=X7.J9;go_wp2_with fail;have rX:=Hb.1.size;have WG:(Value.slice A1 al[k].1.via.length KX).ownBlock≠some wr.heap.size:=λe=>by have:=(F7.1.lt _ e).1;omega
  have LH:(Value.slice A1 al[k].1.via.length KX).ownBlock≠some (w.heap.size+1):=λe=>by have:=(F7.1.lt _ e).1;omega
  have HP:=Own.sl<|((((((F7.1.far (p:=⟨wr.heap.size,3,none⟩) WG<|.slice A1 al[k].1.via.length KX).far (p:=⟨w.heap.size+1,0,none⟩) LH<|.int .i64 al[k].1.id).far (p:=⟨w.heap.size+1,1,none⟩) LH<|.int .i64 al[k].1.fr).far (p:=⟨w.heap.size+1,2,none⟩) LH<|.int .i64 al[k].1.dst).far (p:=⟨w.heap.size+1,3,none⟩) LH<|.slice A1 al[k].1.via.length KX).far (p:=⟨w.heap.size+1,4,none⟩) LH<|.int .i64 al[k].1.left).far (p:=⟨w.heap.size+1,5,none⟩) LH<|.int .i64 al[k].1.right;refine L6 (g:=w.heap.size+1) (cs:=#[.int .i64 al[k].1.id,.int .i64 al[k].1.fr,.int .i64 al[k].1.dst,.slice A1 al[k].1.via.length KX,.int .i64 al[k].1.left,.int .i64 al[k].1.right]) rfl UU rfl rfl (AO.UQ<|T.far (p:=⟨wr.heap.size,3,none⟩) hw7 _) ⟨.slice A1 al[k].1.via.length KX,Yw,?_,by rw[Hf.1];exact HP⟩;exact ER
 have hf:=aCq al id λj hj=>U.1 j hj I;have Hf:=V hf;clear hf;go_wp2;have Bw:=Hb.1;refine L6 (g:=w.heap.size+1) (cs:=#[.int .i64 0,.int .i64 0,.int .i64 0,.slice none 0 0,.int .i64 0,.int .i64 0]) rfl UU rfl rfl (AO.UQ T) ⟨.slice none 0 0,Yw,?_,by rw[Hf.1];exact Sl.nil _⟩;exact ER
theorem aqs(v:Value)(p:Pl)(id:Int)(w:World)(h:Cj w v p)(z:ZU p):Calls prog 55 #[v,.int .i64 id] w<|rV w<|findAr p.AP id:=by
 obtain⟨vn,_,vf,al,rfl,hpa,-,⟨⟨An,cn,rfl,hn1,hn2,hR⟩,hV⟩,-⟩:=h;unfold maxLen at hn2;unfold ZU at z;rw[hpa]at z⊢;clear hpa;have K:∀k(hk:k<al.length),al[k].1.via.length<=8796093022208:=λk hk=>z _<|H6<|BG hk;have HV:=V hV;clear hV z;have DN:=V K;clear K;go_enter func55,ntmps55;go_wp2_with fail;go_loopw[6](λi wr=>∃k:Nat,k<=al.length/\i=.int .i64 k/\AU w wr/\AO wr w.heap.size 26 #[vn,.slice An al.length cn,vf]/\AO wr (w.heap.size+1) 31 #[.int .i64 0,.int .i64 0,.int .i64 0,.slice none 0 0,.int .i64 0,.int .i64 0]/\∀j(hj:j<al.length),j<k->(al[j].1.id==id)=false)λi _=>al.length-(intOf i).toNat;case atStart=>exact⟨0,C9 _,rfl,bA (bA (bR w) _) _,(AO.made rfl _ _).alloc _,AO.made Ak _ _,λj _ h=>I⟩
 obtain⟨k,hk,rfl,hb,X2,M,hno⟩:=hrel;have U:=V hb;have T:=V hno;clear hb hno;obtain⟨BX,Bf,Bh,CS,-⟩:=X2.BF;obtain⟨Bg,Bq,CP,Fe,KW,Le,Lh,DX,EU,JI,Pm,Qq,Qr⟩:=M.J9;by_cases hlt:k<al.length
 .obtain⟨b,o,rfl,hlb,c0,c1,c2,c3,c4,c5⟩:=(hR.mono U.1).ar hlt;clear hR;have s:=HV.1 k hlt;obtain⟨Av,cv,hv,-⟩:=s;have s:=HV.1 k hlt;rw[hv]at c3 s;have UD:=V s;clear s hv;cases he:al[k].1.id==id
  .go_wp2;go_roundw;case rel=>exact⟨k+1,I,BH,U.1,X2,M,all_succ (p:=λx=>(x.1.id==id)=false) T.1 hlt he⟩
   exact BJ
  have hf:=aCp al id k hlt T.1 he;have Hf:=V hf;clear hf;have hsv:=DN.1 k hlt;go_wp2_with
   (at_builtin;refine aiI _ rfl (.tmp 28) (.tmp 30) _ rfl (base:=wr.heap.size+1) LZ LK La rfl (Own.lit _ _ _ _ Ep [] _ 0 _ Ak rfl Ak (DC I) rfl rfl) rfl (UD.1.mono<|bA (bA U.1 _) _) aK aK Ak ?_;intro v1 w1 c hg hat;have C:Below (wr.alloc<|.cells #[.int .i64 al[k].1.id,.int .i64 al[k].1.fr,.int .i64 al[k].1.dst,.slice Av al[k].1.via.length cv,.int .i64 al[k].1.left,.int .i64 al[k].1.right] 31).heap.size (wr.alloc<|.cells #[.int .i64 al[k].1.id,.int .i64 al[k].1.fr,.int .i64 al[k].1.dst,.slice Av al[k].1.via.length cv,.int .i64 al[k].1.left,.int .i64 al[k].1.right] 31) w1:=bG (bA (bR _) _) hg (λg hk=>by have:wr.heap.size+1=g:=Dn hk;simp;omega);simp only[Rj]at c;obtain⟨A1,KX,rfl,-⟩:=Own.sl c;have F7:=V c;have Bw:AU w w1:=J (bA U.1 _) C;have X7:AO w1 wr.heap.size 31 #[.int .i64 al[k].1.id,.int .i64 al[k].1.fr,.int .i64 al[k].1.dst,.slice Av al[k].1.via.length cv,.int .i64 al[k].1.left,.int .i64 al[k].1.right]:=(AO.made rfl _ _).keep C;have hw8:w.heap.size+1<wr.heap.size:=I;have hw7:w.heap.size+1≠wr.heap.size:=I;replace M:=(M.alloc _).keep C;clear C c0 c1 c2 c3 c4 c5 hlb c hg hat;try clear Bg Bq CP Fe KW Le Lh
    try clear DX EU JI Pm Qq Qr
    obtain⟨Bg,Bq,CP,Fe,KW,Le,Lh,DX,EU,JI,Pm,Qq,Qr⟩:=M.J9;obtain⟨Ec,Ee,Fg,rW,X7d,X7e,X7f,dN,dO,aae,aaf,aag,aah⟩:=X7.J9);have rX:=U.1.size;have WG:(Value.slice A1 al[k].1.via.length KX).ownBlock≠some wr.heap.size:=λe=>by have:=(F7.1.lt _ e).1;omega
  have LH:(Value.slice A1 al[k].1.via.length KX).ownBlock≠some (w.heap.size+1):=λe=>by have:=(F7.1.lt _ e).1;omega
  have HP:=Own.sl<|((((((F7.1.far (p:=⟨wr.heap.size,3,none⟩) WG<|.slice A1 al[k].1.via.length KX).far (p:=⟨w.heap.size+1,0,none⟩) LH<|.int .i64 al[k].1.id).far (p:=⟨w.heap.size+1,1,none⟩) LH<|.int .i64 al[k].1.fr).far (p:=⟨w.heap.size+1,2,none⟩) LH<|.int .i64 al[k].1.dst).far (p:=⟨w.heap.size+1,3,none⟩) LH<|.slice A1 al[k].1.via.length KX).far (p:=⟨w.heap.size+1,4,none⟩) LH<|.int .i64 al[k].1.left).far (p:=⟨w.heap.size+1,5,none⟩) LH<|.int .i64 al[k].1.right;refine L6 (g:=w.heap.size+1) (cs:=#[.int .i64 al[k].1.id,.int .i64 al[k].1.fr,.int .i64 al[k].1.dst,.slice A1 al[k].1.via.length KX,.int .i64 al[k].1.left,.int .i64 al[k].1.right]) rfl UU rfl rfl (AO.UQ<|M.far (p:=⟨wr.heap.size,3,none⟩) hw7 _) ⟨.slice A1 al[k].1.via.length KX,Yw,?_,by rw[Hf.1];exact HP⟩;exact ER
 have hf:=aCq al id λj hj=>T.1 j hj I;have Hf:=V hf;clear hf;go_wp2;have Bw:=U.1;refine L6 (g:=w.heap.size+1) (cs:=#[.int .i64 0,.int .i64 0,.int .i64 0,.slice none 0 0,.int .i64 0,.int .i64 0]) rfl UU rfl rfl (AO.UQ M) ⟨.slice none 0 0,Yw,?_,by rw[Hf.1];exact Sl.nil _⟩;exact ER
theorem rV.form{w:World}{r:Option Ar}{e:Ending}{w':World}(h:rV w r e w'):∃A c,e=.returned (.tuple #[.agg #[.int .i64 (r.getD KU).id,.int .i64 (r.getD KU).fr,.int .i64 (r.getD KU).dst,.slice A (r.getD KU).via.length c,.int .i64 (r.getD KU).left,.int .i64 (r.getD KU).right],.bool r.isSome])/\AU w w'/\EL w' (.slice A (r.getD KU).via.length c) (r.getD KU).via:=by obtain⟨v',rfl,hb,j⟩:=h;obtain⟨A,c,rfl,h1,h2,h3⟩:=j;exact⟨A,c,rfl,hb,A,c,rfl,h1,h2,h3⟩
theorem aAp{n:Int}(h:Eb n):-9223372036854775808<=n/\n<=9223372036854775807:=by
 unfold Eb Lit.wf at h;simp only[EC,DI]at h;have h1:IntKind.i64.min=-9223372036854775808:=by decide
 have h2:IntKind.i64.max=9223372036854775807:=by decide
 rw[h1,h2]at h;exact h
theorem aqt{p:Pl}{d:Int}(h0:d≠0)(h1:d≠-9223372036854775808):findAr p.AP (max d<|-d)=FP p d:=by unfold FP mP Et;rw[AX I];congr 1;split<;>omega
def aqu(w:World)(r:Option Ar)(e:Ending)(w':World):Prop:=∃A n c,e=.returned (.tuple #[.agg #[.int .i64 (r.getD KU).id,.int .i64 (r.getD KU).fr,.int .i64 (r.getD KU).dst,.slice A n c,.int .i64 (r.getD KU).left,.int .i64 (r.getD KU).right],.bool r.isSome])/\AU w w'
theorem aiJ(v:Value)(p:Pl)(d:Int)(w:World)(h:Cj w v p)(hs:ZU p)(hd:Eb d):Calls prog 106 #[v,.int .i64 d] w<|aqu w<|FP p d:=by
 have o:=λW(hW:AU w W)=>aqr v p (max d<|-d) W (h.mono hW) hs;obtain⟨_,_,_,al,rfl,hpa,⟨K,M,rfl,-⟩,⟨⟨T,U,rfl,-⟩,-⟩,⟨Af,cf,rfl,-⟩⟩:=h;generalize al.length=na at*;generalize p.nodes.length=nn at*;generalize p.faces.length=nf at*;clear hpa;by_cases h0:d=0
 .subst h0;have s:FP p 0=none:=by unfold FP;rw[AZ<|.inl rfl]
  rw[s];clear o s;go_enter func106,ntmps106;go_upto_region 1 with fail;obtain⟨W,hW⟩:=BR<|(w.alloc<|.cells #[.slice K nn M,.slice T na U,.slice Af nf cf] 26).alloc<|.cells #[.int .i64 0,.int .i64 0,.int .i64 0,.slice none 0 0,.int .i64 0,.int .i64 0] 31;have z:AU w W:=by rw[hW];exact bA (bA (bR w) _) _
  have c:AO W (w.heap.size+1) 31 #[.int .i64 0,.int .i64 0,.int .i64 0,.slice none 0 0,.int .i64 0,.int .i64 0]:=by rw[hW];exact AO.made Ak _ _
  rw[<-hW];clear hW;obtain⟨Bg,Bq,CP,Fe,KW,Le,Lh,DX,EU,JI,Pm,Qq,Qr⟩:=c.J9;go_wp2_with fail;refine L6 (g:=w.heap.size+1) (cs:=#[.int .i64 0,.int .i64 0,.int .i64 0,.slice none 0 0,.int .i64 0,.int .i64 0]) rfl UU rfl rfl (AO.UQ c) ⟨none,0,0,rfl,?_⟩;exact ER
 by_cases h1:d=-9223372036854775808
 .subst h1;have s:FP p (-9223372036854775808)=none:=by unfold FP;rw[AZ<|.inr rfl]
  rw[s];clear o s h0;go_enter func106,ntmps106;go_upto_region 1 with fail;obtain⟨W,hW⟩:=BR<|(w.alloc<|.cells #[.slice K nn M,.slice T na U,.slice Af nf cf] 26).alloc<|.cells #[.int .i64 0,.int .i64 0,.int .i64 0,.slice none 0 0,.int .i64 0,.int .i64 0] 31;have z:AU w W:=by rw[hW];exact bA (bA (bR w) _) _
  have c:AO W (w.heap.size+1) 31 #[.int .i64 0,.int .i64 0,.int .i64 0,.slice none 0 0,.int .i64 0,.int .i64 0]:=by rw[hW];exact AO.made Ak _ _
  rw[<-hW];clear hW;try clear Bg Bq CP Fe KW Le Lh
  try clear DX EU JI Pm Qq Qr
  obtain⟨Bg,Bq,CP,Fe,KW,Le,Lh,DX,EU,JI,Pm,Qq,Qr⟩:=c.J9;go_wp2_with fail;refine L6 (g:=w.heap.size+1) (cs:=#[.int .i64 0,.int .i64 0,.int .i64 0,.slice none 0 0,.int .i64 0,.int .i64 0]) rfl UU rfl rfl (AO.UQ c) ⟨none,0,0,rfl,?_⟩;exact ER
 rw[aqt h0 h1]at o;have hb:=aAp hd;have k1:=DR<|-d;have e0:(d==0)=false:=by simpa using h0
 have e1:(d==-9223372036854775808)=false:=by simpa using h1
 have HA:=V o;clear o h0 h1 hd hb;generalize FP p d=r at*;go_enter func106,ntmps106;go_upto_region 1 with fail;obtain⟨W,hW⟩:=BR<|(w.alloc<|.cells #[.slice K nn M,.slice T na U,.slice Af nf cf] 26).alloc<|.cells #[.int .i64 0,.int .i64 0,.int .i64 0,.slice none 0 0,.int .i64 0,.int .i64 0] 31;have z:AU w W:=by rw[hW];exact bA (bA (bR w) _) _
 have c:AO W (w.heap.size+1) 31 #[.int .i64 0,.int .i64 0,.int .i64 0,.slice none 0 0,.int .i64 0,.int .i64 0]:=by rw[hW];exact AO.made Ak _ _
 have X2:AO W w.heap.size 26 #[.slice K nn M,.slice T na U,.slice Af nf cf]:=by rw[hW];exact(AO.made rfl _ _).alloc _
 rw[<-hW];clear hW;obtain⟨BX,Bf,Bh,CS,-⟩:=X2.BF;go_wp2_with fail;refine(HA.1 _ z).mono ?_;intro e w1 C;obtain⟨A1,c1,rfl,j,-⟩:=C.form;have z:=J z j;replace c:=c.keep j;clear C j X2 BX Bf Bh CS;try clear Bg Bq CP Fe KW Le Lh
 try clear DX EU JI Pm Qq Qr
 obtain⟨Bg,Bq,CP,Fe,KW,Le,Lh,DX,EU,JI,Pm,Qq,Qr⟩:=c.J9;generalize hvl:(r.getD KU).via.length=vl at*;go_wp2_with fail;refine L6 (g:=w.heap.size+1) (cs:=#[.int .i64 (r.getD KU).id,.int .i64 (r.getD KU).fr,.int .i64 (r.getD KU).dst,.slice A1 vl c1,.int .i64 (r.getD KU).left,.int .i64 (r.getD KU).right]) rfl UU rfl rfl (AO.UQ c) ⟨A1,vl,c1,rfl,?_⟩;exact ER
theorem aqv(v:Value)(p:Pl)(d:Int)(w:World)(h:Cj w v p)(s:ZU p)(hd:Eb d):Calls prog 44 #[v,.int .i64 d] w λe w'=>e=.returned (.int .i64<|Ej p d)/\AU w w':=by have z:=V λW(hW:AU w W)=>aiJ v p d W (h.mono hW) s hd;obtain⟨_,_,_,al,rfl,j,⟨C,K,rfl,-⟩,⟨⟨M,T,rfl,-⟩,-⟩,⟨U,cf,rfl,-⟩⟩:=h;unfold Ej;generalize FP p d=r at*;generalize al.length=na at*;generalize p.nodes.length=nn at*;generalize p.faces.length=nf at*;clear j hd s;go_enter func44,ntmps44;go_wp2_with fail;refine(z.1 _<|bA (bR w) _).mono ?_;rintro e w1⟨A1,n1,c1,rfl,c⟩;have o:=V<|J (bA (bR w) _) c;clear c z;cases r with|none=>simp only[lI];go_wp2;go_ret;exact⟨rfl,bA o.1 _⟩|some a=>
  simp only[Xh,I7];by_cases hp:0<d;.go_wp2;go_ret;exact⟨DZ<|by first|rfl|simp[hp],bA o.1 _⟩
  .go_wp2;go_ret;exact⟨DZ<|by first|rfl|simp[hp],bA o.1 _⟩
theorem aqw(p:Pl){d:Int}(h:0<d):Jh p d=((findAr p.AP d).getD KU).fr/\Ej p d=((findAr p.AP d).getD KU).left:=by
 have e:FP p d=findAr p.AP d:=by unfold FP mP Et;rw[AX I,AX I]
 unfold Jh Ej;rw[e];cases findAr p.AP d;.exact⟨rfl,rfl⟩
 exact⟨AZ h,AZ h⟩
theorem aqx(p:Pl){d:Int}(h:d<0)(h1:d≠-9223372036854775808):Jh p d=((findAr p.AP<|-d).getD KU).dst/\Ej p d=((findAr p.AP<|-d).getD KU).right:=by
 have e:FP p d=findAr p.AP (-d):=by unfold FP mP Et;rw[AX I,AZ h]
 unfold Jh Ej;rw[e];cases findAr p.AP<|-d;.exact⟨rfl,rfl⟩
 exact⟨AX I,AX I⟩
theorem aqy(p:Pl){d:Int}(h:d=0\/d=-9223372036854775808):Jh p d=0/\Ej p d=0:=by
 have e:FP p d=none:=by unfold FP mP;rw[AZ h]
 unfold Jh Ej;rw[e];exact⟨rfl,rfl⟩
theorem aEJ(v:Value)(p:Pl)(d:Int)(w:World)(h:Cj w v p)(K:ZU p)(hd:Eb d):Calls prog 99 #[v,.int .i64 d] w λe w'=>e=.returned (.int .i64<|Ej p d)/\AU w w':=by
 have o:=V λid W(hW:AU w W)=>aqs v p id W (h.mono hW) K;obtain⟨_,_,_,al,rfl,z,⟨An,cn,rfl,-⟩,⟨⟨Aa,ca,rfl,-⟩,-⟩,⟨Af,cf,rfl,-⟩⟩:=h;have hb:=aAp hd;generalize al.length=na at*;generalize p.nodes.length=nn at*;generalize p.faces.length=nf at*;clear z hd K;by_cases h1:0<d;.rw[(aqw p h1).2];have s:=V<|o.1 d;clear o hb;generalize findAr p.AP d=r at*;go_enter func99,ntmps99;go_wp2_with fail;refine(s.1 _<|bA (bR w) _).mono ?_;intro e w1 c;obtain⟨M,c1,rfl,j,-⟩:=c.form;have C:=V<|J (bA (bR w) _) j;clear c j s;generalize(r.getD KU).via.length=T at*;go_wp2;go_ret;exact⟨rfl,bA C.1 _⟩
 by_cases h2:d=0\/d=-9223372036854775808
 .rw[(aqy p h2).2];clear o hb;have U:IntKind.i64.wrap 9223372036854775808=-9223372036854775808:=by decide
  rcases h2 with rfl|rfl;all_goals go_enter func99,ntmps99;go_wp2;go_ret;exact⟨rfl,bA (bR w) _⟩
 have U:=DR<|-d;have k2:0< -d:=I;rw[(aqx p I I).2];have s:=V<|o.1<|-d;clear o hb h2;generalize findAr p.AP (-d)=r at*;go_enter func99,ntmps99;go_wp2_with fail;refine(s.1 _<|bA (bR w) _).mono ?_;intro e w1 c;obtain⟨M,c1,rfl,j,-⟩:=c.form;have C:=V<|J (bA (bR w) _) j;clear c j s;generalize(r.getD KU).via.length=T at*;go_wp2;go_ret;exact⟨rfl,bA C.1 _⟩
theorem abv{P:Program}{o:Func}{p u v:Tmp}{c t:TypeId}{R:Ending->World->Prop}{a:Act}{w:World}{g:Nat}{cs:Array Value}(h:o.results=#[.cell p c,.tmp u,.tmp v])(hS:StructOf P c cs.size)(s:a.tmps.getD p undef=.pointer (some ⟨g,0,none⟩))(hd:a.defers=[])(hb:AO w g t cs)(z:R (.returned<|.tuple #[.agg cs,a.tmps.getD u undef,a.tmps.getD v undef]) w):bodyPost P o R .ret a w:=by
 obtain⟨C,h1,h3⟩:=hS;refine bodyPost_ret ?_ hd z;have K:=run_loadVar_row (P:=P) w g t c cs (0,0) (.struct C) hb h1 rfl h3;have j:a.tmps[p]?.getD undef=.pointer (some ⟨g,0,none⟩):=by simpa using s
 simp only[results,h];simp[j,asAddr,Sem.run_bind,Sem.run_pure,Result.andThen,K]
def uw(p:Pl)(d:Int):Bool:=p.AP.any λa=>decide (a.id=d)||decide (a.id=IntKind.i64.wrap (-d))
def aqz(w:World)(b:Bool)(e:Ending)(w':World):Prop:=∃(A:Option Addr)(n c:Nat)(i0 i1 i2 i4 i5:Int)(back:Bool),e=.returned (.tuple #[.agg #[.int .i64 i0,.int .i64 i1,.int .i64 i2,.slice A n c,.int .i64 i4,.int .i64 i5],.bool back,.bool b])/\AU w w'
theorem ar0(v:Value)(p:Pl)(d:Int)(w:World)(h:Cj w v p):Calls prog 251 #[v,.int .i64 d] w<|aqz w<|uw p d:=by
 obtain⟨_,_,_,al,rfl,s,⟨An,cn,rfl,-⟩,⟨⟨Aa,ca,rfl,hn1,hn2,hR⟩,hV⟩,⟨Af,cf,rfl,-⟩⟩:=h;unfold maxLen at hn2;have HR:=V hR;have HV:=V hV;obtain⟨r,z⟩:=BM<|uw p d;rw[z];unfold uw at z;rw[s]at z;have Hr:=V z;generalize p.nodes.length=nn at*;generalize p.faces.length=nf at*;clear s z hR hV;obtain⟨nd,hnd⟩:=BM<|IntKind.i64.wrap<|-d;rw[hnd]at Hr;go_enter func251,ntmps251;go_wp2_with fail;go_loopw[7](λu wr=>∃k:Nat,k<=al.length/\u=.int .i64 k/\AU w wr/\AO wr w.heap.size 26 #[.slice An nn cn,.slice Aa al.length ca,.slice Af nf cf]/\AO wr (w.heap.size+1) 31 #[.int .i64 0,.int .i64 0,.int .i64 0,.slice none 0 0,.int .i64 0,.int .i64 0]/\∀j(hj:j<al.length),j<k->(decide (al[j].1.id=d)||decide (al[j].1.id=nd))=false)λu _=>al.length-(intOf u).toNat;case atStart=>exact⟨0,C9 _,rfl,bA (bA (bR w) _) _,(AO.made rfl _ _).alloc _,AO.made Ak _ _,λj _ h=>I⟩
 obtain⟨k,hk,rfl,hb,X2,C,K⟩:=hrel;have Hb:=V hb;have M:=V K;clear hb K;obtain⟨BX,Bf,Bh,CS,-⟩:=X2.BF;obtain⟨Bg,Bq,CP,Fe,KW,Le,Lh,DX,EU,JI,Pm,Qq,Qr⟩:=C.J9;have Bw:=Hb.1;by_cases hlt:k<al.length;case neg=>have c:=Vf (al.map (·.1)) (λa=>decide (a.id=d)||decide (a.id=nd)) (λj hj=>by rw[D6]at hj;simp only[Ib];exact M.1 j hj I);have Hf:=V<|Hr.1.symm.trans c;clear c;go_wp2_with fail;refine abv (g:=w.heap.size+1) (cs:=#[.int .i64 0,.int .i64 0,.int .i64 0,.slice none 0 0,.int .i64 0,.int .i64 0]) rfl UU rfl rfl (AO.UQ C) ⟨none,0,0,0,0,0,0,0,false,Yw,?_⟩;exact ER
 obtain⟨b,o,rfl,hlb,c0,c1,c2,c3,c4,c5⟩:=(HR.1.mono Hb.1).ar hlt;obtain⟨T,U,hv,-⟩:=HV.1 k hlt;rw[hv]at c3;clear hv;generalize hvl:al[k].1.via.length=vl at*;by_cases e1:al[k].1.id=d;case pos=>
  have c:=UE (al.map (·.1)) (λa=>decide (a.id=d)||decide (a.id=nd)) k (by simpa using hlt) (by simp[e1]);have Hf:=V<|Hr.1.symm.trans c;have e1':(al[k].1.id==d)=true:=by simpa using e1
  clear c e1;go_wp2_with fail;refine abv (g:=w.heap.size+1) (cs:=#[.int .i64 al[k].1.id,.int .i64 al[k].1.fr,.int .i64 al[k].1.dst,.slice T vl U,.int .i64 al[k].1.left,.int .i64 al[k].1.right]) rfl UU rfl rfl (AO.UQ C) ⟨T,vl,U,_,_,_,_,_,_,Yw,?_⟩;exact ER
 have e1':(al[k].1.id==d)=false:=by simpa using e1
 by_cases e2:al[k].1.id=nd;case pos=>
  have c:=UE (al.map (·.1)) (λa=>decide (a.id=d)||decide (a.id=nd)) k (by simpa using hlt) (by simp[e2]);have Hf:=V<|Hr.1.symm.trans c;have e2':(al[k].1.id==nd)=true:=by simpa using e2
  clear c e1 e2;go_wp2_with fail;refine abv (g:=w.heap.size+1) (cs:=#[.int .i64 al[k].1.id,.int .i64 al[k].1.fr,.int .i64 al[k].1.dst,.slice T vl U,.int .i64 al[k].1.left,.int .i64 al[k].1.right]) rfl UU rfl rfl (AO.UQ C) ⟨T,vl,U,_,_,_,_,_,_,Yw,?_⟩;exact ER
 have e2':(al[k].1.id==nd)=false:=by simpa using e2
 have HN:=V (show(decide (al[k].1.id=d)||decide (al[k].1.id=nd))=false by simp[e1,e2]);clear e1 e2;go_wp2;go_roundw;case rel=>exact⟨k+1,I,BH,Hb.1,X2,C,all_succ (p:=λx:Ar×Value=>(decide (x.1.id=d)||decide (x.1.id=nd))=false) M.1 hlt HN.1⟩
 exact BJ
theorem ar1(v:Value)(p:Pl)(d:Int)(w:World)(h:Cj w v p):Calls prog 204 #[v,.int .i64 d] w λe w'=>e=.returned (.bool<|uw p d&&!decide (d=0))/\AU w w':=by
 have s:=V λW(hW:AU w W)=>ar0 v p d W<|h.mono hW;obtain⟨_,_,_,al,rfl,j,⟨K,M,rfl,-⟩,⟨⟨T,U,rfl,-⟩,-⟩,⟨Af,cf,rfl,-⟩⟩:=h;generalize uw p d=r at*;generalize al.length=na at*;generalize p.nodes.length=nn at*;generalize p.faces.length=nf at*;clear j;go_enter func204,ntmps204;go_wp2_with fail;refine(s.1 _<|bA (bR w) _).mono ?_;rintro e w1⟨A1,n1,c1,i0,i1,i2,i4,i5,back,rfl,c⟩;have o:=V<|J (bA (bR w) _) c;clear c s;cases r;.go_wp2;go_ret;exact⟨rfl,bA o.1 _⟩
 by_cases h0:d=0;.subst h0;go_wp2;go_ret;exact⟨rfl,bA o.1 _⟩
 have z:(d !=0)=true:=by simpa using h0
 have C:=V h0;clear h0;go_wp2;go_ret;exact⟨Cm<|by simp[C.1],bA o.1 _⟩
def VU(p:Pl)(d:Int):List Pt:=if 0<d then(pathOf p d).getD []else((pathOf p<|-d).getD []).reverse
theorem ar2{p:Pl}(c:Short p)(id:Int):((pathOf p id).getD []).length<=1048578:=by cases e:pathOf p id with|none=>simp|some l=>exact(agO e c).2
theorem aiK(v:Value)(p:Pl)(d:Int)(w:World)(h:Cj w v p)(hs:Short p)(hd:-9223372036854775808<d/\d<=9223372036854775807):Calls prog 205 #[v,.int .i64 d] w<|Zj w<|VU p d:=by
 have HA:=V λid W(hW:AU w W)=>agA v p id W (h.mono hW) hs;have C:=V<|ar2 hs;obtain⟨_,_,_,al,rfl,hpa,⟨An,cn,rfl,-⟩,⟨⟨Aa,ca,rfl,-⟩,-⟩,⟨Af,cf,rfl,-⟩⟩:=h;unfold VU;generalize al.length=na at*;generalize p.nodes.length=nn at*;generalize p.faces.length=nf at*;clear hpa hs;by_cases h1:0<d;.rw[AZ h1];have K:=V<|HA.1 d;clear HA hd C;unfold ng at K;generalize(pathOf p d).getD []=L at*;generalize(if(pathOf p d).isSome then(0:Int)else 7)=z at*;go_enter func205,ntmps205;go_wp2_with fail;refine(K.1 _<|bA (bR w) _).mono ?_;rintro e w1⟨A1,c1,rfl,c,j⟩;have M:=V<|J (bA (bR w) _) c;have HO:=V<|Own.EN j (b':=w.heap.size) Ak;clear c j K;go_wp2;go_ret;exact⟨A1,c1,rfl,M.1,HO.1⟩
 rw[AX h1];have k1:=DR<|-d;have K:=V<|HA.1<|-d;have hln:=C.1<|-d;clear HA hd C;unfold ng at K;generalize(pathOf p<|-d).getD []=L at*;generalize(if(pathOf p<|-d).isSome then(0:Int)else 7)=z at*;obtain⟨q,hq⟩:=BM L.reverse;rw[hq];have Hq:=V hq;clear hq;go_enter func205,ntmps205;go_wp2_with fail;refine(K.1 _<|bA (bR w) _).mono ?_;rintro e w1⟨A1,c1,rfl,c,j⟩;have M:=V<|J (bA (bR w) _) c;have HO:=V j.sl;clear c j K k1;have k2:=DR<|(L.length:Int)-1;have hR:=HO.1;obtain⟨Aq,cq,he,hq1,hq2,hR⟩:=hR;injection he with e1 e2 e3;subst e1 e3;clear e2;unfold maxLen at hq2;have HR:=V hR;clear hR;go_wp2_with fail;go_loopw[9,10](λs i wr=>∃m:Nat,m<=L.length/\i=.int .i64 ((m:Int)-1)/\Own wr w1.heap.size 50 2 Ep s (L.drop m).reverse/\AU w1 wr)λ_ i _=>(intOf i+1).toNat;case atStart=>exact⟨L.length,Dh _,rfl,by rw[aCf];exact Own.nil _ _ _ _ _,bR w1⟩
 obtain⟨m,hm,rfl,ho,hb⟩:=hrel;have Hb:=V hb;have Ho:=V ho;obtain⟨As,cs,rfl,-⟩:=Own.sl ho;clear hb ho;cases m with|zero=>have ho:=Ho.1;rw[yI,Hq.1]at ho;have EZ:=V ho;rw[yI,Hq.1];clear ho;have k3:¬(0:Int)<=((0:Nat):Int)-1:=I;go_wp2;go_ret;exact⟨As,cs,rfl,J M.1 Hb.1,Own.EN EZ.1 M.1.size⟩|succ m=>
  have T:m<L.length:=I;obtain⟨b,o,hA,hlb,c0,c1⟩:=(HR.1.mono Hb.1).pt T;subst hA;have k3:((m+1:Nat):Int)-1=(m:Int):=I;rw[k3];clear k3;have U:(L.drop m).reverse=(L.drop<|m+1).reverse++[L[m]]:=by rw[<-aa7,Ql T]
  have Ce:=V U;have hdl:(L.drop<|m+1).reverse.length<=1048578:=by rw[Z9,kZ];omega
  have aCk:=V hdl;clear U hdl;have q1:0<=(m:Int):=I;have q2:(m:Int)<L.length:=I;have hz:=Hb.1.size;have hz1:=M.1.size;go_wp2_with(at_builtin;refine FV _ rfl (.tmp 34) (.tmp 39) _ rfl (base:=w1.heap.size) LZ LK La rfl (Own.alloc Ho.1 _) rfl (l2:=[L[m]]) (Sl.lit (n:=1) (AO.made rfl _ _) rfl<|DC I) (by have:=aCk.1;simp only[Gy,Nb];omega) (by have:=aCk.1;simp only[Gy,Nb];omega) D8 ?_;intro v3 w3 ho3 hg3 Kr;have Eo:=V ho3;have B3:=V<|show AU w1 w3 from bG (bA Hb.1 _) hg3<|λg hg=>(Ho.1.lt g hg).1;clear ho3 hg3 Kr);go_roundw;case rel=>exact⟨m,I,BH,by rw[Ce.1];exact Eo.1,B3.1⟩
  case measure=>simp[intOf]
