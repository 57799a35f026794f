import Derived.Test.YtialfdomhoojiaaGreatQJ12
set_option linter.unusedSimpArgs false
set_option linter.unusedVariables false
namespace Go.Proofs.YtialfdomhoojiaaGreat
open Go.RowKit
theorem arE {p q:Pt} {dx dy:Int} (hN:0<8388608*dy+dx) (e:(q.x-p.x)*dy=(q.y-p.y)*dx) :
  (0<=dx->(CP p q=true↔hY p<hY q))/\(dx<0->(CP p q=true↔hY q<hY p)):=by
 have k:(8388608*(q.y-p.y)+(q.x-p.x))*dx=(q.x-p.x)*(8388608*dy+dx):=by grind
 have hd:hY q-hY p=8388608*(q.y-p.y)+(q.x-p.x):=by unfold hY;omega
 rw [<- hd] at k;have z:q.x-p.x=0->dx≠0->q.y-p.y=0:=fun h0 h1=>by
  rw [h0,Jf] at e;rcases XM.1 e.symm with h2 | h2
  · exact h2
  · exact absurd h2 h1
 rw [MN];generalize 8388608*dy+dx=N at *;generalize hu:q.x-p.x=u at *;have s1:0<u->0<u*N:=fun h=>Jg h hN;have s2:u<0->u*N<0:=fun h=>VQ h hN;have s3:u=0->u*N=0:=fun h=>by rw [h,Jf]
 refine ⟨fun h=>?_,fun h=>?_⟩
 ·by_cases h0:dx=0
  ·subst h0;have hu0:u=0:=by
    rcases Ik u 0 with g | g | g
    · have:=s2 g;omega
    · exact g
    · have:=s1 g;omega
   unfold hY at *;omega
  ·have hp:0<dx:=by omega
   have t1:0<hY q-hY p->0<(hY q-hY p)*dx:=fun h=>Jg h hp;have t2:hY q-hY p<0->(hY q-hY p)*dx<0:=fun h=>VQ h hp;have t3:hY q-hY p=0->(hY q-hY p)*dx=0:=fun h=>by rw [h,Jf]
   omega
 ·have t1:0<hY q-hY p->(hY q-hY p)*dx<0:=fun g=>XK g h;have t2:hY q-hY p<0->0<(hY q-hY p)*dx:=fun g=>rW g h;have t3:hY q-hY p=0->(hY q-hY p)*dx=0:=fun h=>by rw [h,Jf]
  omega
theorem ahW {X Y:Pt} (h:CP X Y=true):(if X=Y then (1:Int) else if CP X Y then 2 else 0)=2:=by
 rw [AX (fun e=>by rw [e,iT] at h;cases h),AZ h]
theorem arF {a b s t:Pt} (hab:hY a<hY b) (hst:hY s<hY t) (h1:tw a b s=0) (h2:tw a b t=0) (h3:hY s<hY b) (h4:hY a<hY t):KL a b s t=2:=by
 have hN:0<8388608*(b.y-a.y)+(b.x-a.x):=by unfold hY at hab;omega
 have ln:∀ {p q:Pt},tw a b p=0->tw a b q=0->(q.x-p.x)*(b.y-a.y)=(q.y-p.y)*(b.x-a.x):=by
  intro p q hp hq
  have:tw a b q-tw a b p=(b.x-a.x)*(q.y-p.y)-(b.y-a.y)*(q.x-p.x):=by unfold tw;grind
  rw [hp,hq] at this;rw [KP (q.x-p.x),KP (q.y-p.y)];omega
 have B:∀ {p q:Pt},tw a b p=0->tw a b q=0->_:=fun hp hq=>arE hN (ln hp hq);have ha:=YR a b;have hb:=YS a b;have Bba:=B hb ha;have Bts:=B h2 h1;have Bsa:=B h1 ha;have Btb:=B h2 hb;have Bab:=B ha hb;have Bat:=B ha h2;have Bsb:=B h1 hb;have Bst:=B h1 h2;have Bta:=B h2 ha;have Bbs:=B hb h1;rw [VU];by_cases hx:0<=b.x-a.x
 ·have e1:CP b a=false:=by rw [<- JK,Bba.1 hx];omega
  have e2:CP t s=false:=by rw [<- JK,Bts.1 hx];omega
  have l1:lo a b=a:=by unfold lo;rw [e1];simp
  have l2:hi a b=b:=by unfold hi;rw [e1];simp
  have l3:lo s t=s:=by unfold lo;rw [e2];simp
  have l4:hi s t=t:=by unfold hi;rw [e2];simp
  rw [l1,l2,l3,l4];unfold hi lo;refine ahW ?_
  cases e3:CP s a<;>cases e4:CP t b<;>simp only [Rq,if_true,if_false]
  · exact (Bsb.1 hx).2 h3
  · exact (Bst.1 hx).2 hst
  · exact (Bab.1 hx).2 hab
  · exact (Bat.1 hx).2 h4
 ·have hx:b.x-a.x<0:=by omega
  have e1:CP b a=true:=(Bba.2 hx).2 hab;have e2:CP t s=true:=(Bts.2 hx).2 hst;have l1:lo a b=b:=by unfold lo;rw [e1];simp
  have l2:hi a b=a:=by unfold hi;rw [e1];simp
  have l3:lo s t=t:=by unfold lo;rw [e2];simp
  have l4:hi s t=s:=by unfold hi;rw [e2];simp
  rw [l1,l2,l3,l4];unfold hi lo;refine ahW ?_
  cases e3:CP t b<;>cases e4:CP s a<;>simp only [Rq,if_true,if_false]
  · exact (Bta.2 hx).2 h4
  · exact (Bts.2 hx).2 hst
  · exact (Bba.2 hx).2 hab
  · exact (Bbs.2 hx).2 h3
theorem oH {a b s t:Pt} (hab:a≠b) (h1:tw a b s=0) (h2:tw a b t=0):tw s t a=0/\tw s t b=0:=by
 have hne:=Pt.aBG hab;unfold tw at *;have e1:(b.x-a.x)*(t.y-s.y)-(b.y-a.y)*(t.x-s.x)=0:=by grind
 have e2:(b.x-a.x)*(a.y-s.y)-(b.y-a.y)*(a.x-s.x)=0:=by grind
 have e3:(b.x-a.x)*(b.y-s.y)-(b.y-a.y)*(b.x-s.x)=0:=by grind
 exact ⟨parallel hne e1 e2,parallel hne e1 e3⟩
theorem acw {a b s t u v x y:Pt} (hu:(u=a/\v=b)\/(u=b/\v=a)) (hx:(x=s/\y=t)\/(x=t/\y=s))
  (hab:hY a<hY b) (hst:hY s<hY t) (h1:tw a b s=0) (h2:tw a b t=0) (h3:hY s<hY b) (h4:hY a<hY t):ND u v x y=2:=by
 have hs:=arF hab hst h1 h2 h3 h4;have hne:a≠b:=fun e=>by rw [e] at hab;omega
 obtain ⟨h5,h6⟩:=oH hne h1 h2;have f1:∀ a b c:Pt,tw b a c=-tw a b c:=fun a b c=>by unfold tw;grind
 have hs':KL u v x y=2:=by
  have c1:KL b a s t=2:=by rw [<- nI];exact hs
  have c2:KL a b t s=2:=by rw [Xf,nI,Xf];exact hs
  have c3:KL b a t s=2:=by rw [Xf,nI,Xf];exact c1
  rcases hu with ⟨rfl,rfl⟩ | ⟨rfl,rfl⟩<;>rcases hx with ⟨rfl,rfl⟩ | ⟨rfl,rfl⟩<;>assumption
 have huv:u≠v:=by
  rcases hu with ⟨rfl,rfl⟩ | ⟨rfl,rfl⟩
  · exact hne
  · exact fun e=>hne e.symm
 have z1:tw u v x=0/\tw u v y=0:=by
  rcases hu with ⟨rfl,rfl⟩ | ⟨rfl,rfl⟩<;>rcases hx with ⟨rfl,rfl⟩ | ⟨rfl,rfl⟩<;>first | exact ⟨h1,h2⟩ | exact ⟨h2,h1⟩ | (constructor<;>rw [f1]<;>omega)
 obtain ⟨z2,z3⟩:=oH huv z1.1 z1.2;have q1:BM u v x y=0:=by rw [acg];omega
 have q2:BM u v u x=0:=z1.1;have q3:BM u v u y=0:=z1.2;have q4:BM x y x u=0:=z2;have q5:BM x y x v=0:=z3;unfold ND;rw [AX (fun e=>huv e.1),AZ q1,AZ ⟨q2,q3,q4,q5⟩];exact hs'
theorem arG {a b s t:Pt} (na:C9 a=true) (nb:C9 b=true) (ns:C9 s=true) (nt:C9 t=true) (hab:hY a<hY b) (hst:hY s<hY t)
  (hno:a≠s->a≠t->b≠s->b≠t->MV a b s t) {τ:Int} (h1:2*hY s<τ) (h2:τ<2*hY t) (h3:2*hY a<τ) (h4:τ<2*hY b)
  (h0:dX a b s t τ=0):tw a b s=0/\tw a b t=0:=by
 have l1:=acv a b s t (2*hY s) τ (2*hY t);have l2:=acv a b s t (2*hY a) τ (2*hY b);rw [h0,Jf,ahS,ahT] at l1;rw [h0,Jf,ahU,ahV] at l2;have k1:tw a b s*(2*hY t-τ)+tw a b t*(τ-2*hY s)=0:=by
  have:(16777216*(hY t-hY s))*(tw a b s*(2*hY t-τ)+tw a b t*(τ-2*hY s))=0:=by
   rw [aar,<- sJ,<- sJ];exact l1.symm
  rcases XM.1 this with g | g
  · omega
  · exact g
 have k2:tw s t a*(2*hY b-τ)+tw s t b*(τ-2*hY a)=0:=by
  have:(16777216*(hY b-hY a))*(tw s t a*(2*hY b-τ)+tw s t b*(τ-2*hY a))=0:=by
   rw [aar,<- sJ,<- sJ];rw [Oh,Oh] at l2;omega
  rcases XM.1 this with g | g
  · omega
  · exact g
 have sg:∀ {u v p q:Int},0<p->0<q->u*p+v*q=0->(u<=0/\0<=v/\(u=0↔v=0))\/(0<=u/\v<=0/\(u=0↔v=0)):=by
  intro u v p q hp hq e;have a1:0<u->0<u*p:=fun h=>Jg h hp;have a2:u<0->u*p<0:=fun h=>VQ h hp;have a3:0<v->0<v*q:=fun h=>Jg h hq;have a4:v<0->v*q<0:=fun h=>VQ h hq;have a5:u=0->u*p=0:=fun h=>by rw [h,Jf]
  have a6:v=0->v*q=0:=fun h=>by rw [h,Jf]
  omega
 have g1:=sg (show 0<2*hY t-τ by omega) (show 0<τ-2*hY s by omega) k1;have g2:=sg (show 0<2*hY b-τ by omega) (show 0<τ-2*hY a by omega) k2;have d:=vY a b s t;by_cases hp:tw a b t-tw a b s=0
 · omega
 ·by_cases c1:a=s
  ·subst c1;have:=YR a b
   omega
  by_cases c2:b=t
  ·subst c2;have:=YS a b
   omega
  have NM:=hno c1 (fun e=>by rw [e] at h3;omega) (fun e=>by rw [e] at h4;omega) c2 hp;omega
section
variable {p:Pl} (h:Valid p)
include h
theorem Valid.ahX {a b:Ar} (ha:a∈p.AP) (hb:b∈p.AP) {k m:Nat} (hk:k+1<(AV p a).length) (hm:m+1<(AV p b).length) (hne:¬ (a=b/\k=m)) :
  ¬ (ND ((AV p a).getD k AY) ((AV p a).getD (k+1) AY) ((AV p b).getD m AY) ((AV p b).getD (m+1) AY)=2/\ND ((AV p b).getD m AY) ((AV p b).getD (m+1) AY) ((AV p a).getD k AY) ((AV p a).getD (k+1) AY)=2):=by
 have YU:∀ {c d:Ar} {i j:Nat},c∈p.AP->d∈p.AP->i+1<(AV p c).length->j+1<(AV p d).length->EN [(AV p c).getD i AY,(AV p c).getD (i+1) AY,(AV p d).getD j AY,(AV p d).getD (j+1) AY]=true:=fun hc hd hi hj =>
  Yk (h.Dj hc AB) (h.Dj hc hi) (h.Dj hd AB) (h.Dj hd hj)
 have same:∀ {a:Ar} (ha:a∈p.AP) {i j:Nat},i<j->j+1<(AV p a).length->ND ((AV p a).getD i AY) ((AV p a).getD (i+1) AY) ((AV p a).getD j AY) ((AV p a).getD (j+1) AY)≠2:=by
  intro a ha i j hij hj;have hap:=h.Ri.2.1 a ha i j hij hj;unfold SE DY at hap;simp only at hap;unfold Fq at hap;rw [AZ (YU ha ha AB hj)] at hap;intro e;rw [e] at hap;split at hap<;>exact absurd hap Aw
 have other:∀ {c d:Ar} {i j:Nat},c∈p.AP->d∈p.AP->i+1<(AV p c).length->j+1<(AV p d).length->PG p (DY p c i) (DY p d j)=true ->
   ND ((AV p c).getD i AY) ((AV p c).getD (i+1) AY) ((AV p d).getD j AY) ((AV p d).getD (j+1) AY)≠2:=by
  intro c d i j hc hd hi hj hjo e;unfold PG DY Fq at hjo;simp only at hjo;rw [AZ (YU hc hd hi hj),e,AX Aw] at hjo;exact absurd hjo Aw
 rintro ⟨h1,h2⟩;by_cases hab:a=b
 ·subst hab;rcases PN k m with hkm | hkm | hkm
  · exact same ha hkm hm h1
  · exact hne ⟨rfl,hkm⟩
  · exact same ha hkm hk h2
 ·have hpw:=h.Ri.2.2;obtain ⟨i,hi,rfl⟩:=EF.1 ha;obtain ⟨j,hj,rfl⟩:=EF.1 hb;rw [Fa] at hpw;rcases PN i j with hij | hij | hij
  · exact other ha hb hk hm (hpw i j hi hj hij k hk m hm) h1
  · subst hij;exact hab rfl
  · exact other hb ha hm hk (hpw j i hj hi hij m hm k hk) h2
theorem Valid.arH {c d:Ar} (hc:c∈p.AP) (hd:d∈p.AP) {k m:Nat} (hk:k+1<(AV p c).length) (hm:m+1<(AV p d).length) (hne:¬ (c=d/\k=m)) {a b s t:Pt}
  (hu:((AV p c).getD k AY=a/\(AV p c).getD (k+1) AY=b)\/((AV p c).getD k AY=b/\(AV p c).getD (k+1) AY=a))
  (hx:((AV p d).getD m AY=s/\(AV p d).getD (m+1) AY=t)\/((AV p d).getD m AY=t/\(AV p d).getD (m+1) AY=s))
  {τ:Int} (h1:2*hY s<τ) (h2:τ<2*hY t) (h3:2*hY a<τ) (h4:τ<2*hY b):dX a b s t τ≠0:=by
 intro h0;have n1:=h.Dj hc (k:=k) AB;have n2:=h.Dj hc (k:=k+1) hk;have n3:=h.Dj hd (k:=m) AB;have n4:=h.Dj hd (k:=m+1) hm;have NM:=fun h1 h2 h3 h4=>h.ach hc hd hk hm h1 h2 h3 h4;have one:=h.ahX hc hd hk hm hne;generalize (AV p c).getD k AY=u at *;generalize (AV p c).getD (k+1) AY=v at *;generalize (AV p d).getD m AY=x at *;generalize (AV p d).getD (m+1) AY=y at *;have na:C9 a=true/\C9 b=true:=by rcases hu with ⟨rfl,rfl⟩ | ⟨rfl,rfl⟩<;>exact ⟨KT,KT⟩
 have ns:C9 s=true/\C9 t=true:=by rcases hx with ⟨rfl,rfl⟩ | ⟨rfl,rfl⟩<;>exact ⟨KT,KT⟩
 have hno:a≠s->a≠t->b≠s->b≠t->MV a b s t:=fun g1 g2 g3 g4=>by
  rcases hu with ⟨rfl,rfl⟩ | ⟨rfl,rfl⟩<;>rcases hx with ⟨rfl,rfl⟩ | ⟨rfl,rfl⟩
  · exact NM g1 g2 g3 g4
  · exact (NM g2 g1 g4 g3).comm.flip.comm
  · exact (NM g3 g4 g1 g2).flip
  · exact (NM g4 g3 g2 g1).flip.comm.flip.comm
 have hab:hY a<hY b:=by omega
 have hst:hY s<hY t:=by omega
 obtain ⟨z1,z2⟩:=arG na.1 na.2 ns.1 ns.2 hab hst hno h1 h2 h3 h4 h0;obtain ⟨z3,z4⟩:=oH (fun e=>by rw [e] at hab;omega) z1 z2;exact one ⟨acw hu hx hab hst z1 z2 AB AB,acw hx hu hst hab z3 z4 AB AB⟩
end
theorem acy {α:Type} (l:List α) (f:α->Int) (h:∀ x∈l,0<=f x):0<=(l.map f).sum:=by
 induction l with
 | nil=>exact KH _
 | cons a l ih =>
  rw [FM,IJ];have:=h a Eu
  have:=ih fun x hx=>h x (I7 _ hx)
  omega
theorem ahY {α:Type} (l:List α) (f:α->Int) (h:∀ x∈l,0<=f x) (h1:∃ x∈l,0<f x):0<(l.map f).sum:=by
 induction l with
 | nil=>obtain ⟨x,hx,-⟩:=h1;cases hx
 | cons a l ih =>
  rw [FM,IJ];have h0:=h a Eu;have h2:=acy l f fun x hx=>h x (I7 _ hx);obtain ⟨x,hx,hp⟩:=h1;rcases EW.1 hx with rfl | hx
  · omega
  ·have:=ih (fun x hx=>h x (I7 _ hx)) ⟨x,hx,hp⟩
   omega
theorem acz {α:Type} (l:List α) (f:α->List Int):(l.flatMap f).sum=(l.map fun x=>(f x).sum).sum:=by
 induction l with
 | nil=>rfl
 | cons a l ih=>rw [KI,O7,ih,FM,IJ]
def Lj (L:List (Int×Int)) (t:Int):Int:=(L.map fun v=>if t<v.1 then v.2 else 0).sum
def Xp (L:List (Int×Int)) (t:Int):Int:=(L.map fun v=>if t<=v.1 then v.2 else 0).sum
theorem ad1 {L:List (Int×Int)} (h2:∀ u∈L,u.2≠0->(Lj L u.1=0/\Xp L u.1=1)\/(Lj L u.1=1/\Xp L u.1=0)) :
  ∀ (n:Nat) (t:Int),(∀ v∈L,v.2≠0->v.1<=t+n)->Lj L t=0\/Lj L t=1
 | 0,t,h=>by
  left;refine Wv _ _ fun v hv=>?_;by_cases h0:v.2=0
  · rw [h0];split<;>rfl
  ·have:=h v hv h0
   rw [AX AB]
 | n+1,t,h=>by
  by_cases hx:∃ v∈L,v.2≠0/\v.1=t+1
  ·obtain ⟨u,hu,h0,e⟩:=hx
   have:Lj L t=Xp L u.1:=by
    refine Hu _ _ _ fun v _=>?_;rw [e];by_cases c:t<v.1
    · rw [AZ c,AZ AB]
    · rw [AX c,AX AB]
   have:=h2 u hu h0
   omega
  ·have e:Lj L t=Lj L (t+1):=by
    refine Hu _ _ _ fun v hv=>?_;by_cases h0:v.2=0
    · rw [h0];split<;>split<;>rfl
    ·have:v.1≠t+1:=fun e=>hx ⟨v,hv,h0,e⟩
     by_cases c:t<v.1
     · rw [AZ c,AZ AB]
     · rw [AX c,AX AB]
   rw [e];refine ad1 h2 n (t+1) fun v hv h0=>?_;have:=h v hv h0
   omega
theorem ad2:∀ (L:List (Int×Int)),∃ B:Nat,∀ v∈L,-(B:Int)<v.1/\v.1<B
 | []=>⟨0,fun _ h=>by cases h⟩
 | a::L=>by
  obtain ⟨B,hB⟩:=ad2 L;refine ⟨B+a.1.natAbs+1,fun v hv=>?_⟩;rcases EW.1 hv with rfl | hv
  · omega
  ·have:=hB v hv
   omega
theorem cnt_lt (n m:Nat) (h:m<=n):((List.range n).map fun k:Nat=>if (k:Int)<m then (1:Int) else 0).sum=m:=by
 induction n generalizing m with
 | zero =>
  have:m=0:=by omega
  subst this;rfl
 | succ n ih =>
  rw [Zr,GI,O7];simp only [FM,QD,IJ,YH];by_cases h1:m<=n
  · rw [ih m h1,AX AB];omega
  ·have hm:m=n+1:=by omega
   subst hm;rw [AZ AB];have:=ih n (Dc _)
   rw [Hu _ _ (fun k:Nat=>if (k:Int)<n then (1:Int) else 0) (fun k hk=>by
    have:=Et.1 hk
    rw [AZ AB,AZ AB]),this]
   omega
theorem arI {L:List (Int×Int)} (h2:∀ u∈L,u.2≠0->(Lj L u.1=0/\Xp L u.1=1)\/(Lj L u.1=1/\Xp L u.1=0)) (h3:(L.map (·.2)).sum=0) :
  0<=(L.map fun u=>u.1*u.2).sum/\((∃ u∈L,u.2≠0)->0<(L.map fun u=>u.1*u.2).sum):=by
 obtain ⟨B,hB⟩:=ad2 L;have e:(L.map fun u=>u.1*u.2).sum=((List.range (2*B)).map fun k:Nat=>Lj L ((k:Int)-B)).sum:=by
  have e1:(L.map fun u=>u.1*u.2).sum=(L.map fun u=>u.1*u.2+(B:Int)*u.2).sum:=by
   rw [Sz L (fun u=>u.1*u.2) (fun u=>(B:Int)*u.2),YT L (B:Int) (fun u=>u.2),h3,KQ,iC]
  rw [e1];unfold Lj;rw [ahj];refine Hu _ _ _ fun u hu=>?_;have hb:=hB u hu;have c:=cnt_lt (2*B) (u.1+B).toNat AB;rw [Hu _ _ (fun k:Nat=>u.2*(if (k:Int)<(u.1+B).toNat then (1:Int) else 0)) (fun k hk=>by
   by_cases g:(k:Int)-B<u.1
   · rw [AZ g,AZ AB,Int.mul_one]
   · rw [AX g,AX AB,KQ]),YT,c,show (((u.1+B).toNat:Nat):Int)=u.1+B by omega]
  rw [<- aat,KP]
 have W:∀ t,Lj L t=0\/Lj L t=1:=fun t=>ad1 h2 (B+t.natAbs) t fun v hv _=>by
  have:=hB v hv
  omega
 rw [e];refine ⟨acy _ _ fun k _=>?_,fun ⟨u,hu,h0⟩=>ahY _ _ (fun k _=>?_) ?_⟩
 · have:=W ((k:Int)-B);omega
 · have:=W ((k:Int)-B);omega
 ·have hb:=hB u hu;rcases h2 u hu h0 with ⟨-,g⟩ | ⟨g,-⟩
  ·refine ⟨(u.1-1+B).toNat,Et.2 AB,?_⟩;rw [show (((u.1-1+B).toNat:Nat):Int)-B=u.1-1 by omega]
   have:Lj L (u.1-1)=Xp L u.1:=by
    refine Hu _ _ _ fun v _=>?_;by_cases c:u.1<=v.1
    · rw [AZ c,AZ AB]
    · rw [AX c,AX AB]
   omega
  ·refine ⟨(u.1+B).toNat,Et.2 AB,?_⟩;rw [show (((u.1+B).toNat:Nat):Int)-B=u.1 by omega];omega
theorem ahZ (T:Nat) (u v:Int) (m:Nat):∀ n:Nat,((List.range n).map fun j:Nat=>if 2*(j:Int)+1-2*T<2*((m:Int)-T) then u+v*(2*(j:Int)+1-2*T) else 0).sum=u*(min n m:Nat)+v*((min n m:Nat)*(min n m:Nat)-2*T*(min n m:Nat))
 | 0=>by simp
 | n+1=>by
  rw [Zr,GI,O7,ahZ T u v m n];simp only [FM,QD,IJ,YH,iC];by_cases h:n<m
  ·rw [AZ AB,Nat.min_eq_left AB,Nat.min_eq_left AB];rw [show ((n+1:Nat):Int)=(n:Int)+1 by omega]
   grind
  · rw [AX AB,abR AB,abR AB,iC]
def Jy (T j:Nat):Int:=2*(j:Int)+1-2*T
theorem arJ {T:Nat} {a b:Pt} (ha:-(T:Int)<=hY a/\hY a<=T) (hb:-(T:Int)<=hY b/\hY b<=T) :
  ((List.range (2*T)).map fun j=>Em (Jy T j) a b*xN a b (Jy T j)).sum=(hY b-hY a)*(hY b-hY a)*(a.x+b.x):=by
 have f:∀ c:Pt,-(T:Int)<=hY c/\hY c<=T->((List.range (2*T)).map fun j=>if Jy T j<2*hY c then xN a b (Jy T j) else 0).sum=2*(a.x*hY b-b.x*hY a)*(hY c+T)+(b.x-a.x)*((hY c+T)*(hY c+T)-2*T*(hY c+T)):=by
  intro c hc;have:=ahZ T (2*(a.x*hY b-b.x*hY a)) (b.x-a.x) (hY c+T).toNat (2*T)
  rw [abR AB,show (((hY c+T).toNat:Nat):Int)=hY c+T by omega] at this;rw [<- this];refine Hu _ _ _ fun j _=>?_;have e:xN a b (Jy T j)=2*(a.x*hY b-b.x*hY a)+(b.x-a.x)*Jy T j:=by unfold xN;grind
  rw [e,show hY c+(T:Int)-T=hY c by omega];rfl
 have e:((List.range (2*T)).map fun j=>Em (Jy T j) a b*xN a b (Jy T j)).sum=((List.range (2*T)).map fun j=>(if Jy T j<2*hY b then xN a b (Jy T j) else 0) + -(if Jy T j<2*hY a then xN a b (Jy T j) else 0)).sum:=by
  refine Hu _ _ _ fun j _=>?_;unfold Em;split<;>split<;>omega
 rw [e,Sz,Uo,f b hb,f a ha];generalize hY a=A;generalize hY b=B
 grind
theorem ad3 (p:Pl) (z:Int->Int) (c:Int) (f:Pt->Pt->Int):Dn p z (fun a b=>c*f a b)=c*Dn p z f:=by
 unfold Dn J4;rw [<- YT];refine Hu _ _ _ fun a _=>?_;rw [YT,<- sJ,KP (z a.id),sJ]
theorem arK (p:Pl) (z:Int->Int):Dn p z (fun _ _=>0)=0:=by
 have:=ad3 p z 0 (fun _ _=>0)
 rw [Jf] at this;simpa using this
theorem aj1 {β:Type} (p:Pl) (z:Int->Int) (f:β->Pt->Pt->Int):∀ l:List β,Dn p z (fun a b=>(l.map fun j=>f j a b).sum)=(l.map fun j=>Dn p z (f j)).sum
 | []=>arK p z
 | j::l=>by
  simp only [FM,IJ];rw [jE p z (f j) (fun a b=>(l.map fun j=>f j a b).sum),aj1 p z f l]
def xE (D:Int) (a b:Pt) (τ:Int):Int:=xN a b τ*(D / (hY b-hY a))
theorem aI (D:Int) (a b:Pt) (τ:Int):xE D b a τ=xE D a b τ:=by
 unfold xE;rw [ar8,show hY a-hY b=-(hY b-hY a) by omega,Int.ediv_neg,Int.neg_mul_neg]
theorem y9 {D:Int} (hD:0<D) {a b s t:Pt} {τ:Int} (hab:hY a<hY b) (hst:hY s<hY t) (d1:hY b-hY a∣D) (d2:hY t-hY s∣D) :
  (xE D s t τ<xE D a b τ↔0<dX a b s t τ)/\(xE D s t τ=xE D a b τ↔dX a b s t τ=0):=by
 obtain ⟨q,hq⟩:=d1;obtain ⟨r,hr⟩:=d2;unfold xE;have e1:D / (hY b-hY a)=q:=by rw [hq];exact sK _ AB
 have e2:D / (hY t-hY s)=r:=by rw [hr];exact sK _ AB
 rw [e1,e2];unfold dX;generalize xN a b τ=X at *;generalize xN s t τ=Y at *;have hn:0<hY b-hY a:=by omega
 have hm:0<hY t-hY s:=by omega
 generalize hY b-hY a=n at *;generalize hY t-hY s=m at *;have k:(X*q-Y*r)*(n*m)=D*(X*m-Y*n):=by
  have h1:(X*q-Y*r)*(n*m)=(n*q)*(X*m)-(m*r)*(Y*n):=by grind
  rw [h1,<- hq,<- hr,gy]
 have hnm:=Jg hn hm;generalize n*m=w at *;generalize X*m-Y*n=x at *;have a1:0<X*q-Y*r->0<(X*q-Y*r)*w:=fun h=>Jg h hnm;have a2:X*q-Y*r<0->(X*q-Y*r)*w<0:=fun h=>VQ h hnm;have a3:X*q-Y*r=0->(X*q-Y*r)*w=0:=fun h=>by rw [h,Jf]
 have b1:0<x->0<D*x:=fun h=>Jg hD h;have b2:x<0->D*x<0:=fun h=>XK hD h;have b3:x=0->D*x=0:=fun h=>by rw [h,KQ]
 rw [k] at a1 a2 a3;generalize D*x=Dx at *;generalize X*q=g1 at *;generalize Y*r=g2 at *;constructor<;>constructor<;>intro<;>omega
theorem ad4:∀ l:List Int,(∀ x∈l,x≠0)->∃ D,0<D/\∀ x∈l,x∣D
 | [],_=>⟨1,AB,fun _ h=>by cases h⟩
 | a::l,h=>by
  obtain ⟨D,h1,h2⟩:=ad4 l fun x hx=>h x (I7 _ hx);have ha:=h a Eu;refine ⟨(a.natAbs:Int)*D,Jg AB h1,fun x hx=>?_⟩;rcases EW.1 hx with rfl | hx
  · exact Int.dvd_trans (Int.dvd_natAbs_self) (Int.dvd_mul_right _ _)
  · exact Int.dvd_trans (h2 x hx) (Int.dvd_mul_left _ _)
def NQ (p:Pl) (z:Int->Int) (D τ:Int):List (Int×Int):=p.AP.flatMap fun a=>(List.range ((AV p a).length-1)).map fun k =>
 (xE D ((AV p a).getD k AY) ((AV p a).getD (k+1) AY) τ,z a.id*Em τ ((AV p a).getD k AY) ((AV p a).getD (k+1) AY))
theorem oI (p:Pl) (z:Int->Int) (D τ:Int) (G:Int->Int->Int) (hG:∀ x c s,G x (c*s)=c*G x s) :
  ((NQ p z D τ).map fun u=>G u.1 u.2).sum=Dn p z (fun a b=>G (xE D a b τ) (Em τ a b)):=by
 unfold NQ Dn J4;rw [aAL,acz];refine Hu _ _ _ fun a _=>?_;rw [IV,<- YT];refine Hu _ _ _ fun k _=>?_;exact hG _ _ _
section
variable {p:Pl} (h:Valid p)
include h
theorem Valid.yA {z:Int->Int} (hz:Fz p z) {a:Ar} (ha:a∈p.AP) {m:Nat} (hm:m+1<(AV p a).length) :
  LM p z ((AV p a).getD m AY) ((AV p a).getD (m+1) AY)=Hz p z (-a.id)/\LM p z ((AV p a).getD (m+1) AY) ((AV p a).getD m AY)=Hz p z a.id:=by
 have hl:=Ey p a;have hid:=(h.Gx ha).1;have s0:=h.acr hz ha hm;have s1:=h.aB6 hz ha m hm;have s2:=h.aB6 hz ha a.via.length AB;have hp:=h.Xo hz ha;have h2:(AV p a).getD (a.via.length+1) AY=nodeAt p a.dst:=by
  have:=Wx p a
  rwa [hl,show a.via.length+2-1=a.via.length+1 by omega] at this
 have hn:Hz p z (-a.id)=Ot p z ((AV p a).getD (a.via.length+1) AY) ((AV p a).getD a.via.length AY):=by
  unfold Hz;rw [h.wJ ha,h.bF ha,h2]
 have j2:Ot p z ((AV p a).getD (m+1) AY) ((AV p a).getD m AY)-LM p z ((AV p a).getD (m+1) AY) ((AV p a).getD m AY)=-z a.id:=by
  by_cases h0:m+1=(AV p a).length-1
  ·obtain ⟨n,hn,e1,e2⟩:=h.sound.Yj ha;have:=h.oG hz hn (d:=-a.id) (Rl.2 ⟨a,ha,.inr ⟨rfl,e1.symm⟩⟩)
   rw [h.bF ha,show a.via.length=m by omega] at this;rw [h0,Wx,e2,this];unfold zD;rw [AX AB,Oj]
  · exact h.aht z ha AB
 omega
theorem Valid.arL {z:Int->Int} {a:Ar} (ha:a∈p.AP) {m:Nat} (hm:m+1<(AV p a).length) {f:Pt->Pt->Int}
  (h0:∀ c∈p.AP,z c.id≠0->∀ k,k+1<(AV p c).length->¬ (c=a/\k=m)->f ((AV p c).getD k AY) ((AV p c).getD (k+1) AY)=0) :
  Dn p z f=z a.id*f ((AV p a).getD m AY) ((AV p a).getD (m+1) AY):=by
 unfold Dn J4;have:=xg p.AP (·.id) h.sound.AP (fun _=>z a.id*f ((AV p a).getD m AY) ((AV p a).getD (m+1) AY)) a.id ⟨a,ha,rfl⟩
 rw [<- this];refine Hu _ _ _ fun c hc=>?_;by_cases hz0:z c.id=0
 ·rw [hz0,Jf];by_cases e:a.id=c.id
  · rw [AZ e,e,hz0,Jf]
  · rw [AX e]
 by_cases e:a.id=c.id
 ·have:=h.ai7 ha hc e
  subst this;rw [AZ rfl,xZ _ m (fun k=>f ((AV p a).getD k AY) ((AV p a).getD (k+1) AY)) (fun k hk hne=>h0 a ha hz0 k AB (fun e=>hne e.2)),AZ AB]
 · rw [AX e,Wv _ _ (fun k hk=>h0 c hc hz0 k aAU (fun e2=>e (by rw [e2.1]))),KQ]
def TV (p:Pl) (z:Int->Int) (τ:Int):Prop:=∀ a∈p.AP,z a.id≠0->∀ k,k<(AV p a).length->2*hY ((AV p a).getD k AY)≠τ
omit h in
theorem TV.odd (z:Int->Int) {τ:Int} (hτ:τ % 2=1):TV p z τ:=fun a _ _ k _=>by omega
omit h in
theorem aBB {z:Int->Int} {f g:Pt->Pt->Int} (h:∀ a∈p.AP,z a.id≠0->∀ k,k+1<(AV p a).length->f ((AV p a).getD k AY) ((AV p a).getD (k+1) AY)=g ((AV p a).getD k AY) ((AV p a).getD (k+1) AY)):Dn p z f=Dn p z g:=by
 unfold Dn J4;refine Hu _ _ _ fun a ha=>?_;by_cases h0:z a.id=0
 · rw [h0,Jf,Jf]
 · rw [Hu _ _ (fun k=>g ((AV p a).getD k AY) ((AV p a).getD (k+1) AY)) (fun k hk=>h a ha h0 k aAU)]
theorem Valid.beyond {z:Int->Int} (hz:Fz p z) {D:Int} (hD:0<D) (hd:∀ a∈p.AP,∀ k,k+1<(AV p a).length->hY ((AV p a).getD (k+1) AY)-hY ((AV p a).getD k AY)∣D)
  {τ:Int} (hτ:TV p z τ) {c:Ar} (hc:c∈p.AP) {m:Nat} (hm:m+1<(AV p c).length) {s t:Pt}
  (he:(s=(AV p c).getD m AY/\t=(AV p c).getD (m+1) AY)\/(t=(AV p c).getD m AY/\s=(AV p c).getD (m+1) AY)) (h1:2*hY s<τ) (h2:τ<2*hY t) :
  Dn p z (fun a b=>if xE D s t τ<xE D a b τ then Em τ a b else 0)=LM p z s t:=by
 have ht:=h.oD hz (fun v=>-wR s t τ v);have e:Dn p z (fun a b=>if xE D s t τ<xE D a b τ then Em τ a b else 0)=Dn p z (fun a b=>Pe s t a b+(-wR s t τ b - -wR s t τ a)):=by
  refine aBB fun a ha hza k hk=>?_;have na:=h.Dj ha (k:=k) AB;have nb:=h.Dj ha (k:=k+1) hk;have n1:=h.Dj hc (k:=m) AB;have n2:=h.Dj hc (k:=m+1) hm;have hne:=(h.distinct ha hk).1;have NM:=fun h1 h2 h3 h4=>h.ach ha hc hk hm h1 h2 h3 h4;have da:=hd a ha k hk;have fx:=hτ a ha hza k AB;have fy:=hτ a ha hza (k+1) hk;have dc:=hd c hc m hm;generalize (AV p a).getD k AY=x at *;generalize (AV p a).getD (k+1) AY=y at *;generalize (AV p c).getD m AY=e at *;generalize (AV p c).getD (m+1) AY=f at *;have ns:C9 s=true:=by rcases he with ⟨rfl,-⟩ | ⟨-,rfl⟩<;>assumption
  have nt:C9 t=true:=by rcases he with ⟨-,rfl⟩ | ⟨rfl,-⟩<;>assumption
  have dst:hY t-hY s∣D:=by
   rcases he with ⟨rfl,rfl⟩ | ⟨rfl,rfl⟩
   · exact dc
   · rw [show hY t-hY s=-(hY s-hY t) by omega];exact sN.2 dc
  have xu:x≠s->x≠t->y≠s->y≠t->MV x y s t:=fun h1 h2 h3 h4=>by
   rcases he with ⟨rfl,rfl⟩ | ⟨rfl,rfl⟩
   · exact NM h1 h2 h3 h4
   · exact (NM h2 h1 h4 h3).comm.flip.comm
  have hst:hY s<hY t:=by omega
  have up:∀ {a b:Pt},2*hY a≠τ->2*hY b≠τ->C9 a=true->C9 b=true->hY a<hY b->hY b-hY a∣D->(a≠s->a≠t->b≠s->b≠t->MV a b s t) ->
    (if xE D s t τ<xE D a b τ then Em τ a b else 0)=Pe s t a b+(-wR s t τ b - -wR s t τ a):=by
   intro a b fa fb na nb hab da NM;have e:=arD na nb ns nt hab hst NM fa fb h1 h2;have k:=(y9 (τ:=τ) hD hab hst da dst).1;have e2:Pe s t a b+(-wR s t τ b - -wR s t τ a)=Pe s t a b+(wR s t τ a-wR s t τ b):=by omega
   rw [e2,<- e];unfold Em;by_cases g:0<dX a b s t τ
   ·rw [AZ (k.2 g)];by_cases g1:2*hY a<τ<;>by_cases g2:τ<2*hY b
    · rw [AZ g2,AX AB,AZ ⟨g1,g2,g⟩];rfl
    · rw [AX g2,AX AB,AX (fun e=>g2 e.2.1)];rfl
    · rw [AZ g2,AZ AB,AX (fun e=>g1 e.1)];rfl
    · omega
   · rw [AX (fun e=>g (k.1 e)),AX (fun e=>g e.2.2)]
  rcases Ik (hY x) (hY y) with c1 | c1 | c1
  · exact up fx fy na nb c1 da xu
  · exact absurd (MS na nb c1) hne
  ·have:=up fy fx nb na c1 (by rw [show hY x-hY y=-(hY y-hY x) by omega];exact sN.2 da) (fun h1 h2 h3 h4=>(xu h3 h4 h1 h2).flip)
   rw [aI D x y τ,ahp s t x y] at this;have e3:Em τ y x=-Em τ x y:=by unfold Em;omega
   rw [e3] at this;split at this<;>split<;>first | omega | contradiction
 rw [e,jE p z (Pe s t) (fun a b=>-wR s t τ b - -wR s t τ a),ht,iC];rfl
end
theorem aBC {τ:Int} {x y:Pt} (hx:2*hY x≠τ) (hy:2*hY y≠τ) (h0:Em τ x y≠0):(2*hY x<τ/\τ<2*hY y/\Em τ x y=1)\/(2*hY y<τ/\τ<2*hY x/\Em τ x y=-1):=by
 unfold Em at *;by_cases c1:τ<2*hY y<;>by_cases c2:τ<2*hY x
 · exact absurd (by rw [AZ c1,AZ c2];rfl) h0
 · exact .inl ⟨AB,c1,by rw [AZ c1,AX c2];rfl⟩
 · exact .inr ⟨AB,c2,by rw [AX c1,AZ c2];rfl⟩
 · exact absurd (by rw [AX c1,AX c2];rfl) h0
section
variable {p:Pl} (h:Valid p)
include h
theorem Valid.arM {D:Int} (hD:0<D) (hd:∀ a∈p.AP,∀ k,k+1<(AV p a).length->hY ((AV p a).getD (k+1) AY)-hY ((AV p a).getD k AY)∣D)
  {τ:Int} {z:Int->Int} (hτ:TV p z τ) {c d:Ar} (hc:c∈p.AP) (hzc:z c.id≠0) (hd':d∈p.AP) (hzd:z d.id≠0) {k m:Nat} (hk:k+1<(AV p c).length) (hm:m+1<(AV p d).length) (hne:¬ (c=d/\k=m))
  (h1:Em τ ((AV p c).getD k AY) ((AV p c).getD (k+1) AY)≠0) (h2:Em τ ((AV p d).getD m AY) ((AV p d).getD (m+1) AY)≠0) :
  xE D ((AV p d).getD m AY) ((AV p d).getD (m+1) AY) τ≠xE D ((AV p c).getD k AY) ((AV p c).getD (k+1) AY) τ:=by
 have dc:=hd c hc k hk;have dd:=hd d hd' m hm;have N:=fun a b s t=>h.arH (a:=a) (b:=b) (s:=s) (t:=t) hc hd' hk hm hne;have s1:=aBC (hτ c hc hzc k AB) (hτ c hc hzc (k+1) hk) h1;have s2:=aBC (hτ d hd' hzd m AB) (hτ d hd' hzd (m+1) hm) h2;generalize (AV p c).getD k AY=u at *;generalize (AV p c).getD (k+1) AY=v at *;generalize (AV p d).getD m AY=x at *;generalize (AV p d).getD (m+1) AY=y at *;have dc':hY u-hY v∣D:=by rw [show hY u-hY v=-(hY v-hY u) by omega];exact sN.2 dc
 have dd':hY x-hY y∣D:=by rw [show hY x-hY y=-(hY y-hY x) by omega];exact sN.2 dd
 intro e;rcases s1 with ⟨a1,a2,-⟩ | ⟨a1,a2,-⟩<;>rcases s2 with ⟨b1,b2,-⟩ | ⟨b1,b2,-⟩
 · exact N u v x y (.inl ⟨rfl,rfl⟩) (.inl ⟨rfl,rfl⟩) b1 b2 a1 a2 ((y9 hD AB AB dc dd).2.1 e)
 · exact N u v y x (.inl ⟨rfl,rfl⟩) (.inr ⟨rfl,rfl⟩) b1 b2 a1 a2 ((y9 hD AB AB dc dd').2.1 (by rw [aI];exact e))
 · exact N v u x y (.inr ⟨rfl,rfl⟩) (.inl ⟨rfl,rfl⟩) b1 b2 a1 a2 ((y9 hD AB AB dc' dd).2.1 (by rw [aI D u v];exact e))
 · exact N v u y x (.inr ⟨rfl,rfl⟩) (.inr ⟨rfl,rfl⟩) b1 b2 a1 a2 ((y9 hD AB AB dc' dd').2.1 (by rw [aI,aI D u v];exact e))
theorem Valid.ad5 {z:Int->Int} (hz:Fz p z) {D:Int} (hD:0<D) (hd:∀ a∈p.AP,∀ k,k+1<(AV p a).length->hY ((AV p a).getD (k+1) AY)-hY ((AV p a).getD k AY)∣D) {τ:Int} (hτ:TV p z τ)
  {a:Ar} (ha:a∈p.AP) {k:Nat} (hk:k+1<(AV p a).length) (hs:(2*hY ((AV p a).getD k AY)<τ/\τ<2*hY ((AV p a).getD (k+1) AY))\/(2*hY ((AV p a).getD (k+1) AY)<τ/\τ<2*hY ((AV p a).getD k AY))) :
  Lj (NQ p z D τ) (xE D ((AV p a).getD k AY) ((AV p a).getD (k+1) AY) τ)=(if hY ((AV p a).getD k AY)<hY ((AV p a).getD (k+1) AY) then Hz p z (-a.id) else Hz p z a.id) /\
  (z a.id≠0->Xp (NQ p z D τ) (xE D ((AV p a).getD k AY) ((AV p a).getD (k+1) AY) τ)=(if hY ((AV p a).getD k AY)<hY ((AV p a).getD (k+1) AY) then Hz p z a.id else Hz p z (-a.id))):=by
 have hp:=h.Xo hz ha;obtain ⟨r1,r2⟩:=h.yA hz ha hk;have own:=fun (hz0:z a.id≠0) (hs0:Em τ ((AV p a).getD k AY) ((AV p a).getD (k+1) AY)≠0)=>h.arL (z:=z) ha hk (f:=fun x y=>if xE D ((AV p a).getD k AY) ((AV p a).getD (k+1) AY) τ=xE D x y τ then Em τ x y else 0) (fun c hc hzc m hm hne=>by
  by_cases g:Em τ ((AV p c).getD m AY) ((AV p c).getD (m+1) AY)=0
  · rw [g];split<;>rfl
  · exact AX (h.arM hD hd hτ hc hzc ha hz0 hm hk hne g hs0))
 rw [AZ rfl] at own;have by1:=h.beyond hz hD hd hτ ha hk (s:=(AV p a).getD k AY) (t:=(AV p a).getD (k+1) AY) (.inl ⟨rfl,rfl⟩);have aCc:=h.beyond hz hD hd hτ ha hk (t:=(AV p a).getD k AY) (s:=(AV p a).getD (k+1) AY) (.inr ⟨rfl,rfl⟩);rw [aI D ((AV p a).getD k AY)] at aCc;rw [r1] at by1;rw [r2] at aCc;have sg:Em τ ((AV p a).getD k AY) ((AV p a).getD (k+1) AY)=if hY ((AV p a).getD k AY)<hY ((AV p a).getD (k+1) AY) then 1 else -1:=by
  unfold Em;rcases hs with ⟨g1,g2⟩ | ⟨g1,g2⟩
  · rw [AZ g2,AX AB,AZ AB];rfl
  · rw [AX AB,AZ g2,AX AB];rfl
 generalize xE D ((AV p a).getD k AY) ((AV p a).getD (k+1) AY) τ=X at *;have bS:Lj (NQ p z D τ) X=Dn p z (fun a b=>if X<xE D a b τ then Em τ a b else 0) :=
  oI p z D τ (fun x s=>if X<x then s else 0) (fun x c s=>by split<;>simp)
 have bE:Xp (NQ p z D τ) X=Dn p z (fun a b=>if X<xE D a b τ then Em τ a b else 0)+Dn p z (fun a b=>if X=xE D a b τ then Em τ a b else 0):=by
  rw [<- jE];have:=oI p z D τ (fun x s=>if X<=x then s else 0) (fun x c s=>by split<;>simp)
  refine this.trans (xk fun c _ m _=>?_);rcases Ik X (xE D ((AV p c).getD m AY) ((AV p c).getD (m+1) AY) τ) with g | g | g
  · rw [AZ AB,AZ g,AX AB];omega
  · rw [AZ AB,AX AB,AZ g];omega
  · rw [AX AB,AX AB,AX AB];rfl
 rw [bS];have own':=fun hz0=>own hz0 (by rw [sg];split<;>omega);rcases hs with ⟨g1,g2⟩ | ⟨g1,g2⟩
 ·rw [AZ AB] at sg ⊢;rw [AZ AB];refine ⟨by1 g1 g2,fun hz0=>?_⟩;rw [bE,own' hz0,by1 g1 g2,sg];omega
 ·rw [AX AB] at sg ⊢;rw [AX AB];refine ⟨aCc g1 g2,fun hz0=>?_⟩;rw [bE,own' hz0,aCc g1 g2,sg];omega
theorem Valid.arN {z:Int->Int} (hz:Fz p z) (D τ:Int):((NQ p z D τ).map (·.2)).sum=0:=by
 rw [oI p z D τ (fun _ s=>s) (fun _ _ _=>rfl)];exact h.oD hz (fun v=>if τ<2*hY v then 1 else 0)
theorem Valid.aj2 {z:Int->Int} (hz:Fz p z) (hw:∀ a∈p.AP,z a.id≠0->(Hz p z (-a.id)=0/\Hz p z a.id=1)\/(Hz p z (-a.id)=1/\Hz p z a.id=0))
  {D:Int} (hD:0<D) (hd:∀ a∈p.AP,∀ k,k+1<(AV p a).length->hY ((AV p a).getD (k+1) AY)-hY ((AV p a).getD k AY)∣D) {τ:Int} (hτ:TV p z τ) :
  ∀ u∈NQ p z D τ,u.2≠0->(Lj (NQ p z D τ) u.1=0/\Xp (NQ p z D τ) u.1=1)\/(Lj (NQ p z D τ) u.1=1/\Xp (NQ p z D τ) u.1=0):=by
 intro u hu hu0;obtain ⟨a,ha,hu⟩:=Gf.1 hu;obtain ⟨k,hk,rfl⟩:=ED.1 hu;have hk:=Et.1 hk;have hk:k+1<(AV p a).length:=by omega
 simp only at hu0 ⊢;have hz0:z a.id≠0:=fun e=>hu0 (by rw [e,Jf]);have hs0:Em τ ((AV p a).getD k AY) ((AV p a).getD (k+1) AY)≠0:=fun e=>hu0 (by rw [e,KQ]);have hW:=hw a ha hz0;have hsp:=aBC (hτ a ha hz0 k AB) (hτ a ha hz0 (k+1) hk) hs0;obtain ⟨b1,b2⟩:=h.ad5 hz hD hd hτ ha hk (by
  rcases hsp with ⟨g1,g2,-⟩ | ⟨g1,g2,-⟩
  · exact .inl ⟨g1,g2⟩
  · exact .inr ⟨g1,g2⟩)
 rw [b1,b2 hz0];split<;>omega
theorem Valid.aqY {z:Int->Int} (hz:Fz p z) (hw:∀ a∈p.AP,z a.id≠0->(Hz p z (-a.id)=0/\Hz p z a.id=1)\/(Hz p z (-a.id)=1/\Hz p z a.id=0))
  {D:Int} (hD:0<D) (hd:∀ a∈p.AP,∀ k,k+1<(AV p a).length->hY ((AV p a).getD (k+1) AY)-hY ((AV p a).getD k AY)∣D) {τ:Int} (hτ:τ % 2=1) :
  0<=Dn p z (fun a b=>xE D a b τ*Em τ a b)/\((∃ a∈p.AP,∃ k,k+1<(AV p a).length/\z a.id≠0/\Em τ ((AV p a).getD k AY) ((AV p a).getD (k+1) AY)≠0)->0<Dn p z (fun a b=>xE D a b τ*Em τ a b)):=by
 have e0:=oI p z D τ (fun x s=>x*s) (fun x c s=>by grind);have:=arI (h.aj2 hz hw hD hd (TV.odd z hτ)) (h.arN hz D τ)
 rw [e0] at this;refine ⟨this.1,fun ⟨a,ha,k,hk,h4,h5⟩=>this.2 ⟨(xE D ((AV p a).getD k AY) ((AV p a).getD (k+1) AY) τ,z a.id*Em τ ((AV p a).getD k AY) ((AV p a).getD (k+1) AY)),?_,fun e=>?_⟩⟩
 · exact Gf.2 ⟨a,ha,ED.2 ⟨k,Et.2 AB,rfl⟩⟩
 ·rcases XM.1 e with e | e
  · exact h4 e
  · exact h5 e
theorem Valid.aqZ {z:Int->Int} (hz:Fz p z) {T:Nat} (hT:∀ q,C9 q=true->-(T:Int)<=hY q/\hY q<=T)
  {D:Int} (hd:∀ a∈p.AP,∀ k,k+1<(AV p a).length->hY ((AV p a).getD (k+1) AY)-hY ((AV p a).getD k AY)∣D) :
  D*(8388608*Dn p z Oq)=((List.range (2*T)).map fun j=>Dn p z (fun a b=>xE D a b (Jy T j)*Em (Jy T j) a b)).sum:=by
 rw [<- aj1 p z (fun j a b=>xE D a b (Jy T j)*Em (Jy T j) a b),<- ad3,<- ad3];have t:=h.oD hz (fun v=>D*(v.x*hY v));have e:Dn p z (fun a b=>((List.range (2*T)).map fun j=>xE D a b (Jy T j)*Em (Jy T j) a b).sum)=Dn p z (fun a b=>D*(8388608*Oq a b)+(D*(b.x*hY b)-D*(a.x*hY a))):=by
  refine xk fun a ha k hk=>?_;have na:=h.Dj ha (k:=k) AB;have nb:=h.Dj ha (k:=k+1) hk;have hne:=(h.distinct ha hk).1;have da:=hd a ha k hk;generalize (AV p a).getD k AY=x at *;generalize (AV p a).getD (k+1) AY=y at *;have hn:hY y-hY x≠0:=fun e=>hne (MS na nb AB);have es:=arJ (hT x na) (hT y nb);obtain ⟨q,hq⟩:=da;have eq:D / (hY y-hY x)=q:=by rw [hq];exact sK _ hn
  unfold xE;rw [eq,Hu _ _ (fun j=>q*(Em (Jy T j) x y*xN x y (Jy T j))) (fun j _=>by grind),YT,es];have hc:8388608*Oq x y=x.x*hY y-y.x*hY x:=by unfold Oq hY;grind
  rw [hc,hq];generalize hY x=A;generalize hY y=B
  grind
 rw [e,jE p z (fun a b=>D*(8388608*Oq a b)) (fun a b=>D*(b.x*hY b)-D*(a.x*hY a)),t,iC]
theorem Valid.ad6 {z:Int->Int} (hz:Fz p z) (hw:∀ a∈p.AP,z a.id≠0->(Hz p z (-a.id)=0/\Hz p z a.id=1)\/(Hz p z (-a.id)=1/\Hz p z a.id=0)) :
  0<=Dn p z Oq/\((∃ a∈p.AP,z a.id≠0)->0<Dn p z Oq):=by
 obtain ⟨T,hT⟩:∃ T:Nat,∀ q,C9 q=true->-(T:Int)<=hY q/\hY q<=T:=⟨17592188141568,fun q hq=>by
  rw [Qr] at hq;unfold hY;omega⟩
 have hsep:∀ a∈p.AP,∀ k,k+1<(AV p a).length->hY ((AV p a).getD (k+1) AY)-hY ((AV p a).getD k AY)≠0:=fun a ha k hk e =>
  (h.distinct ha hk).1 (MS (h.Dj ha AB) (h.Dj ha hk) AB)
 obtain ⟨D,hD,hd⟩:∃ D:Int,0<D/\∀ a∈p.AP,∀ k,k+1<(AV p a).length->hY ((AV p a).getD (k+1) AY)-hY ((AV p a).getD k AY)∣D:=by
  obtain ⟨D,h1,h2⟩:=ad4 (p.AP.flatMap fun a=>(List.range ((AV p a).length-1)).map fun k=>hY ((AV p a).getD (k+1) AY)-hY ((AV p a).getD k AY)) (fun x hx=>by
   obtain ⟨a,ha,hx⟩:=Gf.1 hx;obtain ⟨k,hk,rfl⟩:=ED.1 hx;exact hsep a ha k aAU)
  exact ⟨D,h1,fun a ha k hk=>h2 _ (Gf.2 ⟨a,ha,ED.2 ⟨k,Et.2 AB,rfl⟩⟩)⟩
 have e:=h.aqZ hz hT hd;have odd:∀ j,Jy T j % 2=1:=fun j=>by unfold Jy;omega
 have S:=fun j=>h.aqY hz hw hD hd (odd j);refine ⟨?_,fun ⟨a,ha,hza⟩=>?_⟩
 ·have h0:=acy (List.range (2*T)) (fun j=>Dn p z (fun a b=>xE D a b (Jy T j)*Em (Jy T j) a b)) (fun j _=>(S j).1);rw [<- e] at h0;apply NV;intro hn;have:=XK hD (show 8388608*Dn p z Oq<0 by omega)
  omega
 ·have hl:=Ey p a;have hk:0+1<(AV p a).length:=by omega
  have hs:=hsep a ha 0 hk;have t0:=hT _ (h.Dj ha (k:=0) AB);have t1:=hT _ (h.Dj ha (k:=0+1) hk);have h0:=ahY (List.range (2*T)) (fun j=>Dn p z (fun a b=>xE D a b (Jy T j)*Em (Jy T j) a b)) (fun j _=>(S j).1) (by
   refine ⟨(min (hY ((AV p a).getD 0 AY)) (hY ((AV p a).getD (0+1) AY))+T).toNat,Et.2 AB,?_⟩;refine (S _).2 ⟨a,ha,0,hk,hza,?_⟩;unfold Em Jy;generalize hY ((AV p a).getD 0 AY)=A at *;generalize hY ((AV p a).getD (0+1) AY)=B at *;have hj:(((min A B+T).toNat:Nat):Int)=min A B+T:=by omega
   rw [hj];by_cases c:A<B
   · rw [AZ AB,AX AB];omega
   · rw [AX AB,AZ AB];omega)
  rw [<- e] at h0;apply NV;intro hn;have:=aAB (show 0<=D by omega) (show 8388608*Dn p z Oq<=0 by omega)
  omega
end
