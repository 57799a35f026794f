import Derived.Test.YtialfdomhoojiaaGreatJ10
import Derived.Test.YtialfdomhoojiaaGreatJ08
set_option linter.unusedSimpArgs false
set_option linter.unusedVariables false
namespace Go.Proofs.YtialfdomhoojiaaGreat
open Go.RowKit
def xN (a b:Pt) (τ:Int):Int:=a.x*(2*hY b-τ)+b.x*(τ-2*hY a)
def dZ (τ:Int) (a b:Pt):Int:=(if τ<2*hY b then 1 else 0)-(if τ<2*hY a then 1 else 0)
def wR (s t:Pt) (τ:Int) (v:Pt):Int:=if hY s<hY v/\2*hY v<τ/\tw s t v<0 then 1 else 0
def dX (a b s t:Pt) (τ:Int):Int:=xN a b τ*(hY t-hY s)-xN s t τ*(hY b-hY a)
theorem alV (a b:Pt) (τ:Int):xN b a τ=-xN a b τ:=by unfold xN;grind
theorem aek (a b s t:Pt):dX a b s t (2*hY s)=16777216*(hY t-hY s)*tw a b s:=by unfold dX xN tw hY;grind
theorem ael (a b s t:Pt):dX a b s t (2*hY t)=16777216*(hY t-hY s)*tw a b t:=by unfold dX xN tw hY;grind
theorem aem (a b s t:Pt):dX a b s t (2*hY a)=-(16777216*(hY b-hY a)*tw s t a):=by unfold dX xN tw hY;grind
theorem aen (a b s t:Pt):dX a b s t (2*hY b)=-(16777216*(hY b-hY a)*tw s t b):=by unfold dX xN tw hY;grind
theorem XV (a b s t:Pt) (α τ β:Int):dX a b s t τ*(β-α)=dX a b s t α*(β-τ)+dX a b s t β*(τ-α):=by
 unfold dX xN;generalize hY a=A;generalize hY b=B;generalize hY s=S;generalize hY t=T
 grind
theorem alW {x y z p q:Int} (hp:0<p) (hq:0<q) (e:z*(p+q)=x*p+y*q) :
  (0<x->0<=y->0<z)/\(0<=x->0<y->0<z)/\(x<=0->y<=0->¬ 0<z):=by
 refine ⟨fun h1 h2=>?_,fun h1 h2=>?_,fun h1 h2 h3=>?_⟩
 ·have a1:=Int.mul_pos h1 hp;have a2:=Int.mul_nonneg h2 (Int.le_of_lt hq);apply Classical.byContradiction;intro h3;have:=Int.mul_nonneg (show 0<=-z by omega) (show 0<=p+q by omega)
  rw [Int.neg_mul] at this;omega
 ·have a1:=Int.mul_nonneg h1 (Int.le_of_lt hp);have a2:=Int.mul_pos h2 hq;apply Classical.byContradiction;intro h3;have:=Int.mul_nonneg (show 0<=-z by omega) (show 0<=p+q by omega)
  rw [Int.neg_mul] at this;omega
 ·have a1:=Int.mul_nonneg (show 0<=-x by omega) (Int.le_of_lt hp);have a2:=Int.mul_nonneg (show 0<=-y by omega) (Int.le_of_lt hq);have a3:=Int.mul_pos h3 (show 0<p+q by omega);rw [Int.neg_mul] at a1 a2;omega
theorem Sz {c:Int} (hc:0<c) (u:Int):(0<16777216*c*u↔0<u)/\(0<=16777216*c*u↔0<=u)/\(16777216*c*u<=0↔u<=0):=by
 have h:0<16777216*c:=by omega
 generalize 16777216*c=k at *;rcases Int.lt_trichotomy u 0 with h1 | h1 | h1
 · have:=Int.mul_neg_of_pos_of_neg h h1;omega
 · subst h1;simp
 · have:=Int.mul_pos h h1;omega
theorem alX {a b s t:Pt} {α τ β:Int} (h1:α<τ) (h2:τ<β) :
  (0<dX a b s t α->0<=dX a b s t β->0<dX a b s t τ)/\(0<=dX a b s t α->0<dX a b s t β->0<dX a b s t τ)/\(dX a b s t α<=0->dX a b s t β<=0->¬ 0<dX a b s t τ):=by
 have:=XV a b s t α τ β
 rw [show β-α=(β-τ)+(τ-α) by omega] at this;exact alW (by omega) (by omega) this
theorem Ib {x y D:Int} (b:(0<x->0<=y->0<D)/\(0<=x->0<y->0<D)/\(x<=0->y<=0->¬ 0<D)) {P:Prop} (h:(P->0<x/\0<=y)\/(P->0<=x/\0<y)) (h2:¬ P->x<=0/\y<=0):0<D↔P:=by
 by_cases hp:P
 ·refine ⟨fun _=>hp,fun _=>?_⟩;rcases h with h | h
  · exact b.1 (h hp).1 (h hp).2
  · exact b.2.1 (h hp).1 (h hp).2
 · exact ⟨fun hd=>absurd hd (b.2.2 (h2 hp).1 (h2 hp).2),fun h=>absurd h hp⟩
theorem alY {A B S T τ D:Int} {P1 P3 P4:Prop} [Decidable P1] [Decidable P3] [Decidable P4] (hab:A<B) (hA:2*A≠τ) (hB:2*B≠τ) (h1:2*S<τ) (h2:τ<2*T)
  (key1:A<S->τ<2*B->(0<D↔P1)) (key2:A=S->τ<2*B->(0<D↔P4)) (alZ:S<A->2*A<τ->τ<2*B->(0<D↔P3))
  (g1:A<S->S<B->B<T->(P1↔P4)) (g3:S<A->B<T->(P3↔P4)) :
  (if 2*A<τ/\τ<2*B/\0<D then (1:Int) else 0)=(if A<S/\S<B/\P1 then 1 else 0)+(if A=S/\P4 then 1 else 0)-0+((if S<A/\2*A<τ/\P3 then 1 else 0)-(if S<B/\2*B<τ/\P4 then 1 else 0)):=by
 rcases Int.lt_trichotomy A S with c1 | c1 | c1
 ·have e1:¬ A=S:=by omega
  have e2:¬ S<A:=by omega
  have e3:2*A<τ:=by omega
  simp only [e1,e2,e3,c1,true_and,false_and,if_false];by_cases c2:2*B<τ
  ·have e4:¬ τ<2*B:=by omega
   simp only [c2,e4,true_and,false_and,if_false];by_cases c3:S<B
   ·have:=g1 c1 c3 (by omega)
    simp only [c3,this,true_and];omega
   · simp only [c3,false_and,if_false];rfl
  ·have e4:τ<2*B:=by omega
   have e5:S<B:=by omega
   have:=key1 c1 e4
   simp only [c2,e4,e5,this,true_and,false_and,and_false,if_false];omega
 ·have e1:¬ A<S:=by omega
  have e2:¬ S<A:=by omega
  have e3:2*A<τ:=by omega
  have e5:S<B:=by omega
  simp only [c1,e1,e2,e3,e5,Int.lt_irrefl,true_and,false_and,if_false,h1];by_cases c2:2*B<τ
  ·have e4:¬ τ<2*B:=by omega
   simp only [c2,e4,true_and,false_and,if_false];omega
  ·have e4:τ<2*B:=by omega
   have:=key2 c1 e4
   simp only [c2,e4,this,true_and,false_and,if_false];omega
 ·have e1:¬ A<S:=by omega
  have e2:¬ A=S:=by omega
  have e5:S<B:=by omega
  simp only [e1,e2,c1,e5,true_and,false_and,if_false];by_cases c3:2*A<τ
  ·by_cases c2:2*B<τ
   ·have e4:¬ τ<2*B:=by omega
    have:=g3 c1 (by omega)
    simp only [c2,c3,e4,this,true_and,false_and,if_false];omega
   ·have e4:τ<2*B:=by omega
    have:=alZ c1 c3 e4
    simp only [c2,c3,e4,this,true_and,false_and,if_false];omega
  ·have e4:¬ 2*B<τ:=by omega
   simp only [c3,e4,false_and,if_false];rfl
theorem al0 {a b s t:Pt} (na:aW a=true) (nb:aW b=true) (ns:aW s=true) (nt:aW t=true) (hab:hY a<hY b) (hst:hY s<hY t)
  (hno:a≠s->a≠t->b≠s->b≠t->nU a b s t) {τ:Int} (hA:2*hY a≠τ) (hB:2*hY b≠τ) (h1:2*hY s<τ) (h2:τ<2*hY t) :
  (if 2*hY a<τ/\τ<2*hY b/\0<dX a b s t τ then 1 else 0)=rH s t a b+(wR s t τ a-wR s t τ b):=by
 have d1:=Ko ns nb nt;have d2:=Ko ns na nt;have q:∀ {u v:Pt},aW u=true->aW v=true->(u=v↔hY u=hY v):=fun hu hv=>⟨fun e=>by rw [e],nT hu hv⟩;have e1:tw s b t=-tw s t b:=adV s t b;have f1:hY a=hY s->tw a b s=0/\tw s t a=0:=fun h=>by
  have:=nT na ns h
  subst this;exact ⟨CX a b,CX a t⟩
 have f2:hY b=hY t->tw a b t=0/\tw s t b=0:=fun h=>by
  have:=nT nb nt h
  subst this;exact ⟨CZ a b,CZ s b⟩
 have f3:hY a≠hY s->hY a≠hY t->hY b≠hY s->hY b≠hY t->_:=fun h1 h2 h3 h4=>adX (s:=s) (t:=t) hab hst (hno (fun e=>h1 (by rw [e])) (fun e=>h2 (by rw [e])) (fun e=>h3 (by rw [e])) (fun e=>h4 (by rw [e])));have k1:(a=s/\dV s b t)↔(hY a=hY s/\tw s t b<0):=by rw [d1,q na ns,e1];constructor<;>(rintro ⟨h1,h2⟩;exact ⟨h1,by omega⟩)
 have k2:¬ (b=s/\dV s a t):=by rw [d2,q nb ns];rintro ⟨h1,h2⟩;omega
 have m1:oK a b s=if hY a<hY s/\hY s<hY b/\0<tw a b s then 1 else 0:=by unfold oK;rw [if_neg (show ¬ (hY b<hY s/\hY s<hY a/\0<tw b a s) by omega)]
 have gS:=aek a b s t;have gT:=ael a b s t;have gA:=aem a b s t;have gB:=aen a b s t;have bw:=fun (α β:Int) (g1:α<τ) (g2:τ<β)=>alX (a:=a) (b:=b) (s:=s) (t:=t) g1 g2;unfold rH;rw [m1,if_neg k2];simp only [k1];unfold wR;have sS:=Sz (show 0<hY t-hY s by omega) (tw a b s);have sT:=Sz (show 0<hY t-hY s by omega) (tw a b t);have sA:=Sz (show 0<hY b-hY a by omega) (tw s t a);have sB:=Sz (show 0<hY b-hY a by omega) (tw s t b);have xu:=bw (2*hY s) (2*hY b);have ES:=bw (2*hY s) (2*hY t);have oM:=bw (2*hY a) (2*hY b);have ET:=bw (2*hY a) (2*hY t);rw [gS,gB] at xu;rw [gS,gT] at ES;rw [gA,gB] at oM;rw [gA,gT] at ET;clear hno d1 d2 e1 q na nb ns nt k1 k2 m1 gS gT gA gB bw;generalize dX a b s t τ=D at *;generalize 16777216*(hY t-hY s)*tw a b s=vS at *;generalize 16777216*(hY t-hY s)*tw a b t=vT at *;generalize 16777216*(hY b-hY a)*tw s t a=vA at *;generalize 16777216*(hY b-hY a)*tw s t b=vB at *;generalize tw a b s=u1 at *;generalize tw a b t=u2 at *;generalize tw s t a=u3 at *;generalize tw s t b=u4 at *;generalize hY a=A at *;generalize hY b=B at *;generalize hY s=S at *;generalize hY t=T at *;refine alY hab hA hB h1 h2 (fun c1 c2=>?_) (fun c1 c2=>?_) (fun c1 c3 c2=>?_) (fun c1 c2 c3=>?_) (fun c1 c2=>?_)
 ·rcases Int.lt_trichotomy B T with c4 | c4 | c4
  ·have f3:=(f3 (by omega) (by omega) (by omega) (by omega)).1 c1 (by omega) c4;clear f1 f2 oM ET ES sA sT;exact Ib (xu h1 c2) (.inl fun hp=>⟨sS.1.2 hp,by omega⟩) (fun hp=>⟨by omega,by omega⟩)
  ·obtain ⟨g1,g2⟩:=f2 c4;clear f1 f2 f3 oM ET xu sA sB;exact Ib (ES h1 h2) (.inl fun hp=>⟨sS.1.2 hp,by omega⟩) (fun hp=>⟨by omega,by omega⟩)
  ·have f3:=(f3 (by omega) (by omega) (by omega) (by omega)).2.1 c1 c4;clear f1 f2 oM ET xu sA sB;exact Ib (ES h1 h2) (.inl fun hp=>⟨sS.1.2 hp,by omega⟩) (fun hp=>⟨by omega,by omega⟩)
 ·obtain ⟨g1,g2⟩:=f1 c1;clear f1 f2 f3 oM ET ES sA sT;exact Ib (xu h1 c2) (.inr fun hp=>⟨by omega,by omega⟩) (fun hp=>⟨by omega,by omega⟩)
 ·rcases Int.lt_trichotomy B T with c4 | c4 | c4
  ·have f3:=(f3 (by omega) (by omega) (by omega) (by omega)).2.2.1 c1 c4;clear f1 f2 ES ET xu sS sT;exact Ib (oM c3 c2) (.inl fun hp=>⟨by omega,by omega⟩) (fun hp=>⟨by omega,by omega⟩)
  ·obtain ⟨g1,g2⟩:=f2 c4;clear f1 f2 f3 ES ET xu sS sT;exact Ib (oM c3 c2) (.inl fun hp=>⟨by omega,by omega⟩) (fun hp=>⟨by omega,by omega⟩)
  ·have f3:=(f3 (by omega) (by omega) (by omega) (by omega)).2.2.2 c1 (by omega) c4;clear f1 f2 ES oM xu sS sB;exact Ib (ET c3 h2) (.inl fun hp=>⟨by omega,by omega⟩) (fun hp=>⟨by omega,by omega⟩)
 · exact (f3 (by omega) (by omega) (by omega) (by omega)).1 c1 c2 c3
 · exact (f3 (by omega) (by omega) (by omega) (by omega)).2.2.1 c1 c2
theorem al1 {p q:Pt} {dx dy:Int} (hN:0<8388608*dy+dx) (e:(q.x-p.x)*dy=(q.y-p.y)*dx) :
  (0<=dx->(bF p q=true↔hY p<hY q))/\(dx<0->(bF p q=true↔hY q<hY p)):=by
 have k:(8388608*(q.y-p.y)+(q.x-p.x))*dx=(q.x-p.x)*(8388608*dy+dx):=by grind
 have hd:hY q-hY p=8388608*(q.y-p.y)+(q.x-p.x):=by unfold hY;omega
 rw [<- hd] at k;have z:q.x-p.x=0->dx≠0->q.y-p.y=0:=fun h0 h1=>by
  rw [h0,Int.zero_mul] at e;rcases Int.mul_eq_zero.1 e.symm with h2 | h2
  · exact h2
  · exact absurd h2 h1
 rw [nR];generalize 8388608*dy+dx=N at *;generalize hu:q.x-p.x=u at *;have s1:0<u->0<u*N:=fun h=>Int.mul_pos h hN;have s2:u<0->u*N<0:=fun h=>Int.mul_neg_of_neg_of_pos h hN;have s3:u=0->u*N=0:=fun h=>by rw [h,Int.zero_mul]
 refine ⟨fun h=>?_,fun h=>?_⟩
 ·by_cases h0:dx=0
  ·subst h0;have hu0:u=0:=by
    rcases Int.lt_trichotomy u 0 with g | g | g
    · have:=s2 g;omega
    · exact g
    · have:=s1 g;omega
   unfold hY at *;omega
  ·have hp:0<dx:=by omega
   have t1:0<hY q-hY p->0<(hY q-hY p)*dx:=fun h=>Int.mul_pos h hp;have t2:hY q-hY p<0->(hY q-hY p)*dx<0:=fun h=>Int.mul_neg_of_neg_of_pos h hp;have t3:hY q-hY p=0->(hY q-hY p)*dx=0:=fun h=>by rw [h,Int.zero_mul]
   omega
 ·have t1:0<hY q-hY p->(hY q-hY p)*dx<0:=fun g=>Int.mul_neg_of_pos_of_neg g h;have t2:hY q-hY p<0->0<(hY q-hY p)*dx:=fun g=>Int.mul_pos_of_neg_of_neg g h;have t3:hY q-hY p=0->(hY q-hY p)*dx=0:=fun h=>by rw [h,Int.zero_mul]
  omega
theorem aeo {X Y:Pt} (h:bF X Y=true):(if X=Y then (1:Int) else if bF X Y then 2 else 0)=2:=by
 rw [if_neg (fun e=>by rw [e,Gz] at h;cases h),if_pos h]
theorem al2 {a b s t:Pt} (hab:hY a<hY b) (hst:hY s<hY t) (h1:tw a b s=0) (h2:tw a b t=0) (h3:hY s<hY b) (h4:hY a<hY t):lM a b s t=2:=by
 have hN:0<8388608*(b.y-a.y)+(b.x-a.x):=by unfold hY at hab;omega
 have ln:∀ {p q:Pt},tw a b p=0->tw a b q=0->(q.x-p.x)*(b.y-a.y)=(q.y-p.y)*(b.x-a.x):=by
  intro p q hp hq
  have:tw a b q-tw a b p=(b.x-a.x)*(q.y-p.y)-(b.y-a.y)*(q.x-p.x):=by unfold tw;grind
  rw [hp,hq] at this;rw [Int.mul_comm (q.x-p.x),Int.mul_comm (q.y-p.y)];omega
 have B:∀ {p q:Pt},tw a b p=0->tw a b q=0->_:=fun hp hq=>al1 hN (ln hp hq);have ha:=CX a b;have hb:=CZ a b;have XW:=B hb ha;have XY:=B h2 h1;have Bsa:=B h1 ha;have Btb:=B h2 hb;have Bab:=B ha hb;have Bat:=B ha h2;have Bsb:=B h1 hb;have Bst:=B h1 h2;have Bta:=B h2 ha;have Bbs:=B hb h1;rw [yY];by_cases hx:0<=b.x-a.x
 ·have e1:bF b a=false:=by rw [<- Bool.not_eq_true,XW.1 hx];omega
  have e2:bF t s=false:=by rw [<- Bool.not_eq_true,XY.1 hx];omega
  have l1:lo a b=a:=by unfold lo;rw [e1];simp
  have l2:hi a b=b:=by unfold hi;rw [e1];simp
  have l3:lo s t=s:=by unfold lo;rw [e2];simp
  have l4:hi s t=t:=by unfold hi;rw [e2];simp
  rw [l1,l2,l3,l4];unfold hi lo;refine aeo ?_
  cases e3:bF s a<;>cases e4:bF t b<;>simp only [Bool.false_eq_true,if_true,if_false]
  · exact (Bsb.1 hx).2 h3
  · exact (Bst.1 hx).2 hst
  · exact (Bab.1 hx).2 hab
  · exact (Bat.1 hx).2 h4
 ·have hx:b.x-a.x<0:=by omega
  have e1:bF b a=true:=(XW.2 hx).2 hab;have e2:bF t s=true:=(XY.2 hx).2 hst;have l1:lo a b=b:=by unfold lo;rw [e1];simp
  have l2:hi a b=a:=by unfold hi;rw [e1];simp
  have l3:lo s t=t:=by unfold lo;rw [e2];simp
  have l4:hi s t=s:=by unfold hi;rw [e2];simp
  rw [l1,l2,l3,l4];unfold hi lo;refine aeo ?_
  cases e3:bF t b<;>cases e4:bF s a<;>simp only [Bool.false_eq_true,if_true,if_false]
  · exact (Bta.2 hx).2 h4
  · exact (XY.2 hx).2 hst
  · exact (XW.2 hx).2 hab
  · exact (Bbs.2 hx).2 h3
theorem Kw {a b s t:Pt} (hab:a≠b) (h1:tw a b s=0) (h2:tw a b t=0):tw s t a=0/\tw s t b=0:=by
 have hne:=Pt.QV hab;unfold tw at *;have e1:(b.x-a.x)*(t.y-s.y)-(b.y-a.y)*(t.x-s.x)=0:=by grind
 have e2:(b.x-a.x)*(a.y-s.y)-(b.y-a.y)*(a.x-s.x)=0:=by grind
 have e3:(b.x-a.x)*(b.y-s.y)-(b.y-a.y)*(b.x-s.x)=0:=by grind
 exact ⟨parallel hne e1 e2,parallel hne e1 e3⟩
theorem XZ {a b s t u v x y:Pt} (hu:(u=a/\v=b)\/(u=b/\v=a)) (hx:(x=s/\y=t)\/(x=t/\y=s))
  (hab:hY a<hY b) (hst:hY s<hY t) (h1:tw a b s=0) (h2:tw a b t=0) (h3:hY s<hY b) (h4:hY a<hY t):qg u v x y=2:=by
 have hs:=al2 hab hst h1 h2 h3 h4;have hne:a≠b:=fun e=>by rw [e] at hab;omega
 obtain ⟨h5,h6⟩:=Kw hne h1 h2;have f1:∀ a b c:Pt,tw b a c=-tw a b c:=fun a b c=>by unfold tw;grind
 have hs':lM u v x y=2:=by
  have c1:lM b a s t=2:=by rw [<- JA];exact hs
  have c2:lM a b t s=2:=by rw [AP,JA,AP];exact hs
  have c3:lM b a t s=2:=by rw [AP,JA,AP];exact c1
  rcases hu with ⟨rfl,rfl⟩ | ⟨rfl,rfl⟩<;>rcases hx with ⟨rfl,rfl⟩ | ⟨rfl,rfl⟩<;>assumption
 have huv:u≠v:=by
  rcases hu with ⟨rfl,rfl⟩ | ⟨rfl,rfl⟩
  · exact hne
  · exact fun e=>hne e.symm
 have z1:tw u v x=0/\tw u v y=0:=by
  rcases hu with ⟨rfl,rfl⟩ | ⟨rfl,rfl⟩<;>rcases hx with ⟨rfl,rfl⟩ | ⟨rfl,rfl⟩<;>first | exact ⟨h1,h2⟩ | exact ⟨h2,h1⟩ | (constructor<;>rw [f1]<;>omega)
 obtain ⟨z2,z3⟩:=Kw huv z1.1 z1.2;have q1:aF u v x y=0:=by rw [XE];omega
 have q2:aF u v u x=0:=z1.1;have q3:aF u v u y=0:=z1.2;have q4:aF x y x u=0:=z2;have q5:aF x y x v=0:=z3;unfold qg;rw [if_neg (fun e=>huv e.1),if_pos q1,if_pos ⟨q2,q3,q4,q5⟩];exact hs'
theorem al3 {a b s t:Pt} (na:aW a=true) (nb:aW b=true) (ns:aW s=true) (nt:aW t=true) (hab:hY a<hY b) (hst:hY s<hY t)
  (hno:a≠s->a≠t->b≠s->b≠t->nU a b s t) {τ:Int} (h1:2*hY s<τ) (h2:τ<2*hY t) (h3:2*hY a<τ) (h4:τ<2*hY b)
  (h0:dX a b s t τ=0):tw a b s=0/\tw a b t=0:=by
 have l1:=XV a b s t (2*hY s) τ (2*hY t);have l2:=XV a b s t (2*hY a) τ (2*hY b);rw [h0,Int.zero_mul,aek,ael] at l1;rw [h0,Int.zero_mul,aem,aen] at l2;have k1:tw a b s*(2*hY t-τ)+tw a b t*(τ-2*hY s)=0:=by
  have:(16777216*(hY t-hY s))*(tw a b s*(2*hY t-τ)+tw a b t*(τ-2*hY s))=0:=by
   rw [Int.mul_add,<- Int.mul_assoc,<- Int.mul_assoc];exact l1.symm
  rcases Int.mul_eq_zero.1 this with g | g
  · omega
  · exact g
 have k2:tw s t a*(2*hY b-τ)+tw s t b*(τ-2*hY a)=0:=by
  have:(16777216*(hY b-hY a))*(tw s t a*(2*hY b-τ)+tw s t b*(τ-2*hY a))=0:=by
   rw [Int.mul_add,<- Int.mul_assoc,<- Int.mul_assoc];rw [Int.neg_mul,Int.neg_mul] at l2;omega
  rcases Int.mul_eq_zero.1 this with g | g
  · omega
  · exact g
 have sg:∀ {u v p q:Int},0<p->0<q->u*p+v*q=0->(u<=0/\0<=v/\(u=0↔v=0))\/(0<=u/\v<=0/\(u=0↔v=0)):=by
  intro u v p q hp hq e;have a1:0<u->0<u*p:=fun h=>Int.mul_pos h hp;have a2:u<0->u*p<0:=fun h=>Int.mul_neg_of_neg_of_pos h hp;have a3:0<v->0<v*q:=fun h=>Int.mul_pos h hq;have a4:v<0->v*q<0:=fun h=>Int.mul_neg_of_neg_of_pos h hq;have a5:u=0->u*p=0:=fun h=>by rw [h,Int.zero_mul]
  have a6:v=0->v*q=0:=fun h=>by rw [h,Int.zero_mul]
  omega
 have g1:=sg (show 0<2*hY t-τ by omega) (show 0<τ-2*hY s by omega) k1;have g2:=sg (show 0<2*hY b-τ by omega) (show 0<τ-2*hY a by omega) k2;have d:=NU a b s t;by_cases hp:tw a b t-tw a b s=0
 · omega
 ·by_cases c1:a=s
  ·subst c1;have:=CX a b
   omega
  by_cases c2:b=t
  ·subst c2;have:=CZ a b
   omega
  have NM:=hno c1 (fun e=>by rw [e] at h3;omega) (fun e=>by rw [e] at h4;omega) c2 hp;omega
section
variable {p:Pl} (h:Valid p)
include h
theorem Valid.aep {a b:Ar} (ha:a∈p.ah) (hb:b∈p.ah) {k m:Nat} (hk:k+1<(au p a).length) (hm:m+1<(au p b).length) (hne:¬ (a=b/\k=m)) :
  ¬ (qg ((au p a).getD k aB) ((au p a).getD (k+1) aB) ((au p b).getD m aB) ((au p b).getD (m+1) aB)=2/\qg ((au p b).getD m aB) ((au p b).getD (m+1) aB) ((au p a).getD k aB) ((au p a).getD (k+1) aB)=2):=by
 have NY:∀ {c d:Ar} {i j:Nat},c∈p.ah->d∈p.ah->i+1<(au p c).length->j+1<(au p d).length->fH [(au p c).getD i aB,(au p c).getD (i+1) aB,(au p d).getD j aB,(au p d).getD (j+1) aB]=true:=fun hc hd hi hj =>
  CP (h.bV hc (by omega)) (h.bV hc hi) (h.bV hd (by omega)) (h.bV hd hj)
 have same:∀ {a:Ar} (ha:a∈p.ah) {i j:Nat},i<j->j+1<(au p a).length->qg ((au p a).getD i aB) ((au p a).getD (i+1) aB) ((au p a).getD j aB) ((au p a).getD (j+1) aB)≠2:=by
  intro a ha i j hij hj;have hap:=h.tY.2.1 a ha i j hij hj;unfold Ci bQ at hap;simp only at hap;unfold ig at hap;rw [if_pos (NY ha ha (by omega) hj)] at hap;intro e;rw [e] at hap;split at hap<;>exact absurd hap (by decide)
 have other:∀ {c d:Ar} {i j:Nat},c∈p.ah->d∈p.ah->i+1<(au p c).length->j+1<(au p d).length->sH p (bQ p c i) (bQ p d j)=true ->
   qg ((au p c).getD i aB) ((au p c).getD (i+1) aB) ((au p d).getD j aB) ((au p d).getD (j+1) aB)≠2:=by
  intro c d i j hc hd hi hj hjo e;unfold sH bQ ig at hjo;simp only at hjo;rw [if_pos (NY hc hd hi hj),e,if_neg (by decide)] at hjo;exact absurd hjo (by decide)
 rintro ⟨h1,h2⟩;by_cases hab:a=b
 ·subst hab;rcases Nat.lt_trichotomy k m with hkm | hkm | hkm
  · exact same ha hkm hm h1
  · exact hne ⟨rfl,hkm⟩
  · exact same ha hkm hk h2
 ·have hpw:=h.tY.2.2;obtain ⟨i,hi,rfl⟩:=List.mem_iff_getElem.1 ha;obtain ⟨j,hj,rfl⟩:=List.mem_iff_getElem.1 hb;rw [List.pairwise_iff_getElem] at hpw;rcases Nat.lt_trichotomy i j with hij | hij | hij
  · exact other ha hb hk hm (hpw i j hi hj hij k hk m hm) h1
  · subst hij;exact hab rfl
  · exact other hb ha hm hk (hpw j i hj hi hij m hm k hk) h2
theorem Valid.al4 {c d:Ar} (hc:c∈p.ah) (hd:d∈p.ah) {k m:Nat} (hk:k+1<(au p c).length) (hm:m+1<(au p d).length) (hne:¬ (c=d/\k=m)) {a b s t:Pt}
  (hu:((au p c).getD k aB=a/\(au p c).getD (k+1) aB=b)\/((au p c).getD k aB=b/\(au p c).getD (k+1) aB=a))
  (hx:((au p d).getD m aB=s/\(au p d).getD (m+1) aB=t)\/((au p d).getD m aB=t/\(au p d).getD (m+1) aB=s))
  {τ:Int} (h1:2*hY s<τ) (h2:τ<2*hY t) (h3:2*hY a<τ) (h4:τ<2*hY b):dX a b s t τ≠0:=by
 intro h0;have n1:=h.bV hc (k:=k) (by omega);have n2:=h.bV hc (k:=k+1) hk;have n3:=h.bV hd (k:=m) (by omega);have n4:=h.bV hd (k:=m+1) hm;have NM:=fun h1 h2 h3 h4=>h.XG hc hd hk hm h1 h2 h3 h4;have one:=h.aep hc hd hk hm hne;generalize (au p c).getD k aB=u at *;generalize (au p c).getD (k+1) aB=v at *;generalize (au p d).getD m aB=x at *;generalize (au p d).getD (m+1) aB=y at *;have na:aW a=true/\aW b=true:=by rcases hu with ⟨rfl,rfl⟩ | ⟨rfl,rfl⟩<;>exact ⟨by assumption,by assumption⟩
 have ns:aW s=true/\aW t=true:=by rcases hx with ⟨rfl,rfl⟩ | ⟨rfl,rfl⟩<;>exact ⟨by assumption,by assumption⟩
 have hno:a≠s->a≠t->b≠s->b≠t->nU a b s t:=fun g1 g2 g3 g4=>by
  rcases hu with ⟨rfl,rfl⟩ | ⟨rfl,rfl⟩<;>rcases hx with ⟨rfl,rfl⟩ | ⟨rfl,rfl⟩
  · exact NM g1 g2 g3 g4
  · exact (NM g2 g1 g4 g3).comm.flip.comm
  · exact (NM g3 g4 g1 g2).flip
  · exact (NM g4 g3 g2 g1).flip.comm.flip.comm
 have hab:hY a<hY b:=by omega
 have hst:hY s<hY t:=by omega
 obtain ⟨z1,z2⟩:=al3 na.1 na.2 ns.1 ns.2 hab hst hno h1 h2 h3 h4 h0;obtain ⟨z3,z4⟩:=Kw (fun e=>by rw [e] at hab;omega) z1 z2;exact one ⟨XZ hu hx hab hst z1 z2 (by omega) (by omega),XZ hx hu hst hab z3 z4 (by omega) (by omega)⟩
end
theorem X0 {α:Type} (l:List α) (f:α->Int) (h:∀ x∈l,0<=f x):0<=(l.map f).sum:=by
 induction l with
 | nil=>exact Int.le_refl _
 | cons a l ih =>
  rw [List.map_cons,List.sum_cons];have:=h a List.mem_cons_self
  have:=ih fun x hx=>h x (List.mem_cons_of_mem _ hx)
  omega
theorem aer {α:Type} (l:List α) (f:α->Int) (h:∀ x∈l,0<=f x) (h1:∃ x∈l,0<f x):0<(l.map f).sum:=by
 induction l with
 | nil=>obtain ⟨x,hx,-⟩:=h1;cases hx
 | cons a l ih =>
  rw [List.map_cons,List.sum_cons];have h0:=h a List.mem_cons_self;have h2:=X0 l f fun x hx=>h x (List.mem_cons_of_mem _ hx);obtain ⟨x,hx,hp⟩:=h1;rcases List.mem_cons.1 hx with rfl | hx
  · omega
  ·have:=ih (fun x hx=>h x (List.mem_cons_of_mem _ hx)) ⟨x,hx,hp⟩
   omega
theorem Yh {α:Type} (l:List α) (f:α->List Int):(l.flatMap f).sum=(l.map fun x=>(f x).sum).sum:=by
 induction l with
 | nil=>rfl
 | cons a l ih=>rw [List.flatMap_cons,List.sum_append,ih,List.map_cons,List.sum_cons]
def mV (L:List (Int×Int)) (t:Int):Int:=(L.map fun v=>if t<v.1 then v.2 else 0).sum
def Bq (L:List (Int×Int)) (t:Int):Int:=(L.map fun v=>if t<=v.1 then v.2 else 0).sum
theorem Yi {L:List (Int×Int)} (h2:∀ u∈L,u.2≠0->(mV L u.1=0/\Bq L u.1=1)\/(mV L u.1=1/\Bq L u.1=0)) :
  ∀ (n:Nat) (t:Int),(∀ v∈L,v.2≠0->v.1<=t+n)->mV L t=0\/mV L t=1
 | 0,t,h=>by
  left;refine yA _ _ fun v hv=>?_;by_cases h0:v.2=0
  · rw [h0];split<;>rfl
  ·have:=h v hv h0
   rw [if_neg (by omega)]
 | n+1,t,h=>by
  by_cases hx:∃ v∈L,v.2≠0/\v.1=t+1
  ·obtain ⟨u,hu,h0,e⟩:=hx
   have:mV L t=Bq L u.1:=by
    refine fV _ _ _ fun v _=>?_;rw [e];by_cases c:t<v.1
    · rw [if_pos c,if_pos (by omega)]
    · rw [if_neg c,if_neg (by omega)]
   have:=h2 u hu h0
   omega
  ·have e:mV L t=mV L (t+1):=by
    refine fV _ _ _ fun v hv=>?_;by_cases h0:v.2=0
    · rw [h0];split<;>split<;>rfl
    ·have:v.1≠t+1:=fun e=>hx ⟨v,hv,h0,e⟩
     by_cases c:t<v.1
     · rw [if_pos c,if_pos (by omega)]
     · rw [if_neg c,if_neg (by omega)]
   rw [e];refine Yi h2 n (t+1) fun v hv h0=>?_;have:=h v hv h0
   omega
theorem Yj:∀ (L:List (Int×Int)),∃ B:Nat,∀ v∈L,-(B:Int)<v.1/\v.1<B
 | []=>⟨0,fun _ h=>by cases h⟩
 | a::L=>by
  obtain ⟨B,hB⟩:=Yj L;refine ⟨B+a.1.natAbs+1,fun v hv=>?_⟩;rcases List.mem_cons.1 hv with rfl | hv
  · omega
  ·have:=hB v hv
   omega
theorem cnt_lt (n m:Nat) (h:m<=n):((List.range n).map fun k:Nat=>if (k:Int)<m then (1:Int) else 0).sum=m:=by
 induction n generalizing m with
 | zero =>
  have:m=0:=by omega
  subst this;rfl
 | succ n ih =>
  rw [List.range_succ,List.map_append,List.sum_append];simp only [List.map_cons,List.map_nil,List.sum_cons,List.sum_nil];by_cases h1:m<=n
  · rw [ih m h1,if_neg (by omega)];omega
  ·have hm:m=n+1:=by omega
   subst hm;rw [if_pos (by omega)];have:=ih n (Nat.le_refl _)
   rw [fV _ _ (fun k:Nat=>if (k:Int)<n then (1:Int) else 0) (fun k hk=>by
    have:=List.mem_range.1 hk
    rw [if_pos (by omega),if_pos (by omega)]),this]
   omega
theorem al5 {L:List (Int×Int)} (h2:∀ u∈L,u.2≠0->(mV L u.1=0/\Bq L u.1=1)\/(mV L u.1=1/\Bq L u.1=0)) (h3:(L.map (·.2)).sum=0) :
  0<=(L.map fun u=>u.1*u.2).sum/\((∃ u∈L,u.2≠0)->0<(L.map fun u=>u.1*u.2).sum):=by
 obtain ⟨B,hB⟩:=Yj L;have e:(L.map fun u=>u.1*u.2).sum=((List.range (2*B)).map fun k:Nat=>mV L ((k:Int)-B)).sum:=by
  have e1:(L.map fun u=>u.1*u.2).sum=(L.map fun u=>u.1*u.2+(B:Int)*u.2).sum:=by
   rw [rG L (fun u=>u.1*u.2) (fun u=>(B:Int)*u.2),Bo L (B:Int) (fun u=>u.2),h3,Int.mul_zero,Int.add_zero]
  rw [e1];unfold mV;rw [XF];refine fV _ _ _ fun u hu=>?_;have hb:=hB u hu;have c:=cnt_lt (2*B) (u.1+B).toNat (by omega);rw [fV _ _ (fun k:Nat=>u.2*(if (k:Int)<(u.1+B).toNat then (1:Int) else 0)) (fun k hk=>by
   by_cases g:(k:Int)-B<u.1
   · rw [if_pos g,if_pos (by omega),Int.mul_one]
   · rw [if_neg g,if_neg (by omega),Int.mul_zero]),Bo,c,show (((u.1+B).toNat:Nat):Int)=u.1+B by omega]
  rw [<- Int.add_mul,Int.mul_comm]
 have W:∀ t,mV L t=0\/mV L t=1:=fun t=>Yi h2 (B+t.natAbs) t fun v hv _=>by
  have:=hB v hv
  omega
 rw [e];refine ⟨X0 _ _ fun k _=>?_,fun ⟨u,hu,h0⟩=>aer _ _ (fun k _=>?_) ?_⟩
 · have:=W ((k:Int)-B);omega
 · have:=W ((k:Int)-B);omega
 ·have hb:=hB u hu;rcases h2 u hu h0 with ⟨-,g⟩ | ⟨g,-⟩
  ·refine ⟨(u.1-1+B).toNat,List.mem_range.2 (by omega),?_⟩;rw [show (((u.1-1+B).toNat:Nat):Int)-B=u.1-1 by omega]
   have:mV L (u.1-1)=Bq L u.1:=by
    refine fV _ _ _ fun v _=>?_;by_cases c:u.1<=v.1
    · rw [if_pos c,if_pos (by omega)]
    · rw [if_neg c,if_neg (by omega)]
   omega
  ·refine ⟨(u.1+B).toNat,List.mem_range.2 (by omega),?_⟩;rw [show (((u.1+B).toNat:Nat):Int)-B=u.1 by omega];omega
theorem aes (T:Nat) (u v:Int) (m:Nat):∀ n:Nat,((List.range n).map fun j:Nat=>if 2*(j:Int)+1-2*T<2*((m:Int)-T) then u+v*(2*(j:Int)+1-2*T) else 0).sum=u*(min n m:Nat)+v*((min n m:Nat)*(min n m:Nat)-2*T*(min n m:Nat))
 | 0=>by simp
 | n+1=>by
  rw [List.range_succ,List.map_append,List.sum_append,aes T u v m n];simp only [List.map_cons,List.map_nil,List.sum_cons,List.sum_nil,Int.add_zero];by_cases h:n<m
  ·rw [if_pos (by omega),Nat.min_eq_left (by omega),Nat.min_eq_left (by omega)];rw [show ((n+1:Nat):Int)=(n:Int)+1 by omega]
   grind
  · rw [if_neg (by omega),Nat.min_eq_right (by omega),Nat.min_eq_right (by omega),Int.add_zero]
def kT (T j:Nat):Int:=2*(j:Int)+1-2*T
theorem al6 {T:Nat} {a b:Pt} (ha:-(T:Int)<=hY a/\hY a<=T) (hb:-(T:Int)<=hY b/\hY b<=T) :
  ((List.range (2*T)).map fun j=>dZ (kT T j) a b*xN a b (kT T j)).sum=(hY b-hY a)*(hY b-hY a)*(a.x+b.x):=by
 have f:∀ c:Pt,-(T:Int)<=hY c/\hY c<=T->((List.range (2*T)).map fun j=>if kT T j<2*hY c then xN a b (kT T j) else 0).sum=2*(a.x*hY b-b.x*hY a)*(hY c+T)+(b.x-a.x)*((hY c+T)*(hY c+T)-2*T*(hY c+T)):=by
  intro c hc;have:=aes T (2*(a.x*hY b-b.x*hY a)) (b.x-a.x) (hY c+T).toNat (2*T)
  rw [Nat.min_eq_right (by omega),show (((hY c+T).toNat:Nat):Int)=hY c+T by omega] at this;rw [<- this];refine fV _ _ _ fun j _=>?_;have e:xN a b (kT T j)=2*(a.x*hY b-b.x*hY a)+(b.x-a.x)*kT T j:=by unfold xN;grind
  rw [e,show hY c+(T:Int)-T=hY c by omega];rfl
 have e:((List.range (2*T)).map fun j=>dZ (kT T j) a b*xN a b (kT T j)).sum=((List.range (2*T)).map fun j=>(if kT T j<2*hY b then xN a b (kT T j) else 0) + -(if kT T j<2*hY a then xN a b (kT T j) else 0)).sum:=by
  refine fV _ _ _ fun j _=>?_;unfold dZ;split<;>split<;>omega
 rw [e,rG,uq,f b hb,f a ha];generalize hY a=A;generalize hY b=B
 grind
theorem Yk (p:Pl) (z:Int->Int) (c:Int) (f:Pt->Pt->Int):cu p z (fun a b=>c*f a b)=c*cu p z f:=by
 unfold cu jM;rw [<- Bo];refine fV _ _ _ fun a _=>?_;rw [Bo,<- Int.mul_assoc,Int.mul_comm (z a.id),Int.mul_assoc]
theorem al7 (p:Pl) (z:Int->Int):cu p z (fun _ _=>0)=0:=by
 have:=Yk p z 0 (fun _ _=>0)
 rw [Int.zero_mul] at this;simpa using this
theorem aeu {β:Type} (p:Pl) (z:Int->Int) (f:β->Pt->Pt->Int):∀ l:List β,cu p z (fun a b=>(l.map fun j=>f j a b).sum)=(l.map fun j=>cu p z (f j)).sum
 | []=>al7 p z
 | j::l=>by
  simp only [List.map_cons,List.sum_cons];rw [H8 p z (f j) (fun a b=>(l.map fun j=>f j a b).sum),aeu p z f l]
def xE (D:Int) (a b:Pt) (τ:Int):Int:=xN a b τ*(D / (hY b-hY a))
theorem EU (D:Int) (a b:Pt) (τ:Int):xE D b a τ=xE D a b τ:=by
 unfold xE;rw [alV,show hY a-hY b=-(hY b-hY a) by omega,Int.ediv_neg,Int.neg_mul_neg]
theorem Oe {D:Int} (hD:0<D) {a b s t:Pt} {τ:Int} (hab:hY a<hY b) (hst:hY s<hY t) (d1:hY b-hY a∣D) (d2:hY t-hY s∣D) :
  (xE D s t τ<xE D a b τ↔0<dX a b s t τ)/\(xE D s t τ=xE D a b τ↔dX a b s t τ=0):=by
 obtain ⟨q,hq⟩:=d1;obtain ⟨r,hr⟩:=d2;unfold xE;have e1:D / (hY b-hY a)=q:=by rw [hq];exact Int.mul_ediv_cancel_left _ (by omega)
 have e2:D / (hY t-hY s)=r:=by rw [hr];exact Int.mul_ediv_cancel_left _ (by omega)
 rw [e1,e2];unfold dX;generalize xN a b τ=X at *;generalize xN s t τ=Y at *;have hn:0<hY b-hY a:=by omega
 have hm:0<hY t-hY s:=by omega
 generalize hY b-hY a=n at *;generalize hY t-hY s=m at *;have k:(X*q-Y*r)*(n*m)=D*(X*m-Y*n):=by
  have h1:(X*q-Y*r)*(n*m)=(n*q)*(X*m)-(m*r)*(Y*n):=by grind
  rw [h1,<- hq,<- hr,Int.mul_sub]
 have hnm:=Int.mul_pos hn hm;generalize n*m=w at *;generalize X*m-Y*n=x at *;have a1:0<X*q-Y*r->0<(X*q-Y*r)*w:=fun h=>Int.mul_pos h hnm;have a2:X*q-Y*r<0->(X*q-Y*r)*w<0:=fun h=>Int.mul_neg_of_neg_of_pos h hnm;have a3:X*q-Y*r=0->(X*q-Y*r)*w=0:=fun h=>by rw [h,Int.zero_mul]
 have b1:0<x->0<D*x:=fun h=>Int.mul_pos hD h;have b2:x<0->D*x<0:=fun h=>Int.mul_neg_of_pos_of_neg hD h;have b3:x=0->D*x=0:=fun h=>by rw [h,Int.mul_zero]
 rw [k] at a1 a2 a3;generalize D*x=Dx at *;generalize X*q=g1 at *;generalize Y*r=g2 at *;constructor<;>constructor<;>intro<;>omega
theorem Ym:∀ l:List Int,(∀ x∈l,x≠0)->∃ D,0<D/\∀ x∈l,x∣D
 | [],_=>⟨1,by omega,fun _ h=>by cases h⟩
 | a::l,h=>by
  obtain ⟨D,h1,h2⟩:=Ym l fun x hx=>h x (List.mem_cons_of_mem _ hx);have ha:=h a List.mem_cons_self;refine ⟨(a.natAbs:Int)*D,Int.mul_pos (by omega) h1,fun x hx=>?_⟩;rcases List.mem_cons.1 hx with rfl | hx
  · exact Int.dvd_trans (Int.dvd_natAbs_self) (Int.dvd_mul_right _ _)
  · exact Int.dvd_trans (h2 x hx) (Int.dvd_mul_left _ _)
def oN (p:Pl) (z:Int->Int) (D τ:Int):List (Int×Int):=p.ah.flatMap fun a=>(List.range ((au p a).length-1)).map fun k =>
 (xE D ((au p a).getD k aB) ((au p a).getD (k+1) aB) τ,z a.id*dZ τ ((au p a).getD k aB) ((au p a).getD (k+1) aB))
theorem Ky (p:Pl) (z:Int->Int) (D τ:Int) (G:Int->Int->Int) (hG:∀ x c s,G x (c*s)=c*G x s) :
  ((oN p z D τ).map fun u=>G u.1 u.2).sum=cu p z (fun a b=>G (xE D a b τ) (dZ τ a b)):=by
 unfold oN cu jM;rw [List.map_flatMap,Yh];refine fV _ _ _ fun a _=>?_;rw [List.map_map,<- Bo];refine fV _ _ _ fun k _=>?_;exact hG _ _ _
section
variable {p:Pl} (h:Valid p)
include h
theorem Valid.Og {z:Int->Int} (hz:fZ p z) {a:Ar} (ha:a∈p.ah) {m:Nat} (hm:m+1<(au p a).length) :
  lV p z ((au p a).getD m aB) ((au p a).getD (m+1) aB)=Hz p z (-a.id)/\lV p z ((au p a).getD (m+1) aB) ((au p a).getD m aB)=Hz p z a.id:=by
 have hl:=fJ p a;have hid:=(h.jC ha).1;have s0:=h.XO hz ha hm;have s1:=h.Si hz ha m hm;have s2:=h.Si hz ha a.via.length (by omega);have hp:=h.Dc hz ha;have h2:(au p a).getD (a.via.length+1) aB=nodeAt p a.dst:=by
  have:=zA p a
  rwa [hl,show a.via.length+2-1=a.via.length+1 by omega] at this
 have hn:Hz p z (-a.id)=qP p z ((au p a).getD (a.via.length+1) aB) ((au p a).getD a.via.length aB):=by
  unfold Hz;rw [h.NR ha,h.G9 ha,h2]
 have j2:qP p z ((au p a).getD (m+1) aB) ((au p a).getD m aB)-lV p z ((au p a).getD (m+1) aB) ((au p a).getD m aB)=-z a.id:=by
  by_cases h0:m+1=(au p a).length-1
  ·obtain ⟨n,hn,e1,e2⟩:=h.sound.zu ha;have:=h.Ku hz hn (d:=-a.id) (wZ.2 ⟨a,ha,.inr ⟨rfl,e1.symm⟩⟩)
   rw [h.G9 ha,show a.via.length=m by omega] at this;rw [h0,zA,e2,this];unfold zD;rw [if_neg (by omega),Int.neg_neg]
  · exact h.ad9 z ha (by omega)
 omega
theorem Valid.al8 {z:Int->Int} {a:Ar} (ha:a∈p.ah) {m:Nat} (hm:m+1<(au p a).length) {f:Pt->Pt->Int}
  (h0:∀ c∈p.ah,z c.id≠0->∀ k,k+1<(au p c).length->¬ (c=a/\k=m)->f ((au p c).getD k aB) ((au p c).getD (k+1) aB)=0) :
  cu p z f=z a.id*f ((au p a).getD m aB) ((au p a).getD (m+1) aB):=by
 unfold cu jM;have:=Kq p.ah (·.id) h.sound.ah (fun _=>z a.id*f ((au p a).getD m aB) ((au p a).getD (m+1) aB)) a.id ⟨a,ha,rfl⟩
 rw [<- this];refine fV _ _ _ fun c hc=>?_;by_cases hz0:z c.id=0
 ·rw [hz0,Int.zero_mul];by_cases e:a.id=c.id
  · rw [if_pos e,e,hz0,Int.zero_mul]
  · rw [if_neg e]
 by_cases e:a.id=c.id
 ·have:=h.Xn ha hc e
  subst this;rw [if_pos rfl,NV _ m (fun k=>f ((au p a).getD k aB) ((au p a).getD (k+1) aB)) (fun k hk hne=>h0 a ha hz0 k (by omega) (fun e=>hne e.2)),if_pos (by omega)]
 · rw [if_neg e,yA _ _ (fun k hk=>h0 c hc hz0 k (by have:=List.mem_range.1 hk;omega) (fun e2=>e (by rw [e2.1]))),Int.mul_zero]
def xA (p:Pl) (z:Int->Int) (τ:Int):Prop:=∀ a∈p.ah,z a.id≠0->∀ k,k<(au p a).length->2*hY ((au p a).getD k aB)≠τ
omit h in
theorem xA.odd (z:Int->Int) {τ:Int} (hτ:τ % 2=1):xA p z τ:=fun a _ _ k _=>by omega
omit h in
theorem SA {z:Int->Int} {f g:Pt->Pt->Int} (h:∀ a∈p.ah,z a.id≠0->∀ k,k+1<(au p a).length->f ((au p a).getD k aB) ((au p a).getD (k+1) aB)=g ((au p a).getD k aB) ((au p a).getD (k+1) aB)):cu p z f=cu p z g:=by
 unfold cu jM;refine fV _ _ _ fun a ha=>?_;by_cases h0:z a.id=0
 · rw [h0,Int.zero_mul,Int.zero_mul]
 · rw [fV _ _ (fun k=>g ((au p a).getD k aB) ((au p a).getD (k+1) aB)) (fun k hk=>h a ha h0 k (by have:=List.mem_range.1 hk;omega))]
theorem Valid.beyond {z:Int->Int} (hz:fZ p z) {D:Int} (hD:0<D) (hd:∀ a∈p.ah,∀ k,k+1<(au p a).length->hY ((au p a).getD (k+1) aB)-hY ((au p a).getD k aB)∣D)
  {τ:Int} (hτ:xA p z τ) {c:Ar} (hc:c∈p.ah) {m:Nat} (hm:m+1<(au p c).length) {s t:Pt}
  (he:(s=(au p c).getD m aB/\t=(au p c).getD (m+1) aB)\/(t=(au p c).getD m aB/\s=(au p c).getD (m+1) aB)) (h1:2*hY s<τ) (h2:τ<2*hY t) :
  cu p z (fun a b=>if xE D s t τ<xE D a b τ then dZ τ a b else 0)=lV p z s t:=by
 have ht:=h.Kr hz (fun v=>-wR s t τ v);have e:cu p z (fun a b=>if xE D s t τ<xE D a b τ then dZ τ a b else 0)=cu p z (fun a b=>rH s t a b+(-wR s t τ b - -wR s t τ a)):=by
  refine SA fun a ha hza k hk=>?_;have na:=h.bV ha (k:=k) (by omega);have nb:=h.bV ha (k:=k+1) hk;have n1:=h.bV hc (k:=m) (by omega);have n2:=h.bV hc (k:=m+1) hm;have hne:=(h.distinct ha hk).1;have NM:=fun h1 h2 h3 h4=>h.XG ha hc hk hm h1 h2 h3 h4;have da:=hd a ha k hk;have fx:=hτ a ha hza k (by omega);have fy:=hτ a ha hza (k+1) hk;have dc:=hd c hc m hm;generalize (au p a).getD k aB=x at *;generalize (au p a).getD (k+1) aB=y at *;generalize (au p c).getD m aB=e at *;generalize (au p c).getD (m+1) aB=f at *;have ns:aW s=true:=by rcases he with ⟨rfl,-⟩ | ⟨-,rfl⟩<;>assumption
  have nt:aW t=true:=by rcases he with ⟨-,rfl⟩ | ⟨rfl,-⟩<;>assumption
  have dst:hY t-hY s∣D:=by
   rcases he with ⟨rfl,rfl⟩ | ⟨rfl,rfl⟩
   · exact dc
   · rw [show hY t-hY s=-(hY s-hY t) by omega];exact Int.neg_dvd.2 dc
  have N8:x≠s->x≠t->y≠s->y≠t->nU x y s t:=fun h1 h2 h3 h4=>by
   rcases he with ⟨rfl,rfl⟩ | ⟨rfl,rfl⟩
   · exact NM h1 h2 h3 h4
   · exact (NM h2 h1 h4 h3).comm.flip.comm
  have hst:hY s<hY t:=by omega
  have up:∀ {a b:Pt},2*hY a≠τ->2*hY b≠τ->aW a=true->aW b=true->hY a<hY b->hY b-hY a∣D->(a≠s->a≠t->b≠s->b≠t->nU a b s t) ->
    (if xE D s t τ<xE D a b τ then dZ τ a b else 0)=rH s t a b+(-wR s t τ b - -wR s t τ a):=by
   intro a b fa fb na nb hab da NM;have e:=al0 na nb ns nt hab hst NM fa fb h1 h2;have k:=(Oe (τ:=τ) hD hab hst da dst).1;have e2:rH s t a b+(-wR s t τ b - -wR s t τ a)=rH s t a b+(wR s t τ a-wR s t τ b):=by omega
   rw [e2,<- e];unfold dZ;by_cases g:0<dX a b s t τ
   ·rw [if_pos (k.2 g)];by_cases g1:2*hY a<τ<;>by_cases g2:τ<2*hY b
    · rw [if_pos g2,if_neg (by omega),if_pos ⟨g1,g2,g⟩];rfl
    · rw [if_neg g2,if_neg (by omega),if_neg (fun e=>g2 e.2.1)];rfl
    · rw [if_pos g2,if_pos (by omega),if_neg (fun e=>g1 e.1)];rfl
    · omega
   · rw [if_neg (fun e=>g (k.1 e)),if_neg (fun e=>g e.2.2)]
  rcases Int.lt_trichotomy (hY x) (hY y) with c1 | c1 | c1
  · exact up fx fy na nb c1 da N8
  · exact absurd (nT na nb c1) hne
  ·have:=up fy fx nb na c1 (by rw [show hY x-hY y=-(hY y-hY x) by omega];exact Int.neg_dvd.2 da) (fun h1 h2 h3 h4=>(N8 h3 h4 h1 h2).flip)
   rw [EU D x y τ,ad5 s t x y] at this;have e3:dZ τ y x=-dZ τ x y:=by unfold dZ;omega
   rw [e3] at this;split at this<;>split<;>first | omega | contradiction
 rw [e,H8 p z (rH s t) (fun a b=>-wR s t τ b - -wR s t τ a),ht,Int.add_zero];rfl
end
theorem SB {τ:Int} {x y:Pt} (hx:2*hY x≠τ) (hy:2*hY y≠τ) (h0:dZ τ x y≠0):(2*hY x<τ/\τ<2*hY y/\dZ τ x y=1)\/(2*hY y<τ/\τ<2*hY x/\dZ τ x y=-1):=by
 unfold dZ at *;by_cases c1:τ<2*hY y<;>by_cases c2:τ<2*hY x
 · exact absurd (by rw [if_pos c1,if_pos c2];rfl) h0
 · exact .inl ⟨by omega,c1,by rw [if_pos c1,if_neg c2];rfl⟩
 · exact .inr ⟨by omega,c2,by rw [if_neg c1,if_pos c2];rfl⟩
 · exact absurd (by rw [if_neg c1,if_neg c2];rfl) h0
section
variable {p:Pl} (h:Valid p)
include h
theorem Valid.al9 {D:Int} (hD:0<D) (hd:∀ a∈p.ah,∀ k,k+1<(au p a).length->hY ((au p a).getD (k+1) aB)-hY ((au p a).getD k aB)∣D)
  {τ:Int} {z:Int->Int} (hτ:xA p z τ) {c d:Ar} (hc:c∈p.ah) (hzc:z c.id≠0) (hd':d∈p.ah) (hzd:z d.id≠0) {k m:Nat} (hk:k+1<(au p c).length) (hm:m+1<(au p d).length) (hne:¬ (c=d/\k=m))
  (h1:dZ τ ((au p c).getD k aB) ((au p c).getD (k+1) aB)≠0) (h2:dZ τ ((au p d).getD m aB) ((au p d).getD (m+1) aB)≠0) :
  xE D ((au p d).getD m aB) ((au p d).getD (m+1) aB) τ≠xE D ((au p c).getD k aB) ((au p c).getD (k+1) aB) τ:=by
 have dc:=hd c hc k hk;have dd:=hd d hd' m hm;have N:=fun a b s t=>h.al4 (a:=a) (b:=b) (s:=s) (t:=t) hc hd' hk hm hne;have s1:=SB (hτ c hc hzc k (by omega)) (hτ c hc hzc (k+1) hk) h1;have s2:=SB (hτ d hd' hzd m (by omega)) (hτ d hd' hzd (m+1) hm) h2;generalize (au p c).getD k aB=u at *;generalize (au p c).getD (k+1) aB=v at *;generalize (au p d).getD m aB=x at *;generalize (au p d).getD (m+1) aB=y at *;have dc':hY u-hY v∣D:=by rw [show hY u-hY v=-(hY v-hY u) by omega];exact Int.neg_dvd.2 dc
 have dd':hY x-hY y∣D:=by rw [show hY x-hY y=-(hY y-hY x) by omega];exact Int.neg_dvd.2 dd
 intro e;rcases s1 with ⟨a1,a2,-⟩ | ⟨a1,a2,-⟩<;>rcases s2 with ⟨b1,b2,-⟩ | ⟨b1,b2,-⟩
 · exact N u v x y (.inl ⟨rfl,rfl⟩) (.inl ⟨rfl,rfl⟩) b1 b2 a1 a2 ((Oe hD (by omega) (by omega) dc dd).2.1 e)
 · exact N u v y x (.inl ⟨rfl,rfl⟩) (.inr ⟨rfl,rfl⟩) b1 b2 a1 a2 ((Oe hD (by omega) (by omega) dc dd').2.1 (by rw [EU];exact e))
 · exact N v u x y (.inr ⟨rfl,rfl⟩) (.inl ⟨rfl,rfl⟩) b1 b2 a1 a2 ((Oe hD (by omega) (by omega) dc' dd).2.1 (by rw [EU D u v];exact e))
 · exact N v u y x (.inr ⟨rfl,rfl⟩) (.inr ⟨rfl,rfl⟩) b1 b2 a1 a2 ((Oe hD (by omega) (by omega) dc' dd').2.1 (by rw [EU,EU D u v];exact e))
theorem Valid.Yn {z:Int->Int} (hz:fZ p z) {D:Int} (hD:0<D) (hd:∀ a∈p.ah,∀ k,k+1<(au p a).length->hY ((au p a).getD (k+1) aB)-hY ((au p a).getD k aB)∣D) {τ:Int} (hτ:xA p z τ)
  {a:Ar} (ha:a∈p.ah) {k:Nat} (hk:k+1<(au p a).length) (hs:(2*hY ((au p a).getD k aB)<τ/\τ<2*hY ((au p a).getD (k+1) aB))\/(2*hY ((au p a).getD (k+1) aB)<τ/\τ<2*hY ((au p a).getD k aB))) :
  mV (oN p z D τ) (xE D ((au p a).getD k aB) ((au p a).getD (k+1) aB) τ)=(if hY ((au p a).getD k aB)<hY ((au p a).getD (k+1) aB) then Hz p z (-a.id) else Hz p z a.id) /\
  (z a.id≠0->Bq (oN p z D τ) (xE D ((au p a).getD k aB) ((au p a).getD (k+1) aB) τ)=(if hY ((au p a).getD k aB)<hY ((au p a).getD (k+1) aB) then Hz p z a.id else Hz p z (-a.id))):=by
 have hp:=h.Dc hz ha;obtain ⟨r1,r2⟩:=h.Og hz ha hk;have own:=fun (hz0:z a.id≠0) (hs0:dZ τ ((au p a).getD k aB) ((au p a).getD (k+1) aB)≠0)=>h.al8 (z:=z) ha hk (f:=fun x y=>if xE D ((au p a).getD k aB) ((au p a).getD (k+1) aB) τ=xE D x y τ then dZ τ x y else 0) (fun c hc hzc m hm hne=>by
  by_cases g:dZ τ ((au p c).getD m aB) ((au p c).getD (m+1) aB)=0
  · rw [g];split<;>rfl
  · exact if_neg (h.al9 hD hd hτ hc hzc ha hz0 hm hk hne g hs0))
 rw [if_pos rfl] at own;have Yo:=h.beyond hz hD hd hτ ha hk (s:=(au p a).getD k aB) (t:=(au p a).getD (k+1) aB) (.inl ⟨rfl,rfl⟩);have SC:=h.beyond hz hD hd hτ ha hk (t:=(au p a).getD k aB) (s:=(au p a).getD (k+1) aB) (.inr ⟨rfl,rfl⟩);rw [EU D ((au p a).getD k aB)] at SC;rw [r1] at Yo;rw [r2] at SC;have sg:dZ τ ((au p a).getD k aB) ((au p a).getD (k+1) aB)=if hY ((au p a).getD k aB)<hY ((au p a).getD (k+1) aB) then 1 else -1:=by
  unfold dZ;rcases hs with ⟨g1,g2⟩ | ⟨g1,g2⟩
  · rw [if_pos g2,if_neg (by omega),if_pos (by omega)];rfl
  · rw [if_neg (by omega),if_pos g2,if_neg (by omega)];rfl
 generalize xE D ((au p a).getD k aB) ((au p a).getD (k+1) aB) τ=X at *;have bS:mV (oN p z D τ) X=cu p z (fun a b=>if X<xE D a b τ then dZ τ a b else 0) :=
  Ky p z D τ (fun x s=>if X<x then s else 0) (fun x c s=>by split<;>simp)
 have bE:Bq (oN p z D τ) X=cu p z (fun a b=>if X<xE D a b τ then dZ τ a b else 0)+cu p z (fun a b=>if X=xE D a b τ then dZ τ a b else 0):=by
  rw [<- H8];have:=Ky p z D τ (fun x s=>if X<=x then s else 0) (fun x c s=>by split<;>simp)
  refine this.trans (NW fun c _ m _=>?_);rcases Int.lt_trichotomy X (xE D ((au p c).getD m aB) ((au p c).getD (m+1) aB) τ) with g | g | g
  · rw [if_pos (by omega),if_pos g,if_neg (by omega)];omega
  · rw [if_pos (by omega),if_neg (by omega),if_pos g];omega
  · rw [if_neg (by omega),if_neg (by omega),if_neg (by omega)];rfl
 rw [bS];have own':=fun hz0=>own hz0 (by rw [sg];split<;>omega);rcases hs with ⟨g1,g2⟩ | ⟨g1,g2⟩
 ·rw [if_pos (by omega)] at sg ⊢;rw [if_pos (by omega)];refine ⟨Yo g1 g2,fun hz0=>?_⟩;rw [bE,own' hz0,Yo g1 g2,sg];omega
 ·rw [if_neg (by omega)] at sg ⊢;rw [if_neg (by omega)];refine ⟨SC g1 g2,fun hz0=>?_⟩;rw [bE,own' hz0,SC g1 g2,sg];omega
theorem Valid.ama {z:Int->Int} (hz:fZ p z) (D τ:Int):((oN p z D τ).map (·.2)).sum=0:=by
 rw [Ky p z D τ (fun _ s=>s) (fun _ _ _=>rfl)];exact h.Kr hz (fun v=>if τ<2*hY v then 1 else 0)
theorem Valid.aev {z:Int->Int} (hz:fZ p z) (hw:∀ a∈p.ah,z a.id≠0->(Hz p z (-a.id)=0/\Hz p z a.id=1)\/(Hz p z (-a.id)=1/\Hz p z a.id=0))
  {D:Int} (hD:0<D) (hd:∀ a∈p.ah,∀ k,k+1<(au p a).length->hY ((au p a).getD (k+1) aB)-hY ((au p a).getD k aB)∣D) {τ:Int} (hτ:xA p z τ) :
  ∀ u∈oN p z D τ,u.2≠0->(mV (oN p z D τ) u.1=0/\Bq (oN p z D τ) u.1=1)\/(mV (oN p z D τ) u.1=1/\Bq (oN p z D τ) u.1=0):=by
 intro u hu hu0;obtain ⟨a,ha,hu⟩:=List.mem_flatMap.1 hu;obtain ⟨k,hk,rfl⟩:=List.mem_map.1 hu;have hk:=List.mem_range.1 hk;have hk:k+1<(au p a).length:=by omega
 simp only at hu0 ⊢;have hz0:z a.id≠0:=fun e=>hu0 (by rw [e,Int.zero_mul]);have hs0:dZ τ ((au p a).getD k aB) ((au p a).getD (k+1) aB)≠0:=fun e=>hu0 (by rw [e,Int.mul_zero]);have hW:=hw a ha hz0;have hsp:=SB (hτ a ha hz0 k (by omega)) (hτ a ha hz0 (k+1) hk) hs0;obtain ⟨b1,b2⟩:=h.Yn hz hD hd hτ ha hk (by
  rcases hsp with ⟨g1,g2,-⟩ | ⟨g1,g2,-⟩
  · exact .inl ⟨g1,g2⟩
  · exact .inr ⟨g1,g2⟩)
 rw [b1,b2 hz0];split<;>omega
theorem Valid.amb {z:Int->Int} (hz:fZ p z) (hw:∀ a∈p.ah,z a.id≠0->(Hz p z (-a.id)=0/\Hz p z a.id=1)\/(Hz p z (-a.id)=1/\Hz p z a.id=0))
  {D:Int} (hD:0<D) (hd:∀ a∈p.ah,∀ k,k+1<(au p a).length->hY ((au p a).getD (k+1) aB)-hY ((au p a).getD k aB)∣D) {τ:Int} (hτ:τ % 2=1) :
  0<=cu p z (fun a b=>xE D a b τ*dZ τ a b)/\((∃ a∈p.ah,∃ k,k+1<(au p a).length/\z a.id≠0/\dZ τ ((au p a).getD k aB) ((au p a).getD (k+1) aB)≠0)->0<cu p z (fun a b=>xE D a b τ*dZ τ a b)):=by
 have e0:=Ky p z D τ (fun x s=>x*s) (fun x c s=>by grind);have:=al5 (h.aev hz hw hD hd (xA.odd z hτ)) (h.ama hz D τ)
 rw [e0] at this;refine ⟨this.1,fun ⟨a,ha,k,hk,h4,h5⟩=>this.2 ⟨(xE D ((au p a).getD k aB) ((au p a).getD (k+1) aB) τ,z a.id*dZ τ ((au p a).getD k aB) ((au p a).getD (k+1) aB)),?_,fun e=>?_⟩⟩
 · exact List.mem_flatMap.2 ⟨a,ha,List.mem_map.2 ⟨k,List.mem_range.2 (by omega),rfl⟩⟩
 ·rcases Int.mul_eq_zero.1 e with e | e
  · exact h4 e
  · exact h5 e
theorem Valid.amc {z:Int->Int} (hz:fZ p z) {T:Nat} (hT:∀ q,aW q=true->-(T:Int)<=hY q/\hY q<=T)
  {D:Int} (hd:∀ a∈p.ah,∀ k,k+1<(au p a).length->hY ((au p a).getD (k+1) aB)-hY ((au p a).getD k aB)∣D) :
  D*(8388608*cu p z sV)=((List.range (2*T)).map fun j=>cu p z (fun a b=>xE D a b (kT T j)*dZ (kT T j) a b)).sum:=by
 rw [<- aeu p z (fun j a b=>xE D a b (kT T j)*dZ (kT T j) a b),<- Yk,<- Yk];have t:=h.Kr hz (fun v=>D*(v.x*hY v));have e:cu p z (fun a b=>((List.range (2*T)).map fun j=>xE D a b (kT T j)*dZ (kT T j) a b).sum)=cu p z (fun a b=>D*(8388608*sV a b)+(D*(b.x*hY b)-D*(a.x*hY a))):=by
  refine NW fun a ha k hk=>?_;have na:=h.bV ha (k:=k) (by omega);have nb:=h.bV ha (k:=k+1) hk;have hne:=(h.distinct ha hk).1;have da:=hd a ha k hk;generalize (au p a).getD k aB=x at *;generalize (au p a).getD (k+1) aB=y at *;have hn:hY y-hY x≠0:=fun e=>hne (nT na nb (by omega));have es:=al6 (hT x na) (hT y nb);obtain ⟨q,hq⟩:=da;have eq:D / (hY y-hY x)=q:=by rw [hq];exact Int.mul_ediv_cancel_left _ hn
  unfold xE;rw [eq,fV _ _ (fun j=>q*(dZ (kT T j) x y*xN x y (kT T j))) (fun j _=>by grind),Bo,es];have hc:8388608*sV x y=x.x*hY y-y.x*hY x:=by unfold sV hY;grind
  rw [hc,hq];generalize hY x=A;generalize hY y=B
  grind
 rw [e,H8 p z (fun a b=>D*(8388608*sV a b)) (fun a b=>D*(b.x*hY b)-D*(a.x*hY a)),t,Int.add_zero]
theorem Valid.SE {z:Int->Int} (hz:fZ p z) (hw:∀ a∈p.ah,z a.id≠0->(Hz p z (-a.id)=0/\Hz p z a.id=1)\/(Hz p z (-a.id)=1/\Hz p z a.id=0)) :
  0<=cu p z sV/\((∃ a∈p.ah,z a.id≠0)->0<cu p z sV):=by
 obtain ⟨T,hT⟩:∃ T:Nat,∀ q,aW q=true->-(T:Int)<=hY q/\hY q<=T:=⟨17592188141568,fun q hq=>by
  rw [wL] at hq;unfold hY;omega⟩
 have hsep:∀ a∈p.ah,∀ k,k+1<(au p a).length->hY ((au p a).getD (k+1) aB)-hY ((au p a).getD k aB)≠0:=fun a ha k hk e =>
  (h.distinct ha hk).1 (nT (h.bV ha (by omega)) (h.bV ha hk) (by omega))
 obtain ⟨D,hD,hd⟩:∃ D:Int,0<D/\∀ a∈p.ah,∀ k,k+1<(au p a).length->hY ((au p a).getD (k+1) aB)-hY ((au p a).getD k aB)∣D:=by
  obtain ⟨D,h1,h2⟩:=Ym (p.ah.flatMap fun a=>(List.range ((au p a).length-1)).map fun k=>hY ((au p a).getD (k+1) aB)-hY ((au p a).getD k aB)) (fun x hx=>by
   obtain ⟨a,ha,hx⟩:=List.mem_flatMap.1 hx;obtain ⟨k,hk,rfl⟩:=List.mem_map.1 hx;exact hsep a ha k (by have:=List.mem_range.1 hk;omega))
  exact ⟨D,h1,fun a ha k hk=>h2 _ (List.mem_flatMap.2 ⟨a,ha,List.mem_map.2 ⟨k,List.mem_range.2 (by omega),rfl⟩⟩)⟩
 have e:=h.amc hz hT hd;have odd:∀ j,kT T j % 2=1:=fun j=>by unfold kT;omega
 have S:=fun j=>h.amb hz hw hD hd (odd j);refine ⟨?_,fun ⟨a,ha,hza⟩=>?_⟩
 ·have h0:=X0 (List.range (2*T)) (fun j=>cu p z (fun a b=>xE D a b (kT T j)*dZ (kT T j) a b)) (fun j _=>(S j).1);rw [<- e] at h0;apply Classical.byContradiction;intro hn;have:=Int.mul_neg_of_pos_of_neg hD (show 8388608*cu p z sV<0 by omega)
  omega
 ·have hl:=fJ p a;have hk:0+1<(au p a).length:=by omega
  have hs:=hsep a ha 0 hk;have t0:=hT _ (h.bV ha (k:=0) (by omega));have t1:=hT _ (h.bV ha (k:=0+1) hk);have h0:=aer (List.range (2*T)) (fun j=>cu p z (fun a b=>xE D a b (kT T j)*dZ (kT T j) a b)) (fun j _=>(S j).1) (by
   refine ⟨(min (hY ((au p a).getD 0 aB)) (hY ((au p a).getD (0+1) aB))+T).toNat,List.mem_range.2 (by omega),?_⟩;refine (S _).2 ⟨a,ha,0,hk,hza,?_⟩;unfold dZ kT;generalize hY ((au p a).getD 0 aB)=A at *;generalize hY ((au p a).getD (0+1) aB)=B at *;have hj:(((min A B+T).toNat:Nat):Int)=min A B+T:=by omega
   rw [hj];by_cases c:A<B
   · rw [if_pos (by omega),if_neg (by omega)];omega
   · rw [if_neg (by omega),if_pos (by omega)];omega)
  rw [<- e] at h0;apply Classical.byContradiction;intro hn;have:=Int.mul_nonpos_of_nonneg_of_nonpos (show 0<=D by omega) (show 8388608*cu p z sV<=0 by omega)
  omega
end
end Go.Proofs.YtialfdomhoojiaaGreat
