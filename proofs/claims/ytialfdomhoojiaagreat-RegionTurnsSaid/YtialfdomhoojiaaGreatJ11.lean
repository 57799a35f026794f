import Derived.Test.YtialfdomhoojiaaGreatJ10
import Derived.Test.YtialfdomhoojiaaGreatJ08
set_option linter.unusedSimpArgs false
set_option linter.unusedVariables false
namespace Go.Proofs.YtialfdomhoojiaaGreat
open Go.RowKit
def xN (a b:Pt) (τ:Int):Int:=a.x*(2*hY b-τ)+b.x*(τ-2*hY a)
def fB (τ:Int) (a b:Pt):Int:=(if τ<2*hY b then 1 else 0)-(if τ<2*hY a then 1 else 0)
def wR (s t:Pt) (τ:Int) (v:Pt):Int:=if hY s<hY v/\2*hY v<τ/\tw s t v<0 then 1 else 0
def dX (a b s t:Pt) (τ:Int):Int:=xN a b τ*(hY t-hY s)-xN s t τ*(hY b-hY a)
theorem ane (a b:Pt) (τ:Int):xN b a τ=-xN a b τ:=by unfold xN;grind
theorem afe (a b s t:Pt):dX a b s t (2*hY s)=16777216*(hY t-hY s)*tw a b s:=by unfold dX xN tw hY;grind
theorem aff (a b s t:Pt):dX a b s t (2*hY t)=16777216*(hY t-hY s)*tw a b t:=by unfold dX xN tw hY;grind
theorem afg (a b s t:Pt):dX a b s t (2*hY a)=-(16777216*(hY b-hY a)*tw s t a):=by unfold dX xN tw hY;grind
theorem afh (a b s t:Pt):dX a b s t (2*hY b)=-(16777216*(hY b-hY a)*tw s t b):=by unfold dX xN tw hY;grind
theorem ZX (a b s t:Pt) (α τ β:Int):dX a b s t τ*(β-α)=dX a b s t α*(β-τ)+dX a b s t β*(τ-α):=by
 unfold dX xN;generalize hY a=A;generalize hY b=B;generalize hY s=S;generalize hY t=T
 grind
theorem anf {x y z p q:Int} (hp:0<p) (hq:0<q) (e:z*(p+q)=x*p+y*q) :
  (0<x->0<=y->0<z)/\(0<=x->0<y->0<z)/\(x<=0->y<=0->¬ 0<z):=by
 refine ⟨fun h1 h2=>?_,fun h1 h2=>?_,fun h1 h2 h3=>?_⟩
 ·have a1:=Int.mul_pos h1 hp;have a2:=Int.mul_nonneg h2 (Int.le_of_lt hq);apply Classical.byContradiction;intro h3;have:=Int.mul_nonneg (show 0<=-z by omega) (show 0<=p+q by omega)
  rw [Int.neg_mul] at this;omega
 ·have a1:=Int.mul_nonneg h1 (Int.le_of_lt hp);have a2:=Int.mul_pos h2 hq;apply Classical.byContradiction;intro h3;have:=Int.mul_nonneg (show 0<=-z by omega) (show 0<=p+q by omega)
  rw [Int.neg_mul] at this;omega
 ·have a1:=Int.mul_nonneg (show 0<=-x by omega) (Int.le_of_lt hp);have a2:=Int.mul_nonneg (show 0<=-y by omega) (Int.le_of_lt hq);have a3:=Int.mul_pos h3 (show 0<p+q by omega);rw [Int.neg_mul] at a1 a2;omega
theorem Uu {c:Int} (hc:0<c) (u:Int):(0<16777216*c*u↔0<u)/\(0<=16777216*c*u↔0<=u)/\(16777216*c*u<=0↔u<=0):=by
 have h:0<16777216*c:=by omega
 generalize 16777216*c=k at *;rcases Int.lt_trichotomy u 0 with h1 | h1 | h1
 · have:=Int.mul_neg_of_pos_of_neg h h1;omega
 · subst h1;simp
 · have:=Int.mul_pos h h1;omega
theorem ang {a b s t:Pt} {α τ β:Int} (h1:α<τ) (h2:τ<β) :
  (0<dX a b s t α->0<=dX a b s t β->0<dX a b s t τ)/\(0<=dX a b s t α->0<dX a b s t β->0<dX a b s t τ)/\(dX a b s t α<=0->dX a b s t β<=0->¬ 0<dX a b s t τ):=by
 have:=ZX a b s t α τ β
 rw [show β-α=(β-τ)+(τ-α) by omega] at this;exact anf (by omega) (by omega) this
theorem Jd {x y D:Int} (b:(0<x->0<=y->0<D)/\(0<=x->0<y->0<D)/\(x<=0->y<=0->¬ 0<D)) {P:Prop} (h:(P->0<x/\0<=y)\/(P->0<=x/\0<y)) (h2:¬ P->x<=0/\y<=0):0<D↔P:=by
 by_cases hp:P
 ·refine ⟨fun _=>hp,fun _=>?_⟩;rcases h with h | h
  · exact b.1 (h hp).1 (h hp).2
  · exact b.2.1 (h hp).1 (h hp).2
 · exact ⟨fun hd=>absurd hd (b.2.2 (h2 hp).1 (h2 hp).2),fun h=>absurd h hp⟩
theorem anh {A B S T τ D:Int} {P1 P3 P4:Prop} [Decidable P1] [Decidable P3] [Decidable P4] (hab:A<B) (hA:2*A≠τ) (hB:2*B≠τ) (h1:2*S<τ) (h2:τ<2*T)
  (key1:A<S->τ<2*B->(0<D↔P1)) (key2:A=S->τ<2*B->(0<D↔P4)) (ani:S<A->2*A<τ->τ<2*B->(0<D↔P3))
  (g1:A<S->S<B->B<T->(P1↔P4)) (g3:S<A->B<T->(P3↔P4)) :
  (if 2*A<τ/\τ<2*B/\0<D then (1:Int) else 0)=(if A<S/\S<B/\P1 then 1 else 0)+(if A=S/\P4 then 1 else 0)-0+((if S<A/\2*A<τ/\P3 then 1 else 0)-(if S<B/\2*B<τ/\P4 then 1 else 0)):=by
 rcases Int.lt_trichotomy A S with c1 | c1 | c1
 ·have e1:¬ A=S:=by omega
  have e2:¬ S<A:=by omega
  have e3:2*A<τ:=by omega
  simp only [e1,e2,e3,c1,true_and,false_and,if_false];by_cases c2:2*B<τ
  ·have e4:¬ τ<2*B:=by omega
   simp only [c2,e4,true_and,false_and,if_false];by_cases c3:S<B
   ·have:=g1 c1 c3 (by omega)
    simp only [c3,this,true_and];omega
   · simp only [c3,false_and,if_false];rfl
  ·have e4:τ<2*B:=by omega
   have e5:S<B:=by omega
   have:=key1 c1 e4
   simp only [c2,e4,e5,this,true_and,false_and,and_false,if_false];omega
 ·have e1:¬ A<S:=by omega
  have e2:¬ S<A:=by omega
  have e3:2*A<τ:=by omega
  have e5:S<B:=by omega
  simp only [c1,e1,e2,e3,e5,Int.lt_irrefl,true_and,false_and,if_false,h1];by_cases c2:2*B<τ
  ·have e4:¬ τ<2*B:=by omega
   simp only [c2,e4,true_and,false_and,if_false];omega
  ·have e4:τ<2*B:=by omega
   have:=key2 c1 e4
   simp only [c2,e4,this,true_and,false_and,if_false];omega
 ·have e1:¬ A<S:=by omega
  have e2:¬ A=S:=by omega
  have e5:S<B:=by omega
  simp only [e1,e2,c1,e5,true_and,false_and,if_false];by_cases c3:2*A<τ
  ·by_cases c2:2*B<τ
   ·have e4:¬ τ<2*B:=by omega
    have:=g3 c1 (by omega)
    simp only [c2,c3,e4,this,true_and,false_and,if_false];omega
   ·have e4:τ<2*B:=by omega
    have:=ani c1 c3 e4
    simp only [c2,c3,e4,this,true_and,false_and,if_false];omega
  ·have e4:¬ 2*B<τ:=by omega
   simp only [c3,e4,false_and,if_false];rfl
theorem anj {a b s t:Pt} (na:aU a=true) (nb:aU b=true) (ns:aU s=true) (nt:aU t=true) (hab:hY a<hY b) (hst:hY s<hY t)
  (hno:a≠s->a≠t->b≠s->b≠t->oL a b s t) {τ:Int} (hA:2*hY a≠τ) (hB:2*hY b≠τ) (h1:2*hY s<τ) (h2:τ<2*hY t) :
  (if 2*hY a<τ/\τ<2*hY b/\0<dX a b s t τ then 1 else 0)=tq s t a b+(wR s t τ a-wR s t τ b):=by
 have d1:=LK ns nb nt;have d2:=LK ns na nt;have q:∀ {u v:Pt},aU u=true->aU v=true->(u=v↔hY u=hY v):=fun hu hv=>⟨fun e=>by rw [e],mg hu hv⟩;have e1:tw s b t=-tw s t b:=aeO s t b;have f1:hY a=hY s->tw a b s=0/\tw s t a=0:=fun h=>by
  have:=mg na ns h
  subst this;exact ⟨CZ a b,CZ a t⟩
 have f2:hY b=hY t->tw a b t=0/\tw s t b=0:=fun h=>by
  have:=mg nb nt h
  subst this;exact ⟨C9 a b,C9 s b⟩
 have f3:hY a≠hY s->hY a≠hY t->hY b≠hY s->hY b≠hY t->_:=fun h1 h2 h3 h4=>aeQ (s:=s) (t:=t) hab hst (hno (fun e=>h1 (by rw [e])) (fun e=>h2 (by rw [e])) (fun e=>h3 (by rw [e])) (fun e=>h4 (by rw [e])));have k1:(a=s/\eH s b t)↔(hY a=hY s/\tw s t b<0):=by rw [d1,q na ns,e1];constructor<;>(rintro ⟨h1,h2⟩;exact ⟨h1,by omega⟩)
 have k2:¬ (b=s/\eH s a t):=by rw [d2,q nb ns];rintro ⟨h1,h2⟩;omega
 have m1:o8 a b s=if hY a<hY s/\hY s<hY b/\0<tw a b s then 1 else 0:=by unfold o8;rw [if_neg (show ¬ (hY b<hY s/\hY s<hY a/\0<tw b a s) by omega)]
 have gS:=afe a b s t;have gT:=aff a b s t;have gA:=afg a b s t;have gB:=afh a b s t;have bw:=fun (α β:Int) (g1:α<τ) (g2:τ<β)=>ang (a:=a) (b:=b) (s:=s) (t:=t) g1 g2;unfold tq;rw [m1,if_neg k2];simp only [k1];unfold wR;have sS:=Uu (show 0<hY t-hY s by omega) (tw a b s);have sT:=Uu (show 0<hY t-hY s by omega) (tw a b t);have sA:=Uu (show 0<hY b-hY a by omega) (tw s t a);have sB:=Uu (show 0<hY b-hY a by omega) (tw s t b);have qJ:=bw (2*hY s) (2*hY b);have Gm:=bw (2*hY s) (2*hY t);have kQ:=bw (2*hY a) (2*hY b);have Gn:=bw (2*hY a) (2*hY t);rw [gS,gB] at qJ;rw [gS,gT] at Gm;rw [gA,gB] at kQ;rw [gA,gT] at Gn;clear hno d1 d2 e1 q na nb ns nt k1 k2 m1 gS gT gA gB bw;generalize dX a b s t τ=D at *;generalize 16777216*(hY t-hY s)*tw a b s=vS at *;generalize 16777216*(hY t-hY s)*tw a b t=vT at *;generalize 16777216*(hY b-hY a)*tw s t a=vA at *;generalize 16777216*(hY b-hY a)*tw s t b=vB at *;generalize tw a b s=u1 at *;generalize tw a b t=u2 at *;generalize tw s t a=u3 at *;generalize tw s t b=u4 at *;generalize hY a=A at *;generalize hY b=B at *;generalize hY s=S at *;generalize hY t=T at *;refine anh hab hA hB h1 h2 (fun c1 c2=>?_) (fun c1 c2=>?_) (fun c1 c3 c2=>?_) (fun c1 c2 c3=>?_) (fun c1 c2=>?_)
 ·rcases Int.lt_trichotomy B T with c4 | c4 | c4
  ·have f3:=(f3 (by omega) (by omega) (by omega) (by omega)).1 c1 (by omega) c4;clear f1 f2 kQ Gn Gm sA sT;exact Jd (qJ h1 c2) (.inl fun hp=>⟨sS.1.2 hp,by omega⟩) (fun hp=>⟨by omega,by omega⟩)
  ·obtain ⟨g1,g2⟩:=f2 c4;clear f1 f2 f3 kQ Gn qJ sA sB;exact Jd (Gm h1 h2) (.inl fun hp=>⟨sS.1.2 hp,by omega⟩) (fun hp=>⟨by omega,by omega⟩)
  ·have f3:=(f3 (by omega) (by omega) (by omega) (by omega)).2.1 c1 c4;clear f1 f2 kQ Gn qJ sA sB;exact Jd (Gm h1 h2) (.inl fun hp=>⟨sS.1.2 hp,by omega⟩) (fun hp=>⟨by omega,by omega⟩)
 ·obtain ⟨g1,g2⟩:=f1 c1;clear f1 f2 f3 kQ Gn Gm sA sT;exact Jd (qJ h1 c2) (.inr fun hp=>⟨by omega,by omega⟩) (fun hp=>⟨by omega,by omega⟩)
 ·rcases Int.lt_trichotomy B T with c4 | c4 | c4
  ·have f3:=(f3 (by omega) (by omega) (by omega) (by omega)).2.2.1 c1 c4;clear f1 f2 Gm Gn qJ sS sT;exact Jd (kQ c3 c2) (.inl fun hp=>⟨by omega,by omega⟩) (fun hp=>⟨by omega,by omega⟩)
  ·obtain ⟨g1,g2⟩:=f2 c4;clear f1 f2 f3 Gm Gn qJ sS sT;exact Jd (kQ c3 c2) (.inl fun hp=>⟨by omega,by omega⟩) (fun hp=>⟨by omega,by omega⟩)
  ·have f3:=(f3 (by omega) (by omega) (by omega) (by omega)).2.2.2 c1 (by omega) c4;clear f1 f2 Gm kQ qJ sS sB;exact Jd (Gn c3 h2) (.inl fun hp=>⟨by omega,by omega⟩) (fun hp=>⟨by omega,by omega⟩)
 · exact (f3 (by omega) (by omega) (by omega) (by omega)).1 c1 c2 c3
 · exact (f3 (by omega) (by omega) (by omega) (by omega)).2.2.1 c1 c2
theorem ank {p q:Pt} {dx dy:Int} (hN:0<8388608*dy+dx) (e:(q.x-p.x)*dy=(q.y-p.y)*dx) :
  (0<=dx->(bJ p q=true↔hY p<hY q))/\(dx<0->(bJ p q=true↔hY q<hY p)):=by
 have k:(8388608*(q.y-p.y)+(q.x-p.x))*dx=(q.x-p.x)*(8388608*dy+dx):=by grind
 have hd:hY q-hY p=8388608*(q.y-p.y)+(q.x-p.x):=by unfold hY;omega
 rw [<- hd] at k;have z:q.x-p.x=0->dx≠0->q.y-p.y=0:=fun h0 h1=>by
  rw [h0,Int.zero_mul] at e;rcases Int.mul_eq_zero.1 e.symm with h2 | h2
  · exact h2
  · exact absurd h2 h1
 rw [oJ];generalize 8388608*dy+dx=N at *;generalize hu:q.x-p.x=u at *;have s1:0<u->0<u*N:=fun h=>Int.mul_pos h hN;have s2:u<0->u*N<0:=fun h=>Int.mul_neg_of_neg_of_pos h hN;have s3:u=0->u*N=0:=fun h=>by rw [h,Int.zero_mul]
 refine ⟨fun h=>?_,fun h=>?_⟩
 ·by_cases h0:dx=0
  ·subst h0;have hu0:u=0:=by
    rcases Int.lt_trichotomy u 0 with g | g | g
    · have:=s2 g;omega
    · exact g
    · have:=s1 g;omega
   unfold hY at *;omega
  ·have hp:0<dx:=by omega
   have t1:0<hY q-hY p->0<(hY q-hY p)*dx:=fun h=>Int.mul_pos h hp;have t2:hY q-hY p<0->(hY q-hY p)*dx<0:=fun h=>Int.mul_neg_of_neg_of_pos h hp;have t3:hY q-hY p=0->(hY q-hY p)*dx=0:=fun h=>by rw [h,Int.zero_mul]
   omega
 ·have t1:0<hY q-hY p->(hY q-hY p)*dx<0:=fun g=>Int.mul_neg_of_pos_of_neg g h;have t2:hY q-hY p<0->0<(hY q-hY p)*dx:=fun g=>Int.mul_pos_of_neg_of_neg g h;have t3:hY q-hY p=0->(hY q-hY p)*dx=0:=fun h=>by rw [h,Int.zero_mul]
  omega
theorem afi {X Y:Pt} (h:bJ X Y=true):(if X=Y then (1:Int) else if bJ X Y then 2 else 0)=2:=by
 rw [if_neg (fun e=>by rw [e,IB] at h;cases h),if_pos h]
theorem anl {a b s t:Pt} (hab:hY a<hY b) (hst:hY s<hY t) (h1:tw a b s=0) (h2:tw a b t=0) (h3:hY s<hY b) (h4:hY a<hY t):mO a b s t=2:=by
 have hN:0<8388608*(b.y-a.y)+(b.x-a.x):=by unfold hY at hab;omega
 have ln:∀ {p q:Pt},tw a b p=0->tw a b q=0->(q.x-p.x)*(b.y-a.y)=(q.y-p.y)*(b.x-a.x):=by
  intro p q hp hq
  have:tw a b q-tw a b p=(b.x-a.x)*(q.y-p.y)-(b.y-a.y)*(q.x-p.x):=by unfold tw;grind
  rw [hp,hq] at this;rw [Int.mul_comm (q.x-p.x),Int.mul_comm (q.y-p.y)];omega
 have B:∀ {p q:Pt},tw a b p=0->tw a b q=0->_:=fun hp hq=>ank hN (ln hp hq);have ha:=CZ a b;have hb:=C9 a b;have ZY:=B hb ha;have Z8:=B h2 h1;have Bsa:=B h1 ha;have Btb:=B h2 hb;have Bab:=B ha hb;have Bat:=B ha h2;have Bsb:=B h1 hb;have Bst:=B h1 h2;have Bta:=B h2 ha;have Bbs:=B hb h1;rw [Ag];by_cases hx:0<=b.x-a.x
 ·have e1:bJ b a=false:=by rw [<- Bool.not_eq_true,ZY.1 hx];omega
  have e2:bJ t s=false:=by rw [<- Bool.not_eq_true,Z8.1 hx];omega
  have l1:lo a b=a:=by unfold lo;rw [e1];simp
  have l2:hi a b=b:=by unfold hi;rw [e1];simp
  have l3:lo s t=s:=by unfold lo;rw [e2];simp
  have l4:hi s t=t:=by unfold hi;rw [e2];simp
  rw [l1,l2,l3,l4];unfold hi lo;refine afi ?_
  cases e3:bJ s a<;>cases e4:bJ t b<;>simp only [Bool.false_eq_true,if_true,if_false]
  · exact (Bsb.1 hx).2 h3
  · exact (Bst.1 hx).2 hst
  · exact (Bab.1 hx).2 hab
  · exact (Bat.1 hx).2 h4
 ·have hx:b.x-a.x<0:=by omega
  have e1:bJ b a=true:=(ZY.2 hx).2 hab;have e2:bJ t s=true:=(Z8.2 hx).2 hst;have l1:lo a b=b:=by unfold lo;rw [e1];simp
  have l2:hi a b=a:=by unfold hi;rw [e1];simp
  have l3:lo s t=t:=by unfold lo;rw [e2];simp
  have l4:hi s t=s:=by unfold hi;rw [e2];simp
  rw [l1,l2,l3,l4];unfold hi lo;refine afi ?_
  cases e3:bJ t b<;>cases e4:bJ s a<;>simp only [Bool.false_eq_true,if_true,if_false]
  · exact (Bta.2 hx).2 h4
  · exact (Z8.2 hx).2 hst
  · exact (ZY.2 hx).2 hab
  · exact (Bbs.2 hx).2 h3
theorem LW {a b s t:Pt} (hab:a≠b) (h1:tw a b s=0) (h2:tw a b t=0):tw s t a=0/\tw s t b=0:=by
 have hne:=Pt.Td hab;unfold tw at *;have e1:(b.x-a.x)*(t.y-s.y)-(b.y-a.y)*(t.x-s.x)=0:=by grind
 have e2:(b.x-a.x)*(a.y-s.y)-(b.y-a.y)*(a.x-s.x)=0:=by grind
 have e3:(b.x-a.x)*(b.y-s.y)-(b.y-a.y)*(b.x-s.x)=0:=by grind
 exact ⟨parallel hne e1 e2,parallel hne e1 e3⟩
theorem Z9 {a b s t u v x y:Pt} (hu:(u=a/\v=b)\/(u=b/\v=a)) (hx:(x=s/\y=t)\/(x=t/\y=s))
  (hab:hY a<hY b) (hst:hY s<hY t) (h1:tw a b s=0) (h2:tw a b t=0) (h3:hY s<hY b) (h4:hY a<hY t):pV u v x y=2:=by
 have hs:=anl hab hst h1 h2 h3 h4;have hne:a≠b:=fun e=>by rw [e] at hab;omega
 obtain ⟨h5,h6⟩:=LW hne h1 h2;have f1:∀ a b c:Pt,tw b a c=-tw a b c:=fun a b c=>by unfold tw;grind
 have hs':mO u v x y=2:=by
  have c1:mO b a s t=2:=by rw [<- IC];exact hs
  have c2:mO a b t s=2:=by rw [Ci,IC,Ci];exact hs
  have c3:mO b a t s=2:=by rw [Ci,IC,Ci];exact c1
  rcases hu with ⟨rfl,rfl⟩ | ⟨rfl,rfl⟩<;>rcases hx with ⟨rfl,rfl⟩ | ⟨rfl,rfl⟩<;>assumption
 have huv:u≠v:=by
  rcases hu with ⟨rfl,rfl⟩ | ⟨rfl,rfl⟩
  · exact hne
  · exact fun e=>hne e.symm
 have z1:tw u v x=0/\tw u v y=0:=by
  rcases hu with ⟨rfl,rfl⟩ | ⟨rfl,rfl⟩<;>rcases hx with ⟨rfl,rfl⟩ | ⟨rfl,rfl⟩<;>first | exact ⟨h1,h2⟩ | exact ⟨h2,h1⟩ | (constructor<;>rw [f1]<;>omega)
 obtain ⟨z2,z3⟩:=LW huv z1.1 z1.2;have q1:aF u v x y=0:=by rw [ZE];omega
 have q2:aF u v u x=0:=z1.1;have q3:aF u v u y=0:=z1.2;have q4:aF x y x u=0:=z2;have q5:aF x y x v=0:=z3;unfold pV;rw [if_neg (fun e=>huv e.1),if_pos q1,if_pos ⟨q2,q3,q4,q5⟩];exact hs'
theorem anm {a b s t:Pt} (na:aU a=true) (nb:aU b=true) (ns:aU s=true) (nt:aU t=true) (hab:hY a<hY b) (hst:hY s<hY t)
  (hno:a≠s->a≠t->b≠s->b≠t->oL a b s t) {τ:Int} (h1:2*hY s<τ) (h2:τ<2*hY t) (h3:2*hY a<τ) (h4:τ<2*hY b)
  (h0:dX a b s t τ=0):tw a b s=0/\tw a b t=0:=by
 have l1:=ZX a b s t (2*hY s) τ (2*hY t);have l2:=ZX a b s t (2*hY a) τ (2*hY b);rw [h0,Int.zero_mul,afe,aff] at l1;rw [h0,Int.zero_mul,afg,afh] at l2;have k1:tw a b s*(2*hY t-τ)+tw a b t*(τ-2*hY s)=0:=by
  have:(16777216*(hY t-hY s))*(tw a b s*(2*hY t-τ)+tw a b t*(τ-2*hY s))=0:=by
   rw [Int.mul_add,<- Int.mul_assoc,<- Int.mul_assoc];exact l1.symm
  rcases Int.mul_eq_zero.1 this with g | g
  · omega
  · exact g
 have k2:tw s t a*(2*hY b-τ)+tw s t b*(τ-2*hY a)=0:=by
  have:(16777216*(hY b-hY a))*(tw s t a*(2*hY b-τ)+tw s t b*(τ-2*hY a))=0:=by
   rw [Int.mul_add,<- Int.mul_assoc,<- Int.mul_assoc];rw [Int.neg_mul,Int.neg_mul] at l2;omega
  rcases Int.mul_eq_zero.1 this with g | g
  · omega
  · exact g
 have sg:∀ {u v p q:Int},0<p->0<q->u*p+v*q=0->(u<=0/\0<=v/\(u=0↔v=0))\/(0<=u/\v<=0/\(u=0↔v=0)):=by
  intro u v p q hp hq e;have a1:0<u->0<u*p:=fun h=>Int.mul_pos h hp;have a2:u<0->u*p<0:=fun h=>Int.mul_neg_of_neg_of_pos h hp;have a3:0<v->0<v*q:=fun h=>Int.mul_pos h hq;have a4:v<0->v*q<0:=fun h=>Int.mul_neg_of_neg_of_pos h hq;have a5:u=0->u*p=0:=fun h=>by rw [h,Int.zero_mul]
  have a6:v=0->v*q=0:=fun h=>by rw [h,Int.zero_mul]
  omega
 have g1:=sg (show 0<2*hY t-τ by omega) (show 0<τ-2*hY s by omega) k1;have g2:=sg (show 0<2*hY b-τ by omega) (show 0<τ-2*hY a by omega) k2;have d:=Pq a b s t;by_cases hp:tw a b t-tw a b s=0
 · omega
 ·by_cases c1:a=s
  ·subst c1;have:=CZ a b
   omega
  by_cases c2:b=t
  ·subst c2;have:=C9 a b
   omega
  have NM:=hno c1 (fun e=>by rw [e] at h3;omega) (fun e=>by rw [e] at h4;omega) c2 hp;omega
section
variable {p:Pl} (h:Valid p)
include h
theorem Valid.afj {a b:Ar} (ha:a∈p.ah) (hb:b∈p.ah) {k m:Nat} (hk:k+1<(ak p a).length) (hm:m+1<(ak p b).length) (hne:¬ (a=b/\k=m)) :
  ¬ (pV ((ak p a).getD k aB) ((ak p a).getD (k+1) aB) ((ak p b).getD m aB) ((ak p b).getD (m+1) aB)=2/\pV ((ak p b).getD m aB) ((ak p b).getD (m+1) aB) ((ak p a).getD k aB) ((ak p a).getD (k+1) aB)=2):=by
 have Py:∀ {c d:Ar} {i j:Nat},c∈p.ah->d∈p.ah->i+1<(ak p c).length->j+1<(ak p d).length->fE [(ak p c).getD i aB,(ak p c).getD (i+1) aB,(ak p d).getD j aB,(ak p d).getD (j+1) aB]=true:=fun hc hd hi hj =>
  Eb (h.bW hc (by omega)) (h.bW hc hi) (h.bW hd (by omega)) (h.bW hd hj)
 have same:∀ {a:Ar} (ha:a∈p.ah) {i j:Nat},i<j->j+1<(ak p a).length->pV ((ak p a).getD i aB) ((ak p a).getD (i+1) aB) ((ak p a).getD j aB) ((ak p a).getD (j+1) aB)≠2:=by
  intro a ha i j hij hj;have hap:=h.uV.2.1 a ha i j hij hj;unfold Cj bI at hap;simp only at hap;unfold iH at hap;rw [if_pos (Py ha ha (by omega) hj)] at hap;intro e;rw [e] at hap;split at hap<;>exact absurd hap (by decide)
 have other:∀ {c d:Ar} {i j:Nat},c∈p.ah->d∈p.ah->i+1<(ak p c).length->j+1<(ak p d).length->sD p (bI p c i) (bI p d j)=true ->
   pV ((ak p c).getD i aB) ((ak p c).getD (i+1) aB) ((ak p d).getD j aB) ((ak p d).getD (j+1) aB)≠2:=by
  intro c d i j hc hd hi hj hjo e;unfold sD bI iH at hjo;simp only at hjo;rw [if_pos (Py hc hd hi hj),e,if_neg (by decide)] at hjo;exact absurd hjo (by decide)
 rintro ⟨h1,h2⟩;by_cases hab:a=b
 ·subst hab;rcases Nat.lt_trichotomy k m with hkm | hkm | hkm
  · exact same ha hkm hm h1
  · exact hne ⟨rfl,hkm⟩
  · exact same ha hkm hk h2
 ·have hpw:=h.uV.2.2;obtain ⟨i,hi,rfl⟩:=List.mem_iff_getElem.1 ha;obtain ⟨j,hj,rfl⟩:=List.mem_iff_getElem.1 hb;rw [List.pairwise_iff_getElem] at hpw;rcases Nat.lt_trichotomy i j with hij | hij | hij
  · exact other ha hb hk hm (hpw i j hi hj hij k hk m hm) h1
  · subst hij;exact hab rfl
  · exact other hb ha hm hk (hpw j i hj hi hij m hm k hk) h2
theorem Valid.ano {c d:Ar} (hc:c∈p.ah) (hd:d∈p.ah) {k m:Nat} (hk:k+1<(ak p c).length) (hm:m+1<(ak p d).length) (hne:¬ (c=d/\k=m)) {a b s t:Pt}
  (hu:((ak p c).getD k aB=a/\(ak p c).getD (k+1) aB=b)\/((ak p c).getD k aB=b/\(ak p c).getD (k+1) aB=a))
  (hx:((ak p d).getD m aB=s/\(ak p d).getD (m+1) aB=t)\/((ak p d).getD m aB=t/\(ak p d).getD (m+1) aB=s))
  {τ:Int} (h1:2*hY s<τ) (h2:τ<2*hY t) (h3:2*hY a<τ) (h4:τ<2*hY b):dX a b s t τ≠0:=by
 intro h0;have n1:=h.bW hc (k:=k) (by omega);have n2:=h.bW hc (k:=k+1) hk;have n3:=h.bW hd (k:=m) (by omega);have n4:=h.bW hd (k:=m+1) hm;have NM:=fun h1 h2 h3 h4=>h.ZG hc hd hk hm h1 h2 h3 h4;have one:=h.afj hc hd hk hm hne;generalize (ak p c).getD k aB=u at *;generalize (ak p c).getD (k+1) aB=v at *;generalize (ak p d).getD m aB=x at *;generalize (ak p d).getD (m+1) aB=y at *;have na:aU a=true/\aU b=true:=by rcases hu with ⟨rfl,rfl⟩ | ⟨rfl,rfl⟩<;>exact ⟨by assumption,by assumption⟩
 have ns:aU s=true/\aU t=true:=by rcases hx with ⟨rfl,rfl⟩ | ⟨rfl,rfl⟩<;>exact ⟨by assumption,by assumption⟩
 have hno:a≠s->a≠t->b≠s->b≠t->oL a b s t:=fun g1 g2 g3 g4=>by
  rcases hu with ⟨rfl,rfl⟩ | ⟨rfl,rfl⟩<;>rcases hx with ⟨rfl,rfl⟩ | ⟨rfl,rfl⟩
  · exact NM g1 g2 g3 g4
  · exact (NM g2 g1 g4 g3).comm.flip.comm
  · exact (NM g3 g4 g1 g2).flip
  · exact (NM g4 g3 g2 g1).flip.comm.flip.comm
 have hab:hY a<hY b:=by omega
 have hst:hY s<hY t:=by omega
 obtain ⟨z1,z2⟩:=anm na.1 na.2 ns.1 ns.2 hab hst hno h1 h2 h3 h4 h0;obtain ⟨z3,z4⟩:=LW (fun e=>by rw [e] at hab;omega) z1 z2;exact one ⟨Z9 hu hx hab hst z1 z2 (by omega) (by omega),Z9 hx hu hst hab z3 z4 (by omega) (by omega)⟩
end
theorem aac {α:Type} (l:List α) (f:α->Int) (h:∀ x∈l,0<=f x):0<=(l.map f).sum:=by
 induction l with
 | nil=>exact Int.le_refl _
 | cons a l ih =>
  rw [List.map_cons,List.sum_cons];have:=h a List.mem_cons_self
  have:=ih fun x hx=>h x (List.mem_cons_of_mem _ hx)
  omega
theorem afk {α:Type} (l:List α) (f:α->Int) (h:∀ x∈l,0<=f x) (h1:∃ x∈l,0<f x):0<(l.map f).sum:=by
 induction l with
 | nil=>obtain ⟨x,hx,-⟩:=h1;cases hx
 | cons a l ih =>
  rw [List.map_cons,List.sum_cons];have h0:=h a List.mem_cons_self;have h2:=aac l f fun x hx=>h x (List.mem_cons_of_mem _ hx);obtain ⟨x,hx,hp⟩:=h1;rcases List.mem_cons.1 hx with rfl | hx
  · omega
  ·have:=ih (fun x hx=>h x (List.mem_cons_of_mem _ hx)) ⟨x,hx,hp⟩
   omega
theorem aad {α:Type} (l:List α) (f:α->List Int):(l.flatMap f).sum=(l.map fun x=>(f x).sum).sum:=by
 induction l with
 | nil=>rfl
 | cons a l ih=>rw [List.flatMap_cons,List.sum_append,ih,List.map_cons,List.sum_cons]
def nV (L:List (Int×Int)) (t:Int):Int:=(L.map fun v=>if t<v.1 then v.2 else 0).sum
def Dh (L:List (Int×Int)) (t:Int):Int:=(L.map fun v=>if t<=v.1 then v.2 else 0).sum
theorem aae {L:List (Int×Int)} (h2:∀ u∈L,u.2≠0->(nV L u.1=0/\Dh L u.1=1)\/(nV L u.1=1/\Dh L u.1=0)) :
  ∀ (n:Nat) (t:Int),(∀ v∈L,v.2≠0->v.1<=t+n)->nV L t=0\/nV L t=1
 | 0,t,h=>by
  left;refine wE _ _ fun v hv=>?_;by_cases h0:v.2=0
  · rw [h0];split<;>rfl
  ·have:=h v hv h0
   rw [if_neg (by omega)]
 | n+1,t,h=>by
  by_cases hx:∃ v∈L,v.2≠0/\v.1=t+1
  ·obtain ⟨u,hu,h0,e⟩:=hx
   have:nV L t=Dh L u.1:=by
    refine iC _ _ _ fun v _=>?_;rw [e];by_cases c:t<v.1
    · rw [if_pos c,if_pos (by omega)]
    · rw [if_neg c,if_neg (by omega)]
   have:=h2 u hu h0
   omega
  ·have e:nV L t=nV L (t+1):=by
    refine iC _ _ _ fun v hv=>?_;by_cases h0:v.2=0
    · rw [h0];split<;>split<;>rfl
    ·have:v.1≠t+1:=fun e=>hx ⟨v,hv,h0,e⟩
     by_cases c:t<v.1
     · rw [if_pos c,if_pos (by omega)]
     · rw [if_neg c,if_neg (by omega)]
   rw [e];refine aae h2 n (t+1) fun v hv h0=>?_;have:=h v hv h0
   omega
theorem aaf:∀ (L:List (Int×Int)),∃ B:Nat,∀ v∈L,-(B:Int)<v.1/\v.1<B
 | []=>⟨0,fun _ h=>by cases h⟩
 | a::L=>by
  obtain ⟨B,hB⟩:=aaf L;refine ⟨B+a.1.natAbs+1,fun v hv=>?_⟩;rcases List.mem_cons.1 hv with rfl | hv
  · omega
  ·have:=hB v hv
   omega
theorem cnt_lt (n m:Nat) (h:m<=n):((List.range n).map fun k:Nat=>if (k:Int)<m then (1:Int) else 0).sum=m:=by
 induction n generalizing m with
 | zero =>
  have:m=0:=by omega
  subst this;rfl
 | succ n ih =>
  rw [List.range_succ,List.map_append,List.sum_append];simp only [List.map_cons,List.map_nil,List.sum_cons,List.sum_nil];by_cases h1:m<=n
  · rw [ih m h1,if_neg (by omega)];omega
  ·have hm:m=n+1:=by omega
   subst hm;rw [if_pos (by omega)];have:=ih n (Nat.le_refl _)
   rw [iC _ _ (fun k:Nat=>if (k:Int)<n then (1:Int) else 0) (fun k hk=>by
    have:=List.mem_range.1 hk
    rw [if_pos (by omega),if_pos (by omega)]),this]
   omega
theorem anp {L:List (Int×Int)} (h2:∀ u∈L,u.2≠0->(nV L u.1=0/\Dh L u.1=1)\/(nV L u.1=1/\Dh L u.1=0)) (h3:(L.map (·.2)).sum=0) :
  0<=(L.map fun u=>u.1*u.2).sum/\((∃ u∈L,u.2≠0)->0<(L.map fun u=>u.1*u.2).sum):=by
 obtain ⟨B,hB⟩:=aaf L;have e:(L.map fun u=>u.1*u.2).sum=((List.range (2*B)).map fun k:Nat=>nV L ((k:Int)-B)).sum:=by
  have e1:(L.map fun u=>u.1*u.2).sum=(L.map fun u=>u.1*u.2+(B:Int)*u.2).sum:=by
   rw [sZ L (fun u=>u.1*u.2) (fun u=>(B:Int)*u.2),Dc L (B:Int) (fun u=>u.2),h3,Int.mul_zero,Int.add_zero]
  rw [e1];unfold nV;rw [ZF];refine iC _ _ _ fun u hu=>?_;have hb:=hB u hu;have c:=cnt_lt (2*B) (u.1+B).toNat (by omega);rw [iC _ _ (fun k:Nat=>u.2*(if (k:Int)<(u.1+B).toNat then (1:Int) else 0)) (fun k hk=>by
   by_cases g:(k:Int)-B<u.1
   · rw [if_pos g,if_pos (by omega),Int.mul_one]
   · rw [if_neg g,if_neg (by omega),Int.mul_zero]),Dc,c,show (((u.1+B).toNat:Nat):Int)=u.1+B by omega]
  rw [<- Int.add_mul,Int.mul_comm]
 have W:∀ t,nV L t=0\/nV L t=1:=fun t=>aae h2 (B+t.natAbs) t fun v hv _=>by
  have:=hB v hv
  omega
 rw [e];refine ⟨aac _ _ fun k _=>?_,fun ⟨u,hu,h0⟩=>afk _ _ (fun k _=>?_) ?_⟩
 · have:=W ((k:Int)-B);omega
 · have:=W ((k:Int)-B);omega
 ·have hb:=hB u hu;rcases h2 u hu h0 with ⟨-,g⟩ | ⟨g,-⟩
  ·refine ⟨(u.1-1+B).toNat,List.mem_range.2 (by omega),?_⟩;rw [show (((u.1-1+B).toNat:Nat):Int)-B=u.1-1 by omega]
   have:nV L (u.1-1)=Dh L u.1:=by
    refine iC _ _ _ fun v _=>?_;by_cases c:u.1<=v.1
    · rw [if_pos c,if_pos (by omega)]
    · rw [if_neg c,if_neg (by omega)]
   omega
  ·refine ⟨(u.1+B).toNat,List.mem_range.2 (by omega),?_⟩;rw [show (((u.1+B).toNat:Nat):Int)-B=u.1 by omega];omega
theorem afl (T:Nat) (u v:Int) (m:Nat):∀ n:Nat,((List.range n).map fun j:Nat=>if 2*(j:Int)+1-2*T<2*((m:Int)-T) then u+v*(2*(j:Int)+1-2*T) else 0).sum=u*(min n m:Nat)+v*((min n m:Nat)*(min n m:Nat)-2*T*(min n m:Nat))
 | 0=>by simp
 | n+1=>by
  rw [List.range_succ,List.map_append,List.sum_append,afl T u v m n];simp only [List.map_cons,List.map_nil,List.sum_cons,List.sum_nil,Int.add_zero];by_cases h:n<m
  ·rw [if_pos (by omega),Nat.min_eq_left (by omega),Nat.min_eq_left (by omega)];rw [show ((n+1:Nat):Int)=(n:Int)+1 by omega]
   grind
  · rw [if_neg (by omega),Nat.min_eq_right (by omega),Nat.min_eq_right (by omega),Int.add_zero]
def lG (T j:Nat):Int:=2*(j:Int)+1-2*T
theorem anq {T:Nat} {a b:Pt} (ha:-(T:Int)<=hY a/\hY a<=T) (hb:-(T:Int)<=hY b/\hY b<=T) :
  ((List.range (2*T)).map fun j=>fB (lG T j) a b*xN a b (lG T j)).sum=(hY b-hY a)*(hY b-hY a)*(a.x+b.x):=by
 have f:∀ c:Pt,-(T:Int)<=hY c/\hY c<=T->((List.range (2*T)).map fun j=>if lG T j<2*hY c then xN a b (lG T j) else 0).sum=2*(a.x*hY b-b.x*hY a)*(hY c+T)+(b.x-a.x)*((hY c+T)*(hY c+T)-2*T*(hY c+T)):=by
  intro c hc;have:=afl T (2*(a.x*hY b-b.x*hY a)) (b.x-a.x) (hY c+T).toNat (2*T)
  rw [Nat.min_eq_right (by omega),show (((hY c+T).toNat:Nat):Int)=hY c+T by omega] at this;rw [<- this];refine iC _ _ _ fun j _=>?_;have e:xN a b (lG T j)=2*(a.x*hY b-b.x*hY a)+(b.x-a.x)*lG T j:=by unfold xN;grind
  rw [e,show hY c+(T:Int)-T=hY c by omega];rfl
 have e:((List.range (2*T)).map fun j=>fB (lG T j) a b*xN a b (lG T j)).sum=((List.range (2*T)).map fun j=>(if lG T j<2*hY b then xN a b (lG T j) else 0) + -(if lG T j<2*hY a then xN a b (lG T j) else 0)).sum:=by
  refine iC _ _ _ fun j _=>?_;unfold fB;split<;>split<;>omega
 rw [e,sZ,vk,f b hb,f a ha];generalize hY a=A;generalize hY b=B
 grind
theorem aag (p:Pl) (z:Int->Int) (c:Int) (f:Pt->Pt->Int):bZ p z (fun a b=>c*f a b)=c*bZ p z f:=by
 unfold bZ jY;rw [<- Dc];refine iC _ _ _ fun a _=>?_;rw [Dc,<- Int.mul_assoc,Int.mul_comm (z a.id),Int.mul_assoc]
theorem anr (p:Pl) (z:Int->Int):bZ p z (fun _ _=>0)=0:=by
 have:=aag p z 0 (fun _ _=>0)
 rw [Int.zero_mul] at this;simpa using this
theorem afm {β:Type} (p:Pl) (z:Int->Int) (f:β->Pt->Pt->Int):∀ l:List β,bZ p z (fun a b=>(l.map fun j=>f j a b).sum)=(l.map fun j=>bZ p z (f j)).sum
 | []=>anr p z
 | j::l=>by
  simp only [List.map_cons,List.sum_cons];rw [I9 p z (f j) (fun a b=>(l.map fun j=>f j a b).sum),afm p z f l]
def xE (D:Int) (a b:Pt) (τ:Int):Int:=xN a b τ*(D / (hY b-hY a))
theorem Gp (D:Int) (a b:Pt) (τ:Int):xE D b a τ=xE D a b τ:=by
 unfold xE;rw [ane,show hY a-hY b=-(hY b-hY a) by omega,Int.ediv_neg,Int.neg_mul_neg]
theorem PG {D:Int} (hD:0<D) {a b s t:Pt} {τ:Int} (hab:hY a<hY b) (hst:hY s<hY t) (d1:hY b-hY a∣D) (d2:hY t-hY s∣D) :
  (xE D s t τ<xE D a b τ↔0<dX a b s t τ)/\(xE D s t τ=xE D a b τ↔dX a b s t τ=0):=by
 obtain ⟨q,hq⟩:=d1;obtain ⟨r,hr⟩:=d2;unfold xE;have e1:D / (hY b-hY a)=q:=by rw [hq];exact Int.mul_ediv_cancel_left _ (by omega)
 have e2:D / (hY t-hY s)=r:=by rw [hr];exact Int.mul_ediv_cancel_left _ (by omega)
 rw [e1,e2];unfold dX;generalize xN a b τ=X at *;generalize xN s t τ=Y at *;have hn:0<hY b-hY a:=by omega
 have hm:0<hY t-hY s:=by omega
 generalize hY b-hY a=n at *;generalize hY t-hY s=m at *;have k:(X*q-Y*r)*(n*m)=D*(X*m-Y*n):=by
  have h1:(X*q-Y*r)*(n*m)=(n*q)*(X*m)-(m*r)*(Y*n):=by grind
  rw [h1,<- hq,<- hr,Int.mul_sub]
 have hnm:=Int.mul_pos hn hm;generalize n*m=w at *;generalize X*m-Y*n=x at *;have a1:0<X*q-Y*r->0<(X*q-Y*r)*w:=fun h=>Int.mul_pos h hnm;have a2:X*q-Y*r<0->(X*q-Y*r)*w<0:=fun h=>Int.mul_neg_of_neg_of_pos h hnm;have a3:X*q-Y*r=0->(X*q-Y*r)*w=0:=fun h=>by rw [h,Int.zero_mul]
 have b1:0<x->0<D*x:=fun h=>Int.mul_pos hD h;have b2:x<0->D*x<0:=fun h=>Int.mul_neg_of_pos_of_neg hD h;have b3:x=0->D*x=0:=fun h=>by rw [h,Int.mul_zero]
 rw [k] at a1 a2 a3;generalize D*x=Dx at *;generalize X*q=g1 at *;generalize Y*r=g2 at *;constructor<;>constructor<;>intro<;>omega
theorem aah:∀ l:List Int,(∀ x∈l,x≠0)->∃ D,0<D/\∀ x∈l,x∣D
 | [],_=>⟨1,by omega,fun _ h=>by cases h⟩
 | a::l,h=>by
  obtain ⟨D,h1,h2⟩:=aah l fun x hx=>h x (List.mem_cons_of_mem _ hx);have ha:=h a List.mem_cons_self;refine ⟨(a.natAbs:Int)*D,Int.mul_pos (by omega) h1,fun x hx=>?_⟩;rcases List.mem_cons.1 hx with rfl | hx
  · exact Int.dvd_trans (Int.dvd_natAbs_self) (Int.dvd_mul_right _ _)
  · exact Int.dvd_trans (h2 x hx) (Int.dvd_mul_left _ _)
def pz (p:Pl) (z:Int->Int) (D τ:Int):List (Int×Int):=p.ah.flatMap fun a=>(List.range ((ak p a).length-1)).map fun k =>
 (xE D ((ak p a).getD k aB) ((ak p a).getD (k+1) aB) τ,z a.id*fB τ ((ak p a).getD k aB) ((ak p a).getD (k+1) aB))
theorem LX (p:Pl) (z:Int->Int) (D τ:Int) (G:Int->Int->Int) (hG:∀ x c s,G x (c*s)=c*G x s) :
  ((pz p z D τ).map fun u=>G u.1 u.2).sum=bZ p z (fun a b=>G (xE D a b τ) (fB τ a b)):=by
 unfold pz bZ jY;rw [List.map_flatMap,aad];refine iC _ _ _ fun a _=>?_;rw [List.map_map,<- Dc];refine iC _ _ _ fun k _=>?_;exact hG _ _ _
section
variable {p:Pl} (h:Valid p)
include h
theorem Valid.PI {z:Int->Int} (hz:iy p z) {a:Ar} (ha:a∈p.ah) {m:Nat} (hm:m+1<(ak p a).length) :
  mY p z ((ak p a).getD m aB) ((ak p a).getD (m+1) aB)=Hz p z (-a.id)/\mY p z ((ak p a).getD (m+1) aB) ((ak p a).getD m aB)=Hz p z a.id:=by
 have hl:=fM p a;have hid:=(h.jB ha).1;have s0:=h.ZR hz ha hm;have s1:=h.Uo hz ha m hm;have s2:=h.Uo hz ha a.via.length (by omega);have hp:=h.yg hz ha;have h2:(ak p a).getD (a.via.length+1) aB=nodeAt p a.dst:=by
  have:=zf p a
  rwa [hl,show a.via.length+2-1=a.via.length+1 by omega] at this
 have hn:Hz p z (-a.id)=rM p z ((ak p a).getD (a.via.length+1) aB) ((ak p a).getD a.via.length aB):=by
  unfold Hz;rw [h.Pg ha,h.IZ ha,h2]
 have j2:rM p z ((ak p a).getD (m+1) aB) ((ak p a).getD m aB)-mY p z ((ak p a).getD (m+1) aB) ((ak p a).getD m aB)=-z a.id:=by
  by_cases h0:m+1=(ak p a).length-1
  ·obtain ⟨n,hn,e1,e2⟩:=h.sound.CS ha;have:=h.LU hz hn (d:=-a.id) (xW.2 ⟨a,ha,.inr ⟨rfl,e1.symm⟩⟩)
   rw [h.IZ ha,show a.via.length=m by omega] at this;rw [h0,zf,e2,this];unfold zD;rw [if_neg (by omega),Int.neg_neg]
  · exact h.ae7 z ha (by omega)
 omega
theorem Valid.ant {z:Int->Int} {a:Ar} (ha:a∈p.ah) {m:Nat} (hm:m+1<(ak p a).length) {f:Pt->Pt->Int}
  (h0:∀ c∈p.ah,z c.id≠0->∀ k,k+1<(ak p c).length->¬ (c=a/\k=m)->f ((ak p c).getD k aB) ((ak p c).getD (k+1) aB)=0) :
  bZ p z f=z a.id*f ((ak p a).getD m aB) ((ak p a).getD (m+1) aB):=by
 unfold bZ jY;have:=LM p.ah (·.id) h.sound.ah (fun _=>z a.id*f ((ak p a).getD m aB) ((ak p a).getD (m+1) aB)) a.id ⟨a,ha,rfl⟩
 rw [<- this];refine iC _ _ _ fun c hc=>?_;by_cases hz0:z c.id=0
 ·rw [hz0,Int.zero_mul];by_cases e:a.id=c.id
  · rw [if_pos e,e,hz0,Int.zero_mul]
  · rw [if_neg e]
 by_cases e:a.id=c.id
 ·have:=h.Zo ha hc e
  subst this;rw [if_pos rfl,Pv _ m (fun k=>f ((ak p a).getD k aB) ((ak p a).getD (k+1) aB)) (fun k hk hne=>h0 a ha hz0 k (by omega) (fun e=>hne e.2)),if_pos (by omega)]
 · rw [if_neg e,wE _ _ (fun k hk=>h0 c hc hz0 k (by have:=List.mem_range.1 hk;omega) (fun e2=>e (by rw [e2.1]))),Int.mul_zero]
def yj (p:Pl) (z:Int->Int) (τ:Int):Prop:=∀ a∈p.ah,z a.id≠0->∀ k,k<(ak p a).length->2*hY ((ak p a).getD k aB)≠τ
omit h in
theorem yj.odd (z:Int->Int) {τ:Int} (hτ:τ % 2=1):yj p z τ:=fun a _ _ k _=>by omega
omit h in
theorem Uw {z:Int->Int} {f g:Pt->Pt->Int} (h:∀ a∈p.ah,z a.id≠0->∀ k,k+1<(ak p a).length->f ((ak p a).getD k aB) ((ak p a).getD (k+1) aB)=g ((ak p a).getD k aB) ((ak p a).getD (k+1) aB)):bZ p z f=bZ p z g:=by
 unfold bZ jY;refine iC _ _ _ fun a ha=>?_;by_cases h0:z a.id=0
 · rw [h0,Int.zero_mul,Int.zero_mul]
 · rw [iC _ _ (fun k=>g ((ak p a).getD k aB) ((ak p a).getD (k+1) aB)) (fun k hk=>h a ha h0 k (by have:=List.mem_range.1 hk;omega))]
theorem Valid.beyond {z:Int->Int} (hz:iy p z) {D:Int} (hD:0<D) (hd:∀ a∈p.ah,∀ k,k+1<(ak p a).length->hY ((ak p a).getD (k+1) aB)-hY ((ak p a).getD k aB)∣D)
  {τ:Int} (hτ:yj p z τ) {c:Ar} (hc:c∈p.ah) {m:Nat} (hm:m+1<(ak p c).length) {s t:Pt}
  (he:(s=(ak p c).getD m aB/\t=(ak p c).getD (m+1) aB)\/(t=(ak p c).getD m aB/\s=(ak p c).getD (m+1) aB)) (h1:2*hY s<τ) (h2:τ<2*hY t) :
  bZ p z (fun a b=>if xE D s t τ<xE D a b τ then fB τ a b else 0)=mY p z s t:=by
 have ht:=h.LP hz (fun v=>-wR s t τ v);have e:bZ p z (fun a b=>if xE D s t τ<xE D a b τ then fB τ a b else 0)=bZ p z (fun a b=>tq s t a b+(-wR s t τ b - -wR s t τ a)):=by
  refine Uw fun a ha hza k hk=>?_;have na:=h.bW ha (k:=k) (by omega);have nb:=h.bW ha (k:=k+1) hk;have n1:=h.bW hc (k:=m) (by omega);have n2:=h.bW hc (k:=m+1) hm;have hne:=(h.distinct ha hk).1;have NM:=fun h1 h2 h3 h4=>h.ZG ha hc hk hm h1 h2 h3 h4;have da:=hd a ha k hk;have fx:=hτ a ha hza k (by omega);have fy:=hτ a ha hza (k+1) hk;have dc:=hd c hc m hm;generalize (ak p a).getD k aB=x at *;generalize (ak p a).getD (k+1) aB=y at *;generalize (ak p c).getD m aB=e at *;generalize (ak p c).getD (m+1) aB=f at *;have ns:aU s=true:=by rcases he with ⟨rfl,-⟩ | ⟨-,rfl⟩<;>assumption
  have nt:aU t=true:=by rcases he with ⟨-,rfl⟩ | ⟨rfl,-⟩<;>assumption
  have dst:hY t-hY s∣D:=by
   rcases he with ⟨rfl,rfl⟩ | ⟨rfl,rfl⟩
   · exact dc
   · rw [show hY t-hY s=-(hY s-hY t) by omega];exact Int.neg_dvd.2 dc
  have PE:x≠s->x≠t->y≠s->y≠t->oL x y s t:=fun h1 h2 h3 h4=>by
   rcases he with ⟨rfl,rfl⟩ | ⟨rfl,rfl⟩
   · exact NM h1 h2 h3 h4
   · exact (NM h2 h1 h4 h3).comm.flip.comm
  have hst:hY s<hY t:=by omega
  have up:∀ {a b:Pt},2*hY a≠τ->2*hY b≠τ->aU a=true->aU b=true->hY a<hY b->hY b-hY a∣D->(a≠s->a≠t->b≠s->b≠t->oL a b s t) ->
    (if xE D s t τ<xE D a b τ then fB τ a b else 0)=tq s t a b+(-wR s t τ b - -wR s t τ a):=by
   intro a b fa fb na nb hab da NM;have e:=anj na nb ns nt hab hst NM fa fb h1 h2;have k:=(PG (τ:=τ) hD hab hst da dst).1;have e2:tq s t a b+(-wR s t τ b - -wR s t τ a)=tq s t a b+(wR s t τ a-wR s t τ b):=by omega
   rw [e2,<- e];unfold fB;by_cases g:0<dX a b s t τ
   ·rw [if_pos (k.2 g)];by_cases g1:2*hY a<τ<;>by_cases g2:τ<2*hY b
    · rw [if_pos g2,if_neg (by omega),if_pos ⟨g1,g2,g⟩];rfl
    · rw [if_neg g2,if_neg (by omega),if_neg (fun e=>g2 e.2.1)];rfl
    · rw [if_pos g2,if_pos (by omega),if_neg (fun e=>g1 e.1)];rfl
    · omega
   · rw [if_neg (fun e=>g (k.1 e)),if_neg (fun e=>g e.2.2)]
  rcases Int.lt_trichotomy (hY x) (hY y) with c1 | c1 | c1
  · exact up fx fy na nb c1 da PE
  · exact absurd (mg na nb c1) hne
  ·have:=up fy fx nb na c1 (by rw [show hY x-hY y=-(hY y-hY x) by omega];exact Int.neg_dvd.2 da) (fun h1 h2 h3 h4=>(PE h3 h4 h1 h2).flip)
   rw [Gp D x y τ,ae3 s t x y] at this;have e3:fB τ y x=-fB τ x y:=by unfold fB;omega
   rw [e3] at this;split at this<;>split<;>first | omega | contradiction
 rw [e,I9 p z (tq s t) (fun a b=>-wR s t τ b - -wR s t τ a),ht,Int.add_zero];rfl
end
theorem Ux {τ:Int} {x y:Pt} (hx:2*hY x≠τ) (hy:2*hY y≠τ) (h0:fB τ x y≠0):(2*hY x<τ/\τ<2*hY y/\fB τ x y=1)\/(2*hY y<τ/\τ<2*hY x/\fB τ x y=-1):=by
 unfold fB at *;by_cases c1:τ<2*hY y<;>by_cases c2:τ<2*hY x
 · exact absurd (by rw [if_pos c1,if_pos c2];rfl) h0
 · exact .inl ⟨by omega,c1,by rw [if_pos c1,if_neg c2];rfl⟩
 · exact .inr ⟨by omega,c2,by rw [if_neg c1,if_pos c2];rfl⟩
 · exact absurd (by rw [if_neg c1,if_neg c2];rfl) h0
section
variable {p:Pl} (h:Valid p)
include h
theorem Valid.anu {D:Int} (hD:0<D) (hd:∀ a∈p.ah,∀ k,k+1<(ak p a).length->hY ((ak p a).getD (k+1) aB)-hY ((ak p a).getD k aB)∣D)
  {τ:Int} {z:Int->Int} (hτ:yj p z τ) {c d:Ar} (hc:c∈p.ah) (hzc:z c.id≠0) (hd':d∈p.ah) (hzd:z d.id≠0) {k m:Nat} (hk:k+1<(ak p c).length) (hm:m+1<(ak p d).length) (hne:¬ (c=d/\k=m))
  (h1:fB τ ((ak p c).getD k aB) ((ak p c).getD (k+1) aB)≠0) (h2:fB τ ((ak p d).getD m aB) ((ak p d).getD (m+1) aB)≠0) :
  xE D ((ak p d).getD m aB) ((ak p d).getD (m+1) aB) τ≠xE D ((ak p c).getD k aB) ((ak p c).getD (k+1) aB) τ:=by
 have dc:=hd c hc k hk;have dd:=hd d hd' m hm;have N:=fun a b s t=>h.ano (a:=a) (b:=b) (s:=s) (t:=t) hc hd' hk hm hne;have s1:=Ux (hτ c hc hzc k (by omega)) (hτ c hc hzc (k+1) hk) h1;have s2:=Ux (hτ d hd' hzd m (by omega)) (hτ d hd' hzd (m+1) hm) h2;generalize (ak p c).getD k aB=u at *;generalize (ak p c).getD (k+1) aB=v at *;generalize (ak p d).getD m aB=x at *;generalize (ak p d).getD (m+1) aB=y at *;have dc':hY u-hY v∣D:=by rw [show hY u-hY v=-(hY v-hY u) by omega];exact Int.neg_dvd.2 dc
 have dd':hY x-hY y∣D:=by rw [show hY x-hY y=-(hY y-hY x) by omega];exact Int.neg_dvd.2 dd
 intro e;rcases s1 with ⟨a1,a2,-⟩ | ⟨a1,a2,-⟩<;>rcases s2 with ⟨b1,b2,-⟩ | ⟨b1,b2,-⟩
 · exact N u v x y (.inl ⟨rfl,rfl⟩) (.inl ⟨rfl,rfl⟩) b1 b2 a1 a2 ((PG hD (by omega) (by omega) dc dd).2.1 e)
 · exact N u v y x (.inl ⟨rfl,rfl⟩) (.inr ⟨rfl,rfl⟩) b1 b2 a1 a2 ((PG hD (by omega) (by omega) dc dd').2.1 (by rw [Gp];exact e))
 · exact N v u x y (.inr ⟨rfl,rfl⟩) (.inl ⟨rfl,rfl⟩) b1 b2 a1 a2 ((PG hD (by omega) (by omega) dc' dd).2.1 (by rw [Gp D u v];exact e))
 · exact N v u y x (.inr ⟨rfl,rfl⟩) (.inr ⟨rfl,rfl⟩) b1 b2 a1 a2 ((PG hD (by omega) (by omega) dc' dd').2.1 (by rw [Gp,Gp D u v];exact e))
theorem Valid.Uy {z:Int->Int} (hz:iy p z) {D:Int} (hD:0<D) (hd:∀ a∈p.ah,∀ k,k+1<(ak p a).length->hY ((ak p a).getD (k+1) aB)-hY ((ak p a).getD k aB)∣D) {τ:Int} (hτ:yj p z τ)
  {a:Ar} (ha:a∈p.ah) {k:Nat} (hk:k+1<(ak p a).length) (hs:(2*hY ((ak p a).getD k aB)<τ/\τ<2*hY ((ak p a).getD (k+1) aB))\/(2*hY ((ak p a).getD (k+1) aB)<τ/\τ<2*hY ((ak p a).getD k aB))) :
  nV (pz p z D τ) (xE D ((ak p a).getD k aB) ((ak p a).getD (k+1) aB) τ)=(if hY ((ak p a).getD k aB)<hY ((ak p a).getD (k+1) aB) then Hz p z (-a.id) else Hz p z a.id) /\
  (z a.id≠0->Dh (pz p z D τ) (xE D ((ak p a).getD k aB) ((ak p a).getD (k+1) aB) τ)=(if hY ((ak p a).getD k aB)<hY ((ak p a).getD (k+1) aB) then Hz p z a.id else Hz p z (-a.id))):=by
 have hp:=h.yg hz ha;obtain ⟨r1,r2⟩:=h.PI hz ha hk;have own:=fun (hz0:z a.id≠0) (hs0:fB τ ((ak p a).getD k aB) ((ak p a).getD (k+1) aB)≠0)=>h.ant (z:=z) ha hk (f:=fun x y=>if xE D ((ak p a).getD k aB) ((ak p a).getD (k+1) aB) τ=xE D x y τ then fB τ x y else 0) (fun c hc hzc m hm hne=>by
  by_cases g:fB τ ((ak p c).getD m aB) ((ak p c).getD (m+1) aB)=0
  · rw [g];split<;>rfl
  · exact if_neg (h.anu hD hd hτ hc hzc ha hz0 hm hk hne g hs0))
 rw [if_pos rfl] at own;have by1:=h.beyond hz hD hd hτ ha hk (s:=(ak p a).getD k aB) (t:=(ak p a).getD (k+1) aB) (.inl ⟨rfl,rfl⟩);have Uz:=h.beyond hz hD hd hτ ha hk (t:=(ak p a).getD k aB) (s:=(ak p a).getD (k+1) aB) (.inr ⟨rfl,rfl⟩);rw [Gp D ((ak p a).getD k aB)] at Uz;rw [r1] at by1;rw [r2] at Uz;have sg:fB τ ((ak p a).getD k aB) ((ak p a).getD (k+1) aB)=if hY ((ak p a).getD k aB)<hY ((ak p a).getD (k+1) aB) then 1 else -1:=by
  unfold fB;rcases hs with ⟨g1,g2⟩ | ⟨g1,g2⟩
  · rw [if_pos g2,if_neg (by omega),if_pos (by omega)];rfl
  · rw [if_neg (by omega),if_pos g2,if_neg (by omega)];rfl
 generalize xE D ((ak p a).getD k aB) ((ak p a).getD (k+1) aB) τ=X at *;have bS:nV (pz p z D τ) X=bZ p z (fun a b=>if X<xE D a b τ then fB τ a b else 0) :=
  LX p z D τ (fun x s=>if X<x then s else 0) (fun x c s=>by split<;>simp)
 have bE:Dh (pz p z D τ) X=bZ p z (fun a b=>if X<xE D a b τ then fB τ a b else 0)+bZ p z (fun a b=>if X=xE D a b τ then fB τ a b else 0):=by
  rw [<- I9];have:=LX p z D τ (fun x s=>if X<=x then s else 0) (fun x c s=>by split<;>simp)
  refine this.trans (Px fun c _ m _=>?_);rcases Int.lt_trichotomy X (xE D ((ak p c).getD m aB) ((ak p c).getD (m+1) aB) τ) with g | g | g
  · rw [if_pos (by omega),if_pos g,if_neg (by omega)];omega
  · rw [if_pos (by omega),if_neg (by omega),if_pos g];omega
  · rw [if_neg (by omega),if_neg (by omega),if_neg (by omega)];rfl
 rw [bS];have own':=fun hz0=>own hz0 (by rw [sg];split<;>omega);rcases hs with ⟨g1,g2⟩ | ⟨g1,g2⟩
 ·rw [if_pos (by omega)] at sg ⊢;rw [if_pos (by omega)];refine ⟨by1 g1 g2,fun hz0=>?_⟩;rw [bE,own' hz0,by1 g1 g2,sg];omega
 ·rw [if_neg (by omega)] at sg ⊢;rw [if_neg (by omega)];refine ⟨Uz g1 g2,fun hz0=>?_⟩;rw [bE,own' hz0,Uz g1 g2,sg];omega
theorem Valid.anv {z:Int->Int} (hz:iy p z) (D τ:Int):((pz p z D τ).map (·.2)).sum=0:=by
 rw [LX p z D τ (fun _ s=>s) (fun _ _ _=>rfl)];exact h.LP hz (fun v=>if τ<2*hY v then 1 else 0)
theorem Valid.afn {z:Int->Int} (hz:iy p z) (hw:∀ a∈p.ah,z a.id≠0->(Hz p z (-a.id)=0/\Hz p z a.id=1)\/(Hz p z (-a.id)=1/\Hz p z a.id=0))
  {D:Int} (hD:0<D) (hd:∀ a∈p.ah,∀ k,k+1<(ak p a).length->hY ((ak p a).getD (k+1) aB)-hY ((ak p a).getD k aB)∣D) {τ:Int} (hτ:yj p z τ) :
  ∀ u∈pz p z D τ,u.2≠0->(nV (pz p z D τ) u.1=0/\Dh (pz p z D τ) u.1=1)\/(nV (pz p z D τ) u.1=1/\Dh (pz p z D τ) u.1=0):=by
 intro u hu hu0;obtain ⟨a,ha,hu⟩:=List.mem_flatMap.1 hu;obtain ⟨k,hk,rfl⟩:=List.mem_map.1 hu;have hk:=List.mem_range.1 hk;have hk:k+1<(ak p a).length:=by omega
 simp only at hu0 ⊢;have hz0:z a.id≠0:=fun e=>hu0 (by rw [e,Int.zero_mul]);have hs0:fB τ ((ak p a).getD k aB) ((ak p a).getD (k+1) aB)≠0:=fun e=>hu0 (by rw [e,Int.mul_zero]);have hW:=hw a ha hz0;have hsp:=Ux (hτ a ha hz0 k (by omega)) (hτ a ha hz0 (k+1) hk) hs0;obtain ⟨b1,b2⟩:=h.Uy hz hD hd hτ ha hk (by
  rcases hsp with ⟨g1,g2,-⟩ | ⟨g1,g2,-⟩
  · exact .inl ⟨g1,g2⟩
  · exact .inr ⟨g1,g2⟩)
 rw [b1,b2 hz0];split<;>omega
theorem Valid.anw {z:Int->Int} (hz:iy p z) (hw:∀ a∈p.ah,z a.id≠0->(Hz p z (-a.id)=0/\Hz p z a.id=1)\/(Hz p z (-a.id)=1/\Hz p z a.id=0))
  {D:Int} (hD:0<D) (hd:∀ a∈p.ah,∀ k,k+1<(ak p a).length->hY ((ak p a).getD (k+1) aB)-hY ((ak p a).getD k aB)∣D) {τ:Int} (hτ:τ % 2=1) :
  0<=bZ p z (fun a b=>xE D a b τ*fB τ a b)/\((∃ a∈p.ah,∃ k,k+1<(ak p a).length/\z a.id≠0/\fB τ ((ak p a).getD k aB) ((ak p a).getD (k+1) aB)≠0)->0<bZ p z (fun a b=>xE D a b τ*fB τ a b)):=by
 have e0:=LX p z D τ (fun x s=>x*s) (fun x c s=>by grind);have:=anp (h.afn hz hw hD hd (yj.odd z hτ)) (h.anv hz D τ)
 rw [e0] at this;refine ⟨this.1,fun ⟨a,ha,k,hk,h4,h5⟩=>this.2 ⟨(xE D ((ak p a).getD k aB) ((ak p a).getD (k+1) aB) τ,z a.id*fB τ ((ak p a).getD k aB) ((ak p a).getD (k+1) aB)),?_,fun e=>?_⟩⟩
 · exact List.mem_flatMap.2 ⟨a,ha,List.mem_map.2 ⟨k,List.mem_range.2 (by omega),rfl⟩⟩
 ·rcases Int.mul_eq_zero.1 e with e | e
  · exact h4 e
  · exact h5 e
theorem Valid.anx {z:Int->Int} (hz:iy p z) {T:Nat} (hT:∀ q,aU q=true->-(T:Int)<=hY q/\hY q<=T)
  {D:Int} (hd:∀ a∈p.ah,∀ k,k+1<(ak p a).length->hY ((ak p a).getD (k+1) aB)-hY ((ak p a).getD k aB)∣D) :
  D*(8388608*bZ p z sU)=((List.range (2*T)).map fun j=>bZ p z (fun a b=>xE D a b (lG T j)*fB (lG T j) a b)).sum:=by
 rw [<- afm p z (fun j a b=>xE D a b (lG T j)*fB (lG T j) a b),<- aag,<- aag];have t:=h.LP hz (fun v=>D*(v.x*hY v));have e:bZ p z (fun a b=>((List.range (2*T)).map fun j=>xE D a b (lG T j)*fB (lG T j) a b).sum)=bZ p z (fun a b=>D*(8388608*sU a b)+(D*(b.x*hY b)-D*(a.x*hY a))):=by
  refine Px fun a ha k hk=>?_;have na:=h.bW ha (k:=k) (by omega);have nb:=h.bW ha (k:=k+1) hk;have hne:=(h.distinct ha hk).1;have da:=hd a ha k hk;generalize (ak p a).getD k aB=x at *;generalize (ak p a).getD (k+1) aB=y at *;have hn:hY y-hY x≠0:=fun e=>hne (mg na nb (by omega));have es:=anq (hT x na) (hT y nb);obtain ⟨q,hq⟩:=da;have eq:D / (hY y-hY x)=q:=by rw [hq];exact Int.mul_ediv_cancel_left _ hn
  unfold xE;rw [eq,iC _ _ (fun j=>q*(fB (lG T j) x y*xN x y (lG T j))) (fun j _=>by grind),Dc,es];have hc:8388608*sU x y=x.x*hY y-y.x*hY x:=by unfold sU hY;grind
  rw [hc,hq];generalize hY x=A;generalize hY y=B
  grind
 rw [e,I9 p z (fun a b=>D*(8388608*sU a b)) (fun a b=>D*(b.x*hY b)-D*(a.x*hY a)),t,Int.add_zero]
theorem Valid.PK {z:Int->Int} (hz:iy p z) (hw:∀ a∈p.ah,z a.id≠0->(Hz p z (-a.id)=0/\Hz p z a.id=1)\/(Hz p z (-a.id)=1/\Hz p z a.id=0)) :
  0<=bZ p z sU/\((∃ a∈p.ah,z a.id≠0)->0<bZ p z sU):=by
 obtain ⟨T,hT⟩:∃ T:Nat,∀ q,aU q=true->-(T:Int)<=hY q/\hY q<=T:=⟨17592188141568,fun q hq=>by
  rw [xJ] at hq;unfold hY;omega⟩
 have hsep:∀ a∈p.ah,∀ k,k+1<(ak p a).length->hY ((ak p a).getD (k+1) aB)-hY ((ak p a).getD k aB)≠0:=fun a ha k hk e =>
  (h.distinct ha hk).1 (mg (h.bW ha (by omega)) (h.bW ha hk) (by omega))
 obtain ⟨D,hD,hd⟩:∃ D:Int,0<D/\∀ a∈p.ah,∀ k,k+1<(ak p a).length->hY ((ak p a).getD (k+1) aB)-hY ((ak p a).getD k aB)∣D:=by
  obtain ⟨D,h1,h2⟩:=aah (p.ah.flatMap fun a=>(List.range ((ak p a).length-1)).map fun k=>hY ((ak p a).getD (k+1) aB)-hY ((ak p a).getD k aB)) (fun x hx=>by
   obtain ⟨a,ha,hx⟩:=List.mem_flatMap.1 hx;obtain ⟨k,hk,rfl⟩:=List.mem_map.1 hx;exact hsep a ha k (by have:=List.mem_range.1 hk;omega))
  exact ⟨D,h1,fun a ha k hk=>h2 _ (List.mem_flatMap.2 ⟨a,ha,List.mem_map.2 ⟨k,List.mem_range.2 (by omega),rfl⟩⟩)⟩
 have e:=h.anx hz hT hd;have odd:∀ j,lG T j % 2=1:=fun j=>by unfold lG;omega
 have S:=fun j=>h.anw hz hw hD hd (odd j);refine ⟨?_,fun ⟨a,ha,hza⟩=>?_⟩
 ·have h0:=aac (List.range (2*T)) (fun j=>bZ p z (fun a b=>xE D a b (lG T j)*fB (lG T j) a b)) (fun j _=>(S j).1);rw [<- e] at h0;apply Classical.byContradiction;intro hn;have:=Int.mul_neg_of_pos_of_neg hD (show 8388608*bZ p z sU<0 by omega)
  omega
 ·have hl:=fM p a;have hk:0+1<(ak p a).length:=by omega
  have hs:=hsep a ha 0 hk;have t0:=hT _ (h.bW ha (k:=0) (by omega));have t1:=hT _ (h.bW ha (k:=0+1) hk);have h0:=afk (List.range (2*T)) (fun j=>bZ p z (fun a b=>xE D a b (lG T j)*fB (lG T j) a b)) (fun j _=>(S j).1) (by
   refine ⟨(min (hY ((ak p a).getD 0 aB)) (hY ((ak p a).getD (0+1) aB))+T).toNat,List.mem_range.2 (by omega),?_⟩;refine (S _).2 ⟨a,ha,0,hk,hza,?_⟩;unfold fB lG;generalize hY ((ak p a).getD 0 aB)=A at *;generalize hY ((ak p a).getD (0+1) aB)=B at *;have hj:(((min A B+T).toNat:Nat):Int)=min A B+T:=by omega
   rw [hj];by_cases c:A<B
   · rw [if_pos (by omega),if_neg (by omega)];omega
   · rw [if_neg (by omega),if_pos (by omega)];omega)
  rw [<- e] at h0;apply Classical.byContradiction;intro hn;have:=Int.mul_nonpos_of_nonneg_of_nonpos (show 0<=D by omega) (show 8388608*bZ p z sU<=0 by omega)
  omega
end
end Go.Proofs.YtialfdomhoojiaaGreat
