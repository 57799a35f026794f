import Derived.Test.YtialfdomhoojiaaGreatJ10
set_option linter.unusedSimpArgs false
set_option linter.unusedVariables false
namespace Go.Proofs.YtialfdomhoojiaaGreat
open Go.RowKit
def Yw (F:Int->Int) (K:Nat):Prop:=∀ x,F (pw F x K)=pw F x K
theorem vW {F:Int->Int} {x:Int} {K:Nat} (h:F (pw F x K)=pw F x K) (n:Nat):pw F x (K+n)=pw F x K:=by
 induction n with
 | zero=>rfl
 | succ n ih=>show F (pw F x (K+n))=_;rw [ih,h]
theorem aiV {F:Int->Int} {x:Int} {i j:Nat} (hi:F (pw F x i)=pw F x i) (hj:F (pw F x j)=pw F x j):pw F x i=pw F x j:=by
 rcases Nat.le_total i j with h | h
 ·have:=vW hi (j-i)
  rw [show i+(j-i)=j by omega] at this;exact this.symm
 ·have:=vW hj (i-j)
  rw [show j+(i-j)=i by omega] at this;exact this
theorem Yw.more {F:Int->Int} {K M:Nat} (h:Yw F K) (hm:K<=M):Yw F M:=by
 intro x;have:=vW (h x) (M-K)
 rw [show K+(M-K)=M by omega] at this;rw [this];exact h x
theorem Yw.eq {F:Int->Int} {K M:Nat} (h:Yw F K) (hm:K<=M) (x:Int):pw F x M=pw F x K:=aiV (h.more hm x) (h x)
def Le (F:Int->Int) (a b:Int) (i:Int):Int:=if i=a then b else F i
theorem aiW {F:Int->Int} {a b x:Int} (n:Nat) (h:∀ j,j<n->pw F x j≠a):pw (Le F a b) x n=pw F x n:=by
 induction n with
 | zero=>rfl
 | succ n ih =>
  show Le F a b (pw (Le F a b) x n)=F (pw F x n)
  rw [ih (fun j hj=>h j AB)];unfold Le;rw [AX (h n AB)]
theorem ahk {P:Nat->Prop} [DecidablePred P] : ∀ n,P n->∃ j,j<=n/\P j/\∀ i,i<j->¬ P i
 | 0,h=>⟨0,DT _,h,fun i hi=>by omega⟩
 | n+1,h=>by
  by_cases h2:∃ m,m<=n/\P m
  ·obtain ⟨m,hm,hp⟩:=h2;obtain ⟨j,h1,h3,h4⟩:=ahk m hp;exact ⟨j,AB,h3,h4⟩
  · exact ⟨n+1,DT _,h,fun i hi hp=>h2 ⟨i,AB,hp⟩⟩
termination_by n=>n
decreasing_by omega
theorem ahl {F:Int->Int} {K:Nat} (h:Yw F K) {a b:Int} (ha:F a=a) (hb:F b=b) (hne:a≠b) :
  Yw (Le F a b) (K+1)/\∀ x,pw (Le F a b) x (K+1)=if pw F x K=a then b else pw F x K:=by
 have hfb:Le F a b b=b:=by unfold Le;rw [AX (fun e=>hne e.symm),hb]
 have key:∀ x,pw (Le F a b) x (K+1)=if pw F x K=a then b else pw F x K:=by
  intro x;by_cases hx:pw F x K=a
  ·rw [AZ hx];obtain ⟨j,h1,h2,h3⟩:=ahk (P:=fun j=>pw F x j=a) K hx;have e1:pw (Le F a b) x j=a:=by rw [aiW j h3];exact h2
   have e2:pw (Le F a b) x (j+1)=b:=by
    show Le F a b (pw (Le F a b) x j)=b
    rw [e1];unfold Le;rw [AZ rfl]
   have e3:Le F a b (pw (Le F a b) x (j+1))=pw (Le F a b) x (j+1):=by rw [e2];exact hfb
   have:=vW e3 (K-j)
   rw [show j+1+(K-j)=K+1 by omega] at this;rw [this,e2]
  ·rw [AX hx];have hn:∀ j,j<K+1->pw F x j≠a:=by
    intro j hj e;have e2:F (pw F x j)=pw F x j:=by rw [e];exact ha
    exact hx ((aiV (h x) e2).trans e)
   rw [aiW (K+1) hn];exact vW (h x) 1
 refine ⟨fun x=>?_,key⟩;rw [key x];split
 · exact hfb
 ·rename_i hx;unfold Le;rw [AX hx];exact h x
def Yx (l:List Nd) (i:Int):Int:=if i∈l.map (·.id) then i else 0
theorem aq5 (l:List Nd):Yw (Yx l) 1:=by
 intro x
 show Yx l (Yx l x)=Yx l x
 unfold Yx;by_cases h:x∈l.map (·.id)
 · rw [AZ h,AZ h]
 · rw [AX h];split<;>rfl
def vX (K:Nat) (s:(Int->Int)×Int) (a:Ar):(Int->Int)×Int :=
 if pw s.1 a.fr K=pw s.1 a.dst K then s else (Le s.1 (pw s.1 a.fr K) (pw s.1 a.dst K),s.2-1)
def Tj (p:Pl) (k:Nat):(Int->Int)×Int:=(p.AU.take k).foldl (vX (p.AU.length+1)) (Yx p.nodes,(p.nodes.length:Int))
theorem acu (p:Pl) (k:Nat) (hk:k<p.AU.length):Tj p (k+1)=vX (p.AU.length+1) (Tj p k) p.AU[k]:=by
 unfold Tj;rw [En hk,O9];rfl
structure aq6 (p:Pl) (k:Nat) (s:(Int->Int)×Int):Prop where
 flat:Yw s.1 (k+1)
 bd:∀ x,-1073741824<=s.1 x/\s.1 x<=1073741824
 lo:(p.nodes.length:Int)-k<=s.2
 hi:s.2<=p.nodes.length
theorem aq7 {p:Pl} (h:Valid p) (k:Nat) (hk:k<=p.AU.length):aq6 p k (Tj p k):=by
 induction k with
 | zero =>
  refine ⟨aq5 _,fun x=>?_,by simp [Tj],by simp [Tj]⟩
  show -1073741824<=Yx p.nodes x/\Yx p.nodes x<=1073741824
  unfold Yx;split
  ·rename_i hm;obtain ⟨n,hn,rfl⟩:=EM.1 hm;have:=h.aqT hn
   omega
  · omega
 | succ k ih =>
  obtain ⟨h1,h2,h3,h4⟩:=ih AB;rw [acu p k AB];generalize Tj p k=s at *;unfold vX;split
  · exact ⟨h1.more AB,h2,AB,h4⟩
  ·rename_i hne;have e1:∀ x,s.1 (pw s.1 x (p.AU.length+1))=pw s.1 x (p.AU.length+1):=h1.more AB;refine ⟨(ahl h1 (e1 _) (e1 _) hne).1,fun x=>?_,by show _<=s.2-1;omega,by show s.2-1<=_;omega⟩
   show -1073741824<=Le _ _ _ x/\Le _ _ _ x<=1073741824
   unfold Le;split
   · rw [<- e1];exact h2 _
   · exact h2 _
def hY (p:Pt):Int:=8388608*p.y+p.x
theorem MI {a b:Pt} (ha:Bg a=true) (hb:Bg b=true) (h:hY a=hY b):a=b:=by
 rw [Qq] at ha hb;unfold hY at h;rw [Pt.ext_iff'];omega
instance (ux uy vx vy:Int):Decidable (OG ux uy vx vy):=by unfold OG ER;infer_instance
instance (o a b:Pt):Decidable (ET o a b):=by unfold ET;infer_instance
def NC (a b v:Pt):Int:=if hY a<hY v/\hY v<hY b/\0<tw a b v then 1 else if hY b<hY v/\hY v<hY a/\0<tw b a v then -1 else 0
theorem acv (a b v:Pt):NC b a v=-NC a b v:=by
 unfold NC;by_cases h1:hY a<hY v/\hY v<hY b/\0<tw a b v
 · rw [AZ h1,AX AB,AZ h1]
 ·rw [AX h1];by_cases h2:hY b<hY v/\hY v<hY a/\0<tw b a v
  · rw [AZ h2,AX h1,AZ h2];rfl
  · rw [AX h2,AX h1,AX h2];rfl
def vY (s t v:Pt):Int:=if hY s<hY v/\hY v<hY t/\tw s t v<0 then 1 else 0
theorem ahm (a b s t:Pt):tw a b s*(hY t-hY b)+tw a b t*(hY b-hY s)=-((hY b-hY a)*tw s t b):=by unfold tw hY;grind
theorem ahn (a b s t:Pt):tw a b s*(hY t-hY a)+tw a b t*(hY a-hY s)=-((hY b-hY a)*tw s t a):=by unfold tw hY;grind
theorem vZ (a b s t:Pt):tw a b t-tw a b s=tw s t a-tw s t b:=by unfold tw;grind
theorem acw (a b s t:Pt):BM a b s t=tw a b t-tw a b s:=by unfold tw BM;grind
theorem apW (a s t:Pt):BM a s s t=tw s t a:=by unfold tw BM;grind
theorem apX (a b s:Pt):BM a s a b=-tw a b s:=by unfold tw BM;grind
theorem aho (a b c:Pt):tw a c b=-tw a b c:=by unfold tw;grind
theorem Yy (a b:Pt):tw a b a=0:=by unfold tw;grind
theorem Yz (a b:Pt):tw a b b=0:=by unfold tw;grind
theorem ahp {a b s t:Pt} (hab:a≠b) (h:Me a b s t=0) (hd:tw a b t-tw a b s≠0) :
  ¬ (tw a b s<=0/\0<=tw a b t/\tw s t b<=0/\0<=tw s t a)/\¬ (0<=tw a b s/\tw a b t<=0/\0<=tw s t b/\tw s t a<=0):=by
 have e:=vZ a b s t;unfold Me at h;rw [AX (fun h=>hab h.1),apW a s t,apX a b s,acw a b s t,AX hd] at h;split at h
 ·split at h
  · cases h
  · omega
 ·split at h
  · cases h
  · omega
def MJ (a b s t:Pt):Prop:=tw a b t-tw a b s≠0->¬ (tw a b s<=0/\0<=tw a b t/\tw s t b<=0/\0<=tw s t a)/\¬ (0<=tw a b s/\tw a b t<=0/\0<=tw s t b/\tw s t a<=0)
theorem MJ.of {a b s t:Pt} (hab:a≠b) (h:Me a b s t=0):MJ a b s t:=ahp hab h
theorem MJ.comm {a b s t:Pt} (h:MJ a b s t):MJ s t a b:=by
 intro hd;have e:=vZ a b s t;have:=h AB
 omega
theorem MJ.flip {a b s t:Pt} (h:MJ a b s t):MJ b a s t:=by
 intro hd;have e1:tw b a s=-tw a b s:=by unfold tw;grind
 have e2:tw b a t=-tw a b t:=by unfold tw;grind
 have:=h AB
 omega
theorem ND (x:Int) {y z:Int} (h:y<z):(0<x*z-x*y↔0<x)/\(x*z-x*y<0↔x<0):=by
 rw [<- fO];have hp:0<z-y:=by omega
 rcases Ic x 0 with h1 | h1 | h1
 · have:=VI h1 hp;omega
 · subst h1;simp
 · have:=JO h1 hp;omega
theorem ahq {a b s t:Pt} (hab:hY a<hY b) (hst:hY s<hY t) (h:MJ a b s t) :
  (hY a<hY s->hY s<hY b->hY b<hY t->(0<tw a b s↔tw s t b<0)) /\
  (hY a<hY s->hY t<hY b->(0<tw a b s↔0<tw a b t)) /\
  (hY s<hY a->hY b<hY t->(tw s t a<0↔tw s t b<0)) /\
  (hY s<hY a->hY a<hY t->hY t<hY b->(0<tw a b t↔tw s t a<0)):=by
 have e:=vZ a b s t;have i1:=ahm a b s t;have i2:=ahn a b s t;have j1:=ahm s t a b;have j2:=ahn s t a b;have nm:=h;unfold MJ at nm;clear h;generalize tw a b s=u1 at *;generalize tw a b t=u2 at *;generalize tw s t a=u3 at *;generalize tw s t b=u4 at *;generalize hY a=A at *;generalize hY b=B at *;generalize hY s=S at *;generalize hY t=T at *;rw [fO,fO,KL (B-A),fO] at i1 i2;rw [fO,fO,KL (T-S),fO] at j1 j2;have g1:=ND u1 hst;have g2:=ND u2 hst;have g3:=ND u3 hab;have g4:=ND u4 hab;refine ⟨fun h1 h2 h3=>?_,fun h1 h2=>?_,fun h1 h2=>?_,fun h1 h2 h3=>?_⟩
 ·have f1:=ND u1 h3;have f2:=ND u2 h2;have f3:=ND u1 (show A<T by omega);have f4:=ND u2 h1;by_cases hd:u2-u1=0
  ·have:u1=u2:=by omega
   subst this;omega
  ·have:=nm hd
   omega
 ·have f1:=ND u1 h2;have f2:=ND u2 (show S<B by omega);have f3:=ND u1 (show A<T by omega);have f4:=ND u2 h1;by_cases hd:u2-u1=0
  · omega
  ·have:=nm hd
   omega
 ·have f1:=ND u3 h2;have f2:=ND u4 (show A<T by omega);have f3:=ND u3 (show S<B by omega);have f4:=ND u4 h1;by_cases hd:u2-u1=0
  · omega
  ·have:=nm hd
   omega
 ·have f1:=ND u1 h3;have f2:=ND u2 (show S<B by omega);have f3:=ND u1 h2;have f4:=ND u2 h1;by_cases hd:u2-u1=0
  ·have:u1=u2:=by omega
   subst this;have f5:=ND u1 (show S<T by omega);omega
  ·have:=nm hd
   omega
theorem ahr {o p:Pt} (ho:Bg o=true) (hp:Bg p=true):ER (p.x-o.x) (p.y-o.y)↔hY p<hY o:=by
 rw [Qq] at ho hp;unfold ER hY;omega
theorem oZ {o a b:Pt} (ho:Bg o=true) (ha:Bg a=true) (hb:Bg b=true):ET o a b↔(¬ hY a<hY o/\hY b<hY o)\/((hY a<hY o↔hY b<hY o)/\0<tw o a b):=by
 unfold ET OG;rw [ahr ho ha,ahr ho hb];rfl
theorem ahs {a b s t:Pt} (na:Bg a=true) (nb:Bg b=true) (ns:Bg s=true) (nt:Bg t=true) (hab:hY a<hY b) (hst:hY s<hY t)
  (hno:a≠s->a≠t->b≠s->b≠t->MJ a b s t) :
  NC a b s+(if a=s/\ET s b t then 1 else 0)-(if b=s/\ET s a t then 1 else 0)-(NC a b t-(if a=t/\ET t s b then 1 else 0)+(if b=t/\ET t s a then 1 else 0))=vY s t b-vY s t a:=by
 have hne:a≠b:=fun e=>by rw [e] at hab;omega
 have d1:=oZ ns nb nt;have d2:=oZ ns na nt;have d3:=oZ nt ns nb;have d4:=oZ nt ns na;have q:∀ {u v:Pt},Bg u=true->Bg v=true->(u=v↔hY u=hY v):=fun hu hv=>⟨fun e=>by rw [e],MI hu hv⟩;have e1:tw s b t=-tw s t b:=aho s t b;have e2:tw t s a=-tw s t a:=by unfold tw;grind
 have f1:hY a=hY s->tw a b s=0/\tw s t a=0/\tw a b t=-tw s t b:=fun h=>by
  have:=MI na ns h
  subst this;exact ⟨Yy a b,Yy a t,e1⟩
 have f2:hY b=hY t->tw a b t=0/\tw s t b=0/\tw a b s=-tw s t a:=fun h=>by
  have:=MI nb nt h
  subst this;exact ⟨Yz a b,Yz s b,by unfold tw;grind⟩
 have f3:hY a≠hY s->hY a≠hY t->hY b≠hY s->hY b≠hY t->_:=fun h1 h2 h3 h4=>ahq (s:=s) (t:=t) hab hst (hno (fun e=>h1 Rw) (fun e=>h2 Rw) (fun e=>h3 Rw) (fun e=>h4 Rw));have k1:(a=s/\ET s b t)↔(hY a=hY s/\tw s t b<0):=by rw [d1,q na ns,e1];constructor<;>(rintro ⟨h1,h2⟩;exact ⟨h1,AB⟩)
 have k2:¬ (b=s/\ET s a t):=by rw [d2,q nb ns];rintro ⟨h1,h2⟩;omega
 have k3:¬ (a=t/\ET t s b):=by rw [d3,q na nt];rintro ⟨h1,h2⟩;omega
 have k4:(b=t/\ET t s a)↔(hY b=hY t/\tw s t a<0):=by rw [d4,q nb nt,e2];constructor<;>(rintro ⟨h1,h2⟩;exact ⟨h1,AB⟩)
 have m1:NC a b s=if hY a<hY s/\hY s<hY b/\0<tw a b s then 1 else 0:=by unfold NC;rw [AX (show ¬ (hY b<hY s/\hY s<hY a/\0<tw b a s) by omega)]
 have m2:NC a b t=if hY a<hY t/\hY t<hY b/\0<tw a b t then 1 else 0:=by unfold NC;rw [AX (show ¬ (hY b<hY t/\hY t<hY a/\0<tw b a t) by omega)]
 rw [m1,m2,AX k2,AX k3];unfold vY;simp only [k1,k4];clear hno d1 d2 d3 d4 e1 e2 q na nb ns nt hne k1 k2 k3 k4 m1 m2;generalize tw a b s=u1 at *;generalize tw a b t=u2 at *;generalize tw s t a=u3 at *;generalize tw s t b=u4 at *;generalize hY a=A at *;generalize hY b=B at *;generalize hY s=S at *;generalize hY t=T at *;rcases Ic A S with h1 | h1 | h1
 ·clear f1;rcases Ic B S with h3 | h3 | h3
  ·clear f2 f3;rw [AX AB,AX AB,AX AB,AX AB,AX AB,AX AB];rfl
  ·clear f2 f3;rw [AX AB,AX AB,AX AB,AX AB,AX AB,AX AB];rfl
  ·rcases Ic B T with h2 | h2 | h2
   ·have f3:=(f3 AB AB AB AB).1 h1 h3 h2;clear f2;simp only [h1,h3,h2,true_and,f3,show ¬ A=S by omega,show ¬ T<B by omega,show ¬ B=T by omega,show ¬ S<A by omega,false_and,and_false,if_false];omega
   ·obtain ⟨-,-,f2⟩:=f2 h2;clear f3;simp only [h1,h3,h2,true_and,show ¬ A=S by omega,show ¬ S<A by omega,show ¬ T<T by omega,show A<T by omega,hst,false_and,and_false,if_false];split<;>split<;>omega
   ·have f3:=(f3 AB AB AB AB).2.1 h1 h2;clear f2;simp only [h1,h3,h2,true_and,f3,show ¬ A=S by omega,show ¬ S<A by omega,show ¬ B<T by omega,show ¬ B=T by omega,show A<T by omega,false_and,and_false,if_false];omega
 ·obtain ⟨f1a,f1b,f1⟩:=f1 h1;clear f3;subst h1;rcases Ic B T with h2 | h2 | h2
  ·clear f2;simp only [hab,h2,true_and,show ¬ A<A by omega,show ¬ B=T by omega,show ¬ T<B by omega,false_and,and_false,if_false];omega
  ·obtain ⟨f2a,f2b,f2⟩:=f2 h2;subst h2;simp only [hab,true_and,show ¬ A<A by omega,show ¬ B<B by omega,false_and,and_false,if_false];split<;>split<;>omega
  ·clear f2;simp only [hab,hst,h2,true_and,show ¬ A<A by omega,show ¬ B=T by omega,show ¬ B<T by omega,false_and,and_false,if_false];split<;>split<;>omega
 ·clear f1;rcases Ic A T with h3 | h3 | h3
  ·rcases Ic B T with h2 | h2 | h2
   ·have f3:=(f3 AB AB AB AB).2.2.1 h1 h2;clear f2;simp only [h1,h2,h3,true_and,f3,show ¬ A<S by omega,show ¬ A=S by omega,show ¬ T<B by omega,show ¬ B=T by omega,show S<B by omega,false_and,and_false,if_false];omega
   ·clear f2 f3;subst h2;simp only [h1,h3,hst,true_and,show ¬ A<S by omega,show ¬ A=S by omega,show ¬ B<B by omega,false_and,and_false,if_false];omega
   ·have f3:=(f3 AB AB AB AB).2.2.2 h1 h3 h2;clear f2;simp only [h1,h2,h3,true_and,f3,show ¬ A<S by omega,show ¬ A=S by omega,show ¬ B<T by omega,show ¬ B=T by omega,false_and,and_false,if_false];omega
  ·clear f2 f3;rw [AX AB,AX AB,AX AB,AX AB,AX AB,AX AB];rfl
  ·clear f2 f3;rw [AX AB,AX AB,AX AB,AX AB,AX AB,AX AB];rfl
section
variable {α β:Type}
theorem Gx (l:List α) (f g:α->Int) (h:∀ x∈l,f x=g x):(l.map f).sum=(l.map g).sum:=by rw [aay h]
theorem WO (l:List α) (f:α->Int) (h:∀ x∈l,f x=0):(l.map f).sum=0:=by
 induction l with
 | nil=>rfl
 | cons a l ih=>rw [Ez,I8,h a Aw,ih (fun x hx=>h x (by simp [hx]))];rfl
theorem Sz (l:List α) (f g:α->Int):(l.map fun x=>f x+g x).sum=(l.map f).sum+(l.map g).sum:=by
 induction l with
 | nil=>rfl
 | cons a l ih=>simp only [Ez,I8,ih];omega
theorem Uj (l:List α) (f:α->Int):(l.map fun x=>-f x).sum=-(l.map f).sum:=by
 induction l with
 | nil=>rfl
 | cons a l ih=>simp only [Ez,I8,ih];omega
theorem Z8 (l:List α) (c:Int) (f:α->Int):(l.map fun x=>c*f x).sum=c*(l.map f).sum:=by
 induction l with
 | nil=>simp
 | cons a l ih=>simp only [Ez,I8,ih,aaz]
theorem aht (l:List α) (m:List β) (f:α->β->Int):(l.map fun x=>(m.map fun y=>f x y).sum).sum=(m.map fun y=>(l.map fun x=>f x y).sum).sum:=by
 induction l with
 | nil=>simp only [QE,Xt];rw [WO m _ (fun _ _=>rfl)]
 | cons a l ih=>simp only [Ez,I8,ih];rw [Sz]
theorem vg (n j:Nat) (f:Nat->Int) (h:∀ k,k<n->k≠j->f k=0):((List.range n).map f).sum=if j<n then f j else 0:=by
 induction n with
 | zero=>rfl
 | succ n ih =>
  rw [Zf,GL,OA,ih (fun k hk=>h k AB)];simp only [Ez,QE,I8,Xt,fP];by_cases hj:j=n
  · subst hj;rw [AX AB,AZ AB];omega
  ·rw [h n AB (fun e=>hj e.symm)];by_cases h2:j<n
   · rw [AZ h2,AZ AB];omega
   · rw [AX h2,AX AB];rfl
theorem sumT (n:Nat) (R:Nat->Int):((List.range n).map fun k=>R (k+1)-R k).sum=R n-R 0:=by
 induction n with
 | zero=>simp
 | succ n ih =>
  rw [Zf,GL,OA,ih];simp only [Ez,QE,I8,Xt];omega
theorem vk (l:List α) (k:α->Int) (hk:(l.map k).Pairwise (· < ·)) (r:Int->Int) (x:Int) (hx:∃ y∈l,k y=x):(l.map fun y=>if x=k y then r (k y) else 0).sum=r x:=by
 induction l with
 | nil=>obtain ⟨y,hy,-⟩:=hx;cases hy
 | cons a l ih =>
  rw [Ez,JC] at hk;rw [Ez,I8];by_cases e:x=k a
  · rw [AZ e,WO l _ (fun y hy=>AX (fun e2=>by have:=hk.1 (k y) (Gs hy);omega)),e];omega
  ·rw [AX e,ih hk.2 (by
    obtain ⟨y,hy,e2⟩:=hx;rcases EJ.1 hy with rfl | hy
    · exact absurd e2.symm e
    · exact ⟨y,hy,e2⟩)]
   omega
end
def Io (f:Pt->Pt->Int) (l:List Pt):Int:=((List.range (l.length-1)).map fun k=>f (l.getD k AY) (l.getD (k+1) AY)).sum
def DX (p:Pl) (z:Int->Int) (f:Pt->Pt->Int):Int:=(p.AU.map fun a=>z a.id*Io f (AV p a)).sum
theorem iO (p:Pl) (z:Int->Int) (f g:Pt->Pt->Int):DX p z (fun a b=>f a b+g a b)=DX p z f+DX p z g:=by
 unfold DX Io;rw [<- Sz];exact Gx _ _ _ fun a _=>by rw [Sz,aaz]
theorem ahu (p:Pl) (z:Int->Int) (f:Pt->Pt->Int):DX p z (fun a b=>-f a b)=-DX p z f:=by
 unfold DX Io;rw [<- Uj];exact Gx _ _ _ fun a _=>by rw [Uj,aAC]
theorem ahv (p:Pl) (z:Int->Int) (f g:Pt->Pt->Int):DX p z (fun a b=>f a b-g a b)=DX p z f-DX p z g:=by
 have:=iO p z f (fun a b=>-g a b)
 rw [ahu] at this;simp only [<- ab1] at this;exact this
theorem vw {p:Pl} {z:Int->Int} {f g:Pt->Pt->Int} (h:∀ a∈p.AU,∀ k,k+1<(AV p a).length->f ((AV p a).getD k AY) ((AV p a).getD (k+1) AY)=g ((AV p a).getD k AY) ((AV p a).getD (k+1) AY)):DX p z f=DX p z g:=by
 unfold DX Io;refine Gx _ _ _ fun a ha=>?_;congr 1;exact Gx _ _ _ fun k hk=>h a ha k aAO
def Fv (p:Pl) (z:Int->Int):Prop:=∀ n∈p.nodes,(p.AU.map fun a=>z a.id*((if a.dst=n.id then 1 else 0)-(if a.fr=n.id then 1 else 0))).sum=0
theorem WQ (p:Pl) (a:Ar):(AV p a).getD ((AV p a).length-1) AY=nodeAt p a.dst:=by
 rw [Eh];unfold AV
 show (nodeAt p a.fr::(a.via++[nodeAt p a.dst])).getD (a.via.length+1) AY=_
 rw [aal,Fj,List.getElem?_append_right AB];simp
section
variable {p:Pl} (h:Valid p)
include h
theorem Valid.ahw {z:Int->Int} (hz:Fv p z) (r:Int->Int):(p.AU.map fun a=>z a.id*(r a.dst-r a.fr)).sum=0:=by
 have e:(p.AU.map fun a=>z a.id*(r a.dst-r a.fr)).sum=(p.AU.map fun a=>(p.nodes.map fun n=>r n.id*(z a.id*((if a.dst=n.id then 1 else 0)-(if a.fr=n.id then 1 else 0)))).sum).sum:=by
  refine Gx _ _ _ fun a ha=>?_;obtain ⟨n1,h1,e1,-⟩:=h.sound.XK ha;obtain ⟨n2,h2,e2,-⟩:=h.sound.Yt ha;have s1:=vk p.nodes (·.id) h.sound.nodes r a.fr ⟨n1,h1,e1⟩;have s2:=vk p.nodes (·.id) h.sound.nodes r a.dst ⟨n2,h2,e2⟩;rw [<- s1,<- s2,ab1,<- Uj,<- Sz,<- Z8];refine Gx _ _ _ fun n _=>?_;by_cases c1:a.dst=n.id<;>by_cases c2:a.fr=n.id<;>simp only [c1,c2,if_true,if_false]<;>grind
 rw [e,aht];refine WO _ _ fun n hn=>?_;rw [Z8,hz n hn,KN]
theorem Valid.oh {z:Int->Int} (hz:Fv p z) (R:Pt->Int):DX p z (fun a b=>R b-R a)=0:=by
 rw [<- h.ahw hz (fun i=>R (nodeAt p i))];unfold DX Io;refine Gx _ _ _ fun a _=>?_;rw [sumT ((AV p a).length-1) (fun k=>R ((AV p a).getD k AY)),WQ,WJ]
theorem Valid.acy {a b:Ar} (ha:a∈p.AU) (hb:b∈p.AU) {k m:Nat} (hk:k+1<(AV p a).length) (hm:m+1<(AV p b).length)
  (h1:(AV p a).getD k AY≠(AV p b).getD m AY) (h2:(AV p a).getD k AY≠(AV p b).getD (m+1) AY) (h3:(AV p a).getD (k+1) AY≠(AV p b).getD m AY) (h4:(AV p a).getD (k+1) AY≠(AV p b).getD (m+1) AY) :
  MJ ((AV p a).getD k AY) ((AV p a).getD (k+1) AY) ((AV p b).getD m AY) ((AV p b).getD (m+1) AY):=by
 have Z9:∀ {c d:Ar} {i j:Nat},c∈p.AU->d∈p.AU->i+1<(AV p c).length->j+1<(AV p d).length->Dy [(AV p c).getD i AY,(AV p c).getD (i+1) AY,(AV p d).getD j AY,(AV p d).getD (j+1) AY]=true:=fun hc hd hi hj =>
  Yu (h.DW hc AB) (h.DW hc hi) (h.DW hd AB) (h.DW hd hj)
 have same:∀ {i j:Nat},i<j->j+1<(AV p a).length->(AV p a).getD i AY≠(AV p a).getD (j+1) AY->(AV p a).getD (i+1) AY≠(AV p a).getD j AY->MJ ((AV p a).getD i AY) ((AV p a).getD (i+1) AY) ((AV p a).getD j AY) ((AV p a).getD (j+1) AY):=by
  intro i j hij hj n1 n2;have hap:=h.Qx.2.1 a ha i j hij hj;unfold UD Dj at hap;simp only at hap;rw [AX] at hap
  ·rw [beq_iff_eq] at hap;unfold Fp at hap;rw [AZ (Z9 ha ha AB hj)] at hap;exact MJ.of (h.distinct ha (k:=i) AB).1 hap
  ·rintro (e | ⟨e1,e2,e3⟩)
   · subst e;exact n2 rfl
   ·subst e1;apply n1;have hl:=WQ p a;rw [show (AV p a).length-1=j+1 by omega] at hl;rw [hl,WJ,e3]
 by_cases hab:a=b
 ·subst hab;rcases PD k m with hkm | hkm | hkm
  · exact same hkm hm h2 h3
  · subst hkm;exact absurd rfl h1
  · exact (same hkm hk (fun e=>h3 e.symm) (fun e=>h2 e.symm)).comm
 ·have other:∀ {c d:Ar} {i j:Nat},c∈p.AU->d∈p.AU->i+1<(AV p c).length->j+1<(AV p d).length->PU p (Dj p c i) (Dj p d j)=true ->
    (AV p c).getD i AY≠(AV p d).getD j AY->(AV p c).getD i AY≠(AV p d).getD (j+1) AY->(AV p c).getD (i+1) AY≠(AV p d).getD j AY->(AV p c).getD (i+1) AY≠(AV p d).getD (j+1) AY ->
    MJ ((AV p c).getD i AY) ((AV p c).getD (i+1) AY) ((AV p d).getD j AY) ((AV p d).getD (j+1) AY):=by
   intro c d i j hc hd hi hj hjo n1 n2 n3 n4;unfold PU at hjo;split at hjo
   ·exfalso;obtain ⟨n,hn,hat⟩:=PE.1 hjo;unfold Oe at hat;simp only [Em] at hat;have at_end:∀ {c:Ar} {i:Nat},c∈p.AU->i+1<(AV p c).length->LZ (Dj p c i).a (Dj p c i).b n.pt=true->(AV p c).getD i AY=n.pt\/(AV p c).getD (i+1) AY=n.pt:=by
     intro c i hc hi ho;rcases h.lU hc hi hn ho with ⟨e1,e2⟩ | ⟨e1,e2⟩
     · left;subst e1;rw [WJ,e2];exact h.sound.QM hn
     ·right;have hl:=WQ p c;rw [Eh,show c.via.length+2-1=i+1 by omega] at hl;rw [hl,e2];exact h.sound.QM hn
    rcases at_end hc hi hat.1.2 with e1 | e1<;>rcases at_end hd hj hat.2 with e2 | e2
    · exact n1 (e1.trans e2.symm)
    · exact n2 (e1.trans e2.symm)
    · exact n3 (e1.trans e2.symm)
    · exact n4 (e1.trans e2.symm)
   ·rw [beq_iff_eq] at hjo;unfold Fp Dj at hjo;rw [AZ (Z9 hc hd hi hj)] at hjo;exact MJ.of (h.distinct hc hi).1 hjo
  have hpw:=h.Qx.2.2;obtain ⟨i,hi,rfl⟩:=Dp.1 ha;obtain ⟨j,hj,rfl⟩:=Dp.1 hb;rw [Fe] at hpw;rcases PD i j with hij | hij | hij
  · exact other ha hb hk hm (hpw i j hi hj hij k hk m hm) h1 h2 h3 h4
  · subst hij;exact absurd rfl hab
  · exact (other hb ha hm hk (hpw j i hj hi hij m hm k hk) (fun e=>h1 e.symm) (fun e=>h3 e.symm) (fun e=>h2 e.symm) (fun e=>h4 e.symm)).comm
end
theorem apY (l:List Pt):UC l=false↔l.Pairwise (·≠·):=by
 constructor
 ·intro h;rw [Fe];intro i j hi hj hij e;have:=acF l j i hij hj e.symm
  rw [h] at this
  cases this
 ·intro h;rw [Fe] at h;exact acG l fun j k hk hj e=>h k j AB hj hk e.symm
section
variable {p:Pl} (h:Valid p)
include h
end
theorem iP {o a b:Pt} (h:ET o a b):¬ ET o b a:=by
 unfold ET OG at *;rw [KL (b.x-o.x),KL (b.y-o.y)];rcases h with ⟨h1,h2⟩ | ⟨h1,h2⟩
 ·rintro (⟨h3,h4⟩ | ⟨h3,h4⟩)
  · exact h1 h4
  · exact h1 (h3.1 h2)
 ·rintro (⟨h3,h4⟩ | ⟨h3,h4⟩)
  · exact h3 (h1.1 h4)
  · omega
theorem apZ (o a:Pt):¬ ET o a a:=fun h=>iP h h
def Pe (v u a b:Pt):Int:=NC a b v+(if a=v/\ET v b u then 1 else 0)-(if b=v/\ET v a u then 1 else 0)
def aV (v u a b:Pt):Int:=NC a b v-(if a=v/\ET v u b then 1 else 0)+(if b=v/\ET v u a then 1 else 0)
def LW (p:Pl) (z:Int->Int) (v u:Pt):Int:=DX p z (Pe v u)
def Oq (p:Pl) (z:Int->Int) (v u:Pt):Int:=DX p z (aV v u)
theorem ahx (v u a b:Pt):Pe v u b a=-Pe v u a b:=by unfold Pe;rw [acv];omega
theorem apa (v u a b:Pt):aV v u b a=-aV v u a b:=by unfold aV;rw [acv];omega
def zD (z:Int->Int) (d:Int):Int:=if 0<d then z d else -z (-d)
def Tm (φ:Pt->Int) (v a b:Pt):Int:=(if a=v then φ b else 0)-(if b=v then φ a else 0)
def ind (P:Prop) [Decidable P] : Int:=if P then 1 else 0
theorem apb (v u w a b:Pt):aV v u a b-Pe v w a b=-Tm (fun x=>ind (ET v u x)+ind (ET v x w)) v a b:=by
 unfold aV Pe Tm ind;by_cases h1:a=v<;>by_cases h2:b=v<;>simp only [h1,h2,true_and,false_and,if_true,if_false]<;>omega
theorem wE (p:Pl) (z:Int->Int) (v u w:Pt):Oq p z v u-LW p z v w=-DX p z (Tm (fun x=>ind (ET v u x)+ind (ET v x w)) v):=by
 unfold Oq LW;rw [<- ahv,<- ahu];refine vw fun a _ k _=>apb _ _ _ _ _
section
variable {p:Pl} (h:Valid p)
include h
theorem Valid.ahy {z:Int->Int} (hz:Fv p z) {c:Ar} (hc:c∈p.AU) {m:Nat} (hm:m+1<(AV p c).length) {s t:Pt}
  (he:(s=(AV p c).getD m AY/\t=(AV p c).getD (m+1) AY)\/(t=(AV p c).getD m AY/\s=(AV p c).getD (m+1) AY)) (hst:hY s<hY t):LW p z s t=Oq p z t s:=by
 have hd:LW p z s t-Oq p z t s=DX p z (fun a b=>vY s t b-vY s t a):=by
  unfold Oq LW;rw [<- ahv];refine vw fun a ha k hk=>?_;have na:=h.DW ha (k:=k) AB;have nb:=h.DW ha (k:=k+1) hk;have n1:=h.DW hc (k:=m) AB;have n2:=h.DW hc (k:=m+1) hm;have hne:=(h.distinct ha hk).1;have NM:=fun h1 h2 h3 h4=>h.acy ha hc hk hm h1 h2 h3 h4;generalize (AV p a).getD k AY=x at *;generalize (AV p a).getD (k+1) AY=y at *;generalize (AV p c).getD m AY=e at *;generalize (AV p c).getD (m+1) AY=f at *;have ns:Bg s=true:=by rcases he with ⟨rfl,-⟩ | ⟨-,rfl⟩<;>assumption
  have nt:Bg t=true:=by rcases he with ⟨-,rfl⟩ | ⟨rfl,-⟩<;>assumption
  have y8:x≠s->x≠t->y≠s->y≠t->MJ x y s t:=fun h1 h2 h3 h4=>by
   rcases he with ⟨rfl,rfl⟩ | ⟨rfl,rfl⟩
   · exact NM h1 h2 h3 h4
   · exact (NM h2 h1 h4 h3).comm.flip.comm
  rcases Ic (hY x) (hY y) with h1 | h1 | h1
  ·have:=ahs na nb ns nt h1 hst y8
   unfold Pe aV;omega
  · exact absurd (MI na nb h1) hne
  ·have:=ahs nb na ns nt h1 hst (fun h1 h2 h3 h4=>(y8 h3 h4 h1 h2).flip)
   have e1:=ahx s t x y;have e2:=apa t s x y;unfold Pe at e1 ⊢;unfold aV at e2 ⊢;omega
 rw [h.oh hz] at hd;omega
theorem Valid.acz {a:Ar} (ha:a∈p.AU) {j:Nat} (h0:0<j) (hj:j+1<(AV p a).length) {b:Ar} (hb:b∈p.AU) {k:Nat} (hk:k<(AV p b).length) (e:(AV p b).getD k AY=(AV p a).getD j AY):b=a/\k=j:=by
 have hla:=Eh p a;have hlb:=Eh p b;obtain ⟨i,rfl⟩:∃ i,j=i+1:=⟨j-1,AB⟩;have hi:i<a.via.length:=by omega
 rw [dQ p a i hi] at e;have hk0:k≠0:=by
  rintro rfl;obtain ⟨n,hn,-,e2⟩:=h.sound.XK hb;rw [WJ,e2] at e;exact h.adS ha hi hn e.symm
 have hk1:k≠(AV p b).length-1:=by
  rintro rfl;obtain ⟨n,hn,-,e2⟩:=h.sound.Yt hb;rw [WQ,e2] at e;exact h.adS ha hi hn e.symm
 obtain ⟨l,rfl⟩:∃ l,k=l+1:=⟨k-1,AB⟩;have hl:l<b.via.length:=by omega
 rw [dQ p b l hl] at e;by_cases hab:b=a
 ·subst hab;refine ⟨rfl,?_⟩;rcases PD l i with h1 | h1 | h1
  · exact absurd e (h.aiD hb h1 hi)
  · omega
  · exact absurd e.symm (h.aiD hb h1 hl)
 ·exfalso;have hpw:=h.aqN;obtain ⟨x,hx,rfl⟩:=Dp.1 ha;obtain ⟨y,hy,rfl⟩:=Dp.1 hb;rw [Fe] at hpw;rcases PD x y with h1 | h1 | h1
  · exact hpw x y hx hy h1 _ (BH hi) _ (BH hl) e.symm
  · subst h1;exact hab rfl
  · exact hpw y x hy hx h1 _ (BH hl) _ (BH hi) e
theorem Valid.ahz {n m:Nd} (hn:n∈p.nodes) (hm:m∈p.nodes) (e:n.pt=m.pt):n=m:=by
 have hpw:=(apY _).1 h.dup;rw [IL,Fe] at hpw;obtain ⟨i,hi,rfl⟩:=Dp.1 hn;obtain ⟨j,hj,rfl⟩:=Dp.1 hm;rcases PD i j with h1 | h1 | h1
 · exact absurd e (hpw i j hi hj h1)
 · subst h1;rfl
 · exact absurd e.symm (hpw j i hj hi h1)
theorem Valid.aBX {n:Nd} (hn:n∈p.nodes) {b:Ar} (hb:b∈p.AU) {k:Nat} (hk:k<(AV p b).length) (e:(AV p b).getD k AY=n.pt):(k=0/\b.fr=n.id)\/(k=(AV p b).length-1/\b.dst=n.id):=by
 have hlb:=Eh p b;by_cases hk0:k=0
 ·subst hk0;obtain ⟨m,hm,e1,e2⟩:=h.sound.XK hb;rw [WJ,e2] at e
  left;exact ⟨rfl,by rw [<- e1,h.ahz hm hn e]⟩
 ·by_cases hk1:k=(AV p b).length-1
  ·subst hk1;obtain ⟨m,hm,e1,e2⟩:=h.sound.Yt hb;rw [WQ,e2] at e
   right;exact ⟨rfl,by rw [<- e1,h.ahz hm hn e]⟩
  ·exfalso;obtain ⟨l,rfl⟩:∃ l,k=l+1:=⟨k-1,AB⟩;have hl:l<b.via.length:=by omega
   rw [dQ p b l hl] at e;exact h.adS hb hl hn e
theorem Valid.aBY (z:Int->Int) (φ:Pt->Int) {a:Ar} (ha:a∈p.AU) {j:Nat} (h0:0<j) (hj:j+1<(AV p a).length) :
  DX p z (Tm φ ((AV p a).getD j AY))=z a.id*(φ ((AV p a).getD (j+1) AY)-φ ((AV p a).getD (j-1) AY)):=by
 have key:∀ b∈p.AU,Io (Tm φ ((AV p a).getD j AY)) (AV p b)=if b=a then φ ((AV p a).getD (j+1) AY)-φ ((AV p a).getD (j-1) AY) else 0:=by
  intro b hb;unfold Io Tm;simp only [ab1];rw [Sz,Uj];rw [vg _ j _ (fun k hk hkj=>AX (fun e=>hkj (h.acz ha h0 hj hb AB e).2))];rw [vg _ (j-1) _ (fun k hk hkj=>AX (fun e=>hkj (by have:=(h.acz ha h0 hj hb AB e).2;omega)))];by_cases hab:b=a
  ·subst hab;rw [AZ rfl,AZ AB,AZ AB,AZ rfl,show j-1+1=j by omega,AZ rfl]
  ·rw [AX hab];have e1:∀ k,k<(AV p b).length->¬ (AV p b).getD k AY=(AV p a).getD j AY:=fun k hk e=>hab (h.acz ha h0 hj hb hk e).1;by_cases h1:j<(AV p b).length-1
   · rw [AZ h1,AX (e1 j AB),AZ AB,AX (e1 (j-1+1) AB)];rfl
   ·rw [AX h1];by_cases h2:j-1<(AV p b).length-1
    · rw [AZ h2,AX (e1 (j-1+1) AB)];rfl
    · rw [AX h2];rfl
 unfold DX;rw [Gx _ _ (fun b:Ar=>if a.id=b.id then z b.id*(φ ((AV p a).getD (j+1) AY)-φ ((AV p a).getD (j-1) AY)) else 0) (fun b hb=>by
  rw [key b hb];by_cases hab:b=a
  · subst hab;rw [AZ rfl,AZ rfl]
  · rw [AX hab,AX (fun e=>hab (h.aiJ hb ha e.symm)),KN])]
 exact vk p.AU (·.id) h.sound.AU (fun i=>z i*(φ ((AV p a).getD (j+1) AY)-φ ((AV p a).getD (j-1) AY))) a.id ⟨a,ha,rfl⟩
theorem Valid.ad1 (z:Int->Int) (φ:Pt->Int) {n:Nd} (hn:n∈p.nodes):DX p z (Tm φ n.pt)=((Df p.AU n.id).map fun d=>zD z d*φ (Dt p d)).sum:=by
 have key:∀ b∈p.AU,z b.id*Io (Tm φ n.pt) (AV p b)=(((if b.fr=n.id then [b.id] else [])++(if b.dst=n.id then [-b.id] else [])).map fun d=>zD z d*φ (Dt p d)).sum:=by
  intro b hb;have hlb:=Eh p b;have hid:=h.Gh hb;have hfd:=h.find hb;have t1:Dt p b.id=(AV p b).getD 1 AY:=h.iI hb;have t2:Dt p (-b.id)=(AV p b).getD b.via.length AY:=h.dS hb;have z1:zD z b.id=z b.id:=by unfold zD;rw [AZ AB]
  have z2:zD z (-b.id)=-z b.id:=by unfold zD;rw [AX AB,Ob]
  have hs:Io (Tm φ n.pt) (AV p b)=(if b.fr=n.id then φ ((AV p b).getD 1 AY) else 0)-(if b.dst=n.id then φ ((AV p b).getD b.via.length AY) else 0):=by
   have f1:(AV p b).getD 0 AY=n.pt↔b.fr=n.id:=by
    constructor
    ·intro e;rcases h.aBX hn hb AB e with ⟨-,e⟩ | ⟨e,-⟩
     · exact e
     · omega
    ·intro e;rw [WJ,e];exact h.sound.QM hn
   have f2:(AV p b).getD (b.via.length+1) AY=n.pt↔b.dst=n.id:=by
    have e1:=WQ p b;rw [hlb,show b.via.length+2-1=b.via.length+1 by omega] at e1;constructor
    ·intro e;rcases h.aBX hn hb AB e with ⟨e,-⟩ | ⟨-,e⟩
     · omega
     · exact e
    ·intro e;rw [e1,e];exact h.sound.QM hn
   unfold Io Tm;simp only [ab1];rw [Sz,Uj];rw [vg _ 0 _ (fun k hk hkj=>AX (fun e=>by rcases h.aBX hn hb AB e with ⟨e,-⟩ | ⟨e,-⟩<;>omega))];rw [vg _ b.via.length _ (fun k hk hkj=>AX (fun e=>by rcases h.aBX hn hb AB e with ⟨e,-⟩ | ⟨e,-⟩<;>omega))];rw [AZ (show 0<(AV p b).length-1 by omega),AZ (show b.via.length<(AV p b).length-1 by omega)];simp only [f1,f2]
  rw [hs,GL,OA];by_cases c1:b.fr=n.id<;>by_cases c2:b.dst=n.id<;>simp only [c1,c2,if_true,if_false,Ez,QE,I8,Xt,t1,t2,z1,z2]<;>grind
 unfold DX Df;rw [Gx _ _ _ key];generalize p.AU=l
 induction l with
 | nil=>rfl
 | cons b l ih=>rw [Ez,I8,Ju,ih];simp only [GL,OA]
theorem Valid.ai0 {z:Int->Int} (hz:Fv p z) {n:Nd} (hn:n∈p.nodes):((Df p.AU n.id).map fun d=>zD z d).sum=0:=by
 have h1:=hz n hn;have e:((Df p.AU n.id).map fun d=>zD z d).sum=-(p.AU.map fun a=>z a.id*((if a.dst=n.id then 1 else 0)-(if a.fr=n.id then 1 else 0))).sum:=by
  have hid:∀ b∈p.AU,1<=b.id:=fun b hb=>(h.Gh hb).1;unfold Df;generalize p.AU=l at hid
  induction l with
  | nil=>rfl
  | cons b l ih =>
   have:=hid b Aw
   have z1:zD z b.id=z b.id:=by unfold zD;rw [AZ AB]
   have z2:zD z (-b.id)=-z b.id:=by unfold zD;rw [AX AB,Ob]
   rw [Ez,I8,Ju,GL,OA,ih (fun c hc=>hid c (by simp [hc]))];by_cases c1:b.fr=n.id<;>by_cases c2:b.dst=n.id<;>simp only [c1,c2,if_true,if_false,GL,OA,Ez,QE,I8,Xt,z1,z2]<;>grind
 rw [e,h1];rfl
end
theorem apc {l:List Int} (hl:l.Nodup) {d:Int} (hd:d∈l) (c:Int->Int):(l.map fun x=>if x=d then c x else 0).sum=c d:=by
 induction l with
 | nil=>cases hd
 | cons a l ih =>
  rw [sN] at hl;rw [Ez,I8];rcases EJ.1 hd with rfl | hd
  · rw [AZ rfl,WO l _ (fun x hx=>AX (by rintro rfl;exact hl.1 hx))];omega
  · rw [AX (by rintro rfl;exact hl.1 hd),ih hl.2 hd];omega
theorem apd (z:Int->Int) {d:Int} (h:d≠0):zD z (-d)=-zD z d:=by
 unfold zD;by_cases h1:0<d
 · rw [AX AB,AZ h1,Ob]
 · rw [AZ AB,AX h1,Ob]
theorem YP (o a:Pt):ind (ET o a a)=0:=AX (apZ o a)
theorem ad2 {o a b:Pt} (h:ET o a b\/ET o b a):ind (ET o a b)+ind (ET o b a)=1:=by
 unfold ind;rcases h with h | h
 · rw [AZ h,AX (iP h)];rfl
 · rw [AX (iP h),AZ h];rfl
section
variable {p:Pl} (h:Valid p)
include h
theorem Valid.ad3 {a:Ar} (ha:a∈p.AU) {k:Nat} (hk:k+2<(AV p a).length):ET ((AV p a).getD (k+1) AY) ((AV p a).getD k AY) ((AV p a).getD (k+2) AY)\/ET ((AV p a).getD (k+1) AY) ((AV p a).getD (k+2) AY) ((AV p a).getD k AY):=by
 have d1:=(h.distinct ha (k:=k) AB).1;have d2:=(h.distinct ha (k:=k+1) AB).1;have n0:=h.DW ha (k:=k) AB;have n1:=h.DW ha (k:=k+1) AB;have n2:=h.DW ha (k:=k+2) AB;have hap:=h.Qx.2.1 a ha k (k+1) AB AB;unfold UD at hap;rw [AZ (.inl rfl)] at hap;unfold Dj at hap;simp only [beq_iff_eq] at hap;generalize (AV p a).getD k AY=u at *;generalize (AV p a).getD (k+1) AY=o at *;rw [show k+1+1=k+2 by omega] at *;generalize (AV p a).getD (k+2) AY=v at *;apply MZ;intro hno;obtain ⟨-,r2,-,-⟩:=aiE n1 n0 n2 d1 (fun e=>d2 e.symm) (fun e=>hno (.inl e)) (fun e=>hno (.inr e));rw [r2] at hap;exact absurd hap BG
theorem Valid.ape (z:Int->Int) {a:Ar} (ha:a∈p.AU) {k:Nat} (hk:k+2<(AV p a).length):Oq p z ((AV p a).getD (k+1) AY) ((AV p a).getD (k+2) AY)-LW p z ((AV p a).getD (k+1) AY) ((AV p a).getD (k+2) AY)=z a.id:=by
 rw [wE,h.aBY z _ ha (j:=k+1) AB hk,show k+1-1=k by omega,show k+1+1=k+2 by omega,YP,ad2 (h.ad3 ha hk).symm]
 grind
theorem Valid.ai1 (z:Int->Int) {a:Ar} (ha:a∈p.AU) {k:Nat} (hk:k+2<(AV p a).length):Oq p z ((AV p a).getD (k+1) AY) ((AV p a).getD k AY)-LW p z ((AV p a).getD (k+1) AY) ((AV p a).getD k AY)=-z a.id:=by
 rw [wE,h.aBY z _ ha (j:=k+1) AB hk,show k+1-1=k by omega,show k+1+1=k+2 by omega,YP,ad2 (h.ad3 ha hk)]
 grind
theorem Valid.apf (z:Int->Int) {a:Ar} (ha:a∈p.AU) {k:Nat} (hk:k+2<(AV p a).length):Oq p z ((AV p a).getD (k+1) AY) ((AV p a).getD k AY)=LW p z ((AV p a).getD (k+1) AY) ((AV p a).getD (k+2) AY):=by
 have e:=wE p z ((AV p a).getD (k+1) AY) ((AV p a).getD k AY) ((AV p a).getD (k+2) AY);rw [h.aBY z _ ha (j:=k+1) AB hk,show k+1-1=k by omega,show k+1+1=k+2 by omega,YP,YP,fP,Int.zero_add,aAH,KN] at e;omega
theorem Valid.ou {z:Int->Int} (hz:Fv p z) {n:Nd} (hn:n∈p.nodes) {d:Int} (hd:d∈Df p.AU n.id):Oq p z n.pt (Dt p d)-LW p z n.pt (Dt p d)=zD z d:=by
 rw [wE,h.ad1 z _ hn];have h0:=h.ai0 hz hn;have h1:=apc (h.adY (n:=n.id)) hd (fun x=>zD z x);have e:((Df p.AU n.id).map fun x=>zD z x*(ind (ET n.pt (Dt p d) (Dt p x))+ind (ET n.pt (Dt p x) (Dt p d)))).sum=((Df p.AU n.id).map fun x=>zD z x + -(if x=d then zD z x else 0)).sum:=by
  refine Gx _ _ _ fun x hx=>?_;by_cases hxd:x=d
  ·subst hxd;rw [YP,AZ rfl];omega
  · rw [ad2 (h.dirs hn hd hx (fun e=>hxd e.symm)),AX hxd];omega
 rw [e,Sz,Uj,h0,h1];omega
theorem Valid.ai2 {n:Nd} (hn:n∈p.nodes) {i j:Nat} (hij:i<j) (hj:j<(DF p n.id).length):ET n.pt (Dt p ((DF p n.id)[i]'(by omega))) (Dt p (DF p n.id)[j]):=by
 have hmem:∀ {x:Int},x∈DF p n.id->x∈Df p.AU n.id:=fun hx=>(h.N8 hn).subset hx;have hs:=(iK (h.wJ hn)).2;rw [<- h.aBU hn,Fe] at hs;have h1:=hs i j AB hj hij;have hne:(DF p n.id)[i]≠(DF p n.id)[j]:=fun e=>by
  have hnd:=h.dU hn;rw [rZ,Fe] at hnd;exact hnd i j AB hj hij e
 have m1:=hmem (BH (show i<(DF p n.id).length by omega));have m2:=hmem (BH hj);rcases h.dirs hn m1 m2 hne with h2 | h2
 · exact h2
 ·exfalso;obtain ⟨n0,n1,x1⟩:=h.iJ hn m1;obtain ⟨-,n2,x2⟩:=h.iJ hn m2;unfold ltD at h1;rw [(abp _ _ _).2 ⟨by simp [Dy,n0,n1,n2],x2,x1,h2⟩] at h1
  cases h1
theorem Valid.arA {z:Int->Int} (hz:Fv p z) {n:Nd} (hn:n∈p.nodes) {d:Int} (hd:d∈DF p n.id):Oq p z n.pt (Dt p (precD (DF p n.id) d))=LW p z n.pt (Dt p d):=by
 have hnd:=h.dU hn;have hp:=h.N8 hn;have hso:=fun {i j:Nat}=>h.ai2 hn (i:=i) (j:=j);have e:=wE p z n.pt (Dt p (precD (DF p n.id) d)) (Dt p d);rw [h.ad1 z _ hn] at e;have h0:=h.ai0 hz hn;obtain ⟨i,hi,rfl⟩:=Dp.1 hd;rw [iL hnd hi] at e ⊢;have aBZ:∀ i j (hi:i<(DF p n.id).length) (hj:j<(DF p n.id).length),ind (ET n.pt (Dt p (DF p n.id)[i]) (Dt p (DF p n.id)[j]))=if i<j then 1 else 0:=by
  intro i j hi hj;rcases PD i j with h1 | h1 | h1
  · rw [AZ h1];exact AZ (hso h1 hj)
  · subst h1;rw [AX AB];exact YP _ _
  · rw [AX AB];exact AX (iP (hso h1 hi))
 have hc:∃ c:Int,∀ x∈Df p.AU n.id,ind (ET n.pt (Dt p ((DF p n.id)[(i+(DF p n.id).length-1) % (DF p n.id).length]'(U7 _ AB))) (Dt p x))+ind (ET n.pt (Dt p x) (Dt p (DF p n.id)[i]))=c:=by
  by_cases h1:i=0
  ·refine ⟨0,fun x hx=>?_⟩;obtain ⟨j,hj,rfl⟩:=Dp.1 (hp.symm.subset hx);have hm:(i+(DF p n.id).length-1) % (DF p n.id).length=(DF p n.id).length-1:=by rw [h1];rw [QC];exact Wq AB
   rw [aBZ _ _ (U7 _ AB) hj,aBZ j i hj hi,AX AB,AX AB];rfl
  ·refine ⟨1,fun x hx=>?_⟩;obtain ⟨j,hj,rfl⟩:=Dp.1 (hp.symm.subset hx);have hm:(i+(DF p n.id).length-1) % (DF p n.id).length=i-1:=by rw [show i+(DF p n.id).length-1=i-1+(DF p n.id).length by omega,aAG];exact Wq AB
   rw [aBZ _ _ (U7 _ AB) hj,aBZ j i hj hi];by_cases h2:j<i
   · rw [AX AB,AZ h2];rfl
   · rw [AZ AB,AX h2];rfl
 obtain ⟨c,hc⟩:=hc;rw [Gx _ _ (fun x=>c*zD z x) (fun x hx=>by rw [hc x hx,KL]),Z8,h0,KN] at e;omega
theorem Valid.ad4 {z:Int->Int} (hz:Fv p z) {a:Ar} (ha:a∈p.AU) {m:Nat} (hm:m+1<(AV p a).length):LW p z ((AV p a).getD m AY) ((AV p a).getD (m+1) AY)=Oq p z ((AV p a).getD (m+1) AY) ((AV p a).getD m AY):=by
 have hl:=Eh p a;have hid:=(h.Gh ha).1;have hne:=(h.distinct ha hm).1;have n1:=h.DW ha (k:=m) AB;have n2:=h.DW ha (k:=m+1) hm;have j1:Oq p z ((AV p a).getD m AY) ((AV p a).getD (m+1) AY)-LW p z ((AV p a).getD m AY) ((AV p a).getD (m+1) AY)=z a.id:=by
  by_cases h0:m=0
  ·subst h0;obtain ⟨n,hn,e1,e2⟩:=h.sound.XK ha;have:=h.ou hz hn (d:=a.id) (Qz.2 ⟨a,ha,.inl ⟨rfl,e1.symm⟩⟩)
   rw [h.iI ha] at this;rw [WJ,e2,this];unfold zD;rw [AZ AB]
  ·obtain ⟨k,rfl⟩:∃ k,m=k+1:=⟨m-1,AB⟩;exact h.ape z ha hm
 have j2:Oq p z ((AV p a).getD (m+1) AY) ((AV p a).getD m AY)-LW p z ((AV p a).getD (m+1) AY) ((AV p a).getD m AY)=-z a.id:=by
  by_cases h0:m+1=(AV p a).length-1
  ·obtain ⟨n,hn,e1,e2⟩:=h.sound.Yt ha;have:=h.ou hz hn (d:=-a.id) (Qz.2 ⟨a,ha,.inr ⟨rfl,e1.symm⟩⟩)
   rw [h.dS ha,show a.via.length=m by omega] at this;rw [h0,WQ,e2,this];unfold zD;rw [AX AB,Ob]
  · exact h.ai1 z ha AB
 rcases Ic (hY ((AV p a).getD m AY)) (hY ((AV p a).getD (m+1) AY)) with h1 | h1 | h1
 · exact h.ahy hz ha hm (.inl ⟨rfl,rfl⟩) h1
 · exact absurd (MI n1 n2 h1) hne
 ·have:=h.ahy hz ha hm (.inr ⟨rfl,rfl⟩) h1
  omega
theorem Valid.aBa {z:Int->Int} (hz:Fv p z) {a:Ar} (ha:a∈p.AU):∀ (m:Nat),m+1<(AV p a).length->LW p z ((AV p a).getD 0 AY) ((AV p a).getD 1 AY)=Oq p z ((AV p a).getD (m+1) AY) ((AV p a).getD m AY)
 | 0,hm=>h.ad4 hz ha hm
 | m+1,hm=>by
  rw [Valid.aBa hz ha m AB,h.apf z ha (k:=m) AB];exact h.ad4 hz ha (m:=m+1) hm
end
def Hz (p:Pl) (z:Int->Int) (d:Int):Int:=Oq p z (nodeAt p (Ja p d)) (Dt p d)
section
variable {p:Pl} (h:Valid p)
include h
theorem Valid.Xh {z:Int->Int} (hz:Fv p z) {a:Ar} (ha:a∈p.AU):Hz p z a.id-Hz p z (-a.id)=z a.id:=by
 have hl:=Eh p a;have hid:=(h.Gh ha).1;have h1:=h.aBa hz ha a.via.length AB;have h2:(AV p a).getD (a.via.length+1) AY=nodeAt p a.dst:=by
  have:=WQ p a
  rwa [hl,show a.via.length+2-1=a.via.length+1 by omega] at this
 unfold Hz;rw [h.aBT ha,h.wI ha,h.iI ha,h.dS ha];rw [h2,WJ] at h1;obtain ⟨n,hn,e1,e2⟩:=h.sound.XK ha;have:=h.ou hz hn (d:=a.id) (Qz.2 ⟨a,ha,.inl ⟨rfl,e1.symm⟩⟩)
 rw [h.iI ha,<- e2] at this;unfold zD at this;rw [AZ AB] at this;omega
theorem Valid.arB {d:Int} (hd:d∈BU p):d≠0:=by
 obtain ⟨a,ha,e⟩:=Iy.1 hd;have:=h.Gh ha
 omega
theorem Valid.ai3 {z:Int->Int} (hz:Fv p z) {d:Int} (hd:d∈BU p):Hz p z d-Hz p z (-d)=zD z d:=by
 obtain ⟨a,ha,e⟩:=Iy.1 hd;have hid:=(h.Gh ha).1;have:=h.Xh hz ha
 rcases e with rfl | rfl
 · rw [this];unfold zD;rw [AZ AB]
 · rw [Ob];unfold zD;rw [AX AB,Ob];omega
theorem Valid.arC {z:Int->Int} (hz:Fv p z) {d:Int} (hd:d∈BU p):Hz p z (FP p d)=Hz p z d:=by
 obtain ⟨n,hn,e1,hm,hx⟩:=h.lY hd;have hs:=(h.Qe hd).2;have j:=h.ou hz hn ((h.N8 hn).subset hm);have t:=h.arA hz hn hm;have k:=h.ai3 hz hd;have en:nodeAt p (Ja p (-d))=n.pt:=by rw [<- e1];exact h.sound.QM hn
 have z1:=apd z (h.arB hd);unfold Hz at k ⊢;rw [hs,en,hx,t];rw [en] at k;omega
end
