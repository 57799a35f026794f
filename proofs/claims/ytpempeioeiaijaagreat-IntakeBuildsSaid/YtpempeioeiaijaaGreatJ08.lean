import Derived.Test.YtpempeioeiaijaaGreatJ07
set_option linter.unusedSimpArgs false
set_option linter.unusedVariables false
namespace Go.Proofs.YtpempeioeiaijaaGreat
open Go.RowKit
def hY (p:Pt):Int:=8388608*p.y+p.x
theorem Md {a b:Pt} (ha:CJ a=true) (hb:CJ b=true) (h:hY a=hY b):a=b:=by
 rw [SH] at ha hb;unfold hY at h;rw [Pt.ext_iff'];omega
instance (ux uy vx vy:Int):Decidable (OI ux uy vx vy):=by unfold OI EZ;infer_instance
instance (o a b:Pt):Decidable (Ea o a b):=by unfold Ea;infer_instance
def NP (a b v:Pt):Int:=if hY a<hY v/\hY v<hY b/\0<tw a b v then 1 else if hY b<hY v/\hY v<hY a/\0<tw b a v then -1 else 0
theorem af2 (a b v:Pt):NP b a v=-NP a b v:=by
 unfold NP;by_cases h1:hY a<hY v/\hY v<hY b/\0<tw a b v
 · rw [AZ h1,AX AA,AZ h1]
 ·rw [AX h1];by_cases h2:hY b<hY v/\hY v<hY a/\0<tw b a v
  · rw [AZ h2,AX h1,AZ h2];rfl
  · rw [AX h2,AX h1,AX h2];rfl
def tV (s t v:Pt):Int:=if hY s<hY v/\hY v<hY t/\tw s t v<0 then 1 else 0
theorem aiI (a b s t:Pt):tw a b s*(hY t-hY b)+tw a b t*(hY b-hY s)=-((hY b-hY a)*tw s t b):=by unfold tw hY;grind
theorem aiJ (a b s t:Pt):tw a b s*(hY t-hY a)+tw a b t*(hY a-hY s)=-((hY b-hY a)*tw s t a):=by unfold tw hY;grind
theorem tX (a b s t:Pt):tw a b t-tw a b s=tw s t a-tw s t b:=by unfold tw;grind
theorem af4 (a b s t:Pt):BM a b s t=tw a b t-tw a b s:=by unfold tw BM;grind
theorem aqG (a s t:Pt):BM a s s t=tw s t a:=by unfold tw BM;grind
theorem aqH (a b s:Pt):BM a s a b=-tw a b s:=by unfold tw BM;grind
theorem ajl (a b c:Pt):tw a c b=-tw a b c:=by unfold tw;grind
theorem Xv (a b:Pt):tw a b a=0:=by unfold tw;grind
theorem Xw (a b:Pt):tw a b b=0:=by unfold tw;grind
theorem ajm {a b s t:Pt} (hab:a≠b) (h:N9 a b s t=0) (hd:tw a b t-tw a b s≠0) :
  ¬ (tw a b s<=0/\0<=tw a b t/\tw s t b<=0/\0<=tw s t a)/\¬ (0<=tw a b s/\tw a b t<=0/\0<=tw s t b/\tw s t a<=0):=by
 have e:=tX a b s t;unfold N9 at h;rw [AX (fun h=>hab h.1),aqG a s t,aqH a b s,af4 a b s t,AX hd] at h;split at h
 ·split at h
  · cases h
  · omega
 ·split at h
  · cases h
  · omega
def Me (a b s t:Pt):Prop:=tw a b t-tw a b s≠0->¬ (tw a b s<=0/\0<=tw a b t/\tw s t b<=0/\0<=tw s t a)/\¬ (0<=tw a b s/\tw a b t<=0/\0<=tw s t b/\tw s t a<=0)
theorem Me.of {a b s t:Pt} (hab:a≠b) (h:N9 a b s t=0):Me a b s t:=ajm hab h
theorem Me.comm {a b s t:Pt} (h:Me a b s t):Me s t a b:=by
 intro hd;have e:=tX a b s t;have:=h AA
 omega
theorem Me.flip {a b s t:Pt} (h:Me a b s t):Me b a s t:=by
 intro hd;have e1:tw b a s=-tw a b s:=by unfold tw;grind
 have e2:tw b a t=-tw a b t:=by unfold tw;grind
 have:=h AA
 omega
theorem NQ (x:Int) {y z:Int} (h:y<z):(0<x*z-x*y↔0<x)/\(x*z-x*y<0↔x<0):=by
 rw [<- dw];have hp:0<z-y:=AA
 rcases Iw x 0 with h1 | h1 | h1
 · have:=Uf h1 hp;omega
 · subst h1;simp
 · have:=Ji h1 hp;omega
theorem ajn {a b s t:Pt} (hab:hY a<hY b) (hst:hY s<hY t) (h:Me a b s t) :
  (hY a<hY s->hY s<hY b->hY b<hY t->(0<tw a b s↔tw s t b<0)) /\
  (hY a<hY s->hY t<hY b->(0<tw a b s↔0<tw a b t)) /\
  (hY s<hY a->hY b<hY t->(tw s t a<0↔tw s t b<0)) /\
  (hY s<hY a->hY a<hY t->hY t<hY b->(0<tw a b t↔tw s t a<0)):=by
 have e:=tX a b s t;have i1:=aiI a b s t;have i2:=aiJ a b s t;have j1:=aiI s t a b;have j2:=aiJ s t a b;have nm:=h;unfold Me at nm;clear h;generalize tw a b s=u1 at *;generalize tw a b t=u2 at *;generalize tw s t a=u3 at *;generalize tw s t b=u4 at *;generalize hY a=A at *;generalize hY b=B at *;generalize hY s=S at *;generalize hY t=T at *;rw [dw,dw,OB (B-A),dw] at i1 i2;rw [dw,dw,OB (T-S),dw] at j1 j2;have g1:=NQ u1 hst;have g2:=NQ u2 hst;have g3:=NQ u3 hab;have g4:=NQ u4 hab;refine ⟨fun h1 h2 h3=>?_,fun h1 h2=>?_,fun h1 h2=>?_,fun h1 h2 h3=>?_⟩
 ·have f1:=NQ u1 h3;have f2:=NQ u2 h2;have f3:=NQ u1 (show A<T by omega);have f4:=NQ u2 h1;by_cases hd:u2-u1=0
  ·have:u1=u2:=AA
   subst this;omega
  ·have:=nm hd
   omega
 ·have f1:=NQ u1 h2;have f2:=NQ u2 (show S<B by omega);have f3:=NQ u1 (show A<T by omega);have f4:=NQ u2 h1;by_cases hd:u2-u1=0
  · omega
  ·have:=nm hd
   omega
 ·have f1:=NQ u3 h2;have f2:=NQ u4 (show A<T by omega);have f3:=NQ u3 (show S<B by omega);have f4:=NQ u4 h1;by_cases hd:u2-u1=0
  · omega
  ·have:=nm hd
   omega
 ·have f1:=NQ u1 h3;have f2:=NQ u2 (show S<B by omega);have f3:=NQ u1 h2;have f4:=NQ u2 h1;by_cases hd:u2-u1=0
  ·have:u1=u2:=AA
   subst this;have f5:=NQ u1 (show S<T by omega);omega
  ·have:=nm hd
   omega
theorem ajo {o p:Pt} (ho:CJ o=true) (hp:CJ p=true):EZ (p.x-o.x) (p.y-o.y)↔hY p<hY o:=by
 rw [SH] at ho hp;unfold EZ hY;omega
theorem oH {o a b:Pt} (ho:CJ o=true) (ha:CJ a=true) (hb:CJ b=true):Ea o a b↔(¬ hY a<hY o/\hY b<hY o)\/((hY a<hY o↔hY b<hY o)/\0<tw o a b):=by
 unfold Ea OI;rw [ajo ho ha,ajo ho hb];rfl
theorem ajp {a b s t:Pt} (na:CJ a=true) (nb:CJ b=true) (ns:CJ s=true) (nt:CJ t=true) (hab:hY a<hY b) (hst:hY s<hY t)
  (hno:a≠s->a≠t->b≠s->b≠t->Me a b s t) :
  NP a b s+(if a=s/\Ea s b t then 1 else 0)-(if b=s/\Ea s a t then 1 else 0)-(NP a b t-(if a=t/\Ea t s b then 1 else 0)+(if b=t/\Ea t s a then 1 else 0))=tV s t b-tV s t a:=by
 have hne:a≠b:=fun e=>by rw [e] at hab;omega
 have d1:=oH ns nb nt;have d2:=oH ns na nt;have d3:=oH nt ns nb;have d4:=oH nt ns na;have q:∀ {u v:Pt},CJ u=true->CJ v=true->(u=v↔hY u=hY v):=fun hu hv=>⟨fun e=>by rw [e],Md hu hv⟩;have e1:tw s b t=-tw s t b:=ajl s t b;have e2:tw t s a=-tw s t a:=by unfold tw;grind
 have f1:hY a=hY s->tw a b s=0/\tw s t a=0/\tw a b t=-tw s t b:=fun h=>by
  have:=Md na ns h
  subst this;exact ⟨Xv a b,Xv a t,e1⟩
 have f2:hY b=hY t->tw a b t=0/\tw s t b=0/\tw a b s=-tw s t a:=fun h=>by
  have:=Md nb nt h
  subst this;exact ⟨Xw a b,Xw s b,by unfold tw;grind⟩
 have f3:hY a≠hY s->hY a≠hY t->hY b≠hY s->hY b≠hY t->_:=fun h1 h2 h3 h4=>ajn (s:=s) (t:=t) hab hst (hno (fun e=>h1 RD) (fun e=>h2 RD) (fun e=>h3 RD) (fun e=>h4 RD));have k1:(a=s/\Ea s b t)↔(hY a=hY s/\tw s t b<0):=by rw [d1,q na ns,e1];constructor<;>(rintro ⟨h1,h2⟩;exact ⟨h1,AA⟩)
 have k2:¬ (b=s/\Ea s a t):=by rw [d2,q nb ns];rintro ⟨h1,h2⟩;omega
 have k3:¬ (a=t/\Ea t s b):=by rw [d3,q na nt];rintro ⟨h1,h2⟩;omega
 have k4:(b=t/\Ea t s a)↔(hY b=hY t/\tw s t a<0):=by rw [d4,q nb nt,e2];constructor<;>(rintro ⟨h1,h2⟩;exact ⟨h1,AA⟩)
 have m1:NP a b s=if hY a<hY s/\hY s<hY b/\0<tw a b s then 1 else 0:=by unfold NP;rw [AX (show ¬ (hY b<hY s/\hY s<hY a/\0<tw b a s) by omega)]
 have m2:NP a b t=if hY a<hY t/\hY t<hY b/\0<tw a b t then 1 else 0:=by unfold NP;rw [AX (show ¬ (hY b<hY t/\hY t<hY a/\0<tw b a t) by omega)]
 rw [m1,m2,AX k2,AX k3];unfold tV;simp only [k1,k4];clear hno d1 d2 d3 d4 e1 e2 q na nb ns nt hne k1 k2 k3 k4 m1 m2;generalize tw a b s=u1 at *;generalize tw a b t=u2 at *;generalize tw s t a=u3 at *;generalize tw s t b=u4 at *;generalize hY a=A at *;generalize hY b=B at *;generalize hY s=S at *;generalize hY t=T at *;rcases Iw A S with h1 | h1 | h1
 ·clear f1;rcases Iw B S with h3 | h3 | h3
  ·clear f2 f3;rw [AX AA,AX AA,AX AA,AX AA,AX AA,AX AA];rfl
  ·clear f2 f3;rw [AX AA,AX AA,AX AA,AX AA,AX AA,AX AA];rfl
  ·rcases Iw B T with h2 | h2 | h2
   ·have f3:=(f3 AA AA AA AA).1 h1 h3 h2;clear f2;simp only [h1,h3,h2,true_and,f3,show ¬ A=S by omega,show ¬ T<B by omega,show ¬ B=T by omega,show ¬ S<A by omega,false_and,and_false,if_false];omega
   ·obtain ⟨-,-,f2⟩:=f2 h2;clear f3;simp only [h1,h3,h2,true_and,show ¬ A=S by omega,show ¬ S<A by omega,show ¬ T<T by omega,show A<T by omega,hst,false_and,and_false,if_false];split<;>split<;>omega
   ·have f3:=(f3 AA AA AA AA).2.1 h1 h2;clear f2;simp only [h1,h3,h2,true_and,f3,show ¬ A=S by omega,show ¬ S<A by omega,show ¬ B<T by omega,show ¬ B=T by omega,show A<T by omega,false_and,and_false,if_false];omega
 ·obtain ⟨f1a,f1b,f1⟩:=f1 h1;clear f3;subst h1;rcases Iw B T with h2 | h2 | h2
  ·clear f2;simp only [hab,h2,true_and,show ¬ A<A by omega,show ¬ B=T by omega,show ¬ T<B by omega,false_and,and_false,if_false];omega
  ·obtain ⟨f2a,f2b,f2⟩:=f2 h2;subst h2;simp only [hab,true_and,show ¬ A<A by omega,show ¬ B<B by omega,false_and,and_false,if_false];split<;>split<;>omega
  ·clear f2;simp only [hab,hst,h2,true_and,show ¬ A<A by omega,show ¬ B=T by omega,show ¬ B<T by omega,false_and,and_false,if_false];split<;>split<;>omega
 ·clear f1;rcases Iw A T with h3 | h3 | h3
  ·rcases Iw B T with h2 | h2 | h2
   ·have f3:=(f3 AA AA AA AA).2.2.1 h1 h2;clear f2;simp only [h1,h2,h3,true_and,f3,show ¬ A<S by omega,show ¬ A=S by omega,show ¬ T<B by omega,show ¬ B=T by omega,show S<B by omega,false_and,and_false,if_false];omega
   ·clear f2 f3;subst h2;simp only [h1,h3,hst,true_and,show ¬ A<S by omega,show ¬ A=S by omega,show ¬ B<B by omega,false_and,and_false,if_false];omega
   ·have f3:=(f3 AA AA AA AA).2.2.2 h1 h3 h2;clear f2;simp only [h1,h2,h3,true_and,f3,show ¬ A<S by omega,show ¬ A=S by omega,show ¬ B<T by omega,show ¬ B=T by omega,false_and,and_false,if_false];omega
  ·clear f2 f3;rw [AX AA,AX AA,AX AA,AX AA,AX AA,AX AA];rfl
  ·clear f2 f3;rw [AX AA,AX AA,AX AA,AX AA,AX AA,AX AA];rfl
section
variable {α β:Type}
theorem IB (l:List α) (f g:α->Int) (h:∀ x∈l,f x=g x):(l.map f).sum=(l.map g).sum:=by rw [kV h]
theorem XM (l:List α) (f:α->Int) (h:∀ x∈l,f x=0):(l.map f).sum=0:=by
 induction l with
 | nil=>rfl
 | cons a l ih=>rw [Ey,IC,h a Ah,ih (fun x hx=>h x (by simp [hx]))];rfl
theorem RQ (l:List α) (f g:α->Int):(l.map fun x=>f x+g x).sum=(l.map f).sum+(l.map g).sum:=by
 induction l with
 | nil=>rfl
 | cons a l ih=>simp only [Ey,IC,ih];omega
theorem U2 (l:List α) (f:α->Int):(l.map fun x=>-f x).sum=-(l.map f).sum:=by
 induction l with
 | nil=>rfl
 | cons a l ih=>simp only [Ey,IC,ih];omega
theorem Xx (l:List α) (c:Int) (f:α->Int):(l.map fun x=>c*f x).sum=c*(l.map f).sum:=by
 induction l with
 | nil=>simp
 | cons a l ih=>simp only [Ey,IC,ih,acw]
theorem ajq (l:List α) (m:List β) (f:α->β->Int):(l.map fun x=>(m.map fun y=>f x y).sum).sum=(m.map fun y=>(l.map fun x=>f x y).sum).sum:=by
 induction l with
 | nil=>simp only [O9,Vz];rw [XM m _ (fun _ _=>rfl)]
 | cons a l ih=>simp only [Ey,IC,ih];rw [RQ]
theorem tY (n j:Nat) (f:Nat->Int) (h:∀ k,k<n->k≠j->f k=0):((List.range n).map f).sum=if j<n then f j else 0:=by
 induction n with
 | zero=>rfl
 | succ n ih =>
  rw [XY,FH,O8,ih (fun k hk=>h k AA)];simp only [Ey,O9,IC,Vz,eF];by_cases hj:j=n
  · subst hj;rw [AX AA,AZ AA];omega
  ·rw [h n AA (fun e=>hj e.symm)];by_cases h2:j<n
   · rw [AZ h2,AZ AA];omega
   · rw [AX h2,AX AA];rfl
theorem sumT (n:Nat) (R:Nat->Int):((List.range n).map fun k=>R (k+1)-R k).sum=R n-R 0:=by
 induction n with
 | zero=>simp
 | succ n ih =>
  rw [XY,FH,O8,ih];simp only [Ey,O9,IC,Vz];omega
theorem tZ (l:List α) (k:α->Int) (hk:(l.map k).Pairwise (· < ·)) (r:Int->Int) (x:Int) (hx:∃ y∈l,k y=x):(l.map fun y=>if x=k y then r (k y) else 0).sum=r x:=by
 induction l with
 | nil=>obtain ⟨y,hy,-⟩:=hx;cases hy
 | cons a l ih =>
  rw [Ey,P8] at hk;rw [Ey,IC];by_cases e:x=k a
  · rw [AZ e,XM l _ (fun y hy=>AX (fun e2=>by have:=hk.1 (k y) (FZ hy);omega)),e];omega
  ·rw [AX e,ih hk.2 (by
    obtain ⟨y,hy,e2⟩:=hx;rcases FI.1 hy with rfl | hy
    · exact absurd e2.symm e
    · exact ⟨y,hy,e2⟩)]
   omega
end
def Ko (f:Pt->Pt->Int) (l:List Pt):Int:=((List.range (l.length-1)).map fun k=>f (l.getD k AY) (l.getD (k+1) AY)).sum
def EC (p:Pl) (z:Int->Int) (f:Pt->Pt->Int):Int:=(p.AQ.map fun a=>z a.id*Ko f (AV p a)).sum
theorem fV (p:Pl) (z:Int->Int) (f g:Pt->Pt->Int):EC p z (fun a b=>f a b+g a b)=EC p z f+EC p z g:=by
 unfold EC Ko;rw [<- RQ];exact IB _ _ _ fun a _=>by rw [RQ,acw]
theorem ajr (p:Pl) (z:Int->Int) (f:Pt->Pt->Int):EC p z (fun a b=>-f a b)=-EC p z f:=by
 unfold EC Ko;rw [<- U2];exact IB _ _ _ fun a _=>by rw [U2,Int.mul_neg]
theorem ajs (p:Pl) (z:Int->Int) (f g:Pt->Pt->Int):EC p z (fun a b=>f a b-g a b)=EC p z f-EC p z g:=by
 have:=fV p z f (fun a b=>-g a b)
 rw [ajr] at this;simp only [<- acy] at this;exact this
theorem tq {p:Pl} {z:Int->Int} {f g:Pt->Pt->Int} (h:∀ a∈p.AQ,∀ k,k+1<(AV p a).length->f ((AV p a).getD k AY) ((AV p a).getD (k+1) AY)=g ((AV p a).getD k AY) ((AV p a).getD (k+1) AY)):EC p z f=EC p z g:=by
 unfold EC Ko;refine IB _ _ _ fun a ha=>?_;congr 1;exact IB _ _ _ fun k hk=>h a ha k yI
def GR (p:Pl) (z:Int->Int):Prop:=∀ n∈p.nodes,(p.AQ.map fun a=>z a.id*((if a.dst=n.id then 1 else 0)-(if a.fr=n.id then 1 else 0))).sum=0
theorem Vp (p:Pl) (a:Ar):(AV p a).getD ((AV p a).length-1) AY=nodeAt p a.dst:=by
 rw [Fa];unfold AV
 show (nodeAt p a.fr::(a.via++[nodeAt p a.dst])).getD (a.via.length+1) AY=_
 rw [ace,Gm,List.getElem?_append_right AA];simp
section
variable {p:Pl} (h:Valid p)
include h
theorem Valid.ajt {z:Int->Int} (hz:GR p z) (r:Int->Int):(p.AQ.map fun a=>z a.id*(r a.dst-r a.fr)).sum=0:=by
 have e:(p.AQ.map fun a=>z a.id*(r a.dst-r a.fr)).sum=(p.AQ.map fun a=>(p.nodes.map fun n=>r n.id*(z a.id*((if a.dst=n.id then 1 else 0)-(if a.fr=n.id then 1 else 0)))).sum).sum:=by
  refine IB _ _ _ fun a ha=>?_;obtain ⟨n1,h1,e1,-⟩:=h.sound.XG ha;obtain ⟨n2,h2,e2,-⟩:=h.sound.Xn ha;have s1:=tZ p.nodes (·.id) h.sound.nodes r a.fr ⟨n1,h1,e1⟩;have s2:=tZ p.nodes (·.id) h.sound.nodes r a.dst ⟨n2,h2,e2⟩;rw [<- s1,<- s2,acy,<- U2,<- RQ,<- Xx];refine IB _ _ _ fun n _=>?_;by_cases c1:a.dst=n.id<;>by_cases c2:a.fr=n.id<;>simp only [c1,c2,if_true,if_false]<;>grind
 rw [e,ajq];refine XM _ _ fun n hn=>?_;rw [Xx,hz n hn,KO]
theorem Valid.tu {z:Int->Int} (hz:GR p z) (R:Pt->Int):EC p z (fun a b=>R b-R a)=0:=by
 rw [<- h.ajt hz (fun i=>R (nodeAt p i))];unfold EC Ko;refine IB _ _ _ fun a _=>?_;rw [sumT ((AV p a).length-1) (fun k=>R ((AV p a).getD k AY)),Vp,Vj]
theorem Valid.af5 {a b:Ar} (ha:a∈p.AQ) (hb:b∈p.AQ) {k m:Nat} (hk:k+1<(AV p a).length) (hm:m+1<(AV p b).length)
  (h1:(AV p a).getD k AY≠(AV p b).getD m AY) (h2:(AV p a).getD k AY≠(AV p b).getD (m+1) AY) (h3:(AV p a).getD (k+1) AY≠(AV p b).getD m AY) (h4:(AV p a).getD (k+1) AY≠(AV p b).getD (m+1) AY) :
  Me ((AV p a).getD k AY) ((AV p a).getD (k+1) AY) ((AV p b).getD m AY) ((AV p b).getD (m+1) AY):=by
 have Xy:∀ {c d:Ar} {i j:Nat},c∈p.AQ->d∈p.AQ->i+1<(AV p c).length->j+1<(AV p d).length->EO [(AV p c).getD i AY,(AV p c).getD (i+1) AY,(AV p d).getD j AY,(AV p d).getD (j+1) AY]=true:=fun hc hd hi hj =>
  Xo (h.Dh hc AA) (h.Dh hc hi) (h.Dh hd AA) (h.Dh hd hj)
 have same:∀ {i j:Nat},i<j->j+1<(AV p a).length->(AV p a).getD i AY≠(AV p a).getD (j+1) AY->(AV p a).getD (i+1) AY≠(AV p a).getD j AY->Me ((AV p a).getD i AY) ((AV p a).getD (i+1) AY) ((AV p a).getD j AY) ((AV p a).getD (j+1) AY):=by
  intro i j hij hj n1 n2;have hap:=h.Qd.2.1 a ha i j hij hj;unfold Rw Dc at hap;simp only at hap;rw [AX] at hap
  ·rw [beq_iff_eq] at hap;unfold Fz at hap;rw [AZ (Xy ha ha AA hj)] at hap;exact Me.of (h.distinct ha (k:=i) AA).1 hap
  ·rintro (e | ⟨e1,e2,e3⟩)
   · subst e;exact n2 rfl
   ·subst e1;apply n1;have hl:=Vp p a;rw [show (AV p a).length-1=j+1 by omega] at hl;rw [hl,Vj,e3]
 by_cases hab:a=b
 ·subst hab;rcases QT k m with hkm | hkm | hkm
  · exact same hkm hm h2 h3
  · subst hkm;exact absurd rfl h1
  · exact (same hkm hk (fun e=>h3 e.symm) (fun e=>h2 e.symm)).comm
 ·have other:∀ {c d:Ar} {i j:Nat},c∈p.AQ->d∈p.AQ->i+1<(AV p c).length->j+1<(AV p d).length->Oh p (Dc p c i) (Dc p d j)=true ->
    (AV p c).getD i AY≠(AV p d).getD j AY->(AV p c).getD i AY≠(AV p d).getD (j+1) AY->(AV p c).getD (i+1) AY≠(AV p d).getD j AY->(AV p c).getD (i+1) AY≠(AV p d).getD (j+1) AY ->
    Me ((AV p c).getD i AY) ((AV p c).getD (i+1) AY) ((AV p d).getD j AY) ((AV p d).getD (j+1) AY):=by
   intro c d i j hc hd hi hj hjo n1 n2 n3 n4;unfold Oh at hjo;split at hjo
   ·exfalso;obtain ⟨n,hn,hat⟩:=OA.1 hjo;unfold Og at hat;simp only [ER] at hat;have at_end:∀ {c:Ar} {i:Nat},c∈p.AQ->i+1<(AV p c).length->LQ (Dc p c i).a (Dc p c i).b n.pt=true->(AV p c).getD i AY=n.pt\/(AV p c).getD (i+1) AY=n.pt:=by
     intro c i hc hi ho;rcases h.nY hc hi hn ho with ⟨e1,e2⟩ | ⟨e1,e2⟩
     · left;subst e1;rw [Vj,e2];exact h.sound.Py hn
     ·right;have hl:=Vp p c;rw [Fa,show c.via.length+2-1=i+1 by omega] at hl;rw [hl,e2];exact h.sound.Py hn
    rcases at_end hc hi hat.1.2 with e1 | e1<;>rcases at_end hd hj hat.2 with e2 | e2
    · exact n1 (e1.trans e2.symm)
    · exact n2 (e1.trans e2.symm)
    · exact n3 (e1.trans e2.symm)
    · exact n4 (e1.trans e2.symm)
   ·rw [beq_iff_eq] at hjo;unfold Fz Dc at hjo;rw [AZ (Xy hc hd hi hj)] at hjo;exact Me.of (h.distinct hc hi).1 hjo
  have hpw:=h.Qd.2.2;obtain ⟨i,hi,rfl⟩:=EF.1 ha;obtain ⟨j,hj,rfl⟩:=EF.1 hb;rw [G9] at hpw;rcases QT i j with hij | hij | hij
  · exact other ha hb hk hm (hpw i j hi hj hij k hk m hm) h1 h2 h3 h4
  · subst hij;exact absurd rfl hab
  · exact (other hb ha hm hk (hpw j i hj hi hij m hm k hk) (fun e=>h1 e.symm) (fun e=>h3 e.symm) (fun e=>h2 e.symm) (fun e=>h4 e.symm)).comm
end
def aaw (p:Pl) (a:Ar):Prop:=(∀ k,k+1<(AV p a).length->Px p (Dc p a k)=true)/\(∀ k m,k<m->m+1<(AV p a).length->Rw (Dc p a k) (Dc p a m)=true)
def aju (p:Pl) (a b:Ar):Prop:=∀ k,k+1<(AV p a).length->∀ m,m+1<(AV p b).length->Oh p (Dc p a k) (Dc p b m)=true
theorem af6 {p:Pl} {a:Ar} {s:Sg}:s∈KE a (AV p a)↔∃ k,k+1<(AV p a).length/\s=Dc p a k:=by
 unfold KE;rw [Ez];constructor
 · rintro ⟨k,hk,rfl⟩;have:=FQ.1 hk;exact ⟨k,AA,rfl⟩
 · rintro ⟨k,hk,rfl⟩;exact ⟨k,FQ.2 AA,rfl⟩
theorem ajv (p:Pl) (hs:(p.AQ.map (·.id)).Pairwise (· < ·)):MZ p=true↔(∀ a∈p.AQ,aaw p a)/\p.AQ.Pairwise (aju p):=by
 rw [IX] at hs;unfold MZ;rw [aa1];unfold SI;rw [yO];constructor
 ·rintro ⟨h1,h2,h3⟩;refine ⟨fun a ha=>⟨fun k hk=>h1 _ (Ii.2 ⟨a,ha,nV hk⟩),fun k m hkm hm=>?_⟩,?_⟩
  ·have h4:=h2 a ha;unfold KE at h4;rw [IX,G9] at h4;have h5:=h4 k m (by rw [P9];omega) (by rw [P9];omega) hkm;simp only [List.getElem_range] at h5;unfold NC at h5;rw [AZ rfl] at h5;exact h5
  ·refine (hs.and h3).imp ?_;rintro a b ⟨hlt,h4⟩ k hk m hm;have h5:=h4 _ (nV hk) _ (nV hm);unfold NC at h5;rw [AX (show ¬ (Dc p a k).arc.id=(Dc p b m).arc.id from fun e=>by have e':a.id=b.id:=e;omega)] at h5;exact h5
 ·rintro ⟨h1,h2⟩;refine ⟨fun s hs'=>?_,fun a ha=>?_,?_⟩
  ·obtain ⟨a,ha,hs'⟩:=Ii.1 hs';obtain ⟨k,hk,rfl⟩:=af6.1 hs';exact (h1 a ha).1 k hk
  ·unfold KE;rw [IX,G9];intro k m hk hm hkm;simp only [List.getElem_range];rw [P9] at hm;unfold NC;rw [AZ rfl];exact (h1 a ha).2 k m hkm AA
  ·refine (hs.and h2).imp ?_;rintro a b ⟨hlt,h4⟩ s hs1 t ht;obtain ⟨k,hk,rfl⟩:=af6.1 hs1;obtain ⟨m,hm,rfl⟩:=af6.1 ht;unfold NC;rw [AX (show ¬ (Dc p a k).arc.id=(Dc p b m).arc.id from fun e=>by have e':a.id=b.id:=e;omega)];exact h4 k hk m hm
theorem all_map' {α:Type} (l:List α) (f:α->Bool):l.all f=(l.map f).all id:=by rw [WH];rfl
theorem any_map' {α:Type} (l:List α) (f:α->Bool):l.any f=(l.map f).any id:=by rw [XW];rfl
theorem aqI (l:List Pt):SX l=false↔l.Pairwise (·≠·):=by
 constructor
 ·intro h;rw [G9];intro i j hi hj hij e;have:=adl l j i hij hj e.symm
  rw [h] at this
  cases this
 ·intro h;rw [G9] at h;exact adn l fun j k hk hj e=>h k j AA hj hk e.symm
section
variable {p:Pl} (h:Valid p)
include h
end
theorem fZ {o a b:Pt} (h:Ea o a b):¬ Ea o b a:=by
 unfold Ea OI at *;rw [OB (b.x-o.x),OB (b.y-o.y)];rcases h with ⟨h1,h2⟩ | ⟨h1,h2⟩
 ·rintro (⟨h3,h4⟩ | ⟨h3,h4⟩)
  · exact h1 h4
  · exact h1 (h3.1 h2)
 ·rintro (⟨h3,h4⟩ | ⟨h3,h4⟩)
  · exact h3 (h1.1 h4)
  · omega
theorem aqJ (o a:Pt):¬ Ea o a a:=fun h=>fZ h h
def PY (v u a b:Pt):Int:=NP a b v+(if a=v/\Ea v b u then 1 else 0)-(if b=v/\Ea v a u then 1 else 0)
def bP (v u a b:Pt):Int:=NP a b v-(if a=v/\Ea v u b then 1 else 0)+(if b=v/\Ea v u a then 1 else 0)
def Kq (p:Pl) (z:Int->Int) (v u:Pt):Int:=EC p z (PY v u)
def Oy (p:Pl) (z:Int->Int) (v u:Pt):Int:=EC p z (bP v u)
theorem ajw (v u a b:Pt):PY v u b a=-PY v u a b:=by unfold PY;rw [af2];omega
theorem arn (v u a b:Pt):bP v u b a=-bP v u a b:=by unfold bP;rw [af2];omega
def zD (z:Int->Int) (d:Int):Int:=if 0<d then z d else -z (-d)
def Tj (φ:Pt->Int) (v a b:Pt):Int:=(if a=v then φ b else 0)-(if b=v then φ a else 0)
def ind (P:Prop) [Decidable P] : Int:=if P then 1 else 0
theorem aro (v u w a b:Pt):bP v u a b-PY v w a b=-Tj (fun x=>ind (Ea v u x)+ind (Ea v x w)) v a b:=by
 unfold bP PY Tj ind;by_cases h1:a=v<;>by_cases h2:b=v<;>simp only [h1,h2,true_and,false_and,if_true,if_false]<;>omega
theorem uD (p:Pl) (z:Int->Int) (v u w:Pt):Oy p z v u-Kq p z v w=-EC p z (Tj (fun x=>ind (Ea v u x)+ind (Ea v x w)) v):=by
 unfold Oy Kq;rw [<- ajs,<- ajr];refine tq fun a _ k _=>aro _ _ _ _ _
section
variable {p:Pl} (h:Valid p)
include h
theorem Valid.ajx {z:Int->Int} (hz:GR p z) {c:Ar} (hc:c∈p.AQ) {m:Nat} (hm:m+1<(AV p c).length) {s t:Pt}
  (he:(s=(AV p c).getD m AY/\t=(AV p c).getD (m+1) AY)\/(t=(AV p c).getD m AY/\s=(AV p c).getD (m+1) AY)) (hst:hY s<hY t):Kq p z s t=Oy p z t s:=by
 have hd:Kq p z s t-Oy p z t s=EC p z (fun a b=>tV s t b-tV s t a):=by
  unfold Oy Kq;rw [<- ajs];refine tq fun a ha k hk=>?_;have na:=h.Dh ha (k:=k) AA;have nb:=h.Dh ha (k:=k+1) hk;have n1:=h.Dh hc (k:=m) AA;have n2:=h.Dh hc (k:=m+1) hm;have hne:=(h.distinct ha hk).1;have NM:=fun h1 h2 h3 h4=>h.af5 ha hc hk hm h1 h2 h3 h4;generalize (AV p a).getD k AY=x at *;generalize (AV p a).getD (k+1) AY=y at *;generalize (AV p c).getD m AY=e at *;generalize (AV p c).getD (m+1) AY=f at *;have ns:CJ s=true:=by rcases he with ⟨rfl,-⟩ | ⟨-,rfl⟩<;>assumption
  have nt:CJ t=true:=by rcases he with ⟨-,rfl⟩ | ⟨rfl,-⟩<;>assumption
  have uF:x≠s->x≠t->y≠s->y≠t->Me x y s t:=fun h1 h2 h3 h4=>by
   rcases he with ⟨rfl,rfl⟩ | ⟨rfl,rfl⟩
   · exact NM h1 h2 h3 h4
   · exact (NM h2 h1 h4 h3).comm.flip.comm
  rcases Iw (hY x) (hY y) with h1 | h1 | h1
  ·have:=ajp na nb ns nt h1 hst uF
   unfold PY bP;omega
  · exact absurd (Md na nb h1) hne
  ·have:=ajp nb na ns nt h1 hst (fun h1 h2 h3 h4=>(uF h3 h4 h1 h2).flip)
   have e1:=ajw s t x y;have e2:=arn t s x y;unfold PY at e1 ⊢;unfold bP at e2 ⊢;omega
 rw [h.tu hz] at hd;omega
theorem Valid.af7 {a:Ar} (ha:a∈p.AQ) {j:Nat} (h0:0<j) (hj:j+1<(AV p a).length) {b:Ar} (hb:b∈p.AQ) {k:Nat} (hk:k<(AV p b).length) (e:(AV p b).getD k AY=(AV p a).getD j AY):b=a/\k=j:=by
 have hla:=Fa p a;have hlb:=Fa p b;obtain ⟨i,rfl⟩:∃ i,j=i+1:=⟨j-1,AA⟩;have hi:i<a.via.length:=AA
 rw [ZU p a i hi] at e;have hk0:k≠0:=by
  rintro rfl;obtain ⟨n,hn,-,e2⟩:=h.sound.XG hb;rw [Vj,e2] at e;exact h.ael ha hi hn e.symm
 have hk1:k≠(AV p b).length-1:=by
  rintro rfl;obtain ⟨n,hn,-,e2⟩:=h.sound.Xn hb;rw [Vp,e2] at e;exact h.ael ha hi hn e.symm
 obtain ⟨l,rfl⟩:∃ l,k=l+1:=⟨k-1,AA⟩;have hl:l<b.via.length:=AA
 rw [ZU p b l hl] at e;by_cases hab:b=a
 ·subst hab;refine ⟨rfl,?_⟩;rcases QT l i with h1 | h1 | h1
  · exact absurd e (h.aiW hb h1 hi)
  · omega
  · exact absurd e.symm (h.aiW hb h1 hl)
 ·exfalso;have hpw:=h.ar6;obtain ⟨x,hx,rfl⟩:=EF.1 ha;obtain ⟨y,hy,rfl⟩:=EF.1 hb;rw [G9] at hpw;rcases QT x y with h1 | h1 | h1
  · exact hpw x y hx hy h1 _ (BO hi) _ (BO hl) e.symm
  · subst h1;exact hab rfl
  · exact hpw y x hy hx h1 _ (BO hl) _ (BO hi) e
theorem Valid.ajy {n m:Nd} (hn:n∈p.nodes) (hm:m∈p.nodes) (e:n.pt=m.pt):n=m:=by
 have hpw:=(aqI _).1 h.dup;rw [IX,G9] at hpw;obtain ⟨i,hi,rfl⟩:=EF.1 hn;obtain ⟨j,hj,rfl⟩:=EF.1 hm;rcases QT i j with h1 | h1 | h1
 · exact absurd e (hpw i j hi hj h1)
 · subst h1;rfl
 · exact absurd e.symm (hpw j i hj hi h1)
theorem Valid.aax {n:Nd} (hn:n∈p.nodes) {b:Ar} (hb:b∈p.AQ) {k:Nat} (hk:k<(AV p b).length) (e:(AV p b).getD k AY=n.pt):(k=0/\b.fr=n.id)\/(k=(AV p b).length-1/\b.dst=n.id):=by
 have hlb:=Fa p b;by_cases hk0:k=0
 ·subst hk0;obtain ⟨m,hm,e1,e2⟩:=h.sound.XG hb;rw [Vj,e2] at e
  left;exact ⟨rfl,by rw [<- e1,h.ajy hm hn e]⟩
 ·by_cases hk1:k=(AV p b).length-1
  ·subst hk1;obtain ⟨m,hm,e1,e2⟩:=h.sound.Xn hb;rw [Vp,e2] at e
   right;exact ⟨rfl,by rw [<- e1,h.ajy hm hn e]⟩
  ·exfalso;obtain ⟨l,rfl⟩:∃ l,k=l+1:=⟨k-1,AA⟩;have hl:l<b.via.length:=AA
   rw [ZU p b l hl] at e;exact h.ael hb hl hn e
theorem Valid.aay (z:Int->Int) (φ:Pt->Int) {a:Ar} (ha:a∈p.AQ) {j:Nat} (h0:0<j) (hj:j+1<(AV p a).length) :
  EC p z (Tj φ ((AV p a).getD j AY))=z a.id*(φ ((AV p a).getD (j+1) AY)-φ ((AV p a).getD (j-1) AY)):=by
 have key:∀ b∈p.AQ,Ko (Tj φ ((AV p a).getD j AY)) (AV p b)=if b=a then φ ((AV p a).getD (j+1) AY)-φ ((AV p a).getD (j-1) AY) else 0:=by
  intro b hb;unfold Ko Tj;simp only [acy];rw [RQ,U2];rw [tY _ j _ (fun k hk hkj=>AX (fun e=>hkj (h.af7 ha h0 hj hb AA e).2))];rw [tY _ (j-1) _ (fun k hk hkj=>AX (fun e=>hkj (by have:=(h.af7 ha h0 hj hb AA e).2;omega)))];by_cases hab:b=a
  ·subst hab;rw [AZ rfl,AZ AA,AZ AA,AZ rfl,show j-1+1=j by omega,AZ rfl]
  ·rw [AX hab];have e1:∀ k,k<(AV p b).length->¬ (AV p b).getD k AY=(AV p a).getD j AY:=fun k hk e=>hab (h.af7 ha h0 hj hb hk e).1;by_cases h1:j<(AV p b).length-1
   · rw [AZ h1,AX (e1 j AA),AZ AA,AX (e1 (j-1+1) AA)];rfl
   ·rw [AX h1];by_cases h2:j-1<(AV p b).length-1
    · rw [AZ h2,AX (e1 (j-1+1) AA)];rfl
    · rw [AX h2];rfl
 unfold EC;rw [IB _ _ (fun b:Ar=>if a.id=b.id then z b.id*(φ ((AV p a).getD (j+1) AY)-φ ((AV p a).getD (j-1) AY)) else 0) (fun b hb=>by
  rw [key b hb];by_cases hab:b=a
  · subst hab;rw [AZ rfl,AZ rfl]
  · rw [AX hab,AX (fun e=>hab (h.aic hb ha e.symm)),KO])]
 exact tZ p.AQ (·.id) h.sound.AQ (fun i=>z i*(φ ((AV p a).getD (j+1) AY)-φ ((AV p a).getD (j-1) AY))) a.id ⟨a,ha,rfl⟩
theorem Valid.af8 (z:Int->Int) (φ:Pt->Int) {n:Nd} (hn:n∈p.nodes):EC p z (Tj φ n.pt)=((Dn p.AQ n.id).map fun d=>zD z d*φ (Dz p d)).sum:=by
 have key:∀ b∈p.AQ,z b.id*Ko (Tj φ n.pt) (AV p b)=(((if b.fr=n.id then [b.id] else [])++(if b.dst=n.id then [-b.id] else [])).map fun d=>zD z d*φ (Dz p d)).sum:=by
  intro b hb;have hlb:=Fa p b;have hid:=h.IQ hb;have hfd:=h.find hb;have t1:Dz p b.id=(AV p b).getD 1 AY:=h.fM hb;have t2:Dz p (-b.id)=(AV p b).getD b.via.length AY:=h.bI hb;have z1:zD z b.id=z b.id:=by unfold zD;rw [AZ AA]
  have z2:zD z (-b.id)=-z b.id:=by unfold zD;rw [AX AA,OX]
  have hs:Ko (Tj φ n.pt) (AV p b)=(if b.fr=n.id then φ ((AV p b).getD 1 AY) else 0)-(if b.dst=n.id then φ ((AV p b).getD b.via.length AY) else 0):=by
   have f1:(AV p b).getD 0 AY=n.pt↔b.fr=n.id:=by
    constructor
    ·intro e;rcases h.aax hn hb AA e with ⟨-,e⟩ | ⟨e,-⟩
     · exact e
     · omega
    ·intro e;rw [Vj,e];exact h.sound.Py hn
   have f2:(AV p b).getD (b.via.length+1) AY=n.pt↔b.dst=n.id:=by
    have e1:=Vp p b;rw [hlb,show b.via.length+2-1=b.via.length+1 by omega] at e1;constructor
    ·intro e;rcases h.aax hn hb AA e with ⟨e,-⟩ | ⟨-,e⟩
     · omega
     · exact e
    ·intro e;rw [e1,e];exact h.sound.Py hn
   unfold Ko Tj;simp only [acy];rw [RQ,U2];rw [tY _ 0 _ (fun k hk hkj=>AX (fun e=>by rcases h.aax hn hb AA e with ⟨e,-⟩ | ⟨e,-⟩<;>omega))];rw [tY _ b.via.length _ (fun k hk hkj=>AX (fun e=>by rcases h.aax hn hb AA e with ⟨e,-⟩ | ⟨e,-⟩<;>omega))];rw [AZ (show 0<(AV p b).length-1 by omega),AZ (show b.via.length<(AV p b).length-1 by omega)];simp only [f1,f2]
  rw [hs,FH,O8];by_cases c1:b.fr=n.id<;>by_cases c2:b.dst=n.id<;>simp only [c1,c2,if_true,if_false,Ey,O9,IC,Vz,t1,t2,z1,z2]<;>grind
 unfold EC Dn;rw [IB _ _ _ key];generalize p.AQ=l
 induction l with
 | nil=>rfl
 | cons b l ih=>rw [Ey,IC,N7,ih];simp only [FH,O8]
theorem Valid.ajz {z:Int->Int} (hz:GR p z) {n:Nd} (hn:n∈p.nodes):((Dn p.AQ n.id).map fun d=>zD z d).sum=0:=by
 have h1:=hz n hn;have e:((Dn p.AQ n.id).map fun d=>zD z d).sum=-(p.AQ.map fun a=>z a.id*((if a.dst=n.id then 1 else 0)-(if a.fr=n.id then 1 else 0))).sum:=by
  have hid:∀ b∈p.AQ,1<=b.id:=fun b hb=>(h.IQ hb).1;unfold Dn;generalize p.AQ=l at hid
  induction l with
  | nil=>rfl
  | cons b l ih =>
   have:=hid b Ah
   have z1:zD z b.id=z b.id:=by unfold zD;rw [AZ AA]
   have z2:zD z (-b.id)=-z b.id:=by unfold zD;rw [AX AA,OX]
   rw [Ey,IC,N7,FH,O8,ih (fun c hc=>hid c (by simp [hc]))];by_cases c1:b.fr=n.id<;>by_cases c2:b.dst=n.id<;>simp only [c1,c2,if_true,if_false,FH,O8,Ey,O9,IC,Vz,z1,z2]<;>grind
 rw [e,h1];rfl
end
theorem arp {l:List Int} (hl:l.Nodup) {d:Int} (hd:d∈l) (c:Int->Int):(l.map fun x=>if x=d then c x else 0).sum=c d:=by
 induction l with
 | nil=>cases hd
 | cons a l ih =>
  rw [yP] at hl;rw [Ey,IC];rcases FI.1 hd with rfl | hd
  · rw [AZ rfl,XM l _ (fun x hx=>AX (by rintro rfl;exact hl.1 hx))];omega
  · rw [AX (by rintro rfl;exact hl.1 hd),ih hl.2 hd];omega
theorem arq (z:Int->Int) {d:Int} (h:d≠0):zD z (-d)=-zD z d:=by
 unfold zD;by_cases h1:0<d
 · rw [AX AA,AZ h1,OX]
 · rw [AZ AA,AX h1,OX]
theorem Xc (o a:Pt):ind (Ea o a a)=0:=AX (aqJ o a)
theorem af9 {o a b:Pt} (h:Ea o a b\/Ea o b a):ind (Ea o a b)+ind (Ea o b a)=1:=by
 unfold ind;rcases h with h | h
 · rw [AZ h,AX (fZ h)];rfl
 · rw [AX (fZ h),AZ h];rfl
section
variable {p:Pl} (h:Valid p)
include h
theorem Valid.aeI {a:Ar} (ha:a∈p.AQ) {k:Nat} (hk:k+2<(AV p a).length):Ea ((AV p a).getD (k+1) AY) ((AV p a).getD k AY) ((AV p a).getD (k+2) AY)\/Ea ((AV p a).getD (k+1) AY) ((AV p a).getD (k+2) AY) ((AV p a).getD k AY):=by
 have d1:=(h.distinct ha (k:=k) AA).1;have d2:=(h.distinct ha (k:=k+1) AA).1;have n0:=h.Dh ha (k:=k) AA;have n1:=h.Dh ha (k:=k+1) AA;have n2:=h.Dh ha (k:=k+2) AA;have hap:=h.Qd.2.1 a ha k (k+1) AA AA;unfold Rw at hap;rw [AZ (.inl rfl)] at hap;unfold Dc at hap;simp only [beq_iff_eq] at hap;generalize (AV p a).getD k AY=u at *;generalize (AV p a).getD (k+1) AY=o at *;rw [show k+1+1=k+2 by omega] at *;generalize (AV p a).getD (k+2) AY=v at *;apply OY;intro hno;obtain ⟨-,r2,-⟩:=aiX n1 n0 n2 d1 (fun e=>d2 e.symm) (fun e=>hno (.inl e)) (fun e=>hno (.inr e));rw [r2] at hap;exact absurd hap Aw
theorem Valid.ars (z:Int->Int) {a:Ar} (ha:a∈p.AQ) {k:Nat} (hk:k+2<(AV p a).length):Oy p z ((AV p a).getD (k+1) AY) ((AV p a).getD (k+2) AY)-Kq p z ((AV p a).getD (k+1) AY) ((AV p a).getD (k+2) AY)=z a.id:=by
 rw [uD,h.aay z _ ha (j:=k+1) AA hk,show k+1-1=k by omega,show k+1+1=k+2 by omega,Xc,af9 (h.aeI ha hk).symm]
 grind
theorem Valid.ak0 (z:Int->Int) {a:Ar} (ha:a∈p.AQ) {k:Nat} (hk:k+2<(AV p a).length):Oy p z ((AV p a).getD (k+1) AY) ((AV p a).getD k AY)-Kq p z ((AV p a).getD (k+1) AY) ((AV p a).getD k AY)=-z a.id:=by
 rw [uD,h.aay z _ ha (j:=k+1) AA hk,show k+1-1=k by omega,show k+1+1=k+2 by omega,Xc,af9 (h.aeI ha hk)]
 grind
theorem Valid.aru (z:Int->Int) {a:Ar} (ha:a∈p.AQ) {k:Nat} (hk:k+2<(AV p a).length):Oy p z ((AV p a).getD (k+1) AY) ((AV p a).getD k AY)=Kq p z ((AV p a).getD (k+1) AY) ((AV p a).getD (k+2) AY):=by
 have e:=uD p z ((AV p a).getD (k+1) AY) ((AV p a).getD k AY) ((AV p a).getD (k+2) AY);rw [h.aay z _ ha (j:=k+1) AA hk,show k+1-1=k by omega,show k+1+1=k+2 by omega,Xc,Xc,eF,Int.zero_add,yj,KO] at e;omega
theorem Valid.oI {z:Int->Int} (hz:GR p z) {n:Nd} (hn:n∈p.nodes) {d:Int} (hd:d∈Dn p.AQ n.id):Oy p z n.pt (Dz p d)-Kq p z n.pt (Dz p d)=zD z d:=by
 rw [uD,h.af8 z _ hn];have h0:=h.ajz hz hn;have h1:=arp (h.aes (n:=n.id)) hd (fun x=>zD z x);have e:((Dn p.AQ n.id).map fun x=>zD z x*(ind (Ea n.pt (Dz p d) (Dz p x))+ind (Ea n.pt (Dz p x) (Dz p d)))).sum=((Dn p.AQ n.id).map fun x=>zD z x + -(if x=d then zD z x else 0)).sum:=by
  refine IB _ _ _ fun x hx=>?_;by_cases hxd:x=d
  ·subst hxd;rw [Xc,AZ rfl];omega
  · rw [af9 (h.dirs hn hd hx (fun e=>hxd e.symm)),AX hxd];omega
 rw [e,RQ,U2,h0,h1];omega
theorem Valid.ak1 {n:Nd} (hn:n∈p.nodes) {i j:Nat} (hij:i<j) (hj:j<(DT p n.id).length):Ea n.pt (Dz p ((DT p n.id)[i]'(by omega))) (Dz p (DT p n.id)[j]):=by
 have hmem:∀ {x:Int},x∈DT p n.id->x∈Dn p.AQ n.id:=fun hx=>(h.NI hn).subset hx;have hs:=(fP (h.uY hn)).2;rw [<- h.zV hn,G9] at hs;have h1:=hs i j AA hj hij;have hne:(DT p n.id)[i]≠(DT p n.id)[j]:=fun e=>by
  have hnd:=h.bJ hn;rw [qg,G9] at hnd;exact hnd i j AA hj hij e
 have m1:=hmem (BO (show i<(DT p n.id).length by omega));have m2:=hmem (BO hj);rcases h.dirs hn m1 m2 hne with h2 | h2
 · exact h2
 ·exfalso;obtain ⟨n0,n1,x1⟩:=h.fO hn m1;obtain ⟨-,n2,x2⟩:=h.fO hn m2;unfold ltD at h1;rw [(adf _ _ _).2 ⟨by simp [EO,n0,n1,n2],x2,x1,h2⟩] at h1
  cases h1
theorem Valid.arv {z:Int->Int} (hz:GR p z) {n:Nd} (hn:n∈p.nodes) {d:Int} (hd:d∈DT p n.id):Oy p z n.pt (Dz p (precD (DT p n.id) d))=Kq p z n.pt (Dz p d):=by
 have hnd:=h.bJ hn;have hp:=h.NI hn;have hso:=fun {i j:Nat}=>h.ak1 hn (i:=i) (j:=j);have e:=uD p z n.pt (Dz p (precD (DT p n.id) d)) (Dz p d);rw [h.af8 z _ hn] at e;have h0:=h.ajz hz hn;obtain ⟨i,hi,rfl⟩:=EF.1 hd;rw [fQ hnd hi] at e ⊢;have aaz:∀ i j (hi:i<(DT p n.id).length) (hj:j<(DT p n.id).length),ind (Ea n.pt (Dz p (DT p n.id)[i]) (Dz p (DT p n.id)[j]))=if i<j then 1 else 0:=by
  intro i j hi hj;rcases QT i j with h1 | h1 | h1
  · rw [AZ h1];exact AZ (hso h1 hj)
  · subst h1;rw [AX AA];exact Xc _ _
  · rw [AX AA];exact AX (fZ (hso h1 hi))
 have hc:∃ c:Int,∀ x∈Dn p.AQ n.id,ind (Ea n.pt (Dz p ((DT p n.id)[(i+(DT p n.id).length-1) % (DT p n.id).length]'(Uh _ AA))) (Dz p x))+ind (Ea n.pt (Dz p x) (Dz p (DT p n.id)[i]))=c:=by
  by_cases h1:i=0
  ·refine ⟨0,fun x hx=>?_⟩;obtain ⟨j,hj,rfl⟩:=EF.1 (hp.symm.subset hx);have hm:(i+(DT p n.id).length-1) % (DT p n.id).length=(DT p n.id).length-1:=by rw [h1];rw [Ug];exact WA AA
   rw [aaz _ _ (Uh _ AA) hj,aaz j i hj hi,AX AA,AX AA];rfl
  ·refine ⟨1,fun x hx=>?_⟩;obtain ⟨j,hj,rfl⟩:=EF.1 (hp.symm.subset hx);have hm:(i+(DT p n.id).length-1) % (DT p n.id).length=i-1:=by rw [show i+(DT p n.id).length-1=i-1+(DT p n.id).length by omega,yN];exact WA AA
   rw [aaz _ _ (Uh _ AA) hj,aaz j i hj hi];by_cases h2:j<i
   · rw [AX AA,AZ h2];rfl
   · rw [AZ AA,AX h2];rfl
 obtain ⟨c,hc⟩:=hc;rw [IB _ _ (fun x=>c*zD z x) (fun x hx=>by rw [hc x hx,OB]),Xx,h0,KO] at e;omega
theorem Valid.aeJ {z:Int->Int} (hz:GR p z) {a:Ar} (ha:a∈p.AQ) {m:Nat} (hm:m+1<(AV p a).length):Kq p z ((AV p a).getD m AY) ((AV p a).getD (m+1) AY)=Oy p z ((AV p a).getD (m+1) AY) ((AV p a).getD m AY):=by
 have hl:=Fa p a;have hid:=(h.IQ ha).1;have hne:=(h.distinct ha hm).1;have n1:=h.Dh ha (k:=m) AA;have n2:=h.Dh ha (k:=m+1) hm;have j1:Oy p z ((AV p a).getD m AY) ((AV p a).getD (m+1) AY)-Kq p z ((AV p a).getD m AY) ((AV p a).getD (m+1) AY)=z a.id:=by
  by_cases h0:m=0
  ·subst h0;obtain ⟨n,hn,e1,e2⟩:=h.sound.XG ha;have:=h.oI hz hn (d:=a.id) (Qg.2 ⟨a,ha,.inl ⟨rfl,e1.symm⟩⟩)
   rw [h.fM ha] at this;rw [Vj,e2,this];unfold zD;rw [AZ AA]
  ·obtain ⟨k,rfl⟩:∃ k,m=k+1:=⟨m-1,AA⟩;exact h.ars z ha hm
 have j2:Oy p z ((AV p a).getD (m+1) AY) ((AV p a).getD m AY)-Kq p z ((AV p a).getD (m+1) AY) ((AV p a).getD m AY)=-z a.id:=by
  by_cases h0:m+1=(AV p a).length-1
  ·obtain ⟨n,hn,e1,e2⟩:=h.sound.Xn ha;have:=h.oI hz hn (d:=-a.id) (Qg.2 ⟨a,ha,.inr ⟨rfl,e1.symm⟩⟩)
   rw [h.bI ha,show a.via.length=m by omega] at this;rw [h0,Vp,e2,this];unfold zD;rw [AX AA,OX]
  · exact h.ak0 z ha AA
 rcases Iw (hY ((AV p a).getD m AY)) (hY ((AV p a).getD (m+1) AY)) with h1 | h1 | h1
 · exact h.ajx hz ha hm (.inl ⟨rfl,rfl⟩) h1
 · exact absurd (Md n1 n2 h1) hne
 ·have:=h.ajx hz ha hm (.inr ⟨rfl,rfl⟩) h1
  omega
theorem Valid.ab1 {z:Int->Int} (hz:GR p z) {a:Ar} (ha:a∈p.AQ):∀ (m:Nat),m+1<(AV p a).length->Kq p z ((AV p a).getD 0 AY) ((AV p a).getD 1 AY)=Oy p z ((AV p a).getD (m+1) AY) ((AV p a).getD m AY)
 | 0,hm=>h.aeJ hz ha hm
 | m+1,hm=>by
  rw [Valid.ab1 hz ha m AA,h.aru z ha (k:=m) AA];exact h.aeJ hz ha (m:=m+1) hm
end
def Hz (p:Pl) (z:Int->Int) (d:Int):Int:=Oy p z (nodeAt p (KR p d)) (Dz p d)
section
variable {p:Pl} (h:Valid p)
include h
theorem Valid.XO {z:Int->Int} (hz:GR p z) {a:Ar} (ha:a∈p.AQ):Hz p z a.id-Hz p z (-a.id)=z a.id:=by
 have hl:=Fa p a;have hid:=(h.IQ ha).1;have h1:=h.ab1 hz ha a.via.length AA;have h2:(AV p a).getD (a.via.length+1) AY=nodeAt p a.dst:=by
  have:=Vp p a
  rwa [hl,show a.via.length+2-1=a.via.length+1 by omega] at this
 unfold Hz;rw [h.zU ha,h.uX ha,h.fM ha,h.bI ha];rw [h2,Vj] at h1;obtain ⟨n,hn,e1,e2⟩:=h.sound.XG ha;have:=h.oI hz hn (d:=a.id) (Qg.2 ⟨a,ha,.inl ⟨rfl,e1.symm⟩⟩)
 rw [h.fM ha,<- e2] at this;unfold zD at this;rw [AZ AA] at this;omega
theorem Valid.arw {d:Int} (hd:d∈Bj p):d≠0:=by
 obtain ⟨a,ha,e⟩:=J9.1 hd;have:=h.IQ ha
 omega
theorem Valid.ak2 {z:Int->Int} (hz:GR p z) {d:Int} (hd:d∈Bj p):Hz p z d-Hz p z (-d)=zD z d:=by
 obtain ⟨a,ha,e⟩:=J9.1 hd;have hid:=(h.IQ ha).1;have:=h.XO hz ha
 rcases e with rfl | rfl
 · rw [this];unfold zD;rw [AZ AA]
 · rw [OX];unfold zD;rw [AX AA,OX];omega
theorem Valid.arx {z:Int->Int} (hz:GR p z) {d:Int} (hd:d∈Bj p):Hz p z (FC p d)=Hz p z d:=by
 obtain ⟨n,hn,e1,hm,hx⟩:=h.o8 hd;have hs:=(h.Q5 hd).2;have j:=h.oI hz hn ((h.NI hn).subset hm);have t:=h.arv hz hn hm;have k:=h.ak2 hz hd;have en:nodeAt p (KR p (-d))=n.pt:=by rw [<- e1];exact h.sound.Py hn
 have z1:=arq z (h.arw hd);unfold Hz at k ⊢;rw [hs,en,hx,t];rw [en] at k;omega
end
set_option linter.unusedSectionVars false
def mrg (r:Int->Int) (a b x:Int):Int:=if r x=r a then r b else r x
structure uG (U:List Int) (r:Int->Int):Prop where
 mem:∀ x∈U,r x∈U
 idem:∀ x∈U,r (r x)=r x
def ak3 (U:List Int) (r:Int->Int):Nat:=(U.filter (fun x=>decide (r x=x))).length
theorem uG.mrg {U:List Int} {r:Int->Int} (h:uG U r) {a b:Int} (hb:b∈U):uG U (mrg r a b):=by
 constructor
 ·intro x hx;unfold Go.Proofs.YtpempeioeiaijaaGreat.mrg;split
  · exact h.mem b hb
  · exact h.mem x hx
 ·intro x hx;unfold Go.Proofs.YtpempeioeiaijaaGreat.mrg;by_cases e:r x=r a
  ·rw [AZ e,h.idem b hb];split<;>rfl
  · rw [AX e,h.idem x hx,AX e]
def NR (p:Pl) (k:Nat) (x:Int):Int:=pw (Ti p k).1 x (p.AQ.length+1)
def Qh (p:Pl) (k:Nat) (a:Ar):Prop:=NR p k a.fr≠NR p k a.dst
instance (p:Pl) (k:Nat) (a:Ar):Decidable (Qh p k a):=by unfold Qh;infer_instance
section
variable {p:Pl} (h:Valid p)
include h
theorem Valid.ak4 {k:Nat} (hk:k<p.AQ.length):(NR p (k+1)=if Qh p k p.AQ[k] then mrg (NR p k) p.AQ[k].fr p.AQ[k].dst else NR p k)/\(Ti p (k+1)).2=(Ti p k).2-(if Qh p k p.AQ[k] then 1 else 0):=by
 have ho:=aqF h k AA;by_cases ht:Qh p k p.AQ[k]
 ·rw [AZ ht,AZ ht];unfold Qh NR at ht;unfold NR;rw [af0 p k hk];unfold tN;rw [AX ht];refine ⟨?_,rfl⟩;have hr:∀ x,(Ti p k).1 (pw (Ti p k).1 x (p.AQ.length+1))=pw (Ti p k).1 x (p.AQ.length+1):=ho.flat.more AA;obtain ⟨h1,h2⟩:=aiH ho.flat (hr p.AQ[k].fr) (hr p.AQ[k].dst) ht
  funext x
  show pw (LZ _ _ _) x (p.AQ.length+1)=mrg _ _ _ x
  rw [h1.eq (M:=p.AQ.length+1) AA,h2 x];unfold mrg;simp only;rw [<- ho.flat.eq (M:=p.AQ.length+1) AA x]
 ·rw [AX ht,AX ht];unfold Qh NR at ht;unfold NR;rw [af0 p k hk];unfold tN;rw [AZ (OY ht)];exact ⟨rfl,AA⟩
theorem Valid.arz {k j:Nat} (hkj:k<=j) (hj:j<=p.AQ.length) {x y:Int} (e:NR p k x=NR p k y):NR p j x=NR p j y:=by
 induction j with
 | zero =>
  have:k=0:=AA
  subst this;exact e
 | succ j ih =>
  by_cases h1:k=j+1
  · subst h1;exact e
  ·have e2:=ih AA AA;rw [(h.ak4 (k:=j) AA).1];split
   · unfold mrg;rw [e2]
   · exact e2
theorem Valid.as1 {k j:Nat} (hj:j<k) (hk:k<=p.AQ.length):NR p k (p.AQ[j]'(by omega)).fr=NR p k (p.AQ[j]'(by omega)).dst:=by
 refine h.arz (k:=j+1) AA hk ?_;rw [(h.ak4 (k:=j) AA).1];split
 ·unfold mrg;rw [AZ rfl];split<;>rfl
 ·rename_i ht;unfold Qh at ht;exact OY ht
end
def bdC (p:Pl) (c:Int->Int) (n:Int):Int:=(p.AQ.map fun a=>c a.id*((if a.dst=n then 1 else 0)-(if a.fr=n then 1 else 0))).sum
section
variable {p:Pl} (h:Valid p)
include h
theorem Valid.ak5 {g:Int->Int} (hg:GR p g) (h0:∀ j (hj:j<p.AQ.length),¬ Qh p j p.AQ[j]->g p.AQ[j].id=0):∀ (k:Nat),k<=p.AQ.length->(∀ j (hj:j<p.AQ.length),k<=j->g p.AQ[j].id=0)->∀ j (hj:j<p.AQ.length),g p.AQ[j].id=0
 | 0,_,hz,j,hj=>hz j hj AA
 | k+1,hk,hz,j,hj=>by
  refine Valid.ak5 hg h0 k AA (fun j hj hkj=>?_) j hj;by_cases hjk:j=k
  ·subst hjk;by_cases ht:Qh p j p.AQ[j]
   ·have hs:=h.ajt hg (fun x=>if NR p j x=NR p j p.AQ[j].fr then 1 else 0);have e:(p.AQ.map fun a=>g a.id*((if NR p j a.dst=NR p j p.AQ[j].fr then (1:Int) else 0)-(if NR p j a.fr=NR p j p.AQ[j].fr then 1 else 0))).sum=(p.AQ.map fun a=>if p.AQ[j].id=a.id then -g a.id else 0).sum:=by
     refine IB _ _ _ fun a ha=>?_;obtain ⟨i,hi,rfl⟩:=EF.1 ha;rcases QT i j with h3 | h3 | h3
     ·have hne:¬ p.AQ[j].id=p.AQ[i].id:=fun e=>by
       have hpw:=h.sound.AQ;rw [IX,G9] at hpw;have:=hpw i j hi hj h3;omega
      rw [AX hne,h.as1 h3 AA,yj,KO]
     ·subst h3;rw [AZ rfl,AZ rfl];unfold Qh at ht;rw [AX (fun e=>ht e.symm)];omega
     ·have hne:¬ p.AQ[j].id=p.AQ[i].id:=fun e=>by
       have hpw:=h.sound.AQ;rw [IX,G9] at hpw;have:=hpw j i hj hi h3;omega
      rw [AX hne,hz i hi AA,Jy]
    rw [e,tZ p.AQ (·.id) h.sound.AQ (fun i=>-g i) p.AQ[j].id ⟨_,BO hj,rfl⟩] at hs;omega
   · exact h0 j hj ht
  · exact hz j hj AA
end
set_option linter.unusedSectionVars false
def PZ (L:List (List Int)) (d:Int):Int:=match L.find? (fun c=>decide (d∈c)) with
 | some c=>c.headD 0
 | none=>d
def CW (p:Pl):Nat->Int->Int
 | 0=>PZ (Cb p)
 | k+1=>match p.AQ[k]? with
  | some a=>if Qh p k a then CW p k else mrg (CW p k) a.id (-a.id)
  | none=>CW p k
theorem ab2 {p:Pl} {k:Nat} (hk:k<p.AQ.length):CW p (k+1)=if Qh p k p.AQ[k] then CW p k else mrg (CW p k) p.AQ[k].id (-p.AQ[k].id):=by
 rw [CW,Di hk]
section
variable {p:Pl} (h:Valid p)
include h
theorem Valid.ab3 {c c':List Int} (hc:c∈Cb p) (hc':c'∈Cb p) {y:Int} (h1:y∈c) (h2:y∈c'):c=c':=by
 have hnd:=h.KT.nodup;rw [qg,ah7] at hnd;have hpw:=hnd.2;rw [G9] at hpw;obtain ⟨i,hi,rfl⟩:=EF.1 hc;obtain ⟨j,hj,rfl⟩:=EF.1 hc';rcases QT i j with h3 | h3 | h3
 · exact absurd rfl (hpw i j hi hj h3 _ h1 _ h2)
 · subst h3;rfl
 · exact absurd rfl (hpw j i hj hi h3 _ h2 _ h1)
theorem Valid.Pe {c:List Int} (hc:c∈Cb p):∃ x∈Bj p,c=JZ (FC p) (Bj p) x/\c.headD 0=x/\x∈c:=by
 obtain ⟨x,hx,e,-⟩:=h.KT.ng c hc;have hf:=Vl (fun x hx=>(h.Q5 hx).1) (fun x hx y hy=>h.XJ hx hy) hx;refine ⟨x,hx,e,?_,by rw [e];exact aib hf.1⟩;rw [e];unfold JZ;obtain ⟨m,hm⟩:∃ m,KZ (FC p) (Bj p) x=m+1:=⟨KZ (FC p) (Bj p) x-1,by have:=hf.1;omega⟩;rw [hm];rfl
theorem Valid.uH {d:Int} (hd:d∈Bj p):∃ c∈Cb p,d∈c/\PZ (Cb p) d=c.headD 0:=by
 obtain ⟨c,hc,hdc⟩:=kF.1 (h.KT.covers d hd);unfold PZ
 cases hf:(Cb p).find? (fun c=>decide (d∈c)) with
 | none =>
  have:=List.find?_eq_none.1 hf c hc
  simp [hdc] at this
 | some c' =>
  have h1:=List.find?_some hf;exact ⟨c',XV hf,by simpa using h1,rfl⟩
theorem Valid.head_eq {c:List Int} (hc:c∈Cb p) {d:Int} (hd:d∈Bj p) (hdc:d∈c):PZ (Cb p) d=c.headD 0:=by
 obtain ⟨c',h1,h2,h3⟩:=h.uH hd;rw [h3,h.ab3 h1 hc h2 hdc]
theorem Valid.as2 {d:Int} (hd:d∈Bj p):PZ (Cb p) (FC p d)=PZ (Cb p) d:=by
 obtain ⟨c,h1,h2,h3⟩:=h.uH hd;obtain ⟨x,hx,e,-⟩:=h.Pe h1;rw [h3];refine h.head_eq h1 (h.Q5 hd).1 ?_;rw [e] at h2 ⊢;exact (aen (fun x hx=>(h.Q5 hx).1) (fun x hx y hy=>h.XJ hx hy) hx hd).2 h2
theorem Valid.as3 {β:Type} (H:Int->β) (hH:∀ d∈Bj p,H (FC p d)=H d) {d:Int} (hd:d∈Bj p):H (PZ (Cb p) d)=H d:=by
 obtain ⟨c,h1,h2,h3⟩:=h.uH hd;obtain ⟨x,hx,e,e2,-⟩:=h.Pe h1;rw [h3,e2];rw [e] at h2;obtain ⟨k,-,rfl⟩:=U0.1 h2;clear h1 h2 h3 e e2 hd
 induction k with
 | zero=>rfl
 | succ k ih =>
  show H x=H (FC p (pw (FC p) x k))
  rw [hH _ (XH (fun x hx=>(h.Q5 hx).1) hx k)];exact ih
theorem Valid.as4:uG (Bj p) (PZ (Cb p))/\ak3 (Bj p) (PZ (Cb p))=(Cb p).length:=by
 have hmem:∀ x∈Bj p,PZ (Cb p) x∈Bj p/\PZ (Cb p) (PZ (Cb p) x)=PZ (Cb p) x:=by
  intro d hd;obtain ⟨c,h1,h2,h3⟩:=h.uH hd;obtain ⟨x,hx,e,e2,e3⟩:=h.Pe h1;rw [h3,e2];exact ⟨hx,(h.head_eq h1 hx e3).trans e2⟩
 refine ⟨⟨fun x hx=>(hmem x hx).1,fun x hx=>(hmem x hx).2⟩,?_⟩;have hnd:=h.KT.nodup;rw [qg,ah7] at hnd;have hL:((Cb p).map (fun c=>c.headD 0)).Nodup:=by
  rw [qg,IX];refine ah8 (fun {c c'} h1 h2 h3=>?_) hnd.2;obtain ⟨x,-,-,e2,e3⟩:=h.Pe h1;obtain ⟨y,-,-,f2,f3⟩:=h.Pe h2;rw [e2,f2];exact h3 _ e3 _ f3
 have h1:=Vk hL (m:=(Bj p).filter (fun x=>decide (PZ (Cb p) x=x))) (fun y hy=>by
  obtain ⟨c,hc,rfl⟩:=Ez.1 hy;obtain ⟨x,hx,-,e2,e3⟩:=h.Pe hc;rw [e2,QN,Dq];exact ⟨hx,(h.head_eq hc hx e3).trans e2⟩)
 have h2:=Vk (h.uZ.filter (fun x=>decide (PZ (Cb p) x=x))) (m:=(Cb p).map (fun c=>c.headD 0)) (fun y hy=>by
  rw [QN,Dq] at hy;obtain ⟨c,hc,-,e⟩:=h.uH hy.1;exact Ez.2 ⟨c,hc,by rw [<- e];exact hy.2⟩)
 rw [CV] at h1 h2;unfold ak3;omega
theorem Valid.ak6 {k:Nat} (hk:k<p.AQ.length):p.AQ[k].id∈Bj p/\-p.AQ[k].id∈Bj p :=
 ⟨J9.2 ⟨_,BO hk,.inl rfl⟩,J9.2 ⟨_,BO hk,.inr rfl⟩⟩
theorem Valid.azd (k:Nat) (hk:k<=p.AQ.length):uG (Bj p) (CW p k):=by
 induction k with
 | zero=>exact h.as4.1
 | succ k ih =>
  rw [ab2 (k:=k) AA];split
  · exact ih AA
  · exact (ih AA).mrg (h.ak6 AA).2
theorem Valid.aeK {k j:Nat} (hkj:k<=j) (hj:j<=p.AQ.length) {x y:Int} (e:CW p k x=CW p k y):CW p j x=CW p j y:=by
 induction j with
 | zero =>
  have:k=0:=AA
  subst this;exact e
 | succ j ih =>
  by_cases h1:k=j+1
  · subst h1;exact e
  ·have e2:=ih AA AA;rw [ab2 (k:=j) AA];split
   · exact e2
   · unfold mrg;rw [e2]
theorem Valid.as5 {β:Type} (H:Int->β) (hH:∀ d∈Bj p,H (FC p d)=H d) (k:Nat) (hk:k<=p.AQ.length) (h0:∀ j (hj:j<p.AQ.length),j<k->¬ Qh p j p.AQ[j]->H p.AQ[j].id=H (-p.AQ[j].id)):∀ d∈Bj p,H (CW p k d)=H d:=by
 induction k with
 | zero=>exact fun d hd=>h.as3 H hH hd
 | succ k ih =>
  intro d hd;have ih:=ih AA (fun j hj hjk=>h0 j hj AA);rw [ab2 (k:=k) AA];split
  · exact ih d hd
  ·rename_i ht;have hm:=h.ak6 (k:=k) AA;unfold mrg;split
   ·rename_i e;rw [ih _ hm.2,<- h0 k AA AA ht,<- ih _ hm.1,<- e,ih d hd]
   · exact ih d hd
end
set_option linter.unusedSectionVars false
theorem as6 {L:List Int} (hL:L.Nodup) (f:Int->Int):(L.map fun d=>f (precD L d)).sum=(L.map f).sum:=by
 by_cases h0:L.length=0
 ·have:L=[]:=agv h0
  subst this;rfl
 ·have e:L.map (precD L)=L[L.length-1]'(by omega)::L.take (L.length-1):=by
   refine dV DR fun i h1 h2=>?_;rw [CV] at h1;rw [Iu,fQ hL h1]
   cases i with
   | zero =>
    rw [List.getElem_cons_zero];congr 1;rw [Ug];exact WA AA
   | succ i =>
    rw [List.getElem_cons_succ,List.getElem_take];congr 1;rw [show i+1+L.length-1=i+L.length by omega,yN];exact WA AA
  have e2:L.map f=(L.take (L.length-1)).map f++[f (L[L.length-1]'(by omega))]:=by
   conv=>lhs;rw [<- yM (L.length-1) L]
   rw [FH,kU (show L.length-1<L.length by omega),ah9 AA];rfl
  rw [show (L.map fun d=>f (precD L d))=(L.map (precD L)).map f by rw [IW];rfl,e,Ey,IC,e2,O8];simp only [IC,Vz];omega
theorem ab4 {l m:List Int} (h:l.Perm m):l.sum=m.sum:=by
 induction h with
 | nil=>rfl
 | cons x _ ih=>rw [IC,IC,ih]
 | swap x y l=>simp only [IC];omega
 | trans _ _ h1 h2=>exact h1.trans h2
section
variable {p:Pl} (h:Valid p)
include h
theorem Valid.as7 (z:Int->Int) (n:Int):((Dn p.AQ n).map fun d=>zD z d).sum=-bdC p z n:=by
 have hid:∀ b∈p.AQ,1<=b.id:=fun b hb=>(h.IQ hb).1;unfold Dn bdC;generalize p.AQ=l at hid
 induction l with
 | nil=>rfl
 | cons b l ih =>
  have:=hid b Ah
  have z1:zD z b.id=z b.id:=by unfold zD;rw [AZ AA]
  have z2:zD z (-b.id)=-z b.id:=by unfold zD;rw [AX AA,OX]
  rw [Ey,IC,N7,FH,O8,ih (fun c hc=>hid c (by simp [hc]))];by_cases c1:b.fr=n<;>by_cases c2:b.dst=n<;>simp only [c1,c2,if_true,if_false,FH,O8,Ey,O9,IC,Vz,z1,z2]<;>grind
theorem Valid.ak7 {n:Nd} (hn:n∈p.nodes) {d:Int} (hd:d∈DT p n.id):FC p (-d)=precD (DT p n.id) d/\d∈Bj p/\KR p d=n.id:=by
 obtain ⟨h1,h2⟩:=h.fU ((h.NI hn).subset hd);obtain ⟨n',hn',e,hm,hx⟩:=h.o8 (Vm h1);rw [OX] at e hm hx;exact ⟨by rw [hx,e,h2],h1,h2⟩
theorem Valid.ak8 {d:Int} (hd:d∈Bj p):CW p p.AQ.length (FC p d)=CW p p.AQ.length d :=
 h.aeK (k:=0) (BX _) (Cj _) (h.as2 hd)
theorem Valid.as8 {k:Nat} (hk:k<p.AQ.length) (ht:¬ Qh p k p.AQ[k]):CW p p.AQ.length p.AQ[k].id=CW p p.AQ.length (-p.AQ[k].id):=by
 refine h.aeK (k:=k+1) AA (Cj _) ?_;rw [ab2 hk,AX ht];unfold mrg;rw [AZ rfl];split<;>rfl
theorem Valid.as9 {k:Nat} (hk:k<p.AQ.length):CW p p.AQ.length p.AQ[k].id=CW p p.AQ.length (-p.AQ[k].id):=by
 obtain ⟨S,hS⟩:=BI (CW p p.AQ.length);have hnx:=fun {d} (hd:d∈Bj p)=>h.ak8 hd;have har:=fun {k} (hk:k<p.AQ.length) ht=>h.as8 (k:=k) hk ht;rw [hS] at hnx har ⊢;obtain ⟨f,hf⟩:∃ f:Int->Int,f=fun d=>if S d=S p.AQ[k].id then 1 else 0:=⟨_,rfl⟩;have hfn:∀ d∈Bj p,f (FC p d)=f d:=fun d hd=>by rw [hf];simp only [hnx hd]
 have hcl:GR p (fun i=>f i-f (-i)):=by
  intro n hn
  show bdC p (fun i=>f i-f (-i)) n.id=0
  have hb:=h.as7 (fun i=>f i-f (-i)) n.id;have hp:=h.NI hn;have e1:((Dn p.AQ n.id).map fun d=>zD (fun i=>f i-f (-i)) d).sum=((DT p n.id).map fun d=>f d + -f (precD (DT p n.id) d)).sum:=by
   rw [ab4 (hp.symm.map _)];refine IB _ _ _ fun d hd=>?_;obtain ⟨g1,g2,-⟩:=h.ak7 hn hd;rw [<- g1,hfn _ (Vm g2)];unfold zD;by_cases h0:0<d
   · rw [AZ h0];show f d-f (-d)=_;omega
   · rw [AX h0];show -(f (-d)-f (- -d))=_;rw [OX];omega
  rw [e1,RQ,U2,as6 (h.bJ hn) f] at hb;omega
 have h0:=h.ak5 hcl (fun j hj ht=>by
  show f _-f _=0
  rw [hf];simp only [har hj ht];omega) p.AQ.length (Cj _) (fun j hj hle=>AA) k hk
 have h1:f p.AQ[k].id=1:=by rw [hf];exact AZ rfl
 have h2:f (-p.AQ[k].id)=1:=by
  have h0':f p.AQ[k].id-f (-p.AQ[k].id)=0:=h0;omega
 rw [hf] at h2;have h2':(if S (-p.AQ[k].id)=S p.AQ[k].id then (1:Int) else 0)=1:=h2;split at h2'
 · rename_i e;exact e.symm
 · omega
theorem Valid.Vq {d:Int} (hd:d∈Bj p):CW p p.AQ.length (-d)=CW p p.AQ.length d:=by
 obtain ⟨a,ha,e⟩:=J9.1 hd;obtain ⟨k,hk,rfl⟩:=EF.1 ha;have:=h.as9 hk
 rcases e with rfl | rfl
 · exact this.symm
 · rw [OX];exact this
theorem Valid.aeL {n:Nd} (hn:n∈p.nodes) {d e:Int} (hd:d∈DT p n.id) (he:e∈DT p n.id):CW p p.AQ.length d=CW p p.AQ.length e:=by
 have key:∀ i (hi:i<(DT p n.id).length),CW p p.AQ.length (DT p n.id)[i]=CW p p.AQ.length ((DT p n.id)[0]'(by omega)):=by
  intro i
  induction i with
  | zero=>intro _;rfl
  | succ i ih =>
   intro hi;rw [<- ih AA];obtain ⟨g1,g2,-⟩:=h.ak7 hn (BO hi);have hm:(i+1+(DT p n.id).length-1) % (DT p n.id).length=i:=by
    rw [show i+1+(DT p n.id).length-1=i+(DT p n.id).length by omega,yN];exact WA AA
   have e1:precD (DT p n.id) (DT p n.id)[i+1]=(DT p n.id)[i]:=by
    rw [fQ (h.bJ hn) hi];congr 1
   rw [<- e1,<- g1,h.ak8 (Vm g2),h.Vq g2]
 obtain ⟨i,hi,rfl⟩:=EF.1 hd;obtain ⟨j,hj,rfl⟩:=EF.1 he;rw [key i hi,key j hj]
end
section
variable {p:Pl} (h:Valid p)
include h
end
def xN (a b:Pt) (τ:Int):Int:=a.x*(2*hY b-τ)+b.x*(τ-2*hY a)
def Ef (τ:Int) (a b:Pt):Int:=(if τ<2*hY b then 1 else 0)-(if τ<2*hY a then 1 else 0)
def wR (s t:Pt) (τ:Int) (v:Pt):Int:=if hY s<hY v/\2*hY v<τ/\tw s t v<0 then 1 else 0
def dX (a b s t:Pt) (τ:Int):Int:=xN a b τ*(hY t-hY s)-xN s t τ*(hY b-hY a)
theorem asA (a b:Pt) (τ:Int):xN b a τ=-xN a b τ:=by unfold xN;grind
theorem ak9 (a b s t:Pt):dX a b s t (2*hY s)=16777216*(hY t-hY s)*tw a b s:=by unfold dX xN tw hY;grind
theorem ajL (a b s t:Pt):dX a b s t (2*hY t)=16777216*(hY t-hY s)*tw a b t:=by unfold dX xN tw hY;grind
theorem ajM (a b s t:Pt):dX a b s t (2*hY a)=-(16777216*(hY b-hY a)*tw s t a):=by unfold dX xN tw hY;grind
theorem ajN (a b s t:Pt):dX a b s t (2*hY b)=-(16777216*(hY b-hY a)*tw s t b):=by unfold dX xN tw hY;grind
theorem aeM (a b s t:Pt) (α τ β:Int):dX a b s t τ*(β-α)=dX a b s t α*(β-τ)+dX a b s t β*(τ-α):=by
 unfold dX xN;generalize hY a=A;generalize hY b=B;generalize hY s=S;generalize hY t=T
 grind
theorem asB {x y z p q:Int} (hp:0<p) (hq:0<q) (e:z*(p+q)=x*p+y*q) :
  (0<x->0<=y->0<z)/\(0<=x->0<y->0<z)/\(x<=0->y<=0->¬ 0<z):=by
 refine ⟨fun h1 h2=>?_,fun h1 h2=>?_,fun h1 h2 h3=>?_⟩
 ·have a1:=Ji h1 hp;have a2:=KY h2 (dW hq);apply OY;intro h3;have:=KY (show 0<=-z by omega) (show 0<=p+q by omega)
  rw [SA] at this;omega
 ·have a1:=KY h1 (dW hp);have a2:=Ji h2 hq;apply OY;intro h3;have:=KY (show 0<=-z by omega) (show 0<=p+q by omega)
  rw [SA] at this;omega
 ·have a1:=KY (show 0<=-x by omega) (dW hp);have a2:=KY (show 0<=-y by omega) (dW hq);have a3:=Ji h3 (show 0<p+q by omega);rw [SA] at a1 a2;omega
theorem ab5 {c:Int} (hc:0<c) (u:Int):(0<16777216*c*u↔0<u)/\(0<=16777216*c*u↔0<=u)/\(16777216*c*u<=0↔u<=0):=by
 have h:0<16777216*c:=AA
 generalize 16777216*c=k at *;rcases Iw u 0 with h1 | h1 | h1
 · have:=WE h h1;omega
 · subst h1;simp
 · have:=Ji h h1;omega
theorem asC {a b s t:Pt} {α τ β:Int} (h1:α<τ) (h2:τ<β) :
  (0<dX a b s t α->0<=dX a b s t β->0<dX a b s t τ)/\(0<=dX a b s t α->0<dX a b s t β->0<dX a b s t τ)/\(dX a b s t α<=0->dX a b s t β<=0->¬ 0<dX a b s t τ):=by
 have:=aeM a b s t α τ β
 rw [show β-α=(β-τ)+(τ-α) by omega] at this;exact asB AA AA this
theorem gG {x y D:Int} (b:(0<x->0<=y->0<D)/\(0<=x->0<y->0<D)/\(x<=0->y<=0->¬ 0<D)) {P:Prop} (h:(P->0<x/\0<=y)\/(P->0<=x/\0<y)) (h2:¬ P->x<=0/\y<=0):0<D↔P:=by
 by_cases hp:P
 ·refine ⟨fun _=>hp,fun _=>?_⟩;rcases h with h | h
  · exact b.1 (h hp).1 (h hp).2
  · exact b.2.1 (h hp).1 (h hp).2
 · exact ⟨fun hd=>absurd hd (b.2.2 (h2 hp).1 (h2 hp).2),fun h=>absurd h hp⟩
theorem arJ {A B S T τ D:Int} {P1 P3 P4:Prop} [Decidable P1] [Decidable P3] [Decidable P4] (hab:A<B) (hA:2*A≠τ) (hB:2*B≠τ) (h1:2*S<τ) (h2:τ<2*T)
  (key1:A<S->τ<2*B->(0<D↔P1)) (key2:A=S->τ<2*B->(0<D↔P4)) (arK:S<A->2*A<τ->τ<2*B->(0<D↔P3))
  (g1:A<S->S<B->B<T->(P1↔P4)) (g3:S<A->B<T->(P3↔P4)) :
  (if 2*A<τ/\τ<2*B/\0<D then (1:Int) else 0)=(if A<S/\S<B/\P1 then 1 else 0)+(if A=S/\P4 then 1 else 0)-0+((if S<A/\2*A<τ/\P3 then 1 else 0)-(if S<B/\2*B<τ/\P4 then 1 else 0)):=by
 rcases Iw A S with c1 | c1 | c1
 ·have e1:¬ A=S:=AA
  have e2:¬ S<A:=AA
  have e3:2*A<τ:=AA
  simp only [e1,e2,e3,c1,true_and,false_and,if_false];by_cases c2:2*B<τ
  ·have e4:¬ τ<2*B:=AA
   simp only [c2,e4,true_and,false_and,if_false];by_cases c3:S<B
   ·have:=g1 c1 c3 AA
    simp only [c3,this,true_and];omega
   · simp only [c3,false_and,if_false];rfl
  ·have e4:τ<2*B:=AA
   have e5:S<B:=AA
   have:=key1 c1 e4
   simp only [c2,e4,e5,this,true_and,false_and,and_false,if_false];omega
 ·have e1:¬ A<S:=AA
  have e2:¬ S<A:=AA
  have e3:2*A<τ:=AA
  have e5:S<B:=AA
  simp only [c1,e1,e2,e3,e5,Int.lt_irrefl,true_and,false_and,if_false,h1];by_cases c2:2*B<τ
  ·have e4:¬ τ<2*B:=AA
   simp only [c2,e4,true_and,false_and,if_false];omega
  ·have e4:τ<2*B:=AA
   have:=key2 c1 e4
   simp only [c2,e4,this,true_and,false_and,if_false];omega
 ·have e1:¬ A<S:=AA
  have e2:¬ A=S:=AA
  have e5:S<B:=AA
  simp only [e1,e2,c1,e5,true_and,false_and,if_false];by_cases c3:2*A<τ
  ·by_cases c2:2*B<τ
   ·have e4:¬ τ<2*B:=AA
    have:=g3 c1 AA
    simp only [c2,c3,e4,this,true_and,false_and,if_false];omega
   ·have e4:τ<2*B:=AA
    have:=arK c1 c3 e4
    simp only [c2,c3,e4,this,true_and,false_and,if_false];omega
  ·have e4:¬ 2*B<τ:=AA
   simp only [c3,e4,false_and,if_false];rfl
theorem arL {a b s t:Pt} (na:CJ a=true) (nb:CJ b=true) (ns:CJ s=true) (nt:CJ t=true) (hab:hY a<hY b) (hst:hY s<hY t)
  (hno:a≠s->a≠t->b≠s->b≠t->Me a b s t) {τ:Int} (hA:2*hY a≠τ) (hB:2*hY b≠τ) (h1:2*hY s<τ) (h2:τ<2*hY t) :
  (if 2*hY a<τ/\τ<2*hY b/\0<dX a b s t τ then 1 else 0)=PY s t a b+(wR s t τ a-wR s t τ b):=by
 have d1:=oH ns nb nt;have d2:=oH ns na nt;have q:∀ {u v:Pt},CJ u=true->CJ v=true->(u=v↔hY u=hY v):=fun hu hv=>⟨fun e=>by rw [e],Md hu hv⟩;have e1:tw s b t=-tw s t b:=ajl s t b;have f1:hY a=hY s->tw a b s=0/\tw s t a=0:=fun h=>by
  have:=Md na ns h
  subst this;exact ⟨Xv a b,Xv a t⟩
 have f2:hY b=hY t->tw a b t=0/\tw s t b=0:=fun h=>by
  have:=Md nb nt h
  subst this;exact ⟨Xw a b,Xw s b⟩
 have f3:hY a≠hY s->hY a≠hY t->hY b≠hY s->hY b≠hY t->_:=fun h1 h2 h3 h4=>ajn (s:=s) (t:=t) hab hst (hno (fun e=>h1 RD) (fun e=>h2 RD) (fun e=>h3 RD) (fun e=>h4 RD));have k1:(a=s/\Ea s b t)↔(hY a=hY s/\tw s t b<0):=by rw [d1,q na ns,e1];constructor<;>(rintro ⟨h1,h2⟩;exact ⟨h1,AA⟩)
 have k2:¬ (b=s/\Ea s a t):=by rw [d2,q nb ns];rintro ⟨h1,h2⟩;omega
 have m1:NP a b s=if hY a<hY s/\hY s<hY b/\0<tw a b s then 1 else 0:=by unfold NP;rw [AX (show ¬ (hY b<hY s/\hY s<hY a/\0<tw b a s) by omega)]
 have gS:=ak9 a b s t;have gT:=ajL a b s t;have gA:=ajM a b s t;have gB:=ajN a b s t;have bw:=fun (α β:Int) (g1:α<τ) (g2:τ<β)=>asC (a:=a) (b:=b) (s:=s) (t:=t) g1 g2;unfold PY;rw [m1,AX k2];simp only [k1];unfold wR;have sS:=ab5 (show 0<hY t-hY s by omega) (tw a b s);have sT:=ab5 (show 0<hY t-hY s by omega) (tw a b t);have sA:=ab5 (show 0<hY b-hY a by omega) (tw s t a);have sB:=ab5 (show 0<hY b-hY a by omega) (tw s t b);have JG:=bw (2*hY s) (2*hY b);have bQ:=bw (2*hY s) (2*hY t);have Ej:=bw (2*hY a) (2*hY b);have bU:=bw (2*hY a) (2*hY t);rw [gS,gB] at JG;rw [gS,gT] at bQ;rw [gA,gB] at Ej;rw [gA,gT] at bU;clear hno d1 d2 e1 q na nb ns nt k1 k2 m1 gS gT gA gB bw;generalize dX a b s t τ=D at *;generalize 16777216*(hY t-hY s)*tw a b s=vS at *;generalize 16777216*(hY t-hY s)*tw a b t=vT at *;generalize 16777216*(hY b-hY a)*tw s t a=vA at *;generalize 16777216*(hY b-hY a)*tw s t b=vB at *;generalize tw a b s=u1 at *;generalize tw a b t=u2 at *;generalize tw s t a=u3 at *;generalize tw s t b=u4 at *;generalize hY a=A at *;generalize hY b=B at *;generalize hY s=S at *;generalize hY t=T at *;refine arJ hab hA hB h1 h2 (fun c1 c2=>?_) (fun c1 c2=>?_) (fun c1 c3 c2=>?_) (fun c1 c2 c3=>?_) (fun c1 c2=>?_)
 ·rcases Iw B T with c4 | c4 | c4
  ·have f3:=(f3 AA AA AA AA).1 c1 AA c4;clear f1 f2 Ej bU bQ sA sT;exact gG (JG h1 c2) (.inl fun hp=>⟨sS.1.2 hp,AA⟩) (fun hp=>⟨AA,AA⟩)
  ·obtain ⟨g1,g2⟩:=f2 c4;clear f1 f2 f3 Ej bU JG sA sB;exact gG (bQ h1 h2) (.inl fun hp=>⟨sS.1.2 hp,AA⟩) (fun hp=>⟨AA,AA⟩)
  ·have f3:=(f3 AA AA AA AA).2.1 c1 c4;clear f1 f2 Ej bU JG sA sB;exact gG (bQ h1 h2) (.inl fun hp=>⟨sS.1.2 hp,AA⟩) (fun hp=>⟨AA,AA⟩)
 ·obtain ⟨g1,g2⟩:=f1 c1;clear f1 f2 f3 Ej bU bQ sA sT;exact gG (JG h1 c2) (.inr fun hp=>⟨AA,AA⟩) (fun hp=>⟨AA,AA⟩)
 ·rcases Iw B T with c4 | c4 | c4
  ·have f3:=(f3 AA AA AA AA).2.2.1 c1 c4;clear f1 f2 bQ bU JG sS sT;exact gG (Ej c3 c2) (.inl fun hp=>⟨AA,AA⟩) (fun hp=>⟨AA,AA⟩)
  ·obtain ⟨g1,g2⟩:=f2 c4;clear f1 f2 f3 bQ bU JG sS sT;exact gG (Ej c3 c2) (.inl fun hp=>⟨AA,AA⟩) (fun hp=>⟨AA,AA⟩)
  ·have f3:=(f3 AA AA AA AA).2.2.2 c1 AA c4;clear f1 f2 bQ Ej JG sS sB;exact gG (bU c3 h2) (.inl fun hp=>⟨AA,AA⟩) (fun hp=>⟨AA,AA⟩)
 · exact (f3 AA AA AA AA).1 c1 c2 c3
 · exact (f3 AA AA AA AA).2.2.1 c1 c2
