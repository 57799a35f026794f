import Derived.Test.YtialfdomhoojiaaGreatJ02
import Derived.Test.YtialfdomhoojiaaGreatGE
set_option linter.unusedSimpArgs false
set_option linter.unusedVariables false
namespace Go.Proofs.YtialfdomhoojiaaGreat
theorem UY (a:Int):0<=a*a:=by
 rcases Int.le_total 0 a with h | h
 · exact Int.mul_nonneg h h
 · exact Int.mul_nonneg_of_nonpos_of_nonpos h h
theorem ace {a b:Int}:a*b<=0↔(0<=a/\b<=0)\/(a<=0/\0<=b):=by
 constructor
 ·intro h;by_cases ha:a=0
  · omega
  by_cases hp:0<a
  ·left;refine ⟨by omega,?_⟩;by_cases hb:0<b
   · have:=Int.mul_pos hp hb;omega
   · omega
  ·right;refine ⟨by omega,?_⟩;by_cases hb:b<0
   · have:=Int.mul_pos_of_neg_of_neg (show a<0 by omega) hb;omega
   · omega
 ·rintro (⟨ha,hb⟩ | ⟨ha,hb⟩)
  · exact Int.mul_nonpos_of_nonneg_of_nonpos ha hb
  · exact Int.mul_nonpos_of_nonpos_of_nonneg ha hb
theorem Jp {p a b:Int}:(p-a)*(p-b)<=0↔min a b<=p/\p<=max a b:=by
 rw [ace];omega
theorem acf {ux uy vx vy:Int} (hc:ux*vy=uy*vx):ux*vx+uy*vy<=0↔ux*vx<=0/\uy*vy<=0:=by
 constructor
 ·intro h;have hp:0<=(ux*vx)*(uy*vy):=by
   have e:(ux*vx)*(uy*vy)=(ux*vy)*(ux*vy):=by grind
   rw [e];exact UY _
  by_cases h1:0<ux*vx
  · have:=Int.mul_neg_of_pos_of_neg h1 (show uy*vy<0 by omega);omega
  ·by_cases h2:0<uy*vy
   · have:=Int.mul_neg_of_neg_of_pos (show ux*vx<0 by omega) h2;omega
   · omega
 · omega
theorem parallel {ux uy vx vy wx wy:Int} (h:¬ (ux=0/\uy=0)) (h1:ux*vy-uy*vx=0) (h2:ux*wy-uy*wx=0):vx*wy-vy*wx=0:=by
 have e1:ux*(vx*wy-vy*wx)=0:=by grind
 have e2:uy*(vx*wy-vy*wx)=0:=by grind
 rcases Int.mul_eq_zero.1 e1 with h3 | h3
 ·rcases Int.mul_eq_zero.1 e2 with h4 | h4
  · exact absurd ⟨h3,h4⟩ h
  · exact h4
 · exact h3
theorem Ob (a b p:Pt):dV a b p=ql a b p:=by
 unfold dV ql
 cases dU [a,b,p]
 · rfl
 have hc:aC a b a p=tw a b p:=rfl;rw [hc];by_cases h:tw a b p=0
 ·simp only [h,decide_true,Bool.true_and,Bool.and_assoc];rw [Bool.eq_iff_iff];simp only [Bool.and_eq_true,decide_eq_true_eq];unfold Fz;rw [acf (by unfold tw at h;grind),Jp,Jp];omega
 · simp [h]
theorem kF (a b:Pt):bn a b=true↔a.x<b.x\/(a.x=b.x/\a.y<b.y):=by simp [bn]
theorem DI (a:Pt):bn a a=false:=by rw [<- Bool.not_eq_true,kF];omega
theorem l9 {a b:Pt} (h:bn a b=true):bn b a=false:=by
 rw [<- Bool.not_eq_true,kF];rw [kF] at h;omega
theorem DJ {a b:Pt} (h:bn a b=false) (h':bn b a=false):a=b:=by
 rw [<- Bool.not_eq_true,kF] at h h';rw [Pt.ext_iff'];omega
def lo (a b:Pt):Pt:=if bn b a then b else a
def hi (a b:Pt):Pt:=if bn b a then a else b
theorem Oc (a b:Pt):lo a b=lo b a:=by
 unfold lo
 cases h:bn b a<;>cases h':bn a b<;>simp
 · exact DJ h' h
 · exact absurd (l9 h) (by simp [h'])
theorem Jq (a b:Pt):hi a b=hi b a:=by
 unfold hi
 cases h:bn b a<;>cases h':bn a b<;>simp
 · exact (DJ h' h).symm
 · exact absurd (l9 h) (by simp [h'])
theorem wF (a b c d:Pt):kR a b c d=if hi (lo a b) (lo c d)=lo (hi a b) (hi c d) then 1 else if bn (hi (lo a b) (lo c d)) (lo (hi a b) (hi c d)) then 2 else 0:=by
 have e1:∀ p q:Pt,(if bn p q then q else p)=hi p q:=fun p q=>by
  unfold hi;cases h:bn q p<;>cases h':bn p q<;>simp
  · exact DJ h' h
  · exact absurd (l9 h) (by simp [h'])
 have e2:∀ p q:Pt,(if bn q p then q else p)=lo p q:=fun p q=>rfl;have e3:∀ p q:Pt,(if bn q p then p else q)=hi p q:=fun p q=>rfl;unfold kR;simp only [e2,e3,e1];rw [Jq (lo c d) (lo a b)]
theorem DK (a b c d:Pt):kR a b c d=kR c d a b:=by
 rw [wF a b c d,Jq (lo a b) (lo c d),Oc (hi a b) (hi c d),<- wF]
theorem Oe (a b c d:Pt):kR a b c d=kR b a c d:=by
 rw [wF,wF,Oc a b,Jq a b]
theorem wG (c d:Pt):(lo c d=c/\hi c d=d/\bn d c=false)\/(lo c d=d/\hi c d=c/\bn d c=true):=by
 unfold lo hi
 cases h:bn d c<;>simp
theorem acg (c d a:Pt) (hcd:c≠d) (h:tw c d a=0) :
  (min c.x d.x<=a.x/\a.x<=max c.x d.x/\min c.y d.y<=a.y/\a.y<=max c.y d.y)↔(bn a (lo c d)=false/\bn (hi c d) a=false):=by
 have hne:¬ (c.x=d.x/\c.y=d.y):=fun e=>hcd (Pt.ext_iff'.2 e);unfold tw at h;have hp:(a.x-c.x)*(a.y-d.y)=(a.y-c.y)*(a.x-d.x):=by grind
 have hs:0<=((a.x-c.x)*(a.x-d.x))*((a.y-c.y)*(a.y-d.y)):=by
  have e:((a.x-c.x)*(a.x-d.x))*((a.y-c.y)*(a.y-d.y))=((a.x-c.x)*(a.y-d.y))*((a.x-c.x)*(a.y-d.y)):=by grind
  rw [e];exact UY _
 have b1:(a.x-c.x)*(a.x-d.x)<=0↔min c.x d.x<=a.x/\a.x<=max c.x d.x:=Jp;have b2:(a.y-c.y)*(a.y-d.y)<=0↔min c.y d.y<=a.y/\a.y<=max c.y d.y:=Jp;have k1:a.x=c.x->(d.x-c.x)*(a.y-c.y)=0:=fun e=>by rw [e] at h;grind
 have k2:a.x=d.x->(d.x-c.x)*(a.y-d.y)=0:=fun e=>by rw [e] at h;grind
 have k3:(a.x-c.x)*(a.x-d.x)<0->(a.y-c.y)*(a.y-d.y)<=0:=fun e=>by
  by_cases hy:0<(a.y-c.y)*(a.y-d.y)
  · have:=Int.mul_neg_of_neg_of_pos e hy;omega
  · omega
 rw [<- Bool.not_eq_true,<- Bool.not_eq_true,kF,kF];by_cases hx:c.x=d.x
 ·have hax:a.x=c.x\/¬ a.x=c.x:=Classical.em _;have hz:a.x=c.x:=by
   have:(d.y-c.y)*(a.x-c.x)=0:=by rw [hx] at h ⊢;grind
   rcases Int.mul_eq_zero.1 this with e | e
   · exact absurd ⟨hx,by omega⟩ hne
   · omega
  have hl:=wG c d;rcases hl with ⟨e1,e2,e3⟩ | ⟨e1,e2,e3⟩<;>rw [e1,e2]
  · rw [<- Bool.not_eq_true,kF] at e3;omega
  · rw [kF] at e3;omega
 ·have k1':a.x=c.x->a.y=c.y:=fun e=>by
   rcases Int.mul_eq_zero.1 (k1 e) with f | f<;>omega
  have k2':a.x=d.x->a.y=d.y:=fun e=>by
   rcases Int.mul_eq_zero.1 (k2 e) with f | f<;>omega
  have k3':(min c.x d.x<a.x/\a.x<max c.x d.x)->min c.y d.y<=a.y/\a.y<=max c.y d.y:=fun e=>by
   refine b2.1 (k3 ?_);rcases Int.lt_or_gt_of_ne hx with f | f
   · exact Int.mul_neg_of_pos_of_neg (by omega) (by omega)
   · exact Int.mul_neg_of_neg_of_pos (by omega) (by omega)
  have hl:=wG c d;clear h hp hs b1 b2 k1 k2 k3;rcases hl with ⟨e1,e2,e3⟩ | ⟨e1,e2,e3⟩<;>rw [e1,e2]
  · rw [<- Bool.not_eq_true,kF] at e3;omega
  · rw [kF] at e3;omega
theorem UZ (c d a:Pt) (hcd:c≠d) (h:tw c d a=0):kR a a c d=if (min c.x d.x<=a.x/\a.x<=max c.x d.x/\min c.y d.y<=a.y/\a.y<=max c.y d.y) then 1 else 0:=by
 have hl:lo a a=a:=by simp [lo]
 have hh:hi a a=a:=by simp [hi]
 have hb:=acg c d a hcd h;rw [wF,hl,hh];generalize hC:lo c d=C at *;generalize hD:hi c d=D at *;have hCD:bn D C=false:=by
  rcases wG c d with ⟨e1,e2,e3⟩ | ⟨e1,e2,e3⟩<;>rw [<- hC,<- hD,e1,e2]
  · exact e3
  · exact l9 e3
 by_cases hin:bn a C=false/\bn D a=false
 ·rw [if_pos (hb.2 hin)];have e1:hi a C=a:=by
   unfold hi;cases h':bn C a<;>simp;exact (DJ hin.1 h').symm
  have e2:lo a D=a:=by unfold lo;rw [hin.2];rfl
  rw [e1,e2];simp
 ·rw [if_neg (fun e=>hin (hb.1 e))]
  cases h1:bn a C
  ·have h2:bn D a=true:=by simpa [h1] using hin
   have e2:lo a D=D:=by unfold lo;rw [h2];rfl
   have e1:hi a C=a:=by
    unfold hi;cases h':bn C a<;>simp;exact (DJ h1 h').symm
   rw [e1,e2,if_neg (fun e=>by rw [e,DI] at h2;cases h2),l9 h2];rfl
  ·have e1:hi a C=C:=by unfold hi;rw [l9 h1];rfl
   have h2:bn D a=false:=by
    rw [<- Bool.not_eq_true,kF] at hCD ⊢;rw [kF] at h1;omega
   have e2:lo a D=a:=by unfold lo;rw [h2];rfl
   rw [e1,e2,if_neg (fun e=>by rw [e,DI] at h1;cases h1),l9 h1];rfl
theorem Pt.U0 {a b:Pt} (h:a≠b):¬ (b.x-a.x=0/\b.y-a.y=0):=fun e=>h (Pt.ext_iff'.2 ⟨by omega,by omega⟩)
theorem U1 {a b c:Pt} (h:dU [a,b,c]=true):bC a b c=0↔tw a b c=0:=by
 unfold bC jF;rw [if_pos h];split
 · omega
 · split<;>omega
theorem U2 {a b c d e f:Pt} (h1:dU [a,b,c]=true) (h2:dU [d,e,f]=true):bC a b c*bC d e f<=0↔(0<=tw a b c/\tw d e f<=0)\/(tw a b c<=0/\0<=tw d e f):=by
 unfold bC jF;rw [if_pos h1,if_pos h2];generalize tw a b c=p;generalize tw d e f=q;split<;>split<;>(try split)<;>(try split)<;>simp<;>omega
theorem FQ (a b c d:Pt):iK a b c d=gV a b c d:=by
 unfold iK gV;by_cases hn:dU [a,b,c,d]=true
 case neg => rw [if_neg hn,if_neg hn]
 rw [if_pos hn,if_pos hn];have hn':dI a=true/\dI b=true/\dI c=true/\dI d=true:=by simpa [dU] using hn
 obtain ⟨na,nb,nc,nd⟩:=hn';have nn:∀ p q r:Pt,dI p=true->dI q=true->dI r=true->dU [p,q,r]=true:=fun p q r h1 h2 h3=>by simp [dU,h1,h2,h3]
 unfold uV;by_cases hab:a=b
 ·subst hab;rw [if_pos rfl];have c0:aC a a c d=0:=by unfold aC;grind
  have c1:aC a a a c=0:=by unfold aC;grind
  have c2:aC a a a d=0:=by unfold aC;grind
  by_cases hcd:c=d
  ·subst hcd;have hon:dV c c a=decide (a=c):=by
    unfold dV tw;rw [nn c c a nc nc na,Bool.eq_iff_iff];simp only [Bool.and_eq_true,decide_eq_true_eq,Bool.true_and,Pt.ext_iff']
    grind
   rw [hon];by_cases hac:a=c
   ·subst hac;have hl:lo a a=a:=by simp [lo]
    have hh:hi a a=a:=by simp [hi]
    have:kR a a a a=1:=by rw [wF,hl,hh,hl];simp
    simp [c0,this]
   · simp [hac]
  ·rw [if_neg (show ¬ (a=a/\c=d/\¬ a=c) from fun e=>hcd e.2.1),if_pos c0];have ct:aC c d c a=tw c d a:=rfl;unfold dV;rw [nn c d a nc nd na];by_cases ht:tw c d a=0
   ·rw [if_pos (show aC a a a c=0/\aC a a a d=0/\aC c d c a=0/\aC c d c a=0 from ⟨c1,c2,ht,ht⟩),UZ c d a hcd ht];simp only [ht,decide_true,Bool.true_and,Bool.and_eq_true,decide_eq_true_eq,and_assoc]
   ·rw [if_neg (show ¬ (aC a a a c=0/\aC a a a d=0/\aC c d c a=0/\aC c d c a=0) from fun e=>ht e.2.2.1)];simp [ht]
 rw [if_neg hab];by_cases hcd:c=d
 ·subst hcd;rw [if_pos rfl];have c0:aC a b c c=0:=by unfold aC;grind
  have c1:aC c c c a=0:=by unfold aC;grind
  have c2:aC c c c b=0:=by unfold aC;grind
  rw [if_neg (show ¬ (a=b/\c=c/\¬ a=c) from fun e=>hab e.1),if_pos c0];unfold dV;rw [nn a b c na nb nc];have ct:aC a b a c=tw a b c:=rfl;by_cases ht:tw a b c=0
  ·rw [if_pos (show aC a b a c=0/\aC a b a c=0/\aC c c c a=0/\aC c c c b=0 from ⟨ht,ht,c1,c2⟩),DK,UZ a b c hab ht];simp only [ht,decide_true,Bool.true_and,Bool.and_eq_true,decide_eq_true_eq,and_assoc]
  ·rw [if_neg (show ¬ (aC a b a c=0/\aC a b a c=0/\aC c c c a=0/\aC c c c b=0) from fun e=>ht e.1)];simp [ht]
 rw [if_neg hcd,if_neg (show ¬ (a=b/\c=d/\¬ a=c) from fun e=>hab e.1)];have e1:aC a b a c=tw a b c:=rfl;have e2:aC a b a d=tw a b d:=rfl;have e0:aC a b c d=tw a b d-tw a b c:=by unfold aC tw;grind
 have es:aC a c c d=tw c d a:=by unfold aC tw;grind
 have es2:tw c d b=tw c d a-aC a b c d:=by unfold aC tw;grind
 have et:aC a c a b=- tw a b c:=by unfold aC tw;grind
 simp only [U1 (nn a b c na nb nc),U1 (nn a b d na nb nd)];by_cases hz:tw a b c=0/\tw a b d=0
 ·obtain ⟨z1,z2⟩:=hz;have p1:aC c d c a=0:=by
   unfold aC;refine parallel (Pt.U0 hab) ?_ ?_
   · unfold tw at z1 z2;grind
   · unfold tw at z1 z2;grind
  have p2:aC c d c b=0:=by
   unfold aC;refine parallel (Pt.U0 hab) ?_ ?_
   · unfold tw at z1 z2;grind
   · unfold tw at z1 z2;grind
  rw [if_pos (show tw a b c=0/\tw a b d=0 from ⟨z1,z2⟩),if_pos (show aC a b c d=0 by rw [e0,z1,z2];rfl),if_pos (show aC a b a c=0/\aC a b a d=0/\aC c d c a=0/\aC c d c b=0 from ⟨z1,z2,p1,p2⟩)]
 ·rw [if_neg hz];simp only [U2 (nn a b c na nb nc) (nn a b d na nb nd),U2 (nn c d a nc nd na) (nn c d b nc nd nb),es2,et,es];generalize aC a b c d=n at *;generalize tw c d a=s at *;by_cases hn0:n=0
  ·rw [if_pos hn0,if_neg (show ¬ (aC a b a c=0/\aC a b a d=0/\aC c d c a=0/\aC c d c b=0) from fun e=>hz ⟨e.1,e.2.1⟩),if_neg];omega
  ·rw [if_neg hn0];by_cases hneg:n<0
   ·rw [if_pos hneg];have:(((0<=tw a b c/\tw a b d<=0\/tw a b c<=0/\0<=tw a b d)/\(0<=s/\s-n<=0\/s<=0/\0<=s-n))↔(0<=-s/\-s<=-n/\0<=- -tw a b c/\- -tw a b c<=-n)):=by omega
    simp only [this]
   ·rw [if_neg hneg];have:(((0<=tw a b c/\tw a b d<=0\/tw a b c<=0/\0<=tw a b d)/\(0<=s/\s-n<=0\/s<=0/\0<=s-n))↔(0<=s/\s<=n/\0<=-tw a b c/\-tw a b c<=n)):=by omega
    simp only [this]
open Go.RowKit
structure Sg where
 arc:Ar
 i:Nat
 n:Nat
 a:Pt
 b:Pt
structure SV where
 a:Option Addr
 n:Nat
 c:Nat
def sgC (s:Sg×SV):List Value:=[.int .i64 s.1.arc.id,.int .i64 s.1.arc.fr,.int .i64 s.1.arc.dst,.slice s.2.a s.2.n s.2.c,.int .i64 s.1.arc.left,.int .i64 s.1.arc.right,.int .i64 s.1.i,.int .i64 s.1.n,.int .i64 s.1.a.x,.int .i64 s.1.a.y,.int .i64 s.1.b.x,.int .i64 s.1.b.y]
def FT (a:Ar) (id:Int):Bool:=a.fr == id || a.dst == id
def FU (s t:Sg):Bool:=if t.i=s.i+1\/(s.i=0/\t.i+1=t.n/\s.arc.fr=s.arc.dst) then gV s.a s.b t.a t.b == 1 else gV s.a s.b t.a t.b == 0
end Go.Proofs.YtialfdomhoojiaaGreat
